/-
  Lists of parts among the arguments.
-/
import Derived.Test.YtffocfffggfenaaGtPlain2ToChPlain
import Derived.Test.YtffocfffggfenaaEng11ToEng6
import Derived.Test.YtffocfffggfenaaCpFacts
namespace Go.Proofs.Cp
open Go Go.Eng Go.Qu Go.ChangeShapes Go.WideShapes Go.RowKit
theorem cell55 : Try.prog.cellsOf 55 = 5 := by kernel_rfl
theorem cell3 : Try.prog.cellsOf 3 = 1 := by kernel_rfl
theorem cell4 : Try.prog.cellsOf 4 = 1 := by kernel_rfl
theorem el57 {H : Type} {enc : TypeId × Value → H} {W : World} (cl : List Value) (fuel : Nat) (y : DataW H × List MemPlace) (hl0 : cl.length = 7) (hf : DataW.trod enc Try.prog W 0 (fun _ => true) true fuel 57 cl = some y) : ∃ x, cl = ptv x ∧ Pt.rng x := by
  obtain ⟨z0, l1, rfl, hl1⟩ := listS hl0
  obtain ⟨z1, l2, rfl, hl2⟩ := listS hl1
  obtain ⟨z2, l3, rfl, hl3⟩ := listS hl2
  obtain ⟨z3, l4, rfl, hl4⟩ := listS hl3
  obtain ⟨z4, l5, rfl, hl5⟩ := listS hl4
  obtain ⟨z5, l6, rfl, hl6⟩ := listS hl5
  obtain ⟨z6, l7, rfl, hl7⟩ := listS hl6
  obtain rfl := list0 hl7
  obtain ⟨_, hs1⟩ := op_struct Try.underlying57 hf
  obtain ⟨m2, y3, hj4⟩ := hs1 0 _ rfl
  have hj4 : DataW.trod enc Try.prog W 0 (fun _ => true) true m2 55 ((([z0, z1, z2, z3, z4, z5, z6] : List Value).drop 0).take (Try.prog.cellsOf 55)) = some y3 := hj4
  rw [cell55] at hj4
  replace hj4 : DataW.trod enc Try.prog W 0 (fun _ => true) true m2 55 [z0, z1, z2, z3, z4] = some y3 := hj4
  obtain ⟨_, hs5⟩ := op_struct Try.underlying55 hj4
  obtain ⟨m6, y7, hj8⟩ := hs5 0 _ rfl
  have hj8 : DataW.trod enc Try.prog W 0 (fun _ => true) true m6 3 ((([z0, z1, z2, z3, z4] : List Value).drop 0).take (Try.prog.cellsOf 3)) = some y7 := hj8
  rw [cell3] at hj8
  replace hj8 : DataW.trod enc Try.prog W 0 (fun _ => true) true m6 3 [z0] = some y7 := hj8
  obtain ⟨x9, e10, rx9⟩ := op_int Try.underlying3 hj8
  have e10 : [z0] = _ := e10
  cases e10
  obtain ⟨m11, y12, hj13⟩ := hs5 1 _ rfl
  have hj13 : DataW.trod enc Try.prog W 0 (fun _ => true) true m11 3 ((([.int .i64 x9, z1, z2, z3, z4] : List Value).drop 1).take (Try.prog.cellsOf 3)) = some y12 := hj13
  rw [cell3] at hj13
  replace hj13 : DataW.trod enc Try.prog W 0 (fun _ => true) true m11 3 [z1] = some y12 := hj13
  obtain ⟨x14, e15, rx14⟩ := op_int Try.underlying3 hj13
  have e15 : [z1] = _ := e15
  cases e15
  obtain ⟨m16, y17, hj18⟩ := hs5 2 _ rfl
  have hj18 : DataW.trod enc Try.prog W 0 (fun _ => true) true m16 3 ((([.int .i64 x9, .int .i64 x14, z2, z3, z4] : List Value).drop 2).take (Try.prog.cellsOf 3)) = some y17 := hj18
  rw [cell3] at hj18
  replace hj18 : DataW.trod enc Try.prog W 0 (fun _ => true) true m16 3 [z2] = some y17 := hj18
  obtain ⟨x19, e20, rx19⟩ := op_int Try.underlying3 hj18
  have e20 : [z2] = _ := e20
  cases e20
  obtain ⟨m21, y22, hj23⟩ := hs5 3 _ rfl
  have hj23 : DataW.trod enc Try.prog W 0 (fun _ => true) true m21 3 ((([.int .i64 x9, .int .i64 x14, .int .i64 x19, z3, z4] : List Value).drop 3).take (Try.prog.cellsOf 3)) = some y22 := hj23
  rw [cell3] at hj23
  replace hj23 : DataW.trod enc Try.prog W 0 (fun _ => true) true m21 3 [z3] = some y22 := hj23
  obtain ⟨x24, e25, rx24⟩ := op_int Try.underlying3 hj23
  have e25 : [z3] = _ := e25
  cases e25
  obtain ⟨m26, y27, hj28⟩ := hs5 4 _ rfl
  have hj28 : DataW.trod enc Try.prog W 0 (fun _ => true) true m26 3 ((([.int .i64 x9, .int .i64 x14, .int .i64 x19, .int .i64 x24, z4] : List Value).drop 4).take (Try.prog.cellsOf 3)) = some y27 := hj28
  rw [cell3] at hj28
  replace hj28 : DataW.trod enc Try.prog W 0 (fun _ => true) true m26 3 [z4] = some y27 := hj28
  obtain ⟨x29, e30, rx29⟩ := op_int Try.underlying3 hj28
  have e30 : [z4] = _ := e30
  cases e30
  obtain ⟨m31, y32, hj33⟩ := hs1 1 _ rfl
  have hj33 : DataW.trod enc Try.prog W 0 (fun _ => true) true m31 3 ((([.int .i64 x9, .int .i64 x14, .int .i64 x19, .int .i64 x24, .int .i64 x29, z5, z6] : List Value).drop 5).take (Try.prog.cellsOf 3)) = some y32 := hj33
  rw [cell3] at hj33
  replace hj33 : DataW.trod enc Try.prog W 0 (fun _ => true) true m31 3 [z5] = some y32 := hj33
  obtain ⟨x34, e35, rx34⟩ := op_int Try.underlying3 hj33
  have e35 : [z5] = _ := e35
  cases e35
  obtain ⟨m36, y37, hj38⟩ := hs1 2 _ rfl
  have hj38 : DataW.trod enc Try.prog W 0 (fun _ => true) true m36 4 ((([.int .i64 x9, .int .i64 x14, .int .i64 x19, .int .i64 x24, .int .i64 x29, .int .i64 x34, z6] : List Value).drop 6).take (Try.prog.cellsOf 4)) = some y37 := hj38
  rw [cell4] at hj38
  replace hj38 : DataW.trod enc Try.prog W 0 (fun _ => true) true m36 4 [z6] = some y37 := hj38
  obtain ⟨x39, e40⟩ := op_bool Try.underlying4 hj38
  have e40 : [z6] = _ := e40
  cases e40
  exact ⟨⟨⟨x9, x14, x19, x24, x29⟩, x34, x39⟩, rfl, ⟨⟨rx9, rx14, rx19, rx24, rx29⟩, rx34⟩⟩

theorem cell57p : Try.prog.cellsOf 57 = 7 := by kernel_rfl
theorem op_parts {H : Type} {enc : TypeId × Value → H} {W : World} {fuel : Nat} {cs : List Value} {x : DataW H × List MemPlace} (h : DataW.trod enc Try.prog W 0 (fun _ => true) true fuel 27 cs = some x) :
    ∃ A n cap ps, cs = [.slice A n cap] ∧ n ≤ cap ∧ cap ≤ maxLen ∧ PK (fun a => W.cell? a) A n ps ∧ ∀ p ∈ ps, Pt.rng p :=
  op_rows Try.underlying27 cell57p el57 h
end Go.Proofs.Cp
