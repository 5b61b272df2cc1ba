/-
  Lists of moves among the arguments.
-/
import Derived.Test.YtichjhggoioenaaRcPlain9
import Derived.Test.YtichjhggoioenaaFrame
import Derived.Test.YtichjhggoioenaaProg
namespace Go.Proofs.Rc
open Go Go.Eng Go.Rc Go.ChangeShapes Go.WideShapes Go.RowKit
theorem cell56 : Try.prog.cellsOf 56 = 1 := by kernel_rfl
theorem el58 {H : Type} {enc : TypeId × Value → H} {W : World} (cl : List Value) (fuel : Nat) (y : DataW H × List MemPlace) (hl0 : cl.length = 2) (hf : DataW.trod enc Try.prog W 0 (fun _ => true) true fuel 58 cl = some y) : ∃ x, cl = mvv x ∧ Mv.rng x := by
  obtain ⟨z0, l1, rfl, hl1⟩ := listS hl0
  obtain ⟨z1, l2, rfl, hl2⟩ := listS hl1
  obtain rfl := list0 hl2
  obtain ⟨_, hs1⟩ := op_struct Try.underlying58 hf
  obtain ⟨m2, y3, hj4⟩ := hs1 0 _ rfl
  have hj4 : DataW.trod enc Try.prog W 0 (fun _ => true) true m2 56 ((([z0, z1] : List Value).drop 0).take (Try.prog.cellsOf 56)) = some y3 := hj4
  rw [cell56] at hj4
  replace hj4 : DataW.trod enc Try.prog W 0 (fun _ => true) true m2 56 [z0] = some y3 := hj4
  obtain ⟨x5, e6, rx5⟩ := op_int Try.underlying56 hj4
  have e6 : [z0] = _ := e6
  cases e6
  obtain ⟨m7, y8, hj9⟩ := hs1 1 _ rfl
  have hj9 : DataW.trod enc Try.prog W 0 (fun _ => true) true m7 56 ((([.int .i16 x5, z1] : List Value).drop 1).take (Try.prog.cellsOf 56)) = some y8 := hj9
  rw [cell56] at hj9
  replace hj9 : DataW.trod enc Try.prog W 0 (fun _ => true) true m7 56 [z1] = some y8 := hj9
  obtain ⟨x10, e11, rx10⟩ := op_int Try.underlying56 hj9
  have e11 : [z1] = _ := e11
  cases e11
  exact ⟨⟨x5, x10⟩, rfl, ⟨rx5, rx10⟩⟩

theorem cell58 : Try.prog.cellsOf 58 = 2 := by kernel_rfl
theorem op_moves {H : Type} {enc : TypeId × Value → H} {W : World} {fuel : Nat} {cs : List Value} {x : DataW H × List MemPlace} (h : DataW.trod enc Try.prog W 0 (fun _ => true) true fuel 54 cs = some x) :
    ∃ A n cap ps, cs = [.slice A n cap] ∧ n ≤ cap ∧ cap ≤ maxLen ∧ RowsK mvv 2 (fun a => W.cell? a) A n ps ∧ ∀ p ∈ ps, Mv.rng p :=
  op_rows Try.underlying54 cell58 el58 h
end Go.Proofs.Rc
