/-
  Lists among the arguments.
-/
import Derived.Test.YtlnnoghneciocaaSqK3
import Derived.Test.YtlnnoghneciocaaFrame
import Derived.Test.YtlnnoghneciocaaProg
namespace Go.Proofs.Sq
open Go Go.Eng Go.Sq Go.ChangeShapes Go.WideShapes Go.RowKit
theorem cell3 : Try.prog.cellsOf 3 = 1 := by kernel_rfl
theorem cell38 : Try.prog.cellsOf 38 = 1 := by kernel_rfl
theorem cell50 : Try.prog.cellsOf 50 = 2 := by kernel_rfl
theorem op_route {H : Type} {enc : TypeId × Value → H} {W : World} (cl : List Value) (f' : Nat) (y : DataW H × List MemPlace) (hl : cl.length = 1) (h : DataW.trod enc Try.prog W 0 (fun _ => true) true f' 38 cl = some y) :
    ∃ r : Rt, cl = rtv r ∧ ∃ js, IntsK (fun a => W.cell? a) .i64 r.B r.n js ∧ r.n ≤ 9223372036854775807 := by
  obtain ⟨A, n, c, xs, e, hc, hI⟩ := op_ints Try.underlying38 Try.underlying3 cell3 h
  obtain ⟨A2, n2, c2, e2, hc2, hm2, -⟩ := op_slice Try.underlying38 h
  rw [e] at e2; cases e2
  exact ⟨⟨A, n, c⟩, e, xs, hI, by simp only [maxLen] at hm2; show n ≤ _; omega⟩
theorem op_routes {H : Type} {enc : TypeId × Value → H} {W : World} {fuel : Nat} {cs : List Value} {x : DataW H × List MemPlace} (h : DataW.trod enc Try.prog W 0 (fun _ => true) true fuel 32 cs = some x) :
    ∃ A n cap rs, cs = [.slice A n cap] ∧ n ≤ cap ∧ cap ≤ maxLen ∧ TK2 (fun a => W.cell? a) A n rs ∧ ∀ r ∈ rs, ∃ js, IntsK (fun a => W.cell? a) .i64 r.B r.n js ∧ r.n ≤ 9223372036854775807 :=
  op_rows Try.underlying32 cell38 op_route h
theorem cell22 : Try.prog.cellsOf 22 = 1 := by kernel_rfl
theorem el50 {H : Type} {enc : TypeId × Value → H} {W : World} (cl : List Value) (fuel : Nat) (y : DataW H × List MemPlace) (hl0 : cl.length = 2) (hf : DataW.trod enc Try.prog W 0 (fun _ => true) true fuel 50 cl = some y) : ∃ x, cl = ctv x ∧ Ct.rng x := by
  obtain ⟨z0, l1, rfl, hl1⟩ := listS hl0
  obtain ⟨z1, l2, rfl, hl2⟩ := listS hl1
  obtain rfl := list0 hl2
  obtain ⟨_, hs1⟩ := op_struct Try.underlying50 hf
  obtain ⟨m2, y3, hj4⟩ := hs1 0 _ rfl
  have hj4 : DataW.trod enc Try.prog W 0 (fun _ => true) true m2 3 ((([z0, z1] : List Value).drop 0).take (Try.prog.cellsOf 3)) = some y3 := hj4
  rw [cell3] at hj4
  replace hj4 : DataW.trod enc Try.prog W 0 (fun _ => true) true m2 3 [z0] = some y3 := hj4
  obtain ⟨x5, e6, rx5⟩ := op_int Try.underlying3 hj4
  have e6 : [z0] = _ := e6
  cases e6
  obtain ⟨m7, y8, hj9⟩ := hs1 1 _ rfl
  have hj9 : DataW.trod enc Try.prog W 0 (fun _ => true) true m7 3 ((([.int .i64 x5, z1] : List Value).drop 1).take (Try.prog.cellsOf 3)) = some y8 := hj9
  rw [cell3] at hj9
  replace hj9 : DataW.trod enc Try.prog W 0 (fun _ => true) true m7 3 [z1] = some y8 := hj9
  obtain ⟨x10, e11, rx10⟩ := op_int Try.underlying3 hj9
  have e11 : [z1] = _ := e11
  cases e11
  exact ⟨⟨x5, x10⟩, rfl, ⟨rx5, rx10⟩⟩

theorem el67 {H : Type} {enc : TypeId × Value → H} {W : World} (cl : List Value) (fuel : Nat) (y : DataW H × List MemPlace) (hl0 : cl.length = 2) (hf : DataW.trod enc Try.prog W 0 (fun _ => true) true fuel 67 cl = some y) : ∃ x, cl = drv x ∧ Dr.rng x := by
  obtain ⟨z0, l1, rfl, hl1⟩ := listS hl0
  obtain ⟨z1, l2, rfl, hl2⟩ := listS hl1
  obtain rfl := list0 hl2
  obtain ⟨_, hs1⟩ := op_array Try.underlying67 hf
  obtain ⟨m2, y3, hj4⟩ := hs1 0 (by decide)
  have hj4 : DataW.trod enc Try.prog W 0 (fun _ => true) true m2 22 ((([z0, z1] : List Value).drop (0 * Try.prog.cellsOf 22)).take (Try.prog.cellsOf 22)) = some y3 := hj4
  rw [cell22] at hj4
  replace hj4 : DataW.trod enc Try.prog W 0 (fun _ => true) true m2 22 [z0] = some y3 := hj4
  obtain ⟨x5, e6, rx5⟩ := op_int Try.underlying22 hj4
  have e6 : [z0] = _ := e6
  cases e6
  obtain ⟨m7, y8, hj9⟩ := hs1 1 (by decide)
  have hj9 : DataW.trod enc Try.prog W 0 (fun _ => true) true m7 22 ((([.int .u16 x5, z1] : List Value).drop (1 * Try.prog.cellsOf 22)).take (Try.prog.cellsOf 22)) = some y8 := hj9
  rw [cell22] at hj9
  replace hj9 : DataW.trod enc Try.prog W 0 (fun _ => true) true m7 22 [z1] = some y8 := hj9
  obtain ⟨x10, e11, rx10⟩ := op_int Try.underlying22 hj9
  have e11 : [z1] = _ := e11
  cases e11
  exact ⟨⟨x5, x10⟩, rfl, ⟨rx5, rx10⟩⟩

theorem cell67 : Try.prog.cellsOf 67 = 2 := by kernel_rfl
theorem op_draft {H : Type} {enc : TypeId × Value → H} {W : World} {fuel : Nat} {cs : List Value} {x : DataW H × List MemPlace} (h : DataW.trod enc Try.prog W 0 (fun _ => true) true fuel 44 cs = some x) :
    ∃ A n cap l, cs = [.slice A n cap] ∧ n ≤ cap ∧ cap ≤ maxLen ∧ DK (fun a => W.cell? a) A n l ∧ ∀ r ∈ l, Dr.rng r :=
  op_rows Try.underlying44 cell67 el67 h
theorem op_cts {H : Type} {enc : TypeId × Value → H} {W : World} {fuel : Nat} {cs : List Value} {x : DataW H × List MemPlace} (h : DataW.trod enc Try.prog W 0 (fun _ => true) true fuel 46 cs = some x) :
    ∃ A n cap l, cs = [.slice A n cap] ∧ n ≤ cap ∧ cap ≤ maxLen ∧ CK (fun a => W.cell? a) A n l ∧ ∀ r ∈ l, Ct.rng r :=
  op_rows Try.underlying46 cell50 el50 h
end Go.Proofs.Sq
