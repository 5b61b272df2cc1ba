/-
  Lists of entries among the arguments.
-/
import Derived.Test.YtffocfffggfenaaGtPlainToGtK
import Derived.Test.YtffocfffggfenaaCpFacts
import Derived.Test.YtffocfffggfenaaEng11ToEng6
namespace Go.Proofs.Cp
open Go Go.Eng Go.Gt Go.Proofs.Gt
theorem cell3e : Try.prog.cellsOf 3 = 1 := by kernel_rfl
theorem cell59e : Try.prog.cellsOf 59 = 2 := by kernel_rfl
theorem op_ents {H : Type} {enc : TypeId × Value → H} {W : World} {base : Nat} {spare : Nat → Bool} {held : Bool} {fuel : Nat} {cs : List Value} {x : DataW H × List MemPlace} (h : DataW.trod enc Try.prog W base spare held fuel 22 cs = some x) :
    ∃ A n cap es, cs = [.slice A n cap] ∧ n ≤ cap ∧ EntK (fun a => W.cell? a) A n es := by
  obtain ⟨A, n, cap, h1, h2, _, h3⟩ := op_slice Try.underlying22 h
  obtain ⟨xs, g1, g2⟩ := choose_list (p := fun i (e : Int × Int) => (∃ a, A = some a ∧ W.cell? (a.add (i * 2)) = some (.int .i64 e.1) ∧ W.cell? (a.add (i * 2 + 1)) = some (.int .i64 e.2)) ∧
      -9223372036854775808 ≤ e.1 ∧ e.1 ≤ 9223372036854775807 ∧ -9223372036854775808 ≤ e.2 ∧ e.2 ≤ 9223372036854775807) n fun i hi => by
    obtain ⟨a, ha, cl, f', y, k1, k2⟩ := h3 i hi
    rw [cell59e] at k1
    obtain ⟨k3, k4⟩ := cells_some k1
    obtain ⟨_, hs⟩ := op_struct Try.underlying59 k2
    obtain ⟨c0, l1, rfl, k5⟩ := listS k3
    obtain ⟨c1, l2, rfl, k6⟩ := listS k5
    obtain rfl := list0 k6
    obtain ⟨m0, y0, j0⟩ := hs 0 _ rfl
    obtain ⟨m1, y1, j1⟩ := hs 1 _ rfl
    obtain ⟨x0, e0, r0⟩ := op_int Try.underlying3 j0
    obtain ⟨x1, e1, r1⟩ := op_int Try.underlying3 j1
    have e0 : ([c0, c1].drop 0).take (Try.prog.cellsOf 3) = [Value.int .i64 x0] := e0
    have e1 : ([c0, c1].drop 1).take (Try.prog.cellsOf 3) = [Value.int .i64 x1] := e1
    rw [cell3e] at e0 e1
    have e0 : [c0] = [Value.int .i64 x0] := e0
    have e1 : [c1] = [Value.int .i64 x1] := e1
    cases e0; cases e1
    have z0 := k4 0 _ rfl
    have z1 := k4 1 _ rfl
    rw [add_add, Nat.add_zero] at z0
    rw [add_add] at z1
    exact ⟨(x0, x1), ⟨a, ha, z0, z1⟩, r0.1, r0.2, r1.1, r1.2⟩
  exact ⟨A, n, cap, xs, h1, h2, g1.symm, fun i e he => (g2 i e he).1, fun i hi => (g2 i _ (List.getElem?_eq_getElem hi)).2⟩
end Go.Proofs.Cp
