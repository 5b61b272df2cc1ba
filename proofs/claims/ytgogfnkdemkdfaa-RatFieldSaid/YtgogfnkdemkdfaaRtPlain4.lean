/-
  Fractions in plain mathematics, part 4: the field laws.
-/
import Derived.Test.YtgogfnkdemkdfaaRtPlain3
namespace Go.Rt
open Go Go.Eng
theorem op_rep {a b : Q} (va : validE a = true) (vb : validE b = true) (n d : Int) (hd : d ≠ 0) (bn : n.natAbs ≤ 1073741824) (bd : d.natAbs ≤ 1073741824) :
    ∃ x1 x2 : Int, opA a b (n, d) = ((x1, x2), 0) ∧ validE (x1, x2) = true ∧ x1 * d = n * x2 ∧ x1.natAbs ≤ n.natAbs ∧ x2.natAbs ≤ d.natAbs ∧ 1 ≤ x2 := by
  obtain ⟨h1, h2⟩ := make_of (n := n) (d := d) hd (by omega) (by omega)
  obtain ⟨h3, h4⟩ := red_bounds n d
  exact ⟨(redE n d).1, (redE n d).2, by rw [opA, if_pos (by rw [va, vb]; rfl)]; exact h1, h2, red_cross hd, h3, h4, red_pos hd⟩
theorem rep_eq {x1 x2 y1 y2 n d m e : Int} (vx : validE (x1, x2) = true) (vy : validE (y1, y2) = true) (hd : d ≠ 0) (he : e ≠ 0) (cx : x1 * d = n * x2) (cy : y1 * e = m * y2) (h : n * e = m * d) : x1 = y1 ∧ x2 = y2 := by
  have h1 : x1 * y2 - y1 * x2 = 0 := by
    have h2 : (x1 * y2 - y1 * x2) * (d * e) = 0 * (d * e) := by grind
    exact Int.eq_of_mul_eq_mul_right (by intro hz; rcases Int.mul_eq_zero.1 hz with h | h <;> contradiction) h2
  have := (cross_eq vx vy).1 h1
  exact this
theorem mulb {x y : Int} {X Y : Nat} (hx : x.natAbs ≤ X) (hy : y.natAbs ≤ Y) : (x * y).natAbs ≤ X * Y := by rw [Int.natAbs_mul]; exact Nat.mul_le_mul hx hy
theorem mul_ne {x y : Int} (hx : x ≠ 0) (hy : y ≠ 0) : x * y ≠ 0 := by intro hz; rcases Int.mul_eq_zero.1 hz with h | h <;> contradiction
theorem as2 {P : Program} {f : FuncId} {args : List Value} {w : World} {r : Q × Int} {x1 x2 e : Int} (h : Go.Eng.Pure P f args w (.tuple [.agg [.int .i64 r.1.1, .int .i64 r.1.2].toArray, .int .i64 r.2].toArray)) (hr : r = ((x1, x2), e)) :
    Go.Eng.Pure P f args w (.tuple [.agg [.int .i64 x1, .int .i64 x2].toArray, .int .i64 e].toArray) := by subst hr; exact h
end Go.Rt
namespace Go.Rt
section
variable {an ad bn bd cn cd xn xd yn yd : Int}
theorem alg1 (h0 : xd ≠ 0) (h1 : xn * (ad * bd) = (an * bd + bn * ad) * xd) (h2 : yn * (xd * cd) = (xn * cd + cn * xd) * yd) : yn * ((ad * bd) * cd) = ((an * bd + bn * ad) * cd + cn * (ad * bd)) * yd :=
  Int.eq_of_mul_eq_mul_right h0 (by grind)
theorem alg2 (h0 : xd ≠ 0) (h1 : xn * (bd * cd) = (bn * cd + cn * bd) * xd) (h2 : yn * (ad * xd) = (an * xd + xn * ad) * yd) : yn * ((ad * bd) * cd) = ((an * bd + bn * ad) * cd + cn * (ad * bd)) * yd :=
  Int.eq_of_mul_eq_mul_right h0 (by grind)
theorem alg3 (h0 : xd ≠ 0) (hb : bd ≠ 0) (h1 : xn * (ad * bd) = (an * bd + bn * ad) * xd) (h2 : yn * (xd * bd) = (xn * bd - bn * xd) * yd) : yn * ad = an * yd := by
  have h3 : (yn * ad) * (xd * (bd * bd)) = (an * yd) * (xd * (bd * bd)) := by grind
  exact Int.eq_of_mul_eq_mul_right (mul_ne h0 (mul_ne hb hb)) h3
theorem alg4 (h0 : xd ≠ 0) (h1 : xn * (ad * bd) = (an * bn) * xd) (h2 : yn * (xd * cd) = (xn * cn) * yd) : yn * (ad * bd * cd) = (an * bn * cn) * yd :=
  Int.eq_of_mul_eq_mul_right h0 (by grind)
theorem alg5 (h0 : xd ≠ 0) (h1 : xn * (bd * cd) = (bn * cn) * xd) (h2 : yn * (ad * xd) = (an * xn) * yd) : yn * (ad * bd * cd) = (an * bn * cn) * yd :=
  Int.eq_of_mul_eq_mul_right h0 (by grind)
theorem alg6 (h0 : xd ≠ 0) (h1 : xn * (ad * bd) = (an * bd + bn * ad) * xd) (h2 : yn * (xd * cd) = (xn * cn) * yd) : yn * (ad * bd * cd) = ((an * bd + bn * ad) * cn) * yd :=
  Int.eq_of_mul_eq_mul_right h0 (by grind)
theorem alg7 {zn zd : Int} (h0 : xd ≠ 0) (hz : zd ≠ 0) (hc : cd ≠ 0) (h1 : xn * (ad * cd) = (an * cn) * xd) (h2 : zn * (bd * cd) = (bn * cn) * zd) (h3 : yn * (xd * zd) = (xn * zd + zn * xd) * yd) : yn * (ad * bd * cd) = ((an * bd + bn * ad) * cn) * yd := by
  have h4 : (yn * (ad * bd * cd)) * (xd * (zd * cd)) = (((an * bd + bn * ad) * cn) * yd) * (xd * (zd * cd)) := by grind
  exact Int.eq_of_mul_eq_mul_right (mul_ne h0 (mul_ne hz hc)) h4
theorem alg8 (h0 : xd ≠ 0) (hn : bn ≠ 0) (hb : bd ≠ 0) (h1 : xn * (ad * bd) = (an * bn) * xd) (h2 : yn * (xd * bn) = (xn * bd) * yd) : yn * ad = an * yd := by
  have h3 : (yn * ad) * (xd * (bn * bd)) = (an * yd) * (xd * (bn * bd)) := by grind
  exact Int.eq_of_mul_eq_mul_right (mul_ne h0 (mul_ne hn hb)) h3
end
end Go.Rt
