/-
  Fractions in plain mathematics, part 5: right fractions within bounds, and the operations on them.
-/
import Derived.Test.YtgogfnkdemkdfaaRtPlain4
namespace Go.Rt
open Go Go.Eng
/-- A right fraction within bounds. -/
def BQ (x1 x2 : Int) (N D : Nat) : Prop := validE (x1, x2) = true ∧ x1.natAbs ≤ N ∧ x2.natAbs ≤ D ∧ 1 ≤ x2
section
variable {an ad bn bd : Int} {AN AD BN BD N D : Nat}
theorem BQ.rng (h : BQ an ad AN AD) (hN : AN ≤ 1073741824) (hD : AD ≤ 1073741824) : (-9223372036854775808 ≤ an ∧ an ≤ 9223372036854775807) ∧ (-9223372036854775808 ≤ ad ∧ ad ≤ 9223372036854775807) := by
  obtain ⟨_, h1, h2, h3⟩ := h; omega
theorem BQ.ne (h : BQ an ad AN AD) : ad ≠ 0 := by obtain ⟨_, h1, h2, h3⟩ := h; omega
theorem BQ.ok (h : BQ an ad AN AD) : validE (an, ad) = true := h.1
theorem addR (ha : BQ an ad AN AD) (hb : BQ bn bd BN BD) (hN : AN * BD + BN * AD = N) (hD : AD * BD = D) (lN : N ≤ 1073741824) (lD : D ≤ 1073741824) :
    ∃ x1 x2 : Int, opA (an, ad) (bn, bd) (an * bd + bn * ad, ad * bd) = ((x1, x2), 0) ∧ x1 * (ad * bd) = (an * bd + bn * ad) * x2 ∧ BQ x1 x2 N D := by
  have m1 := mulb ha.2.1 hb.2.2.1; have m2 := mulb hb.2.1 ha.2.2.1; have m3 := mulb ha.2.2.1 hb.2.2.1
  obtain ⟨x1, x2, h1, h2, h3, h4, h5, h6⟩ := op_rep ha.1 hb.1 (an * bd + bn * ad) (ad * bd) (mul_ne ha.ne hb.ne) (by omega) (by omega)
  exact ⟨x1, x2, h1, h3, h2, by omega, by omega, h6⟩
theorem subR (ha : BQ an ad AN AD) (hb : BQ bn bd BN BD) (hN : AN * BD + BN * AD = N) (hD : AD * BD = D) (lN : N ≤ 1073741824) (lD : D ≤ 1073741824) :
    ∃ x1 x2 : Int, opA (an, ad) (bn, bd) (an * bd - bn * ad, ad * bd) = ((x1, x2), 0) ∧ x1 * (ad * bd) = (an * bd - bn * ad) * x2 ∧ BQ x1 x2 N D := by
  have m1 := mulb ha.2.1 hb.2.2.1; have m2 := mulb hb.2.1 ha.2.2.1; have m3 := mulb ha.2.2.1 hb.2.2.1
  obtain ⟨x1, x2, h1, h2, h3, h4, h5, h6⟩ := op_rep ha.1 hb.1 (an * bd - bn * ad) (ad * bd) (mul_ne ha.ne hb.ne) (by omega) (by omega)
  exact ⟨x1, x2, h1, h3, h2, by omega, by omega, h6⟩
theorem mulR (ha : BQ an ad AN AD) (hb : BQ bn bd BN BD) (hN : AN * BN = N) (hD : AD * BD = D) (lN : N ≤ 1073741824) (lD : D ≤ 1073741824) :
    ∃ x1 x2 : Int, opA (an, ad) (bn, bd) (an * bn, ad * bd) = ((x1, x2), 0) ∧ x1 * (ad * bd) = (an * bn) * x2 ∧ BQ x1 x2 N D := by
  have m1 := mulb ha.2.1 hb.2.1; have m3 := mulb ha.2.2.1 hb.2.2.1
  obtain ⟨x1, x2, h1, h2, h3, h4, h5, h6⟩ := op_rep ha.1 hb.1 (an * bn) (ad * bd) (mul_ne ha.ne hb.ne) (by omega) (by omega)
  exact ⟨x1, x2, h1, h3, h2, by omega, by omega, h6⟩
theorem divR (ha : BQ an ad AN AD) (hb : BQ bn bd BN BD) (hz : bn ≠ 0) (hN : AN * BD = N) (hD : AD * BN = D) (lN : N ≤ 1073741824) (lD : D ≤ 1073741824) :
    ∃ x1 x2 : Int, opA (an, ad) (bn, bd) (an * bd, ad * bn) = ((x1, x2), 0) ∧ x1 * (ad * bn) = (an * bd) * x2 ∧ BQ x1 x2 N D := by
  have m1 := mulb ha.2.1 hb.2.2.1; have m3 := mulb ha.2.2.1 hb.2.1
  obtain ⟨x1, x2, h1, h2, h3, h4, h5, h6⟩ := op_rep ha.1 hb.1 (an * bd) (ad * bn) (mul_ne ha.ne hz) (by omega) (by omega)
  exact ⟨x1, x2, h1, h3, h2, by omega, by omega, h6⟩
theorem smallR {n d : Int} (hn : -128 ≤ n ∧ n ≤ 127) (hd : 0 ≤ d ∧ d ≤ 255) : BQ (smallE n d).1 (smallE n d).2 128 30 := by
  obtain ⟨h1, h2, h3, h4⟩ := small_valid hn hd
  exact ⟨h1, by omega, by omega, h3⟩
end
/-- What the field law needs of three fractions, without division. -/
structure FieldF (an ad bn bd cn cd abn abd len led bcn bcd xn xd pn pd zn zd aln ald acn acd : Int) : Prop where
  ba : BQ an ad 128 30
  bb : BQ bn bd 128 30
  bc : BQ cn cd 128 30
  bab : BQ abn abd 7680 900
  bbc : BQ bcn bcd 7680 900
  bx : BQ xn xd 16384 900
  bz : BQ zn zd 16384 900
  bac : BQ acn acd 16384 900
  ab : opA (an, ad) (bn, bd) (an * bd + bn * ad, ad * bd) = ((abn, abd), 0)
  ba' : opA (bn, bd) (an, ad) (bn * ad + an * bd, bd * ad) = ((abn, abd), 0)
  le : opA (abn, abd) (cn, cd) (abn * cd + cn * abd, abd * cd) = ((len, led), 0)
  bc' : opA (bn, bd) (cn, cd) (bn * cd + cn * bd, bd * cd) = ((bcn, bcd), 0)
  ri : opA (an, ad) (bcn, bcd) (an * bcd + bcn * ad, ad * bcd) = ((len, led), 0)
  ok : validE (len, led) = true
  rl : (-9223372036854775808 ≤ len ∧ len ≤ 9223372036854775807) ∧ (-9223372036854775808 ≤ led ∧ led ≤ 9223372036854775807)
  bk : opA (abn, abd) (bn, bd) (abn * bd - bn * abd, abd * bd) = ((an, ad), 0)
  x : opA (an, ad) (bn, bd) (an * bn, ad * bd) = ((xn, xd), 0)
  y : opA (bn, bd) (an, ad) (bn * an, bd * ad) = ((xn, xd), 0)
  p : opA (xn, xd) (cn, cd) (xn * cn, xd * cd) = ((pn, pd), 0)
  z : opA (bn, bd) (cn, cd) (bn * cn, bd * cd) = ((zn, zd), 0)
  q : opA (an, ad) (zn, zd) (an * zn, ad * zd) = ((pn, pd), 0)
  al : opA (abn, abd) (cn, cd) (abn * cn, abd * cd) = ((aln, ald), 0)
  ac : opA (an, ad) (cn, cd) (an * cn, ad * cd) = ((acn, acd), 0)
  su : opA (acn, acd) (zn, zd) (acn * zd + zn * acd, acd * zd) = ((aln, ald), 0)
  dv : bn ≠ 0 → opA (xn, xd) (bn, bd) (xn * bd, xd * bn) = ((an, ad), 0)
theorem rep_eqR {x1 x2 y1 y2 n d : Int} {X Y X' Y' : Nat} (bx : BQ x1 x2 X Y) (b_y : BQ y1 y2 X' Y') (hd : d ≠ 0) (cx : x1 * d = n * x2) (cy : y1 * d = n * y2) : x1 = y1 ∧ x2 = y2 := rep_eq bx.1 b_y.1 hd hd cx cy rfl
theorem field_facts {an ad bn bd cn cd : Int} (ba : BQ an ad 128 30) (bb : BQ bn bd 128 30) (bc : BQ cn cd 128 30) :
    ∃ abn abd len led bcn bcd xn xd pn pd zn zd aln ald acn acd : Int, FieldF an ad bn bd cn cd abn abd len led bcn bcd xn xd pn pd zn zd aln ald acn acd := by
  have na := ba.ne; have nb := bb.ne; have nc := bc.ne
  obtain ⟨abn, abd, hab, cab, bab⟩ := addR ba bb (N := 7680) (D := 900) rfl rfl (by decide) (by decide)
  obtain ⟨y1, y2, hba, cba, bba⟩ := addR bb ba (N := 7680) (D := 900) rfl rfl (by decide) (by decide)
  obtain ⟨rfl, rfl⟩ := rep_eqR bab bba (mul_ne na nb) cab (by grind)
  obtain ⟨len, led, hle, cle, ble⟩ := addR bab bc (N := 345600) (D := 27000) rfl rfl (by decide) (by decide)
  obtain ⟨bcn, bcd, hbc, cbc, bbc⟩ := addR bb bc (N := 7680) (D := 900) rfl rfl (by decide) (by decide)
  obtain ⟨y1, y2, hri, cri, bri⟩ := addR ba bbc (N := 345600) (D := 27000) rfl rfl (by decide) (by decide)
  obtain ⟨rfl, rfl⟩ := rep_eqR ble bri (mul_ne (mul_ne na nb) nc) (alg1 bab.ne cab cle) (alg2 bbc.ne cbc cri)
  obtain ⟨y1, y2, hbk, cbk, bbk⟩ := subR bab bb (N := 345600) (D := 27000) rfl rfl (by decide) (by decide)
  obtain ⟨rfl, rfl⟩ := rep_eqR ba bbk na rfl (alg3 bab.ne nb cab cbk)
  obtain ⟨xn, xd, hx, cx, bx⟩ := mulR ba bb (N := 16384) (D := 900) rfl rfl (by decide) (by decide)
  obtain ⟨y1, y2, hy, cy, b_y⟩ := mulR bb ba (N := 16384) (D := 900) rfl rfl (by decide) (by decide)
  obtain ⟨rfl, rfl⟩ := rep_eqR bx b_y (mul_ne na nb) cx (by grind)
  obtain ⟨pn, pd, hp, cp, bp⟩ := mulR bx bc (N := 2097152) (D := 27000) rfl rfl (by decide) (by decide)
  obtain ⟨zn, zd, hz, cz, bz⟩ := mulR bb bc (N := 16384) (D := 900) rfl rfl (by decide) (by decide)
  obtain ⟨y1, y2, hq, cq, bq⟩ := mulR ba bz (N := 2097152) (D := 27000) rfl rfl (by decide) (by decide)
  obtain ⟨rfl, rfl⟩ := rep_eqR bp bq (mul_ne (mul_ne na nb) nc) (alg4 bx.ne cx cp) (alg5 bz.ne cz cq)
  obtain ⟨aln, ald, hal, cal, bal⟩ := mulR bab bc (N := 983040) (D := 27000) rfl rfl (by decide) (by decide)
  obtain ⟨acn, acd, hac, cac, bac⟩ := mulR ba bc (N := 16384) (D := 900) rfl rfl (by decide) (by decide)
  obtain ⟨y1, y2, hsu, csu, bsu⟩ := addR bac bz (N := 29491200) (D := 810000) rfl rfl (by decide) (by decide)
  obtain ⟨rfl, rfl⟩ := rep_eqR bal bsu (mul_ne (mul_ne na nb) nc) (alg6 bab.ne cab cal) (alg7 bac.ne bz.ne nc cac cz csu)
  refine ⟨_, _, _, _, _, _, _, _, _, _, _, _, _, _, _, _, ⟨ba, bb, bc, bab, bbc, bx, bz, bac, hab, hba, hle, hbc, hri, ble.1, ble.rng (by decide) (by decide), hbk, hx, hy, hp, hz, hq, hal, hac, hsu, ?_⟩⟩
  intro hn
  obtain ⟨y1, y2, hdv, cdv, bdv⟩ := divR bx bb hn (N := 491520) (D := 115200) rfl rfl (by decide) (by decide)
  obtain ⟨rfl, rfl⟩ := rep_eqR ba bdv na rfl (alg8 bx.ne hn nb cx cdv)
  exact hdv
end Go.Rt
