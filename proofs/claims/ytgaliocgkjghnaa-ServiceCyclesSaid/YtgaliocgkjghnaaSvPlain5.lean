/-
  The service of a gate list: what the program computes, and what the reference computes.
-/
import Derived.Test.YtgaliocgkjghnaaSvPlain4
namespace Go.Sv
open Go Go.Eng Go.Gt Go.Proofs.Gt Go.Sw
abbrev U : Int := 1048576
def dblR (cyc : Int) (l : List (Int × Int)) : List (Int × Int) := l ++ shl cyc l
def gapP (L : List (Int × Int)) (lost R per : Int) (i k : Nat) (got : Int) : Int := (min (atR L k).2 ((atR L k).1 + lost) - max (atR L i).1 ((atR L i).2 - lost)) * R * per - got * 1048576
def gotP (L : List (Int × Int)) (lost : Int) (i : Nat) : Nat → Int
  | 0 => 0
  | m + 1 => gotP L lost i m + max 0 ((atR L (i + 1 + m)).2 - (atR L (i + 1 + m)).1 - lost)
def wIn (L : List (Int × Int)) (lost R per : Int) (i : Nat) (w : Int) : Nat → Int
  | 0 => w
  | m + 1 => max (wIn L lost R per i w m) (gapP L lost R per i (i + 1 + m) (gotP L lost i m))
def wOut (L : List (Int × Int)) (lost R per : Int) (n : Nat) : Nat → Int
  | 0 => 0
  | i + 1 => wIn L lost R per i (wOut L lost R per n i) n
def roundR (es : Ents) (cyc : Int) : List (Int × Int) := runs (op6 es cyc) (closedE es) (closedE es + cyc)
def worstP (es : Ents) (cyc lost R per : Int) : Int := if alwE es then 0 else wOut (dblR cyc (roundR es cyc)) lost R per (roundR es cyc).length (roundR es cyc).length
def rateS (es : Ents) (cyc lost per : Int) : Int := yieldS es cyc lost * 1048576 / (cyc * per)
def latS (per R worst : Int) : Int := (127 * per * 1048576 + worst + R * per - 1) / (R * per)
def ofS (es : Ents) (cyc per most : Int) : (Int × Int) × Int :=
  if errS es cyc per most = 0 then (if rateS es cyc (most * per) per < 1 then ((0, 0), 4) else
    ((rateS es cyc (most * per) per, latS per (rateS es cyc (most * per) per) (worstP es cyc (most * per) (rateS es cyc (most * per) per) per)), 0)) else ((0, 0), errS es cyc per most)
/-- The reference's. -/
def fromR (l : List (Int × Int)) (lost : Int) (i : Nat) : Int := (atR l i).2 - min ((atR l i).2 - (atR l i).1) lost
def toR (l : List (Int × Int)) (lost cyc : Int) (k : Nat) : Int := (atR l (k % l.length)).1 + min ((atR l (k % l.length)).2 - (atR l (k % l.length)).1) lost + ((k / l.length : Nat) : Int) * cyc
def termR (es : Ents) (cyc per most R : Int) (l : List (Int × Int)) (i k : Nat) : Int := (toR l (most * per) cyc k - fromR l (most * per) i) * R * per - leastS es cyc per most (fromR l (most * per) i) (toR l (most * per) cyc k - fromR l (most * per) i) * 1048576
def rIn (es : Ents) (cyc per most R : Int) (l : List (Int × Int)) (i : Nat) (w : Int) : Nat → Int
  | 0 => w
  | k + 1 => if fromR l (most * per) i < toR l (most * per) cyc k then max (rIn es cyc per most R l i w k) (termR es cyc per most R l i k) else rIn es cyc per most R l i w k
def rOut (es : Ents) (cyc per most R : Int) (l : List (Int × Int)) : Nat → Int
  | 0 => 127 * per * 1048576
  | i + 1 => rIn es cyc per most R l i (rOut es cyc per most R l i) (2 * l.length)
def worstR (es : Ents) (cyc per most R : Int) : Int := if alwE es then 127 * per * 1048576 else rOut es cyc per most R (roundR es cyc) (roundR es cyc).length
def rofS (es : Ents) (cyc per most : Int) : (Int × Int) × Int :=
  if errS es cyc per most = 0 then (if rateS es cyc (most * per) per < 1 then ((0, 0), 4) else
    ((rateS es cyc (most * per) per, (worstR es cyc per most (rateS es cyc (most * per) per) + rateS es cyc (most * per) per * per - 1) / (rateS es cyc (most * per) per * per)), 0)) else ((0, 0), errS es cyc per most)
/-- Bounds. -/
theorem prod_rng {x R per X : Int} (hx : -X ≤ x ∧ x ≤ X) (hR : 0 ≤ R) (hp : 1 ≤ per) (hRp : R * per ≤ 1048576) : (-(X * 1048576) ≤ x * R ∧ x * R ≤ X * 1048576) ∧ (-(X * 1048576) ≤ x * R * per ∧ x * R * per ≤ X * 1048576) := by
  have hX : 0 ≤ X := by omega
  have hR2 : R ≤ 1048576 := by
    have : R * 1 ≤ R * per := Int.mul_le_mul_of_nonneg_left hp hR
    omega
  have key : ∀ r : Int, 0 ≤ r → r ≤ 1048576 → -(X * 1048576) ≤ x * r ∧ x * r ≤ X * 1048576 := by
    intro r h0 h1
    have a1 : x * r ≤ X * r := Int.mul_le_mul_of_nonneg_right hx.2 h0
    have a2 : X * r ≤ X * 1048576 := Int.mul_le_mul_of_nonneg_left h1 hX
    have a3 : -X * r ≤ x * r := Int.mul_le_mul_of_nonneg_right hx.1 h0
    have a4 : -X * r = -(X * r) := Int.neg_mul _ _
    omega
  refine ⟨key R hR hR2, ?_⟩
  rw [Int.mul_assoc]
  exact key _ (Int.mul_nonneg hR (by omega)) hRp
theorem yield_rng {es : Ents} {cyc lost : Int} (hl : 0 ≤ lost) (hc : 0 ≤ cyc) : 0 ≤ yieldS es cyc lost ∧ yieldS es cyc lost ≤ cyc := by
  unfold yieldS
  split
  · omega
  · have := sumS_bounds (es := es) (cyc := cyc) hl (show closedE es ≤ closedE es + cyc by omega); omega
theorem rate_rng {es : Ents} {cyc lost per : Int} (hl : 0 ≤ lost) (hc : 1 ≤ cyc) (hp : 1 ≤ per) : 0 ≤ rateS es cyc lost per ∧ rateS es cyc lost per * per ≤ 1048576 ∧ rateS es cyc lost per * per * cyc ≤ yieldS es cyc lost * 1048576 := by
  have hy := yield_rng (es := es) hl (show 0 ≤ cyc by omega)
  have hcp : 0 < cyc * per := Int.mul_pos (by omega) (by omega)
  have h0 : 0 ≤ rateS es cyc lost per := Int.ediv_nonneg (by omega) (by omega)
  have h1 : rateS es cyc lost per * (cyc * per) ≤ yieldS es cyc lost * 1048576 := Int.ediv_mul_le _ (by omega)
  have e : rateS es cyc lost per * (cyc * per) = rateS es cyc lost per * per * cyc := by rw [Int.mul_comm cyc per, Int.mul_assoc]
  rw [e] at h1
  refine ⟨h0, ?_, h1⟩
  have h2 : rateS es cyc lost per * per * cyc ≤ 1048576 * cyc := by omega
  exact Int.le_of_mul_le_mul_right h2 (by omega)
theorem sumR_part (lost : Int) (L : List (Int × Int)) (a m : Nat) : 0 ≤ sumR lost ((L.drop a).take m) ∧ sumR lost ((L.drop a).take m) ≤ sumR lost L := by
  have h1 := sumR_take lost (L.drop a) m
  have h := sumR_append lost (L.take a) (L.drop a)
  rw [List.take_append_drop] at h
  have := sumR_nonneg lost (L.take a)
  omega
theorem atR_drop (L : List (Int × Int)) (a m : Nat) : atR (L.drop a) m = atR L (a + m) := by unfold atR; rw [List.getD_eq_getElem?_getD, List.getD_eq_getElem?_getD, List.getElem?_drop]
theorem gotP_sum {L : List (Int × Int)} {lost : Int} {i : Nat} : ∀ {m : Nat}, i + 1 + m ≤ L.length → gotP L lost i m = sumR lost ((L.drop (i + 1)).take m)
  | 0, _ => by simp [gotP, sumR_nil]
  | m + 1, h => by
    unfold gotP
    rw [gotP_sum (by omega), sumR_succ lost (by rw [List.length_drop]; omega), atR_drop]
theorem dbl_len (cyc : Int) (l : List (Int × Int)) : (dblR cyc l).length = 2 * l.length := by unfold dblR shl; simp; omega
theorem dbl_lo {cyc : Int} {l : List (Int × Int)} {k : Nat} (h : k < l.length) : atR (dblR cyc l) k = atR l k := by
  unfold atR dblR; rw [List.getD_eq_getElem?_getD, List.getD_eq_getElem?_getD, List.getElem?_append_left h]
theorem dbl_hi {cyc : Int} {l : List (Int × Int)} {k : Nat} (h0 : l.length ≤ k) (h : k < 2 * l.length) : atR (dblR cyc l) k = ((atR l (k - l.length)).1 + cyc, (atR l (k - l.length)).2 + cyc) := by
  have h1 : k - l.length < l.length := by omega
  rw [atR_get h1]
  unfold atR dblR shl
  rw [List.getD_eq_getElem?_getD, List.getElem?_append_right h0, List.getElem?_map, List.getElem?_eq_getElem h1]
  rfl
theorem sum_dbl (lost cyc : Int) (l : List (Int × Int)) : sumR lost (dblR cyc l) = 2 * sumR lost l := by unfold dblR; rw [sumR_append, sumR_shl]; omega
structure Dbl (L : List (Int × Int)) (lost : Int) : Prop where
  at_ : ∀ k, k < L.length → 0 ≤ (atR L k).1 ∧ (atR L k).1 < (atR L k).2 ∧ (atR L k).2 ≤ 38400000
  sum : sumR lost L ≤ 38400000
theorem gap_rng {L : List (Int × Int)} {lost R per got : Int} {i k : Nat} (hL : Dbl L lost) (hl : 0 ≤ lost ∧ lost ≤ 1542000) (hi : i < L.length) (hk : k < L.length) (hR : 0 ≤ R) (hp : 1 ≤ per) (hRp : R * per ≤ 1048576) (hg : 0 ≤ got) :
    gapP L lost R per i k got ≤ 41943040000000 := by
  have h1 := hL.at_ i hi
  have h2 := hL.at_ k hk
  have := (prod_rng (x := min (atR L k).2 ((atR L k).1 + lost) - max (atR L i).1 ((atR L i).2 - lost)) (X := 40000000) (by omega) hR hp hRp).2
  unfold gapP; omega
theorem got_rng {L : List (Int × Int)} {lost : Int} {i m : Nat} (hL : Dbl L lost) (h : i + 1 + m ≤ L.length) : 0 ≤ gotP L lost i m ∧ gotP L lost i m ≤ 38400000 := by
  rw [gotP_sum h]; have := sumR_part lost L (i + 1) m; have := hL.sum; omega
theorem wIn_rng {L : List (Int × Int)} {lost R per w : Int} {i : Nat} (hL : Dbl L lost) (hl : 0 ≤ lost ∧ lost ≤ 1542000) (hR : 0 ≤ R) (hp : 1 ≤ per) (hRp : R * per ≤ 1048576) (hw : 0 ≤ w ∧ w ≤ 41943040000000) : ∀ m, i + 1 + m ≤ L.length → 0 ≤ wIn L lost R per i w m ∧ wIn L lost R per i w m ≤ 41943040000000
  | 0, _ => hw
  | m + 1, h => by
    have ih := wIn_rng (i := i) hL hl hR hp hRp hw m (by omega)
    have hg := gap_rng (i := i) (k := i + 1 + m) hL hl (by omega) (by omega) hR hp hRp (got_rng hL (show i + 1 + m ≤ L.length by omega)).1
    unfold wIn; omega
theorem wOut_rng {L : List (Int × Int)} {lost R per : Int} {n : Nat} (hL : Dbl L lost) (hn : L.length = 2 * n) (hl : 0 ≤ lost ∧ lost ≤ 1542000) (hR : 0 ≤ R) (hp : 1 ≤ per) (hRp : R * per ≤ 1048576) : ∀ i, i ≤ n → 0 ≤ wOut L lost R per n i ∧ wOut L lost R per n i ≤ 41943040000000
  | 0, _ => by unfold wOut; omega
  | i + 1, h => wIn_rng hL hl hR hp hRp (wOut_rng hL hn hl hR hp hRp i (by omega)) n (by omega)
section
variable {es : Ents} {cyc : Int}
theorem round_is (hG : okG es cyc = true) : Runs (op6 es cyc) (closedE es) (closedE es + cyc) (roundR es cyc) ∧ 0 ≤ closedE es ∧ closedE es ≤ cyc := by
  have := closed_rng (okG_parts hG).2.2.1
  have hs := (okG_parts hG).2.2.2.1
  exact ⟨runs_is _ _ _, by omega, by omega⟩
theorem dbl_facts (hG : okG es cyc = true) {lost : Int} (hl : 0 ≤ lost) : Dbl (dblR cyc (roundR es cyc)) lost := by
  obtain ⟨hR, h0, h1⟩ := round_is hG
  have hc := okG_cyc hG
  refine ⟨fun k hk => ?_, ?_⟩
  · rw [dbl_len] at hk
    by_cases h : k < (roundR es cyc).length
    · rw [dbl_lo h]; have := hR.at_ h; omega
    · rw [dbl_hi (by omega) hk]; have := hR.at_ (k := k - (roundR es cyc).length) (by omega); simp only; omega
  · rw [sum_dbl]; have := hR.bound hl (by omega); omega
end
end Go.Sv
