/-
  What Advance and Set do, in plain terms.
-/
import Derived.Test.YtgaliocgkjghnaaSwPlain3
namespace Go.Sw
open Go Go.Eng Go.Gt Go.Proofs.Gt
theorem onL_iff {c : Ch} {now : Int} : (c.pe && decide (c.wh ≤ now ∧ c.wh ≤ 1099511627776)) = true ↔ c.pe = true ∧ c.wh ≤ now ∧ c.wh ≤ 1099511627776 := by simp
theorem later_ok {c : Ch} (h : OkC c) (now : Int) : OkC (laterC c now) := by
  unfold laterC
  split
  · rename_i hl
    obtain ⟨h1, h2, h3⟩ := onL_iff.1 hl
    have := h.wh
    exact ⟨h.ad h1, ⟨by dsimp only; omega, by dsimp only; omega⟩, (fun e => by cases e), ⟨by dsimp only; omega, by dsimp only; omega⟩, (fun e => by cases e), fun _ => ⟨rfl, rfl, rfl⟩⟩
  · exact h
theorem later_at {c : Ch} (now : Int) {y : Int} (hy : now ≤ y) : atC (laterC c now) y = atC c y := by
  unfold laterC
  split
  · rename_i hl
    obtain ⟨h1, h2, h3⟩ := onL_iff.1 hl
    have ho : onAd c y = true := by unfold onAd; rw [h1]; simp; omega
    have hn : onAd (⟨c.ad, c.wh, false, g0, 0⟩ : Ch) y = false := rfl
    unfold atC
    rw [ho, hn]; rfl
  · rfl
theorem later_k {F : Know} {c : Ch} (h : ChK F c) (now : Int) : ChK F (laterC c now) := by
  unfold laterC
  split
  · exact ⟨h.ad, g0_k F⟩
  · exact h
theorem later_cyc {c : Ch} (h : OkC c) (h1 : c.op.cyc ≤ 320) (h2 : c.ad.cyc ≤ 320) (now : Int) : 1 ≤ (laterC c now).op.cyc ∧ (laterC c now).op.cyc ≤ 320 := by
  have hk := okG_cyc (later_ok h now).op
  refine ⟨hk.1, ?_⟩
  unfold laterC
  split
  · exact h2
  · exact h1
theorem later_base {c : Ch} {lo hi : Int} (h1 : lo ≤ c.base ∧ c.base ≤ hi) (h2 : lo ≤ c.wh ∧ c.wh ≤ hi) (now : Int) : lo ≤ (laterC c now).base ∧ (laterC c now).base ≤ hi := by
  unfold laterC
  split
  · exact h2
  · exact h1
theorem okT_of {t : Int} (h : -1099511627776 ≤ t ∧ t ≤ 1099511627776) : okTm t = true := decide_eq_true h
theorem mask_val {c : Ch} (h : OkC c) {t : Int} (ht : -1099511627776 ≤ t ∧ t ≤ 1099511627776) : (if (maskC c t).2 = 0 then (maskC c t).1 else -1) = atC c t := by
  unfold maskC; rw [okC_iff.2 h, okT_of ht]; rfl
theorem adv_val {c : Ch} (h : OkC c) {now : Int} (hn : -1099511627776 ≤ now ∧ now ≤ 1099511627776) : advC c now = (laterC c now, 0) := by
  unfold advC; rw [okC_iff.2 h, okT_of hn]; rfl
theorem set_val {c : Ch} (h : OkC c) {now base : Int} {g : Gl} (hn : -1099511627776 ≤ now ∧ now ≤ 1099511627776) (hg : okG g.es g.cyc = true) (hb : -1099511627776 ≤ base ∧ base ≤ 1099511627776) : setC c now g base = (setB (laterC c now) now g base, 0) := by
  unfold setC; rw [okC_iff.2 h, okT_of hn, hg, okT_of hb]; rfl
theorem setB_wh {a : Ch} {now base : Int} {g : Gl} (h : OkC a) : max now base ≤ (setB a now g base).wh ∧ (setB a now g base).wh - a.op.cyc < max now base ∧ ((setB a now g base).wh - a.base) % a.op.cyc = 0 := by
  have hc := okG_cyc h.op
  have h1 := Int.emod_nonneg (a.base - max now base) (show a.op.cyc ≠ 0 by omega)
  have h2 := Int.emod_lt_of_pos (a.base - max now base) (show 0 < a.op.cyc by omega)
  have h3 := Int.mul_ediv_add_emod (a.base - max now base) a.op.cyc
  refine ⟨?_, ?_, ?_⟩
  · show max now base ≤ max now base + _; omega
  · show max now base + _ - a.op.cyc < max now base; omega
  · show (max now base + (a.base - max now base) % a.op.cyc - a.base) % a.op.cyc = 0
    rw [show max now base + (a.base - max now base) % a.op.cyc - a.base = 0 + a.op.cyc * (-((a.base - max now base) / a.op.cyc)) by rw [Int.mul_neg]; omega, Int.add_mul_emod_self_left]
    rfl
theorem setB_ok {a : Ch} {now base : Int} {g : Gl} (h : OkC a) (hn : -1099511627776 ≤ now ∧ now ≤ 1099511627776) (hg : okG g.es g.cyc = true) (hb : -1099511627776 ≤ base ∧ base ≤ 1099511627776) : OkC (setB a now g base) := by
  obtain ⟨w1, w2, w3⟩ := setB_wh (now := now) (base := base) (g := g) h
  have hc := okG_cyc h.op
  exact ⟨h.op, h.base, fun _ => hg, ⟨by omega, by omega⟩, fun _ => w3, fun e => by cases e⟩
theorem setB_before {a : Ch} {now base y : Int} {g : Gl} (hy : y < (setB a now g base).wh) : atC (setB a now g base) y = stateE a.op.es a.op.cyc (y - a.base) := by
  have ho : onAd (setB a now g base) y = false := by
    unfold onAd
    rw [decide_eq_false (by omega), Bool.and_false]
  unfold atC; rw [ho]; rfl
theorem setB_from {a : Ch} {now base on : Int} {g : Gl} (h : 0 ≤ on) : atC (setB a now g base) ((setB a now g base).wh + on) = stateE g.es g.cyc on := by
  have ho : onAd (setB a now g base) ((setB a now g base).wh + on) = true := by
    unfold onAd
    rw [decide_eq_true (by omega), Bool.and_true]; rfl
  unfold atC; rw [ho]
  show stateE g.es g.cyc ((setB a now g base).wh + on - (setB a now g base).wh) = _
  congr 1; omega
def bareC (a : Ch) : Ch := { a with pe := false, ad := g0, wh := 0 }
theorem bare_ok {a : Ch} (h : OkC a) : OkC (bareC a) := ⟨h.op, h.base, (fun e => by cases e), ⟨by show (-1099511627776 : Int) ≤ 0; decide, by show (0 : Int) ≤ 2199023255552; decide⟩, (fun e => by cases e), fun _ => ⟨rfl, rfl, rfl⟩⟩
theorem bare_at (a : Ch) (y : Int) : atC (bareC a) y = stateE a.op.es a.op.cyc (y - a.base) := rfl
def freshC (g : Gl) : Ch := ⟨g, 0, false, g0, 0⟩
theorem fresh_ok {g : Gl} (h : okG g.es g.cyc = true) : OkC (freshC g) := ⟨h, ⟨by show (-1099511627776 : Int) ≤ 0; decide, by show (0 : Int) ≤ 1099511627776; decide⟩, (fun e => by cases e), ⟨by show (-1099511627776 : Int) ≤ 0; decide, by show (0 : Int) ≤ 2199023255552; decide⟩, (fun e => by cases e), fun _ => ⟨rfl, rfl, rfl⟩⟩
theorem fresh_at (g : Gl) (y : Int) : atC (freshC g) y = stateE g.es g.cyc y := by
  show stateE g.es g.cyc (y - 0) = _
  rw [Int.sub_zero]
theorem tmod_zero {a m : Int} (_hm : 0 < m) (h : a % m = 0) : a.tmod m = 0 := by
  have := Int.dvd_of_emod_eq_zero h
  exact Int.tmod_eq_zero_of_dvd this
theorem check_val {c : Ch} (h : OkC c) : checkC c = 0 := by unfold checkC; rw [okC_iff.2 h]; rfl
theorem agg_inj {l m : List Value} (h : Value.agg l.toArray = .agg m.toArray) : l = m := by injection h with h; simpa using h
/-- Fits, as the law counts it. -/
theorem fit_all {c : Ch} (h : OkC c) {cl t : Int} {n : Nat} {b : Bool} (hb : b = true ↔ ∀ j : Nat, j < n → bitE (atC c (t + j)) cl = true) : fitB c cl t n = b := by
  rw [Bool.eq_iff_iff, fitB_iff h, hb]
  constructor
  · intro hh j hj; exact hh _ (by omega) (by omega)
  · intro hh y h1 h2
    have := hh (y - t).toNat (by omega)
    rwa [show t + ((y - t).toNat : Int) = y by omega] at this
theorem fits_val {c : Ch} (h : OkC c) {cl t lg : Int} (hcl : 0 ≤ cl ∧ cl ≤ 7) (ht : -1099511627776 ≤ t ∧ t ≤ 1099511627776) (hl : 0 ≤ lg ∧ lg ≤ 4 * c.op.cyc) : ((fitsC c cl t lg).1 && decide ((fitsC c cl t lg).2 = 0)) = fitB c cl t lg := by
  have ha : argF c cl t lg = true := by unfold argF; rw [okT_of ht]; simp; omega
  unfold fitsC; rw [okC_iff.2 h, ha]; simp
end Go.Sw
