/-
  The texts SwPlain3 to SvPlain10, one after the other.
-/
import Derived.Test.YtgaliocgkjghnaaSwPlain2ToSvPlain2
import Derived.Test.YtgaliocgkjghnaaSvPlain7
/-
  Fits, in plain terms.
-/
namespace Go.Sw
open Go Go.Eng Go.Gt Go.Proofs.Gt
theorem atC_rng {c : Ch} (h : OkC c) (x : Int) : 0 ≤ atC c x ∧ atC c x ≤ 255 := by
  rw [atC_gl]; exact state_rng (h.gl x) _
theorem stL_mem {c : Ch} {e : Int} : ∀ (k : Nat) (x m : Int), m ∈ stL c e k x → ∃ y, m = atC c y
  | 0, x, m, h => by simp [stL] at h
  | k + 1, x, m, h => by
    unfold stL at h
    split at h
    · rcases List.mem_cons.1 h with rfl | h
      · exact ⟨x, rfl⟩
      · exact stL_mem k _ m h
    · simp at h
theorem stW_rng {c : Ch} (h : OkC c) {e x : Int} {k : Nat} (hk : k < (stW c e x).length) : 0 ≤ (stW c e x).getD k 0 ∧ (stW c e x).getD k 0 ≤ 255 := by
  have hm : (stW c e x).getD k 0 ∈ stW c e x := by
    rw [List.getD_eq_getElem?_getD, List.getElem?_eq_getElem hk]; exact List.getElem_mem _
  obtain ⟨y, hy⟩ := stL_mem _ _ _ hm
  rw [hy]; exact atC_rng h y
theorem fitB_false {c : Ch} {cl t lg : Int} {k : Nat} (hk : k < (stW c (t + lg) t).length) (hb : bitE ((stW c (t + lg) t).getD k 0) cl = false) : fitB c cl t lg = false := by
  unfold fitB
  rw [List.all_eq_false]
  refine ⟨_, List.getElem_mem hk, ?_⟩
  rw [List.getD_eq_getElem?_getD, List.getElem?_eq_getElem hk] at hb
  simpa using hb
theorem fitB_true {c : Ch} {cl t lg : Int} (h : ∀ i, i < (stW c (t + lg) t).length → bitE ((stW c (t + lg) t).getD i 0) cl = true) : fitB c cl t lg = true := by
  unfold fitB
  rw [List.all_eq_true]
  intro m hm
  obtain ⟨i, hi, rfl⟩ := List.getElem_of_mem hm
  have := h i hi
  rwa [List.getD_eq_getElem?_getD, List.getElem?_eq_getElem hi] at this
theorem end_facts {c : Ch} {e x : Int} (hx : x < e) : x < endC c e x ∧ endC c e x ≤ e ∧ ∀ y, x ≤ y → y < endC c e x → onAd c y = onAd c x := by
  unfold endC
  cases ho : onAd c x with
  | true =>
    rw [if_pos rfl]
    refine ⟨hx, Int.le_refl _, fun y h1 h2 => ?_⟩
    unfold onAd at ho ⊢; simp at ho ⊢; exact ⟨ho.1, by omega⟩
  | false =>
    rw [if_neg (by simp)]
    unfold onAd at ho
    cases hp : c.pe with
    | true =>
      rw [hp] at ho; simp at ho
      rw [if_pos rfl]
      refine ⟨by omega, by omega, fun y h1 h2 => ?_⟩
      unfold onAd; rw [hp]; simp; omega
    | false =>
      rw [if_neg (by simp)]
      refine ⟨hx, Int.le_refl _, fun y h1 h2 => ?_⟩
      unfold onAd; rw [hp]; simp
theorem ref_next {c : Ch} (h : OkC c) {e x : Int} (hx : x < e) {g : Gl} {b en : Int} (h1 : glC c x = g) (h2 : begC c x = b) (h3 : endC c e x = en) :
    ∃ hi : (loc g.es g.cyc (x - b)).1 < g.es.length, (0 ≤ (loc g.es g.cyc (x - b)).2 ∧ (loc g.es g.cyc (x - b)).2 < (g.es[(loc g.es g.cyc (x - b)).1]).2) ∧ (g.es[(loc g.es g.cyc (x - b)).1]).1 = atC c x ∧ (1 ≤ (g.es[(loc g.es g.cyc (x - b)).1]).2 ∧ (g.es[(loc g.es g.cyc (x - b)).1]).2 ≤ 9600000) ∧
      x < min en (x - (loc g.es g.cyc (x - b)).2 + (g.es[(loc g.es g.cyc (x - b)).1]).2) ∧ ∀ y, x ≤ y → y < min en (x - (loc g.es g.cyc (x - b)).2 + (g.es[(loc g.es g.cyc (x - b)).1]).2) → atC c y = atC c x := by
  have hG := h.gl x
  rw [h1] at hG
  obtain ⟨hi, hy0, hy1, _⟩ := loc_spec hG (x - b)
  have hen := end_facts (c := c) hx
  rw [h3] at hen
  have he := okE_get (okG_parts hG).2.2.1 hi
  have hst : stateE g.es g.cyc (x - b) = (g.es[(loc g.es g.cyc (x - b)).1]).1 := by
    rw [stateE, List.getD_eq_getElem?_getD, List.getElem?_eq_getElem hi]; rfl
  have hax : atC c x = stateE g.es g.cyc (x - b) := by rw [atC_gl, h1, h2]
  refine ⟨hi, ⟨hy0, hy1⟩, by rw [hax, hst], ⟨he.2.2.1, he.2.2.2⟩, by omega, fun y k1 k2 => ?_⟩
  have ho := hen.2.2 y k1 (by omega)
  have hay : atC c y = stateE g.es g.cyc (y - b) := by
    rw [atC_gl, ← h1, ← h2]
    unfold glC begC
    rw [ho]
  have hb0 := beg_zero (es := g.es) (cyc := g.cyc) (x - b)
  have hb1 := beg_succ g.es g.cyc (x - b) 0
  have he0 : ent g.es (loc g.es g.cyc (x - b)).1 0 = g.es[(loc g.es g.cyc (x - b)).1] := by
    rw [ent_zero hG, List.getD_eq_getElem?_getD, List.getElem?_eq_getElem hi]; rfl
  rw [he0] at hb1
  rw [hay, state_cover hG (x - b) (i := 0) (Nat.zero_le _) (by omega) (by rw [Nat.zero_add] at hb1 ⊢; omega), hax, hst, he0]
/-- A change that a draft describes, in so far as the laws look at it. -/
structure DrOk (c : Ch) : Prop where
  ok : okC c = true
  n1 : c.op.n ≤ 16
  n2 : c.ad.n ≤ 16
  c1 : 1 ≤ c.op.cyc ∧ c.op.cyc ≤ 320
  c2 : 0 ≤ c.ad.cyc ∧ c.ad.cyc ≤ 320
  base : -32768 ≤ c.base ∧ c.base ≤ 32767
  wh : -100000 ≤ c.wh ∧ c.wh ≤ 100000
def bendC (what N : Int) (g : Gl) (c : Ch) : Ch :=
  if what % 6 = 0 then { c with op := g } else if what % 6 = 1 then { c with ad := g } else if what % 6 = 2 then { c with base := N } else if what % 6 = 3 then { c with wh := N }
  else if what % 6 = 4 then { c with pe := !c.pe } else { c with wh := c.wh + N.tmod 3 }
theorem tm3 (d : Int) : -3 < d.tmod 3 ∧ d.tmod 3 < 3 := by
  have h1 := Int.tmod_lt_of_pos d (b := 3) (by decide)
  have h2 : (-d).tmod 3 < 3 := Int.tmod_lt_of_pos (-d) (by decide)
  rw [Int.neg_tmod] at h2
  omega
theorem bend_k {F : Know} {what N : Int} {g : Gl} {c : Ch} (hg : GlK F g) (hC : ChK F c) : ChK F (bendC what N g c) := by
  unfold bendC
  repeat' split
  · exact ⟨hg, hC.ad⟩
  · exact ⟨hC.op, hg⟩
  all_goals exact ⟨hC.op, hC.ad⟩
theorem bend_n {what N : Int} {g : Gl} {c : Ch} (hg : g.n ≤ 130) (h1 : c.op.n ≤ 130) (h2 : c.ad.n ≤ 130) : (bendC what N g c).op.n ≤ 130 ∧ (bendC what N g c).ad.n ≤ 130 := by
  unfold bendC
  repeat' split
  all_goals exact ⟨by assumption, by assumption⟩
theorem GlK.takeK {F : Know} {g : Gl} (h : GlK F g) (k : Nat) : GlK F { g with n := min k g.n, es := g.es.take k } := EntK.take h k
end Go.Sw
namespace Go.Sw
open Go Go.Eng Go.Gt Go.Proofs.Gt
theorem new_k {F : Know} {g : Gl} {t : Int} (hg : GlK F g) : ChK F (newC g t).1 := by
  unfold newC
  repeat' split
  · exact ⟨hg, g0_k F⟩
  · exact c0_k F
  · exact c0_k F
theorem new_n {g : Gl} {t : Int} (hg : g.n ≤ 130) : (newC g t).1.op.n ≤ 100000 ∧ (newC g t).1.ad.n ≤ 100000 := by
  unfold newC
  repeat' split
  · exact ⟨by dsimp only; omega, Nat.zero_le _⟩
  · exact ⟨Nat.zero_le _, Nat.zero_le _⟩
  · exact ⟨Nat.zero_le _, Nat.zero_le _⟩
theorem tmK (d : Int) {k : Int} (hk : 0 < k) : -k < d.tmod k ∧ d.tmod k < k := by
  have h1 := Int.tmod_lt_of_pos d (b := k) hk
  have h2 : (-d).tmod k < k := Int.tmod_lt_of_pos (-d) hk
  rw [Int.neg_tmod] at h2
  omega
end Go.Sw
namespace Go.Sw
open Go Go.Eng
theorem u64w (x : Int) : 0 ≤ IntKind.u64.wrap x ∧ IntKind.u64.wrap x ≤ 18446744073709551615 := by
  simp only [IntKind.wrap, IntKind.signed, IntKind.bits]
  simp
  omega
end Go.Sw

/-
  What Advance and Set do, in plain terms.
-/
namespace Go.Sw
open Go Go.Eng Go.Gt Go.Proofs.Gt
theorem onL_iff {c : Ch} {now : Int} : (c.pe && decide (c.wh ≤ now ∧ c.wh ≤ 1099511627776)) = true ↔ c.pe = true ∧ c.wh ≤ now ∧ c.wh ≤ 1099511627776 := by simp
theorem later_ok {c : Ch} (h : OkC c) (now : Int) : OkC (laterC c now) := by
  unfold laterC
  split
  · rename_i hl
    obtain ⟨h1, h2, h3⟩ := onL_iff.1 hl
    have := h.wh
    exact ⟨h.ad h1, ⟨by dsimp only; omega, by dsimp only; omega⟩, (fun e => by cases e), ⟨by dsimp only; omega, by dsimp only; omega⟩, (fun e => by cases e), fun _ => ⟨rfl, rfl, rfl⟩⟩
  · exact h
theorem later_at {c : Ch} (now : Int) {y : Int} (hy : now ≤ y) : atC (laterC c now) y = atC c y := by
  unfold laterC
  split
  · rename_i hl
    obtain ⟨h1, h2, h3⟩ := onL_iff.1 hl
    have ho : onAd c y = true := by unfold onAd; rw [h1]; simp; omega
    have hn : onAd (⟨c.ad, c.wh, false, g0, 0⟩ : Ch) y = false := rfl
    unfold atC
    rw [ho, hn]; rfl
  · rfl
theorem later_k {F : Know} {c : Ch} (h : ChK F c) (now : Int) : ChK F (laterC c now) := by
  unfold laterC
  split
  · exact ⟨h.ad, g0_k F⟩
  · exact h
theorem later_cyc {c : Ch} (h : OkC c) (h1 : c.op.cyc ≤ 320) (h2 : c.ad.cyc ≤ 320) (now : Int) : 1 ≤ (laterC c now).op.cyc ∧ (laterC c now).op.cyc ≤ 320 := by
  have hk := okG_cyc (later_ok h now).op
  refine ⟨hk.1, ?_⟩
  unfold laterC
  split
  · exact h2
  · exact h1
theorem later_base {c : Ch} {lo hi : Int} (h1 : lo ≤ c.base ∧ c.base ≤ hi) (h2 : lo ≤ c.wh ∧ c.wh ≤ hi) (now : Int) : lo ≤ (laterC c now).base ∧ (laterC c now).base ≤ hi := by
  unfold laterC
  split
  · exact h2
  · exact h1
theorem okT_of {t : Int} (h : -1099511627776 ≤ t ∧ t ≤ 1099511627776) : okTm t = true := decide_eq_true h
theorem mask_val {c : Ch} (h : OkC c) {t : Int} (ht : -1099511627776 ≤ t ∧ t ≤ 1099511627776) : (if (maskC c t).2 = 0 then (maskC c t).1 else -1) = atC c t := by
  unfold maskC; rw [okC_iff.2 h, okT_of ht]; rfl
theorem adv_val {c : Ch} (h : OkC c) {now : Int} (hn : -1099511627776 ≤ now ∧ now ≤ 1099511627776) : advC c now = (laterC c now, 0) := by
  unfold advC; rw [okC_iff.2 h, okT_of hn]; rfl
theorem set_val {c : Ch} (h : OkC c) {now base : Int} {g : Gl} (hn : -1099511627776 ≤ now ∧ now ≤ 1099511627776) (hg : okG g.es g.cyc = true) (hb : -1099511627776 ≤ base ∧ base ≤ 1099511627776) : setC c now g base = (setB (laterC c now) now g base, 0) := by
  unfold setC; rw [okC_iff.2 h, okT_of hn, hg, okT_of hb]; rfl
theorem setB_wh {a : Ch} {now base : Int} {g : Gl} (h : OkC a) : max now base ≤ (setB a now g base).wh ∧ (setB a now g base).wh - a.op.cyc < max now base ∧ ((setB a now g base).wh - a.base) % a.op.cyc = 0 := by
  have hc := okG_cyc h.op
  have h1 := Int.emod_nonneg (a.base - max now base) (show a.op.cyc ≠ 0 by omega)
  have h2 := Int.emod_lt_of_pos (a.base - max now base) (show 0 < a.op.cyc by omega)
  have h3 := Int.mul_ediv_add_emod (a.base - max now base) a.op.cyc
  refine ⟨?_, ?_, ?_⟩
  · show max now base ≤ max now base + _; omega
  · show max now base + _ - a.op.cyc < max now base; omega
  · show (max now base + (a.base - max now base) % a.op.cyc - a.base) % a.op.cyc = 0
    rw [show max now base + (a.base - max now base) % a.op.cyc - a.base = 0 + a.op.cyc * (-((a.base - max now base) / a.op.cyc)) by rw [Int.mul_neg]; omega, Int.add_mul_emod_self_left]
    rfl
theorem setB_ok {a : Ch} {now base : Int} {g : Gl} (h : OkC a) (hn : -1099511627776 ≤ now ∧ now ≤ 1099511627776) (hg : okG g.es g.cyc = true) (hb : -1099511627776 ≤ base ∧ base ≤ 1099511627776) : OkC (setB a now g base) := by
  obtain ⟨w1, w2, w3⟩ := setB_wh (now := now) (base := base) (g := g) h
  have hc := okG_cyc h.op
  exact ⟨h.op, h.base, fun _ => hg, ⟨by omega, by omega⟩, fun _ => w3, fun e => by cases e⟩
theorem setB_before {a : Ch} {now base y : Int} {g : Gl} (hy : y < (setB a now g base).wh) : atC (setB a now g base) y = stateE a.op.es a.op.cyc (y - a.base) := by
  have ho : onAd (setB a now g base) y = false := by
    unfold onAd
    rw [decide_eq_false (by omega), Bool.and_false]
  unfold atC; rw [ho]; rfl
theorem setB_from {a : Ch} {now base on : Int} {g : Gl} (h : 0 ≤ on) : atC (setB a now g base) ((setB a now g base).wh + on) = stateE g.es g.cyc on := by
  have ho : onAd (setB a now g base) ((setB a now g base).wh + on) = true := by
    unfold onAd
    rw [decide_eq_true (by omega), Bool.and_true]; rfl
  unfold atC; rw [ho]
  show stateE g.es g.cyc ((setB a now g base).wh + on - (setB a now g base).wh) = _
  congr 1; omega
def bareC (a : Ch) : Ch := { a with pe := false, ad := g0, wh := 0 }
theorem bare_ok {a : Ch} (h : OkC a) : OkC (bareC a) := ⟨h.op, h.base, (fun e => by cases e), ⟨by show (-1099511627776 : Int) ≤ 0; decide, by show (0 : Int) ≤ 2199023255552; decide⟩, (fun e => by cases e), fun _ => ⟨rfl, rfl, rfl⟩⟩
theorem bare_at (a : Ch) (y : Int) : atC (bareC a) y = stateE a.op.es a.op.cyc (y - a.base) := rfl
def freshC (g : Gl) : Ch := ⟨g, 0, false, g0, 0⟩
theorem fresh_ok {g : Gl} (h : okG g.es g.cyc = true) : OkC (freshC g) := ⟨h, ⟨by show (-1099511627776 : Int) ≤ 0; decide, by show (0 : Int) ≤ 1099511627776; decide⟩, (fun e => by cases e), ⟨by show (-1099511627776 : Int) ≤ 0; decide, by show (0 : Int) ≤ 2199023255552; decide⟩, (fun e => by cases e), fun _ => ⟨rfl, rfl, rfl⟩⟩
theorem fresh_at (g : Gl) (y : Int) : atC (freshC g) y = stateE g.es g.cyc y := by
  show stateE g.es g.cyc (y - 0) = _
  rw [Int.sub_zero]
theorem tmod_zero {a m : Int} (_hm : 0 < m) (h : a % m = 0) : a.tmod m = 0 := by
  have := Int.dvd_of_emod_eq_zero h
  exact Int.tmod_eq_zero_of_dvd this
theorem check_val {c : Ch} (h : OkC c) : checkC c = 0 := by unfold checkC; rw [okC_iff.2 h]; rfl
theorem agg_inj {l m : List Value} (h : Value.agg l.toArray = .agg m.toArray) : l = m := by injection h with h; simpa using h
/-- Fits, as the law counts it. -/
theorem fit_all {c : Ch} (h : OkC c) {cl t : Int} {n : Nat} {b : Bool} (hb : b = true ↔ ∀ j : Nat, j < n → bitE (atC c (t + j)) cl = true) : fitB c cl t n = b := by
  rw [Bool.eq_iff_iff, fitB_iff h, hb]
  constructor
  · intro hh j hj; exact hh _ (by omega) (by omega)
  · intro hh y h1 h2
    have := hh (y - t).toNat (by omega)
    rwa [show t + ((y - t).toNat : Int) = y by omega] at this
theorem fits_val {c : Ch} (h : OkC c) {cl t lg : Int} (hcl : 0 ≤ cl ∧ cl ≤ 7) (ht : -1099511627776 ≤ t ∧ t ≤ 1099511627776) (hl : 0 ≤ lg ∧ lg ≤ 4 * c.op.cyc) : ((fitsC c cl t lg).1 && decide ((fitsC c cl t lg).2 = 0)) = fitB c cl t lg := by
  have ha : argF c cl t lg = true := by unfold argF; rw [okT_of ht]; simp; omega
  unfold fitsC; rw [okC_iff.2 h, ha]; simp
end Go.Sw

/-
  The program's service is the reference's.
-/
namespace Go.Sv
open Go Go.Eng Go.Gt Go.Proofs.Gt Go.Sw
variable {p : Int → Bool}
theorem Runs.from_le {a b : Int} {l : List (Int × Int)} (h : Runs p a b l) {j : Nat} (hj : j < l.length) : a ≤ (atR l j).1 := (h.at_ hj).1
theorem Runs.ord {a b : Int} {l : List (Int × Int)} (h : Runs p a b l) : ∀ {i j : Nat}, i < j → j < l.length → (atR l i).2 ≤ (atR l j).1 := by
  induction h with
  | nil h => intro i j _ hj; simp at hj
  | cons g1 g2 g3 g4 g5 g6 g7 ih =>
    rename_i a b s e r
    intro i j hij hj
    cases j with
    | zero => omega
    | succ j =>
      have hj' : j < r.length := by simpa using hj
      cases i with
      | zero => exact g7.from_le hj'
      | succ i => exact ih (by omega) hj'
theorem mem_at {L : List (Int × Int)} {x : Int × Int} (h : x ∈ L) : ∃ j, j < L.length ∧ x = atR L j := by
  obtain ⟨j, hj, rfl⟩ := List.getElem_of_mem h
  exact ⟨j, hj, (atR_get hj).symm⟩
theorem mem_take {L : List (Int × Int)} {a : Nat} {x : Int × Int} (h : x ∈ L.take a) : ∃ j, j < a ∧ j < L.length ∧ x = atR L j := by
  obtain ⟨j, hj, rfl⟩ := mem_at h
  rw [List.length_take] at hj
  refine ⟨j, by omega, by omega, ?_⟩
  unfold atR; rw [List.getD_eq_getElem?_getD, List.getD_eq_getElem?_getD, List.getElem?_take, if_pos (by omega)]
theorem mem_drop {L : List (Int × Int)} {a : Nat} {x : Int × Int} (h : x ∈ L.drop a) : ∃ j, a ≤ j ∧ j < L.length ∧ x = atR L j := by
  obtain ⟨j, hj, rfl⟩ := mem_at h
  rw [List.length_drop] at hj
  exact ⟨a + j, by omega, by omega, atR_drop _ _ _⟩
theorem mem_mid {L : List (Int × Int)} {a m : Nat} {x : Int × Int} (h : x ∈ (L.drop a).take m) : ∃ j, a ≤ j ∧ j < a + m ∧ j < L.length ∧ x = atR L j := by
  obtain ⟨j, hj, hj2, rfl⟩ := mem_take h
  rw [List.length_drop] at hj2
  exact ⟨a + j, by omega, by omega, by omega, atR_drop _ _ _⟩
theorem sum_zero {f : Int × Int → Int} : ∀ {l : List (Int × Int)}, (∀ x ∈ l, f x = 0) → (l.map f).sum = 0
  | [], _ => rfl
  | x :: l, h => by rw [List.map_cons, List.sum_cons, h x List.mem_cons_self, sum_zero fun y hy => h y (List.mem_cons_of_mem _ hy)]; rfl
/-- Where an opening's rest is lost; where its first part is. -/
def frL (L : List (Int × Int)) (lost : Int) (i : Nat) : Int := max (atR L i).1 ((atR L i).2 - lost)
def toL (L : List (Int × Int)) (lost : Int) (k : Nat) : Int := min (atR L k).2 ((atR L k).1 + lost)
theorem split3 (f : Int × Int → Int) (L : List (Int × Int)) (a m : Nat) : (L.map f).sum = ((L.take a).map f).sum + (((L.drop a).take m).map f).sum + ((L.drop (a + m)).map f).sum := by
  have h1 : L = L.take a ++ ((L.drop a).take m ++ (L.drop a).drop m) := by rw [List.take_append_drop, List.take_append_drop]
  conv => lhs; rw [h1]
  rw [List.map_append, List.map_append, List.sum_append, List.sum_append, List.drop_drop]
  omega
/-- The sum over a critical interval. -/
theorem crit_sum {A B lost : Int} {L : List (Int × Int)} (h : Runs p A B L) (hl : 0 ≤ lost) {i m : Nat} (hk : i + 1 + m < L.length) : sumR lost (runs p (frL L lost i) (toL L lost (i + 1 + m))) = gotP L lost i m := by
  have hi := h.at_ (k := i) (by omega)
  have hkk := h.at_ hk
  have hik := h.ord (show i < i + 1 + m by omega) hk
  rw [h.cuts hl (a := frL L lost i) (b := toL L lost (i + 1 + m)) (by unfold frL; omega) (by unfold frL toL; omega) (by unfold toL; omega), gotP_sum (by omega), split3 _ L (i + 1) m]
  rw [sum_zero (l := L.take (i + 1)) (fun x hx => ?_), sum_zero (l := L.drop (i + 1 + m)) (fun x hx => ?_)]
  · rw [Int.zero_add, Int.add_zero]
    unfold sumR
    congr 1
    refine List.map_congr_left fun x hx => ?_
    obtain ⟨j, h1, h2, h3, rfl⟩ := mem_mid hx
    have o1 := h.ord (show i < j by omega) h3
    have o2 := h.ord (show j < i + 1 + m by omega) hk
    have o3 := h.at_ h3
    unfold cut frL toL; congr 1; omega
  · obtain ⟨j, h1, h2, rfl⟩ := mem_drop hx
    have o3 := h.at_ h2
    by_cases e : j = i + 1 + m
    · subst e; unfold cut giv frL toL; omega
    · have o1 := h.ord (show i + 1 + m < j by omega) h2
      unfold cut giv frL toL; omega
  · obtain ⟨j, h1, h2, rfl⟩ := mem_take hx
    have o3 := h.at_ h2
    by_cases e : j = i
    · subst e; unfold cut giv frL toL; omega
    · have o1 := h.ord (show j < i by omega) (show i < L.length by omega)
      unfold cut giv frL toL; omega
theorem crit_self {A B lost : Int} {L : List (Int × Int)} (h : Runs p A B L) (hl : 0 ≤ lost) {i : Nat} (hi : i < L.length) (hlt : frL L lost i < toL L lost i) : sumR lost (runs p (frL L lost i) (toL L lost i)) = 0 := by
  have hii := h.at_ hi
  rw [h.cuts hl (a := frL L lost i) (b := toL L lost i) (by unfold frL; omega) (by omega) (by unfold toL; omega)]
  refine sum_zero fun x hx => ?_
  obtain ⟨j, hj, rfl⟩ := mem_at hx
  have o3 := h.at_ hj
  by_cases e : j = i
  · subst e; unfold cut giv frL toL; omega
  · by_cases e2 : j < i
    · have o1 := h.ord e2 hi; unfold cut giv frL toL; omega
    · have o1 := h.ord (show i < j by omega) hj; unfold cut giv frL toL; omega
/-- Over a whole turn. -/
theorem turn_sum {cyc lost : Int} {l : List (Int × Int)} {a : Nat} (ha : a ≤ l.length) : sumR lost (((dblR cyc l).drop a).take l.length) = sumR lost l := by
  unfold dblR
  rw [List.drop_append_of_le_length ha, List.take_append, List.take_of_length_le (by simp), sumR_append]
  have e : (shl cyc l).take (l.length - (l.drop a).length) = shl cyc (l.take a) := by
    unfold shl; rw [← List.map_take]; congr 2; simp; omega
  rw [e, sumR_shl]
  have := sumR_append lost (l.take a) (l.drop a)
  rw [List.take_append_drop] at this
  omega
theorem got_turn {cyc lost : Int} {l : List (Int × Int)} {i m : Nat} (h : i + 1 + (m + l.length) ≤ 2 * l.length) : gotP (dblR cyc l) lost i (m + l.length) = gotP (dblR cyc l) lost i m + sumR lost l := by
  rw [gotP_sum (by rw [dbl_len]; omega), gotP_sum (by rw [dbl_len]; omega), List.take_add, sumR_append, List.drop_drop, turn_sum (by omega)]
section
variable {L : List (Int × Int)} {lost R per X : Int}
theorem wIn_le {i : Nat} {w : Int} : ∀ {m : Nat}, wIn L lost R per i w m ≤ X ↔ w ≤ X ∧ ∀ j, j < m → gapP L lost R per i (i + 1 + j) (gotP L lost i j) ≤ X
  | 0 => by simp [wIn]
  | m + 1 => by
    unfold wIn
    rw [Int.max_le, wIn_le (m := m)]
    constructor
    · rintro ⟨⟨h1, h2⟩, h3⟩
      exact ⟨h1, fun j hj => by by_cases e : j = m; · rw [e]; exact h3
                                · exact h2 j (by omega)⟩
    · rintro ⟨h1, h2⟩; exact ⟨⟨h1, fun j hj => h2 j (by omega)⟩, h2 m (by omega)⟩
theorem wOut_le {n : Nat} : ∀ {i : Nat}, wOut L lost R per n i ≤ X ↔ 0 ≤ X ∧ ∀ a, a < i → ∀ j, j < n → gapP L lost R per a (a + 1 + j) (gotP L lost a j) ≤ X
  | 0 => by simp [wOut]
  | i + 1 => by
    unfold wOut
    rw [wIn_le, wOut_le (i := i)]
    constructor
    · rintro ⟨⟨h1, h2⟩, h3⟩
      exact ⟨h1, fun a ha => by by_cases e : a = i; · rw [e]; exact h3
                                · exact h2 a (by omega)⟩
    · rintro ⟨h1, h2⟩; exact ⟨⟨h1, fun a ha => h2 a (by omega)⟩, h2 i (by omega)⟩
variable {es : Ents} {cyc most : Int} {l : List (Int × Int)}
theorem rIn_le {i : Nat} {w : Int} : ∀ {k : Nat}, rIn es cyc per most R l i w k ≤ X ↔ w ≤ X ∧ ∀ j, j < k → fromR l (most * per) i < toR l (most * per) cyc j → termR es cyc per most R l i j ≤ X
  | 0 => by simp [rIn]
  | k + 1 => by
    unfold rIn
    split
    · rename_i hlt
      rw [Int.max_le, rIn_le (k := k)]
      constructor
      · rintro ⟨⟨h1, h2⟩, h3⟩
        exact ⟨h1, fun j hj hf => by by_cases e : j = k; · rw [e]; exact h3
                                     · exact h2 j (by omega) hf⟩
      · rintro ⟨h1, h2⟩; exact ⟨⟨h1, fun j hj => h2 j (by omega)⟩, h2 k (by omega) hlt⟩
    · rename_i hlt
      rw [rIn_le (k := k)]
      constructor
      · rintro ⟨h1, h2⟩
        exact ⟨h1, fun j hj hf => by by_cases e : j = k; · rw [e] at hf; exact absurd hf hlt
                                     · exact h2 j (by omega) hf⟩
      · rintro ⟨h1, h2⟩; exact ⟨h1, fun j hj => h2 j (by omega)⟩
theorem rOut_le : ∀ {i : Nat}, rOut es cyc per most R l i ≤ X ↔ 127 * per * 1048576 ≤ X ∧ ∀ a, a < i → ∀ j, j < 2 * l.length → fromR l (most * per) a < toR l (most * per) cyc j → termR es cyc per most R l a j ≤ X
  | 0 => by simp [rOut]
  | i + 1 => by
    unfold rOut
    rw [rIn_le, rOut_le (i := i)]
    constructor
    · rintro ⟨⟨h1, h2⟩, h3⟩
      exact ⟨h1, fun a ha => by by_cases e : a = i; · rw [e]; exact h3
                                · exact h2 a (by omega)⟩
    · rintro ⟨h1, h2⟩; exact ⟨⟨h1, fun a ha => h2 a (by omega)⟩, h2 i (by omega)⟩
theorem frR {i : Nat} (hi : i < l.length) : fromR l lost i = frL (dblR cyc l) lost i := by unfold fromR frL; rw [dbl_lo hi]; omega
theorem toRL {k : Nat} (hk : k < 2 * l.length) : toR l lost cyc k = toL (dblR cyc l) lost k := by
  unfold toR toL
  by_cases h : k < l.length
  · rw [dbl_lo h, Nat.mod_eq_of_lt h, Nat.div_eq_of_lt h]; simp only [Int.natCast_zero, Int.zero_mul]; omega
  · have h1 : k % l.length = k - l.length := by rw [Nat.mod_eq_sub_mod (by omega), Nat.mod_eq_of_lt (by omega)]
    have h2 : k / l.length = 1 := by rw [Nat.div_eq_sub_div (by omega) (by omega), Nat.div_eq_of_lt (by omega)]
    rw [dbl_hi (by omega) hk, h1, h2]; simp only [Int.natCast_one, Int.one_mul]; omega
end
theorem add_term (x cyc R per : Int) : (x + cyc) * R * per = x * R * per + R * per * cyc := by
  rw [Int.add_mul, Int.add_mul, Int.mul_comm cyc R, Int.mul_assoc R cyc, Int.mul_comm cyc per, ← Int.mul_assoc R]
section
variable {es : Ents} {cyc : Int}
theorem dbl_runs (hG : okG es cyc = true) (hal : alwE es = false) : Runs (op6 es cyc) (closedE es) (closedE es + 2 * cyc) (dblR cyc (roundR es cyc)) := by
  have hcf := closed_facts hG hal
  have hc := okG_cyc hG
  have h1 := (round_is hG).1
  have h2 := h1.shift (d := cyc) (op_per es cyc)
  rw [show closedE es + 2 * cyc = closedE es + cyc + cyc by omega]
  exact h1.append (by omega) (by omega) (fun _ => by rw [op_per]; exact hcf.2.2) h2
theorem worst_eq (hG : okG es cyc = true) (hal : alwE es = false) {per most R : Int} (hl : 1 ≤ most * per) (hR : 0 ≤ R) (hp : 1 ≤ per) (hY : R * per * cyc ≤ yieldS es cyc (most * per) * 1048576) :
    rOut es cyc per most R (roundR es cyc) (roundR es cyc).length = 127 * per * 1048576 + wOut (dblR cyc (roundR es cyc)) (most * per) R per (roundR es cyc).length (roundR es cyc).length := by
  have hD := dbl_runs hG hal
  have hc := okG_cyc hG
  have hYe : yieldS es cyc (most * per) = sumR (most * per) (roundR es cyc) := by unfold yieldS; rw [hal]; rfl
  rw [hYe] at hY
  generalize hL : dblR cyc (roundR es cyc) = L at *
  have hLn : L.length = 2 * (roundR es cyc).length := by rw [← hL, dbl_len]
  have hRp : 0 ≤ R * per := Int.mul_nonneg hR (by omega)
  have hfr : ∀ {i : Nat}, i < (roundR es cyc).length → fromR (roundR es cyc) (most * per) i = frL L (most * per) i := fun hi => by rw [← hL]; exact frR hi
  have hto : ∀ {k : Nat}, k < 2 * (roundR es cyc).length → toR (roundR es cyc) (most * per) cyc k = toL L (most * per) k := fun hk => by rw [← hL]; exact toRL hk
  have hterm : ∀ {i m : Nat}, i < (roundR es cyc).length → i + 1 + m < 2 * (roundR es cyc).length → frL L (most * per) i < toL L (most * per) (i + 1 + m) ∧ termR es cyc per most R (roundR es cyc) i (i + 1 + m) = 127 * per * 1048576 + gapP L (most * per) R per i (i + 1 + m) (gotP L (most * per) i m) := by
    intro i m hi hk
    have h1 := hD.at_ (k := i) (by omega)
    have h2 := hD.at_ (k := i + 1 + m) (by omega)
    have h3 := hD.ord (show i < i + 1 + m by omega) (by omega)
    refine ⟨by unfold frL toL; omega, ?_⟩
    unfold termR leastS sumS
    rw [hfr hi, hto hk, hal, show frL L (most * per) i + (toL L (most * per) (i + 1 + m) - frL L (most * per) i) = toL L (most * per) (i + 1 + m) by omega, crit_sum hD (by omega) (by omega)]
    unfold gapP
    rw [show toL L (most * per) (i + 1 + m) - frL L (most * per) i = min (atR L (i + 1 + m)).2 ((atR L (i + 1 + m)).1 + most * per) - max (atR L i).1 ((atR L i).2 - most * per) from rfl]
    simp only [Bool.false_eq_true, if_false]
    omega
  have hgw : ∀ {i j : Nat}, i < (roundR es cyc).length → j < (roundR es cyc).length → gapP L (most * per) R per i (i + 1 + j) (gotP L (most * per) i j) ≤ wOut L (most * per) R per (roundR es cyc).length (roundR es cyc).length := fun hi hj => (wOut_le.1 (Int.le_refl _)).2 _ hi _ hj
  apply Int.le_antisymm
  · refine rOut_le.2 ⟨by have := (wOut_le (L := L) (lost := most * per) (R := R) (per := per) (n := (roundR es cyc).length) (i := (roundR es cyc).length)).1 (Int.le_refl _); omega, fun i hi k hk hf => ?_⟩
    have h1 := hD.at_ (k := i) (by omega)
    have h2 := hD.at_ (k := k) (by omega)
    by_cases hki : k < i
    · have h3 := hD.ord hki (by omega)
      rw [hfr hi, hto hk] at hf
      unfold frL toL at hf; omega
    · by_cases he : k = i
      · subst he
        have h0 := hgw (j := 0) hi (by omega)
        rw [hfr hi, hto hk] at hf
        have h3 := hD.at_ (k := k + 1 + 0) (by omega)
        have h4 := hD.ord (show k < k + 1 + 0 by omega) (by omega)
        unfold termR leastS sumS
        rw [hfr hi, hto hk, hal, show frL L (most * per) k + (toL L (most * per) k - frL L (most * per) k) = toL L (most * per) k by omega, crit_self hD (by omega) (by omega) hf]
        simp only [Bool.false_eq_true, if_false]
        have hmono : (toL L (most * per) k - frL L (most * per) k) * (R * per) ≤ (toL L (most * per) (k + 1 + 0) - frL L (most * per) k) * (R * per) := Int.mul_le_mul_of_nonneg_right (by unfold toL; omega) hRp
        unfold gapP gotP at h0
        rw [show min (atR L (k + 1 + 0)).2 ((atR L (k + 1 + 0)).1 + most * per) - max (atR L k).1 ((atR L k).2 - most * per) = toL L (most * per) (k + 1 + 0) - frL L (most * per) k from rfl, Int.mul_assoc] at h0
        rw [Int.mul_assoc]
        omega
      · obtain ⟨m, rfl⟩ : ∃ m, k = i + 1 + m := ⟨k - i - 1, by omega⟩
        rw [(hterm hi hk).2]
        by_cases hm : m < (roundR es cyc).length
        · have := hgw hi hm; omega
        · obtain ⟨m', rfl⟩ : ∃ m', m = m' + (roundR es cyc).length := ⟨m - (roundR es cyc).length, by omega⟩
          have h0 := hgw (j := m') hi (by omega)
          have hg : gotP L (most * per) i (m' + (roundR es cyc).length) = gotP L (most * per) i m' + sumR (most * per) (roundR es cyc) := by rw [← hL]; exact got_turn (by omega)
          have ht : atR L (i + 1 + (m' + (roundR es cyc).length)) = ((atR L (i + 1 + m')).1 + cyc, (atR L (i + 1 + m')).2 + cyc) := by
            rw [← hL, dbl_hi (by omega) (by omega), dbl_lo (show i + 1 + m' < (roundR es cyc).length by omega), show i + 1 + (m' + (roundR es cyc).length) - (roundR es cyc).length = i + 1 + m' by omega]
          unfold gapP at h0 ⊢
          rw [hg, ht]
          simp only
          rw [show min ((atR L (i + 1 + m')).2 + cyc) ((atR L (i + 1 + m')).1 + cyc + most * per) - max (atR L i).1 ((atR L i).2 - most * per) = (min (atR L (i + 1 + m')).2 ((atR L (i + 1 + m')).1 + most * per) - max (atR L i).1 ((atR L i).2 - most * per)) + cyc by omega]
          rw [add_term]
          omega
  · have hge := (rOut_le (es := es) (cyc := cyc) (per := per) (most := most) (R := R) (l := roundR es cyc) (i := (roundR es cyc).length)).1 (Int.le_refl _)
    have : wOut L (most * per) R per (roundR es cyc).length (roundR es cyc).length ≤ rOut es cyc per most R (roundR es cyc) (roundR es cyc).length - 127 * per * 1048576 := by
      refine wOut_le.2 ⟨by omega, fun i hi j hj => ?_⟩
      have ht := hterm (m := j) hi (by omega)
      have := hge.2 i hi (i + 1 + j) (by omega) (by rw [hfr hi, hto (by omega)]; exact ht.1)
      rw [ht.2] at this
      omega
    omega
theorem rof_eq {per most : Int} : rofS es cyc per most = ofS es cyc per most := by
  unfold rofS ofS
  split
  · rename_i he
    obtain ⟨hG, hA⟩ := errS_zero he
    have hAb := of_decide_eq_true (show decide _ = true from hA)
    have hc := okG_cyc hG
    have hml : 84 * 1 ≤ most * per := Int.mul_le_mul hAb.2.2.1 hAb.1 (by decide) (by omega)
    have hrt := rate_rng (es := es) (cyc := cyc) (lost := most * per) (per := per) (by omega) (by omega) (by omega)
    split
    · rfl
    · congr 3
      unfold worstR worstP
      cases hal : alwE es with
      | true => simp
      | false => simp only [Bool.false_eq_true, if_false]; rw [worst_eq hG hal (by omega) hrt.1 (by omega) hrt.2.2]
  · rfl
end
end Go.Sv
