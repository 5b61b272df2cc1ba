/-
  The texts SwPlain3 to SvPlain14, one after the other.
-/
import Derived.Test.YtgaliocgkjghnaaSwPlain2ToSvPlain2
import Derived.Test.YtgaliocgkjghnaaSvPlain7
import Derived.Test.YtgaliocgkjghnaaSvPlain8ToSvPlain9
/-
  Fits, in plain terms.
-/
namespace Go.Sw
open Go Go.Eng Go.Gt Go.Proofs.Gt
theorem atC_rng {c : Ch} (h : OkC c) (x : Int) : 0 ≤ atC c x ∧ atC c x ≤ 255 := by
  rw [atC_gl]; exact state_rng (h.gl x) _
theorem stL_mem {c : Ch} {e : Int} : ∀ (k : Nat) (x m : Int), m ∈ stL c e k x → ∃ y, m = atC c y
  | 0, x, m, h => by simp [stL] at h
  | k + 1, x, m, h => by
    unfold stL at h
    split at h
    · rcases List.mem_cons.1 h with rfl | h
      · exact ⟨x, rfl⟩
      · exact stL_mem k _ m h
    · simp at h
theorem stW_rng {c : Ch} (h : OkC c) {e x : Int} {k : Nat} (hk : k < (stW c e x).length) : 0 ≤ (stW c e x).getD k 0 ∧ (stW c e x).getD k 0 ≤ 255 := by
  have hm : (stW c e x).getD k 0 ∈ stW c e x := by
    rw [List.getD_eq_getElem?_getD, List.getElem?_eq_getElem hk]; exact List.getElem_mem _
  obtain ⟨y, hy⟩ := stL_mem _ _ _ hm
  rw [hy]; exact atC_rng h y
theorem fitB_false {c : Ch} {cl t lg : Int} {k : Nat} (hk : k < (stW c (t + lg) t).length) (hb : bitE ((stW c (t + lg) t).getD k 0) cl = false) : fitB c cl t lg = false := by
  unfold fitB
  rw [List.all_eq_false]
  refine ⟨_, List.getElem_mem hk, ?_⟩
  rw [List.getD_eq_getElem?_getD, List.getElem?_eq_getElem hk] at hb
  simpa using hb
theorem fitB_true {c : Ch} {cl t lg : Int} (h : ∀ i, i < (stW c (t + lg) t).length → bitE ((stW c (t + lg) t).getD i 0) cl = true) : fitB c cl t lg = true := by
  unfold fitB
  rw [List.all_eq_true]
  intro m hm
  obtain ⟨i, hi, rfl⟩ := List.getElem_of_mem hm
  have := h i hi
  rwa [List.getD_eq_getElem?_getD, List.getElem?_eq_getElem hi] at this
theorem end_facts {c : Ch} {e x : Int} (hx : x < e) : x < endC c e x ∧ endC c e x ≤ e ∧ ∀ y, x ≤ y → y < endC c e x → onAd c y = onAd c x := by
  unfold endC
  cases ho : onAd c x with
  | true =>
    rw [if_pos rfl]
    refine ⟨hx, Int.le_refl _, fun y h1 h2 => ?_⟩
    unfold onAd at ho ⊢; simp at ho ⊢; exact ⟨ho.1, by omega⟩
  | false =>
    rw [if_neg (by simp)]
    unfold onAd at ho
    cases hp : c.pe with
    | true =>
      rw [hp] at ho; simp at ho
      rw [if_pos rfl]
      refine ⟨by omega, by omega, fun y h1 h2 => ?_⟩
      unfold onAd; rw [hp]; simp; omega
    | false =>
      rw [if_neg (by simp)]
      refine ⟨hx, Int.le_refl _, fun y h1 h2 => ?_⟩
      unfold onAd; rw [hp]; simp
theorem ref_next {c : Ch} (h : OkC c) {e x : Int} (hx : x < e) {g : Gl} {b en : Int} (h1 : glC c x = g) (h2 : begC c x = b) (h3 : endC c e x = en) :
    ∃ hi : (loc g.es g.cyc (x - b)).1 < g.es.length, (0 ≤ (loc g.es g.cyc (x - b)).2 ∧ (loc g.es g.cyc (x - b)).2 < (g.es[(loc g.es g.cyc (x - b)).1]).2) ∧ (g.es[(loc g.es g.cyc (x - b)).1]).1 = atC c x ∧ (1 ≤ (g.es[(loc g.es g.cyc (x - b)).1]).2 ∧ (g.es[(loc g.es g.cyc (x - b)).1]).2 ≤ 9600000) ∧
      x < min en (x - (loc g.es g.cyc (x - b)).2 + (g.es[(loc g.es g.cyc (x - b)).1]).2) ∧ ∀ y, x ≤ y → y < min en (x - (loc g.es g.cyc (x - b)).2 + (g.es[(loc g.es g.cyc (x - b)).1]).2) → atC c y = atC c x := by
  have hG := h.gl x
  rw [h1] at hG
  obtain ⟨hi, hy0, hy1, _⟩ := loc_spec hG (x - b)
  have hen := end_facts (c := c) hx
  rw [h3] at hen
  have he := okE_get (okG_parts hG).2.2.1 hi
  have hst : stateE g.es g.cyc (x - b) = (g.es[(loc g.es g.cyc (x - b)).1]).1 := by
    rw [stateE, List.getD_eq_getElem?_getD, List.getElem?_eq_getElem hi]; rfl
  have hax : atC c x = stateE g.es g.cyc (x - b) := by rw [atC_gl, h1, h2]
  refine ⟨hi, ⟨hy0, hy1⟩, by rw [hax, hst], ⟨he.2.2.1, he.2.2.2⟩, by omega, fun y k1 k2 => ?_⟩
  have ho := hen.2.2 y k1 (by omega)
  have hay : atC c y = stateE g.es g.cyc (y - b) := by
    rw [atC_gl, ← h1, ← h2]
    unfold glC begC
    rw [ho]
  have hb0 := beg_zero (es := g.es) (cyc := g.cyc) (x - b)
  have hb1 := beg_succ g.es g.cyc (x - b) 0
  have he0 : ent g.es (loc g.es g.cyc (x - b)).1 0 = g.es[(loc g.es g.cyc (x - b)).1] := by
    rw [ent_zero hG, List.getD_eq_getElem?_getD, List.getElem?_eq_getElem hi]; rfl
  rw [he0] at hb1
  rw [hay, state_cover hG (x - b) (i := 0) (Nat.zero_le _) (by omega) (by rw [Nat.zero_add] at hb1 ⊢; omega), hax, hst, he0]
/-- A change that a draft describes, in so far as the laws look at it. -/
structure DrOk (c : Ch) : Prop where
  ok : okC c = true
  n1 : c.op.n ≤ 16
  n2 : c.ad.n ≤ 16
  c1 : 1 ≤ c.op.cyc ∧ c.op.cyc ≤ 320
  c2 : 0 ≤ c.ad.cyc ∧ c.ad.cyc ≤ 320
  base : -32768 ≤ c.base ∧ c.base ≤ 32767
  wh : -100000 ≤ c.wh ∧ c.wh ≤ 100000
def bendC (what N : Int) (g : Gl) (c : Ch) : Ch :=
  if what % 6 = 0 then { c with op := g } else if what % 6 = 1 then { c with ad := g } else if what % 6 = 2 then { c with base := N } else if what % 6 = 3 then { c with wh := N }
  else if what % 6 = 4 then { c with pe := !c.pe } else { c with wh := c.wh + N.tmod 3 }
theorem tm3 (d : Int) : -3 < d.tmod 3 ∧ d.tmod 3 < 3 := by
  have h1 := Int.tmod_lt_of_pos d (b := 3) (by decide)
  have h2 : (-d).tmod 3 < 3 := Int.tmod_lt_of_pos (-d) (by decide)
  rw [Int.neg_tmod] at h2
  omega
theorem bend_k {F : Know} {what N : Int} {g : Gl} {c : Ch} (hg : GlK F g) (hC : ChK F c) : ChK F (bendC what N g c) := by
  unfold bendC
  repeat' split
  · exact ⟨hg, hC.ad⟩
  · exact ⟨hC.op, hg⟩
  all_goals exact ⟨hC.op, hC.ad⟩
theorem bend_n {what N : Int} {g : Gl} {c : Ch} (hg : g.n ≤ 130) (h1 : c.op.n ≤ 130) (h2 : c.ad.n ≤ 130) : (bendC what N g c).op.n ≤ 130 ∧ (bendC what N g c).ad.n ≤ 130 := by
  unfold bendC
  repeat' split
  all_goals exact ⟨by assumption, by assumption⟩
theorem GlK.takeK {F : Know} {g : Gl} (h : GlK F g) (k : Nat) : GlK F { g with n := min k g.n, es := g.es.take k } := EntK.take h k
end Go.Sw
namespace Go.Sw
open Go Go.Eng Go.Gt Go.Proofs.Gt
theorem new_k {F : Know} {g : Gl} {t : Int} (hg : GlK F g) : ChK F (newC g t).1 := by
  unfold newC
  repeat' split
  · exact ⟨hg, g0_k F⟩
  · exact c0_k F
  · exact c0_k F
theorem new_n {g : Gl} {t : Int} (hg : g.n ≤ 130) : (newC g t).1.op.n ≤ 100000 ∧ (newC g t).1.ad.n ≤ 100000 := by
  unfold newC
  repeat' split
  · exact ⟨by dsimp only; omega, Nat.zero_le _⟩
  · exact ⟨Nat.zero_le _, Nat.zero_le _⟩
  · exact ⟨Nat.zero_le _, Nat.zero_le _⟩
theorem tmK (d : Int) {k : Int} (hk : 0 < k) : -k < d.tmod k ∧ d.tmod k < k := by
  have h1 := Int.tmod_lt_of_pos d (b := k) hk
  have h2 : (-d).tmod k < k := Int.tmod_lt_of_pos (-d) hk
  rw [Int.neg_tmod] at h2
  omega
end Go.Sw
namespace Go.Sw
open Go Go.Eng
theorem u64w (x : Int) : 0 ≤ IntKind.u64.wrap x ∧ IntKind.u64.wrap x ≤ 18446744073709551615 := by
  simp only [IntKind.wrap, IntKind.signed, IntKind.bits]
  simp
  omega
end Go.Sw

/-
  What Advance and Set do, in plain terms.
-/
namespace Go.Sw
open Go Go.Eng Go.Gt Go.Proofs.Gt
theorem onL_iff {c : Ch} {now : Int} : (c.pe && decide (c.wh ≤ now ∧ c.wh ≤ 1099511627776)) = true ↔ c.pe = true ∧ c.wh ≤ now ∧ c.wh ≤ 1099511627776 := by simp
theorem later_ok {c : Ch} (h : OkC c) (now : Int) : OkC (laterC c now) := by
  unfold laterC
  split
  · rename_i hl
    obtain ⟨h1, h2, h3⟩ := onL_iff.1 hl
    have := h.wh
    exact ⟨h.ad h1, ⟨by dsimp only; omega, by dsimp only; omega⟩, (fun e => by cases e), ⟨by dsimp only; omega, by dsimp only; omega⟩, (fun e => by cases e), fun _ => ⟨rfl, rfl, rfl⟩⟩
  · exact h
theorem later_at {c : Ch} (now : Int) {y : Int} (hy : now ≤ y) : atC (laterC c now) y = atC c y := by
  unfold laterC
  split
  · rename_i hl
    obtain ⟨h1, h2, h3⟩ := onL_iff.1 hl
    have ho : onAd c y = true := by unfold onAd; rw [h1]; simp; omega
    have hn : onAd (⟨c.ad, c.wh, false, g0, 0⟩ : Ch) y = false := rfl
    unfold atC
    rw [ho, hn]; rfl
  · rfl
theorem later_k {F : Know} {c : Ch} (h : ChK F c) (now : Int) : ChK F (laterC c now) := by
  unfold laterC
  split
  · exact ⟨h.ad, g0_k F⟩
  · exact h
theorem later_cyc {c : Ch} (h : OkC c) (h1 : c.op.cyc ≤ 320) (h2 : c.ad.cyc ≤ 320) (now : Int) : 1 ≤ (laterC c now).op.cyc ∧ (laterC c now).op.cyc ≤ 320 := by
  have hk := okG_cyc (later_ok h now).op
  refine ⟨hk.1, ?_⟩
  unfold laterC
  split
  · exact h2
  · exact h1
theorem later_base {c : Ch} {lo hi : Int} (h1 : lo ≤ c.base ∧ c.base ≤ hi) (h2 : lo ≤ c.wh ∧ c.wh ≤ hi) (now : Int) : lo ≤ (laterC c now).base ∧ (laterC c now).base ≤ hi := by
  unfold laterC
  split
  · exact h2
  · exact h1
theorem okT_of {t : Int} (h : -1099511627776 ≤ t ∧ t ≤ 1099511627776) : okTm t = true := decide_eq_true h
theorem mask_val {c : Ch} (h : OkC c) {t : Int} (ht : -1099511627776 ≤ t ∧ t ≤ 1099511627776) : (if (maskC c t).2 = 0 then (maskC c t).1 else -1) = atC c t := by
  unfold maskC; rw [okC_iff.2 h, okT_of ht]; rfl
theorem adv_val {c : Ch} (h : OkC c) {now : Int} (hn : -1099511627776 ≤ now ∧ now ≤ 1099511627776) : advC c now = (laterC c now, 0) := by
  unfold advC; rw [okC_iff.2 h, okT_of hn]; rfl
theorem set_val {c : Ch} (h : OkC c) {now base : Int} {g : Gl} (hn : -1099511627776 ≤ now ∧ now ≤ 1099511627776) (hg : okG g.es g.cyc = true) (hb : -1099511627776 ≤ base ∧ base ≤ 1099511627776) : setC c now g base = (setB (laterC c now) now g base, 0) := by
  unfold setC; rw [okC_iff.2 h, okT_of hn, hg, okT_of hb]; rfl
theorem setB_wh {a : Ch} {now base : Int} {g : Gl} (h : OkC a) : max now base ≤ (setB a now g base).wh ∧ (setB a now g base).wh - a.op.cyc < max now base ∧ ((setB a now g base).wh - a.base) % a.op.cyc = 0 := by
  have hc := okG_cyc h.op
  have h1 := Int.emod_nonneg (a.base - max now base) (show a.op.cyc ≠ 0 by omega)
  have h2 := Int.emod_lt_of_pos (a.base - max now base) (show 0 < a.op.cyc by omega)
  have h3 := Int.mul_ediv_add_emod (a.base - max now base) a.op.cyc
  refine ⟨?_, ?_, ?_⟩
  · show max now base ≤ max now base + _; omega
  · show max now base + _ - a.op.cyc < max now base; omega
  · show (max now base + (a.base - max now base) % a.op.cyc - a.base) % a.op.cyc = 0
    rw [show max now base + (a.base - max now base) % a.op.cyc - a.base = 0 + a.op.cyc * (-((a.base - max now base) / a.op.cyc)) by rw [Int.mul_neg]; omega, Int.add_mul_emod_self_left]
    rfl
theorem setB_ok {a : Ch} {now base : Int} {g : Gl} (h : OkC a) (hn : -1099511627776 ≤ now ∧ now ≤ 1099511627776) (hg : okG g.es g.cyc = true) (hb : -1099511627776 ≤ base ∧ base ≤ 1099511627776) : OkC (setB a now g base) := by
  obtain ⟨w1, w2, w3⟩ := setB_wh (now := now) (base := base) (g := g) h
  have hc := okG_cyc h.op
  exact ⟨h.op, h.base, fun _ => hg, ⟨by omega, by omega⟩, fun _ => w3, fun e => by cases e⟩
theorem setB_before {a : Ch} {now base y : Int} {g : Gl} (hy : y < (setB a now g base).wh) : atC (setB a now g base) y = stateE a.op.es a.op.cyc (y - a.base) := by
  have ho : onAd (setB a now g base) y = false := by
    unfold onAd
    rw [decide_eq_false (by omega), Bool.and_false]
  unfold atC; rw [ho]; rfl
theorem setB_from {a : Ch} {now base on : Int} {g : Gl} (h : 0 ≤ on) : atC (setB a now g base) ((setB a now g base).wh + on) = stateE g.es g.cyc on := by
  have ho : onAd (setB a now g base) ((setB a now g base).wh + on) = true := by
    unfold onAd
    rw [decide_eq_true (by omega), Bool.and_true]; rfl
  unfold atC; rw [ho]
  show stateE g.es g.cyc ((setB a now g base).wh + on - (setB a now g base).wh) = _
  congr 1; omega
def bareC (a : Ch) : Ch := { a with pe := false, ad := g0, wh := 0 }
theorem bare_ok {a : Ch} (h : OkC a) : OkC (bareC a) := ⟨h.op, h.base, (fun e => by cases e), ⟨by show (-1099511627776 : Int) ≤ 0; decide, by show (0 : Int) ≤ 2199023255552; decide⟩, (fun e => by cases e), fun _ => ⟨rfl, rfl, rfl⟩⟩
theorem bare_at (a : Ch) (y : Int) : atC (bareC a) y = stateE a.op.es a.op.cyc (y - a.base) := rfl
def freshC (g : Gl) : Ch := ⟨g, 0, false, g0, 0⟩
theorem fresh_ok {g : Gl} (h : okG g.es g.cyc = true) : OkC (freshC g) := ⟨h, ⟨by show (-1099511627776 : Int) ≤ 0; decide, by show (0 : Int) ≤ 1099511627776; decide⟩, (fun e => by cases e), ⟨by show (-1099511627776 : Int) ≤ 0; decide, by show (0 : Int) ≤ 2199023255552; decide⟩, (fun e => by cases e), fun _ => ⟨rfl, rfl, rfl⟩⟩
theorem fresh_at (g : Gl) (y : Int) : atC (freshC g) y = stateE g.es g.cyc y := by
  show stateE g.es g.cyc (y - 0) = _
  rw [Int.sub_zero]
theorem tmod_zero {a m : Int} (_hm : 0 < m) (h : a % m = 0) : a.tmod m = 0 := by
  have := Int.dvd_of_emod_eq_zero h
  exact Int.tmod_eq_zero_of_dvd this
theorem check_val {c : Ch} (h : OkC c) : checkC c = 0 := by unfold checkC; rw [okC_iff.2 h]; rfl
theorem agg_inj {l m : List Value} (h : Value.agg l.toArray = .agg m.toArray) : l = m := by injection h with h; simpa using h
/-- Fits, as the law counts it. -/
theorem fit_all {c : Ch} (h : OkC c) {cl t : Int} {n : Nat} {b : Bool} (hb : b = true ↔ ∀ j : Nat, j < n → bitE (atC c (t + j)) cl = true) : fitB c cl t n = b := by
  rw [Bool.eq_iff_iff, fitB_iff h, hb]
  constructor
  · intro hh j hj; exact hh _ (by omega) (by omega)
  · intro hh y h1 h2
    have := hh (y - t).toNat (by omega)
    rwa [show t + ((y - t).toNat : Int) = y by omega] at this
theorem fits_val {c : Ch} (h : OkC c) {cl t lg : Int} (hcl : 0 ≤ cl ∧ cl ≤ 7) (ht : -1099511627776 ≤ t ∧ t ≤ 1099511627776) (hl : 0 ≤ lg ∧ lg ≤ 4 * c.op.cyc) : ((fitsC c cl t lg).1 && decide ((fitsC c cl t lg).2 = 0)) = fitB c cl t lg := by
  have ha : argF c cl t lg = true := by unfold argF; rw [okT_of ht]; simp; omega
  unfold fitsC; rw [okC_iff.2 h, ha]; simp
end Go.Sw

/-
  The program's service is the reference's.
-/
namespace Go.Sv
open Go Go.Eng Go.Gt Go.Proofs.Gt Go.Sw
variable {p : Int → Bool}
theorem Runs.from_le {a b : Int} {l : List (Int × Int)} (h : Runs p a b l) {j : Nat} (hj : j < l.length) : a ≤ (atR l j).1 := (h.at_ hj).1
theorem Runs.ord {a b : Int} {l : List (Int × Int)} (h : Runs p a b l) : ∀ {i j : Nat}, i < j → j < l.length → (atR l i).2 ≤ (atR l j).1 := by
  induction h with
  | nil h => intro i j _ hj; simp at hj
  | cons g1 g2 g3 g4 g5 g6 g7 ih =>
    rename_i a b s e r
    intro i j hij hj
    cases j with
    | zero => omega
    | succ j =>
      have hj' : j < r.length := by simpa using hj
      cases i with
      | zero => exact g7.from_le hj'
      | succ i => exact ih (by omega) hj'
theorem mem_at {L : List (Int × Int)} {x : Int × Int} (h : x ∈ L) : ∃ j, j < L.length ∧ x = atR L j := by
  obtain ⟨j, hj, rfl⟩ := List.getElem_of_mem h
  exact ⟨j, hj, (atR_get hj).symm⟩
theorem mem_take {L : List (Int × Int)} {a : Nat} {x : Int × Int} (h : x ∈ L.take a) : ∃ j, j < a ∧ j < L.length ∧ x = atR L j := by
  obtain ⟨j, hj, rfl⟩ := mem_at h
  rw [List.length_take] at hj
  refine ⟨j, by omega, by omega, ?_⟩
  unfold atR; rw [List.getD_eq_getElem?_getD, List.getD_eq_getElem?_getD, List.getElem?_take, if_pos (by omega)]
theorem mem_drop {L : List (Int × Int)} {a : Nat} {x : Int × Int} (h : x ∈ L.drop a) : ∃ j, a ≤ j ∧ j < L.length ∧ x = atR L j := by
  obtain ⟨j, hj, rfl⟩ := mem_at h
  rw [List.length_drop] at hj
  exact ⟨a + j, by omega, by omega, atR_drop _ _ _⟩
theorem mem_mid {L : List (Int × Int)} {a m : Nat} {x : Int × Int} (h : x ∈ (L.drop a).take m) : ∃ j, a ≤ j ∧ j < a + m ∧ j < L.length ∧ x = atR L j := by
  obtain ⟨j, hj, hj2, rfl⟩ := mem_take h
  rw [List.length_drop] at hj2
  exact ⟨a + j, by omega, by omega, by omega, atR_drop _ _ _⟩
theorem sum_zero {f : Int × Int → Int} : ∀ {l : List (Int × Int)}, (∀ x ∈ l, f x = 0) → (l.map f).sum = 0
  | [], _ => rfl
  | x :: l, h => by rw [List.map_cons, List.sum_cons, h x List.mem_cons_self, sum_zero fun y hy => h y (List.mem_cons_of_mem _ hy)]; rfl
/-- Where an opening's rest is lost; where its first part is. -/
def frL (L : List (Int × Int)) (lost : Int) (i : Nat) : Int := max (atR L i).1 ((atR L i).2 - lost)
def toL (L : List (Int × Int)) (lost : Int) (k : Nat) : Int := min (atR L k).2 ((atR L k).1 + lost)
theorem split3 (f : Int × Int → Int) (L : List (Int × Int)) (a m : Nat) : (L.map f).sum = ((L.take a).map f).sum + (((L.drop a).take m).map f).sum + ((L.drop (a + m)).map f).sum := by
  have h1 : L = L.take a ++ ((L.drop a).take m ++ (L.drop a).drop m) := by rw [List.take_append_drop, List.take_append_drop]
  conv => lhs; rw [h1]
  rw [List.map_append, List.map_append, List.sum_append, List.sum_append, List.drop_drop]
  omega
/-- The sum over a critical interval. -/
theorem crit_sum {A B lost : Int} {L : List (Int × Int)} (h : Runs p A B L) (hl : 0 ≤ lost) {i m : Nat} (hk : i + 1 + m < L.length) : sumR lost (runs p (frL L lost i) (toL L lost (i + 1 + m))) = gotP L lost i m := by
  have hi := h.at_ (k := i) (by omega)
  have hkk := h.at_ hk
  have hik := h.ord (show i < i + 1 + m by omega) hk
  rw [h.cuts hl (a := frL L lost i) (b := toL L lost (i + 1 + m)) (by unfold frL; omega) (by unfold frL toL; omega) (by unfold toL; omega), gotP_sum (by omega), split3 _ L (i + 1) m]
  rw [sum_zero (l := L.take (i + 1)) (fun x hx => ?_), sum_zero (l := L.drop (i + 1 + m)) (fun x hx => ?_)]
  · rw [Int.zero_add, Int.add_zero]
    unfold sumR
    congr 1
    refine List.map_congr_left fun x hx => ?_
    obtain ⟨j, h1, h2, h3, rfl⟩ := mem_mid hx
    have o1 := h.ord (show i < j by omega) h3
    have o2 := h.ord (show j < i + 1 + m by omega) hk
    have o3 := h.at_ h3
    unfold cut frL toL; congr 1; omega
  · obtain ⟨j, h1, h2, rfl⟩ := mem_drop hx
    have o3 := h.at_ h2
    by_cases e : j = i + 1 + m
    · subst e; unfold cut giv frL toL; omega
    · have o1 := h.ord (show i + 1 + m < j by omega) h2
      unfold cut giv frL toL; omega
  · obtain ⟨j, h1, h2, rfl⟩ := mem_take hx
    have o3 := h.at_ h2
    by_cases e : j = i
    · subst e; unfold cut giv frL toL; omega
    · have o1 := h.ord (show j < i by omega) (show i < L.length by omega)
      unfold cut giv frL toL; omega
theorem crit_self {A B lost : Int} {L : List (Int × Int)} (h : Runs p A B L) (hl : 0 ≤ lost) {i : Nat} (hi : i < L.length) (hlt : frL L lost i < toL L lost i) : sumR lost (runs p (frL L lost i) (toL L lost i)) = 0 := by
  have hii := h.at_ hi
  rw [h.cuts hl (a := frL L lost i) (b := toL L lost i) (by unfold frL; omega) (by omega) (by unfold toL; omega)]
  refine sum_zero fun x hx => ?_
  obtain ⟨j, hj, rfl⟩ := mem_at hx
  have o3 := h.at_ hj
  by_cases e : j = i
  · subst e; unfold cut giv frL toL; omega
  · by_cases e2 : j < i
    · have o1 := h.ord e2 hi; unfold cut giv frL toL; omega
    · have o1 := h.ord (show i < j by omega) hj; unfold cut giv frL toL; omega
/-- Over a whole turn. -/
theorem turn_sum {cyc lost : Int} {l : List (Int × Int)} {a : Nat} (ha : a ≤ l.length) : sumR lost (((dblR cyc l).drop a).take l.length) = sumR lost l := by
  unfold dblR
  rw [List.drop_append_of_le_length ha, List.take_append, List.take_of_length_le (by simp), sumR_append]
  have e : (shl cyc l).take (l.length - (l.drop a).length) = shl cyc (l.take a) := by
    unfold shl; rw [← List.map_take]; congr 2; simp; omega
  rw [e, sumR_shl]
  have := sumR_append lost (l.take a) (l.drop a)
  rw [List.take_append_drop] at this
  omega
theorem got_turn {cyc lost : Int} {l : List (Int × Int)} {i m : Nat} (h : i + 1 + (m + l.length) ≤ 2 * l.length) : gotP (dblR cyc l) lost i (m + l.length) = gotP (dblR cyc l) lost i m + sumR lost l := by
  rw [gotP_sum (by rw [dbl_len]; omega), gotP_sum (by rw [dbl_len]; omega), List.take_add, sumR_append, List.drop_drop, turn_sum (by omega)]
section
variable {L : List (Int × Int)} {lost R per X : Int}
theorem wIn_le {i : Nat} {w : Int} : ∀ {m : Nat}, wIn L lost R per i w m ≤ X ↔ w ≤ X ∧ ∀ j, j < m → gapP L lost R per i (i + 1 + j) (gotP L lost i j) ≤ X
  | 0 => by simp [wIn]
  | m + 1 => by
    unfold wIn
    rw [Int.max_le, wIn_le (m := m)]
    constructor
    · rintro ⟨⟨h1, h2⟩, h3⟩
      exact ⟨h1, fun j hj => by by_cases e : j = m; · rw [e]; exact h3
                                · exact h2 j (by omega)⟩
    · rintro ⟨h1, h2⟩; exact ⟨⟨h1, fun j hj => h2 j (by omega)⟩, h2 m (by omega)⟩
theorem wOut_le {n : Nat} : ∀ {i : Nat}, wOut L lost R per n i ≤ X ↔ 0 ≤ X ∧ ∀ a, a < i → ∀ j, j < n → gapP L lost R per a (a + 1 + j) (gotP L lost a j) ≤ X
  | 0 => by simp [wOut]
  | i + 1 => by
    unfold wOut
    rw [wIn_le, wOut_le (i := i)]
    constructor
    · rintro ⟨⟨h1, h2⟩, h3⟩
      exact ⟨h1, fun a ha => by by_cases e : a = i; · rw [e]; exact h3
                                · exact h2 a (by omega)⟩
    · rintro ⟨h1, h2⟩; exact ⟨⟨h1, fun a ha => h2 a (by omega)⟩, h2 i (by omega)⟩
variable {es : Ents} {cyc most : Int} {l : List (Int × Int)}
theorem rIn_le {i : Nat} {w : Int} : ∀ {k : Nat}, rIn es cyc per most R l i w k ≤ X ↔ w ≤ X ∧ ∀ j, j < k → fromR l (most * per) i < toR l (most * per) cyc j → termR es cyc per most R l i j ≤ X
  | 0 => by simp [rIn]
  | k + 1 => by
    unfold rIn
    split
    · rename_i hlt
      rw [Int.max_le, rIn_le (k := k)]
      constructor
      · rintro ⟨⟨h1, h2⟩, h3⟩
        exact ⟨h1, fun j hj hf => by by_cases e : j = k; · rw [e]; exact h3
                                     · exact h2 j (by omega) hf⟩
      · rintro ⟨h1, h2⟩; exact ⟨⟨h1, fun j hj => h2 j (by omega)⟩, h2 k (by omega) hlt⟩
    · rename_i hlt
      rw [rIn_le (k := k)]
      constructor
      · rintro ⟨h1, h2⟩
        exact ⟨h1, fun j hj hf => by by_cases e : j = k; · rw [e] at hf; exact absurd hf hlt
                                     · exact h2 j (by omega) hf⟩
      · rintro ⟨h1, h2⟩; exact ⟨h1, fun j hj => h2 j (by omega)⟩
theorem rOut_le : ∀ {i : Nat}, rOut es cyc per most R l i ≤ X ↔ 127 * per * 1048576 ≤ X ∧ ∀ a, a < i → ∀ j, j < 2 * l.length → fromR l (most * per) a < toR l (most * per) cyc j → termR es cyc per most R l a j ≤ X
  | 0 => by simp [rOut]
  | i + 1 => by
    unfold rOut
    rw [rIn_le, rOut_le (i := i)]
    constructor
    · rintro ⟨⟨h1, h2⟩, h3⟩
      exact ⟨h1, fun a ha => by by_cases e : a = i; · rw [e]; exact h3
                                · exact h2 a (by omega)⟩
    · rintro ⟨h1, h2⟩; exact ⟨⟨h1, fun a ha => h2 a (by omega)⟩, h2 i (by omega)⟩
theorem frR {i : Nat} (hi : i < l.length) : fromR l lost i = frL (dblR cyc l) lost i := by unfold fromR frL; rw [dbl_lo hi]; omega
theorem toRL {k : Nat} (hk : k < 2 * l.length) : toR l lost cyc k = toL (dblR cyc l) lost k := by
  unfold toR toL
  by_cases h : k < l.length
  · rw [dbl_lo h, Nat.mod_eq_of_lt h, Nat.div_eq_of_lt h]; simp only [Int.natCast_zero, Int.zero_mul]; omega
  · have h1 : k % l.length = k - l.length := by rw [Nat.mod_eq_sub_mod (by omega), Nat.mod_eq_of_lt (by omega)]
    have h2 : k / l.length = 1 := by rw [Nat.div_eq_sub_div (by omega) (by omega), Nat.div_eq_of_lt (by omega)]
    rw [dbl_hi (by omega) hk, h1, h2]; simp only [Int.natCast_one, Int.one_mul]; omega
end
theorem add_term (x cyc R per : Int) : (x + cyc) * R * per = x * R * per + R * per * cyc := by
  rw [Int.add_mul, Int.add_mul, Int.mul_comm cyc R, Int.mul_assoc R cyc, Int.mul_comm cyc per, ← Int.mul_assoc R]
section
variable {es : Ents} {cyc : Int}
theorem dbl_runs (hG : okG es cyc = true) (hal : alwE es = false) : Runs (op6 es cyc) (closedE es) (closedE es + 2 * cyc) (dblR cyc (roundR es cyc)) := by
  have hcf := closed_facts hG hal
  have hc := okG_cyc hG
  have h1 := (round_is hG).1
  have h2 := h1.shift (d := cyc) (op_per es cyc)
  rw [show closedE es + 2 * cyc = closedE es + cyc + cyc by omega]
  exact h1.append (by omega) (by omega) (fun _ => by rw [op_per]; exact hcf.2.2) h2
theorem worst_eq (hG : okG es cyc = true) (hal : alwE es = false) {per most R : Int} (hl : 1 ≤ most * per) (hR : 0 ≤ R) (hp : 1 ≤ per) (hY : R * per * cyc ≤ yieldS es cyc (most * per) * 1048576) :
    rOut es cyc per most R (roundR es cyc) (roundR es cyc).length = 127 * per * 1048576 + wOut (dblR cyc (roundR es cyc)) (most * per) R per (roundR es cyc).length (roundR es cyc).length := by
  have hD := dbl_runs hG hal
  have hc := okG_cyc hG
  have hYe : yieldS es cyc (most * per) = sumR (most * per) (roundR es cyc) := by unfold yieldS; rw [hal]; rfl
  rw [hYe] at hY
  generalize hL : dblR cyc (roundR es cyc) = L at *
  have hLn : L.length = 2 * (roundR es cyc).length := by rw [← hL, dbl_len]
  have hRp : 0 ≤ R * per := Int.mul_nonneg hR (by omega)
  have hfr : ∀ {i : Nat}, i < (roundR es cyc).length → fromR (roundR es cyc) (most * per) i = frL L (most * per) i := fun hi => by rw [← hL]; exact frR hi
  have hto : ∀ {k : Nat}, k < 2 * (roundR es cyc).length → toR (roundR es cyc) (most * per) cyc k = toL L (most * per) k := fun hk => by rw [← hL]; exact toRL hk
  have hterm : ∀ {i m : Nat}, i < (roundR es cyc).length → i + 1 + m < 2 * (roundR es cyc).length → frL L (most * per) i < toL L (most * per) (i + 1 + m) ∧ termR es cyc per most R (roundR es cyc) i (i + 1 + m) = 127 * per * 1048576 + gapP L (most * per) R per i (i + 1 + m) (gotP L (most * per) i m) := by
    intro i m hi hk
    have h1 := hD.at_ (k := i) (by omega)
    have h2 := hD.at_ (k := i + 1 + m) (by omega)
    have h3 := hD.ord (show i < i + 1 + m by omega) (by omega)
    refine ⟨by unfold frL toL; omega, ?_⟩
    unfold termR leastS sumS
    rw [hfr hi, hto hk, hal, show frL L (most * per) i + (toL L (most * per) (i + 1 + m) - frL L (most * per) i) = toL L (most * per) (i + 1 + m) by omega, crit_sum hD (by omega) (by omega)]
    unfold gapP
    rw [show toL L (most * per) (i + 1 + m) - frL L (most * per) i = min (atR L (i + 1 + m)).2 ((atR L (i + 1 + m)).1 + most * per) - max (atR L i).1 ((atR L i).2 - most * per) from rfl]
    simp only [Bool.false_eq_true, if_false]
    omega
  have hgw : ∀ {i j : Nat}, i < (roundR es cyc).length → j < (roundR es cyc).length → gapP L (most * per) R per i (i + 1 + j) (gotP L (most * per) i j) ≤ wOut L (most * per) R per (roundR es cyc).length (roundR es cyc).length := fun hi hj => (wOut_le.1 (Int.le_refl _)).2 _ hi _ hj
  apply Int.le_antisymm
  · refine rOut_le.2 ⟨by have := (wOut_le (L := L) (lost := most * per) (R := R) (per := per) (n := (roundR es cyc).length) (i := (roundR es cyc).length)).1 (Int.le_refl _); omega, fun i hi k hk hf => ?_⟩
    have h1 := hD.at_ (k := i) (by omega)
    have h2 := hD.at_ (k := k) (by omega)
    by_cases hki : k < i
    · have h3 := hD.ord hki (by omega)
      rw [hfr hi, hto hk] at hf
      unfold frL toL at hf; omega
    · by_cases he : k = i
      · subst he
        have h0 := hgw (j := 0) hi (by omega)
        rw [hfr hi, hto hk] at hf
        have h3 := hD.at_ (k := k + 1 + 0) (by omega)
        have h4 := hD.ord (show k < k + 1 + 0 by omega) (by omega)
        unfold termR leastS sumS
        rw [hfr hi, hto hk, hal, show frL L (most * per) k + (toL L (most * per) k - frL L (most * per) k) = toL L (most * per) k by omega, crit_self hD (by omega) (by omega) hf]
        simp only [Bool.false_eq_true, if_false]
        have hmono : (toL L (most * per) k - frL L (most * per) k) * (R * per) ≤ (toL L (most * per) (k + 1 + 0) - frL L (most * per) k) * (R * per) := Int.mul_le_mul_of_nonneg_right (by unfold toL; omega) hRp
        unfold gapP gotP at h0
        rw [show min (atR L (k + 1 + 0)).2 ((atR L (k + 1 + 0)).1 + most * per) - max (atR L k).1 ((atR L k).2 - most * per) = toL L (most * per) (k + 1 + 0) - frL L (most * per) k from rfl, Int.mul_assoc] at h0
        rw [Int.mul_assoc]
        omega
      · obtain ⟨m, rfl⟩ : ∃ m, k = i + 1 + m := ⟨k - i - 1, by omega⟩
        rw [(hterm hi hk).2]
        by_cases hm : m < (roundR es cyc).length
        · have := hgw hi hm; omega
        · obtain ⟨m', rfl⟩ : ∃ m', m = m' + (roundR es cyc).length := ⟨m - (roundR es cyc).length, by omega⟩
          have h0 := hgw (j := m') hi (by omega)
          have hg : gotP L (most * per) i (m' + (roundR es cyc).length) = gotP L (most * per) i m' + sumR (most * per) (roundR es cyc) := by rw [← hL]; exact got_turn (by omega)
          have ht : atR L (i + 1 + (m' + (roundR es cyc).length)) = ((atR L (i + 1 + m')).1 + cyc, (atR L (i + 1 + m')).2 + cyc) := by
            rw [← hL, dbl_hi (by omega) (by omega), dbl_lo (show i + 1 + m' < (roundR es cyc).length by omega), show i + 1 + (m' + (roundR es cyc).length) - (roundR es cyc).length = i + 1 + m' by omega]
          unfold gapP at h0 ⊢
          rw [hg, ht]
          simp only
          rw [show min ((atR L (i + 1 + m')).2 + cyc) ((atR L (i + 1 + m')).1 + cyc + most * per) - max (atR L i).1 ((atR L i).2 - most * per) = (min (atR L (i + 1 + m')).2 ((atR L (i + 1 + m')).1 + most * per) - max (atR L i).1 ((atR L i).2 - most * per)) + cyc by omega]
          rw [add_term]
          omega
  · have hge := (rOut_le (es := es) (cyc := cyc) (per := per) (most := most) (R := R) (l := roundR es cyc) (i := (roundR es cyc).length)).1 (Int.le_refl _)
    have : wOut L (most * per) R per (roundR es cyc).length (roundR es cyc).length ≤ rOut es cyc per most R (roundR es cyc) (roundR es cyc).length - 127 * per * 1048576 := by
      refine wOut_le.2 ⟨by omega, fun i hi j hj => ?_⟩
      have ht := hterm (m := j) hi (by omega)
      have := hge.2 i hi (i + 1 + j) (by omega) (by rw [hfr hi, hto (by omega)]; exact ht.1)
      rw [ht.2] at this
      omega
    omega
theorem rof_eq {per most : Int} : rofS es cyc per most = ofS es cyc per most := by
  unfold rofS ofS
  split
  · rename_i he
    obtain ⟨hG, hA⟩ := errS_zero he
    have hAb := of_decide_eq_true (show decide _ = true from hA)
    have hc := okG_cyc hG
    have hml : 84 * 1 ≤ most * per := Int.mul_le_mul hAb.2.2.1 hAb.1 (by decide) (by omega)
    have hrt := rate_rng (es := es) (cyc := cyc) (lost := most * per) (per := per) (by omega) (by omega) (by omega)
    split
    · rfl
    · congr 3
      unfold worstR worstP
      cases hal : alwE es with
      | true => simp
      | false => simp only [Bool.false_eq_true, if_false]; rw [worst_eq hG hal (by omega) hrt.1 (by omega) hrt.2.2]
  · rfl
end
end Go.Sv

/-
  Every interval gives at least what the service says.
-/
namespace Go.Sv
open Go Go.Eng Go.Gt Go.Proofs.Gt Go.Sw
variable {p : Int → Bool}
/-- The openings one turn after the other. -/
def opJ (cyc : Int) (l : List (Int × Int)) (j : Nat) : Int × Int := ((atR l (j % l.length)).1 + (j / l.length : Nat) * cyc, (atR l (j % l.length)).2 + (j / l.length : Nat) * cyc)
def longR (cyc : Int) (l : List (Int × Int)) (m : Nat) : List (Int × Int) := (List.range (m * l.length)).map (opJ cyc l)
theorem long_at {cyc : Int} {l : List (Int × Int)} {m j : Nat} (h : j < m * l.length) : atR (longR cyc l m) j = opJ cyc l j := by
  unfold atR longR; rw [List.getD_eq_getElem?_getD, List.getElem?_map, List.getElem?_range h]; rfl
theorem long_len (cyc : Int) (l : List (Int × Int)) (m : Nat) : (longR cyc l m).length = m * l.length := by simp [longR]
theorem opJ_add {cyc : Int} {l : List (Int × Int)} (m : Nat) {t : Nat} (ht : t < l.length) : opJ cyc l (m * l.length + t) = ((atR l t).1 + m * cyc, (atR l t).2 + m * cyc) := by
  unfold opJ
  rw [Nat.add_comm, Nat.add_mul_mod_self_right, Nat.mod_eq_of_lt ht, Nat.add_mul_div_right _ _ (by omega), Nat.div_eq_of_lt ht, Nat.zero_add]
theorem opJ_turn {cyc : Int} {l : List (Int × Int)} (hn : 0 < l.length) (j : Nat) : opJ cyc l (j + l.length) = ((opJ cyc l j).1 + cyc, (opJ cyc l j).2 + cyc) := by
  unfold opJ
  rw [Nat.add_mod_right, Nat.add_div_right _ hn]
  simp only [Int.natCast_add, Int.natCast_one, Int.add_mul, Int.one_mul, ← Int.add_assoc]
theorem long_runs {c cyc : Int} {l : List (Int × Int)} (hp : ∀ y, p (y + cyc) = p y) (hc : 0 ≤ cyc) (h0 : p c = false) (h : Runs p c (c + cyc) l) : ∀ m : Nat, Runs p c (c + m * cyc) (longR cyc l m)
  | 0 => by
    unfold longR; simp only [Nat.zero_mul, List.range_zero, List.map_nil]
    exact .nil fun y h1 h2 => by simp only [Int.natCast_zero, Int.zero_mul] at h2; omega
  | m + 1 => by
    have ih := long_runs hp hc h0 h m
    have hpk : ∀ (k : Nat) (y : Int), p (y + k * cyc) = p y := by
      intro k
      induction k with
      | zero => intro y; simp
      | succ k ihk => intro y; rw [show y + ((k + 1 : Nat) : Int) * cyc = (y + k * cyc) + cyc by rw [Int.natCast_add, Int.add_mul]; simp; omega, hp, ihk]
    have hs := h.shift (hpk m)
    have hmc : 0 ≤ (m : Int) * cyc := Int.mul_nonneg (by omega) hc
    have e : longR cyc l (m + 1) = longR cyc l m ++ shl (m * cyc) l := by
      unfold longR
      rw [Nat.add_mul, Nat.one_mul, List.range_add, List.map_append, List.map_map]
      congr 1
      apply List.ext_getElem
      · simp [shl]
      · intro i h1 h2
        simp only [List.length_map, List.length_range] at h1
        simp only [List.getElem_map, List.getElem_range, Function.comp]
        rw [opJ_add m h1, atR_get h1]
        simp [shl]
    rw [e, show c + ((m + 1 : Nat) : Int) * cyc = c + cyc + m * cyc by rw [Int.natCast_add, Int.add_mul]; simp; omega]
    exact ih.append (by omega) (by omega) (fun _ => by rw [hpk]; exact h0) hs
section
variable {cyc lost R' : Int} {l : List (Int × Int)}
def frJ (cyc lost : Int) (l : List (Int × Int)) (i : Nat) : Int := max (opJ cyc l i).1 ((opJ cyc l i).2 - lost)
def toJ (cyc lost : Int) (l : List (Int × Int)) (k : Nat) : Int := min (opJ cyc l k).2 ((opJ cyc l k).1 + lost)
def gJ (cyc lost : Int) (l : List (Int × Int)) (j : Nat) : Int := giv lost ((opJ cyc l j).2 - (opJ cyc l j).1)
def gotJ (cyc lost : Int) (l : List (Int × Int)) (i : Nat) : Nat → Int
  | 0 => 0
  | m + 1 => gotJ cyc lost l i m + gJ cyc lost l (i + 1 + m)
def dJ (cyc lost R' : Int) (l : List (Int × Int)) (i m : Nat) : Int := (toJ cyc lost l (i + 1 + m) - frJ cyc lost l i) * R' - gotJ cyc lost l i m * 1048576
theorem gJ_turn (hn : 0 < l.length) (j : Nat) : gJ cyc lost l (j + l.length) = gJ cyc lost l j := by unfold gJ; rw [opJ_turn hn]; congr 1; omega
theorem frJ_turn (hn : 0 < l.length) (j : Nat) : frJ cyc lost l (j + l.length) = frJ cyc lost l j + cyc := by unfold frJ; rw [opJ_turn hn]; simp only; omega
theorem toJ_turn (hn : 0 < l.length) (j : Nat) : toJ cyc lost l (j + l.length) = toJ cyc lost l j + cyc := by unfold toJ; rw [opJ_turn hn]; simp only; omega
theorem gotJ_shift (hn : 0 < l.length) (i : Nat) : ∀ m, gotJ cyc lost l (i + l.length) m = gotJ cyc lost l i m
  | 0 => rfl
  | m + 1 => by unfold gotJ; rw [gotJ_shift hn i m, show i + l.length + 1 + m = (i + 1 + m) + l.length by omega, gJ_turn hn]
theorem gotJ_add (i m : Nat) : ∀ k, gotJ cyc lost l i (m + k) = gotJ cyc lost l i m + gotJ cyc lost l (i + m) k
  | 0 => by simp [gotJ]
  | k + 1 => by
    show gotJ cyc lost l i (m + k) + gJ cyc lost l (i + 1 + (m + k)) = gotJ cyc lost l i m + (gotJ cyc lost l (i + m) k + gJ cyc lost l (i + m + 1 + k))
    rw [gotJ_add i m k, show i + 1 + (m + k) = i + m + 1 + k by omega]; omega
theorem gotJ_one (i : Nat) : ∀ m, gotJ cyc lost l i (m + 1) = gJ cyc lost l (i + 1) + gotJ cyc lost l (i + 1) m
  | 0 => by simp [gotJ]
  | m + 1 => by
    have := gotJ_one i m
    have e1 : gotJ cyc lost l i (m + 1 + 1) = gotJ cyc lost l i (m + 1) + gJ cyc lost l (i + 1 + (m + 1)) := rfl
    have e2 : gotJ cyc lost l (i + 1) (m + 1) = gotJ cyc lost l (i + 1) m + gJ cyc lost l (i + 1 + 1 + m) := rfl
    rw [e1, this, e2, show i + 1 + (m + 1) = i + 1 + 1 + m by omega]; omega
/-- Over a whole turn, wherever it begins. -/
theorem gotJ_turn (hn : 0 < l.length) : ∀ i, gotJ cyc lost l i l.length = gotJ cyc lost l 0 l.length
  | 0 => rfl
  | i + 1 => by
    have h1 := gotJ_one (cyc := cyc) (lost := lost) (l := l) i l.length
    have h2 : gotJ cyc lost l i (l.length + 1) = gotJ cyc lost l i l.length + gJ cyc lost l (i + 1 + l.length) := rfl
    rw [gJ_turn hn] at h2
    have := gotJ_turn hn i
    omega
theorem opJ_lo {j : Nat} (hj : j < 2 * l.length) : opJ cyc l j = atR (dblR cyc l) j := by
  by_cases h : j < l.length
  · have := opJ_add (cyc := cyc) (l := l) 0 h
    rw [Nat.zero_mul, Nat.zero_add] at this
    rw [this, dbl_lo h]; simp
  · have := opJ_add (cyc := cyc) (l := l) 1 (t := j - l.length) (by omega)
    rw [Nat.one_mul, show l.length + (j - l.length) = j by omega] at this
    rw [this, dbl_hi (by omega) hj]; simp
theorem gotJ_lo {i : Nat} : ∀ {m : Nat}, i + 1 + m ≤ 2 * l.length → gotJ cyc lost l i m = gotP (dblR cyc l) lost i m
  | 0, _ => rfl
  | m + 1, h => by
    unfold gotJ gotP gJ giv
    rw [gotJ_lo (by omega), opJ_lo (by omega)]
theorem turn_got : gotJ cyc lost l 0 l.length = sumR lost l := by
  by_cases hn : 0 < l.length
  · have h1 := gotJ_turn (cyc := cyc) (lost := lost) hn 0
    have h2 := gotJ_turn (cyc := cyc) (lost := lost) hn (l.length - 1)
    rw [← h2, gotJ_lo (by omega), gotP_sum (by rw [dbl_len]; omega), turn_sum (by omega)]
  · have : l = [] := List.eq_nil_of_length_eq_zero (by omega)
    subst this; rfl
theorem dJ_le {per R : Int} (hn : 0 < l.length) (hRp : R * per = R') (hY : R' * cyc ≤ sumR lost l * 1048576) : ∀ (f i m : Nat), i + m ≤ f → dJ cyc lost R' l i m ≤ wOut (dblR cyc l) lost R per l.length l.length := by
  intro f
  induction f with
  | zero =>
    intro i m h
    have h1 : i = 0 := by omega
    have h2 : m = 0 := by omega
    subst h1; subst h2
    have h0 := (wOut_le (L := dblR cyc l) (lost := lost) (R := R) (per := per) (n := l.length) (i := l.length)).1 (Int.le_refl _)
    have := h0.2 0 hn 0 hn
    unfold dJ frJ toJ
    rw [gotJ_lo (by omega), opJ_lo (by omega), opJ_lo (by omega), ← hRp, ← Int.mul_assoc]
    exact this
  | succ f ih =>
    intro i m h
    by_cases hm : l.length ≤ m
    · have := ih i (m - l.length) (by omega)
      have e1 := gotJ_add (cyc := cyc) (lost := lost) (l := l) i (m - l.length) l.length
      rw [show m - l.length + l.length = m by omega, gotJ_turn hn, turn_got] at e1
      have e2 := toJ_turn (cyc := cyc) (lost := lost) (l := l) hn (i + 1 + (m - l.length))
      rw [show i + 1 + (m - l.length) + l.length = i + 1 + m by omega] at e2
      unfold dJ at this ⊢
      rw [e1, e2, show toJ cyc lost l (i + 1 + (m - l.length)) + cyc - frJ cyc lost l i = (toJ cyc lost l (i + 1 + (m - l.length)) - frJ cyc lost l i) + cyc by omega, Int.add_mul, Int.mul_comm cyc]
      omega
    · by_cases hi : l.length ≤ i
      · have := ih (i - l.length) m (by omega)
        have e1 := gotJ_shift (cyc := cyc) (lost := lost) hn (i - l.length) m
        have e2 := toJ_turn (cyc := cyc) (lost := lost) hn (i - l.length + 1 + m)
        have e3 := frJ_turn (cyc := cyc) (lost := lost) hn (i - l.length)
        rw [show i - l.length + l.length = i by omega] at e1 e3
        rw [show i - l.length + 1 + m + l.length = i + 1 + m by omega] at e2
        unfold dJ at this ⊢
        rw [e1, e2, e3, show toJ cyc lost l (i - l.length + 1 + m) + cyc - (frJ cyc lost l (i - l.length) + cyc) = toJ cyc lost l (i - l.length + 1 + m) - frJ cyc lost l (i - l.length) by omega]
        exact this
      · have h0 := (wOut_le (L := dblR cyc l) (lost := lost) (R := R) (per := per) (n := l.length) (i := l.length)).1 (Int.le_refl _)
        have := h0.2 i (by omega) m (by omega)
        unfold dJ frJ toJ
        rw [gotJ_lo (by omega), opJ_lo (by omega), opJ_lo (by omega), ← hRp, ← Int.mul_assoc]
        exact this
end
/-- The last one of which it holds; the first one. -/
theorem last_of {P : Nat → Prop} [DecidablePred P] (h0 : P 0) : ∀ N : Nat, 0 < N → ∃ i, i < N ∧ P i ∧ ∀ j, i < j → j < N → ¬ P j
  | 0, h => by omega
  | N + 1, _ => by
    by_cases hN : P N
    · exact ⟨N, by omega, hN, fun j h1 h2 => by omega⟩
    · by_cases h : 0 < N
      · obtain ⟨i, h1, h2, h3⟩ := last_of h0 N h
        exact ⟨i, by omega, h2, fun j h4 h5 => by by_cases e : j = N; · rw [e]; exact hN
                                                  · exact h3 j h4 (by omega)⟩
      · have : N = 0 := by omega
        subst this; exact absurd h0 hN
theorem first_of {P : Nat → Prop} [DecidablePred P] : ∀ {N : Nat}, P N → ∃ k, k ≤ N ∧ P k ∧ ∀ j, j < k → ¬ P j := fun {N} h => by
  induction N using Nat.strongRecOn with
  | ind N ih =>
    by_cases hx : ∃ j, j < N ∧ P j
    · obtain ⟨j, h1, h2⟩ := hx
      obtain ⟨k, h3, h4, h5⟩ := ih j h1 h2
      exact ⟨k, by omega, h4, h5⟩
    · exact ⟨N, Nat.le_refl _, h, fun j h1 h2 => hx ⟨j, h1, h2⟩⟩
theorem sum_nonneg {f : Int × Int → Int} (hf : ∀ x, 0 ≤ f x) : ∀ l : List (Int × Int), 0 ≤ (l.map f).sum
  | [] => by simp
  | x :: l => by rw [List.map_cons, List.sum_cons]; have := hf x; have := sum_nonneg hf l; omega
theorem sum_mem {f : Int × Int → Int} (hf : ∀ x, 0 ≤ f x) {x : Int × Int} : ∀ {l : List (Int × Int)}, x ∈ l → f x ≤ (l.map f).sum
  | y :: l, h => by
    rw [List.map_cons, List.sum_cons]
    rcases List.mem_cons.1 h with rfl | h
    · have := sum_nonneg hf l; omega
    · have := sum_mem hf h; have := hf y; omega
theorem cut_nonneg (lost a b : Int) (x : Int × Int) : 0 ≤ cut lost a b x := by unfold cut giv; omega
end Go.Sv

/-
  Every interval gives at least what the service says: the interval's ends.
-/
namespace Go.Sv
open Go Go.Eng Go.Gt Go.Proofs.Gt Go.Sw
variable {p : Int → Bool}
theorem at_take {L : List (Int × Int)} {a j : Nat} (h1 : j < a) (h2 : j < L.length) : atR L j ∈ L.take a := by
  rw [atR_get h2]
  have h3 : j < (L.take a).length := by rw [List.length_take]; omega
  have := List.getElem_mem h3
  rwa [List.getElem_take] at this
theorem at_drop {L : List (Int × Int)} {a j : Nat} (h1 : a ≤ j) (h2 : j < L.length) : atR L j ∈ L.drop a := by
  have h3 : j - a < (L.drop a).length := by rw [List.length_drop]; omega
  have := List.getElem_mem h3
  rw [List.getElem_drop] at this
  rw [atR_get h2]
  have e : a + (j - a) = j := by omega
  simpa only [e] using this
theorem gotJ_long {cyc lost : Int} {l : List (Int × Int)} {m0 i : Nat} : ∀ {m : Nat}, i + 1 + m ≤ m0 * l.length → gotJ cyc lost l i m = gotP (longR cyc l m0) lost i m
  | 0, _ => rfl
  | m + 1, h => by
    show gotJ cyc lost l i m + gJ cyc lost l (i + 1 + m) = gotP (longR cyc l m0) lost i m + _
    rw [gotJ_long (m0 := m0) (by omega), long_at (by omega)]
    rfl
/-- At least what lies between, and both ends. -/
theorem low_sum {A B lost a b cyc : Int} {l : List (Int × Int)} {m0 i m : Nat} (h : Runs p A B (longR cyc l m0)) (hl : 0 ≤ lost) (hA : A ≤ a) (hab : a ≤ b) (hB : b ≤ B) (hk : i + 1 + m < m0 * l.length)
    (hm : ∀ j, i < j → j < i + 1 + m → a ≤ (opJ cyc l j).1 ∧ (opJ cyc l j).2 ≤ b) : cut lost a b (opJ cyc l i) + gotJ cyc lost l i m + cut lost a b (opJ cyc l (i + 1 + m)) ≤ sumR lost (runs p a b) := by
  have hlen := long_len cyc l m0
  rw [h.cuts hl hA hab hB, split3 _ _ (i + 1) m, gotJ_long (m0 := m0) (by omega), gotP_sum (by rw [hlen]; omega)]
  have h1 := sum_mem (f := cut lost a b) (cut_nonneg lost a b) (at_take (L := longR cyc l m0) (show i < i + 1 by omega) (by rw [hlen]; omega))
  have h2 := sum_mem (f := cut lost a b) (cut_nonneg lost a b) (at_drop (L := longR cyc l m0) (Nat.le_refl (i + 1 + m)) (by rw [hlen]; omega))
  rw [long_at (by omega)] at h1 h2
  have h3 : (((longR cyc l m0).drop (i + 1)).take m).map (cut lost a b) = (((longR cyc l m0).drop (i + 1)).take m).map (fun x => giv lost (x.2 - x.1)) := by
    refine List.map_congr_left fun x hx => ?_
    obtain ⟨j, g1, g2, g3, rfl⟩ := mem_mid hx
    rw [hlen] at g3
    rw [long_at g3]
    have := hm j (by omega) (by omega)
    unfold cut; congr 1; omega
  rw [h3]
  show _ ≤ _ + sumR lost (((longR cyc l m0).drop (i + 1)).take m) + _
  omega
theorem mul_U {x R' : Int} (hx : 0 ≤ x) (hR : R' ≤ 1048576) : x * R' ≤ x * 1048576 := Int.mul_le_mul_of_nonneg_left hR hx
theorem hold_main {c cyc lost R' W a b : Int} {l : List (Int × Int)} {m0 : Nat} (hr : Runs p c (c + cyc) l) (h : Runs p c (c + m0 * cyc) (longR cyc l m0)) (hn : 0 < l.length) (hm0 : 2 ≤ m0) (hl : 1 ≤ lost) (hR : 0 ≤ R') (hRU : R' ≤ 1048576)
    (hW : ∀ i m, dJ cyc lost R' l i m ≤ W) (hcyc : 0 ≤ cyc) (ha : c + cyc ≤ a) (hab : a ≤ b) (hb : b ≤ c + ((m0 - 1 : Nat) : Int) * cyc) : (b - a) * R' - sumR lost (runs p a b) * 1048576 ≤ W := by
  have hlen := long_len cyc l m0
  have hbB : b ≤ c + m0 * cyc := by
    have : ((m0 - 1 : Nat) : Int) * cyc ≤ m0 * cyc := Int.mul_le_mul_of_nonneg_right (by omega) hcyc
    omega
  have hN : 0 < m0 * l.length := Nat.mul_pos (by omega) hn
  have hat : ∀ {j}, j < m0 * l.length → (opJ cyc l j).1 < (opJ cyc l j).2 := fun hj => by have := h.at_ (k := _) (by rw [hlen]; exact hj); rw [long_at hj] at this; omega
  have hord : ∀ {i j}, i < j → j < m0 * l.length → (opJ cyc l i).2 ≤ (opJ cyc l j).1 := fun hij hj => by have := h.ord hij (by rw [hlen]; exact hj); rwa [long_at hj, long_at (by omega)] at this
  have hS0 : 0 ≤ sumR lost (runs p a b) := sumR_nonneg _ _
  -- the ends
  have hP0 : frJ cyc lost l 0 ≤ a := by
    have h1 := hr.at_ hn
    have h2 := opJ_add (cyc := cyc) (l := l) 0 hn
    rw [Nat.zero_mul, Nat.zero_add] at h2
    unfold frJ; rw [h2]; simp only [Int.natCast_zero, Int.zero_mul, Int.add_zero]; omega
  obtain ⟨i, hi1, hi2, hi3⟩ := last_of (P := fun j => frJ cyc lost l j ≤ a) hP0 _ hN
  have hQ : b ≤ toJ cyc lost l (m0 * l.length - 1) := by
    have h1 := hr.at_ (k := l.length - 1) (by omega)
    have e : m0 * l.length - 1 = (m0 - 1) * l.length + (l.length - 1) := by
      obtain ⟨q, rfl⟩ : ∃ q, m0 = q + 1 := ⟨m0 - 1, by omega⟩
      rw [Nat.add_sub_cancel, Nat.add_mul]; omega
    have h2 := opJ_add (cyc := cyc) (l := l) (m0 - 1) (t := l.length - 1) (by omega)
    unfold toJ; rw [e, h2]; simp only; omega
  obtain ⟨k, hk1, hk2, hk3⟩ := first_of (P := fun j => b ≤ toJ cyc lost l j) hQ
  simp only [Int.not_le] at hi3 hk3
  -- an interval about as long as a gap
  have short : b - a ≤ toJ cyc lost l (i + 1) - frJ cyc lost l i → (b - a) * R' - sumR lost (runs p a b) * 1048576 ≤ W := fun hs => by
    have h1 := hW i 0
    have h2 : (b - a) * R' ≤ (toJ cyc lost l (i + 1) - frJ cyc lost l i) * R' := Int.mul_le_mul_of_nonneg_right hs hR
    unfold dJ gotJ at h1
    rw [show i + 1 + 0 = i + 1 from rfl] at h1
    omega
  by_cases hki : k ≤ i + 1
  · by_cases hke : k = i + 1
    · subst hke; exact short (by omega)
    · -- inside the opening i
      have h1 := hat hi1
      by_cases hi4 : i + 1 < m0 * l.length
      · have h2 := hord (show i < i + 1 by omega) hi4
        have h3 := hat hi4
        have h4 : toJ cyc lost l k ≤ (opJ cyc l i).2 := by
          by_cases e : k = i
          · subst e; unfold toJ; omega
          · have := hord (show k < i by omega) hi1; unfold toJ; omega
        have hb5 : b ≤ (opJ cyc l i).2 := Int.le_trans hk2 h4
        exact short (by unfold toJ; omega)
      · have h4 : toJ cyc lost l k ≤ (opJ cyc l i).2 := by
          by_cases e : k = i
          · subst e; unfold toJ; omega
          · have := hord (show k < i by omega) hi1; unfold toJ; omega
        have h5 : i = m0 * l.length - 1 := by omega
        have h6 := toJ_turn (cyc := cyc) (lost := lost) hn (i + 1 - l.length)
        have h7 : l.length ≤ i + 1 := by
          have : 1 * l.length ≤ m0 * l.length := Nat.mul_le_mul_right _ (by omega)
          omega
        rw [show i + 1 - l.length + l.length = i + 1 by omega] at h6
        have h8 : toJ cyc lost l i ≤ toJ cyc lost l (i + 1) := by
          -- the next turn begins later
          have e : i + 1 = m0 * l.length + 0 := by omega
          have h9 := opJ_add (cyc := cyc) (l := l) m0 hn
          have h10 := h.at_ (k := i) (by rw [hlen]; exact hi1)
          rw [long_at hi1] at h10
          have h11 := hr.at_ hn
          unfold toJ; rw [e, h9]; simp only; omega
        have h12 : toJ cyc lost l k ≤ toJ cyc lost l i := by
          by_cases e : k = i
          · rw [e]; omega
          · have := hord (show k < i by omega) hi1; have := hat (show k < m0 * l.length by omega); unfold toJ; omega
        exact short (by omega)
  · have hkN : k < m0 * l.length := by omega
    have g1 := hk3 (k - 1) (by omega)
    have g2 := hi3 (i + 1) (by omega) (by omega)
    have o1 := hat (show i + 1 < m0 * l.length by omega)
    have o2 := hat (show k - 1 < m0 * l.length by omega)
    have o3 := hord (show i < i + 1 by omega) (show i + 1 < m0 * l.length by omega)
    have o4 := hord (show k - 1 < k by omega) hkN
    have o5 := hat hi1
    have hmid : ∀ j, i + 1 < j → j < m0 * l.length → a ≤ (opJ cyc l j).1 := fun j h1 h2 => by have := hord h1 h2; unfold frJ at g2; omega
    have hmid2 : ∀ j, j < k - 1 → (opJ cyc l j).2 ≤ b := fun j h1 => by have := hord h1 (show k - 1 < m0 * l.length by omega); unfold toJ at g1; omega
    have hmid3 : ¬ b < (opJ cyc l (k - 1)).2 → ∀ j, j < k → (opJ cyc l j).2 ≤ b := by
      intro hRr j h1
      by_cases e : j = k - 1
      · rw [e]; omega
      · exact hmid2 j (by omega)
    by_cases hL : (opJ cyc l (i + 1)).1 < a
    · by_cases hRr : b < (opJ cyc l (k - 1)).2
      · by_cases hone : i + 1 = k - 1
        · -- the interval lies inside one opening
          have hc := low_sum (lost := lost) (m0 := m0) (i := i) (m := 0) h (by omega) (by omega) hab hbB (by omega) (fun j h1 h2 => by omega)
          rw [show i + 1 + 0 = i + 1 from rfl] at hc
          have n1 := cut_nonneg lost a b (opJ cyc l i)
          have hcut : b - a - lost ≤ cut lost a b (opJ cyc l (i + 1)) := by rw [← hone] at hRr; unfold cut giv; omega
          have n2 := cut_nonneg lost a b (opJ cyc l (i + 1))
          have hg0 : gotJ cyc lost l i 0 = 0 := rfl
          have hlong : lost ≤ toJ cyc lost l (i + 1) - frJ cyc lost l i := by
            unfold frJ at g2 hi2
            unfold toJ frJ; omega
          have h1 := hW i 0
          unfold dJ at h1
          rw [show i + 1 + 0 = i + 1 from rfl, hg0] at h1
          have h2 : lost * R' ≤ (toJ cyc lost l (i + 1) - frJ cyc lost l i) * R' := Int.mul_le_mul_of_nonneg_right hlong hR
          by_cases hsm : b - a ≤ lost
          · exact short (by omega)
          · have h3 := mul_U (x := b - a - lost) (by omega) hRU
            rw [Int.sub_mul] at h3
            omega
        · -- both ends move inwards
          obtain ⟨m, hm⟩ : ∃ m, k - 1 = i + 1 + 1 + m := ⟨k - 1 - (i + 1 + 1), by omega⟩
          have hc := low_sum (lost := lost) (m0 := m0) (i := i + 1) (m := m) h (by omega) (by omega) hab hbB (by omega) (fun j h1 h2 => ⟨hmid j h1 (by omega), hmid2 j (by omega)⟩)
          rw [← hm] at hc
          have hb1 := hmid2 (i + 1) (by omega)
          have ha1 := hmid (k - 1) (by omega) (by omega)
          have c1 : frJ cyc lost l (i + 1) - a ≤ cut lost a b (opJ cyc l (i + 1)) := by unfold frJ at g2 ⊢; unfold cut giv; omega
          have c2 : b - toJ cyc lost l (k - 1) ≤ cut lost a b (opJ cyc l (k - 1)) := by unfold toJ at g1 ⊢; unfold cut giv; omega
          have h1 := hW (i + 1) m
          unfold dJ at h1
          rw [← hm] at h1
          have h2 := mul_U (x := frJ cyc lost l (i + 1) - a) (by omega) hRU
          have h3 := mul_U (x := b - toJ cyc lost l (k - 1)) (by omega) hRU
          have e : (b - a) * R' = (toJ cyc lost l (k - 1) - frJ cyc lost l (i + 1)) * R' + (frJ cyc lost l (i + 1) - a) * R' + (b - toJ cyc lost l (k - 1)) * R' := by rw [← Int.add_mul, ← Int.add_mul]; congr 1; omega
          omega
      · -- the left end moves inwards
        obtain ⟨m, hm⟩ : ∃ m, k = i + 1 + 1 + m := ⟨k - (i + 1 + 1), by omega⟩
        have hc := low_sum (lost := lost) (m0 := m0) (i := i + 1) (m := m) h (by omega) (by omega) hab hbB (by omega) (fun j h1 h2 => ⟨hmid j h1 (by omega), hmid3 hRr j (by omega)⟩)
        rw [← hm] at hc
        have hb1 : (opJ cyc l (i + 1)).2 ≤ b := hmid3 hRr (i + 1) (by omega)
        have c1 : frJ cyc lost l (i + 1) - a ≤ cut lost a b (opJ cyc l (i + 1)) := by unfold frJ at g2 ⊢; unfold cut giv; omega
        have c2 := cut_nonneg lost a b (opJ cyc l k)
        have h1 := hW (i + 1) m
        unfold dJ at h1
        rw [← hm] at h1
        have h2 := mul_U (x := frJ cyc lost l (i + 1) - a) (by omega) hRU
        have h3 : (b - toJ cyc lost l k) * R' ≤ 0 := by
          have h4 := Int.mul_nonneg (show 0 ≤ toJ cyc lost l k - b by omega) hR
          rw [show b - toJ cyc lost l k = -(toJ cyc lost l k - b) by omega, Int.neg_mul]; omega
        have e : (b - a) * R' = (toJ cyc lost l k - frJ cyc lost l (i + 1)) * R' + (frJ cyc lost l (i + 1) - a) * R' + (b - toJ cyc lost l k) * R' := by rw [← Int.add_mul, ← Int.add_mul]; congr 1; omega
        omega
    · have ha2 : ∀ j, i < j → j < m0 * l.length → a ≤ (opJ cyc l j).1 := by
        intro j h1 h2
        by_cases e : j = i + 1
        · rw [e]; omega
        · exact hmid j (by omega) h2
      have h2 : (frJ cyc lost l i - a) * R' ≤ 0 := by
        have h4 := Int.mul_nonneg (show 0 ≤ a - frJ cyc lost l i by omega) hR
        rw [show frJ cyc lost l i - a = -(a - frJ cyc lost l i) by omega, Int.neg_mul]; omega
      by_cases hRr : b < (opJ cyc l (k - 1)).2
      · -- the right end moves inwards
        obtain ⟨m, hm⟩ : ∃ m, k - 1 = i + 1 + m := ⟨k - 1 - (i + 1), by omega⟩
        have hc := low_sum (lost := lost) (m0 := m0) (i := i) (m := m) h (by omega) (by omega) hab hbB (by omega) (fun j h1 h2 => ⟨ha2 j h1 (by omega), hmid2 j (by omega)⟩)
        rw [← hm] at hc
        have ha1 := ha2 (k - 1) (by omega) (by omega)
        have c1 := cut_nonneg lost a b (opJ cyc l i)
        have c2 : b - toJ cyc lost l (k - 1) ≤ cut lost a b (opJ cyc l (k - 1)) := by unfold toJ at g1 ⊢; unfold cut giv; omega
        have h1 := hW i m
        unfold dJ at h1
        rw [← hm] at h1
        have h3 := mul_U (x := b - toJ cyc lost l (k - 1)) (by omega) hRU
        have e : (b - a) * R' = (toJ cyc lost l (k - 1) - frJ cyc lost l i) * R' + (frJ cyc lost l i - a) * R' + (b - toJ cyc lost l (k - 1)) * R' := by rw [← Int.add_mul, ← Int.add_mul]; congr 1; omega
        omega
      · obtain ⟨m, hm⟩ : ∃ m, k = i + 1 + m := ⟨k - (i + 1), by omega⟩
        have hc := low_sum (lost := lost) (m0 := m0) (i := i) (m := m) h (by omega) (by omega) hab hbB (by omega) (fun j h1 h2 => ⟨ha2 j h1 (by omega), hmid3 hRr j (by omega)⟩)
        rw [← hm] at hc
        have c1 := cut_nonneg lost a b (opJ cyc l i)
        have c2 := cut_nonneg lost a b (opJ cyc l k)
        have h1 := hW i m
        unfold dJ at h1
        rw [← hm] at h1
        have h3 : (b - toJ cyc lost l k) * R' ≤ 0 := by
          have h4 := Int.mul_nonneg (show 0 ≤ toJ cyc lost l k - b by omega) hR
          rw [show b - toJ cyc lost l k = -(toJ cyc lost l k - b) by omega, Int.neg_mul]; omega
        have e : (b - a) * R' = (toJ cyc lost l k - frJ cyc lost l i) * R' + (frJ cyc lost l i - a) * R' + (b - toJ cyc lost l k) * R' := by rw [← Int.add_mul, ← Int.add_mul]; congr 1; omega
        omega
end Go.Sv

/-
  The service's theorem for gate lists.
-/
namespace Go.Sv
open Go Go.Eng Go.Gt Go.Proofs.Gt Go.Sw
variable {es : Ents} {cyc : Int}
theorem ceil_ge {x d : Int} (hd : 1 ≤ d) : x ≤ d * ((x + d - 1) / d) := by
  have h1 := Int.mul_ediv_add_emod (x + d - 1) d
  have h2 := Int.emod_lt_of_pos (x + d - 1) (show 0 < d by omega)
  omega
theorem sum_at (lost : Int) (c t lg : Int) (_hc : 1 ≤ cyc) : sumS es cyc lost t (t + lg) = sumS es cyc lost (c + cyc + (t - c) % cyc) (c + cyc + (t - c) % cyc + lg) := by
  have hd := Int.mul_ediv_add_emod (t - c) cyc
  rw [← sumS_shl lost t (t + lg) (1 - (t - c) / cyc)]
  have e : cyc * (1 - (t - c) / cyc) = cyc - cyc * ((t - c) / cyc) := by rw [Int.mul_sub, Int.mul_one]
  congr 1 <;> omega
structure Ok30 (es : Ents) (cyc per most : Int) : Prop where
  hG : okG es cyc = true
  p : 1 ≤ per ∧ per ≤ 1000 ∧ 84 ≤ most ∧ most ≤ 1542
  r : 1 ≤ rateS es cyc (most * per) per
theorem worst_hold {per most t lg : Int} (h : Ok30 es cyc per most) (hal : alwE es = false) (hlg : 0 ≤ lg ∧ lg ≤ 4 * cyc) :
    lg * (rateS es cyc (most * per) per * per) - sumS es cyc (most * per) t (t + lg) * 1048576 ≤ worstP es cyc (most * per) (rateS es cyc (most * per) per) per := by
  have hc := okG_cyc h.hG
  have hp := h.p
  have hml : 84 * 1 ≤ most * per := Int.mul_le_mul hp.2.2.1 hp.1 (by decide) (by omega)
  have hrt := rate_rng (es := es) (cyc := cyc) (lost := most * per) (per := per) (by omega) (by omega) (by omega)
  have hcf := closed_facts h.hG hal
  obtain ⟨hr, hc0, hc1⟩ := round_is h.hG
  have hYe : yieldS es cyc (most * per) = sumR (most * per) (roundR es cyc) := by unfold yieldS; rw [hal]; rfl
  have hn : 0 < (roundR es cyc).length := by
    rcases Nat.eq_zero_or_pos (roundR es cyc).length with h0 | h0
    · have h1 : roundR es cyc = [] := List.eq_nil_of_length_eq_zero h0
      rw [hYe, h1, sumR_nil] at hrt
      have h2 : 1 * 1 ≤ rateS es cyc (most * per) per * per := Int.mul_le_mul h.r hp.1 (by decide) (by omega)
      have h3 : 1 * 1 ≤ rateS es cyc (most * per) per * per * cyc := Int.mul_le_mul h2 hc.1 (by decide) (by omega)
      omega
    · exact h0
  have hlong := long_runs (op_per es cyc) (by omega) hcf.2.2 hr 8
  have hmod : 0 ≤ (t - closedE es) % cyc ∧ (t - closedE es) % cyc < cyc := ⟨Int.emod_nonneg _ (by omega), Int.emod_lt_of_pos _ (by omega)⟩
  have hmain := hold_main (lost := most * per) (R' := rateS es cyc (most * per) per * per) (W := worstP es cyc (most * per) (rateS es cyc (most * per) per) per) (a := closedE es + cyc + (t - closedE es) % cyc) (b := closedE es + cyc + (t - closedE es) % cyc + lg) hr hlong hn (by decide) (by omega) (Int.mul_nonneg hrt.1 (by omega)) hrt.2.1
    (fun i m => by
      have := dJ_le (cyc := cyc) (lost := most * per) (l := roundR es cyc) (per := per) (R := rateS es cyc (most * per) per) hn rfl (by rw [← hYe]; exact hrt.2.2) (i + m) i m (Nat.le_refl _)
      unfold worstP; rw [hal]; exact this) (by omega) (by omega) (by omega) (by show _ ≤ closedE es + ((7 : Nat) : Int) * cyc; omega)
  rw [sum_at (es := es) (most * per) (closedE es) t lg hc.1]
  rw [show closedE es + cyc + (t - closedE es) % cyc + lg - (closedE es + cyc + (t - closedE es) % cyc) = lg by omega] at hmain
  exact hmain
theorem worst_rng {per most : Int} (h : Ok30 es cyc per most) : 0 ≤ worstP es cyc (most * per) (rateS es cyc (most * per) per) per ∧ worstP es cyc (most * per) (rateS es cyc (most * per) per) per ≤ 2 * cyc * (rateS es cyc (most * per) per * per) := by
  have hc := okG_cyc h.hG
  have hp := h.p
  have hml : 84 * 1 ≤ most * per := Int.mul_le_mul hp.2.2.1 hp.1 (by decide) (by omega)
  have hrt := rate_rng (es := es) (cyc := cyc) (lost := most * per) (per := per) (by omega) (by omega) (by omega)
  have hRp : 0 ≤ rateS es cyc (most * per) per * per := Int.mul_nonneg hrt.1 (by omega)
  have hX : 0 ≤ 2 * cyc * (rateS es cyc (most * per) per * per) := Int.mul_nonneg (by omega) hRp
  unfold worstP
  split
  · exact ⟨Int.le_refl _, hX⟩
  · rename_i hal
    have hal : alwE es = false := by simpa using hal
    have hD := dbl_runs h.hG hal
    have hlen := dbl_len cyc (roundR es cyc)
    refine ⟨((wOut_le).1 (Int.le_refl _)).1, wOut_le.2 ⟨hX, fun i hi j hj => ?_⟩⟩
    have h1 := hD.at_ (k := i) (by rw [hlen]; omega)
    have h2 := hD.at_ (k := i + 1 + j) (by rw [hlen]; omega)
    have hg : 0 ≤ gotP (dblR cyc (roundR es cyc)) (most * per) i j := by rw [gotP_sum (by rw [hlen]; omega)]; exact sumR_nonneg _ _
    unfold gapP
    rw [Int.mul_assoc]
    have := Int.mul_le_mul_of_nonneg_right (show min (atR (dblR cyc (roundR es cyc)) (i + 1 + j)).2 ((atR (dblR cyc (roundR es cyc)) (i + 1 + j)).1 + most * per) - max (atR (dblR cyc (roundR es cyc)) i).1 ((atR (dblR cyc (roundR es cyc)) i).2 - most * per) ≤ 2 * cyc by omega) hRp
    omega
/-- The latency. -/
theorem lat_facts {per most : Int} (h : Ok30 es cyc per most) (hcy : cyc ≤ 10210) {R L : Int} (hR : rateS es cyc (most * per) per = R) (hL : latS per R (worstP es cyc (most * per) R per) = L) :
    (1 ≤ R ∧ R ≤ 1048576 ∧ 1 ≤ R * per ∧ R * per ≤ 1048576) ∧ (0 ≤ L ∧ L ≤ 268435456) ∧ 127 * 1048576 ≤ L * R ∧ 127 * per * 1048576 + worstP es cyc (most * per) R per ≤ R * per * L := by
  have hc := okG_cyc h.hG
  have hp := h.p
  have hml : 84 * 1 ≤ most * per := Int.mul_le_mul hp.2.2.1 hp.1 (by decide) (by omega)
  have hrt := rate_rng (es := es) (cyc := cyc) (lost := most * per) (per := per) (by omega) (by omega) (by omega)
  have hw := worst_rng h
  have h1 := h.r
  rw [hR] at hrt hw h1
  have hRp1 : 1 * 1 ≤ R * per := Int.mul_le_mul h1 hp.1 (by decide) (by omega)
  have hR2 : R * 1 ≤ R * per := Int.mul_le_mul_of_nonneg_left hp.1 (by omega)
  have hpR : 1 * per ≤ R * per := Int.mul_le_mul_of_nonneg_right h1 (by omega)
  have hge : 127 * per * 1048576 + worstP es cyc (most * per) R per ≤ R * per * L := by rw [← hL]; exact ceil_ge (by omega)
  have hL0 : 0 ≤ L := by rw [← hL]; exact Int.ediv_nonneg (by omega) (by omega)
  refine ⟨⟨h1, by omega, by omega, hrt.2.1⟩, ⟨hL0, ?_⟩, ?_, hge⟩
  · rw [← hL]
    unfold latS
    refine Int.le_trans (b := 133169152 + 2 * cyc + 1) (Int.ediv_le_of_le_mul (by omega) ?_) (by omega)
    have e : (133169152 + 2 * cyc + 1) * (R * per) = 133169152 * (R * per) + 2 * cyc * (R * per) + R * per := by rw [Int.add_mul, Int.add_mul, Int.one_mul]
    omega
  · have e : R * per * L = L * R * per := by rw [Int.mul_comm, Int.mul_assoc]
    rw [e] at hge
    have : 127 * 1048576 * per ≤ L * R * per := by omega
    exact Int.le_of_mul_le_mul_right this (by omega)
theorem hold_ok {per most t lg : Int} (h : Ok30 es cyc per most) (hcy : cyc ≤ 10210) (ht : -1099511627776 ≤ t ∧ t ≤ 1099511627776) (hlg : 0 ≤ lg ∧ lg ≤ 4 * cyc) {R L : Int} (hR : rateS es cyc (most * per) per = R) (hL : latS per R (worstP es cyc (most * per) R per) = L) :
    0 ≤ hsendS es cyc per most t lg ∧ hsendS es cyc per most t lg ≤ 4 * cyc ∧ R * per * (lg - L) ≤ hsendS es cyc per most t lg * 1048576 := by
  have hc := okG_cyc h.hG
  have hp := h.p
  obtain ⟨f1, f2, f3, f4⟩ := lat_facts h hcy hR hL
  have hA : argS per most = true := decide_eq_true hp
  have he : errS es cyc per most = 0 := by unfold errS; rw [h.hG, hA]; rfl
  have hT : argT cyc t lg = true := by unfold argT okTm; simp; omega
  have hs : hsendS es cyc per most t lg = max 0 (leastS es cyc per most t lg) := by unfold hsendS sendsA; rw [if_pos he, if_pos hT]; rfl
  have hml : 84 * 1 ≤ most * per := Int.mul_le_mul hp.2.2.1 hp.1 (by decide) (by omega)
  have hlr := least_rng (es := es) (cyc := cyc) (per := per) (most := most) (t := t) (lg := lg) hp hlg.1
  rw [hs]
  refine ⟨by omega, by omega, ?_⟩
  have e1 : R * per * (lg - L) = lg * (R * per) - R * per * L := by rw [Int.mul_sub, Int.mul_comm (R * per) lg]
  rw [e1]
  unfold leastS
  cases hal : alwE es with
  | true =>
    have hw0 : worstP es cyc (most * per) R per = 0 := by unfold worstP; rw [hal]; rfl
    rw [hw0] at f4
    simp only [if_true]
    have := Int.mul_le_mul_of_nonneg_left f1.2.2.2 hlg.1
    omega
  | false =>
    simp only [Bool.false_eq_true, if_false]
    have := worst_hold (t := t) h hal hlg
    rw [hR] at this
    omega
theorem of_val {per most : Int} (h : Ok30 es cyc per most) : ofS es cyc per most = ((rateS es cyc (most * per) per, latS per (rateS es cyc (most * per) per) (worstP es cyc (most * per) (rateS es cyc (most * per) per) per)), 0) := by
  have hA : argS per most = true := decide_eq_true h.p
  have he : errS es cyc per most = 0 := by unfold errS; rw [h.hG, hA]; rfl
  have := h.r
  unfold ofS; rw [if_pos he, if_neg (by omega)]
theorem of_none {per most : Int} (hG : okG es cyc = true) (hp : 1 ≤ per ∧ per ≤ 1000 ∧ 84 ≤ most ∧ most ≤ 1542) (h : ¬ 1 ≤ rateS es cyc (most * per) per) : ofS es cyc per most = ((0, 0), 4) := by
  have hA : argS per most = true := decide_eq_true hp
  have he : errS es cyc per most = 0 := by unfold errS; rw [hG, hA]; rfl
  unfold ofS; rw [if_pos he, if_pos (by omega)]
end Go.Sv

/-
  What an interval gives grows with it.
-/
namespace Go.Sv
open Go Go.Eng Go.Gt Go.Proofs.Gt Go.Sw
variable {es : Ents} {cyc : Int}
theorem sum_le {f g : Int × Int → Int} : ∀ {l : List (Int × Int)}, (∀ x ∈ l, f x ≤ g x) → (l.map f).sum ≤ (l.map g).sum
  | [], _ => Int.le_refl _
  | x :: l, h => by
    rw [List.map_cons, List.map_cons, List.sum_cons, List.sum_cons]
    have h1 := h x List.mem_cons_self
    have h2 := sum_le (f := f) (g := g) (l := l) fun y hy => h y (List.mem_cons_of_mem _ hy)
    omega
theorem sumS_mono {lost a b a' b' : Int} (hl : 0 ≤ lost) (h1 : a' ≤ a) (h2 : a ≤ b) (h3 : b ≤ b') : sumS es cyc lost a b ≤ sumS es cyc lost a' b' := by
  have hr := runs_is (op6 es cyc) a' b'
  unfold sumS
  rw [hr.cuts hl h1 h2 h3, hr.cuts hl (Int.le_refl _) (by omega) (Int.le_refl _)]
  exact sum_le fun x _ => by unfold cut giv; omega
def openS (es : Ents) (cyc a b : Int) : Int := sumS es cyc 0 a b
theorem sumS_open {lost a b : Int} (hl : 0 ≤ lost) : sumS es cyc lost a b ≤ openS es cyc a b := by
  unfold openS sumS sumR; exact sum_le fun x _ => by unfold giv; omega
theorem least_mono {per most t lg t' lg' : Int} (hl : 0 ≤ most * per) (h1 : t' ≤ t) (h2 : 0 ≤ lg) (h3 : t + lg ≤ t' + lg') : leastS es cyc per most t lg ≤ leastS es cyc per most t' lg' := by
  unfold leastS
  split
  · omega
  · have := sumS_mono (es := es) (cyc := cyc) hl h1 (show t ≤ t + lg by omega) h3; omega
theorem open_all {a b : Int} (hG : okG es cyc = true) (hal : alwE es = true) (h : a ≤ b) : openS es cyc a b = b - a := by
  unfold openS sumS
  by_cases hab : a < b
  · rw [runs_open hab (Int.le_refl _) (fun y _ _ => alw_op hG hal y) (fun h => by omega), runs_end (by omega), sumR_cons, sumR_nil]; unfold giv; simp only; omega
  · rw [runs_end hab, sumR_nil]; omega
theorem hsend_val {per most t lg : Int} (hG : okG es cyc = true) (hp : 1 ≤ per ∧ per ≤ 1000 ∧ 84 ≤ most ∧ most ≤ 1542) (ht : -1099511627776 ≤ t ∧ t ≤ 1099511627776) (hlg : 0 ≤ lg ∧ lg ≤ 4 * cyc) : hsendS es cyc per most t lg = max 0 (leastS es cyc per most t lg) := by
  have hA : argS per most = true := decide_eq_true hp
  have he : errS es cyc per most = 0 := by unfold errS; rw [hG, hA]; rfl
  have hT : argT cyc t lg = true := by unfold argT okTm; simp; omega
  unfold hsendS sendsA; rw [if_pos he, if_pos hT]; rfl
theorem grow_ok {per most t lg l r : Int} (hG : okG es cyc = true) (hp : 1 ≤ per ∧ per ≤ 1000 ∧ 84 ≤ most ∧ most ≤ 1542) (ht : -32768 ≤ t ∧ t ≤ 32767) (hlg : 0 ≤ lg ∧ lg ≤ cyc) (hl : 0 ≤ l ∧ l ≤ cyc) (hr : 0 ≤ r ∧ r ≤ cyc) :
    0 ≤ hsendS es cyc per most t lg ∧ hsendS es cyc per most t lg ≤ openS es cyc t (t + lg) ∧ hsendS es cyc per most t lg ≤ hsendS es cyc per most (t - l) (lg + l) ∧ hsendS es cyc per most t lg ≤ hsendS es cyc per most t (lg + r) ∧ hsendS es cyc per most (t + cyc) lg = hsendS es cyc per most t lg := by
  have hc := okG_cyc hG
  have hml : 84 * 1 ≤ most * per := Int.mul_le_mul hp.2.2.1 hp.1 (by decide) (by omega)
  rw [hsend_val hG hp (by omega) (by omega), hsend_val hG hp (by omega) (by omega), hsend_val hG hp (by omega) (by omega), hsend_val hG hp (by omega) (by omega)]
  have m1 := least_mono (es := es) (cyc := cyc) (per := per) (most := most) (t := t) (lg := lg) (t' := t - l) (lg' := lg + l) (by omega) (by omega) (by omega) (by omega)
  have m2 := least_mono (es := es) (cyc := cyc) (per := per) (most := most) (t := t) (lg := lg) (t' := t) (lg' := lg + r) (by omega) (by omega) (by omega) (by omega)
  have m3 : leastS es cyc per most (t + cyc) lg = leastS es cyc per most t lg := by
    unfold leastS
    have := sumS_shl (es := es) (cyc := cyc) (most * per) t (t + lg) 1
    rw [Int.mul_one] at this
    rw [show t + cyc + lg = t + lg + cyc by omega, this]
  have m4 : leastS es cyc per most t lg ≤ openS es cyc t (t + lg) := by
    unfold leastS
    cases hal : alwE es with
    | true => rw [open_all hG hal (by omega)]; simp only [if_true]; omega
    | false => have := sumS_open (es := es) (cyc := cyc) (a := t) (b := t + lg) (show 0 ≤ most * per by omega); simp only [Bool.false_eq_true, if_false]; omega
  have m5 : 0 ≤ openS es cyc t (t + lg) := sumR_nonneg _ _
  rw [m3]
  exact ⟨by omega, by omega, by omega, by omega, rfl⟩
theorem open_end {a b : Int} (h : ¬ a < b) : openS es cyc a b = 0 := by unfold openS sumS; rw [runs_end h]; rfl
theorem open_step (hG : okG es cyc = true) {a b : Int} (hab : a < b) (h0 : 0 < spanE es cyc 6 a) (hB : b - a ≤ big) : openS es cyc a b = min (spanE es cyc 6 a) (b - a) + openS es cyc (a + min (spanE es cyc 6 a) (b - a)) b := by
  unfold openS sumS
  rw [runs_span hG hab h0 hB, sumR_cons, show min (a + spanE es cyc 6 a) b = a + min (spanE es cyc 6 a) (b - a) by omega]
  unfold giv; simp only; omega
theorem open_turn (hG : okG es cyc = true) {a b u : Int} (h0 : ¬ 0 < spanE es cyc 6 a) (hu : turnE es cyc a = some u) : openS es cyc a b = openS es cyc u b := by
  have ht := turn_some hG hu
  have hp : op6 es cyc a = false := by
    cases h : op6 es cyc a with
    | false => rfl
    | true => exact absurd ((span_pos hG).1 h) h0
  unfold openS sumS
  rw [runs_shut (c := u) (by omega) fun y k1 k2 => ?_]
  have := ht.2.2.2 y k1 k2
  unfold op6 isO at hp ⊢
  rw [this, hp]
theorem open_noturn (hG : okG es cyc = true) {a b : Int} (h0 : ¬ 0 < spanE es cyc 6 a) (hu : turnE es cyc a = none) : openS es cyc a b = 0 := by
  have hp : op6 es cyc a = false := by
    cases h : op6 es cyc a with
    | false => rfl
    | true => exact absurd ((span_pos hG).1 h) h0
  unfold openS sumS
  have hall : ∀ y, op6 es cyc y = false := fun y => op_cover (t := a) (fun j h1 h2 => by
    have := turn_none hG hu (a + j) (by omega) (by omega)
    unfold op6 isO at hp ⊢
    rw [this, hp]) (okG_cyc hG).1 y
  rw [runs_none fun y _ _ => hall y]; rfl
end Go.Sv
