/-
  The texts SwPlain2 to SvPlain2, one after the other.
-/
import Derived.Test.YtgaliocgkjghnaaGtPlain6ToSwPlain
import Derived.Test.YtgaliocgkjghnaaEng23ToEng25
/-
  Stretches as they are yielded.
-/
namespace Go.Sw
open Go Go.Eng Go.Gt Go.Proofs.Gt
theorem drop_head {α : Type} {l r : List α} {i : Nat} {a : α} (h : l.drop i = a :: r) : ∃ hi : i < l.length, l[i] = a ∧ l.drop (i + 1) = r := by
  have hi : i < l.length := by
    rcases Nat.lt_or_ge i l.length with h' | h'
    · exact h'
    · rw [List.drop_eq_nil_of_le h'] at h; cases h
  rw [List.drop_eq_getElem_cons hi] at h
  injection h with h1 h2
  exact ⟨hi, h1, h2⟩
theorem drop_nil {α : Type} {l : List α} {i : Nat} (h : l.drop i = []) (hi : i ≤ l.length) : i = l.length := by
  have := List.drop_eq_nil_iff.1 h
  omega
theorem ch_cells {F : Know} {c : Ch} {q : Nat} (h : ∀ j, j < 7 → F ((⟨q, 0, none⟩ : Addr).add j) = (chv c)[j]?) (o n : Nat) (vs : List Value) (hn : o + n ≤ 7) (hv : ∀ j, j < n → (chv c)[o + j]? = vs[j]?) : ∀ j, j < n → F (((⟨q, 0, none⟩ : Addr).add o).add j) = vs[j]? := by
  intro j hj
  rw [add_add, h (o + j) (by omega)]
  exact hv j hj
theorem ch_cell {F : Know} {c : Ch} {q : Nat} (h : ∀ j, j < 7 → F ((⟨q, 0, none⟩ : Addr).add j) = (chv c)[j]?) (o : Nat) (ho : o < 7) {u : Value} (hv : (chv c)[o]? = some u) : F ((⟨q, 0, none⟩ : Addr).add o) = some u := by
  rw [h o ho, hv]
theorem at2 {P : Nat → Prop} (h0 : P 0) (h1 : P 1) : ∀ j, j < 2 → P j := fun j hj => by
  match j, hj with
  | 0, _ => exact h0
  | 1, _ => exact h1
theorem next_some {c : Ch} {e x lo u en b : Int} {g : Gl} (h1 : glC c x = g) (h2 : begC c x = b) (h3 : endC c e x = en) (h4 : (x - b) % g.cyc = lo) (h5 : turnE g.es g.cyc lo = some u) : nextC c e x = min en (x + u - lo) := by
  subst h1 h2 h3 h4; unfold nextC; rw [h5]
theorem next_none {c : Ch} {e x lo en b : Int} {g : Gl} (h1 : glC c x = g) (h2 : begC c x = b) (h3 : endC c e x = en) (h4 : (x - b) % g.cyc = lo) (h5 : turnE g.es g.cyc lo = none) : nextC c e x = en := by
  subst h1 h2 h3 h4; unfold nextC; rw [h5]
theorem at_lo {c : Ch} {x lo b : Int} {g : Gl} (h1 : glC c x = g) (h2 : begC c x = b) (h4 : (x - b) % g.cyc = lo) : stateE g.es g.cyc lo = atC c x := by
  subst h1 h2 h4; rw [state_mod, atC_gl]
theorem stW_one {c : Ch} (h : OkC c) (t : Int) : stW c (t + 1) t = [atC c t] := by
  have hx : t < t + 1 := by omega
  have hn := next_facts h hx
  rw [stW_more h hx, stW_end c (by omega)]
end Go.Sw

/-
  The times in which something holds, as intervals.
-/
namespace Go.Sv
open Go Go.Eng Go.Gt Go.Proofs.Gt
inductive Runs (p : Int → Bool) : Int → Int → List (Int × Int) → Prop
  | nil {a b : Int} : (∀ y, a ≤ y → y < b → p y = false) → Runs p a b []
  | cons {a b s e : Int} {r : List (Int × Int)} : a ≤ s → (∀ y, a ≤ y → y < s → p y = false) → s < e → e ≤ b → (∀ y, s ≤ y → y < e → p y = true) → (e < b → p e = false) → Runs p e b r → Runs p a b ((s, e) :: r)
variable {p : Int → Bool}
theorem Runs.uniq {a b : Int} {l m : List (Int × Int)} (h : Runs p a b l) : Runs p a b m → l = m := by
  induction h generalizing m with
  | nil h =>
    intro h2
    cases h2 with
    | nil => rfl
    | cons h1 h2 h3 h4 h5 h6 h7 =>
      rename_i s e r
      have a1 := h s h1 (by omega)
      rw [h5 s (Int.le_refl _) h3] at a1; cases a1
  | cons h1 h2 h3 h4 h5 h6 h7 ih =>
    rename_i a b s e r
    intro g
    cases g with
    | nil g =>
      have a1 := g s h1 (by omega)
      rw [h5 s (Int.le_refl _) h3] at a1; cases a1
    | cons g1 g2 g3 g4 g5 g6 g7 =>
      rename_i s' e' r'
      have es : s = s' := by
        rcases Int.lt_trichotomy s s' with h | h | h
        · have a1 := g2 s h1 h; rw [h5 s (Int.le_refl _) h3] at a1; cases a1
        · exact h
        · have a1 := h2 s' g1 h; rw [g5 s' (Int.le_refl _) g3] at a1; cases a1
      subst es
      have ee : e = e' := by
        rcases Int.lt_trichotomy e e' with h | h | h
        · have a1 := g5 e (by omega) h; rw [h6 (by omega)] at a1; cases a1
        · exact h
        · have a1 := h5 e' (by omega) h; rw [g6 (by omega)] at a1; cases a1
      subst ee
      rw [ih g7]
def runL (p : Int → Bool) : Nat → Int → List (Int × Int)
  | 0, _ => []
  | n + 1, x => if p x then (match runL p n (x + 1) with
    | [] => [(x, x + 1)]
    | (s, e) :: r => if s = x + 1 then (x, e) :: r else (x, x + 1) :: (s, e) :: r) else runL p n (x + 1)
theorem runL_is : ∀ (n : Nat) (x : Int), Runs p x (x + n) (runL p n x)
  | 0, x => .nil fun y h1 h2 => by omega
  | n + 1, x => by
    have ih := runL_is n (x + 1)
    have e1 : x + 1 + (n : Int) = x + (n + 1 : Nat) := by omega
    rw [e1] at ih
    unfold runL
    cases hp : p x with
    | false =>
      simp only [Bool.false_eq_true, if_false]
      generalize runL p n (x + 1) = m at ih ⊢
      cases ih with
      | nil h =>
        refine .nil fun y h1 h2 => ?_
        by_cases e : y = x
        · rw [e]; exact hp
        · exact h y (by omega) h2
      | cons h1 h2 h3 h4 h5 h6 h7 =>
        refine .cons (by omega) (fun y k1 k2 => ?_) h3 h4 h5 h6 h7
        by_cases e : y = x
        · rw [e]; exact hp
        · exact h2 y (by omega) k2
    | true =>
      simp only [if_true]
      generalize runL p n (x + 1) = m at ih ⊢
      have one : ∀ y, x ≤ y → y < x + 1 → p y = true := fun y k1 k2 => by
        have : y = x := by omega
        rw [this]; exact hp
      cases ih with
      | nil h => exact .cons (Int.le_refl _) (fun y k1 k2 => by omega) (by omega) (by omega) one (fun h' => h _ (Int.le_refl _) h') (.nil h)
      | cons h1 h2 h3 h4 h5 h6 h7 =>
        rename_i s e r
        simp only
        split
        · rename_i hs
          refine .cons (Int.le_refl _) (fun y k1 k2 => by omega) (by omega) h4 (fun y k1 k2 => ?_) h6 h7
          by_cases e : y = x
          · rw [e]; exact hp
          · exact h5 y (by omega) k2
        · rename_i hs
          exact .cons (Int.le_refl _) (fun y k1 k2 => by omega) (by omega) (by omega) one (fun h' => h2 _ (Int.le_refl _) (by omega)) (.cons h1 h2 h3 h4 h5 h6 h7)
def runs (p : Int → Bool) (a b : Int) : List (Int × Int) := runL p (b - a).toNat a
theorem runs_end {a b : Int} (h : ¬ a < b) : runs p a b = [] := by
  unfold runs; rw [show (b - a).toNat = 0 by omega]; rfl
theorem runs_is (p : Int → Bool) (a b : Int) : Runs p a b (runs p a b) := by
  by_cases h : a < b
  · have := runL_is (p := p) (b - a).toNat a
    rwa [show a + ((b - a).toNat : Int) = b by omega] at this
  · rw [runs_end h]; exact .nil fun y h1 h2 => by omega
theorem Runs.eq {a b : Int} {l : List (Int × Int)} (h : Runs p a b l) : runs p a b = l := (runs_is p a b).uniq h
theorem runs_open {a b c : Int} (h1 : a < c) (h2 : c ≤ b) (h3 : ∀ y, a ≤ y → y < c → p y = true) (h4 : c < b → p c = false) : runs p a b = (a, c) :: runs p c b :=
  Runs.eq (.cons (Int.le_refl _) (fun y k1 k2 => by omega) h1 h2 h3 h4 (runs_is p c b))
theorem Runs.shut {a b c : Int} {l : List (Int × Int)} (h : Runs p c b l) (h1 : a ≤ c) (h3 : ∀ y, a ≤ y → y < c → p y = false) : Runs p a b l := by
  have key : ∀ {q : Int → Prop} , (∀ y, c ≤ y → q y → p y = false) → ∀ y, a ≤ y → q y → p y = false := fun hq y k1 k2 => by
    by_cases e : y < c
    · exact h3 y k1 e
    · exact hq y (by omega) k2
  cases h with
  | nil h => exact .nil (key (q := fun y => y < b) h)
  | cons g1 g2 g3 g4 g5 g6 g7 => rename_i s e r; exact .cons (by omega) (key (q := fun y => y < s) g2) g3 g4 g5 g6 g7
theorem runs_shut {a b c : Int} (h1 : a ≤ c) (h3 : ∀ y, a ≤ y → y < c → p y = false) : runs p a b = runs p c b := Runs.eq ((runs_is p c b).shut h1 h3)
theorem runs_none {a b : Int} (h : ∀ y, a ≤ y → y < b → p y = false) : runs p a b = [] := Runs.eq (.nil h)
/-- At the right. -/
theorem Runs.more_shut {a b c : Int} {l : List (Int × Int)} (h : Runs p a b l) (hc : b ≤ c) (h3 : ∀ y, b ≤ y → y < c → p y = false) : Runs p a c l := by
  induction h with
  | nil h =>
    rename_i a b
    refine .nil fun y k1 k2 => ?_
    by_cases e : y < b
    · exact h y k1 e
    · exact h3 y (by omega) k2
  | cons g1 g2 g3 g4 g5 g6 g7 ih =>
    rename_i a b s e r
    exact .cons g1 g2 g3 (by omega) g5 (fun hl => by
      by_cases e' : e < b
      · exact g6 e'
      · exact h3 e (by omega) hl) (ih hc h3)
theorem Runs.more_new {a b c : Int} {l : List (Int × Int)} (h : Runs p a b l) (hab : a ≤ b) (hc : b < c) (hb : b = a ∨ p (b - 1) = false) (h3 : ∀ y, b ≤ y → y < c → p y = true) : Runs p a c (l ++ [(b, c)]) := by
  induction h with
  | nil h => exact .cons hab h hc (Int.le_refl _) h3 (fun h => by omega) (.nil fun y k1 k2 => by omega)
  | cons g1 g2 g3 g4 g5 g6 g7 ih =>
    rename_i a b s e r
    have hbe : e < b := by
      by_cases e' : e < b
      · exact e'
      · have : e = b := by omega
        subst this
        rcases hb with hb | hb
        · omega
        · rw [g5 _ (by omega) (by omega)] at hb; cases hb
    exact .cons g1 g2 g3 (by omega) g5 (fun hl => g6 hbe) (ih (by omega) hc (by
      rcases hb with hb | hb
      · omega
      · exact .inr hb) h3)
theorem Runs.more_on {a b c s : Int} {l : List (Int × Int)} (h : Runs p a b (l ++ [(s, b)])) (hc : b < c) (h3 : ∀ y, b ≤ y → y < c → p y = true) : Runs p a c (l ++ [(s, c)]) := by
  induction l generalizing a with
  | nil =>
    cases h with
    | cons g1 g2 g3 g4 g5 g6 g7 =>
      exact .cons g1 g2 (by omega) (Int.le_refl _) (fun y k1 k2 => by
        by_cases e : y < b
        · exact g5 y k1 e
        · exact h3 y (by omega) k2) (fun h => by omega) (.nil fun y k1 k2 => by omega)
  | cons x r ih =>
    cases h with
    | cons g1 g2 g3 g4 g5 g6 g7 =>
      rename_i s' e'
      have hlast : e' < b := by
        have key : ∀ {a : Int} {r : List (Int × Int)}, Runs p a b (r ++ [(s, b)]) → a ≤ s ∧ s < b := by
          intro a r
          induction r generalizing a with
          | nil => intro h; cases h with | cons k1 k2 k3 k4 k5 k6 k7 => exact ⟨k1, k3⟩
          | cons x r ih => intro h; cases h with | cons k1 k2 k3 k4 k5 k6 k7 => have := ih k7; omega
        have := key g7; omega
      exact .cons g1 g2 g3 (by omega) g5 (fun _ => g6 hlast) (ih g7)
theorem Runs.last {a b : Int} {l : List (Int × Int)} (h : Runs p a b l) (hab : a < b) (hb : p (b - 1) = true) : ∃ m s, l = m ++ [(s, b)] := by
  induction h with
  | nil h => rw [h _ (by omega) (by omega)] at hb; cases hb
  | cons g1 g2 g3 g4 g5 g6 g7 ih =>
    rename_i a b s e r
    by_cases e' : e < b
    · obtain ⟨m, s', hm⟩ := ih e' hb
      exact ⟨(s, e) :: m, s', by rw [hm]; rfl⟩
    · have : e = b := by omega
      subst this
      refine ⟨[], s, ?_⟩
      have : r = [] := g7.uniq (.nil fun y k1 k2 => by omega)
      rw [this]; rfl
theorem Runs.append {a b c : Int} {l m : List (Int × Int)} (h : Runs p a b l) (hab : a ≤ b) (hbc : b ≤ c) (hb : b < c → p b = false) (h2 : Runs p b c m) : Runs p a c (l ++ m) := by
  induction h with
  | nil h => exact h2.shut hab h
  | cons g1 g2 g3 g4 g5 g6 g7 ih =>
    rename_i a b s e r
    exact .cons g1 g2 g3 (by omega) g5 (fun hl => by
      by_cases e' : e < b
      · exact g6 e'
      · have : e = b := by omega
        rw [this]; exact hb (by omega)) (ih g4 hbc hb h2)
def shl (d : Int) (l : List (Int × Int)) : List (Int × Int) := l.map fun x => (x.1 + d, x.2 + d)
theorem Runs.shift {d : Int} (hp : ∀ y, p (y + d) = p y) {a b : Int} {l : List (Int × Int)} (h : Runs p a b l) : Runs p (a + d) (b + d) (shl d l) := by
  have hp' : ∀ y, p y = p (y - d) := fun y => by rw [← hp (y - d), Int.sub_add_cancel]
  induction h with
  | nil h => exact .nil fun y k1 k2 => by rw [hp']; exact h _ (by omega) (by omega)
  | cons g1 g2 g3 g4 g5 g6 g7 ih =>
    exact .cons (by omega) (fun y k1 k2 => by rw [hp']; exact g2 _ (by omega) (by omega)) (by omega) (by omega) (fun y k1 k2 => by rw [hp']; exact g5 _ (by omega) (by omega)) (fun h => by rw [hp]; exact g6 (by omega)) ih
/-- What they give, each less what is lost. -/
def giv (lost x : Int) : Int := max 0 (x - lost)
def sumR (lost : Int) (l : List (Int × Int)) : Int := (l.map fun x => giv lost (x.2 - x.1)).sum
theorem sumR_nil (lost : Int) : sumR lost [] = 0 := rfl
theorem sumR_cons (lost : Int) (x : Int × Int) (l : List (Int × Int)) : sumR lost (x :: l) = giv lost (x.2 - x.1) + sumR lost l := by simp [sumR]
theorem sumR_append (lost : Int) (l m : List (Int × Int)) : sumR lost (l ++ m) = sumR lost l + sumR lost m := by simp [sumR]
theorem sumR_shl (lost d : Int) (l : List (Int × Int)) : sumR lost (shl d l) = sumR lost l := by
  induction l with
  | nil => rfl
  | cons x l ih => rw [show shl d (x :: l) = (x.1 + d, x.2 + d) :: shl d l from rfl, sumR_cons, sumR_cons, ih]; simp only; congr 2; omega
theorem Runs.bound {lost : Int} (hl : 0 ≤ lost) {a b : Int} {l : List (Int × Int)} (h : Runs p a b l) (hab : a ≤ b) : 0 ≤ sumR lost l ∧ sumR lost l ≤ b - a := by
  induction h with
  | nil h => rw [sumR_nil]; omega
  | cons g1 g2 g3 g4 g5 g6 g7 ih => rw [sumR_cons]; have := ih g4; unfold giv; simp only; omega
/-- The sum over an interval, out of the openings around it. -/
def cut (lost a b : Int) (x : Int × Int) : Int := giv lost (min x.2 b - max x.1 a)
theorem Runs.cuts {lost : Int} (hl : 0 ≤ lost) {A B : Int} {l : List (Int × Int)} (h : Runs p A B l) : ∀ {a b : Int}, A ≤ a → a ≤ b → b ≤ B → sumR lost (runs p a b) = (l.map (cut lost a b)).sum := by
  induction h with
  | nil h => intro a b h1 h2 h3; rw [runs_none (fun y k1 k2 => h y (by omega) (by omega))]; rfl
  | cons g1 g2 g3 g4 g5 g6 g7 ih =>
    rename_i A B s e r
    intro a b h1 h2 h3
    rw [List.map_cons, List.sum_cons]
    have zero : ∀ {A' : Int} {r : List (Int × Int)}, Runs p A' B r → b ≤ A' → (r.map (cut lost a b)).sum = 0 := by
      intro A' r hr
      induction hr with
      | nil => intro _; rfl
      | cons k1 k2 k3 k4 k5 k6 k7 ih2 =>
        intro hb
        rename_i A'' B'' s' e' r'
        rw [List.map_cons, List.sum_cons, ih2 g4 g6 g7 (fun {a b} => ih) h3 (by omega)]
        unfold cut giv; simp only; omega
    by_cases he : e ≤ a
    · rw [ih he h2 h3]
      have : cut lost a b (s, e) = 0 := by unfold cut giv; simp only; omega
      omega
    · by_cases hs : b ≤ s ∨ b = a
      · rw [runs_none (fun y k1 k2 => g2 y (by omega) (by omega)), zero g7 (by omega), sumR_nil]
        unfold cut giv; simp only; omega
      · rw [runs_shut (a := a) (b := b) (c := max a s) (by omega) (fun y k1 k2 => g2 y (by omega) (by omega))]
        rw [runs_open (a := max a s) (b := b) (c := min e b) (by omega) (by omega) (fun y k1 k2 => g5 y (by omega) (by omega)) (fun hlt => by rw [show min e b = e by omega]; exact g6 (by omega)), sumR_cons]
        have e2 : cut lost a b (s, e) = giv lost (min e b - max a s) := by unfold cut; rw [show max s a = max a s by omega]
        rw [e2]
        by_cases heb : e < b
        · rw [show min e b = e by omega, ih (Int.le_refl _) (by omega) h3]
          have same : ∀ {A' : Int} {r : List (Int × Int)}, Runs p A' B r → e ≤ A' → r.map (cut lost e b) = r.map (cut lost a b) := by
            intro A' r hr
            induction hr with
            | nil => intro _; rfl
            | cons k1 k2 k3 k4 k5 k6 k7 ih2 =>
              intro hb
              rw [List.map_cons, List.map_cons, ih2 g4 g6 g7 (fun {a b} => ih) h3 (fun {A' r} => zero) (by omega)]
              congr 1
              unfold cut; simp only; congr 2; omega
          rw [same g7 (Int.le_refl _)]
        · rw [show min e b = b by omega, runs_end (by omega), sumR_nil, zero g7 (by omega)]
end Go.Sv

/-
  The openings of class 6 of a gate list, in plain terms.
-/
namespace Go.Sv
open Go Go.Eng Go.Gt Go.Proofs.Gt Go.Sw
abbrev op6 (es : Ents) (cyc : Int) : Int → Bool := isO es cyc 6
section
variable {es : Ents} {cyc : Int}
theorem op_mod (es : Ents) (cyc x : Int) : op6 es cyc (x % cyc) = op6 es cyc x := by unfold op6 isO; rw [state_mod]
theorem op_per (es : Ents) (cyc x : Int) : op6 es cyc (x + cyc) = op6 es cyc x := by unfold op6 isO; rw [state_per]
theorem op_perK (es : Ents) (cyc x k : Int) : op6 es cyc (x + cyc * k) = op6 es cyc x := by unfold op6 isO; rw [state_shift]
theorem op_cover {t : Int} {b : Bool} (h : ∀ j, 0 ≤ j → j < cyc → op6 es cyc (t + j) = b) (hc : 0 < cyc) (x : Int) : op6 es cyc x = b := by
  have h1 := h ((x - t) % cyc) (Int.emod_nonneg _ (by omega)) (Int.emod_lt_of_pos _ hc)
  rw [← op_mod, Int.add_emod_emod, op_mod, show t + (x - t) = x by omega] at h1
  exact h1
theorem span_pos (hG : okG es cyc = true) {x : Int} : op6 es cyc x = true ↔ 0 < spanE es cyc 6 x := by
  have hb := spanE_bounds hG 6 x
  constructor
  · intro h
    by_cases h0 : spanE es cyc 6 x = 0
    · have := (span_end hG 6 x (by rw [h0]; decide)).2
      rw [h0, Int.add_zero] at this
      unfold op6 at h; rw [h] at this; cases this
    · omega
  · intro h
    have := span_in hG 6 x (j := 0) (Int.le_refl _) h (okG_cyc hG).1
    rwa [Int.add_zero] at this
theorem op_big (hG : okG es cyc = true) {a : Int} (h : spanE es cyc 6 a = big) (x : Int) : op6 es cyc x = true :=
  op_cover (t := a) (fun j h1 h2 => span_in hG 6 a h1 (by rw [h]; have := okG_cyc hG; unfold big; omega) h2) (okG_cyc hG).1 x
theorem runs_span (hG : okG es cyc = true) {a b : Int} (hab : a < b) (h0 : 0 < spanE es cyc 6 a) (hB : b - a ≤ big) :
    runs (op6 es cyc) a b = (a, min (a + spanE es cyc 6 a) b) :: runs (op6 es cyc) (min (a + spanE es cyc 6 a) b) b := by
  have hb := spanE_bounds hG 6 a
  by_cases hs : spanE es cyc 6 a < big
  · obtain ⟨h1, h2⟩ := span_end hG 6 a hs
    refine runs_open (by omega) (by omega) (fun y k1 k2 => ?_) (fun h => ?_)
    · have := span_in hG 6 a (j := y - a) (by omega) (by omega) (by omega)
      rwa [show a + (y - a) = y by omega] at this
    · rw [show min (a + spanE es cyc 6 a) b = a + spanE es cyc 6 a by omega]; exact h2
  · have hbig : spanE es cyc 6 a = big := by omega
    exact runs_open (by omega) (by omega) (fun y _ _ => op_big hG hbig y) (fun h => by omega)
theorem runs_fit (hG : okG es cyc = true) {a b o : Int} (h0 : ¬ 0 < spanE es cyc 6 a) (hf : fitE es cyc 6 a 1 = some o) : a < o ∧ o < a + 2 * cyc ∧ runs (op6 es cyc) a b = runs (op6 es cyc) o b := by
  obtain ⟨h1, h2, h3, h4⟩ := fit_some hG hf
  have hb := spanE_bounds hG 6 a
  refine ⟨?_, h2, runs_shut h1 fun y k1 k2 => ?_⟩
  · by_cases e : o = a
    · rw [e] at h3; omega
    · omega
  · have := h4 y k1 k2
    cases hp : op6 es cyc y with
    | false => rfl
    | true => have := (span_pos hG).1 hp; omega
theorem runs_nofit (hG : okG es cyc = true) {a b : Int} (hf : fitE es cyc 6 a 1 = none) : runs (op6 es cyc) a b = [] := by
  have h4 := fit_none hG hf
  have hc := okG_cyc hG
  refine runs_none fun y _ _ => op_cover (t := a) (fun j h1 h2 => ?_) hc.1 y
  have := h4 (a + j) (by omega) (by omega)
  cases hp : op6 es cyc (a + j) with
  | false => rfl
  | true => have := (span_pos hG).1 hp; omega
/-- Always open. -/
def alwE (es : Ents) : Bool := es.all fun e => bitE e.1 6
theorem alw_false {i : Nat} (hi : i < es.length) (h : bitE (es[i]).1 6 = false) : alwE es = false := by
  cases hA : alwE es with
  | false => rfl
  | true => have := List.all_eq_true.1 hA _ (List.getElem_mem hi); rw [h] at this; cases this
theorem alw_true (h : ∀ j (hj : j < es.length), bitE (es[j]).1 6 = true) : alwE es = true := by
  refine List.all_eq_true.2 fun e he => ?_
  obtain ⟨j, hj, rfl⟩ := List.getElem_of_mem he
  exact h j hj
theorem alw_op (hG : okG es cyc = true) (h : alwE es = true) (x : Int) : op6 es cyc x = true := by
  obtain ⟨hi, _⟩ := loc_spec hG x
  unfold op6 isO stateE
  rw [List.getD_eq_getElem?_getD, List.getElem?_eq_getElem hi]
  exact List.all_eq_true.1 h _ (List.getElem_mem hi)
/-- Where the first closed entry begins. -/
def closedE : Ents → Int
  | [] => 0
  | e :: r => if bitE e.1 6 then e.2 + closedE r else 0
theorem closed_of : ∀ {es : Ents} {i : Nat} (_ : i ≤ es.length), (∀ j (hj : j < es.length), j < i → bitE (es[j]).1 6 = true) → (∀ hi : i < es.length, bitE (es[i]).1 6 = false) → closedE es = sumL (es.take i)
  | [], i, _, _, _ => by simp [closedE, sumL]
  | e :: r, 0, _, _, h => by
    have := h (by simp)
    simp only [List.getElem_cons_zero] at this
    simp [closedE, this, sumL]
  | e :: r, i + 1, hi, h, h2 => by
    have h0 := h 0 (by simp) (by omega)
    simp only [List.getElem_cons_zero] at h0
    have ih := closed_of (es := r) (i := i) (by simpa using hi) (fun j hj hji => by have := h (j + 1) (by simpa using hj) (by omega); simpa using this) (fun hi' => by have := h2 (by simpa using hi'); simpa using this)
    simp only [closedE, h0, if_true, ih]
    simp [sumL]
theorem closed_at : ∀ {es : Ents}, alwE es = false → ∃ i, ∃ hi : i < es.length, (∀ j (hj : j < es.length), j < i → bitE (es[j]).1 6 = true) ∧ bitE (es[i]).1 6 = false
  | [], h => by cases h
  | e :: r, h => by
    by_cases h0 : bitE e.1 6 = true
    · have : alwE r = false := by unfold alwE at h ⊢; simpa [h0] using h
      obtain ⟨i, hi, h1, h2⟩ := closed_at this
      refine ⟨i + 1, by simpa using hi, fun j hj hji => ?_, by simpa using h2⟩
      cases j with
      | zero => simpa using h0
      | succ j => simpa using h1 j (by simpa using hj) (by omega)
    · exact ⟨0, by simp, fun j _ h => by omega, by simpa using h0⟩
theorem closed_facts (hG : okG es cyc = true) (h : alwE es = false) : 0 ≤ closedE es ∧ closedE es < cyc ∧ op6 es cyc (closedE es) = false := by
  obtain ⟨i, hi, h1, h2⟩ := closed_at h
  obtain ⟨_, _, ha, hs, _⟩ := okG_parts hG
  rw [closed_of (by omega) h1 (fun _ => h2)]
  have hl := sumL_take_le ha i
  have hl2 := sumL_take_le ha (i + 1)
  have hst := sumL_take_succ es i hi
  have he := okE_get ha hi
  refine ⟨hl.1, by omega, ?_⟩
  unfold op6 isO stateE loc
  rw [Int.emod_eq_of_lt hl.1 (by omega), locate_prefix ha hi, List.getD_eq_getElem?_getD, List.getElem?_eq_getElem hi]
  exact h2
theorem closed_rng {es : Ents} (ha : es.all okE = true) : 0 ≤ closedE es ∧ closedE es ≤ sumL es := by
  induction es with
  | nil => simp [closedE, sumL]
  | cons e r ih =>
    simp only [List.all_cons, Bool.and_eq_true] at ha
    have := ih ha.2
    have he := of_decide_eq_true (show decide _ = true from ha.1)
    have e1 : sumL (e :: r) = e.2 + sumL r := by simp [sumL]
    have hb := (sumL_bounds ha.2).1
    unfold closedE; rw [e1]; split <;> omega
/-- The values. -/
def argS (per most : Int) : Bool := decide (1 ≤ per ∧ per ≤ 1000 ∧ 84 ≤ most ∧ most ≤ 1542)
def errS (es : Ents) (cyc per most : Int) : Int := if okG es cyc then (if argS per most then 0 else 2) else 370
def sumS (es : Ents) (cyc lost a b : Int) : Int := sumR lost (runs (op6 es cyc) a b)
def yieldS (es : Ents) (cyc lost : Int) : Int := if alwE es then cyc else sumS es cyc lost (closedE es) (closedE es + cyc)
def yieldA (es : Ents) (cyc per most : Int) : Int := if errS es cyc per most = 0 then yieldS es cyc (most * per) else 0
def leastS (es : Ents) (cyc per most t lg : Int) : Int := (if alwE es then lg else sumS es cyc (most * per) t (t + lg)) - 127 * per
def argT (cyc t lg : Int) : Bool := okTm t && decide (0 ≤ lg ∧ lg ≤ 4 * cyc)
def sendsA (es : Ents) (cyc per most t lg : Int) : Int × Int :=
  if errS es cyc per most = 0 then (if argT cyc t lg then (max 0 (leastS es cyc per most t lg), 0) else (0, 2)) else (0, errS es cyc per most)
theorem errS_zero {per most : Int} (h : errS es cyc per most = 0) : okG es cyc = true ∧ argS per most = true := by
  unfold errS at h
  cases h1 : okG es cyc with
  | false => rw [h1] at h; cases h
  | true =>
    rw [h1] at h
    cases h2 : argS per most with
    | false => rw [h2] at h; cases h
    | true => exact ⟨rfl, rfl⟩
theorem sumS_bounds {lost a b : Int} (hl : 0 ≤ lost) (h : a ≤ b) : 0 ≤ sumS es cyc lost a b ∧ sumS es cyc lost a b ≤ b - a := (runs_is _ _ _).bound hl h
theorem runs_shl (k : Int) {a b : Int} : runs (op6 es cyc) (a + cyc * k) (b + cyc * k) = shl (cyc * k) (runs (op6 es cyc) a b) := ((runs_is (op6 es cyc) a b).shift fun y => op_perK es cyc y k).eq
theorem sumS_shl (lost a b k : Int) : sumS es cyc lost (a + cyc * k) (b + cyc * k) = sumS es cyc lost a b := by unfold sumS; rw [runs_shl, sumR_shl]
theorem sumS_mod (lost t lg : Int) : sumS es cyc lost (t % cyc) (t % cyc + lg) = sumS es cyc lost t (t + lg) := by
  have hd := Int.mul_ediv_add_emod t cyc
  have := sumS_shl (es := es) (cyc := cyc) lost (t % cyc) (t % cyc + lg) (t / cyc)
  rw [← this]; congr 1 <;> omega
end
end Go.Sv
