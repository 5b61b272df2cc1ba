/-
  Frames, parts and queues: what the layer computes, in plain terms.
-/
import Derived.Test.YtopaidnhgkejiaaEng13
namespace Go.Qu
open Go Go.Eng
structure It where
  st : Int
  sq : Int
  cl : Int
  sz : Int
  sn : Int
structure Pt where
  it : It
  left : Int
  rest : Bool
def itv (x : It) : List Value := [.int .i64 x.st, .int .i64 x.sq, .int .i64 x.cl, .int .i64 x.sz, .int .i64 x.sn]
def ptv (p : Pt) : List Value := [.int .i64 p.it.st, .int .i64 p.it.sq, .int .i64 p.it.cl, .int .i64 p.it.sz, .int .i64 p.it.sn, .int .i64 p.left, .bool p.rest]
theorem ptv_len (p : Pt) : (ptv p).length = 7 := rfl
theorem itv_len (p : It) : (itv p).length = 5 := rfl
abbrev PK (F : Know) (A : Option Addr) (n : Nat) (ps : List Pt) : Prop := RowsK ptv 7 F A n ps
def rI (x : Int) : Prop := -9223372036854775808 ≤ x ∧ x ≤ 9223372036854775807
def It.rng (x : It) : Prop := rI x.st ∧ rI x.sq ∧ rI x.cl ∧ rI x.sz ∧ rI x.sn
def Pt.rng (p : Pt) : Prop := p.it.rng ∧ rI p.left

def okI (x : It) : Bool := decide (0 ≤ x.st ∧ x.st ≤ 1099511627776 ∧ 0 ≤ x.sq ∧ x.sq ≤ 1099511627776 ∧ 0 ≤ x.sn ∧ x.sn ≤ 1099511627776 ∧ 0 ≤ x.cl ∧ x.cl ≤ 7 ∧ 84 ≤ x.sz ∧ x.sz ≤ 1542)
def okP (p : Pt) : Bool := okI p.it && (if p.rest then decide (p.it.cl ≤ 5 ∧ 88 ≤ p.left ∧ p.left ≤ p.it.sz - 40) else decide (p.left = p.it.sz))
def whole (x : It) : Pt := ⟨x, x.sz, false⟩
def dIt : It := ⟨0, 0, 0, 0, 0⟩
def dPt : Pt := ⟨dIt, 0, false⟩
def atP (ps : List Pt) (k : Nat) : Pt := ps.getD k dPt
theorem atP_get {ps : List Pt} {k : Nat} (h : k < ps.length) : atP ps k = ps[k] := by simp [atP, h]
theorem atP_mem {ps : List Pt} {k : Nat} (h : k < ps.length) : atP ps k ∈ ps := by rw [atP_get h]; exact List.getElem_mem h
def okAt (i : Nat) (p : Pt) : Bool := okP p && (decide (i = 0) || !p.rest)
def validF : Nat → List Pt → Bool
  | _, [] => true
  | i, p :: r => okAt i p && validF (i + 1) r
def validP (ps : List Pt) : Bool := validF 0 ps
theorem validF_iff : ∀ (ps : List Pt) (i : Nat), validF i ps = true ↔ ∀ k, k < ps.length → okAt (i + k) (atP ps k) = true
  | [], i => by simp [validF]
  | p :: r, i => by
    simp only [validF, Bool.and_eq_true, validF_iff r (i + 1)]
    constructor
    · rintro ⟨h1, h2⟩ k hk
      cases k with
      | zero => exact h1
      | succ k => have := h2 k (by simpa using hk); rw [show i + (k + 1) = i + 1 + k by omega]; simpa [atP] using this
    · intro h
      refine ⟨h 0 (by simp), fun k hk => ?_⟩
      have := h (k + 1) (by simpa using hk)
      rw [show i + 1 + k = i + (k + 1) by omega]; simpa [atP] using this
theorem validP_iff {ps : List Pt} : validP ps = true ↔ ∀ k, k < ps.length → okAt k (atP ps k) = true := by
  rw [validP, validF_iff]; simp
theorem validP_false {ps : List Pt} {k : Nat} (hk : k < ps.length) (h : okAt k (atP ps k) = false) : validP ps = false := by
  cases e : validP ps with
  | false => rfl
  | true => rw [validP_iff.1 e k hk] at h; cases h
theorem okP_bd {p : Pt} (h : okP p = true) : 84 ≤ p.left ∧ p.left ≤ 1542 := by
  unfold okP okI at h
  cases hr : p.rest <;> simp [hr] at h <;> omega
theorem okP_it {p : Pt} (h : okP p = true) : okI p.it = true := by
  unfold okP at h; simp at h; exact h.1
theorem valid_bd {ps : List Pt} (h : validP ps = true) {k : Nat} (hk : k < ps.length) : okP (atP ps k) = true := by
  have := validP_iff.1 h k hk
  unfold okAt at this; simp at this; exact this.1
theorem valid_mem {ps : List Pt} (h : validP ps = true) {p : Pt} (hp : p ∈ ps) : okP p = true := by
  obtain ⟨i, hi, rfl⟩ := List.getElem_of_mem hp
  have := valid_bd h hi
  rwa [atP_get hi] at this
/-- The octets of the first k parts. -/
def octs (ps : List Pt) : Int := (ps.map (·.left)).sum
def octK (ps : List Pt) (k : Nat) : Int := octs (ps.take k)
theorem octK_zero (ps : List Pt) : octK ps 0 = 0 := by simp [octK, octs]
theorem octK_all (ps : List Pt) : octK ps ps.length = octs ps := by simp [octK]
theorem octK_succ {ps : List Pt} {k : Nat} (h : k < ps.length) : octK ps (k + 1) = octK ps k + (atP ps k).left := by
  unfold octK octs
  rw [List.take_add_one, List.map_append, List.sum_append, atP_get h]
  simp [h]
theorem octK_bd {ps : List Pt} (h : ∀ k, k < ps.length → 0 ≤ (atP ps k).left ∧ (atP ps k).left ≤ 65536) : ∀ k, k ≤ ps.length → 0 ≤ octK ps k ∧ octK ps k ≤ 65536 * (k : Int)
  | 0, _ => by simp [octK_zero]
  | k + 1, hk => by
    have := octK_bd h k (by omega)
    have h2 := h k (by omega)
    rw [octK_succ (by omega)]
    omega
theorem octs_app (a b : List Pt) : octs (a ++ b) = octs a + octs b := by simp [octs]
theorem octs_cons (p : Pt) (r : List Pt) : octs (p :: r) = p.left + octs r := by simp [octs]
def restQ (ps : List Pt) : Bool := decide (0 < ps.length) && (atP ps 0).rest
/-- The octets that count. -/
def fullO (ps : List Pt) : Int := octs ps - (if restQ ps then (atP ps 0).left else 0)
def rightQ (cap : Int) (ps : List Pt) : Bool := decide (0 ≤ cap ∧ cap ≤ 65536) && validP ps && decide (fullO ps ≤ cap)
theorem octs_bd {ps : List Pt} (h : validP ps = true) : 0 ≤ octs ps ∧ octs ps ≤ 65536 * (ps.length : Int) := by
  rw [← octK_all]
  exact octK_bd (fun k hk => by have := okP_bd (valid_bd h hk); omega) _ (Nat.le_refl _)
theorem head_bd {ps : List Pt} (h : validP ps = true) (h0 : 0 < ps.length) : 84 ≤ (atP ps 0).left ∧ (atP ps 0).left ≤ 1542 := okP_bd (valid_bd h h0)
/-- What the iterator over parts yields. -/
def yldP (ps : List Pt) : List (List Value) := ps.mapIdx fun i p => [.int .i64 i, .agg (ptv p).toArray]
theorem yldP_len (ps : List Pt) : (yldP ps).length = ps.length := by simp [yldP]
theorem yldP_get {ps : List Pt} {k : Nat} (hk : k < (yldP ps).length) : (yldP ps)[k] = [.int .i64 k, .agg (ptv (atP ps k)).toArray] := by
  have : k < ps.length := by rwa [yldP_len] at hk
  simp [yldP, atP_get this]
def eqI (a b : It) : Bool := (a.st == b.st) && (a.sq == b.sq) && (a.cl == b.cl) && (a.sz == b.sz) && (a.sn == b.sn)
end Go.Qu
namespace Go.Qu
open Go Go.Eng
/-- A queue's value. -/
def QV (F : Know) (v : Value) (cap : Int) (ps : List Pt) : Prop := ∃ A n c, v = .agg [.int .i64 cap, .slice A n c].toArray ∧ n ≤ c ∧ c ≤ maxLen ∧ PK F A n ps
theorem QV.mk {F : Know} {A : Option Addr} {n c : Nat} {cap : Int} {ps : List Pt} (h : PK F A n ps) (h1 : n ≤ c) (h2 : c ≤ maxLen) : QV F (.agg [.int .i64 cap, .slice A n c].toArray) cap ps := ⟨A, n, c, rfl, h1, h2, h⟩
theorem QV.nil {F : Know} {cap : Int} : QV F (.agg [.int .i64 cap, .slice none 0 0].toArray) cap [] := ⟨none, 0, 0, rfl, Nat.le_refl _, Nat.zero_le _, RowsK.nil⟩
theorem QV.mono {F F' : Know} {v : Value} {cap : Int} {ps : List Pt} (h : QV F v cap ps) (hF : ∀ a u, F a = some u → F' a = some u) : QV F' v cap ps := by
  obtain ⟨A, n, c, h1, h2, h3, h4⟩ := h; exact ⟨A, n, c, h1, h2, h3, h4.mono hF⟩
/-- Push: the queue, whether it is accepted, the error. -/
def pushQ (cap : Int) (ps : List Pt) (x : It) : (Int × List Pt) × Bool × Int :=
  if rightQ cap ps = false then ((0, []), false, 461) else if okI x = false then ((0, []), false, 460) else if octs ps + x.sz > cap then ((cap, ps), false, 0) else ((cap, ps ++ [whole x]), true, 0)
def popQ (cap : Int) (ps : List Pt) : (Int × List Pt) × Pt × Int :=
  if rightQ cap ps = false then ((0, []), dPt, 461) else if ps.length = 0 then ((0, []), dPt, 4) else ((cap, ps.drop 1), atP ps 0, 0)
def retQ (cap : Int) (ps : List Pt) (x : Pt) : (Int × List Pt) × Int :=
  if rightQ cap ps = false then ((0, []), 461) else if okP x = false then ((0, []), 460) else if x.rest = false ∨ restQ ps = true then ((0, []), 2) else ((cap, x :: ps), 0)
def headQ (cap : Int) (ps : List Pt) : Pt × Bool := if rightQ cap ps = true ∧ ps.length ≠ 0 then (atP ps 0, true) else (dPt, false)
theorem SlO.qv {F' : Know} {e : TypeId} {v : Value} {n : Nat} {ps : List Pt} {b : Own} (h : SlO e 7 v n (rowsV ptv ps) b) (hF : ∀ p cs t fr k, (p, Obj.cells cs t fr) ∈ b → ∀ u, cs[k]? = some u → F' ⟨p, k, none⟩ = some u) {A : Option Addr} {c : Nat} (hv : v = .slice A n c) {cap : Int} : QV F' (.agg [.int .i64 cap, .slice A n c].toArray) cap ps := by
  obtain ⟨A', c', h1, h2, h3, h4⟩ := h.rows ptv_len (by decide) hF
  rw [hv] at h1; cases h1
  exact QV.mk h4 h2 h3
end Go.Qu
namespace Go.Qu
open Go Go.Eng
theorem rowsV_one_cell (ps : List Pt) : ∀ u ∈ rowsV ptv ps, u.oneCell' = true := by
  intro u hu
  obtain ⟨p, _, h⟩ := List.mem_flatMap.1 hu
  simp only [ptv, List.mem_cons, List.not_mem_nil, or_false] at h
  rcases h with rfl | rfl | rfl | rfl | rfl | rfl | rfl <;> rfl
end Go.Qu
namespace Go.Qu
open Go Go.Eng
/-- The octets that count, of the first k parts. -/
def fullK (ps : List Pt) (k : Nat) : Int := (((ps.take k).filter (fun p => !p.rest)).map (·.left)).sum
theorem fullK_zero (ps : List Pt) : fullK ps 0 = 0 := by simp [fullK]
theorem fullK_add {ps : List Pt} {k : Nat} (h : k < ps.length) (hr : (atP ps k).rest = false) : fullK ps (k + 1) = fullK ps k + (atP ps k).left := by
  unfold fullK
  rw [List.take_add_one, List.filter_append, List.map_append, List.sum_append]
  rw [atP_get h] at hr ⊢
  simp [h, hr]
theorem fullK_same {ps : List Pt} {k : Nat} (h : k < ps.length) (hr : (atP ps k).rest = true) : fullK ps (k + 1) = fullK ps k := by
  unfold fullK
  rw [List.take_add_one, List.filter_append, List.map_append, List.sum_append]
  rw [atP_get h] at hr
  simp [h, hr]
theorem okAt_step {ps : List Pt} {s : Nat} (hI : ∀ i, i < s → okAt i (atP ps i) = true) (h : okAt s (atP ps s) = true) : ∀ i, i < s + 1 → okAt i (atP ps i) = true := fun i hi => by
  rcases Nat.lt_or_ge i s with h1 | h1
  · exact hI i h1
  · rw [show i = s by omega]; exact h
theorem fullK_bd {ps : List Pt} : ∀ {s : Nat}, (∀ i, i < s → okAt i (atP ps i) = true) → s ≤ ps.length → 0 ≤ fullK ps s ∧ fullK ps s ≤ 65536 * (s : Int)
  | 0, _, _ => by simp [fullK_zero]
  | s + 1, hI, hs => by
    have ih := fullK_bd (s := s) (fun i hi => hI i (by omega)) (by omega)
    have hk := hI s (by omega)
    have hb : okP (atP ps s) = true := by unfold okAt at hk; simp at hk; exact hk.1
    have := okP_bd hb
    cases hr : (atP ps s).rest with
    | true => rw [fullK_same (by omega) hr]; omega
    | false => rw [fullK_add (by omega) hr]; omega
theorem fullK_all {ps : List Pt} (h : validP ps = true) : fullK ps ps.length = fullO ps := by
  have key : ∀ k, k ≤ ps.length → fullK ps k = octK ps k - (if decide (0 < k) && (atP ps 0).rest then (atP ps 0).left else 0) := by
    intro k
    induction k with
    | zero => intro _; simp [fullK_zero, octK_zero]
    | succ k ih =>
      intro hk
      have ih := ih (by omega)
      have ha := validP_iff.1 h k (by omega)
      rw [octK_succ (by omega)]
      cases k with
      | zero =>
        cases hr : (atP ps 0).rest with
        | true => rw [fullK_same (by omega) hr, ih]; simp [hr]
        | false => rw [fullK_add (by omega) hr, ih]; simp [hr]
      | succ k =>
        have hr : (atP ps (k + 1)).rest = false := by unfold okAt at ha; simp at ha; exact ha.2
        rw [fullK_add (by omega) hr, ih]
        simp
        omega
  have := key ps.length (Nat.le_refl _)
  rw [this, octK_all, fullO, restQ]
end Go.Qu
namespace Go.Qu
open Go Go.Eng
def eqP (a b : Pt) : Bool := ((a.it.st == b.it.st) && ((a.it.sq == b.it.sq) && ((a.it.cl == b.it.cl) && ((a.it.sz == b.it.sz) && (a.it.sn == b.it.sn))))) && ((a.left == b.left) && (a.rest == b.rest))
theorem eqP_iff {a b : Pt} : eqP a b = true ↔ a = b := by
  constructor
  · intro h
    obtain ⟨⟨a1, a2, a3, a4, a5⟩, a6, a7⟩ := a
    obtain ⟨⟨b1, b2, b3, b4, b5⟩, b6, b7⟩ := b
    simp [eqP] at h
    simp [h]
  · rintro rfl; simp [eqP]
instance : DecidableEq Pt := fun a b => decidable_of_iff _ eqP_iff
theorem eqPs_of {ps qs : List Pt} (hl : ps.length = qs.length) (h : ∀ i, i < ps.length → atP ps i = atP qs i) : ps = qs := by
  apply List.ext_getElem hl
  intro i h1 h2
  have := h i h1
  rwa [atP_get h1, atP_get h2] at this
end Go.Qu
namespace Go.Qu
open Go Go.Eng
theorem push_len {cap : Int} {ps : List Pt} {x : It} {r1 : Int} {r2 : List Pt} {rb : Bool} {re : Int} (h : pushQ cap ps x = ((r1, r2), rb, re)) : r2.length ≤ ps.length + 1 := by
  unfold pushQ at h
  split at h
  · cases h; simp
  · split at h
    · cases h; simp
    · split at h
      · cases h; simp
      · cases h; simp
theorem pop_len {cap : Int} {ps : List Pt} {r1 : Int} {r2 : List Pt} {p : Pt} {re : Int} (h : popQ cap ps = ((r1, r2), p, re)) : r2.length ≤ ps.length := by
  unfold popQ at h
  split at h
  · cases h; simp
  · split at h
    · cases h; simp
    · cases h; simp
theorem ret_len {cap : Int} {ps : List Pt} {x : Pt} {r1 : Int} {r2 : List Pt} {re : Int} (h : retQ cap ps x = ((r1, r2), re)) : r2.length ≤ ps.length + 1 := by
  unfold retQ at h
  split at h
  · cases h; simp
  · split at h
    · cases h; simp
    · split at h
      · cases h; simp
      · cases h; simp
end Go.Qu
namespace Go.Qu
open Go Go.Eng
variable {cap : Int} {ps : List Pt}
theorem head_bad (h : rightQ cap ps = false) : headQ cap ps = (dPt, false) := by unfold headQ; rw [if_neg (by simp [h])]
theorem pop_bad (h : rightQ cap ps = false) : popQ cap ps = ((0, []), dPt, 461) := by unfold popQ; rw [if_pos h]
theorem ret_bad {x : Pt} (h : rightQ cap ps = false) : retQ cap ps x = ((0, []), 461) := by unfold retQ; rw [if_pos h]
theorem push_bad {x : It} (h : rightQ cap ps = false) : pushQ cap ps x = ((0, []), false, 461) := by unfold pushQ; rw [if_pos h]
theorem head_nil (h : ps.length = 0) : headQ cap ps = (dPt, false) := by unfold headQ; rw [if_neg (by simp [h])]
theorem pop_nil (h : rightQ cap ps = true) (h0 : ps.length = 0) : popQ cap ps = ((0, []), dPt, 4) := by unfold popQ; rw [if_neg (by simp [h]), if_pos h0]
theorem head_cons (h : rightQ cap ps = true) (h0 : 0 < ps.length) : headQ cap ps = (atP ps 0, true) := by unfold headQ; rw [if_pos ⟨h, by omega⟩]
theorem pop_cons (h : rightQ cap ps = true) (h0 : 0 < ps.length) : popQ cap ps = ((cap, ps.drop 1), atP ps 0, 0) := by unfold popQ; rw [if_neg (by simp [h]), if_neg (by omega)]
theorem eqd (p : Pt) : eqP p p = true := eqP_iff.2 rfl
end Go.Qu
