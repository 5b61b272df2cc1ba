/-
  Sequence numbers and lists of counters, in plain terms.
-/
import Derived.Test.YtlnnoghneciocaaEng15
namespace Go.Sq
open Go Go.Eng
def iv (x : Int) : List Value := [.int .i64 x]
theorem iv_len (x : Int) : (iv x).length = 1 := rfl
structure Ct where
  st : Int
  nx : Int
def ctv (c : Ct) : List Value := [.int .i64 c.st, .int .i64 c.nx]
theorem ctv_len (c : Ct) : (ctv c).length = 2 := rfl
abbrev CK (F : Know) (A : Option Addr) (n : Nat) (l : List Ct) : Prop := RowsK ctv 2 F A n l
def rI (x : Int) : Prop := -9223372036854775808 ≤ x ∧ x ≤ 9223372036854775807
def Ct.rng (c : Ct) : Prop := rI c.st ∧ rI c.nx
def eqC (a b : Ct) : Bool := (a.st == b.st) && (a.nx == b.nx)
theorem eqC_iff {a b : Ct} : eqC a b = true ↔ a = b := by
  constructor
  · intro h
    obtain ⟨a1, a2⟩ := a
    obtain ⟨b1, b2⟩ := b
    simp [eqC] at h
    simp [h]
  · rintro rfl; simp [eqC]
instance : DecidableEq Ct := fun a b => decidable_of_iff _ eqC_iff
/-! ### Numbers -/
theorem tm (d : Int) : d = 65536 * d.tdiv 65536 + d.tmod 65536 := (Int.mul_tdiv_add_tmod d 65536).symm
theorem tm_lt (d : Int) : -65536 < d.tmod 65536 ∧ d.tmod 65536 < 65536 := by
  have h1 := Int.tmod_lt_of_pos d (b := 65536) (by decide)
  have h2 : (-d).tmod 65536 < 65536 := Int.tmod_lt_of_pos (-d) (by decide)
  rw [Int.neg_tmod] at h2
  omega
theorem tm_sgn (d : Int) : (0 ≤ d → 0 ≤ d.tmod 65536) ∧ (d ≤ 0 → d.tmod 65536 ≤ 0) := by
  refine ⟨fun h => Int.tmod_nonneg 65536 h, fun h => ?_⟩
  have : 0 ≤ (-d).tmod 65536 := Int.tmod_nonneg 65536 (by omega)
  rw [Int.neg_tmod] at this
  omega
theorem fl1 {a : Int} (h : a.tmod 65536 < 0) : a.tdiv 65536 - 1 = a / 65536 := by
  have := tm a; have := tm_lt a; omega
theorem fl2 {a : Int} (h : ¬ a.tmod 65536 < 0) : a.tdiv 65536 = a / 65536 := by
  have := tm a; have := tm_lt a; omega
/-- The number that follows a by d. -/
def aft (a d : Int) : Int := (a + d) % 65536
theorem aft_bd (a d : Int) : 0 ≤ aft a d ∧ aft a d ≤ 65535 := by unfold aft; omega
theorem aft_eq (a d : Int) : (d.tmod 65536 + a) % 65536 = aft a d := by unfold aft; have := tm d; omega
def delta (a b : Int) : Int := aft 32768 (b - a) - 32768
theorem delta_bd (a b : Int) : -32768 ≤ delta a b ∧ delta a b ≤ 32767 := by unfold delta aft; omega
def okN (n : Int) : Bool := decide (0 ≤ n ∧ n ≤ 65535)
theorem raft_eq (a d : Int) (ha : 0 ≤ a ∧ a ≤ 65535) : (if (a + d.tmod 65536).tmod 65536 < 0 then (a + d.tmod 65536).tmod 65536 + 65536 else (a + d.tmod 65536).tmod 65536) = aft a d := by
  have h1 := tm d
  have h2 := tm (a + d.tmod 65536)
  have h3 := tm_lt (a + d.tmod 65536)
  unfold aft
  split <;> omega
theorem delta_aft {a b : Int} (ha : 0 ≤ a ∧ a ≤ 65535) (hb : 0 ≤ b ∧ b ≤ 65535) {d : Int} (hd : -32768 ≤ d ∧ d < 32768) : aft a d = b ↔ d = delta a b := by
  unfold delta aft; omega
/-! ### Lists -/
def dC : Ct := ⟨0, 0⟩
def atC (l : List Ct) (k : Nat) : Ct := l.getD k dC
theorem atC_get {l : List Ct} {k : Nat} (h : k < l.length) : atC l k = l[k] := by simp [atC, h]
def lastK (l : List Ct) (k : Nat) : Int := if k = 0 then 0 else (atC l (k - 1)).st
theorem lastK_succ (l : List Ct) (k : Nat) : lastK l (k + 1) = (atC l k).st := by simp [lastK]
def okAtC (l : List Ct) (k : Nat) : Bool := decide (lastK l k + 1 ≤ (atC l k).st ∧ (atC l k).st ≤ 4095) && okN (atC l k).nx
def okL (l : List Ct) : Bool := decide (l.length ≤ 12) && decide (∀ k, k < l.length → okAtC l k = true)
theorem okL_iff {l : List Ct} : okL l = true ↔ l.length ≤ 12 ∧ ∀ k, k < l.length → okAtC l k = true := by simp [okL]
theorem okL_len {l : List Ct} (h : ¬ l.length ≤ 12) : okL l = false := by simp [okL, h]
theorem okL_at {l : List Ct} {k : Nat} (hk : k < l.length) (h : okAtC l k = false) : okL l = false := by
  cases e : okL l with
  | false => rfl
  | true => rw [(okL_iff.1 e).2 k hk] at h; cases h
theorem ok_last {l : List Ct} : ∀ {s : Nat}, (∀ k, k < s → okAtC l k = true) → s ≤ l.length → 0 ≤ lastK l s ∧ lastK l s ≤ 4095
  | 0, _, _ => by simp [lastK]
  | s + 1, h, hs => by
    have ih := ok_last (s := s) (fun k hk => h k (by omega)) (by omega)
    have := h s (by omega)
    rw [lastK_succ]
    simp [okAtC] at this
    omega
theorem ok_step {l : List Ct} {s : Nat} (hI : ∀ i, i < s → okAtC l i = true) (h : okAtC l s = true) : ∀ i, i < s + 1 → okAtC l i = true := fun i hi => by
  rcases Nat.lt_or_ge i s with h1 | h1
  · exact hI i h1
  · rw [show i = s by omega]; exact h
theorem ok_bd {l : List Ct} (h : okL l = true) {k : Nat} (hk : k < l.length) : 1 ≤ (atC l k).st ∧ (atC l k).st ≤ 4095 ∧ 0 ≤ (atC l k).nx ∧ (atC l k).nx ≤ 65535 := by
  have h1 := (okL_iff.1 h).2
  have h2 := ok_last (s := k) (fun i hi => h1 i (by omega)) (by omega)
  have h3 := h1 k hk
  simp [okAtC, okN] at h3
  omega
/-- Streams rise. -/
theorem ok_rise {l : List Ct} (h : okL l = true) {j : Nat} : ∀ {k : Nat}, j < k → k < l.length → (atC l j).st < (atC l k).st
  | 0, hj, _ => by omega
  | k + 1, hj, hk => by
    have h3 := (okL_iff.1 h).2 (k + 1) hk
    rw [okAtC, lastK_succ] at h3
    simp at h3
    rcases Nat.lt_or_ge j k with h4 | h4
    · have := ok_rise h h4 (by omega); omega
    · have : j = k := by omega
      subst this; omega
/-- The first counter from a stream on. -/
def fstI (l : List Ct) (s : Int) : Nat := l.findIdx fun c => decide (s ≤ c.st)
theorem fstI_le (l : List Ct) (s : Int) : fstI l s ≤ l.length := List.findIdx_le_length
theorem fstI_lt {l : List Ct} {s : Int} {k : Nat} (h : k < fstI l s) : (atC l k).st < s := by
  have hl := fstI_le l s
  have := List.not_of_lt_findIdx h
  rw [atC_get (by omega)]
  simpa using this
theorem fstI_ge {l : List Ct} {s : Int} (h : fstI l s < l.length) : s ≤ (atC l (fstI l s)).st := by
  have : decide (s ≤ (l[fstI l s]).st) = true := List.findIdx_getElem (p := fun c : Ct => decide (s ≤ c.st)) (w := h)
  rw [atC_get h]
  exact of_decide_eq_true this
theorem fstI_eq {l : List Ct} {s : Int} {i : Nat} (hi : i ≤ l.length) (h1 : ∀ k, k < i → (atC l k).st < s) (h2 : i < l.length → s ≤ (atC l i).st) : fstI l s = i := by
  have ha := fstI_le l s
  rcases Nat.lt_trichotomy (fstI l s) i with h | h | h
  · have h3 := fstI_ge (l := l) (s := s) (by omega)
    have h4 := h1 _ h
    omega
  · exact h
  · have h3 := fstI_lt h
    have h4 := h2 (by omega)
    omega
/-- Next: the list, the number, the error. -/
def nextL (l : List Ct) (s : Int) : (List Ct × Int) × Int :=
  if okL l = false then (([], 0), 490) else if ¬ (1 ≤ s ∧ s ≤ 4095) then (([], 0), 2)
  else if fstI l s < l.length ∧ (atC l (fstI l s)).st = s then ((l.take (fstI l s) ++ ⟨s, aft (atC l (fstI l s)).nx 1⟩ :: l.drop (fstI l s + 1), (atC l (fstI l s)).nx), 0)
  else if l.length = 12 then (([], 0), 7) else ((l.take (fstI l s) ++ ⟨s, 1⟩ :: l.drop (fstI l s), 0), 0)
end Go.Sq
namespace Go.Sq
open Go Go.Eng
theorem rowsC_one (l : List Ct) : ∀ u ∈ rowsV ctv l, u.oneCell' = true := by
  intro u hu
  obtain ⟨p, _, h⟩ := List.mem_flatMap.1 hu
  simp only [ctv, List.mem_cons, List.not_mem_nil, or_false] at h
  rcases h with rfl | rfl <;> rfl
theorem next_bad {l : List Ct} {s : Int} (h : okL l = false) : nextL l s = (([], 0), 490) := by unfold nextL; rw [if_pos h]
theorem next_arg {l : List Ct} {s : Int} (h : okL l = true) (hs : ¬ (1 ≤ s ∧ s ≤ 4095)) : nextL l s = (([], 0), 2) := by unfold nextL; rw [if_neg (by simp [h]), if_pos hs]
theorem next_known {l : List Ct} {s : Int} (h : okL l = true) (hs : 1 ≤ s ∧ s ≤ 4095) (h1 : fstI l s < l.length) (h2 : (atC l (fstI l s)).st = s) :
    nextL l s = ((l.take (fstI l s) ++ ⟨s, aft (atC l (fstI l s)).nx 1⟩ :: l.drop (fstI l s + 1), (atC l (fstI l s)).nx), 0) := by unfold nextL; rw [if_neg (by simp [h]), if_neg (by simp [hs]), if_pos ⟨h1, h2⟩]
theorem next_full {l : List Ct} {s : Int} (h : okL l = true) (hs : 1 ≤ s ∧ s ≤ 4095) (h1 : ¬ (fstI l s < l.length ∧ (atC l (fstI l s)).st = s)) (h2 : l.length = 12) : nextL l s = (([], 0), 7) := by
  unfold nextL; rw [if_neg (by simp [h]), if_neg (by simp [hs]), if_neg h1, if_pos h2]
theorem next_new {l : List Ct} {s : Int} (h : okL l = true) (hs : 1 ≤ s ∧ s ≤ 4095) (h1 : ¬ (fstI l s < l.length ∧ (atC l (fstI l s)).st = s)) (h2 : l.length ≠ 12) :
    nextL l s = ((l.take (fstI l s) ++ ⟨s, 1⟩ :: l.drop (fstI l s), 0), 0) := by
  unfold nextL; rw [if_neg (by simp [h]), if_neg (by simp [hs]), if_neg h1, if_neg h2]
theorem SlO.ck {F' : Know} {e : TypeId} {v : Value} {n : Nat} {l : List Ct} {b : Own} (h : SlO e 2 v n (rowsV ctv l) b) (hF : ∀ p cs t fr k, (p, Obj.cells cs t fr) ∈ b → ∀ u, cs[k]? = some u → F' ⟨p, k, none⟩ = some u) {A : Option Addr} {m c : Nat} (hv : v = .slice A m c) : m ≤ c ∧ c ≤ maxLen ∧ CK F' A m l := by
  obtain ⟨A', c', h1, h2, h3, h4⟩ := h.rows ctv_len (by decide) hF
  rw [hv] at h1; cases h1
  exact ⟨h2, h3, h4⟩
end Go.Sq

namespace Go.Sq
theorem turns_law {x y d e : Int} (hx : 0 ≤ x ∧ x ≤ 65535) (hy : 0 ≤ y ∧ y ≤ 65535) (hd : -2147483648 ≤ d ∧ d ≤ 2147483647) (he : -2147483648 ≤ e ∧ e ≤ 2147483647) :
    aft x (delta x y) = y ∧ (delta x y == 0) = (x == y) ∧ aft (aft x d) e = aft x (d + e) ∧ (delta x (aft x d) - d).tmod 65536 = 0 := by
  refine ⟨?_, ?_, ?_, ?_⟩
  · unfold delta aft; omega
  · have : delta x y = 0 ↔ x = y := by unfold delta aft; omega
    by_cases h : x = y
    · rw [this.2 h, h]; simp
    · have h2 : delta x y ≠ 0 := fun e => h (this.1 e)
      rw [beq_eq_false_iff_ne.2 h, beq_eq_false_iff_ne.2 h2]
  · unfold aft; omega
  · have := tm (delta x (aft x d) - d)
    have := tm_lt (delta x (aft x d) - d)
    have h : ∃ k : Int, delta x (aft x d) - d = 65536 * k := ⟨(delta x (aft x d) - d) / 65536, by unfold delta aft; omega⟩
    obtain ⟨k, hk⟩ := h
    rw [hk]
    exact Int.mul_tmod_right 65536 k
end Go.Sq
