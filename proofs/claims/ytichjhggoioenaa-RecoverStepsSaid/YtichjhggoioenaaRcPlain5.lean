/-
  The state of a draft.
-/
import Derived.Test.YtichjhggoioenaaRcPlain4
namespace Go.Rc
open Go Go.Eng
structure Df where
  ln : Int
  rs : Int
  an : Bool
  la : Int
  at_ : Int
  se : Nat
def dfv (d : Df) : List Value := [.int .u8 d.ln, .int .u32 d.rs, .bool d.an, .int .u16 d.la, .int .u32 d.at_, .int .u64 (d.se : Int)]
theorem dfv_len (d : Df) : (dfv d).length = 6 := rfl
structure Df.rng (d : Df) : Prop where
  ln : 0 ≤ d.ln ∧ d.ln ≤ 255
  rs : 0 ≤ d.rs ∧ d.rs ≤ 4294967295
  la : 0 ≤ d.la ∧ d.la ≤ 65535
  at_ : 0 ≤ d.at_ ∧ d.at_ ≤ 4294967295
  se : d.se < 18446744073709551616
def seenK (a l : Nat) : Nat → Nat
  | 0 => 0
  | j + 1 => seenK a l j * 2 + (if l - 1 - j = 0 ∨ a.testBit (l - 1 - j) = true then 1 else 0)
theorem seenK_lt (a l : Nat) : ∀ j, seenK a l j < 2 ^ j
  | 0 => by simp [seenK]
  | j + 1 => by
    have := seenK_lt a l j
    rw [Nat.pow_succ]
    simp only [seenK]
    split <;> omega
theorem seenK_set {a l j i : Nat} (h : l - 1 - j = i) (hb : i = 0 ∨ a.testBit i = true) : seenK a l (j + 1) = seenK a l j * 2 + 1 := by
  subst h; show seenK a l j * 2 + (if _ then 1 else 0) = _; rw [if_pos hb]
theorem seenK_no {a l j i : Nat} (h : l - 1 - j = i) (hb : ¬ (i = 0 ∨ a.testBit i = true)) : seenK a l (j + 1) = seenK a l j * 2 := by
  subst h; show seenK a l j * 2 + (if _ then 1 else 0) = _; rw [if_neg hb]; rfl
def lenD (d : Df) : Nat := (1 + d.ln % 64).toNat
def stD (d : Df) (j : Nat) : Rc := ⟨1 + d.ln % 64, 1 + d.rs, false, d.la, d.at_, seenK d.se (lenD d) j⟩
def dfR (d : Df) : Rc := if d.an then anyR (1 + d.ln % 64) (1 + d.rs) else stD d (lenD d)
theorem ok_dfR {d : Df} (h : Df.rng d) : okR (dfR d) = true := by
  have h1 := h.ln
  have h2 := h.rs
  have h4 := h.at_
  unfold dfR
  split
  · exact ok_any (by omega) (by omega)
  · have hl : 1 ≤ lenD d ∧ lenD d ≤ 64 := by unfold lenD; omega
    refine okR_mk (by show 1 ≤ 1 + d.ln % 64 ∧ 1 + d.ln % 64 ≤ 64; omega) (by show 1 ≤ 1 + d.rs ∧ 1 + d.rs ≤ 1099511627776; omega) rfl h.la (by show 0 ≤ d.at_ ∧ d.at_ ≤ 1099511627776; omega) ?_ (seenK_lt _ _ _)
    show seenK d.se (lenD d) (lenD d) % 2 = 1
    obtain ⟨j, hj⟩ : ∃ j, lenD d = j + 1 := ⟨lenD d - 1, by omega⟩
    rw [hj, seenK_set (i := 0) (by omega) (.inl rfl)]
    omega
theorem u64_in {x : Int} (h : 0 ≤ x) (h2 : x < 18446744073709551616) : IntKind.u64.wrap x = x := by
  obtain ⟨k, rfl⟩ : ∃ k : Nat, x = k := ⟨x.toNat, by omega⟩
  exact u64_nat (by omega)
theorem stD_set {d : Df} {s i : Nat} (h : seenK d.se (lenD d) s < 9223372036854775808) (hi : lenD d - 1 - s = i) (hb : i = 0 ∨ d.se.testBit i = true) : IntKind.u64.wrap (IntKind.u64.wrap (((stD d s).se : Int) * 2) + 1) = ((stD d (s + 1)).se : Int) := by
  show IntKind.u64.wrap (IntKind.u64.wrap (((seenK d.se (lenD d) s : Nat) : Int) * 2) + 1) = ((seenK d.se (lenD d) (s + 1) : Nat) : Int)
  rw [seenK_set hi hb, u64_in (x := ((seenK d.se (lenD d) s : Nat) : Int) * 2) (by omega) (by omega), u64_in (by omega) (by omega)]
  omega
theorem stD_no {d : Df} {s i : Nat} (h : seenK d.se (lenD d) s < 9223372036854775808) (hi : lenD d - 1 - s = i) (hb : ¬ (i = 0 ∨ d.se.testBit i = true)) : IntKind.u64.wrap (((stD d s).se : Int) * 2) = ((stD d (s + 1)).se : Int) := by
  show IntKind.u64.wrap (((seenK d.se (lenD d) s : Nat) : Int) * 2) = ((seenK d.se (lenD d) (s + 1) : Nat) : Int)
  rw [seenK_no hi hb, u64_in (by omega) (by omega)]
  omega
theorem ok_any_iff {l s : Int} : okR (anyR l s) = true ↔ 1 ≤ l ∧ l ≤ 64 ∧ 1 ≤ s ∧ s ≤ 1099511627776 := by
  constructor
  · intro h; exact okR_ln h
  · rintro ⟨a, b, c, d⟩; exact ok_any ⟨a, b⟩ ⟨c, d⟩
theorem missL_len (r : Rc) (h : okR r = true) : (missL r).length ≤ 64 := by
  have := okR_ln h
  unfold missL
  split
  · simp
  · have := missK_len r (r.ln.toNat - 1); omega
end Go.Rc
