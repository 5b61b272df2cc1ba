/-
  Histories: single bits, what is missing.
-/
import Derived.Test.YtichjhggoioenaaRcPlain
namespace Go.Rc
open Go Go.Eng
theorem shr_succ (a s : Nat) : ((a >>> s : Nat) : Int) / 2 = ((a >>> (s + 1) : Nat) : Int) := by
  rw [Nat.shiftRight_succ]; push_cast; rfl
theorem bit_end (a i : Nat) : (((a >>> i : Nat) : Int) % 2 == 1) = a.testBit i := by
  rw [Nat.testBit_eq_decide_div_mod_eq, Nat.shiftRight_eq_div_pow, Bool.eq_iff_iff, beq_iff_eq, decide_eq_true_iff]
  omega
theorem shr_lt {a s : Nat} (h : a < 18446744073709551616) : a >>> s < 18446744073709551616 := by
  rw [Nat.shiftRight_eq_div_pow]; exact Nat.lt_of_le_of_lt (Nat.div_le_self _ _) h
theorem bit0 (a : Nat) : a.testBit 0 = decide (a % 2 = 1) := by rw [Nat.testBit_zero]
theorem bits_lt {a k : Nat} (ha : a < 18446744073709551616) (h : ∀ i, k ≤ i → i < 64 → a.testBit i = false) : a < 2 ^ k := by
  refine Nat.lt_pow_two_of_testBit a fun i hi => ?_
  rcases Nat.lt_or_ge i 64 with h1 | h1
  · exact h i hi h1
  · exact Nat.testBit_lt_two_pow (Nat.lt_of_lt_of_le ha (Nat.pow_le_pow_right (n := 2) (by decide) h1))
theorem lt_bits {a k i : Nat} (h : a < 2 ^ k) (hi : k ≤ i) : a.testBit i = false := Nat.testBit_lt_two_pow (Nat.lt_of_lt_of_le h (Nat.pow_le_pow_right (by decide) hi))
theorem rdelta_eq (a b : Int) (ha : 0 ≤ a ∧ a ≤ 65535) (hb : 0 ≤ b ∧ b ≤ 65535) : (if 32768 ≤ aft b (-a) then aft b (-a) - 65536 else aft b (-a)) = delta a b := by
  unfold delta aft; split <;> omega
/-- What is missing, after j of the ln - 1 places, from the oldest one on. -/
def missK (r : Rc) : Nat → List Int
  | 0 => []
  | j + 1 => missK r j ++ (if r.se.testBit (r.ln.toNat - 1 - j) then [] else [aft r.la (-((r.ln.toNat - 1 - j : Nat) : Int))])
def missL (r : Rc) : List Int := if r.an then [] else missK r (r.ln.toNat - 1)
theorem missK_len (r : Rc) : ∀ j, (missK r j).length ≤ j
  | 0 => Nat.le_refl _
  | j + 1 => by
    have := missK_len r j
    simp only [missK, List.length_append]
    split <;> simp <;> omega
theorem miss_hit {r : Rc} {j i : Nat} (h : r.ln.toNat - 1 - j = i) (hb : r.se.testBit i = true) : missK r (j + 1) = missK r j := by simp [missK, h, hb]
theorem miss_add {r : Rc} {j i : Nat} (h : r.ln.toNat - 1 - j = i) (hb : r.se.testBit i = false) : missK r (j + 1) = missK r j ++ [aft r.la (-(i : Int))] := by simp [missK, h, hb]
/-- A growing list of numbers. -/
structure GS where
  A : Option Addr
  n : Nat
  c : Nat
  b : Own
abbrev GL (s : GS) (xs : List Int) : Prop := SlO 3 1 (.slice s.A s.n s.c) s.n (rowsV iv xs) s.b
theorem GL.zero : GL ⟨none, 0, 0, []⟩ [] := SlO.nil 3 1
theorem rowsI1 (xs : List Int) (y : Int) : rowsV iv (xs ++ [y]) = rowsV iv xs ++ iv y := by rw [rowsV_app, rowsV_one]
theorem iv_one (x : Int) : ∀ u ∈ iv x, u.oneCell' = true := by intro u hu; simp [iv] at hu; subst hu; rfl
theorem SlO.ik {F' : Know} {e : TypeId} {v : Value} {n : Nat} {l : List Int} {b : Own} (h : SlO e 1 v n (rowsV iv l) b) (hF : ∀ p cs t fr k, (p, Obj.cells cs t fr) ∈ b → ∀ u, cs[k]? = some u → F' ⟨p, k, none⟩ = some u) {A : Option Addr} {m c : Nat} (hv : v = .slice A m c) : m ≤ c ∧ c ≤ maxLen ∧ RowsK iv 1 F' A m l := by
  obtain ⟨A', c', h1, h2, h3, h4⟩ := h.rows iv_len (by decide) hF
  rw [hv] at h1; cases h1
  exact ⟨h2, h3, h4⟩
theorem shr_bits (a k : Nat) (hk : k ≤ 64) : ((a : Int)).fdiv (2 ^ (min ((k : Int).toNat) IntKind.u64.bits)) = ((a >>> k : Nat) : Int) := shr_nat a k hk
theorem and_bit {a i : Nat} (h : a < 18446744073709551616) : bitsOf .and .u64 ((a >>> i : Nat) : Int) 1 = 0 ↔ a.testBit i = false := by
  rw [and_one (shr_lt h), Nat.testBit_eq_decide_div_mod_eq, Nat.shiftRight_eq_div_pow, decide_eq_false_iff_not]
  omega
theorem okR_ln {r : Rc} (h : okR r = true) : 1 ≤ r.ln ∧ r.ln ≤ 64 ∧ 1 ≤ r.rs ∧ r.rs ≤ 1099511627776 := by
  simp [okR] at h; omega
theorem okR_an {r : Rc} (h : okR r = true) (ha : r.an = false) : (0 ≤ r.la ∧ r.la ≤ 65535) ∧ 0 ≤ r.at_ ∧ r.at_ ≤ 1099511627776 ∧ r.se % 2 = 1 ∧ r.se < 2 ^ r.ln.toNat := by
  simp [okR, ha, okN] at h; omega
theorem okR_any {r : Rc} (h : okR r = true) (ha : r.an = true) : r = anyR r.ln r.rs := by
  simp [okR, ha] at h
  obtain ⟨l, s, a, b, c, d⟩ := r
  simp at ha h
  simp [anyR, ha, h]
theorem shr_succW {a s : Nat} (h : a < 18446744073709551616) : IntKind.u64.wrap (((a >>> s : Nat) : Int).tdiv 2) = ((a >>> (s + 1) : Nat) : Int) := by
  rw [Int.tdiv_eq_ediv_of_nonneg (Int.natCast_nonneg _), shr_succ, u64_nat (shr_lt h)]
theorem bit_endT (a i : Nat) : (((a >>> i : Nat) : Int).tmod 2 == 1) = a.testBit i := by
  rw [Int.tmod_eq_emod_of_nonneg (Int.natCast_nonneg _), bit_end]
/-! ### The window -/
structure Wn where
  r : Rc
  n : Int
  t : Int
  d : Int
def wnv (x : Wn) : List Value := [.int .i64 x.r.ln, .int .i64 x.r.rs, .bool x.r.an, .int .i64 x.r.la, .int .i64 x.r.at_, .int .u64 (x.r.se : Int), .int .i64 x.n, .int .i64 x.t, .int .i64 x.d]
theorem wnv_len (x : Wn) : (wnv x).length = 9 := rfl
def beginR (x : Wn) : Wn := { x with r := { x.r with an := false, la := x.n, at_ := x.t, se := 1 } }
abbrev wcp (p : Nat) (x : Wn) : Own := [(p, .cells (wnv x).toArray 75 (0, 0))]
def freshB (x : Wn) : Bool := x.r.an || decide (x.r.rs < x.t - x.r.at_)
def farB (x : Wn) : Bool := decide (delta x.r.la x.n ≤ -x.r.ln ∨ x.r.ln ≤ delta x.r.la x.n)
def hitR (x : Wn) (i : Nat) : Wn := { x with r := { x.r with se := x.r.se ||| 2 ^ i, at_ := x.t } }
def shiftS (s k l : Nat) : Nat := 1 ||| ((s <<< k % 18446744073709551616) &&& (2 ^ l - 1))
def nextR (x : Wn) (k : Nat) : Wn := { x with r := { x.r with an := false, la := x.n, at_ := x.t, se := shiftS x.r.se k x.r.ln.toNat } }
theorem shl_bits (a k : Nat) (hk : k ≤ 64) : IntKind.u64.wrap ((a : Int) * 2 ^ (min ((k : Int).toNat) IntKind.u64.bits)) = (((a <<< k) % 18446744073709551616 : Nat) : Int) := shl_nat a k hk
theorem one_bits (k : Nat) (hk : k ≤ 63) : IntKind.u64.wrap (1 * 2 ^ (min ((k : Int).toNat) IntKind.u64.bits)) = ((2 ^ k : Nat) : Int) := by
  have h := shl_nat 1 k (by omega)
  have h2 : 2 ^ k < 18446744073709551616 := Nat.lt_of_lt_of_le (Nat.pow_lt_pow_right (by decide) (show k < 64 by omega)) (Nat.le_refl _)
  rw [Nat.shiftLeft_eq, Nat.one_mul, Nat.mod_eq_of_lt h2] at h
  exact h
theorem pow_lt64 {k : Nat} (hk : k ≤ 63) : 2 ^ k < 18446744073709551616 := Nat.lt_of_lt_of_le (Nat.pow_lt_pow_right (by decide) (show k < 64 by omega)) (Nat.le_refl _)
theorem and_pow {a k : Nat} : a &&& 2 ^ k = 0 ↔ a.testBit k = false := by
  constructor
  · intro h
    have := congrArg (fun z => Nat.testBit z k) h
    simpa [Nat.testBit_and, Nat.testBit_two_pow_self] using this
  · intro h
    apply Nat.eq_of_testBit_eq
    intro i
    rw [Nat.testBit_and, Nat.zero_testBit, Nat.testBit_two_pow]
    by_cases hi : k = i
    · subst hi; simp [h]
    · simp [hi]
theorem and_pow_zero {a k : Nat} (ha : a < 18446744073709551616) (hk : k ≤ 63) : bitsOf .and .u64 (a : Int) ((2 ^ k : Nat) : Int) = 0 ↔ a.testBit k = false := by
  rw [and_nat ha (pow_lt64 hk), ← and_pow]; omega
theorem or_pow {a k : Nat} (ha : a < 18446744073709551616) (hk : k ≤ 63) : bitsOf .or .u64 (a : Int) ((2 ^ k : Nat) : Int) = ((a ||| 2 ^ k : Nat) : Int) := or_nat ha (pow_lt64 hk)
theorem mask_lt {k : Nat} (hk : k ≤ 64) : 2 ^ k - 1 < 18446744073709551616 := by have := pow_le64 hk; have : 0 < 2 ^ k := Nat.pow_pos (by decide); omega
theorem shift_and (s k l : Nat) (hl : l ≤ 64) : bitsOf .and .u64 (((s <<< k) % 18446744073709551616 : Nat) : Int) ((2 ^ l - 1 : Nat) : Int) = ((((s <<< k) % 18446744073709551616) &&& (2 ^ l - 1) : Nat) : Int) :=
  and_nat (Nat.mod_lt _ (by decide)) (mask_lt hl)
theorem shift_or (s k l : Nat) (hl : l ≤ 64) : bitsOf .or .u64 1 ((((s <<< k) % 18446744073709551616) &&& (2 ^ l - 1) : Nat) : Int) = ((shiftS s k l : Nat) : Int) := by
  have h := or_nat (a := 1) (b := ((s <<< k) % 18446744073709551616) &&& (2 ^ l - 1)) (by decide) (Nat.lt_of_le_of_lt Nat.and_le_left (Nat.mod_lt _ (by decide)))
  exact h
/-! ### Accept -/
def dWn (x : Wn) : Wn := { x with d := delta x.r.la x.n }
def accR (r : Rc) (n t : Int) : Rc × Bool :=
  if freshB ⟨r, n, t, 0⟩ then ((beginR ⟨r, n, t, 0⟩).r, true)
  else if farB ⟨r, n, t, 0⟩ then (r, false)
  else if 0 < delta r.la n then ((nextR (dWn ⟨r, n, t, 0⟩) (delta r.la n).toNat).r, true)
  else if r.se.testBit (-delta r.la n).toNat then (r, false) else ((hitR (dWn ⟨r, n, t, 0⟩) (-delta r.la n).toNat).r, true)
def argB (r : Rc) (n t : Int) : Bool := decide (0 ≤ n ∧ n ≤ 65535 ∧ r.at_ ≤ t ∧ t ≤ 1099511627776 ∧ 0 ≤ t)
def accA (r : Rc) (n t : Int) : (Rc × Bool) × Int := if okR r then (if argB r n t then (accR r n t, 0) else ((zR, false), 2)) else ((zR, false), 500)
/-- Where the loop over the rules stands. -/
def JW (r : Rc) (n t : Int) (s : Nat) (x : Wn) : Prop :=
  match s with
  | 0 => x = ⟨r, n, t, 0⟩
  | 1 => x = ⟨r, n, t, 0⟩ ∧ freshB ⟨r, n, t, 0⟩ = false
  | 2 => x = dWn ⟨r, n, t, 0⟩ ∧ freshB ⟨r, n, t, 0⟩ = false ∧ farB ⟨r, n, t, 0⟩ = false
  | 3 => x = dWn ⟨r, n, t, 0⟩ ∧ freshB ⟨r, n, t, 0⟩ = false ∧ farB ⟨r, n, t, 0⟩ = false ∧ 0 < delta r.la n
  | _ => False
theorem okR_at {r : Rc} (h : okR r = true) : 0 ≤ r.at_ ∧ r.at_ ≤ 1099511627776 := by
  cases ha : r.an with
  | true => have := okR_any h ha; rw [this]; simp [anyR]
  | false => have := okR_an h ha; omega
theorem fresh_an {x : Wn} (h : freshB x = false) : x.r.an = false := by simp [freshB] at h; exact h.1
def rulesM : List (Int × Value) := [(0, .func (.func 30) #[] #[]), (1, .func (.func 31) #[] #[]), (2, .func (.func 32) #[] #[]), (3, .func (.func 33) #[] #[])]
end Go.Rc
