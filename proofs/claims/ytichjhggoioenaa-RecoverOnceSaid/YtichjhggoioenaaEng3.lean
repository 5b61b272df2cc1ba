/-
  The engine, part 3: what single operations give.
-/
import Derived.Test.YtichjhggoioenaaEng2
namespace Go.Eng
open Go

section
variable {c : Cx} {env : Env} {F : Know} {own : Own} {Q : Exit → Act → World → Prop}
variable {d : Option Tmp} {ty : TypeId} {ps : String} {af : Array Edge} {g : Option (Nat × Bool)}

/-- The usual case: the operation's run is a value in the same world. -/
theorem det_of {o : Oper} {v : Value} (h : ∀ a, EnvOk c.n c.df env a → ∀ w, Sat c F own w → (execOp a.eval o).run c.P w = .ok (.value v) w) : Det c F own env o v := by
  intro a ha w hw
  rw [h a ha w hw]
  exact ⟨rfl, rfl⟩

theorem det_move {x : Operand} {v : Value} (hx : Env.ev env x = some v) : Det c F own env ⟨d, .move x, ty, ps, af, g⟩ v :=
  det_of fun a ha w _ => by simp [execOp, ha.eval hx]
theorem det_assign {x : Operand} {v : Value} (hx : Env.ev env x = some v) : Det c F own env ⟨d, .assign x, ty, ps, af, g⟩ v :=
  det_of fun a ha w _ => by simp [execOp, ha.eval hx]

theorem det_pickT {x y z : Operand} {v : Value} (hx : Env.ev env x = some (.bool true)) (hy : Env.ev env y = some v) : Det c F own env ⟨d, .pick x y z, ty, ps, af, g⟩ v :=
  det_of fun a ha w _ => by simp [execOp, ha.eval hx, ha.eval hy, asBool]
theorem det_pickF {x y z : Operand} {v : Value} (hx : Env.ev env x = some (.bool false)) (hz : Env.ev env z = some v) : Det c F own env ⟨d, .pick x y z, ty, ps, af, g⟩ v :=
  det_of fun a ha w _ => by simp [execOp, ha.eval hx, ha.eval hz, asBool]

/-! ### Numbers -/

theorem run_guard_int {P : Program} {w : World} {op : BinOp} {t : TypeId} {x y : Operand} {k k' : IntKind} {m n : Int} : (eqGuard op t x y (.int k m) (.int k' n)).run P w = .ok () w := by
  cases op <;> simp [eqGuard]
theorem run_guard_bool {P : Program} {w : World} {op : BinOp} {t : TypeId} {x y : Operand} {m n : Bool} : (eqGuard op t x y (.bool m) (.bool n)).run P w = .ok () w := by
  cases op <;> simp [eqGuard]

theorem det_int {op : BinOp} {t yt : TypeId} {x y : Operand} {k k' : IntKind} {m n : Int} {v : Value} (hx : Env.ev env x = some (.int k m)) (hy : Env.ev env y = some (.int k' n))
    (h : ∀ w, (binOp op t (.int k m) (.int k' n)).run c.P w = .ok v w) : Det c F own env ⟨d, .binOp op t x y yt, ty, ps, af, g⟩ v :=
  det_of fun a ha w _ => by simp [execOp, ha.eval hx, ha.eval hy, run_guard_int, h]

theorem det_add {t yt : TypeId} {x y : Operand} {k : IntKind} {m n : Int} (hx : Env.ev env x = some (.int k m)) (hy : Env.ev env y = some (.int k n)) :
    Det c F own env ⟨d, .binOp .add t x y yt, ty, ps, af, g⟩ (.int k (k.wrap (m + n))) := det_int hx hy fun w => by simp [binOp, Op.intArith]
theorem det_sub {t yt : TypeId} {x y : Operand} {k : IntKind} {m n : Int} (hx : Env.ev env x = some (.int k m)) (hy : Env.ev env y = some (.int k n)) :
    Det c F own env ⟨d, .binOp .sub t x y yt, ty, ps, af, g⟩ (.int k (k.wrap (m - n))) := det_int hx hy fun w => by simp [binOp, Op.intArith]
theorem det_mul {t yt : TypeId} {x y : Operand} {k : IntKind} {m n : Int} (hx : Env.ev env x = some (.int k m)) (hy : Env.ev env y = some (.int k n)) :
    Det c F own env ⟨d, .binOp .mul t x y yt, ty, ps, af, g⟩ (.int k (k.wrap (m * n))) := det_int hx hy fun w => by simp [binOp, Op.intArith]
theorem det_rem {t yt : TypeId} {x y : Operand} {k : IntKind} {m n : Int} (hx : Env.ev env x = some (.int k m)) (hy : Env.ev env y = some (.int k n)) (h0 : n ≠ 0) :
    Det c F own env ⟨d, .binOp .rem t x y yt, ty, ps, af, g⟩ (.int k (m.tmod n)) := det_int hx hy fun w => by simp [binOp, Op.intDiv, h0]
theorem det_quo {t yt : TypeId} {x y : Operand} {k : IntKind} {m n : Int} (hx : Env.ev env x = some (.int k m)) (hy : Env.ev env y = some (.int k n)) (h0 : n ≠ 0) :
    Det c F own env ⟨d, .binOp .quo t x y yt, ty, ps, af, g⟩ (.int k (k.wrap (m.tdiv n))) := det_int hx hy fun w => by simp [binOp, Op.intDiv, h0]

theorem wrap_in {n : Int} (h1 : -9223372036854775808 ≤ n) (h2 : n ≤ 9223372036854775807) : IntKind.i64.wrap n = n := by
  simp only [IntKind.wrap, IntKind.bits, IntKind.signed, Bool.true_and]
  by_cases h : n % (2 ^ 64 : Int) ≥ (2 ^ (64 - 1) : Int)
  · rw [if_pos (by simpa using h)]; omega
  · rw [if_neg (by simpa using h)]; omega

/-- Without wraparound: the bounds are shown. -/
theorem det_addI {t yt : TypeId} {x y : Operand} {m n : Int} (hx : Env.ev env x = some (.int .i64 m)) (hy : Env.ev env y = some (.int .i64 n)) (h : -9223372036854775808 ≤ m + n ∧ m + n ≤ 9223372036854775807) :
    Det c F own env ⟨d, .binOp .add t x y yt, ty, ps, af, g⟩ (.int .i64 (m + n)) := by
  have := det_add (c := c) (F := F) (own := own) (d := d) (t := t) (yt := yt) (ty := ty) (ps := ps) (af := af) (g := g) hx hy
  rwa [wrap_in h.1 h.2] at this
theorem det_subI {t yt : TypeId} {x y : Operand} {m n : Int} (hx : Env.ev env x = some (.int .i64 m)) (hy : Env.ev env y = some (.int .i64 n)) (h : -9223372036854775808 ≤ m - n ∧ m - n ≤ 9223372036854775807) :
    Det c F own env ⟨d, .binOp .sub t x y yt, ty, ps, af, g⟩ (.int .i64 (m - n)) := by
  have := det_sub (c := c) (F := F) (own := own) (d := d) (t := t) (yt := yt) (ty := ty) (ps := ps) (af := af) (g := g) hx hy
  rwa [wrap_in h.1 h.2] at this
theorem det_mulI {t yt : TypeId} {x y : Operand} {m n : Int} (hx : Env.ev env x = some (.int .i64 m)) (hy : Env.ev env y = some (.int .i64 n)) (h : -9223372036854775808 ≤ m * n ∧ m * n ≤ 9223372036854775807) :
    Det c F own env ⟨d, .binOp .mul t x y yt, ty, ps, af, g⟩ (.int .i64 (m * n)) := by
  have := det_mul (c := c) (F := F) (own := own) (d := d) (t := t) (yt := yt) (ty := ty) (ps := ps) (af := af) (g := g) hx hy
  rwa [wrap_in h.1 h.2] at this
theorem det_quoI {t yt : TypeId} {x y : Operand} {m n : Int} (hx : Env.ev env x = some (.int .i64 m)) (hy : Env.ev env y = some (.int .i64 n)) (h0 : n ≠ 0) (h : -9223372036854775808 ≤ m.tdiv n ∧ m.tdiv n ≤ 9223372036854775807) :
    Det c F own env ⟨d, .binOp .quo t x y yt, ty, ps, af, g⟩ (.int .i64 (m.tdiv n)) := by
  have := det_quo (c := c) (F := F) (own := own) (d := d) (t := t) (yt := yt) (ty := ty) (ps := ps) (af := af) (g := g) hx hy h0
  rwa [wrap_in h.1 h.2] at this
/-- Division and remainder of a number that is not negative by a positive one: Lean's own. -/
theorem det_remP {t yt : TypeId} {x y : Operand} {k : IntKind} {m n : Int} (hx : Env.ev env x = some (.int k m)) (hy : Env.ev env y = some (.int k n)) (h : 0 ≤ m ∧ 0 < n) :
    Det c F own env ⟨d, .binOp .rem t x y yt, ty, ps, af, g⟩ (.int k (m % n)) := by
  have := det_rem (c := c) (F := F) (own := own) (d := d) (t := t) (yt := yt) (ty := ty) (ps := ps) (af := af) (g := g) hx hy (by omega)
  rwa [Int.tmod_eq_emod_of_nonneg h.1] at this
theorem det_quoP {t yt : TypeId} {x y : Operand} {m n : Int} (hx : Env.ev env x = some (.int .i64 m)) (hy : Env.ev env y = some (.int .i64 n)) (h : 0 ≤ m ∧ 0 < n) (hm : m ≤ 9223372036854775807) :
    Det c F own env ⟨d, .binOp .quo t x y yt, ty, ps, af, g⟩ (.int .i64 (m / n)) := by
  have := det_quo (c := c) (F := F) (own := own) (d := d) (t := t) (yt := yt) (ty := ty) (ps := ps) (af := af) (g := g) hx hy (by omega)
  rw [Int.tdiv_eq_ediv_of_nonneg h.1] at this
  have h1 : m / n ≤ m := Int.ediv_le_self _ h.1
  have h2 : 0 ≤ m / n := Int.ediv_nonneg h.1 (by omega)
  rwa [wrap_in (by omega) (by omega)] at this

/-- Bits. -/
def bitsOf (op : BinOp) (k : IntKind) (m n : Int) : Int :=
  let a := BitVec.ofInt k.bits m
  let b := BitVec.ofInt k.bits n
  match op with
  | .and => k.wrap (a &&& b).toNat
  | .or => k.wrap (a ||| b).toNat
  | .xor => k.wrap (a ^^^ b).toNat
  | _ => k.wrap (a &&& ~~~b).toNat
theorem det_and {t yt : TypeId} {x y : Operand} {k : IntKind} {m n : Int} (hx : Env.ev env x = some (.int k m)) (hy : Env.ev env y = some (.int k n)) :
    Det c F own env ⟨d, .binOp .and t x y yt, ty, ps, af, g⟩ (.int k (bitsOf .and k m n)) := det_int hx hy fun w => by simp [binOp, Op.intBits, bitsOf]
theorem det_or {t yt : TypeId} {x y : Operand} {k : IntKind} {m n : Int} (hx : Env.ev env x = some (.int k m)) (hy : Env.ev env y = some (.int k n)) :
    Det c F own env ⟨d, .binOp .or t x y yt, ty, ps, af, g⟩ (.int k (bitsOf .or k m n)) := det_int hx hy fun w => by simp [binOp, Op.intBits, bitsOf]
theorem det_xor {t yt : TypeId} {x y : Operand} {k : IntKind} {m n : Int} (hx : Env.ev env x = some (.int k m)) (hy : Env.ev env y = some (.int k n)) :
    Det c F own env ⟨d, .binOp .xor t x y yt, ty, ps, af, g⟩ (.int k (bitsOf .xor k m n)) := det_int hx hy fun w => by simp [binOp, Op.intBits, bitsOf]
theorem det_andNot {t yt : TypeId} {x y : Operand} {k : IntKind} {m n : Int} (hx : Env.ev env x = some (.int k m)) (hy : Env.ev env y = some (.int k n)) :
    Det c F own env ⟨d, .binOp .andNot t x y yt, ty, ps, af, g⟩ (.int k (bitsOf .andNot k m n)) := det_int hx hy fun w => by simp [binOp, Op.intBits, bitsOf]
theorem det_shl {t yt : TypeId} {x y : Operand} {k k' : IntKind} {m n : Int} (hx : Env.ev env x = some (.int k m)) (hy : Env.ev env y = some (.int k' n)) (h0 : 0 ≤ n) :
    Det c F own env ⟨d, .binOp .shl t x y yt, ty, ps, af, g⟩ (.int k (k.wrap (m * 2 ^ (min n.toNat k.bits)))) := det_int hx hy fun w => by
  have : ¬ n < 0 := by omega
  simp [binOp, Op.shift, this]
theorem det_shr {t yt : TypeId} {x y : Operand} {k k' : IntKind} {m n : Int} (hx : Env.ev env x = some (.int k m)) (hy : Env.ev env y = some (.int k' n)) (h0 : 0 ≤ n) :
    Det c F own env ⟨d, .binOp .shr t x y yt, ty, ps, af, g⟩ (.int k (m.fdiv (2 ^ (min n.toNat k.bits)))) := det_int hx hy fun w => by
  have : ¬ n < 0 := by omega
  simp [binOp, Op.shift, this]

theorem det_eql {t yt : TypeId} {x y : Operand} {k : IntKind} {m n : Int} (hx : Env.ev env x = some (.int k m)) (hy : Env.ev env y = some (.int k n)) :
    Det c F own env ⟨d, .binOp .eql t x y yt, ty, ps, af, g⟩ (.bool (m == n)) := det_int hx hy fun w => by simp [binOp, Op.intCmp]
theorem det_neq {t yt : TypeId} {x y : Operand} {k : IntKind} {m n : Int} (hx : Env.ev env x = some (.int k m)) (hy : Env.ev env y = some (.int k n)) :
    Det c F own env ⟨d, .binOp .neq t x y yt, ty, ps, af, g⟩ (.bool (m != n)) := det_int hx hy fun w => by simp [binOp, Op.intCmp]
theorem det_lss {t yt : TypeId} {x y : Operand} {k : IntKind} {m n : Int} (hx : Env.ev env x = some (.int k m)) (hy : Env.ev env y = some (.int k n)) :
    Det c F own env ⟨d, .binOp .lss t x y yt, ty, ps, af, g⟩ (.bool (decide (m < n))) := det_int hx hy fun w => by simp [binOp, Op.intCmp]
theorem det_leq {t yt : TypeId} {x y : Operand} {k : IntKind} {m n : Int} (hx : Env.ev env x = some (.int k m)) (hy : Env.ev env y = some (.int k n)) :
    Det c F own env ⟨d, .binOp .leq t x y yt, ty, ps, af, g⟩ (.bool (decide (m ≤ n))) := det_int hx hy fun w => by simp [binOp, Op.intCmp]
theorem det_gtr {t yt : TypeId} {x y : Operand} {k : IntKind} {m n : Int} (hx : Env.ev env x = some (.int k m)) (hy : Env.ev env y = some (.int k n)) :
    Det c F own env ⟨d, .binOp .gtr t x y yt, ty, ps, af, g⟩ (.bool (decide (n < m))) := det_int hx hy fun w => by simp [binOp, Op.intCmp]
theorem det_geq {t yt : TypeId} {x y : Operand} {k : IntKind} {m n : Int} (hx : Env.ev env x = some (.int k m)) (hy : Env.ev env y = some (.int k n)) :
    Det c F own env ⟨d, .binOp .geq t x y yt, ty, ps, af, g⟩ (.bool (decide (n ≤ m))) := det_int hx hy fun w => by simp [binOp, Op.intCmp]

/-- '==', '!=' of two bools; the type is bool's. -/
theorem det_eqlB {t yt : TypeId} {x y : Operand} {m n : Bool} (ht : c.P.underlying t = some .bool) (hx : Env.ev env x = some (.bool m)) (hy : Env.ev env y = some (.bool n)) :
    Det c F own env ⟨d, .binOp .eql t x y yt, ty, ps, af, g⟩ (.bool (m == n)) :=
  det_of fun a ha w _ => by simp [execOp, ha.eval hx, ha.eval hy, run_guard_bool, binOp, Op.equal, Op.maxDepth, run_equalIn_bool w 9999 t m n ht]
theorem det_neqB {t yt : TypeId} {x y : Operand} {m n : Bool} (ht : c.P.underlying t = some .bool) (hx : Env.ev env x = some (.bool m)) (hy : Env.ev env y = some (.bool n)) :
    Det c F own env ⟨d, .binOp .neq t x y yt, ty, ps, af, g⟩ (.bool (!(m == n))) :=
  det_of fun a ha w _ => by simp [execOp, ha.eval hx, ha.eval hy, run_guard_bool, binOp, Op.equal, Op.maxDepth, run_equalIn_bool w 9999 t m n ht]
/-- '==', '!=' of two values of a struct: what the test gives is shown. -/
theorem det_eqlS {t yt : TypeId} {x y : Operand} {m n : Array Value} {b : Bool} (hx : Env.ev env x = some (.agg m)) (hy : Env.ev env y = some (.agg n))
    (hg : c.P.eqGuardType c.P.depth t = false) (h : ∀ w, (Op.equal t (.agg m) (.agg n)).run c.P w = .ok b w) :
    Det c F own env ⟨d, .binOp .eql t x y yt, ty, ps, af, g⟩ (.bool b) :=
  det_of fun a ha w _ => by simp [execOp, ha.eval hx, ha.eval hy, run_eqGuard_agg w _ t x y m n hg, binOp, h]
theorem det_neqS {t yt : TypeId} {x y : Operand} {m n : Array Value} {b : Bool} (hx : Env.ev env x = some (.agg m)) (hy : Env.ev env y = some (.agg n))
    (hg : c.P.eqGuardType c.P.depth t = false) (h : ∀ w, (Op.equal t (.agg m) (.agg n)).run c.P w = .ok b w) :
    Det c F own env ⟨d, .binOp .neq t x y yt, ty, ps, af, g⟩ (.bool (!b)) :=
  det_of fun a ha w _ => by simp [execOp, ha.eval hx, ha.eval hy, run_eqGuard_agg w _ t x y m n hg, binOp, h]

theorem det_not {t : TypeId} {x : Operand} {b : Bool} (hx : Env.ev env x = some (.bool b)) : Det c F own env ⟨d, .unOp .not t x, ty, ps, af, g⟩ (.bool (!b)) :=
  det_of fun a ha w _ => by simp [execOp, ha.eval hx, Op.unary]
theorem det_neg {t : TypeId} {x : Operand} {k : IntKind} {m : Int} (hx : Env.ev env x = some (.int k m)) : Det c F own env ⟨d, .unOp .neg t x, ty, ps, af, g⟩ (.int k (k.wrap (0 - m))) :=
  det_of fun a ha w _ => by simp [execOp, ha.eval hx, Op.unary, Op.intArith]
theorem det_negI {t : TypeId} {x : Operand} {m : Int} (hx : Env.ev env x = some (.int .i64 m)) (h : -9223372036854775807 ≤ m ∧ m ≤ 9223372036854775807) : Det c F own env ⟨d, .unOp .neg t x, ty, ps, af, g⟩ (.int .i64 (-m)) := by
  have := det_neg (c := c) (F := F) (own := own) (d := d) (t := t) (ty := ty) (ps := ps) (af := af) (g := g) hx
  rwa [wrap_in (by omega) (by omega), Int.zero_sub] at this
theorem det_compl {t : TypeId} {x : Operand} {k : IntKind} {m : Int} (hx : Env.ev env x = some (.int k m)) : Det c F own env ⟨d, .unOp .xor t x, ty, ps, af, g⟩ (.int k (bitsOf .xor k (if k.signed then -1 else k.max) m)) :=
  det_of fun a ha w _ => by simp [execOp, ha.eval hx, Op.unary, Op.intBits, bitsOf]

theorem det_conv {t u : TypeId} {x : Operand} {k k' : IntKind} {m : Int} {td : TypeDesc} (ht : c.P.underlying t = some td) (hu : c.P.underlying u = some (.int k)) (hx : Env.ev env x = some (.int k' m)) :
    Det c F own env ⟨d, .convert t u x, ty, ps, af, g⟩ (.int k (k.wrap m)) :=
  det_of fun a ha w _ => by simp [execOp, ha.eval hx, convert, run_underlying ht, run_underlying hu, Conv.intToInt]
theorem det_convI {t u : TypeId} {x : Operand} {k' : IntKind} {m : Int} {td : TypeDesc} (ht : c.P.underlying t = some td) (hu : c.P.underlying u = some (.int .i64)) (hx : Env.ev env x = some (.int k' m)) (h : -9223372036854775808 ≤ m ∧ m ≤ 9223372036854775807) :
    Det c F own env ⟨d, .convert t u x, ty, ps, af, g⟩ (.int .i64 m) := by
  have := det_conv (c := c) (F := F) (own := own) (d := d) (ty := ty) (ps := ps) (af := af) (g := g) ht hu hx
  rwa [wrap_in h.1 h.2] at this

/-! ### Values of several cells -/

def nthV : List Value → Nat → Option Value
  | [], _ => none
  | v :: _, 0 => some v
  | _ :: r, n + 1 => nthV r n

theorem nthV_eq (l : List Value) (n : Nat) : nthV l n = l[n]? := by
  induction l generalizing n with
  | nil => simp [nthV]
  | cons v r ih => cases n <;> simp [nthV, ih]

/-- Some cells in a row, written out. -/
def takeV : Nat → List Value → (List Value → Option (List Value)) → Option (List Value)
  | 0, _, k => k []
  | _ + 1, [], _ => none
  | n + 1, v :: r, k => takeV n r fun s => k (v :: s)
def dropV : Nat → List Value → List Value
  | 0, l => l
  | _ + 1, [] => []
  | n + 1, _ :: r => dropV n r
def cutV (off n : Nat) (l : List Value) : Option (List Value) := takeV n (dropV off l) some

theorem takeV_some {n : Nat} {l : List Value} {k : List Value → Option (List Value)} {r : List Value} (h : takeV n l k = some r) : n ≤ l.length ∧ k (l.take n) = some r := by
  induction n generalizing l k with
  | zero => exact ⟨Nat.zero_le _, by simpa [takeV] using h⟩
  | succ n ih =>
    cases l with
    | nil => simp [takeV] at h
    | cons v l =>
      simp only [takeV] at h
      obtain ⟨h1, h2⟩ := ih h
      exact ⟨by simp; omega, by simpa using h2⟩
theorem dropV_eq (n : Nat) (l : List Value) : dropV n l = l.drop n := by
  induction n generalizing l with
  | zero => rfl
  | succ n ih => cases l <;> simp [dropV, ih]
theorem cutV_some {off n : Nat} {l r : List Value} (h : cutV off n l = some r) : off + n ≤ l.length ∨ n = 0 := by
  obtain ⟨h1, _⟩ := takeV_some h
  rw [dropV_eq, List.length_drop] at h1
  omega
theorem cutV_eq {off n : Nat} {l r : List Value} (h : cutV off n l = some r) : r = (l.drop off).take n := by
  obtain ⟨_, h2⟩ := takeV_some h
  rw [dropV_eq] at h2
  simpa using h2.symm
theorem cutV_get {off n : Nat} {l r : List Value} (h : cutV off n l = some r) {i : Nat} (hi : i < n) : l[off + i]? = r[i]? ∧ r.length = n := by
  have h1 := cutV_some h
  rw [cutV_eq h]
  constructor
  · rw [List.getElem?_take_of_lt hi, List.getElem?_drop]
  · simp; omega

/-- Cells written over, written out. -/
def setV : Nat → List Value → List Value → (List Value → Option (List Value)) → Option (List Value)
  | 0, [], l, k => k l
  | 0, v :: vs, _ :: l, k => setV 0 vs l fun s => k (v :: s)
  | 0, _ :: _, [], _ => none
  | n + 1, vs, u :: l, k => setV n vs l fun s => k (u :: s)
  | _ + 1, _, [], _ => none

def splice (l : List Value) (off : Nat) (vs : List Value) : List Value := l.take off ++ (vs ++ l.drop (off + vs.length))

theorem setV_some : ∀ {off : Nat} {vs l : List Value} {k : List Value → Option (List Value)} {r : List Value}, setV off vs l k = some r → off + vs.length ≤ l.length ∧ k (splice l off vs) = some r := by
  intro off
  induction off with
  | zero =>
    intro vs
    induction vs with
    | nil => intro l k r h; exact ⟨by simp, by simpa [setV, splice] using h⟩
    | cons v vs ih =>
      intro l k r h
      cases l with
      | nil => simp [setV] at h
      | cons u l =>
        simp only [setV] at h
        obtain ⟨h1, h2⟩ := ih h
        exact ⟨by simp at h1 ⊢; omega, by simpa [splice] using h2⟩
  | succ n ih =>
    intro vs l k r h
    cases l with
    | nil => cases vs <;> simp [setV] at h
    | cons u l =>
      have h' : setV n vs l (fun s => k (u :: s)) = some r := by cases vs <;> simpa [setV] using h
      obtain ⟨h1, h2⟩ := ih h'
      refine ⟨by simp; omega, ?_⟩
      have e : splice (u :: l) (n + 1) vs = u :: splice l n vs := by
        simp only [splice, List.take_succ_cons, List.cons_append]
        rw [show n + 1 + vs.length = (n + vs.length) + 1 by omega, List.drop_succ_cons]
      rw [e]; exact h2

/-- A type of one cell; a type of several. -/
structure TOne (P : Program) (t : TypeId) : Prop where
  agg : ∀ w, (isAgg t).run P w = .ok false w
  size : ∀ w, (sizeOf t).run P w = .ok 1 w
structure TAgg (P : Program) (t : TypeId) (n : Nat) : Prop where
  agg : ∀ w, (isAgg t).run P w = .ok true w
  size : ∀ w, (sizeOf t).run P w = .ok n w

theorem det_extract {x : Operand} {i : Nat} {vs : List Value} {v : Value} (hx : Env.ev env x = some (.tuple vs.toArray)) (hv : nthV vs i = some v) : Det c F own env ⟨d, .extract x i, ty, ps, af, g⟩ v :=
  det_of fun a ha w _ => by
    rw [nthV_eq] at hv
    simp [execOp, ha.eval hx, Instr.extract, hv]

theorem run_part_one {P : Program} {t : TypeId} {cs : List Value} {off : Nat} {v : Value} {w : World} (ht : TOne P t) (hv : nthV cs off = some v) : (part t cs.toArray off).run P w = .ok v w := by
  rw [nthV_eq] at hv
  simp [part, ht.agg, hv]
theorem run_part_agg {P : Program} {t : TypeId} {cs r : List Value} {off n : Nat} {w : World} (ht : TAgg P t n) (hv : cutV off n cs = some r) : (part t cs.toArray off).run P w = .ok (.agg r.toArray) w := by
  have e : (cs.drop off).take n = r := (cutV_eq hv).symm
  simp [part, ht.agg, ht.size, e]

/-- A field of a struct: its type and place. -/
structure FieldAt (P : Program) (t : TypeId) (i : Nat) (u : TypeId) (off : Nat) : Prop where
  run : ∀ cs w, (Instr.field t (.agg cs) i).run P w = (part u cs off).run P w
  addr : ∀ a w, (Instr.fieldAt t (.pointer (some a)) i).run P w = .ok (.pointer (some (a.add off))) w

theorem det_field1 {t u : TypeId} {i off : Nat} {x : Operand} {cs : List Value} {v : Value} (hf : FieldAt c.P t i u off) (hu : TOne c.P u) (hx : Env.ev env x = some (.agg cs.toArray)) (hv : nthV cs off = some v) :
    Det c F own env ⟨d, .field t x i, ty, ps, af, g⟩ v :=
  det_of fun a ha w _ => by simp [execOp, ha.eval hx, hf.run, run_part_one hu hv]
theorem det_fieldN {t u : TypeId} {i off n : Nat} {x : Operand} {cs r : List Value} (hf : FieldAt c.P t i u off) (hu : TAgg c.P u n) (hx : Env.ev env x = some (.agg cs.toArray)) (hv : cutV off n cs = some r) :
    Det c F own env ⟨d, .field t x i, ty, ps, af, g⟩ (.agg r.toArray) :=
  det_of fun a ha w _ => by simp [execOp, ha.eval hx, hf.run, run_part_agg hu hv]

theorem det_fieldAddr {t u : TypeId} {i off : Nat} {x : Operand} {A : Addr} (hf : FieldAt c.P t i u off) (hx : Env.ev env x = some (.pointer (some A))) :
    Det c F own env ⟨d, .fieldAddr t x i, ty, ps, af, g⟩ (.pointer (some (A.add off))) :=
  det_of fun a ha w _ => by simp [execOp, ha.eval hx, hf.addr]

structure ArrayOf (P : Program) (t : TypeId) (len : Nat) (e : TypeId) (sz : Nat) : Prop where
  ud : P.underlying t = some (.array len e)
  size : ∀ w, (sizeOf e).run P w = .ok sz w

theorem det_index1 {t e : TypeId} {len : Nat} {x y : Operand} {cs : List Value} {k : IntKind} {i : Int} {v : Value} (ht : ArrayOf c.P t len e 1) (he : TOne c.P e) (hx : Env.ev env x = some (.agg cs.toArray)) (hy : Env.ev env y = some (.int k i))
    (hi : 0 ≤ i ∧ i < len) (hv : nthV cs i.toNat = some v) : Det c F own env ⟨d, .index t x y, ty, ps, af, g⟩ v :=
  det_of fun a ha w _ => by
    simp [execOp, ha.eval hx, ha.eval hy, Instr.index, asIntOf, run_underlying ht.ud, hi, ht.size, run_part_one he hv]
theorem det_indexN {t e : TypeId} {len n : Nat} {x y : Operand} {cs r : List Value} {k : IntKind} {i : Int} (ht : ArrayOf c.P t len e n) (he : TAgg c.P e n) (hx : Env.ev env x = some (.agg cs.toArray)) (hy : Env.ev env y = some (.int k i))
    (hi : 0 ≤ i ∧ i < len) (hv : cutV (i.toNat * n) n cs = some r) : Det c F own env ⟨d, .index t x y, ty, ps, af, g⟩ (.agg r.toArray) :=
  det_of fun a ha w _ => by
    simp [execOp, ha.eval hx, ha.eval hy, Instr.index, asIntOf, run_underlying ht.ud, hi, ht.size, run_part_agg he hv]

/-- A literal of a struct or an array: what it builds is shown. -/
theorem det_build {t : TypeId} {parts : List (Nat × Operand)} {vs : List (Nat × Value)} {v : Value} (hp : parts.mapM (fun p => (Env.ev env p.2).map fun u => (p.1, u)) = some vs)
    (h : ∀ w, (Instr.build t vs.toArray).run c.P w = .ok v w) : Det c F own env ⟨d, .build t parts.toArray, ty, ps, af, g⟩ v :=
  det_of fun a ha w _ => by
    have e : (parts.toArray.map fun (p : Nat × Operand) => (p.1, a.eval p.2)) = vs.toArray := by
      rw [List.map_toArray]
      congr 1
      clear h
      induction parts generalizing vs with
      | nil => simp at hp; simp [hp]
      | cons p r ih =>
        simp only [List.mapM_cons, Option.bind_eq_bind, Option.bind_eq_some_iff, Option.map_eq_some_iff, Option.pure_def, Option.some.injEq] at hp
        obtain ⟨x, ⟨u, hu, rfl⟩, r', hr', rfl⟩ := hp
        simp [ih hr', ha.eval hu]
    simp only [execOp]
    rw [show (fun (x : Nat × Operand) => match x with | (i, x) => (i, a.eval x)) = fun (p : Nat × Operand) => (p.1, a.eval p.2) from rfl, e]
    simp [h]
end
end Go.Eng
