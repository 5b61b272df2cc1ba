/-
  Copies of a frame; the ways of a growing slice through a round.
-/
import Derived.Test.YtlnnoghneciocaaEng17
import Derived.Test.YtlnnoghneciocaaSqPlain
namespace Go.Sq
open Go Go.Eng
theorem atC_ext {l m : List Ct} (hl : l.length = m.length) (h : ∀ i, i < l.length → atC l i = atC m i) : l = m := by
  apply List.ext_getElem hl
  intro i h1 h2
  have := h i h1
  rwa [atC_get h1, atC_get h2] at this
/-- A frame. -/
structure It where
  st : Int
  sq : Int
  cl : Int
  sz : Int
  sn : Int
def itv (x : It) : List Value := [.int .i64 x.st, .int .i64 x.sq, .int .i64 x.cl, .int .i64 x.sz, .int .i64 x.sn]
theorem itv_len (x : It) : (itv x).length = 5 := rfl
/-- A route's header. -/
structure Rt where
  B : Option Addr
  n : Nat
  c : Nat
def rtV (r : Rt) : Value := .slice r.B r.n r.c
def rtv (r : Rt) : List Value := [rtV r]
theorem rtv_len (r : Rt) : (rtv r).length = 1 := rfl
abbrev TK2 (F : Know) (A : Option Addr) (n : Nat) (l : List Rt) : Prop := RowsK rtv 1 F A n l
def cpv (x : It) (r : Rt) : List Value := itv x ++ rtv r
theorem cpv_len (x : It) (r : Rt) : (cpv x r).length = 6 := rfl
def dR : Rt := ⟨none, 0, 0⟩
def atR (l : List Rt) (k : Nat) : Rt := l.getD k dR
theorem atR_get {l : List Rt} {k : Nat} (h : k < l.length) : atR l k = l[k] := by simp [atR, h]
def yldC (x : It) (l : List Rt) : List (List Value) := l.map fun r => [.agg (cpv x r).toArray]
theorem yldC_len (x : It) (l : List Rt) : (yldC x l).length = l.length := by simp [yldC]
theorem yldC_get {x : It} {l : List Rt} {k : Nat} (h : k < (yldC x l).length) : (yldC x l)[k] = [.agg (cpv x (atR l k)).toArray] := by
  rw [yldC_len] at h
  simp [yldC, atR, h]
theorem rows_takeS {x : It} {l : List Rt} {k : Nat} (h : k < l.length) : rowsV (cpv x) (l.take (k + 1)) = rowsV (cpv x) (l.take k) ++ cpv x (atR l k) := by
  rw [atR_get h, List.take_add_one, List.getElem?_eq_getElem h]
  show rowsV (cpv x) (l.take k ++ [l[k]]) = _
  rw [rowsV_app]
  simp [rowsV]
theorem cpv_one (x : It) (r : Rt) : ∀ u ∈ cpv x r, u.oneCell' = true := by
  intro u hu
  simp only [cpv, itv, rtv, List.cons_append, List.nil_append, List.mem_cons, List.not_mem_nil, or_false] at hu
  rcases hu with rfl | rfl | rfl | rfl | rfl | rfl <;> rfl
def okCp (x : It) (l : List Rt) : Bool := decide (1 ≤ x.st ∧ x.st ≤ 4095) && okN x.sq && decide (1 ≤ l.length ∧ l.length ≤ 2)
def outCp (x : It) (l : List Rt) : List Rt := if okCp x l then l else []
section
variable {c : Cx} {env : Env} {F : Know}
theorem tk_out {K : Act → World → Prop} {x y z l d : Nat × Obj} {b : Own} (h : TK c env F ([x, y, z, l, d] ++ b) K) : TK c env F ((x :: ([y, z] ++ b)) ++ [l, d]) K :=
  tk_perm (((List.perm_append_comm (l₁ := b) (l₂ := [l, d])).cons z |>.cons y).cons x) h
theorem tk_in {K : Act → World → Prop} {w x y z l d : Nat × Obj} {b : Own} (h : TK c env F (w :: (x :: ([y, z] ++ b) ++ [l, d])) K) : TK c env F ([w, x, y, z, l, d] ++ b) K :=
  tk_perm (((((List.perm_append_comm (l₁ := [l, d]) (l₂ := b)).cons z).cons y).cons x).cons w) h
end
end Go.Sq
