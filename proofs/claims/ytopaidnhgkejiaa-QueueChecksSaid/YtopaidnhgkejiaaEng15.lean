/-
  The engine, part 15: ways that meet again behind a region.
-/
import Derived.Test.YtopaidnhgkejiaaEng14
namespace Go.Eng
open Go
section
variable {c : Cx} {env : Env} {F : Know} {own : Own} {Q : Exit → Act → World → Prop}
/-- A region whose ways all come to the same: the slot t holds v, what stood in env0 stands. -/
theorem t_merge {x : Code} {env0 : Env} (he : Env.sub env0 env) (t : Nat) (v : Value) (h1 : TK c ((t, v) :: env0) F own (Q .normal)) (h2 : TK c ((t, v) :: env0) F own (Q .normal) → T c env F own x Q) : T c env F own x Q := h2 h1
theorem mb {t : Nat} {e X : Bool} (h : Env.get env t = some (.bool e)) (he : e = X) : Env.get env t = some (.bool X) := by rw [← he]; exact h
theorem mi {t : Nat} {k : IntKind} {e X : Int} (h : Env.get env t = some (.int k e)) (he : e = X) : Env.get env t = some (.int k X) := by rw [← he]; exact h
end
end Go.Eng
