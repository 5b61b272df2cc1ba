/-
  The engine, part 27: an append of nothing to an empty slice.
-/
import Derived.Test.YtffocfffggfenaaEng26
namespace Go.Eng
open Go
section
variable {c : Cx} {env : Env} {F : Know} {own : Own} {d : Option Tmp} {ty : TypeId} {ps : String} {af : Array Edge} {g : Option (Nat × Bool)}
theorem det_appZ {s x : Operand} {T e : TypeId} {size bytes p m cp : Nat} {A : Option Addr} (hm : m = 0) (hT : AppT c.P T e size bytes) (hv : Env.ev env s = some (.slice (some ⟨p, 0, none⟩) 0 0)) (hx : Env.ev env x = some (.slice A m cp)) :
    Det c F own env ⟨d, .call { callee := .builtin .append, args := #[s, x], argTypes := #[T, T] }, ty, ps, af, g⟩ (.slice (some ⟨p, 0, none⟩) 0 0) :=
  det_of fun a ha w _ => by
    subst hm
    obtain ⟨i, z, hi, hz, hsz, hby, hzs⟩ := hT.el
    have hl0 : (Builtin.lenOf (.slice A 0 cp)).run c.P w = .ok 0 w := by simp [Builtin.lenOf]
    have hf : (Builtin.firstCells i.size 0 (.slice A 0 cp)).run c.P w = .ok #[] w := by
      cases A with
      | none => simp [Builtin.firstCells]
      | some a => simp [Builtin.firstCells, loadCells, loadCellsFrom]
    have hr : (Builtin.append_ #[T, T] ty #[.slice (some ⟨p, 0, none⟩) 0 0, .slice A 0 cp]).run c.P w = .ok (.slice (some ⟨p, 0, none⟩) 0 0) w := by
      simp [Builtin.append_, run_underlying hT.ud, sizeOf, typeInfo, hi, hl0, hf, Addr.add_lit, storeCells]
    exact run_builtin fun cs => by simp [builtin, ha.eval hv, ha.eval hx, hr]
end
end Go.Eng
