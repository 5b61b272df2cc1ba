/-
  What is known of gate lists in memory.
-/
import Derived.Test.YtfneficfngpnjaaGtPlain
import Derived.Test.YtfneficfngpnjaaEng8
namespace Go.Proofs.Gt
open Go Go.Eng Go.Gt
/-- What is known of a list of entries. -/
structure EntK (F : Know) (A : Option Addr) (n : Nat) (es : Ents) : Prop where
  len : n = es.length
  at_ : ∀ (i : Nat) (e : Int × Int), es[i]? = some e → ∃ a, A = some a ∧ F (a.add (i * 2)) = some (.int .i64 e.1) ∧ F (a.add (i * 2 + 1)) = some (.int .i64 e.2)
  rng : ∀ (i : Nat) (h : i < es.length), -9223372036854775808 ≤ es[i].1 ∧ es[i].1 ≤ 9223372036854775807 ∧ -9223372036854775808 ≤ es[i].2 ∧ es[i].2 ≤ 9223372036854775807

theorem EntK.some {F : Know} {A : Option Addr} {n : Nat} {es : Ents} (h : EntK F A n es) {i : Nat} (hi : i < es.length) : ∃ a, A = Option.some a := by
  obtain ⟨a, ha, _⟩ := h.at_ i es[i] (List.getElem?_eq_getElem hi)
  exact ⟨a, ha⟩
theorem EntK.cells {F : Know} {a : Addr} {n : Nat} {es : Ents} (h : EntK F (Option.some a) n es) {i : Nat} (hi : i < es.length) : ∀ j, j < 2 → F ((a.add (((i : Int)).toNat * 2)).add j) = [Value.int .i64 es[i].1, .int .i64 es[i].2][j]? := by
  intro j hj
  obtain ⟨b, hb, h1, h2⟩ := h.at_ i es[i] (List.getElem?_eq_getElem hi)
  cases hb
  rw [add_add, show ((i : Int)).toNat = i from by omega]
  match j, hj with
  | 0, _ => simpa using h1
  | 1, _ => simpa using h2
theorem EntK.mono {F F' : Know} {A : Option Addr} {n : Nat} {es : Ents} (h : EntK F A n es) (hF : ∀ a v, F a = Option.some v → F' a = Option.some v) : EntK F' A n es :=
  ⟨h.len, fun i e he => by obtain ⟨a, h1, h2, h3⟩ := h.at_ i e he; exact ⟨a, h1, hF _ _ h2, hF _ _ h3⟩, h.rng⟩
end Go.Proofs.Gt
