/-
  The engine, part 9: what is known of slices of numbers.
-/
import Derived.Test.YtichjhggoioenaaEng8
namespace Go.Eng
open Go
/-- What is known of a slice of numbers of a kind. -/
structure IntsK (F : Know) (kd : IntKind) (A : Option Addr) (n : Nat) (xs : List Int) : Prop where
  len : n = xs.length
  at_ : ∀ (i : Nat) (x : Int), xs[i]? = some x → ∃ a, A = some a ∧ F (a.add i) = some (.int kd x)
  rng : ∀ (i : Nat) (h : i < xs.length), kd.min ≤ xs[i] ∧ xs[i] ≤ kd.max

theorem IntsK.some {F : Know} {kd : IntKind} {A : Option Addr} {n : Nat} {xs : List Int} (h : IntsK F kd A n xs) {i : Nat} (hi : i < xs.length) : ∃ a, A = Option.some a := by
  obtain ⟨a, ha, _⟩ := h.at_ i xs[i] (List.getElem?_eq_getElem hi)
  exact ⟨a, ha⟩
theorem IntsK.cell {F : Know} {kd : IntKind} {a : Addr} {n : Nat} {xs : List Int} (h : IntsK F kd (Option.some a) n xs) {i : Int} (_h0 : 0 ≤ i) (hi : i.toNat < xs.length) : F (a.add (i.toNat * 1)) = Option.some (.int kd xs[i.toNat]) := by
  obtain ⟨b, hb, h1⟩ := h.at_ i.toNat xs[i.toNat] (List.getElem?_eq_getElem hi)
  cases hb
  rw [Nat.mul_one]; exact h1
theorem IntsK.mono {F F' : Know} {kd : IntKind} {A : Option Addr} {n : Nat} {xs : List Int} (h : IntsK F kd A n xs) (hF : ∀ a v, F a = Option.some v → F' a = Option.some v) : IntsK F' kd A n xs :=
  ⟨h.len, fun i e he => by obtain ⟨a, h1, h2⟩ := h.at_ i e he; exact ⟨a, h1, hF _ _ h2⟩, h.rng⟩
end Go.Eng
