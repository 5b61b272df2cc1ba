/-
  Times in a row.
-/
import Derived.Test.YtgaliocgkjghnaaSwFacts
import Derived.Test.YtgaliocgkjghnaaGtPlain6ToSwPlain
import Derived.Test.YtgaliocgkjghnaaEng23ToEng25
import Derived.Test.YtgaliocgkjghnaaEng4ToEng10
namespace Go.Proofs.Sw
open Go Go.Eng Go.Gt Go.Sw
/-- What is known of a row of integers, whatever they are. -/
structure IntsA (F : Know) (A : Option Addr) (n : Nat) (xs : List Int) : Prop where
  len : n = xs.length
  at_ : ∀ (i : Nat) (x : Int), xs[i]? = some x → ∃ a, A = some a ∧ F (a.add i) = some (.int .i64 x)
theorem IntsA.some {F : Know} {A : Option Addr} {n : Nat} {xs : List Int} (h : IntsA F A n xs) {i : Nat} (hi : i < xs.length) : ∃ a, A = Option.some a := by
  obtain ⟨a, ha, _⟩ := h.at_ i xs[i] (List.getElem?_eq_getElem hi)
  exact ⟨a, ha⟩
theorem IntsA.cell {F : Know} {a : Addr} {n : Nat} {xs : List Int} (h : IntsA F (Option.some a) n xs) {i : Int} {k : Nat} (hk : i.toNat = k) (hi : k < xs.length) : F (a.add (i.toNat * 1)) = Option.some (.int .i64 xs[k]) := by
  obtain ⟨b, hb, h1⟩ := h.at_ k xs[k] (List.getElem?_eq_getElem hi)
  cases hb
  rw [Nat.mul_one, hk]; exact h1
theorem IntsA.mono {F F' : Know} {A : Option Addr} {n : Nat} {xs : List Int} (h : IntsA F A n xs) (hF : ∀ a v, F a = Option.some v → F' a = Option.some v) : IntsA F' A n xs :=
  ⟨h.len, fun i e he => by obtain ⟨a, h1, h2⟩ := h.at_ i e he; exact ⟨a, h1, hF _ _ h2⟩⟩
theorem intsA_lit {xs : List Int} {F' : Know} {p : Nat} (hF : ∀ k u, (xs.map (Value.int .i64))[k]? = some u → F' ⟨p, k, none⟩ = some u) : IntsA F' (Option.some ⟨p, 0, none⟩) xs.length xs :=
  ⟨rfl, fun i x hx => ⟨_, rfl, by rw [add_mk, Nat.zero_add]; exact hF i _ (by simp [hx])⟩⟩
end Go.Proofs.Sw
