/-
  Choosing a queue, in plain terms: the search through the classes.
-/
import Derived.Test.YtffocfffggfenaaChPlain4ToChPlain5
namespace Go.Ch
open Go Go.Eng Go.Gt Go.Proofs.Gt Go.Sw Go.Qu
theorem find_at {p : Int → Bool} : ∀ (xs : List Int) (k : Nat), k < xs.length → (∀ i, i < k → p (xs.getD i 0) = false) → p (xs.getD k 0) = true → xs.find? p = some (xs.getD k 0)
  | [], k, hk, _, _ => absurd hk (Nat.not_lt_zero k)
  | x :: r, 0, _, _, h1 => by
    simp at h1
    simp [List.find?_cons, h1]
  | x :: r, k + 1, hk, h, h1 => by
    have h0 := h 0 (by omega)
    simp at h0
    rw [List.find?_cons, h0]
    exact find_at r k (by simpa using hk) (fun i hi => by simpa using h (i + 1) (by omega)) (by simpa using h1)
theorem find_not {p : Int → Bool} {xs : List Int} (h : ∀ i, i < xs.length → p (xs.getD i 0) = false) : xs.find? p = none := by
  rw [List.find?_eq_none]
  intro x hx
  obtain ⟨i, hi, rfl⟩ := List.getElem_of_mem hx
  have := h i hi
  simp [hi] at this
  simp [this]
theorem start_some {l : Ln} {hs : List Pt} {t : Int} {k : Nat} (hk : k < (classL hs).length) (h : ∀ i, i < k → fitC l hs ((classL hs).getD i 0) t = false) (h1 : fitC l hs ((classL hs).getD k 0) t = true) : startL l hs t = some ((classL hs).getD k 0) :=
  find_at (classL hs) k hk h h1
theorem start_none {l : Ln} {hs : List Pt} {t : Int} (h : ∀ i, i < (classL hs).length → fitC l hs ((classL hs).getD i 0) t = false) : startL l hs t = none := find_not h
theorem class_at {hs : List Pt} {k : Nat} (hk : k < (classL hs).length) : (0 ≤ (classL hs).getD k 0 ∧ (classL hs).getD k 0 ≤ 7) ∧ waitC hs ((classL hs).getD k 0) = true := by
  refine classL_rng ?_
  rw [List.getD_eq_getElem?_getD, List.getElem?_eq_getElem hk]
  exact List.getElem_mem hk
theorem startL_rng {l : Ln} {hs : List Pt} {t c : Int} (h : startL l hs t = some c) : (0 ≤ c ∧ c ≤ 7) ∧ waitC hs c = true ∧ fitC l hs c t = true := by
  have h1 := List.mem_of_find?_eq_some h
  have h2 := List.find?_some h
  exact ⟨(classL_rng h1).1, (classL_rng h1).2, h2⟩
end Go.Ch
