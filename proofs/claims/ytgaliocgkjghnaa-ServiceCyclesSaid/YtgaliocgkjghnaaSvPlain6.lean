/-
  Slices of openings that grow, and that are read.
-/
import Derived.Test.YtgaliocgkjghnaaSvPlain5
import Derived.Test.YtgaliocgkjghnaaEng26
namespace Go.Sv
open Go Go.Eng Go.Gt Go.Proofs.Gt Go.Sw
structure GS where
  n : Nat
  A : Option Addr
  cp : Nat
  b : Own
structure KS where
  j : Nat
  A : Option Addr
  cp : Nat
  b0 : Own
  b : Own
theorem rows_takeR {l : List (Int × Int)} {k : Nat} (h : k < l.length) : rowsV o2 (l.take (k + 1)) = rowsV o2 (l.take k) ++ o2 (atR l k) := by
  rw [List.take_succ_eq_append_getElem h, rowsV_app, rowsV_one, atR_get h]
theorem rows_dbl {cyc : Int} {l : List (Int × Int)} {k : Nat} (h : k < l.length) : rowsV o2 (l ++ (shl cyc l).take (k + 1)) = rowsV o2 (l ++ (shl cyc l).take k) ++ [.int .i64 ((atR l k).1 + cyc), .int .i64 ((atR l k).2 + cyc)] := by
  have h2 : k < (shl cyc l).length := by unfold shl; simpa using h
  rw [List.take_succ_eq_append_getElem h2, ← List.append_assoc, rowsV_app (ys := [_]), rowsV_one, atR_get h]
  congr 1
  simp only [shl, List.getElem_map]; rfl
theorem lies_some {b : Own} {A : Option Addr} {l : List (Int × Int)} (h : Lies b A (rowsV o2 l)) {c : Cx} {F : Know} {own : Own} {w : World} (hs : Sat c F own w) (hb : ∀ x ∈ b, x ∈ own) {j : Nat} (hj : j < l.length) : ∃ a, A = some a := by
  have hl : 0 < (rowsV o2 l).length := by rw [rowsV_len o2_len]; omega
  obtain ⟨a, ha, _⟩ := h c F own w hs hb 0 _ (List.getElem?_eq_getElem hl)
  exact ⟨a, ha⟩
theorem lies_row {b : Own} {a : Addr} {l : List (Int × Int)} (h : Lies b (some a) (rowsV o2 l)) {c : Cx} {F : Know} {own : Own} {w : World} (hs : Sat c F own w) (hb : ∀ x ∈ b, x ∈ own) {j : Nat} (hj : j < l.length) : ∀ i, i < 2 → w.cell? ((a.add (((j : Int)).toNat * 2)).add i) = (o2 (atR l j))[i]? := by
  intro i hi
  have hl : i < (o2 (atR l j)).length := by rw [o2_len]; exact hi
  have e1 : (o2 (atR l j))[i]? = some (o2 (atR l j))[i] := List.getElem?_eq_getElem hl
  rw [e1]
  obtain ⟨a', ha, h2⟩ := h c F own w hs hb _ _ (rowsV_get (enc := o2) (sz := 2) o2_len l j (atR l j) i _ (by rw [atR_get hj]; exact List.getElem?_eq_getElem hj) e1)
  cases ha
  rw [add_add, show ((j : Int)).toNat = j by omega]
  exact h2
theorem slo_some {T : TypeId} {A : Option Addr} {n cp : Nat} {xs : List Value} {b : Own} (hS : SlO T 2 (.slice A n cp) n xs b) (hn : 0 < n) : ∃ a, A = some a := by
  rcases hS.2 with ⟨_, h0, _⟩ | ⟨p, cap, rest, hv, _⟩
  · omega
  · cases hv; exact ⟨_, rfl⟩
end Go.Sv
