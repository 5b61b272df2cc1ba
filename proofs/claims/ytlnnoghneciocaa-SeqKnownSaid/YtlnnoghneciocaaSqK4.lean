/-
  The full list of the examples.
-/
import Derived.Test.YtlnnoghneciocaaEng19
import Derived.Test.YtlnnoghneciocaaSqK3
namespace Go.Sq
open Go Go.Eng
def fk (k : Nat) : List Ct := (List.range k).map fun (i : Nat) => ⟨4084 + (i : Int), i⟩
theorem fk_len (k : Nat) : (fk k).length = k := by simp [fk]
theorem fk_succ (k : Nat) : fk (k + 1) = fk k ++ [⟨4084 + (k : Int), k⟩] := by simp [fk, List.range_succ]
theorem ck_lies {c : Cx} {F : Know} {own b : Own} {w : World} {A : Option Addr} {l : List Ct} (h : Lies b A (rowsV ctv l)) (hs : Sat c F own w) (hb : ∀ x ∈ b, x ∈ own) {n : Nat} (hn : n = l.length) : CK (fun a => w.cell? a) A n l :=
  rowsK_of ctv_len (by decide) (fun j u hj => h c F own w hs hb j u hj) hn
theorem fk_ends : rowsV ctv (fk 12) ++ ctv ⟨4096, 0⟩ = rowsV ctv (fk 12 ++ [⟨4096, 0⟩]) := by rw [rowsV_app, rowsV_one]
end Go.Sq
