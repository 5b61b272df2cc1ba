/-
  Lists of counters that are written out.
-/
import Derived.Test.YtlnnoghneciocaaSqW6
namespace Go.Proofs.Sq
open Go Go.Eng Go.Sq
theorem ck_lit {F' : Know} {p : Nat} {cs : List Value} (l : List Ct) (hK : ∀ k u, cs[k]? = some u → F' ⟨p, k, none⟩ = some u) (e : cs = rowsV ctv l) : CK F' (some ⟨p, 0, none⟩) l.length l :=
  rowsK_of ctv_len (by decide) (fun j u hj => ⟨_, rfl, by rw [add_mk, Nat.zero_add]; exact hK j u (by rw [e]; exact hj)⟩) rfl
variable {w : World} {F : Know} {A : Option Addr} {n c : Nat} {l : List Ct}
theorem check_at (hF : ∀ a v, F a = some v → w.cell? a = some v) (hP : CK F A n l) {er : Int} (e : (if okL l then 0 else 490) = er) : Pure Try.prog 19 [.slice A n c] w (.int .i64 er) := by
  rw [← e]; exact check_ok hF hP
theorem equal_at (hF : ∀ a v, F a = some v → w.cell? a = some v) {B : Option Addr} {m d : Nat} {q : List Ct} (hP : CK F A n l) (hQ : CK F B m q) (hnb : n ≤ 65536) {b : Bool} (e : decide (l = q) = b) : Pure Try.prog 24 [.slice A n c, .slice B m d] w (.bool b) := by
  rw [← e]; exact equal_ok hF hP hQ hnb
theorem next_len {t : Int} {l2 : List Ct} {q er : Int} (he : nextL l t = ((l2, q), er)) : l2.length ≤ 12 := by
  unfold nextL at he
  split at he
  · cases he; simp
  rename_i h1
  have hl : l.length ≤ 12 := (okL_iff.1 (by simpa using h1)).1
  split at he
  · cases he; simp
  split at he
  · rename_i h2
    cases he
    simp only [List.length_append, List.length_take, List.length_cons, List.length_drop]
    omega
  split at he
  · cases he; simp
  · cases he
    simp only [List.length_append, List.length_take, List.length_cons, List.length_drop]
    have := fstI_le l t
    omega
theorem delta_at (hF : ∀ a v, F a = some v → w.cell? a = some v) {a b : Int} {q er : Int} (e : (if okN a && okN b then (delta a b, (0 : Int)) else (0, 2)) = (q, er)) : Pure Try.prog 10 [.int .i64 a, .int .i64 b] w (.tuple [.int .i64 q, .int .i64 er].toArray) := by
  have := delta_ok hF (a := a) (b := b)
  cases h : okN a && okN b <;> simp [h] at this e <;> cases e.1 <;> cases e.2 <;> exact this
theorem after_at (hF : ∀ a v, F a = some v → w.cell? a = some v) {a b : Int} {q er : Int} (e : (if okN a then (aft a b, (0 : Int)) else (0, 2)) = (q, er)) : Pure Try.prog 11 [.int .i64 a, .int .i64 b] w (.tuple [.int .i64 q, .int .i64 er].toArray) := by
  have := aft_ok hF (a := a) (d := b)
  cases h : okN a <;> simp [h] at this e <;> cases e.1 <;> cases e.2 <;> exact this
end Go.Proofs.Sq
