/-
  The contracts at results that are known.
-/
import Derived.Test.YtichjhggoioenaaRcW10
namespace Go.Proofs.Rc
open Go Go.Eng Go.Rc
variable {w : World} {F : Know} {A : Option Addr} {n c : Nat}
theorem ik_lit {F' : Know} {p : Nat} {cs : List Value} (l : List Int) (hK : ∀ k u, cs[k]? = some u → F' ⟨p, k, none⟩ = some u) (e : cs = rowsV iv l) : RowsK iv 1 F' (some ⟨p, 0, none⟩) l.length l :=
  rowsK_of iv_len (by decide) (fun j u hj => ⟨_, rfl, by rw [add_mk, Nat.zero_add]; exact hK j u (by rw [e]; exact hj)⟩) rfl
theorem bk_lit {F' : Know} {p : Nat} {cs : List Value} (l : List Bool) (hK : ∀ k u, cs[k]? = some u → F' ⟨p, k, none⟩ = some u) (e : cs = rowsV bv l) : RowsK bv 1 F' (some ⟨p, 0, none⟩) l.length l :=
  rowsK_of bv_len (by decide) (fun j u hj => ⟨_, rfl, by rw [add_mk, Nat.zero_add]; exact hK j u (by rw [e]; exact hj)⟩) rfl
theorem lafter_at (hF : ∀ a v, F a = some v → w.cell? a = some v) {l : List Int} (hP : RowsK iv 1 F A n l) (hnb : n ≤ 1000) {r : Rc} (hok : okR r = true) (h0 : r.at_ = 0) (hl : ∀ x ∈ l, 0 ≤ x ∧ x ≤ 65535) {r2 : Rc} {bs : List Bool} (e : stK r l l.length = (r2, bs)) :
    CallsF Try.prog 21 [.agg (rcv r).toArray, .slice A n c] w noK (fun v F2 => ∃ A1 n1 c1, v = .tuple [.agg (rcv r2).toArray, .slice A1 n1 c1].toArray ∧ RowsK bv 1 F2 A1 n1 bs) := by
  have := lafter_ok (c := c) hF hP hnb hok h0 hl
  rw [e] at this
  exact this
theorem missing_at (hF : ∀ a v, F a = some v → w.cell? a = some v) {r : Rc} (hok : okR r = true) {l : List Int} (e : missL r = l) :
    CallsF Try.prog 11 [.agg (rcv r).toArray] w noK (fun v F2 => ∃ A1 n1 c1, v = .tuple [.slice A1 n1 c1, .int .i64 0].toArray ∧ RowsK iv 1 F2 A1 n1 l) := by
  have := missing_ok hF (okR_se hok)
  simp only [if_pos hok, e] at this
  exact this
theorem new_at (hF : ∀ a v, F a = some v → w.cell? a = some v) {l s : Int} {b : Bool} (e : okR (anyR l s) = b) : Pure Try.prog 16 [.int .i64 l, .int .i64 s] w (.tuple [.agg (rcv (if b then anyR l s else zR)).toArray, .int .i64 (if b then 0 else 2)].toArray) := by
  rw [← e]; exact new_ok hF
end Go.Proofs.Rc
