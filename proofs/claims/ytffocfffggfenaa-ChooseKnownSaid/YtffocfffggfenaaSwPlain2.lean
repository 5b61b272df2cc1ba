/-
  Stretches as they are yielded.
-/
import Derived.Test.YtffocfffggfenaaGtPlain2ToChPlain
import Derived.Test.YtffocfffggfenaaEng23ToEng25
namespace Go.Sw
open Go Go.Eng Go.Gt Go.Proofs.Gt
theorem drop_head {α : Type} {l r : List α} {i : Nat} {a : α} (h : l.drop i = a :: r) : ∃ hi : i < l.length, l[i] = a ∧ l.drop (i + 1) = r := by
  have hi : i < l.length := by
    rcases Nat.lt_or_ge i l.length with h' | h'
    · exact h'
    · rw [List.drop_eq_nil_of_le h'] at h; cases h
  rw [List.drop_eq_getElem_cons hi] at h
  injection h with h1 h2
  exact ⟨hi, h1, h2⟩
theorem drop_nil {α : Type} {l : List α} {i : Nat} (h : l.drop i = []) (hi : i ≤ l.length) : i = l.length := by
  have := List.drop_eq_nil_iff.1 h
  omega
theorem ch_cells {F : Know} {c : Ch} {q : Nat} (h : ∀ j, j < 7 → F ((⟨q, 0, none⟩ : Addr).add j) = (chv c)[j]?) (o n : Nat) (vs : List Value) (hn : o + n ≤ 7) (hv : ∀ j, j < n → (chv c)[o + j]? = vs[j]?) : ∀ j, j < n → F (((⟨q, 0, none⟩ : Addr).add o).add j) = vs[j]? := by
  intro j hj
  rw [add_add, h (o + j) (by omega)]
  exact hv j hj
theorem ch_cell {F : Know} {c : Ch} {q : Nat} (h : ∀ j, j < 7 → F ((⟨q, 0, none⟩ : Addr).add j) = (chv c)[j]?) (o : Nat) (ho : o < 7) {u : Value} (hv : (chv c)[o]? = some u) : F ((⟨q, 0, none⟩ : Addr).add o) = some u := by
  rw [h o ho, hv]
theorem at2 {P : Nat → Prop} (h0 : P 0) (h1 : P 1) : ∀ j, j < 2 → P j := fun j hj => by
  match j, hj with
  | 0, _ => exact h0
  | 1, _ => exact h1
theorem next_some {c : Ch} {e x lo u en b : Int} {g : Gl} (h1 : glC c x = g) (h2 : begC c x = b) (h3 : endC c e x = en) (h4 : (x - b) % g.cyc = lo) (h5 : turnE g.es g.cyc lo = some u) : nextC c e x = min en (x + u - lo) := by
  subst h1 h2 h3 h4; unfold nextC; rw [h5]
theorem next_none {c : Ch} {e x lo en b : Int} {g : Gl} (h1 : glC c x = g) (h2 : begC c x = b) (h3 : endC c e x = en) (h4 : (x - b) % g.cyc = lo) (h5 : turnE g.es g.cyc lo = none) : nextC c e x = en := by
  subst h1 h2 h3 h4; unfold nextC; rw [h5]
theorem at_lo {c : Ch} {x lo b : Int} {g : Gl} (h1 : glC c x = g) (h2 : begC c x = b) (h4 : (x - b) % g.cyc = lo) : stateE g.es g.cyc lo = atC c x := by
  subst h1 h2 h4; rw [state_mod, atC_gl]
theorem stW_one {c : Ch} (h : OkC c) (t : Int) : stW c (t + 1) t = [atC c t] := by
  have hx : t < t + 1 := by omega
  have hn := next_facts h hx
  rw [stW_more h hx, stW_end c (by omega)]
end Go.Sw
