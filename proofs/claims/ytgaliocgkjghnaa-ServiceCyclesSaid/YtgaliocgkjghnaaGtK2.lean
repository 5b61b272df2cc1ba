/-
  Lists of entries that are being made.
-/
import Derived.Test.YtgaliocgkjghnaaGtPlainToGtK
import Derived.Test.YtgaliocgkjghnaaGtPlain2
namespace Go.Proofs.Gt
open Go Go.Eng Go.Gt
def cellsE (es : Ents) : List Value := es.flatMap fun e => [.int .i64 e.1, .int .i64 e.2]
theorem cellsE_len (es : Ents) : (cellsE es).length = es.length * 2 := by
  induction es with
  | nil => rfl
  | cons e r ih => simp [cellsE] at ih ⊢; omega
theorem cellsE_app (a b : Ents) : cellsE (a ++ b) = cellsE a ++ cellsE b := by simp [cellsE]
theorem cellsE_succ (es : Ents) (k : Nat) (h : k < es.length) : cellsE (es.take (k + 1)) = cellsE (es.take k) ++ [.int .i64 es[k].1, .int .i64 es[k].2] := by
  rw [List.take_succ_eq_append_getElem h, cellsE_app]; rfl
theorem cellsE_get : ∀ (es : Ents) (i : Nat) (e : Int × Int), es[i]? = some e → (cellsE es)[i * 2]? = some (.int .i64 e.1) ∧ (cellsE es)[i * 2 + 1]? = some (.int .i64 e.2)
  | [], i, e, h => by simp at h
  | x :: r, 0, e, h => by simp at h; subst h; simp [cellsE]
  | x :: r, i + 1, e, h => by
    have := cellsE_get r i e (by simpa using h)
    have e1 : cellsE (x :: r) = .int .i64 x.1 :: .int .i64 x.2 :: cellsE r := rfl
    rw [e1, show (i + 1) * 2 = i * 2 + 1 + 1 by omega, show i * 2 + 1 + 1 + 1 = (i * 2 + 1) + 1 + 1 by omega]
    simpa using this
theorem cellsE_one (es : Ents) : ∀ u ∈ cellsE es, u.oneCell' = true := by
  intro u hu
  simp only [cellsE, List.mem_flatMap] at hu
  obtain ⟨e, _, h⟩ := hu
  simp at h
  rcases h with rfl | rfl <;> rfl
abbrev rngE (es : Ents) : Prop := ∀ (i : Nat) (h : i < es.length), -9223372036854775808 ≤ es[i].1 ∧ es[i].1 ≤ 9223372036854775807 ∧ -9223372036854775808 ≤ es[i].2 ∧ es[i].2 ≤ 9223372036854775807
/-- Of a list that was made, what is known later. -/
theorem entK_of {es : Ents} {v : Value} {n : Nat} {b : Own} {e : TypeId} (hS : SlO e 2 v n (cellsE es) b) (hr : rngE es) {F' : Know} (hF : ∀ p cs t fr k, (p, Obj.cells cs t fr) ∈ b → ∀ u, cs[k]? = some u → F' ⟨p, k, none⟩ = some u) :
    ∃ A cap, v = .slice A n cap ∧ n ≤ cap ∧ EntK F' A n es := by
  obtain ⟨A, cap, rfl, h1, h2, h3⟩ := hS.later hF
  have hlen := hS.1
  rw [cellsE_len] at hlen
  refine ⟨A, cap, rfl, h1, by omega, fun i e he => ?_, hr⟩
  obtain ⟨h4, h5⟩ := cellsE_get es i e he
  obtain ⟨a, ha, h6⟩ := h3 _ _ h4
  obtain ⟨a', ha', h7⟩ := h3 _ _ h5
  rw [ha] at ha'; cases ha'
  exact ⟨a, ha, h6, h7⟩
/-- The cells of a list that is known. -/
theorem EntK.all {F : Know} {A : Option Addr} {n : Nat} {es : Ents} (h : EntK F A n es) : ∀ j u, (cellsE es)[j]? = Option.some u → ∃ a, A = Option.some a ∧ F (a.add j) = Option.some u := by
  intro j u hj
  have hl : j < es.length * 2 := by rw [← cellsE_len]; exact (List.getElem?_eq_some_iff.1 hj).1
  have hi : j / 2 < es.length := by omega
  obtain ⟨a, ha, h1, h2⟩ := h.at_ (j / 2) es[j / 2] (List.getElem?_eq_getElem hi)
  obtain ⟨h3, h4⟩ := cellsE_get es (j / 2) es[j / 2] (List.getElem?_eq_getElem hi)
  refine ⟨a, ha, ?_⟩
  by_cases e : j % 2 = 0
  · have : j = j / 2 * 2 := by omega
    rw [this] at hj ⊢
    rw [h3] at hj; rw [h1]; exact hj
  · have : j = j / 2 * 2 + 1 := by omega
    rw [this] at hj ⊢
    rw [h4] at hj; rw [h2]; exact hj
/-- One's own list of entries as cells, known later. -/
theorem entK_lit {es : Ents} {F' : Know} {p : Nat} (hr : rngE es) (hF : ∀ k u, (cellsE es)[k]? = some u → F' ⟨p, k, none⟩ = some u) : EntK F' (Option.some ⟨p, 0, none⟩) es.length es := by
  refine ⟨rfl, fun i e he => ⟨_, rfl, ?_, ?_⟩, hr⟩
  · obtain ⟨h4, _⟩ := cellsE_get es i e he
    have := hF _ _ h4
    have hadd : (⟨p, 0, none⟩ : Addr).add (i * 2) = ⟨p, i * 2, none⟩ := by unfold Addr.add; split <;> simp_all
    rw [hadd]; exact this
  · obtain ⟨_, h5⟩ := cellsE_get es i e he
    have := hF _ _ h5
    have hadd : (⟨p, 0, none⟩ : Addr).add (i * 2 + 1) = ⟨p, i * 2 + 1, none⟩ := by unfold Addr.add; split <;> simp_all
    rw [hadd]; exact this
theorem EntK.take {F : Know} {A : Option Addr} {n : Nat} {es : Ents} (h : EntK F A n es) (k : Nat) : EntK F A (min k n) (es.take k) := by
  refine ⟨by rw [List.length_take, ← h.len], fun i e he => h.at_ i e ?_, fun i hi => ?_⟩
  · rw [List.getElem?_take] at he
    split at he
    · exact he
    · cases he
  · rw [List.length_take] at hi
    simpa using h.rng i (by omega)
theorem setE {a b : Int} (rest : List Value) : ∀ (D : Ents) (i : Nat), i < D.length → ∀ (k : List Value → Option (List Value)), setV (i * 2) [.int .i64 a, .int .i64 b] (cellsE D ++ rest) k = k (cellsE (D.set i (a, b)) ++ rest)
  | [], i, h, _ => by simp at h
  | x :: r, 0, _, k => by simp [cellsE, setV]
  | x :: r, i + 1, h, k => by
    have e1 : cellsE (x :: r) = .int .i64 x.1 :: .int .i64 x.2 :: cellsE r := rfl
    have e2 : cellsE ((x :: r).set (i + 1) (a, b)) = .int .i64 x.1 :: .int .i64 x.2 :: cellsE (r.set i (a, b)) := rfl
    rw [e1, e2, show (i + 1) * 2 = i * 2 + 1 + 1 by omega]
    simp only [List.cons_append, setV]
    exact setE rest r i (by simpa using h) _
theorem rngE_set {D : Ents} (h : rngE D) (i : Nat) {a b : Int} (h1 : -9223372036854775808 ≤ a ∧ a ≤ 9223372036854775807) (h2 : -9223372036854775808 ≤ b ∧ b ≤ 9223372036854775807) : rngE (D.set i (a, b)) := fun j hj => by
  rw [List.getElem_set]
  split
  · exact ⟨h1.1, h1.2, h2.1, h2.2⟩
  · exact h j (by simpa using hj)
theorem sumL_abs {es : Ents} (hb : ∀ (i : Nat) (h : i < es.length), -20000000 ≤ es[i].2 ∧ es[i].2 ≤ 20000000) : ∀ k, k ≤ es.length → -20000000 * (k : Int) ≤ sumL (es.take k) ∧ sumL (es.take k) ≤ 20000000 * k
  | 0, _ => by rw [sumL_zero]; omega
  | k + 1, h => by
    have := sumL_abs hb k (by omega)
    have h2 := hb k (by omega)
    rw [sumL_take_succ _ _ (by omega)]; omega
theorem cellsE_rep (n : Nat) : cellsE (List.replicate n (1, 1)) = List.replicate (n * 2) (.int .i64 1) := by
  induction n with
  | zero => rfl
  | succ n ih => rw [List.replicate_succ, show cellsE ((1, 1) :: List.replicate n (1, 1)) = .int .i64 1 :: .int .i64 1 :: cellsE (List.replicate n (1, 1)) from rfl, ih, show (n + 1) * 2 = n * 2 + 1 + 1 by omega, List.replicate_succ, List.replicate_succ]
theorem EntK.nil (F : Know) : EntK F Option.none 0 [] := ⟨rfl, fun i e h => by simp at h, fun i h => by simp at h⟩
theorem rngE_rep (n : Nat) : rngE (List.replicate n (1, 1)) := fun i h => by simp
theorem entK_rep {F' : Know} {p : Nat} {n m : Nat} (hm : m ≤ n) (hF : ∀ k u, (List.replicate (n * 2) (Value.int .i64 1))[k]? = Option.some u → F' ⟨p, k, none⟩ = Option.some u) : EntK F' (Option.some ⟨p, 0, none⟩) (List.replicate m (1, 1) : Ents).length (List.replicate m (1, 1)) :=
  entK_lit (rngE_rep m) fun k u h => by
    rw [cellsE_rep, List.getElem?_replicate] at h
    refine hF k u ?_
    rw [List.getElem?_replicate]
    split at h
    · rw [if_pos (by omega)]; exact h
    · cases h
theorem big_rep (m : Nat) : ∀ (i : Nat) (h : i < (List.replicate m (1, 1) : Ents).length), -20000000 ≤ (List.replicate m (1, 1) : Ents)[i].2 ∧ (List.replicate m (1, 1) : Ents)[i].2 ≤ 20000000 := fun i h => by simp
end Go.Proofs.Gt
