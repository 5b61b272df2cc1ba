/-
  Gate lists in plain mathematics, part 5: the lists that are made of bytes.
-/
import Derived.Test.YtfneficfngpnjaaGtPlain4
import Derived.Test.YtfneficfngpnjaaGtK2
import Derived.Test.YtfneficfngpnjaaEng9
namespace Go.Gt
open Go Go.Eng Go.Proofs.Gt
def draftN (ss : List Int) : Nat := max 1 (min ss.length 16)
/-- The list of a draft. -/
def draftE (ss ls : List Int) : Ents := (List.range (draftN ss)).map fun i => (if i < ss.length then ss.getD i 0 else 127, if i < ls.length then 1 + ls.getD i 0 % 20 else 1)
theorem draftE_len (ss ls : List Int) : (draftE ss ls).length = draftN ss := by simp [draftE]
theorem draftE_get (ss ls : List Int) {i : Nat} (h : i < (draftE ss ls).length) : (draftE ss ls)[i] = (if i < ss.length then ss.getD i 0 else 127, if i < ls.length then 1 + ls.getD i 0 % 20 else 1) := by simp [draftE]
abbrev bytesL (l : List Int) : Prop := ∀ (i : Nat) (h : i < l.length), 0 ≤ l[i] ∧ l[i] ≤ 255
theorem draftE_ok {ss ls : List Int} (h1 : bytesL ss) (_h2 : bytesL ls) (i : Nat) (h : i < (draftE ss ls).length) : 0 ≤ (draftE ss ls)[i].1 ∧ (draftE ss ls)[i].1 ≤ 255 ∧ 1 ≤ (draftE ss ls)[i].2 ∧ (draftE ss ls)[i].2 ≤ 20 := by
  rw [draftE_get]
  simp only
  refine ⟨?_, ?_, ?_, ?_⟩
  · split
    · rename_i h3; have := h1 i h3; simp [h3]; omega
    · omega
  · split
    · rename_i h3; have := h1 i h3; simp [h3]; omega
    · omega
  · split <;> omega
  · split <;> omega
theorem draft_all {ss ls : List Int} (h1 : bytesL ss) (h2 : bytesL ls) : (draftE ss ls).all okE = true := by
  rw [List.all_eq_true]
  intro e he
  obtain ⟨i, hi, rfl⟩ := List.getElem_of_mem he
  have := draftE_ok h1 h2 i hi
  simp [okE]; omega
theorem draft_rng {ss ls : List Int} (h1 : bytesL ss) (h2 : bytesL ls) : rngE (draftE ss ls) := fun i h => by have := draftE_ok h1 h2 i h; omega
theorem draft_big {ss ls : List Int} (h1 : bytesL ss) (h2 : bytesL ls) : ∀ (i : Nat) (h : i < (draftE ss ls).length), -20000000 ≤ (draftE ss ls)[i].2 ∧ (draftE ss ls)[i].2 ≤ 20000000 := fun i h => by have := draftE_ok h1 h2 i h; omega
theorem draft_good {ss ls : List Int} (h1 : bytesL ss) (h2 : bytesL ls) : okG (draftE ss ls) (sumL (draftE ss ls)) = true := by
  have hn : draftN ss ≤ 16 ∧ 1 ≤ draftN ss := by unfold draftN; omega
  have hs : sumL (draftE ss ls) ≤ 9600000 := by
    have hl := draftE_len ss ls
    have hb : ∀ k, k ≤ (draftE ss ls).length → sumL ((draftE ss ls).take k) ≤ 20 * k := by
      intro k
      induction k with
      | zero => intro _; rw [sumL_zero]; omega
      | succ k ih =>
        intro hk
        have := ih (by omega)
        have := draftE_ok h1 h2 k (by omega)
        rw [sumL_take_succ _ _ (by omega)]; omega
    have := hb _ (Nat.le_refl _)
    rw [List.take_length] at this
    omega
  exact okG_true (by rw [draftE_len]; omega) (by rw [draftE_len]; omega) (draft_all h1 h2) rfl hs
theorem bad_all {es : Ents} {cyc : Int} (h : okG es cyc = false) (cl t lg : Int) : (maskA es cyc t).2 = 370 ∧ (openA es cyc cl t).2 = 370 ∧ (fitsA es cyc cl t lg).2 = 370 ∧ (fitA es cyc cl t lg).2 = 370 ∧ (turnA es cyc t).2 = 370 := by
  have e : ∀ a b c, errG es cyc a b c = 370 := fun a b c => by unfold errG; rw [h]; rfl
  simp [maskA, openA, fitsA, fitA, turnA, e]
end Go.Gt
