/-
  A list of counters and a map that say the same.
-/
import Derived.Test.YtlnnoghneciocaaEng20
import Derived.Test.YtlnnoghneciocaaSqK3
namespace Go.Sq
open Go Go.Eng
def prs (l : List Ct) : List (Int × Int) := l.map fun c => (c.st, c.nx)
def MR (l : List Ct) (ms : List (Int × Int)) : Prop := (∀ x, getM ms x = getM (prs l) x) ∧ ms.length = l.length
theorem MR.zero : MR [] [] := ⟨fun _ => rfl, rfl⟩
theorem getM_app (x : Int) : ∀ a b : List (Int × Int), getM (a ++ b) x = match getM a x with | some v => some v | none => getM b x
  | [], b => rfl
  | p :: a, b => by
    simp only [List.cons_append, getM]
    split
    · rfl
    · exact getM_app x a b
theorem getM_none {x : Int} : ∀ {a : List (Int × Int)}, (∀ p ∈ a, p.1 ≠ x) → getM a x = none
  | [], _ => rfl
  | p :: a, h => by
    simp only [getM, if_neg (h p List.mem_cons_self)]
    exact getM_none fun q hq => h q (List.mem_cons_of_mem _ hq)
theorem prs_app (a b : List Ct) : prs (a ++ b) = prs a ++ prs b := by simp [prs]
theorem prs_cons (c : Ct) (b : List Ct) : prs (c :: b) = (c.st, c.nx) :: prs b := rfl
theorem take_ne {l : List Ct} {i : Nat} {x : Int} (h : ∀ j, j < i → j < l.length → (atC l j).st ≠ x) : getM (prs (l.take i)) x = none :=
  getM_none fun p hp => by
    obtain ⟨c, hc, rfl⟩ := List.mem_map.1 hp
    obtain ⟨j, hj, rfl⟩ := List.mem_iff_getElem.1 hc
    rw [List.length_take] at hj
    have := h j (by omega) (by omega)
    rw [atC_get (by omega)] at this
    simpa using this
theorem drop_ne {l : List Ct} {i : Nat} {x : Int} (h : ∀ j, i ≤ j → j < l.length → (atC l j).st ≠ x) : getM (prs (l.drop i)) x = none :=
  getM_none fun p hp => by
    obtain ⟨c, hc, rfl⟩ := List.mem_map.1 hp
    obtain ⟨j, hj, rfl⟩ := List.mem_iff_getElem.1 hc
    rw [List.length_drop] at hj
    have := h (i + j) (by omega) (by omega)
    rw [atC_get (by omega)] at this
    simpa using this
theorem split_at {l : List Ct} {i : Nat} (h : i < l.length) : l = l.take i ++ atC l i :: l.drop (i + 1) := by rw [← drop_cons h, List.take_append_drop]
theorem get_at {l : List Ct} (hok : okL l = true) {k : Nat} (hk : k < l.length) : getM (prs l) (atC l k).st = some (atC l k).nx := by
  conv => lhs; arg 1; rw [split_at hk]
  rw [prs_app, getM_app, take_ne fun j hj _ => by have := ok_rise hok hj hk; omega]
  simp [prs_cons, getM]
theorem MR.step {l : List Ct} {ms : List (Int × Int)} (hok : okL l = true) {k : Nat} (hk : k < l.length) (h : MR (l.take k) ms) : MR (l.take (k + 1)) (setM ms (atC l k).st (atC l k).nx) := by
  have hn : getM (prs (l.take k)) (atC l k).st = none := take_ne fun j hj _ => by have := ok_rise hok hj hk; omega
  refine ⟨fun x => ?_, ?_⟩
  · rw [getM_set, take_succ hk, prs_app, getM_app, h.1 x]
    by_cases hx : x = (atC l k).st
    · subst hx; rw [hn]; simp [prs, getM]
    · rw [if_neg hx]
      cases getM (prs (l.take k)) x with
      | some v => rfl
      | none => simp [prs, getM, Ne.symm hx]
  · rw [setM_len, h.1, hn, h.2]; simp; omega
/-- The draft's list is valid. -/
theorem atC_listK {l : List Dr} {n k : Nat} (h : k < n) : atC (listK l n) k = ctD l k := by
  rw [atC_get (by rw [listK_len]; exact h)]; simp [listK]
theorem ok_listD {l : List Dr} (hr : ∀ d ∈ l, Dr.rng d) : okL (listD l) = true := by
  unfold listD
  refine okL_iff.2 ⟨by rw [listK_len]; omega, fun k hk => ?_⟩
  rw [listK_len] at hk
  have hkl : k < l.length := by omega
  have hd := hr _ (List.getElem_mem hkl)
  rw [← atD_get hkl] at hd
  obtain ⟨⟨h1, h2⟩, h3, h4⟩ := hd
  have hb := strmD_bd l k
  have hb2 := strmD_bd l (k + 1)
  have hs : strmD l (k + 1) = strmD l k + 1 + (atD l k).a % 300 := rfl
  have hl : lastK (listK l (min l.length 12)) k = strmD l k := by
    cases k with
    | zero => rfl
    | succ k => rw [lastK_succ, atC_listK (by omega)]; rfl
  unfold okAtC
  rw [hl, atC_listK hk]
  refine Bool.and_eq_true_iff.2 ⟨decide_eq_true ⟨?_, ?_⟩, decide_eq_true ⟨?_, ?_⟩⟩ <;> simp only [ctD] <;> omega
/-! ### One number more -/
theorem set_eq {l : List Ct} {i : Nat} (h : i < l.length) (c : Ct) : l.take i ++ c :: l.drop (i + 1) = l.set i c := (List.set_eq_take_append_cons_drop.trans (if_pos h)).symm
theorem atC_set {l : List Ct} {i k : Nat} {c : Ct} (h : i < l.length) : atC (l.set i c) k = if k = i then c else atC l k := by
  unfold atC
  rw [List.getD_eq_getElem?_getD, List.getD_eq_getElem?_getD, List.getElem?_set]
  by_cases hk : i = k
  · subst hk; simp [h]
  · rw [if_neg hk, if_neg (Ne.symm hk)]
theorem ok_set {l : List Ct} {i : Nat} {c : Ct} (hok : okL l = true) (h : i < l.length) (h1 : c.st = (atC l i).st) (h2 : okN c.nx = true) : okL (l.set i c) = true := by
  obtain ⟨hl, ha⟩ := okL_iff.1 hok
  refine okL_iff.2 ⟨by rw [List.length_set]; exact hl, fun k hk => ?_⟩
  rw [List.length_set] at hk
  have hst : ∀ j, (atC (l.set i c) j).st = (atC l j).st := fun j => by
    rw [atC_set h]; split
    · rename_i h; rw [h, h1]
    · rfl
  have hla : lastK (l.set i c) k = lastK l k := by unfold lastK; split; rfl; exact hst _
  have hnx : okN (atC (l.set i c) k).nx = true := by
    rw [atC_set h]; split
    · exact h2
    · have := ha k hk; unfold okAtC at this; simp only [Bool.and_eq_true] at this; exact this.2
  have hk2 := ha k hk
  unfold okAtC at hk2 ⊢
  rw [hst, hla, hnx]
  simp only [Bool.and_eq_true] at hk2 ⊢
  exact ⟨hk2.1, trivial⟩
theorem atC_ins {l : List Ct} {i k : Nat} {c : Ct} (h : i ≤ l.length) : atC (l.take i ++ c :: l.drop i) k = if k < i then atC l k else if k = i then c else atC l (k - 1) := by
  unfold atC
  rw [List.getD_eq_getElem?_getD, List.getElem?_append, List.length_take, Nat.min_eq_left h]
  by_cases h1 : k < i
  · rw [if_pos h1, if_pos h1, List.getElem?_take, if_pos h1, List.getD_eq_getElem?_getD]
  · rw [if_neg h1, if_neg h1]
    by_cases h2 : k = i
    · subst h2; simp
    · rw [if_neg h2, show k - i = (k - i - 1) + 1 by omega, List.getElem?_cons_succ, List.getElem?_drop, show i + (k - i - 1) = k - 1 by omega, List.getD_eq_getElem?_getD]
theorem ok_ins {l : List Ct} {i : Nat} {t : Int} (hok : okL l = true) (hl : l.length < 12) (hi : i ≤ l.length) (ht : 1 ≤ t ∧ t ≤ 4095) (h1 : ∀ j, j < i → (atC l j).st < t) (h2 : i < l.length → t < (atC l i).st) : okL (l.take i ++ ⟨t, 1⟩ :: l.drop i) = true := by
  obtain ⟨-, ha⟩ := okL_iff.1 hok
  have hlen : (l.take i ++ (⟨t, 1⟩ : Ct) :: l.drop i).length = l.length + 1 := by simp; omega
  refine okL_iff.2 ⟨by rw [hlen]; omega, fun k hk => ?_⟩
  rw [hlen] at hk
  have hst := fun j => atC_ins (l := l) (i := i) (k := j) (c := ⟨t, 1⟩) hi
  unfold okAtC
  rcases Nat.lt_trichotomy k i with h | h | h
  · have h3 := ha k (by omega)
    unfold okAtC at h3
    have e1 : lastK (l.take i ++ (⟨t, 1⟩ : Ct) :: l.drop i) k = lastK l k := by unfold lastK; split; rfl; rw [hst, if_pos (by omega)]
    rw [e1, hst, if_pos h]; exact h3
  · subst h
    have e1 : lastK (l.take k ++ (⟨t, 1⟩ : Ct) :: l.drop k) k + 1 ≤ t := by
      unfold lastK; split
      · omega
      · rw [hst, if_pos (by omega)]; have := h1 (k - 1) (by omega); omega
    rw [hst, if_neg (Nat.lt_irrefl _), if_pos rfl]
    simp only [okN, Bool.and_eq_true, decide_eq_true_eq]
    exact ⟨⟨e1, ht.2⟩, by omega⟩
  · have h3 := ha (k - 1) (by omega)
    have e2 : lastK (l.take i ++ (⟨t, 1⟩ : Ct) :: l.drop i) k + 1 ≤ (atC l (k - 1)).st := by
      unfold lastK
      rw [if_neg (by omega), hst]
      rcases Nat.lt_or_ge (i + 1) k with h4 | h4
      · rw [if_neg (by omega), if_neg (by omega)]
        have := ok_rise hok (j := k - 1 - 1) (k := k - 1) (by omega) (by omega); omega
      · rw [show k - 1 = i by omega, if_neg (Nat.lt_irrefl _), if_pos rfl]
        have := h2 (by omega); show t + 1 ≤ _; omega
    unfold okAtC at h3
    rw [hst, if_neg (by omega), if_neg (by omega)]
    simp only [Bool.and_eq_true, decide_eq_true_eq] at h3 ⊢
    exact ⟨⟨e2, h3.1.2⟩, h3.2⟩
theorem runs_law {l : List Ct} {ms : List (Int × Int)} {t : Int} (hok : okL l = true) (ht : 1 ≤ t ∧ t ≤ 4095) (hM : MR l ms) {l2 : List Ct} {q er : Int} (he : nextL l t = ((l2, q), er)) :
    (getM ms t = none ∧ ms.length = 12 ∧ er = 7) ∨ (¬ (getM ms t = none ∧ ms.length = 12) ∧ er = 0 ∧ q = (getM ms t).getD 0 ∧ okL l2 = true ∧ MR l2 (setM ms t (aft q 1)) ∧ 0 ≤ q ∧ q ≤ 65535) := by
  have hle := fstI_le l t
  by_cases hk : fstI l t < l.length ∧ (atC l (fstI l t)).st = t
  · rw [next_known hok ht hk.1 hk.2] at he
    cases he
    obtain ⟨h1, h2⟩ := hk
    obtain ⟨i, hi⟩ : ∃ i, fstI l t = i := ⟨_, rfl⟩
    have hlt : ∀ j, j < i → (atC l j).st < t := fun j hj => fstI_lt (by rw [hi]; exact hj)
    rw [hi] at h1 h2 hle ⊢
    have hg : getM (prs l) t = some (atC l i).nx := by rw [← h2]; exact get_at hok h1
    have hb := ok_bd hok h1
    refine .inr ⟨fun h => by rw [hM.1, hg] at h; exact absurd h.1 (by simp), rfl, by rw [hM.1, hg]; rfl, ?_, ⟨fun x => ?_, ?_⟩, hb.2.2.1, hb.2.2.2⟩
    · rw [set_eq h1]; exact ok_set hok h1 h2.symm (by have := aft_bd (atC l i).nx 1; simp [okN]; omega)
    · rw [getM_set, hM.1]
      have e0 : getM (prs (l.take i)) t = none := take_ne fun j hj _ => by have := hlt j hj; omega
      rw [prs_app, getM_app, prs_cons]
      by_cases hx : x = t
      · subst hx; rw [e0]; simp [getM]
      · rw [if_neg hx]
        conv => lhs; arg 1; rw [split_at h1]
        rw [prs_app, getM_app, prs_cons]
        simp only [getM, h2, if_neg (Ne.symm hx)]
    · rw [setM_len, hM.1, hg, hM.2]; simp; omega
  · have hn : getM (prs l) t = none := by
      have h0 := take_ne (l := l) (i := l.length) (x := t) fun j hj _ => by
        rcases Nat.lt_or_ge j (fstI l t) with h | h
        · have := fstI_lt h; omega
        · intro e
          have h3 := fstI_ge (l := l) (s := t) (by omega)
          rcases Nat.lt_or_ge (fstI l t) j with h4 | h4
          · have := ok_rise hok h4 hj; omega
          · have : j = fstI l t := by omega
            subst this; exact hk ⟨hj, e⟩
      rwa [List.take_length] at h0
    by_cases h12 : l.length = 12
    · rw [next_full hok ht hk h12] at he; cases he
      exact .inl ⟨by rw [hM.1, hn], by rw [hM.2, h12], rfl⟩
    · rw [next_new hok ht hk h12] at he; cases he
      obtain ⟨i, hi⟩ : ∃ i, fstI l t = i := ⟨_, rfl⟩
      have hlt : ∀ j, j < i → (atC l j).st < t := fun j hj => fstI_lt (by rw [hi]; exact hj)
      have hge : i < l.length → t < (atC l i).st := fun h => by
        have h3 := fstI_ge (l := l) (s := t) (by omega)
        rw [hi] at h3
        have : (atC l i).st ≠ t := fun e => hk ⟨by omega, by rw [hi]; exact e⟩
        omega
      rw [hi] at hle ⊢
      have hl12 := (okL_iff.1 hok).1
      refine .inr ⟨fun h => h12 (by rw [← hM.2]; exact h.2), rfl, by rw [hM.1, hn]; rfl, ok_ins hok (by omega) hle ht hlt hge, ⟨fun x => ?_, ?_⟩, by omega, by omega⟩
      · rw [getM_set, hM.1, prs_app, getM_app, prs_cons]
        have e0 : getM (prs (l.take i)) t = none := take_ne fun j hj _ => by have := hlt j hj; omega
        by_cases hx : x = t
        · subst hx; rw [e0]; simp [getM, aft]
        · rw [if_neg hx]
          conv => lhs; arg 1; rw [← List.take_append_drop i l]
          rw [prs_app, getM_app]
          simp only [getM, if_neg (Ne.symm hx)]
      · rw [setM_len, hM.1, hn, hM.2]; simp; omega
end Go.Sq
