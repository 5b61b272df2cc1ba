/-
  The texts SvPlain8 to SvPlain9, one after the other.
-/
import Derived.Test.YtgaliocgkjghnaaSvPlain7
import Derived.Test.YtgaliocgkjghnaaGtPlain6ToSwPlain
/-
  The service of given lists, computed.
-/
namespace Go.Sv
open Go Go.Eng Go.Gt Go.Proofs.Gt Go.Sw
variable {es : Ents} {cyc : Int}
def runX (es : Ents) (cyc : Int) : Nat → Int → Int → Option (List (Int × Int))
  | 0, a, b => if a < b then none else some []
  | k + 1, a, b => if a < b then (if 0 < spanE es cyc 6 a then (runX es cyc k (min (a + spanE es cyc 6 a) b) b).map ((a, min (a + spanE es cyc 6 a) b) :: ·) else match fitE es cyc 6 a 1 with
    | some o => runX es cyc k o b
    | none => some []) else some []
theorem runX_eq (hG : okG es cyc = true) : ∀ {k : Nat} {a b : Int} {l : List (Int × Int)}, b - a ≤ big → runX es cyc k a b = some l → runs (op6 es cyc) a b = l
  | 0, a, b, l, _, h => by
    unfold runX at h
    split at h
    · cases h
    · rename_i hab; injection h with h; rw [runs_end hab, h]
  | k + 1, a, b, l, hB, h => by
    unfold runX at h
    split at h
    · rename_i hab
      have hsb := spanE_bounds hG 6 a
      split at h
      · rename_i h0
        rw [runs_span hG hab h0 hB]
        cases h2 : runX es cyc k (min (a + spanE es cyc 6 a) b) b with
        | none => rw [h2] at h; cases h
        | some r => rw [h2] at h; injection h with h; rw [runX_eq hG (by omega) h2, ← h]
      · rename_i h0
        cases hf : fitE es cyc 6 a 1 with
        | none => rw [hf] at h; injection h with h; rw [runs_nofit hG hf, h]
        | some o =>
          rw [hf] at h
          obtain ⟨h1, h2, h3⟩ := runs_fit (b := b) hG h0 hf
          rw [h3]
          exact runX_eq hG (by omega) h
    · rename_i hab; injection h with h; rw [runs_end hab, h]
def sumX (es : Ents) (cyc lost a b : Int) : Option Int := if b - a ≤ big then (runX es cyc 40 a b).map (sumR lost) else none
theorem sumX_eq (hG : okG es cyc = true) {lost a b v : Int} (h : sumX es cyc lost a b = some v) : sumS es cyc lost a b = v := by
  unfold sumX at h
  split at h
  · rename_i hB
    cases h2 : runX es cyc 40 a b with
    | none => rw [h2] at h; cases h
    | some r => rw [h2] at h; injection h with h; unfold sumS; rw [runX_eq hG hB h2, h]
  · cases h
def yieldX (es : Ents) (cyc lost : Int) : Option Int := if alwE es then some cyc else sumX es cyc lost (closedE es) (closedE es + cyc)
theorem yieldX_eq (hG : okG es cyc = true) {lost v : Int} (h : yieldX es cyc lost = some v) : yieldS es cyc lost = v := by
  unfold yieldX at h; unfold yieldS
  split at h
  · rename_i ha; injection h with h; rw [if_pos ha, h]
  · rename_i ha; rw [if_neg ha]; exact sumX_eq hG h
def yieldAX (es : Ents) (cyc per most : Int) : Option Int := if errS es cyc per most = 0 then yieldX es cyc (most * per) else some 0
theorem yieldAX_eq {per most v : Int} (h : yieldAX es cyc per most = some v) : yieldA es cyc per most = v := by
  unfold yieldAX at h; unfold yieldA
  split at h
  · rename_i he; rw [if_pos he]; exact yieldX_eq (errS_zero he).1 h
  · rename_i he; rw [if_neg he]; injection h
def leastX (es : Ents) (cyc per most t lg : Int) : Option Int := (if alwE es then some lg else sumX es cyc (most * per) t (t + lg)).map (· - 127 * per)
def sendsX (es : Ents) (cyc per most t lg : Int) : Option (Int × Int) :=
  if errS es cyc per most = 0 then (if argT cyc t lg then (leastX es cyc per most t lg).map (fun v => (max 0 v, 0)) else some (0, 2)) else some (0, errS es cyc per most)
theorem sendsX_eq {per most t lg : Int} {v : Int × Int} (h : sendsX es cyc per most t lg = some v) : sendsA es cyc per most t lg = v := by
  unfold sendsX at h; unfold sendsA
  split at h
  · rename_i he
    rw [if_pos he]
    split at h
    · rename_i ha
      rw [if_pos ha]
      unfold leastX at h; unfold leastS
      split at h
      · rename_i hal; rw [if_pos hal]; injection h
      · rename_i hal
        rw [if_neg hal]
        cases h2 : sumX es cyc (most * per) t (t + lg) with
        | none => rw [h2] at h; cases h
        | some r => rw [h2] at h; rw [sumX_eq (errS_zero he).1 h2]; injection h
    · rename_i ha; rw [if_neg ha]; injection h
  · rename_i he; rw [if_neg he]; injection h
def ofX (es : Ents) (cyc per most : Int) : Option ((Int × Int) × Int) :=
  if errS es cyc per most = 0 then (match yieldX es cyc (most * per) with
    | none => none
    | some y => if y * 1048576 / (cyc * per) < 1 then some ((0, 0), 4) else if alwE es then some ((y * 1048576 / (cyc * per), latS per (y * 1048576 / (cyc * per)) 0), 0) else
      match runX es cyc 40 (closedE es) (closedE es + cyc) with
      | none => none
      | some l => some ((y * 1048576 / (cyc * per), latS per (y * 1048576 / (cyc * per)) (wOut (dblR cyc l) (most * per) (y * 1048576 / (cyc * per)) per l.length l.length)), 0)) else some ((0, 0), errS es cyc per most)
theorem ofX_eq {per most : Int} {v : (Int × Int) × Int} (h : ofX es cyc per most = some v) : ofS es cyc per most = v := by
  unfold ofX at h; unfold ofS
  split at h
  · rename_i he
    have hG := (errS_zero he).1
    have hc := okG_cyc hG
    rw [if_pos he]
    cases hy : yieldX es cyc (most * per) with
    | none => rw [hy] at h; cases h
    | some y =>
      rw [hy] at h
      simp only at h
      have hr : rateS es cyc (most * per) per = y * 1048576 / (cyc * per) := by unfold rateS; rw [yieldX_eq hG hy]
      rw [hr]
      split at h
      · rename_i hr1; rw [if_pos hr1]; injection h
      · rename_i hr1
        rw [if_neg hr1]
        split at h
        · rename_i hal; unfold worstP; rw [if_pos hal]; injection h
        · rename_i hal
          unfold worstP; rw [if_neg hal]
          cases hx : runX es cyc 40 (closedE es) (closedE es + cyc) with
          | none => rw [hx] at h; cases h
          | some l =>
            rw [hx] at h
            have : roundR es cyc = l := runX_eq hG (by unfold big; omega) hx
            rw [this]; injection h
  · rename_i he; rw [if_neg he]; injection h
def hsendS (es : Ents) (cyc per most t lg : Int) : Int := if (sendsA es cyc per most t lg).2 = 0 then (sendsA es cyc per most t lg).1 else -1
theorem hsendX {per most t lg n : Int} {v : Int × Int} (h : sendsX es cyc per most t lg = some v) (hn : (if v.2 = 0 then v.1 else -1) = n) : hsendS es cyc per most t lg = n := by unfold hsendS; rw [sendsX_eq h, hn]
def isS (es : Ents) (cyc per most r l : Int) : Bool := decide ((ofS es cyc per most).2 = 0) && (decide ((ofS es cyc per most).1.1 = r) && decide ((ofS es cyc per most).1.2 = l))
theorem isX {per most r l : Int} (h : ofX es cyc per most = some ((r, l), 0)) : isS es cyc per most r l = true := by unfold isS; rw [ofX_eq h]; simp
example : ofX [(128, 100), (127, 300)] 400 1 100 = some ((524288, 554), 0) := by decide +kernel
example : ofX [(127, 400)] 400 8 100 = some ((131072, 1016), 0) := by decide +kernel
example : sendsX [(128, 100), (127, 300)] 400 1 100 150 250 = some (23, 0) := by decide +kernel
end Go.Sv

/-
  The gate list of a draft of layer 30.
-/
namespace Go.Sv
open Go Go.Eng Go.Gt Go.Proofs.Gt Go.Sw
def maskT (k : Int) : Int := [128, 127, 127, 64, 255, 63].getD k.toNat 0
theorem maskT_rng {k : Int} (h : 0 ≤ k ∧ k < 6) : 0 ≤ maskT k ∧ maskT k ≤ 255 := by
  have : k = 0 ∨ k = 1 ∨ k = 2 ∨ k = 3 ∨ k = 4 ∨ k = 5 := by omega
  rcases this with rfl | rfl | rfl | rfl | rfl | rfl <;> decide
theorem maskT_get {k : Int} (h : 0 ≤ k ∧ k < 6) : nthV [.int .i64 128, .int .i64 127, .int .i64 127, .int .i64 64, .int .i64 255, .int .i64 63] k.toNat = some (.int .i64 (maskT k)) := by
  have : k = 0 ∨ k = 1 ∨ k = 2 ∨ k = 3 ∨ k = 4 ∨ k = 5 := by omega
  rcases this with rfl | rfl | rfl | rfl | rfl | rfl <;> rfl
def draftN (ss : List Int) : Nat := max 1 (min ss.length 10)
def draftE (ss ls : List Int) : Ents := (List.range (draftN ss)).map fun i => (if i < ss.length then maskT (ss.getD i 0 % 6) else 127, if i < ls.length then 1 + 4 * ls.getD i 0 else 1)
theorem draftE_len (ss ls : List Int) : (draftE ss ls).length = draftN ss := by simp [draftE]
theorem draftE_get (ss ls : List Int) {i : Nat} (h : i < (draftE ss ls).length) : (draftE ss ls)[i] = (if i < ss.length then maskT (ss.getD i 0 % 6) else 127, if i < ls.length then 1 + 4 * ls.getD i 0 else 1) := by simp [draftE]
theorem draftE_ok {ss ls : List Int} (_h1 : bytesL ss) (h2 : bytesL ls) (i : Nat) (h : i < (draftE ss ls).length) : 0 ≤ (draftE ss ls)[i].1 ∧ (draftE ss ls)[i].1 ≤ 255 ∧ 1 ≤ (draftE ss ls)[i].2 ∧ (draftE ss ls)[i].2 ≤ 1021 := by
  rw [draftE_get]
  simp only
  have hm := maskT_rng (k := ss.getD i 0 % 6) ⟨Int.emod_nonneg _ (by decide), Int.emod_lt_of_pos _ (by decide)⟩
  refine ⟨?_, ?_, ?_, ?_⟩
  · split <;> omega
  · split <;> omega
  · split
    · rename_i h3; have := h2 i h3; rw [List.getD_eq_getElem?_getD, List.getElem?_eq_getElem h3]; simp only [Option.getD_some]; omega
    · omega
  · split
    · rename_i h3; have := h2 i h3; rw [List.getD_eq_getElem?_getD, List.getElem?_eq_getElem h3]; simp only [Option.getD_some]; omega
    · omega
theorem draft_all {ss ls : List Int} (h1 : bytesL ss) (h2 : bytesL ls) : (draftE ss ls).all okE = true := by
  rw [List.all_eq_true]
  intro e he
  obtain ⟨i, hi, rfl⟩ := List.getElem_of_mem he
  have := draftE_ok h1 h2 i hi
  simp [okE]; omega
theorem draft_rng {ss ls : List Int} (h1 : bytesL ss) (h2 : bytesL ls) : rngE (draftE ss ls) := fun i h => by have := draftE_ok h1 h2 i h; omega
theorem draft_big {ss ls : List Int} (h1 : bytesL ss) (h2 : bytesL ls) : ∀ (i : Nat) (h : i < (draftE ss ls).length), -20000000 ≤ (draftE ss ls)[i].2 ∧ (draftE ss ls)[i].2 ≤ 20000000 := fun i h => by have := draftE_ok h1 h2 i h; omega
theorem draft_cyc {ss ls : List Int} (h1 : bytesL ss) (h2 : bytesL ls) : sumL (draftE ss ls) ≤ 10210 := by
  have hn : draftN ss ≤ 10 ∧ 1 ≤ draftN ss := by unfold draftN; omega
  have hl := draftE_len ss ls
  have hb : ∀ k, k ≤ (draftE ss ls).length → sumL ((draftE ss ls).take k) ≤ 1021 * k := by
    intro k
    induction k with
    | zero => intro _; rw [sumL_zero]; omega
    | succ k ih =>
      intro hk
      have := ih (by omega)
      have := draftE_ok h1 h2 k (by omega)
      rw [sumL_take_succ _ _ (by omega)]; omega
  have := hb _ (Nat.le_refl _)
  rw [List.take_length] at this
  omega
theorem draft_good {ss ls : List Int} (h1 : bytesL ss) (h2 : bytesL ls) : okG (draftE ss ls) (sumL (draftE ss ls)) = true := by
  have hn : draftN ss ≤ 10 ∧ 1 ≤ draftN ss := by unfold draftN; omega
  have hs := draft_cyc h1 h2
  exact okG_true (by rw [draftE_len]; omega) (by rw [draftE_len]; omega) (draft_all h1 h2) rfl (by omega)
end Go.Sv
