/-
  What RecoverMerges goes through.
-/
import Derived.Test.YtichjhggoioenaaRcPlain9
namespace Go.Rc
open Go Go.Eng
def cv (l : List Int) : List Value := l.map fun x => Value.int .i64 x
theorem cv_rep (m : Nat) : List.replicate m (Value.int .i64 0) = cv (List.replicate m 0) := by simp [cv]
theorem cv_nth : ∀ {l : List Int} {j : Nat}, j < l.length → nthV (cv l) j = some (.int .i64 (l.getD j 0))
  | [], j, h => by simp at h
  | x :: r, 0, _ => rfl
  | x :: r, j + 1, h => by
    have : nthV (cv (x :: r)) (j + 1) = nthV (cv r) j := rfl
    rw [this, cv_nth (by simpa using h)]; simp
theorem cv_set {l : List Int} {j : Nat} {x : Int} (h : j < l.length) : setV j [.int .i64 x] (cv l) some = some (cv (l.set j x)) := by
  rw [setV_one (by simpa [cv] using h)]
  simp [cv, List.map_set]
theorem set_get {l : List Int} {i j : Nat} {x : Int} (h : i < l.length) : (l.set i x).getD j 0 = if j = i then x else l.getD j 0 := by
  by_cases e : j = i
  · subst e; simp [h]
  · simp [e, Ne.symm e]
/-- Frame number of the copy u at step k. -/
def frK (k b : Int) (u : Nat) : Int := if u = 0 then k else k - b
/-- The copy u of a frame arrives. -/
def arrB (L : List Int) (m : Nat) (u : Nat) (f : Int) : Bool := decide (0 ≤ f ∧ f < m ∧ L.getD f.toNat 0 % 3 ≠ 1 + (u : Int))
/-- A frame has arrived ahead of the copy u of step k. -/
def accK (L : List Int) (m : Nat) (b k : Int) (u : Nat) (f : Int) : Bool :=
  decide (0 ≤ f ∧ f < m ∧ (((f < k ∨ (f = k ∧ 1 ≤ u)) ∧ L.getD f.toNat 0 % 3 ≠ 1) ∨ ((f + b < k ∨ (f + b = k ∧ 2 ≤ u)) ∧ L.getD f.toNat 0 % 3 ≠ 2)))
structure MS where
  k : Nat
  u : Nat
  r : Rc
  ct : List Int
structure MergeI (L : List Int) (m : Nat) (n b f0 : Int) (s : MS) : Prop where
  len : s.ct.length = m
  ct : ∀ f : Nat, f < m → s.ct.getD f 0 = if accK L m b s.k s.u f then 1 else 0
  st : (s.r = anyR n 1 ∧ ∀ f, accK L m b s.k s.u f = false) ∨ ∃ la, Hist n 1 s.r (f0 + la) 0 fun x => accK L m b s.k s.u (x - f0)
theorem MergeI.none {L : List Int} {m : Nat} {n b f0 : Int} {s : MS} (h : MergeI L m n b f0 s) (hu : s.u < 2) (hb : 0 ≤ b) (hno : arrB L m s.u (frK s.k b s.u) = false) : MergeI L m n b f0 { s with u := s.u + 1 } := by
  have e : ∀ f, accK L m b s.k (s.u + 1) f = accK L m b s.k s.u f := by
    intro f
    unfold accK
    simp only [decide_eq_decide]
    unfold arrB frK at hno
    simp only [decide_eq_false_iff_not] at hno
    by_cases hu0 : s.u = 0
    · rw [if_pos hu0] at hno
      rw [hu0] at hno ⊢
      by_cases hf : f = s.k
      · subst hf; simp only [Int.natCast_zero] at hno; omega
      · omega
    · have hu1 : s.u = 1 := by omega
      rw [if_neg hu0] at hno
      rw [hu1] at hno ⊢
      by_cases hf : f = s.k - b
      · subst hf; omega
      · omega
  obtain ⟨h1, h2, h3⟩ := h
  refine ⟨h1, fun f hf => by simp only; rw [e]; exact h2 f hf, ?_⟩
  rcases h3 with ⟨a, c⟩ | ⟨la, c⟩
  · exact .inl ⟨a, fun f => by simp only; rw [e]; exact c f⟩
  · refine .inr ⟨la, ?_⟩
    simp only
    have : (fun x => accK L m b s.k (s.u + 1) (x - f0)) = fun x => accK L m b s.k s.u (x - f0) := funext fun x => e _
    rw [this]; exact c
theorem MergeI.turn {L : List Int} {m : Nat} {n b f0 : Int} {s : MS} (h : MergeI L m n b f0 s) (hu : s.u = 2) : MergeI L m n b f0 { s with k := s.k + 1, u := 0 } := by
  have e : ∀ f, accK L m b ((s.k + 1 : Nat) : Int) 0 f = accK L m b s.k s.u f := by
    intro f
    unfold accK
    simp only [decide_eq_decide]
    rw [hu]; omega
  obtain ⟨h1, h2, h3⟩ := h
  refine ⟨h1, fun f hf => by simp only; rw [e]; exact h2 f hf, ?_⟩
  rcases h3 with ⟨a, c⟩ | ⟨la, c⟩
  · exact .inl ⟨a, fun f => by simp only; rw [e]; exact c f⟩
  · refine .inr ⟨la, ?_⟩
    simp only
    have : (fun x => accK L m b ((s.k + 1 : Nat) : Int) 0 (x - f0)) = fun x => accK L m b s.k s.u (x - f0) := funext fun x => e _
    rw [this]; exact c
theorem merge_start (L : List Int) (m : Nat) (n b f0 : Int) (hb : 0 ≤ b) : MergeI L m n b f0 ⟨0, 0, anyR n 1, List.replicate m 0⟩ := by
  have e : ∀ f, accK L m b ((0 : Nat) : Int) 0 f = false := fun f => by unfold accK; simp only [decide_eq_false_iff_not]; omega
  exact ⟨by simp, fun f hf => by rw [e]; simp [hf], .inl ⟨rfl, e⟩⟩
theorem merge_end {L : List Int} {m : Nat} {n b f0 : Int} {s : MS} (h : MergeI L m n b f0 s) (hk : (m : Int) + b ≤ s.k) (hb : 0 ≤ b) {f : Nat} (hf : f < m) : s.ct.getD f 0 = 1 := by
  rw [h.ct f hf, if_pos]
  unfold accK
  simp only [decide_eq_true_eq]
  omega
theorem merge_step {L : List Int} {m : Nat} {n b f0 : Int} {s : MS} (h : MergeI L m n b f0 s) (hn : 2 ≤ n ∧ n ≤ 64) (hb : 0 ≤ b ∧ b ≤ n - 2) (hf0 : 0 ≤ f0 ∧ f0 ≤ 65535) (hu : s.u < 2) (hm : m ≤ 150) (ha : arrB L m s.u (frK s.k b s.u) = true) :
    ∃ r2 bb, accA s.r ((f0 + frK s.k b s.u) % 65536) 0 = ((r2, bb), 0) ∧ s.r.se < 18446744073709551616 ∧
      (bb = false → MergeI L m n b f0 { s with u := s.u + 1, r := r2 }) ∧
      (bb = true → s.ct.getD (frK s.k b s.u).toNat 0 = 0 ∧ MergeI L m n b f0 { s with u := s.u + 1, r := r2, ct := s.ct.set (frK s.k b s.u).toNat (0 + 1) }) := by
  obtain ⟨f, hfe⟩ : ∃ f, frK s.k b s.u = f := ⟨_, rfl⟩
  rw [hfe] at ha ⊢
  have hfr : (s.u = 0 ∧ f = s.k) ∨ (s.u = 1 ∧ f = s.k - b) := by unfold frK at hfe; split at hfe <;> omega
  have ha2 : 0 ≤ f ∧ f < m ∧ L.getD f.toNat 0 % 3 ≠ 1 + (s.u : Int) := by unfold arrB at ha; exact of_decide_eq_true ha
  have e : ∀ x, accK L m b s.k (s.u + 1) x = (decide (x = f) || accK L m b s.k s.u x) := by
    intro x
    by_cases hx : x = f
    · subst hx
      simp only [decide_true, Bool.true_or]
      unfold accK
      simp only [decide_eq_true_eq]
      rcases hfr with ⟨g1, g2⟩ | ⟨g1, g2⟩
      · rw [g1] at ha2 ⊢; simp only [Int.natCast_zero] at ha2; omega
      · rw [g1] at ha2 ⊢; simp only [Int.natCast_one] at ha2; omega
    · rw [decide_eq_false hx, Bool.false_or]
      unfold accK
      simp only [decide_eq_decide]
      omega
  have hset : accK L m b s.k s.u f = false → ∀ r2, (∃ la, Hist n 1 r2 (f0 + la) 0 fun x => accK L m b s.k (s.u + 1) (x - f0)) → s.ct.getD f.toNat 0 = 0 ∧ MergeI L m n b f0 { s with u := s.u + 1, r := r2, ct := s.ct.set f.toNat (0 + 1) } := by
    intro hn0 r2 hH
    have hlt : f.toNat < m := by omega
    refine ⟨?_, ⟨by simp [h.len], fun g hg => ?_, .inr hH⟩⟩
    · rw [h.ct _ hlt, if_neg]
      rw [show ((f.toNat : Nat) : Int) = f by omega, hn0]; simp
    · simp only
      rw [set_get (by rw [h.len]; exact hlt), e]
      by_cases hg2 : g = f.toNat
      · rw [if_pos hg2, decide_eq_true (show (g : Int) = f by omega)]; simp
      · rw [if_neg hg2, decide_eq_false (show ¬ (g : Int) = f by omega), Bool.false_or]; exact h.ct g hg
  have hkeep : accK L m b s.k s.u f = true → ∀ r2, r2 = s.r → MergeI L m n b f0 { s with u := s.u + 1, r := r2 } := by
    intro hn0 r2 hr
    have e2 : ∀ x, accK L m b s.k (s.u + 1) x = accK L m b s.k s.u x := fun x => by
      rw [e]
      by_cases hx : x = f
      · subst hx; rw [hn0]; simp
      · rw [decide_eq_false hx]; simp
    subst hr
    refine ⟨h.len, fun g hg => by simp only; rw [e2]; exact h.ct g hg, ?_⟩
    rcases h.st with ⟨a, c⟩ | ⟨la, c⟩
    · rw [c f] at hn0; cases hn0
    · refine .inr ⟨la, ?_⟩
      simp only
      have : (fun x => accK L m b s.k (s.u + 1) (x - f0)) = fun x => accK L m b s.k s.u (x - f0) := funext fun x => e2 _
      rw [this]; exact c
  rcases h.st with ⟨hr, hno⟩ | ⟨la, hh⟩
  · have hf := hist_first (n := n) (s := 1) (t := 0) (f := f0 + f) (by omega) (fun x => accK L m b s.k (s.u + 1) (x - f0)) (fun x => by rw [e, hno]; simp; omega)
    refine ⟨_, _, by rw [hr, acc_any (by omega) (by omega) (by omega) (by omega)], by rw [hr]; exact (by decide : 0 < 18446744073709551616), (fun h => by cases h), fun _ => hset (hno f) _ ⟨f, hf.2⟩⟩
  · -- the greatest accepted frame
    have hone := hh.one
    rw [show f0 + la - f0 = la by omega] at hone
    have hla : 0 ≤ la ∧ la < m ∧ la ≤ s.k ∧ (s.u = 0 → la < s.k) := by
      unfold accK at hone
      have := of_decide_eq_true hone
      omega
    have hall : 0 ≤ (s.k : Int) - b - 1 → (s.k : Int) - b - 1 < m → (s.k : Int) - b - 1 ≤ la := by
      intro g1 g2
      rcases Int.lt_or_le la (s.k - b - 1) with hlt | hle
      · have := hh.top (f0 + (s.k - b - 1)) (by omega)
        rw [show f0 + ((s.k : Int) - b - 1) - f0 = s.k - b - 1 by omega] at this
        unfold accK at this
        have := of_decide_eq_false this
        omega
      · exact hle
    have hd : -n < f - la ∧ f - la < n := by omega
    have hk := hist_step hh (by omega) (t := 0) (d := f - la) (by omega) (by omega)
    rw [show f0 + la + (f - la) = f0 + f by omega] at hk
    obtain ⟨k1, k2, k3⟩ := hk
    simp only [show f0 + f - f0 = f by omega] at k1
    have hse := okR_se (hist_ok hh (by omega) (by omega) (by omega))
    refine ⟨_, _, by rw [hist_acc hh (by omega) (by omega) (by omega) (by omega) (by omega)], hse, fun hbb => ?_, fun hbb => ?_⟩
    · have hac : accK L m b s.k s.u f = true := by
        rw [k1] at hbb
        have := of_decide_eq_false hbb
        cases hx : accK L m b s.k s.u f with
        | true => rfl
        | false => exact absurd ⟨hd.1, hd.2, hx⟩ this
      exact hkeep hac _ (k2 hbb)
    · have hac : accK L m b s.k s.u f = false := by
        rw [k1] at hbb
        exact (of_decide_eq_true hbb).2.2
      refine hset hac _ ⟨if 0 < f - la then f else la, ?_⟩
      have := k3 hbb (fun x => accK L m b s.k (s.u + 1) (x - f0)) fun x => by
        rw [e]; congr 1; simp only [decide_eq_decide]; omega
      by_cases h0 : 0 < f - la
      · rw [if_pos h0] at this ⊢; exact this
      · rw [if_neg h0] at this ⊢; exact this
end Go.Rc
