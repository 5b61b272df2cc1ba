/-
  What RecoverOnce goes through.
-/
import Derived.Test.YtichjhggoioenaaRcPlain8
import Derived.Test.YtichjhggoioenaaEng22
namespace Go.Rc
open Go Go.Eng
structure Mv where
  by_ : Int
  wt : Int
def mvv (x : Mv) : List Value := [.int .i16 x.by_, .int .i16 x.wt]
theorem mvv_len (x : Mv) : (mvv x).length = 2 := rfl
structure Mv.rng (x : Mv) : Prop where
  by_ : -32768 ≤ x.by_ ∧ x.by_ ≤ 32767
  wt : -32768 ≤ x.wt ∧ x.wt ≤ 32767
/-- Where the loop stands. -/
structure OS where
  i : Nat
  r : Rc
  la : Int
  ta : Int
  fs : List Int
  ob : Obj
structure OnceI (n f0 : Int) (s : OS) : Prop where
  la : f0 - 32767 * s.i ≤ s.la ∧ s.la ≤ f0 + 32767 * s.i
  ta : 0 ≤ s.ta ∧ s.ta ≤ 32767 * s.i
  ob : MpW (setE2 s.fs) s.ob
  st : (s.i = 0 ∧ s.r = anyR n 40000 ∧ s.fs = []) ∨ (0 < s.i ∧ Hist n 40000 s.r s.la s.ta fun x => decide (x ∈ s.fs))
def wantO (n : Int) (s : OS) (f : Int) : Bool := decide (s.i = 0 ∨ (-n < f - s.la ∧ f - s.la < n ∧ f ∉ s.fs))
theorem frame_mod (f : Int) : (f.tmod 65536 + 65536) % 65536 = f % 65536 := by have := tm f; omega
theorem acc_one_set (fs : List Int) (f x : Int) : decide (x ∈ fs ++ [f]) = (decide (x = f) || decide (x ∈ fs)) := by
  simp only [List.mem_append, List.mem_singleton]
  by_cases h1 : x = f <;> by_cases h2 : x ∈ fs <;> simp [h1, h2]
theorem once_step {n f0 : Int} {s : OS} (h : OnceI n f0 s) (hn : 1 ≤ n ∧ n ≤ 64) (hi : s.i ≤ 200) {d w : Int} (hd : -32767 ≤ d ∧ d ≤ 32767) (hw : 0 ≤ w ∧ w ≤ 32767) :
    ∃ r2 b, accA s.r ((s.la + d) % 65536) (s.ta + w) = ((r2, b), 0) ∧ b = wantO n s (s.la + d) ∧ (b = false → r2 = s.r) ∧ s.r.se < 18446744073709551616 ∧
      (b = true → s.la + d ∉ s.fs ∧ ∀ ob, MpW (setE2 (s.fs ++ [s.la + d])) ob → OnceI n f0 ⟨s.i + 1, r2, if 0 < d ∨ s.i = 0 then s.la + d else s.la, s.ta + w, s.fs ++ [s.la + d], ob⟩) := by
  obtain ⟨h1, h2, h3, h4⟩ := h
  rcases h4 with ⟨hi0, hr, hfs⟩ | ⟨hi0, hh⟩
  · have hf := hist_first (n := n) (s := 40000) (t := s.ta + w) (f := s.la + d) hn (fun x => decide (x ∈ s.fs ++ [s.la + d])) (fun x => by rw [hfs]; simp)
    refine ⟨_, _, by rw [hr, acc_any (by omega) (by omega) (by omega) (by omega)], ?_, (fun h => by cases h), by rw [hr]; exact (by decide : 0 < 18446744073709551616), fun _ => ⟨by rw [hfs]; simp, fun ob hob => ⟨?_, ?_, hob, .inr ⟨Nat.succ_pos _, ?_⟩⟩⟩⟩
    · unfold wantO; simp [hi0]
    · simp only [hi0] at *
      rw [if_pos (.inr trivial)]; simp only [Int.natCast_add]; omega
    · simp only [Int.natCast_add]; omega
    · simp only; rw [if_pos (.inr hi0)]; exact hf.2
  · have hk := hist_step hh hn (t := s.ta + w) (d := d) (by omega) (by omega)
    obtain ⟨k1, k2, k3⟩ := hk
    have hse := okR_se (hist_ok hh hn (by omega) (by omega))
    refine ⟨_, _, by rw [hist_acc hh hn (by omega) (by omega) (by omega) (by omega)], ?_, k2, hse, fun hb => ?_⟩
    · rw [k1]
      unfold wantO
      simp only [decide_eq_decide, decide_eq_false_iff_not]
      have e : s.la + d - s.la = d := by omega
      rw [e]
      constructor
      · rintro ⟨a, b, c⟩; exact .inr ⟨a, b, c⟩
      · rintro (a | ⟨a, b, c⟩)
        · omega
        · exact ⟨a, b, c⟩
    · have hno : s.la + d ∉ s.fs := by
        rw [k1] at hb
        have := of_decide_eq_true hb
        simpa using this.2.2
      refine ⟨hno, fun ob hob => ⟨?_, ?_, hob, .inr ⟨Nat.succ_pos _, ?_⟩⟩⟩
      · simp only [Int.natCast_add]; split <;> omega
      · simp only [Int.natCast_add]; omega
      · have := k3 hb (fun x => decide (x ∈ s.fs ++ [s.la + d])) fun x => acc_one_set _ _ _
        by_cases h0 : 0 < d
        · rw [if_pos h0] at this
          simp only; rw [if_pos (.inl h0)]; exact this
        · rw [if_neg h0] at this
          simp only; rw [if_neg (by omega)]; exact this
theorem OnceI.skip {n f0 : Int} {s : OS} (h : OnceI n f0 s) (hw : wantO n s s.la = false ∨ s.i ≠ 0) : OnceI n f0 { s with i := s.i + 1 } := by
  obtain ⟨h1, h2, h3, h4⟩ := h
  have hi : s.i ≠ 0 := by
    rcases hw with h | h
    · intro e; unfold wantO at h; simp [e] at h
    · exact h
  refine ⟨by simp only [Int.natCast_add]; omega, by simp only [Int.natCast_add]; omega, h3, .inr ⟨Nat.succ_pos _, ?_⟩⟩
  rcases h4 with ⟨a, _⟩ | ⟨_, b⟩
  · exact absurd a hi
  · exact b
end Go.Rc
