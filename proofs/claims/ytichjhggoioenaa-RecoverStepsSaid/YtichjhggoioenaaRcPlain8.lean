/-
  Accept case by case; doublings.
-/
import Derived.Test.YtichjhggoioenaaRcPlain7
namespace Go.Rc
open Go Go.Eng
theorem accR_fresh {r : Rc} {n t : Int} (h1 : freshB ⟨r, n, t, 0⟩ = true) : accR r n t = (⟨r.ln, r.rs, false, n, t, 1⟩, true) := by
  unfold accR; rw [if_pos h1]; rfl
theorem accR_far {r : Rc} {n t : Int} (h1 : freshB ⟨r, n, t, 0⟩ = false) (h2 : farB ⟨r, n, t, 0⟩ = true) : accR r n t = (r, false) := by
  unfold accR; rw [if_neg (by simp [h1]), if_pos h2]
theorem accR_next {r : Rc} {n t : Int} {k l : Nat} (h1 : freshB ⟨r, n, t, 0⟩ = false) (h2 : farB ⟨r, n, t, 0⟩ = false) (hk : delta r.la n = (k : Int)) (h0 : 0 < k) (hl : r.ln = l) : accR r n t = (⟨r.ln, r.rs, false, n, t, shiftS r.se k l⟩, true) := by
  unfold accR
  rw [if_neg (by simp [h1]), if_neg (by simp [h2]), if_pos (by omega), hk]
  have e : r.ln.toNat = l := by omega
  show (({ r with an := false, la := n, at_ := t, se := shiftS r.se (k : Int).toNat r.ln.toNat } : Rc), true) = _
  rw [e, Int.toNat_natCast]
theorem accR_old {r : Rc} {n t : Int} {k : Nat} (h1 : freshB ⟨r, n, t, 0⟩ = false) (h2 : farB ⟨r, n, t, 0⟩ = false) (hk : delta r.la n = -(k : Int)) (hb : r.se.testBit k = true) : accR r n t = (r, false) := by
  unfold accR
  rw [if_neg (by simp [h1]), if_neg (by simp [h2]), if_neg (by omega), hk, show (- -(k : Int)).toNat = k by omega, if_pos hb]
theorem accR_hit {r : Rc} {n t : Int} {k : Nat} (h1 : freshB ⟨r, n, t, 0⟩ = false) (h2 : farB ⟨r, n, t, 0⟩ = false) (hk : delta r.la n = -(k : Int)) (hb : r.se.testBit k = false) : accR r n t = (⟨r.ln, r.rs, false, r.la, t, r.se ||| 2 ^ k⟩, true) := by
  have han : r.an = false := fresh_an h1
  unfold accR
  rw [if_neg (by simp [h1]), if_neg (by simp [h2]), if_neg (by omega), hk, show (- -(k : Int)).toNat = k by omega, if_neg (by simp [hb])]
  show (({ r with se := r.se ||| 2 ^ k, at_ := t } : Rc), true) = _
  rw [← han]
theorem genK_set {f : Nat → Bool} {l s i : Nat} (h : genK f l s < 9223372036854775808) (hi : l - 1 - s = i) (hb : f i = true) : IntKind.u64.wrap (IntKind.u64.wrap (((genK f l s : Nat) : Int) * 2) + 1) = ((genK f l (s + 1) : Nat) : Int) := by
  have e : genK f l (s + 1) = genK f l s * 2 + 1 := by simp only [genK]; rw [hi, hb]; rfl
  rw [e, u64_in (x := ((genK f l s : Nat) : Int) * 2) (by omega) (by omega), u64_in (by omega) (by omega)]
  omega
theorem genK_no {f : Nat → Bool} {l s i : Nat} (h : genK f l s < 9223372036854775808) (hi : l - 1 - s = i) (hb : f i = false) : IntKind.u64.wrap (((genK f l s : Nat) : Int) * 2) = ((genK f l (s + 1) : Nat) : Int) := by
  have e : genK f l (s + 1) = genK f l s * 2 := by simp only [genK]; rw [hi, hb]; rfl
  rw [e, u64_in (by omega) (by omega)]
  omega
end Go.Rc
