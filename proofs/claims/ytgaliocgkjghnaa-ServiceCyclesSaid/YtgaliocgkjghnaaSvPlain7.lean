/-
  The reference's service: bounds.
-/
import Derived.Test.YtgaliocgkjghnaaSvPlain6
namespace Go.Sv
open Go Go.Eng Go.Gt Go.Proofs.Gt Go.Sw
variable {p : Int → Bool} {c cyc lost : Int} {l : List (Int × Int)}
theorem from_rng (hR : Runs p c (c + cyc) l) (hl : 0 ≤ lost) {i : Nat} (hi : i < l.length) : c ≤ fromR l lost i ∧ fromR l lost i ≤ c + cyc := by
  have := hR.at_ hi
  unfold fromR; omega
theorem kdiv {k n : Nat} (hk : k < 2 * n) : k / n = 0 ∨ k / n = 1 := by
  have : k / n < 2 := (Nat.div_lt_iff_lt_mul (by omega)).2 hk
  generalize k / n = d at *
  omega
theorem to_rng (hR : Runs p c (c + cyc) l) (hl : 0 ≤ lost) (hc : 0 ≤ cyc) {k : Nat} (hk : k < 2 * l.length) : c ≤ toR l lost cyc k ∧ toR l lost cyc k ≤ c + 2 * cyc := by
  have hm : k % l.length < l.length := Nat.mod_lt _ (by omega)
  have := hR.at_ hm
  unfold toR
  rcases kdiv hk with h | h <;> rw [h] <;> simp only [Int.natCast_zero, Int.zero_mul, Int.natCast_one, Int.one_mul] <;> omega
theorem cellsR {F : Know} {a : Addr} {n : Nat} (h : RowsK o2 2 F (some a) n l) {i : Int} {k : Nat} (hk : i.toNat = k) (hi : k < l.length) : ∀ j, j < 2 → F ((a.add (i.toNat * 2)).add j) = (o2 (atR l k))[j]? := by
  rw [atR_get hi]; exact h.cells hk hi (o2_len _)
section
variable {es : Ents}
theorem least_rng {per most t lg : Int} (hp : 1 ≤ per ∧ per ≤ 1000 ∧ 84 ≤ most ∧ most ≤ 1542) (hlg : 0 ≤ lg) : -127000 ≤ leastS es cyc per most t lg ∧ leastS es cyc per most t lg ≤ lg := by
  have h1 : 84 * 1 ≤ most * per := Int.mul_le_mul hp.2.2.1 hp.1 (by decide) (by omega)
  have := sumS_bounds (es := es) (cyc := cyc) (lost := most * per) (a := t) (b := t + lg) (by omega) (by omega)
  unfold leastS; split <;> omega
variable {per most R : Int}
theorem termR_rng (hR : Runs p c (c + cyc) l) (hc : 1 ≤ cyc ∧ cyc ≤ 9600000) (hp : 1 ≤ per ∧ per ≤ 1000 ∧ 84 ≤ most ∧ most ≤ 1542) (hl : 0 ≤ most * per) (hR0 : 0 ≤ R) (hRp : R * per ≤ 1048576) {i k : Nat} (hi : i < l.length) (hk : k < 2 * l.length)
    (hlt : fromR l (most * per) i < toR l (most * per) cyc k) : (-70000000000000 ≤ termR es cyc per most R l i k ∧ termR es cyc per most R l i k ≤ 50000000000000) ∧
      (-41943040000000 ≤ (toR l (most * per) cyc k - fromR l (most * per) i) * R ∧ (toR l (most * per) cyc k - fromR l (most * per) i) * R ≤ 41943040000000) ∧
      (-41943040000000 ≤ (toR l (most * per) cyc k - fromR l (most * per) i) * R * per ∧ (toR l (most * per) cyc k - fromR l (most * per) i) * R * per ≤ 41943040000000) := by
  have h1 := from_rng hR hl hi
  have h2 := to_rng hR hl (by omega) hk
  have h3 := prod_rng (x := toR l (most * per) cyc k - fromR l (most * per) i) (X := 40000000) (by omega) hR0 hp.1 hRp
  have h4 := least_rng (es := es) (cyc := cyc) (per := per) (most := most) (t := fromR l (most * per) i) (lg := toR l (most * per) cyc k - fromR l (most * per) i) hp (by omega)
  refine ⟨?_, by omega, by omega⟩
  unfold termR; omega
theorem rIn_rng (hR : Runs p c (c + cyc) l) (hc : 1 ≤ cyc ∧ cyc ≤ 9600000) (hp : 1 ≤ per ∧ per ≤ 1000 ∧ 84 ≤ most ∧ most ≤ 1542) (hl : 0 ≤ most * per) (hR0 : 0 ≤ R) (hRp : R * per ≤ 1048576) {i : Nat} (hi : i < l.length) {w : Int} (hw : 0 ≤ w ∧ w ≤ 50000000000000) :
    ∀ k, k ≤ 2 * l.length → 0 ≤ rIn es cyc per most R l i w k ∧ rIn es cyc per most R l i w k ≤ 50000000000000
  | 0, _ => hw
  | k + 1, h => by
    have ih := rIn_rng hR hc hp hl hR0 hRp hi hw k (by omega)
    unfold rIn
    split
    · rename_i hlt
      have := (termR_rng (es := es) hR hc hp hl hR0 hRp hi (by omega) hlt).1
      omega
    · exact ih
theorem rOut_rng (hR : Runs p c (c + cyc) l) (hc : 1 ≤ cyc ∧ cyc ≤ 9600000) (hp : 1 ≤ per ∧ per ≤ 1000 ∧ 84 ≤ most ∧ most ≤ 1542) (hl : 0 ≤ most * per) (hR0 : 0 ≤ R) (hRp : R * per ≤ 1048576) :
    ∀ i, i ≤ l.length → 0 ≤ rOut es cyc per most R l i ∧ rOut es cyc per most R l i ≤ 50000000000000
  | 0, _ => by unfold rOut; omega
  | i + 1, h => rIn_rng hR hc hp hl hR0 hRp (by omega) (rOut_rng hR hc hp hl hR0 hRp i (by omega)) _ (Nat.le_refl _)
end
end Go.Sv
