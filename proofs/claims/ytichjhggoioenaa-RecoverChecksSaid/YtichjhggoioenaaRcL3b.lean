/-
  Walks through layer 40 and its reference.
-/
import Derived.Test.YtichjhggoioenaaRcL3
namespace Go.Proofs.Rc
open Go Go.Eng Go.Rc
set_option maxRecDepth 4000

theorem nat_of {x : Int} (h : 0 ≤ x ∧ x ≤ 18446744073709551615) : ∃ k : Nat, x = (k : Int) ∧ k < 18446744073709551616 := ⟨x.toNat, by omega, by omega⟩
theorem checks_int {w : World} {F : Know} (hF : ∀ a v, F a = some v → w.cell? a = some v) {l s la ta se : Int} {an : Bool} (h1 : 0 ≤ se ∧ se ≤ 18446744073709551615) {dl ds dla dt dse : Int} {dan : Bool} (h2 : 0 ≤ dl ∧ dl ≤ 255) (h3 : 0 ≤ ds ∧ ds ≤ 4294967295) (h4 : 0 ≤ dla ∧ dla ≤ 65535) (h5 : 0 ≤ dt ∧ dt ≤ 4294967295) (h6 : 0 ≤ dse ∧ dse ≤ 18446744073709551615) {wh bz : Int} (h7 : 0 ≤ wh ∧ wh ≤ 255) (h8 : 0 ≤ bz ∧ bz ≤ 18446744073709551615) :
    Pure Try.prog 3 [.agg [.int .i64 l, .int .i64 s, .bool an, .int .i64 la, .int .i64 ta, .int .u64 se].toArray, .agg [.int .u8 dl, .int .u32 ds, .bool dan, .int .u16 dla, .int .u32 dt, .int .u64 dse].toArray, .int .u8 wh, .int .u64 bz] w (.bool true) := by
  obtain ⟨k1, rfl, g1⟩ := nat_of h1
  obtain ⟨k2, rfl, g2⟩ := nat_of h6
  obtain ⟨k3, rfl, g3⟩ := nat_of h8
  exact checks_ok (r := ⟨l, s, an, la, ta, k1⟩) hF g1 (d := ⟨dl, ds, dan, dla, dt, k2⟩) ⟨h2, h3, h4, h5, g2⟩ h7 g3
end Go.Proofs.Rc
