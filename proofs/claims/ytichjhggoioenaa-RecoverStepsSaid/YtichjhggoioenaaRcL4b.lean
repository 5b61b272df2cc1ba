/-
  Walks through layer 40 and its reference.
-/
import Derived.Test.YtichjhggoioenaaRcL4
namespace Go.Proofs.Rc
open Go Go.Eng Go.Rc
set_option maxRecDepth 4000

theorem steps_int {w : World} {F : Know} (hF : ∀ a v, F a = some v → w.cell? a = some v) {l s la ta se : Int} {an : Bool} (h1 : 0 ≤ se ∧ se ≤ 18446744073709551615) {dl ds dla dt dse : Int} {dan : Bool} (h2 : 0 ≤ dl ∧ dl ≤ 255) (h3 : 0 ≤ ds ∧ ds ≤ 4294967295) (h4 : 0 ≤ dla ∧ dla ≤ 65535) (h5 : 0 ≤ dt ∧ dt ≤ 4294967295) (h6 : 0 ≤ dse ∧ dse ≤ 18446744073709551615) {n t nr : Int} (h7 : -128 ≤ nr ∧ nr ≤ 127) :
    Pure Try.prog 4 [.agg [.int .i64 l, .int .i64 s, .bool an, .int .i64 la, .int .i64 ta, .int .u64 se].toArray, .agg [.int .u8 dl, .int .u32 ds, .bool dan, .int .u16 dla, .int .u32 dt, .int .u64 dse].toArray, .int .i64 n, .int .i64 t, .int .i8 nr] w (.bool true) := by
  obtain ⟨k1, rfl, g1⟩ : ∃ k : Nat, se = (k : Int) ∧ k < 18446744073709551616 := ⟨se.toNat, by omega, by omega⟩
  obtain ⟨k2, rfl, g2⟩ : ∃ k : Nat, dse = (k : Int) ∧ k < 18446744073709551616 := ⟨dse.toNat, by omega, by omega⟩
  exact steps_ok (r := ⟨l, s, an, la, ta, k1⟩) hF g1 (d := ⟨dl, ds, dan, dla, dt, k2⟩) ⟨h2, h3, h4, h5, g2⟩ h7
end Go.Proofs.Rc
