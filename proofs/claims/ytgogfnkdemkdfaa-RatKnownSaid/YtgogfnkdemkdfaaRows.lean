/-
  No cell of these rows narrows 'for every input' (looked for: loops, veiled, ifaces, maps, wideKeys, modest, calm, conditions, laid).
  DERIVED. THE GIVEN ROWS OF THIS SEAT. 7 by the template 'for every input the law returns true; each argument reads behind the call as it read before'; 0 by the template 'total and deterministic' (their statements: YtgogfnkdemkdfaaTotals.lean).
  GIVEN WITH THE SEED: the statements are not yours to turn. If you find one false, say at which input.
  Laid BY PROGRAM, IN A SANDBOX (cutbox-rows.mjs): the forced cells as the released guide's own fill.sh prints them over the translation 79ddb2d122a82d68… (all of the seat's roots in one cut). By AI agents, Wed Nov 11 2026. No macro, syntax, notation, axiom, sorry.
-/
import Derived.Test.YtgogfnkdemkdfaaChecked
import GoSem.Claim
import GoSem.ClaimJoined
import GoSem.ClaimMapViews
import Derived.JoinedTies
import Derived.KernelRfl
namespace Go.Proofs.Ytgogfnkdemkdfaa
/- THE CELL 'sum', in the pinned program and in every row, IS THE sha256 OF THE DUMP (.gsa) THAT YtgogfnkdemkdfaaProg.lean LOADS. Nothing in Lean hashes anything: it is a label: what it is worth is what the hold of that sum in a sandbox is worth. -/
noncomputable def Try.pinned : Pinned := { name := "ytgogfnkdemkdfaa", sum := "79ddb2d122a82d68b6efd57dc4e06d3ab844cfacff240f9d8e7de75b952bc144", checked := Try.checked }
namespace Rows
def none {H : Type} : Left H := { results := [], args := [] }

/-- 'isochronlaw02.RatMakes': WHATEVER THE INPUT: true; the input reads as it did. -/
def ratMakesSpec : ChangeSpec := { name := "ratMakes", fn := fun _ => fun
  | [d1, d2, d3] => { results := [.lit (.bool true)], args := [d1, d2, d3] }
  | _ => none }
def ratMakesRow : OpenClaim := { program := "ytgogfnkdemkdfaa", sum := "79ddb2d122a82d68b6efd57dc4e06d3ab844cfacff240f9d8e7de75b952bc144", func := "isochron/isochronlaw02.RatMakes", spec := "ratMakes", unfollowed := true, recurses := true, apart := false }
def RatMakesSaid : Prop := ratMakesRow.holds Try.pinned (OpenSpec.ofChange ratMakesSpec)

/-- ITS FALSE NEIGHBOUR: 'it returns false'. Refute it at one input. -/
def ratMakesWrong : ChangeSpec := { name := "ratMakes", fn := fun _ => fun
  | [d1, d2, d3] => { results := [.lit (.bool false)], args := [d1, d2, d3] }
  | _ => none }
def RatMakesWrongFalsely : Prop := ratMakesRow.holds Try.pinned (OpenSpec.ofChange ratMakesWrong)

/-- 'isochronlaw02.RatSums': WHATEVER THE INPUT: true; the input reads as it did. -/
def ratSumsSpec : ChangeSpec := { name := "ratSums", fn := fun _ => fun
  | [d1, d2] => { results := [.lit (.bool true)], args := [d1, d2] }
  | _ => none }
def ratSumsRow : OpenClaim := { program := "ytgogfnkdemkdfaa", sum := "79ddb2d122a82d68b6efd57dc4e06d3ab844cfacff240f9d8e7de75b952bc144", func := "isochron/isochronlaw02.RatSums", spec := "ratSums", unfollowed := true, recurses := true, apart := false }
def RatSumsSaid : Prop := ratSumsRow.holds Try.pinned (OpenSpec.ofChange ratSumsSpec)

/-- ITS FALSE NEIGHBOUR: 'it returns false'. Refute it at one input. -/
def ratSumsWrong : ChangeSpec := { name := "ratSums", fn := fun _ => fun
  | [d1, d2] => { results := [.lit (.bool false)], args := [d1, d2] }
  | _ => none }
def RatSumsWrongFalsely : Prop := ratSumsRow.holds Try.pinned (OpenSpec.ofChange ratSumsWrong)

/-- 'isochronlaw02.RatField': WHATEVER THE INPUT: true; the input reads as it did. -/
def ratFieldSpec : ChangeSpec := { name := "ratField", fn := fun _ => fun
  | [d1, d2] => { results := [.lit (.bool true)], args := [d1, d2] }
  | _ => none }
def ratFieldRow : OpenClaim := { program := "ytgogfnkdemkdfaa", sum := "79ddb2d122a82d68b6efd57dc4e06d3ab844cfacff240f9d8e7de75b952bc144", func := "isochron/isochronlaw02.RatField", spec := "ratField", unfollowed := true, recurses := true, apart := false }
def RatFieldSaid : Prop := ratFieldRow.holds Try.pinned (OpenSpec.ofChange ratFieldSpec)

/-- ITS FALSE NEIGHBOUR: 'it returns false'. Refute it at one input. -/
def ratFieldWrong : ChangeSpec := { name := "ratField", fn := fun _ => fun
  | [d1, d2] => { results := [.lit (.bool false)], args := [d1, d2] }
  | _ => none }
def RatFieldWrongFalsely : Prop := ratFieldRow.holds Try.pinned (OpenSpec.ofChange ratFieldWrong)

/-- 'isochronlaw02.RatOrder': WHATEVER THE INPUT: true; the input reads as it did. -/
def ratOrderSpec : ChangeSpec := { name := "ratOrder", fn := fun _ => fun
  | [d1, d2] => { results := [.lit (.bool true)], args := [d1, d2] }
  | _ => none }
def ratOrderRow : OpenClaim := { program := "ytgogfnkdemkdfaa", sum := "79ddb2d122a82d68b6efd57dc4e06d3ab844cfacff240f9d8e7de75b952bc144", func := "isochron/isochronlaw02.RatOrder", spec := "ratOrder", unfollowed := true, recurses := true, apart := false }
def RatOrderSaid : Prop := ratOrderRow.holds Try.pinned (OpenSpec.ofChange ratOrderSpec)

/-- ITS FALSE NEIGHBOUR: 'it returns false'. Refute it at one input. -/
def ratOrderWrong : ChangeSpec := { name := "ratOrder", fn := fun _ => fun
  | [d1, d2] => { results := [.lit (.bool false)], args := [d1, d2] }
  | _ => none }
def RatOrderWrongFalsely : Prop := ratOrderRow.holds Try.pinned (OpenSpec.ofChange ratOrderWrong)

/-- 'isochronlaw02.RatScales': WHATEVER THE INPUT: true; the input reads as it did. -/
def ratScalesSpec : ChangeSpec := { name := "ratScales", fn := fun _ => fun
  | [d1, d2, d3] => { results := [.lit (.bool true)], args := [d1, d2, d3] }
  | _ => none }
def ratScalesRow : OpenClaim := { program := "ytgogfnkdemkdfaa", sum := "79ddb2d122a82d68b6efd57dc4e06d3ab844cfacff240f9d8e7de75b952bc144", func := "isochron/isochronlaw02.RatScales", spec := "ratScales", unfollowed := true, recurses := true, apart := false }
def RatScalesSaid : Prop := ratScalesRow.holds Try.pinned (OpenSpec.ofChange ratScalesSpec)

/-- ITS FALSE NEIGHBOUR: 'it returns false'. Refute it at one input. -/
def ratScalesWrong : ChangeSpec := { name := "ratScales", fn := fun _ => fun
  | [d1, d2, d3] => { results := [.lit (.bool false)], args := [d1, d2, d3] }
  | _ => none }
def RatScalesWrongFalsely : Prop := ratScalesRow.holds Try.pinned (OpenSpec.ofChange ratScalesWrong)

/-- 'isochronlaw02.RatKnown': WHATEVER THE INPUT: true; the input reads as it did. -/
def ratKnownSpec : ChangeSpec := { name := "ratKnown", fn := fun _ => fun
  | [] => { results := [.lit (.bool true)], args := [] }
  | _ => none }
def ratKnownRow : OpenClaim := { program := "ytgogfnkdemkdfaa", sum := "79ddb2d122a82d68b6efd57dc4e06d3ab844cfacff240f9d8e7de75b952bc144", func := "isochron/isochronlaw02.RatKnown", spec := "ratKnown", unfollowed := true, recurses := true, apart := false }
def RatKnownSaid : Prop := ratKnownRow.holds Try.pinned (OpenSpec.ofChange ratKnownSpec)

/-- ITS FALSE NEIGHBOUR: 'it returns false'. Refute it at one input. -/
def ratKnownWrong : ChangeSpec := { name := "ratKnown", fn := fun _ => fun
  | [] => { results := [.lit (.bool false)], args := [] }
  | _ => none }
def RatKnownWrongFalsely : Prop := ratKnownRow.holds Try.pinned (OpenSpec.ofChange ratKnownWrong)

/-- 'isochronlaw02.RatOrders': WHATEVER THE INPUT: true; the input reads as it did. -/
def ratOrdersSpec : ChangeSpec := { name := "ratOrders", fn := fun _ => fun
  | [d1, d2] => { results := [.lit (.bool true)], args := [d1, d2] }
  | _ => none }
def ratOrdersRow : OpenClaim := { program := "ytgogfnkdemkdfaa", sum := "79ddb2d122a82d68b6efd57dc4e06d3ab844cfacff240f9d8e7de75b952bc144", func := "isochron/isochronlaw02.RatOrders", spec := "ratOrders", unfollowed := true, recurses := true, apart := false }
def RatOrdersSaid : Prop := ratOrdersRow.holds Try.pinned (OpenSpec.ofChange ratOrdersSpec)

/-- ITS FALSE NEIGHBOUR: 'it returns false'. Refute it at one input. -/
def ratOrdersWrong : ChangeSpec := { name := "ratOrders", fn := fun _ => fun
  | [d1, d2] => { results := [.lit (.bool false)], args := [d1, d2] }
  | _ => none }
def RatOrdersWrongFalsely : Prop := ratOrdersRow.holds Try.pinned (OpenSpec.ofChange ratOrdersWrong)

/- THE SECOND FORM. 'bulk': how many values and letters a reading holds, each counted each time it is reached (what is shared counts as often as it is met; a slice's spare places count too). A statement '..UptoSaid' is the law's where the arguments, and the package variables that the reading takes, are together of bulk at most 1048576: NARROWER than '..Said'. Prove '..Said' where nothing that the law and all that it calls make is longer than what came in: it says more and counts as full. Else prove '..UptoSaid'. A law counts once. -/
mutual
def uptoBulk {H : Type} : DataW H → Nat
  | .lit (.string bytes) => bytes.length + 1
  | .lit _ => 1
  | .nil => 1
  | .ptr d => uptoBulk d + 1
  | .slice elems spare => uptoBulkAll elems + uptoBulkAll spare + 1
  | .agg parts => uptoBulkAll parts + 1
  | .iface _ d => uptoBulk d + 1
  | .map entries => uptoBulkEntries entries + 1
  | .held _ => 1
def uptoBulkAll {H : Type} : List (DataW H) → Nat
  | [] => 0
  | d :: r => uptoBulk d + uptoBulkAll r
def uptoBulkEntries {H : Type} : List (Lit × DataW H) → Nat
  | [] => 0
  | x :: r => uptoBulkEntry x + uptoBulkEntries r
def uptoBulkEntry {H : Type} : Lit × DataW H → Nat
  | (.string bytes, d) => bytes.length + uptoBulk d + 1
  | (_, d) => uptoBulk d + 1
 end
def uptoSmall : (H : Type) → List (DataW H) → Bool := fun _ ds => decide (uptoBulkAll ds ≤ 1048576)
def OpenSpec.upto (s : _root_.Go.ChangeSpec) : _root_.Go.OpenSpec := { _root_.Go.OpenSpec.ofChange s with cond := some uptoSmall }

/-- 'isochronlaw02.RatMakes', WHERE WHAT IT READS IS OF BULK AT MOST 1048576: true; the input reads as it did. -/
def ratMakesUptoRow : OpenClaim := { program := "ytgogfnkdemkdfaa", sum := "79ddb2d122a82d68b6efd57dc4e06d3ab844cfacff240f9d8e7de75b952bc144", func := "isochron/isochronlaw02.RatMakes", spec := "ratMakes", unfollowed := true, recurses := true, apart := false, narrowed := true }
def RatMakesUptoSaid : Prop := ratMakesUptoRow.holds Try.pinned (OpenSpec.upto ratMakesSpec)

/-- 'isochronlaw02.RatSums', WHERE WHAT IT READS IS OF BULK AT MOST 1048576: true; the input reads as it did. -/
def ratSumsUptoRow : OpenClaim := { program := "ytgogfnkdemkdfaa", sum := "79ddb2d122a82d68b6efd57dc4e06d3ab844cfacff240f9d8e7de75b952bc144", func := "isochron/isochronlaw02.RatSums", spec := "ratSums", unfollowed := true, recurses := true, apart := false, narrowed := true }
def RatSumsUptoSaid : Prop := ratSumsUptoRow.holds Try.pinned (OpenSpec.upto ratSumsSpec)

/-- 'isochronlaw02.RatField', WHERE WHAT IT READS IS OF BULK AT MOST 1048576: true; the input reads as it did. -/
def ratFieldUptoRow : OpenClaim := { program := "ytgogfnkdemkdfaa", sum := "79ddb2d122a82d68b6efd57dc4e06d3ab844cfacff240f9d8e7de75b952bc144", func := "isochron/isochronlaw02.RatField", spec := "ratField", unfollowed := true, recurses := true, apart := false, narrowed := true }
def RatFieldUptoSaid : Prop := ratFieldUptoRow.holds Try.pinned (OpenSpec.upto ratFieldSpec)

/-- 'isochronlaw02.RatOrder', WHERE WHAT IT READS IS OF BULK AT MOST 1048576: true; the input reads as it did. -/
def ratOrderUptoRow : OpenClaim := { program := "ytgogfnkdemkdfaa", sum := "79ddb2d122a82d68b6efd57dc4e06d3ab844cfacff240f9d8e7de75b952bc144", func := "isochron/isochronlaw02.RatOrder", spec := "ratOrder", unfollowed := true, recurses := true, apart := false, narrowed := true }
def RatOrderUptoSaid : Prop := ratOrderUptoRow.holds Try.pinned (OpenSpec.upto ratOrderSpec)

/-- 'isochronlaw02.RatScales', WHERE WHAT IT READS IS OF BULK AT MOST 1048576: true; the input reads as it did. -/
def ratScalesUptoRow : OpenClaim := { program := "ytgogfnkdemkdfaa", sum := "79ddb2d122a82d68b6efd57dc4e06d3ab844cfacff240f9d8e7de75b952bc144", func := "isochron/isochronlaw02.RatScales", spec := "ratScales", unfollowed := true, recurses := true, apart := false, narrowed := true }
def RatScalesUptoSaid : Prop := ratScalesUptoRow.holds Try.pinned (OpenSpec.upto ratScalesSpec)

/-- 'isochronlaw02.RatKnown', WHERE WHAT IT READS IS OF BULK AT MOST 1048576: true; the input reads as it did. -/
def ratKnownUptoRow : OpenClaim := { program := "ytgogfnkdemkdfaa", sum := "79ddb2d122a82d68b6efd57dc4e06d3ab844cfacff240f9d8e7de75b952bc144", func := "isochron/isochronlaw02.RatKnown", spec := "ratKnown", unfollowed := true, recurses := true, apart := false, narrowed := true }
def RatKnownUptoSaid : Prop := ratKnownUptoRow.holds Try.pinned (OpenSpec.upto ratKnownSpec)

/-- 'isochronlaw02.RatOrders', WHERE WHAT IT READS IS OF BULK AT MOST 1048576: true; the input reads as it did. -/
def ratOrdersUptoRow : OpenClaim := { program := "ytgogfnkdemkdfaa", sum := "79ddb2d122a82d68b6efd57dc4e06d3ab844cfacff240f9d8e7de75b952bc144", func := "isochron/isochronlaw02.RatOrders", spec := "ratOrders", unfollowed := true, recurses := true, apart := false, narrowed := true }
def RatOrdersUptoSaid : Prop := ratOrdersUptoRow.holds Try.pinned (OpenSpec.upto ratOrdersSpec)

end Rows
end Go.Proofs.Ytgogfnkdemkdfaa
