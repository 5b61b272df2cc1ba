/-
  No cell of these rows narrows 'for every input' (looked for: loops, veiled, ifaces, maps, wideKeys, modest, calm, conditions, laid).
  DERIVED. THE GIVEN ROWS OF THIS SEAT. 12 by the template 'for every input the law returns true; each argument reads behind the call as it read before'; 0 by the template 'total and deterministic' (their statements: YtffocfffggfenaaTotals.lean).
  GIVEN WITH THE SEED: the statements are not yours to turn. If you find one false, say at which input.
  Laid BY PROGRAM, IN A SANDBOX (cutbox-rows.mjs): the forced cells as the released guide's own fill.sh prints them over the translation 73738a3cde293735… (all of the seat's roots in one cut). By AI agents, Wed Nov 11 2026. No macro, syntax, notation, axiom, sorry.
-/
import Derived.Test.YtffocfffggfenaaChecked
import GoSem.Claim
import GoSem.ClaimJoined
import GoSem.ClaimMapViews
import Derived.JoinedTies
import Derived.KernelRfl
namespace Go.Proofs.Ytffocfffggfenaa
/- THE CELL 'sum', in the pinned program and in every row, IS THE sha256 OF THE DUMP (.gsa) THAT YtffocfffggfenaaProg.lean LOADS. Nothing in Lean hashes anything: it is a label: what it is worth is what the hold of that sum in a sandbox is worth. -/
noncomputable def Try.pinned : Pinned := { name := "ytffocfffggfenaa", sum := "73738a3cde29373525927f505a0ae063882a2264ae82f072f161321c05b59cf3", checked := Try.checked }
namespace Rows
def none {H : Type} : Left H := { results := [], args := [] }

/-- 'isochronlaw37.ChooseStarts': WHATEVER THE INPUT: true; the input reads as it did. -/
def chooseStartsSpec : ChangeSpec := { name := "chooseStarts", fn := fun _ => fun
  | [d1, d2, d3, d4] => { results := [.lit (.bool true)], args := [d1, d2, d3, d4] }
  | _ => none }
def chooseStartsRow : OpenClaim := { program := "ytffocfffggfenaa", sum := "73738a3cde29373525927f505a0ae063882a2264ae82f072f161321c05b59cf3", func := "isochron/isochronlaw37.ChooseStarts", spec := "chooseStarts", unfollowed := true, recurses := true, apart := false }
def ChooseStartsSaid : Prop := chooseStartsRow.holds Try.pinned (OpenSpec.ofChange chooseStartsSpec)

/-- ITS FALSE NEIGHBOUR: 'it returns false'. Refute it at one input. -/
def chooseStartsWrong : ChangeSpec := { name := "chooseStarts", fn := fun _ => fun
  | [d1, d2, d3, d4] => { results := [.lit (.bool false)], args := [d1, d2, d3, d4] }
  | _ => none }
def ChooseStartsWrongFalsely : Prop := chooseStartsRow.holds Try.pinned (OpenSpec.ofChange chooseStartsWrong)

/-- 'isochronlaw37.ChooseWhens': WHATEVER THE INPUT: true; the input reads as it did. -/
def chooseWhensSpec : ChangeSpec := { name := "chooseWhens", fn := fun _ => fun
  | [d1, d2, d3] => { results := [.lit (.bool true)], args := [d1, d2, d3] }
  | _ => none }
def chooseWhensRow : OpenClaim := { program := "ytffocfffggfenaa", sum := "73738a3cde29373525927f505a0ae063882a2264ae82f072f161321c05b59cf3", func := "isochron/isochronlaw37.ChooseWhens", spec := "chooseWhens", unfollowed := true, recurses := true, apart := false }
def ChooseWhensSaid : Prop := chooseWhensRow.holds Try.pinned (OpenSpec.ofChange chooseWhensSpec)

/-- ITS FALSE NEIGHBOUR: 'it returns false'. Refute it at one input. -/
def chooseWhensWrong : ChangeSpec := { name := "chooseWhens", fn := fun _ => fun
  | [d1, d2, d3] => { results := [.lit (.bool false)], args := [d1, d2, d3] }
  | _ => none }
def ChooseWhensWrongFalsely : Prop := chooseWhensRow.holds Try.pinned (OpenSpec.ofChange chooseWhensWrong)

/-- 'isochronlaw37.ChoosePreempts': WHATEVER THE INPUT: true; the input reads as it did. -/
def choosePreemptsSpec : ChangeSpec := { name := "choosePreempts", fn := fun _ => fun
  | [d1, d2, d3, d4, d5] => { results := [.lit (.bool true)], args := [d1, d2, d3, d4, d5] }
  | _ => none }
def choosePreemptsRow : OpenClaim := { program := "ytffocfffggfenaa", sum := "73738a3cde29373525927f505a0ae063882a2264ae82f072f161321c05b59cf3", func := "isochron/isochronlaw37.ChoosePreempts", spec := "choosePreempts", unfollowed := true, recurses := true, apart := false }
def ChoosePreemptsSaid : Prop := choosePreemptsRow.holds Try.pinned (OpenSpec.ofChange choosePreemptsSpec)

/-- ITS FALSE NEIGHBOUR: 'it returns false'. Refute it at one input. -/
def choosePreemptsWrong : ChangeSpec := { name := "choosePreempts", fn := fun _ => fun
  | [d1, d2, d3, d4, d5] => { results := [.lit (.bool false)], args := [d1, d2, d3, d4, d5] }
  | _ => none }
def ChoosePreemptsWrongFalsely : Prop := choosePreemptsRow.holds Try.pinned (OpenSpec.ofChange choosePreemptsWrong)

/-- 'isochronlaw37.ChooseWaits': WHATEVER THE INPUT: true; the input reads as it did. -/
def chooseWaitsSpec : ChangeSpec := { name := "chooseWaits", fn := fun _ => fun
  | [d1, d2, d3, d4] => { results := [.lit (.bool true)], args := [d1, d2, d3, d4] }
  | _ => none }
def chooseWaitsRow : OpenClaim := { program := "ytffocfffggfenaa", sum := "73738a3cde29373525927f505a0ae063882a2264ae82f072f161321c05b59cf3", func := "isochron/isochronlaw37.ChooseWaits", spec := "chooseWaits", unfollowed := true, recurses := true, apart := false }
def ChooseWaitsSaid : Prop := chooseWaitsRow.holds Try.pinned (OpenSpec.ofChange chooseWaitsSpec)

/-- ITS FALSE NEIGHBOUR: 'it returns false'. Refute it at one input. -/
def chooseWaitsWrong : ChangeSpec := { name := "chooseWaits", fn := fun _ => fun
  | [d1, d2, d3, d4] => { results := [.lit (.bool false)], args := [d1, d2, d3, d4] }
  | _ => none }
def ChooseWaitsWrongFalsely : Prop := chooseWaitsRow.holds Try.pinned (OpenSpec.ofChange chooseWaitsWrong)

/-- 'isochronlaw37.ChooseHighest': WHATEVER THE INPUT: true; the input reads as it did. -/
def chooseHighestSpec : ChangeSpec := { name := "chooseHighest", fn := fun _ => fun
  | [d1, d2, d3] => { results := [.lit (.bool true)], args := [d1, d2, d3] }
  | _ => none }
def chooseHighestRow : OpenClaim := { program := "ytffocfffggfenaa", sum := "73738a3cde29373525927f505a0ae063882a2264ae82f072f161321c05b59cf3", func := "isochron/isochronlaw37.ChooseHighest", spec := "chooseHighest", unfollowed := true, recurses := true, apart := false }
def ChooseHighestSaid : Prop := chooseHighestRow.holds Try.pinned (OpenSpec.ofChange chooseHighestSpec)

/-- ITS FALSE NEIGHBOUR: 'it returns false'. Refute it at one input. -/
def chooseHighestWrong : ChangeSpec := { name := "chooseHighest", fn := fun _ => fun
  | [d1, d2, d3] => { results := [.lit (.bool false)], args := [d1, d2, d3] }
  | _ => none }
def ChooseHighestWrongFalsely : Prop := chooseHighestRow.holds Try.pinned (OpenSpec.ofChange chooseHighestWrong)

/-- 'isochronlaw37.ChooseCuts': WHATEVER THE INPUT: true; the input reads as it did. -/
def chooseCutsSpec : ChangeSpec := { name := "chooseCuts", fn := fun _ => fun
  | [d1, d2, d3, d4, d5] => { results := [.lit (.bool true)], args := [d1, d2, d3, d4, d5] }
  | _ => none }
def chooseCutsRow : OpenClaim := { program := "ytffocfffggfenaa", sum := "73738a3cde29373525927f505a0ae063882a2264ae82f072f161321c05b59cf3", func := "isochron/isochronlaw37.ChooseCuts", spec := "chooseCuts", unfollowed := true, recurses := true, apart := false }
def ChooseCutsSaid : Prop := chooseCutsRow.holds Try.pinned (OpenSpec.ofChange chooseCutsSpec)

/-- ITS FALSE NEIGHBOUR: 'it returns false'. Refute it at one input. -/
def chooseCutsWrong : ChangeSpec := { name := "chooseCuts", fn := fun _ => fun
  | [d1, d2, d3, d4, d5] => { results := [.lit (.bool false)], args := [d1, d2, d3, d4, d5] }
  | _ => none }
def ChooseCutsWrongFalsely : Prop := chooseCutsRow.holds Try.pinned (OpenSpec.ofChange chooseCutsWrong)

/-- 'isochronlaw37.ChooseOpen': WHATEVER THE INPUT: true; the input reads as it did. -/
def chooseOpenSpec : ChangeSpec := { name := "chooseOpen", fn := fun _ => fun
  | [d1, d2, d3] => { results := [.lit (.bool true)], args := [d1, d2, d3] }
  | _ => none }
def chooseOpenRow : OpenClaim := { program := "ytffocfffggfenaa", sum := "73738a3cde29373525927f505a0ae063882a2264ae82f072f161321c05b59cf3", func := "isochron/isochronlaw37.ChooseOpen", spec := "chooseOpen", unfollowed := true, recurses := true, apart := false }
def ChooseOpenSaid : Prop := chooseOpenRow.holds Try.pinned (OpenSpec.ofChange chooseOpenSpec)

/-- ITS FALSE NEIGHBOUR: 'it returns false'. Refute it at one input. -/
def chooseOpenWrong : ChangeSpec := { name := "chooseOpen", fn := fun _ => fun
  | [d1, d2, d3] => { results := [.lit (.bool false)], args := [d1, d2, d3] }
  | _ => none }
def ChooseOpenWrongFalsely : Prop := chooseOpenRow.holds Try.pinned (OpenSpec.ofChange chooseOpenWrong)

/-- 'isochronlaw37.ChooseKnown': WHATEVER THE INPUT: true; the input reads as it did. -/
def chooseKnownSpec : ChangeSpec := { name := "chooseKnown", fn := fun _ => fun
  | [] => { results := [.lit (.bool true)], args := [] }
  | _ => none }
def chooseKnownRow : OpenClaim := { program := "ytffocfffggfenaa", sum := "73738a3cde29373525927f505a0ae063882a2264ae82f072f161321c05b59cf3", func := "isochron/isochronlaw37.ChooseKnown", spec := "chooseKnown", unfollowed := true, recurses := true, apart := false }
def ChooseKnownSaid : Prop := chooseKnownRow.holds Try.pinned (OpenSpec.ofChange chooseKnownSpec)

/-- ITS FALSE NEIGHBOUR: 'it returns false'. Refute it at one input. -/
def chooseKnownWrong : ChangeSpec := { name := "chooseKnown", fn := fun _ => fun
  | [] => { results := [.lit (.bool false)], args := [] }
  | _ => none }
def ChooseKnownWrongFalsely : Prop := chooseKnownRow.holds Try.pinned (OpenSpec.ofChange chooseKnownWrong)

/-- 'isochronlaw38.PortNews': WHATEVER THE INPUT: true; the input reads as it did. -/
def portNewsSpec : ChangeSpec := { name := "portNews", fn := fun _ => fun
  | [d1, d2] => { results := [.lit (.bool true)], args := [d1, d2] }
  | _ => none }
def portNewsRow : OpenClaim := { program := "ytffocfffggfenaa", sum := "73738a3cde29373525927f505a0ae063882a2264ae82f072f161321c05b59cf3", func := "isochron/isochronlaw38.PortNews", spec := "portNews", unfollowed := true, recurses := true, apart := false }
def PortNewsSaid : Prop := portNewsRow.holds Try.pinned (OpenSpec.ofChange portNewsSpec)

/-- ITS FALSE NEIGHBOUR: 'it returns false'. Refute it at one input. -/
def portNewsWrong : ChangeSpec := { name := "portNews", fn := fun _ => fun
  | [d1, d2] => { results := [.lit (.bool false)], args := [d1, d2] }
  | _ => none }
def PortNewsWrongFalsely : Prop := portNewsRow.holds Try.pinned (OpenSpec.ofChange portNewsWrong)

/-- 'isochronlaw38.PortOrders': WHATEVER THE INPUT: true; the input reads as it did. -/
def portOrdersSpec : ChangeSpec := { name := "portOrders", fn := fun _ => fun
  | [d1, d2] => { results := [.lit (.bool true)], args := [d1, d2] }
  | _ => none }
def portOrdersRow : OpenClaim := { program := "ytffocfffggfenaa", sum := "73738a3cde29373525927f505a0ae063882a2264ae82f072f161321c05b59cf3", func := "isochron/isochronlaw38.PortOrders", spec := "portOrders", unfollowed := true, recurses := true, apart := false }
def PortOrdersSaid : Prop := portOrdersRow.holds Try.pinned (OpenSpec.ofChange portOrdersSpec)

/-- ITS FALSE NEIGHBOUR: 'it returns false'. Refute it at one input. -/
def portOrdersWrong : ChangeSpec := { name := "portOrders", fn := fun _ => fun
  | [d1, d2] => { results := [.lit (.bool false)], args := [d1, d2] }
  | _ => none }
def PortOrdersWrongFalsely : Prop := portOrdersRow.holds Try.pinned (OpenSpec.ofChange portOrdersWrong)

/-- 'isochronlaw38.PortGates': WHATEVER THE INPUT: true; the input reads as it did. -/
def portGatesSpec : ChangeSpec := { name := "portGates", fn := fun _ => fun
  | [d1, d2, d3] => { results := [.lit (.bool true)], args := [d1, d2, d3] }
  | _ => none }
def portGatesRow : OpenClaim := { program := "ytffocfffggfenaa", sum := "73738a3cde29373525927f505a0ae063882a2264ae82f072f161321c05b59cf3", func := "isochron/isochronlaw38.PortGates", spec := "portGates", unfollowed := true, recurses := true, apart := false }
def PortGatesSaid : Prop := portGatesRow.holds Try.pinned (OpenSpec.ofChange portGatesSpec)

/-- ITS FALSE NEIGHBOUR: 'it returns false'. Refute it at one input. -/
def portGatesWrong : ChangeSpec := { name := "portGates", fn := fun _ => fun
  | [d1, d2, d3] => { results := [.lit (.bool false)], args := [d1, d2, d3] }
  | _ => none }
def PortGatesWrongFalsely : Prop := portGatesRow.holds Try.pinned (OpenSpec.ofChange portGatesWrong)

/-- 'isochronlaw38.PortKnown': WHATEVER THE INPUT: true; the input reads as it did. -/
def portKnownSpec : ChangeSpec := { name := "portKnown", fn := fun _ => fun
  | [] => { results := [.lit (.bool true)], args := [] }
  | _ => none }
def portKnownRow : OpenClaim := { program := "ytffocfffggfenaa", sum := "73738a3cde29373525927f505a0ae063882a2264ae82f072f161321c05b59cf3", func := "isochron/isochronlaw38.PortKnown", spec := "portKnown", unfollowed := true, recurses := true, apart := false }
def PortKnownSaid : Prop := portKnownRow.holds Try.pinned (OpenSpec.ofChange portKnownSpec)

/-- ITS FALSE NEIGHBOUR: 'it returns false'. Refute it at one input. -/
def portKnownWrong : ChangeSpec := { name := "portKnown", fn := fun _ => fun
  | [] => { results := [.lit (.bool false)], args := [] }
  | _ => none }
def PortKnownWrongFalsely : Prop := portKnownRow.holds Try.pinned (OpenSpec.ofChange portKnownWrong)

/- THE SECOND FORM. 'bulk': how many values and letters a reading holds, each counted each time it is reached (what is shared counts as often as it is met; a slice's spare places count too). A statement '..UptoSaid' is the law's where the arguments, and the package variables that the reading takes, are together of bulk at most 1048576: NARROWER than '..Said'. Prove '..Said' where nothing that the law and all that it calls make is longer than what came in: it says more and counts as full. Else prove '..UptoSaid'. A law counts once. -/
mutual
def uptoBulk {H : Type} : DataW H → Nat
  | .lit (.string bytes) => bytes.length + 1
  | .lit _ => 1
  | .nil => 1
  | .ptr d => uptoBulk d + 1
  | .slice elems spare => uptoBulkAll elems + uptoBulkAll spare + 1
  | .agg parts => uptoBulkAll parts + 1
  | .iface _ d => uptoBulk d + 1
  | .map entries => uptoBulkEntries entries + 1
  | .held _ => 1
def uptoBulkAll {H : Type} : List (DataW H) → Nat
  | [] => 0
  | d :: r => uptoBulk d + uptoBulkAll r
def uptoBulkEntries {H : Type} : List (Lit × DataW H) → Nat
  | [] => 0
  | x :: r => uptoBulkEntry x + uptoBulkEntries r
def uptoBulkEntry {H : Type} : Lit × DataW H → Nat
  | (.string bytes, d) => bytes.length + uptoBulk d + 1
  | (_, d) => uptoBulk d + 1
 end
def uptoSmall : (H : Type) → List (DataW H) → Bool := fun _ ds => decide (uptoBulkAll ds ≤ 1048576)
def OpenSpec.upto (s : _root_.Go.ChangeSpec) : _root_.Go.OpenSpec := { _root_.Go.OpenSpec.ofChange s with cond := some uptoSmall }

/-- 'isochronlaw37.ChooseStarts', WHERE WHAT IT READS IS OF BULK AT MOST 1048576: true; the input reads as it did. -/
def chooseStartsUptoRow : OpenClaim := { program := "ytffocfffggfenaa", sum := "73738a3cde29373525927f505a0ae063882a2264ae82f072f161321c05b59cf3", func := "isochron/isochronlaw37.ChooseStarts", spec := "chooseStarts", unfollowed := true, recurses := true, apart := false, narrowed := true }
def ChooseStartsUptoSaid : Prop := chooseStartsUptoRow.holds Try.pinned (OpenSpec.upto chooseStartsSpec)

/-- 'isochronlaw37.ChooseWhens', WHERE WHAT IT READS IS OF BULK AT MOST 1048576: true; the input reads as it did. -/
def chooseWhensUptoRow : OpenClaim := { program := "ytffocfffggfenaa", sum := "73738a3cde29373525927f505a0ae063882a2264ae82f072f161321c05b59cf3", func := "isochron/isochronlaw37.ChooseWhens", spec := "chooseWhens", unfollowed := true, recurses := true, apart := false, narrowed := true }
def ChooseWhensUptoSaid : Prop := chooseWhensUptoRow.holds Try.pinned (OpenSpec.upto chooseWhensSpec)

/-- 'isochronlaw37.ChoosePreempts', WHERE WHAT IT READS IS OF BULK AT MOST 1048576: true; the input reads as it did. -/
def choosePreemptsUptoRow : OpenClaim := { program := "ytffocfffggfenaa", sum := "73738a3cde29373525927f505a0ae063882a2264ae82f072f161321c05b59cf3", func := "isochron/isochronlaw37.ChoosePreempts", spec := "choosePreempts", unfollowed := true, recurses := true, apart := false, narrowed := true }
def ChoosePreemptsUptoSaid : Prop := choosePreemptsUptoRow.holds Try.pinned (OpenSpec.upto choosePreemptsSpec)

/-- 'isochronlaw37.ChooseWaits', WHERE WHAT IT READS IS OF BULK AT MOST 1048576: true; the input reads as it did. -/
def chooseWaitsUptoRow : OpenClaim := { program := "ytffocfffggfenaa", sum := "73738a3cde29373525927f505a0ae063882a2264ae82f072f161321c05b59cf3", func := "isochron/isochronlaw37.ChooseWaits", spec := "chooseWaits", unfollowed := true, recurses := true, apart := false, narrowed := true }
def ChooseWaitsUptoSaid : Prop := chooseWaitsUptoRow.holds Try.pinned (OpenSpec.upto chooseWaitsSpec)

/-- 'isochronlaw37.ChooseHighest', WHERE WHAT IT READS IS OF BULK AT MOST 1048576: true; the input reads as it did. -/
def chooseHighestUptoRow : OpenClaim := { program := "ytffocfffggfenaa", sum := "73738a3cde29373525927f505a0ae063882a2264ae82f072f161321c05b59cf3", func := "isochron/isochronlaw37.ChooseHighest", spec := "chooseHighest", unfollowed := true, recurses := true, apart := false, narrowed := true }
def ChooseHighestUptoSaid : Prop := chooseHighestUptoRow.holds Try.pinned (OpenSpec.upto chooseHighestSpec)

/-- 'isochronlaw37.ChooseCuts', WHERE WHAT IT READS IS OF BULK AT MOST 1048576: true; the input reads as it did. -/
def chooseCutsUptoRow : OpenClaim := { program := "ytffocfffggfenaa", sum := "73738a3cde29373525927f505a0ae063882a2264ae82f072f161321c05b59cf3", func := "isochron/isochronlaw37.ChooseCuts", spec := "chooseCuts", unfollowed := true, recurses := true, apart := false, narrowed := true }
def ChooseCutsUptoSaid : Prop := chooseCutsUptoRow.holds Try.pinned (OpenSpec.upto chooseCutsSpec)

/-- 'isochronlaw37.ChooseOpen', WHERE WHAT IT READS IS OF BULK AT MOST 1048576: true; the input reads as it did. -/
def chooseOpenUptoRow : OpenClaim := { program := "ytffocfffggfenaa", sum := "73738a3cde29373525927f505a0ae063882a2264ae82f072f161321c05b59cf3", func := "isochron/isochronlaw37.ChooseOpen", spec := "chooseOpen", unfollowed := true, recurses := true, apart := false, narrowed := true }
def ChooseOpenUptoSaid : Prop := chooseOpenUptoRow.holds Try.pinned (OpenSpec.upto chooseOpenSpec)

/-- 'isochronlaw37.ChooseKnown', WHERE WHAT IT READS IS OF BULK AT MOST 1048576: true; the input reads as it did. -/
def chooseKnownUptoRow : OpenClaim := { program := "ytffocfffggfenaa", sum := "73738a3cde29373525927f505a0ae063882a2264ae82f072f161321c05b59cf3", func := "isochron/isochronlaw37.ChooseKnown", spec := "chooseKnown", unfollowed := true, recurses := true, apart := false, narrowed := true }
def ChooseKnownUptoSaid : Prop := chooseKnownUptoRow.holds Try.pinned (OpenSpec.upto chooseKnownSpec)

/-- 'isochronlaw38.PortNews', WHERE WHAT IT READS IS OF BULK AT MOST 1048576: true; the input reads as it did. -/
def portNewsUptoRow : OpenClaim := { program := "ytffocfffggfenaa", sum := "73738a3cde29373525927f505a0ae063882a2264ae82f072f161321c05b59cf3", func := "isochron/isochronlaw38.PortNews", spec := "portNews", unfollowed := true, recurses := true, apart := false, narrowed := true }
def PortNewsUptoSaid : Prop := portNewsUptoRow.holds Try.pinned (OpenSpec.upto portNewsSpec)

/-- 'isochronlaw38.PortOrders', WHERE WHAT IT READS IS OF BULK AT MOST 1048576: true; the input reads as it did. -/
def portOrdersUptoRow : OpenClaim := { program := "ytffocfffggfenaa", sum := "73738a3cde29373525927f505a0ae063882a2264ae82f072f161321c05b59cf3", func := "isochron/isochronlaw38.PortOrders", spec := "portOrders", unfollowed := true, recurses := true, apart := false, narrowed := true }
def PortOrdersUptoSaid : Prop := portOrdersUptoRow.holds Try.pinned (OpenSpec.upto portOrdersSpec)

/-- 'isochronlaw38.PortGates', WHERE WHAT IT READS IS OF BULK AT MOST 1048576: true; the input reads as it did. -/
def portGatesUptoRow : OpenClaim := { program := "ytffocfffggfenaa", sum := "73738a3cde29373525927f505a0ae063882a2264ae82f072f161321c05b59cf3", func := "isochron/isochronlaw38.PortGates", spec := "portGates", unfollowed := true, recurses := true, apart := false, narrowed := true }
def PortGatesUptoSaid : Prop := portGatesUptoRow.holds Try.pinned (OpenSpec.upto portGatesSpec)

/-- 'isochronlaw38.PortKnown', WHERE WHAT IT READS IS OF BULK AT MOST 1048576: true; the input reads as it did. -/
def portKnownUptoRow : OpenClaim := { program := "ytffocfffggfenaa", sum := "73738a3cde29373525927f505a0ae063882a2264ae82f072f161321c05b59cf3", func := "isochron/isochronlaw38.PortKnown", spec := "portKnown", unfollowed := true, recurses := true, apart := false, narrowed := true }
def PortKnownUptoSaid : Prop := portKnownUptoRow.holds Try.pinned (OpenSpec.upto portKnownSpec)

end Rows
end Go.Proofs.Ytffocfffggfenaa
