/-
  No cell of these rows narrows 'for every input' (looked for: loops, veiled, ifaces, maps, wideKeys, modest, calm, conditions, laid).
  DERIVED. THE GIVEN ROWS OF THIS SEAT. 6 by the template 'for every input the law returns true; each argument reads behind the call as it read before'; 0 by the template 'total and deterministic' (their statements: YtopaidnhgkejiaaTotals.lean).
  GIVEN WITH THE SEED: the statements are not yours to turn. If you find one false, say at which input.
  Laid BY PROGRAM, IN A SANDBOX (cutbox-rows.mjs): the forced cells as the released guide's own fill.sh prints them over the translation b5a84d173ba731e6… (all of the seat's roots in one cut). By AI agents, Wed Nov 11 2026. No macro, syntax, notation, axiom, sorry.
-/
import Derived.Test.YtopaidnhgkejiaaChecked
import GoSem.Claim
import GoSem.ClaimJoined
import GoSem.ClaimMapViews
import Derived.JoinedTies
import Derived.KernelRfl
namespace Go.Proofs.Ytopaidnhgkejiaa
/- THE CELL 'sum', in the pinned program and in every row, IS THE sha256 OF THE DUMP (.gsa) THAT YtopaidnhgkejiaaProg.lean LOADS. Nothing in Lean hashes anything: it is a label: what it is worth is what the hold of that sum in a sandbox is worth. -/
noncomputable def Try.pinned : Pinned := { name := "ytopaidnhgkejiaa", sum := "b5a84d173ba731e644094eec9d5c6415a44917a06184562349ce830847b427f1", checked := Try.checked }
namespace Rows
def none {H : Type} : Left H := { results := [], args := [] }

/-- 'isochronlaw36.QueueChecks': WHATEVER THE INPUT: true; the input reads as it did. -/
def queueChecksSpec : ChangeSpec := { name := "queueChecks", fn := fun _ => fun
  | [d1, d2, d3] => { results := [.lit (.bool true)], args := [d1, d2, d3] }
  | _ => none }
def queueChecksRow : OpenClaim := { program := "ytopaidnhgkejiaa", sum := "b5a84d173ba731e644094eec9d5c6415a44917a06184562349ce830847b427f1", func := "isochron/isochronlaw36.QueueChecks", spec := "queueChecks", unfollowed := true, recurses := true, apart := false }
def QueueChecksSaid : Prop := queueChecksRow.holds Try.pinned (OpenSpec.ofChange queueChecksSpec)

/-- ITS FALSE NEIGHBOUR: 'it returns false'. Refute it at one input. -/
def queueChecksWrong : ChangeSpec := { name := "queueChecks", fn := fun _ => fun
  | [d1, d2, d3] => { results := [.lit (.bool false)], args := [d1, d2, d3] }
  | _ => none }
def QueueChecksWrongFalsely : Prop := queueChecksRow.holds Try.pinned (OpenSpec.ofChange queueChecksWrong)

/-- 'isochronlaw36.QueuePushes': WHATEVER THE INPUT: true; the input reads as it did. -/
def queuePushesSpec : ChangeSpec := { name := "queuePushes", fn := fun _ => fun
  | [d1, d2] => { results := [.lit (.bool true)], args := [d1, d2] }
  | _ => none }
def queuePushesRow : OpenClaim := { program := "ytopaidnhgkejiaa", sum := "b5a84d173ba731e644094eec9d5c6415a44917a06184562349ce830847b427f1", func := "isochron/isochronlaw36.QueuePushes", spec := "queuePushes", unfollowed := true, recurses := true, apart := false }
def QueuePushesSaid : Prop := queuePushesRow.holds Try.pinned (OpenSpec.ofChange queuePushesSpec)

/-- ITS FALSE NEIGHBOUR: 'it returns false'. Refute it at one input. -/
def queuePushesWrong : ChangeSpec := { name := "queuePushes", fn := fun _ => fun
  | [d1, d2] => { results := [.lit (.bool false)], args := [d1, d2] }
  | _ => none }
def QueuePushesWrongFalsely : Prop := queuePushesRow.holds Try.pinned (OpenSpec.ofChange queuePushesWrong)

/-- 'isochronlaw36.QueuePops': WHATEVER THE INPUT: true; the input reads as it did. -/
def queuePopsSpec : ChangeSpec := { name := "queuePops", fn := fun _ => fun
  | [d1, d2] => { results := [.lit (.bool true)], args := [d1, d2] }
  | _ => none }
def queuePopsRow : OpenClaim := { program := "ytopaidnhgkejiaa", sum := "b5a84d173ba731e644094eec9d5c6415a44917a06184562349ce830847b427f1", func := "isochron/isochronlaw36.QueuePops", spec := "queuePops", unfollowed := true, recurses := true, apart := false }
def QueuePopsSaid : Prop := queuePopsRow.holds Try.pinned (OpenSpec.ofChange queuePopsSpec)

/-- ITS FALSE NEIGHBOUR: 'it returns false'. Refute it at one input. -/
def queuePopsWrong : ChangeSpec := { name := "queuePops", fn := fun _ => fun
  | [d1, d2] => { results := [.lit (.bool false)], args := [d1, d2] }
  | _ => none }
def QueuePopsWrongFalsely : Prop := queuePopsRow.holds Try.pinned (OpenSpec.ofChange queuePopsWrong)

/-- 'isochronlaw36.QueueOrders': WHATEVER THE INPUT: true; the input reads as it did. -/
def queueOrdersSpec : ChangeSpec := { name := "queueOrders", fn := fun _ => fun
  | [d1, d2] => { results := [.lit (.bool true)], args := [d1, d2] }
  | _ => none }
def queueOrdersRow : OpenClaim := { program := "ytopaidnhgkejiaa", sum := "b5a84d173ba731e644094eec9d5c6415a44917a06184562349ce830847b427f1", func := "isochron/isochronlaw36.QueueOrders", spec := "queueOrders", unfollowed := true, recurses := true, apart := false }
def QueueOrdersSaid : Prop := queueOrdersRow.holds Try.pinned (OpenSpec.ofChange queueOrdersSpec)

/-- ITS FALSE NEIGHBOUR: 'it returns false'. Refute it at one input. -/
def queueOrdersWrong : ChangeSpec := { name := "queueOrders", fn := fun _ => fun
  | [d1, d2] => { results := [.lit (.bool false)], args := [d1, d2] }
  | _ => none }
def QueueOrdersWrongFalsely : Prop := queueOrdersRow.holds Try.pinned (OpenSpec.ofChange queueOrdersWrong)

/-- 'isochronlaw36.QueueCounts': WHATEVER THE INPUT: true; the input reads as it did. -/
def queueCountsSpec : ChangeSpec := { name := "queueCounts", fn := fun _ => fun
  | [d1, d2, d3] => { results := [.lit (.bool true)], args := [d1, d2, d3] }
  | _ => none }
def queueCountsRow : OpenClaim := { program := "ytopaidnhgkejiaa", sum := "b5a84d173ba731e644094eec9d5c6415a44917a06184562349ce830847b427f1", func := "isochron/isochronlaw36.QueueCounts", spec := "queueCounts", unfollowed := true, recurses := true, apart := false }
def QueueCountsSaid : Prop := queueCountsRow.holds Try.pinned (OpenSpec.ofChange queueCountsSpec)

/-- ITS FALSE NEIGHBOUR: 'it returns false'. Refute it at one input. -/
def queueCountsWrong : ChangeSpec := { name := "queueCounts", fn := fun _ => fun
  | [d1, d2, d3] => { results := [.lit (.bool false)], args := [d1, d2, d3] }
  | _ => none }
def QueueCountsWrongFalsely : Prop := queueCountsRow.holds Try.pinned (OpenSpec.ofChange queueCountsWrong)

/-- 'isochronlaw36.QueueKnown': WHATEVER THE INPUT: true; the input reads as it did. -/
def queueKnownSpec : ChangeSpec := { name := "queueKnown", fn := fun _ => fun
  | [] => { results := [.lit (.bool true)], args := [] }
  | _ => none }
def queueKnownRow : OpenClaim := { program := "ytopaidnhgkejiaa", sum := "b5a84d173ba731e644094eec9d5c6415a44917a06184562349ce830847b427f1", func := "isochron/isochronlaw36.QueueKnown", spec := "queueKnown", unfollowed := true, recurses := true, apart := false }
def QueueKnownSaid : Prop := queueKnownRow.holds Try.pinned (OpenSpec.ofChange queueKnownSpec)

/-- ITS FALSE NEIGHBOUR: 'it returns false'. Refute it at one input. -/
def queueKnownWrong : ChangeSpec := { name := "queueKnown", fn := fun _ => fun
  | [] => { results := [.lit (.bool false)], args := [] }
  | _ => none }
def QueueKnownWrongFalsely : Prop := queueKnownRow.holds Try.pinned (OpenSpec.ofChange queueKnownWrong)

/- THE SECOND FORM. 'bulk': how many values and letters a reading holds, each counted each time it is reached (what is shared counts as often as it is met; a slice's spare places count too). A statement '..UptoSaid' is the law's where the arguments, and the package variables that the reading takes, are together of bulk at most 1048576: NARROWER than '..Said'. Prove '..Said' where nothing that the law and all that it calls make is longer than what came in: it says more and counts as full. Else prove '..UptoSaid'. A law counts once. -/
mutual
def uptoBulk {H : Type} : DataW H → Nat
  | .lit (.string bytes) => bytes.length + 1
  | .lit _ => 1
  | .nil => 1
  | .ptr d => uptoBulk d + 1
  | .slice elems spare => uptoBulkAll elems + uptoBulkAll spare + 1
  | .agg parts => uptoBulkAll parts + 1
  | .iface _ d => uptoBulk d + 1
  | .map entries => uptoBulkEntries entries + 1
  | .held _ => 1
def uptoBulkAll {H : Type} : List (DataW H) → Nat
  | [] => 0
  | d :: r => uptoBulk d + uptoBulkAll r
def uptoBulkEntries {H : Type} : List (Lit × DataW H) → Nat
  | [] => 0
  | x :: r => uptoBulkEntry x + uptoBulkEntries r
def uptoBulkEntry {H : Type} : Lit × DataW H → Nat
  | (.string bytes, d) => bytes.length + uptoBulk d + 1
  | (_, d) => uptoBulk d + 1
 end
def uptoSmall : (H : Type) → List (DataW H) → Bool := fun _ ds => decide (uptoBulkAll ds ≤ 1048576)
def OpenSpec.upto (s : _root_.Go.ChangeSpec) : _root_.Go.OpenSpec := { _root_.Go.OpenSpec.ofChange s with cond := some uptoSmall }

/-- 'isochronlaw36.QueueChecks', WHERE WHAT IT READS IS OF BULK AT MOST 1048576: true; the input reads as it did. -/
def queueChecksUptoRow : OpenClaim := { program := "ytopaidnhgkejiaa", sum := "b5a84d173ba731e644094eec9d5c6415a44917a06184562349ce830847b427f1", func := "isochron/isochronlaw36.QueueChecks", spec := "queueChecks", unfollowed := true, recurses := true, apart := false, narrowed := true }
def QueueChecksUptoSaid : Prop := queueChecksUptoRow.holds Try.pinned (OpenSpec.upto queueChecksSpec)

/-- 'isochronlaw36.QueuePushes', WHERE WHAT IT READS IS OF BULK AT MOST 1048576: true; the input reads as it did. -/
def queuePushesUptoRow : OpenClaim := { program := "ytopaidnhgkejiaa", sum := "b5a84d173ba731e644094eec9d5c6415a44917a06184562349ce830847b427f1", func := "isochron/isochronlaw36.QueuePushes", spec := "queuePushes", unfollowed := true, recurses := true, apart := false, narrowed := true }
def QueuePushesUptoSaid : Prop := queuePushesUptoRow.holds Try.pinned (OpenSpec.upto queuePushesSpec)

/-- 'isochronlaw36.QueuePops', WHERE WHAT IT READS IS OF BULK AT MOST 1048576: true; the input reads as it did. -/
def queuePopsUptoRow : OpenClaim := { program := "ytopaidnhgkejiaa", sum := "b5a84d173ba731e644094eec9d5c6415a44917a06184562349ce830847b427f1", func := "isochron/isochronlaw36.QueuePops", spec := "queuePops", unfollowed := true, recurses := true, apart := false, narrowed := true }
def QueuePopsUptoSaid : Prop := queuePopsUptoRow.holds Try.pinned (OpenSpec.upto queuePopsSpec)

/-- 'isochronlaw36.QueueOrders', WHERE WHAT IT READS IS OF BULK AT MOST 1048576: true; the input reads as it did. -/
def queueOrdersUptoRow : OpenClaim := { program := "ytopaidnhgkejiaa", sum := "b5a84d173ba731e644094eec9d5c6415a44917a06184562349ce830847b427f1", func := "isochron/isochronlaw36.QueueOrders", spec := "queueOrders", unfollowed := true, recurses := true, apart := false, narrowed := true }
def QueueOrdersUptoSaid : Prop := queueOrdersUptoRow.holds Try.pinned (OpenSpec.upto queueOrdersSpec)

/-- 'isochronlaw36.QueueCounts', WHERE WHAT IT READS IS OF BULK AT MOST 1048576: true; the input reads as it did. -/
def queueCountsUptoRow : OpenClaim := { program := "ytopaidnhgkejiaa", sum := "b5a84d173ba731e644094eec9d5c6415a44917a06184562349ce830847b427f1", func := "isochron/isochronlaw36.QueueCounts", spec := "queueCounts", unfollowed := true, recurses := true, apart := false, narrowed := true }
def QueueCountsUptoSaid : Prop := queueCountsUptoRow.holds Try.pinned (OpenSpec.upto queueCountsSpec)

/-- 'isochronlaw36.QueueKnown', WHERE WHAT IT READS IS OF BULK AT MOST 1048576: true; the input reads as it did. -/
def queueKnownUptoRow : OpenClaim := { program := "ytopaidnhgkejiaa", sum := "b5a84d173ba731e644094eec9d5c6415a44917a06184562349ce830847b427f1", func := "isochron/isochronlaw36.QueueKnown", spec := "queueKnown", unfollowed := true, recurses := true, apart := false, narrowed := true }
def QueueKnownUptoSaid : Prop := queueKnownUptoRow.holds Try.pinned (OpenSpec.upto queueKnownSpec)

end Rows
end Go.Proofs.Ytopaidnhgkejiaa
