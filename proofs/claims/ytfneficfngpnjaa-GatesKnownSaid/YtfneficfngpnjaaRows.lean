/-
  No cell of these rows narrows 'for every input' (looked for: loops, veiled, ifaces, maps, wideKeys, modest, calm, conditions, laid).
  DERIVED. THE GIVEN ROWS OF THIS SEAT. 7 by the template 'for every input the law returns true; each argument reads behind the call as it read before'; 0 by the template 'total and deterministic' (their statements: YtfneficfngpnjaaTotals.lean).
  GIVEN WITH THE SEED: the statements are not yours to turn. If you find one false, say at which input.
  Laid BY PROGRAM, IN A SANDBOX (cutbox-rows.mjs): the forced cells as the released guide's own fill.sh prints them over the translation 3703c55e90d46833… (all of the seat's roots in one cut). By AI agents, Wed Nov 11 2026. No macro, syntax, notation, axiom, sorry.
-/
import Derived.Test.YtfneficfngpnjaaChecked
import GoSem.Claim
import GoSem.ClaimJoined
import GoSem.ClaimMapViews
import Derived.JoinedTies
import Derived.KernelRfl
namespace Go.Proofs.Ytfneficfngpnjaa
/- THE CELL 'sum', in the pinned program and in every row, IS THE sha256 OF THE DUMP (.gsa) THAT YtfneficfngpnjaaProg.lean LOADS. Nothing in Lean hashes anything: it is a label: what it is worth is what the hold of that sum in a sandbox is worth. -/
noncomputable def Try.pinned : Pinned := { name := "ytfneficfngpnjaa", sum := "3703c55e90d46833fdce6dc987c27fcc2b2a664d7ad4b8cdc43796c62c8d1a41", checked := Try.checked }
namespace Rows
def none {H : Type} : Left H := { results := [], args := [] }

/-- 'isochronlaw27.GatesChecks': WHATEVER THE INPUT: true; the input reads as it did. -/
def gatesChecksSpec : ChangeSpec := { name := "gatesChecks", fn := fun _ => fun
  | [d1, d2, d3, d4] => { results := [.lit (.bool true)], args := [d1, d2, d3, d4] }
  | _ => none }
def gatesChecksRow : OpenClaim := { program := "ytfneficfngpnjaa", sum := "3703c55e90d46833fdce6dc987c27fcc2b2a664d7ad4b8cdc43796c62c8d1a41", func := "isochron/isochronlaw27.GatesChecks", spec := "gatesChecks", unfollowed := true, recurses := true, apart := false }
def GatesChecksSaid : Prop := gatesChecksRow.holds Try.pinned (OpenSpec.ofChange gatesChecksSpec)

/-- ITS FALSE NEIGHBOUR: 'it returns false'. Refute it at one input. -/
def gatesChecksWrong : ChangeSpec := { name := "gatesChecks", fn := fun _ => fun
  | [d1, d2, d3, d4] => { results := [.lit (.bool false)], args := [d1, d2, d3, d4] }
  | _ => none }
def GatesChecksWrongFalsely : Prop := gatesChecksRow.holds Try.pinned (OpenSpec.ofChange gatesChecksWrong)

/-- 'isochronlaw27.GatesOpens': WHATEVER THE INPUT: true; the input reads as it did. -/
def gatesOpensSpec : ChangeSpec := { name := "gatesOpens", fn := fun _ => fun
  | [d1, d2, d3, d4] => { results := [.lit (.bool true)], args := [d1, d2, d3, d4] }
  | _ => none }
def gatesOpensRow : OpenClaim := { program := "ytfneficfngpnjaa", sum := "3703c55e90d46833fdce6dc987c27fcc2b2a664d7ad4b8cdc43796c62c8d1a41", func := "isochron/isochronlaw27.GatesOpens", spec := "gatesOpens", unfollowed := true, recurses := true, apart := false }
def GatesOpensSaid : Prop := gatesOpensRow.holds Try.pinned (OpenSpec.ofChange gatesOpensSpec)

/-- ITS FALSE NEIGHBOUR: 'it returns false'. Refute it at one input. -/
def gatesOpensWrong : ChangeSpec := { name := "gatesOpens", fn := fun _ => fun
  | [d1, d2, d3, d4] => { results := [.lit (.bool false)], args := [d1, d2, d3, d4] }
  | _ => none }
def GatesOpensWrongFalsely : Prop := gatesOpensRow.holds Try.pinned (OpenSpec.ofChange gatesOpensWrong)

/-- 'isochronlaw27.GatesFinds': WHATEVER THE INPUT: true; the input reads as it did. -/
def gatesFindsSpec : ChangeSpec := { name := "gatesFinds", fn := fun _ => fun
  | [d1, d2, d3, d4] => { results := [.lit (.bool true)], args := [d1, d2, d3, d4] }
  | _ => none }
def gatesFindsRow : OpenClaim := { program := "ytfneficfngpnjaa", sum := "3703c55e90d46833fdce6dc987c27fcc2b2a664d7ad4b8cdc43796c62c8d1a41", func := "isochron/isochronlaw27.GatesFinds", spec := "gatesFinds", unfollowed := true, recurses := true, apart := false }
def GatesFindsSaid : Prop := gatesFindsRow.holds Try.pinned (OpenSpec.ofChange gatesFindsSpec)

/-- ITS FALSE NEIGHBOUR: 'it returns false'. Refute it at one input. -/
def gatesFindsWrong : ChangeSpec := { name := "gatesFinds", fn := fun _ => fun
  | [d1, d2, d3, d4] => { results := [.lit (.bool false)], args := [d1, d2, d3, d4] }
  | _ => none }
def GatesFindsWrongFalsely : Prop := gatesFindsRow.holds Try.pinned (OpenSpec.ofChange gatesFindsWrong)

/-- 'isochronlaw27.GatesMeans': WHATEVER THE INPUT: true; the input reads as it did. -/
def gatesMeansSpec : ChangeSpec := { name := "gatesMeans", fn := fun _ => fun
  | [d1, d2, d3, d4] => { results := [.lit (.bool true)], args := [d1, d2, d3, d4] }
  | _ => none }
def gatesMeansRow : OpenClaim := { program := "ytfneficfngpnjaa", sum := "3703c55e90d46833fdce6dc987c27fcc2b2a664d7ad4b8cdc43796c62c8d1a41", func := "isochron/isochronlaw27.GatesMeans", spec := "gatesMeans", unfollowed := true, recurses := true, apart := false }
def GatesMeansSaid : Prop := gatesMeansRow.holds Try.pinned (OpenSpec.ofChange gatesMeansSpec)

/-- ITS FALSE NEIGHBOUR: 'it returns false'. Refute it at one input. -/
def gatesMeansWrong : ChangeSpec := { name := "gatesMeans", fn := fun _ => fun
  | [d1, d2, d3, d4] => { results := [.lit (.bool false)], args := [d1, d2, d3, d4] }
  | _ => none }
def GatesMeansWrongFalsely : Prop := gatesMeansRow.holds Try.pinned (OpenSpec.ofChange gatesMeansWrong)

/-- 'isochronlaw27.GatesLeast': WHATEVER THE INPUT: true; the input reads as it did. -/
def gatesLeastSpec : ChangeSpec := { name := "gatesLeast", fn := fun _ => fun
  | [d1, d2, d3, d4] => { results := [.lit (.bool true)], args := [d1, d2, d3, d4] }
  | _ => none }
def gatesLeastRow : OpenClaim := { program := "ytfneficfngpnjaa", sum := "3703c55e90d46833fdce6dc987c27fcc2b2a664d7ad4b8cdc43796c62c8d1a41", func := "isochron/isochronlaw27.GatesLeast", spec := "gatesLeast", unfollowed := true, recurses := true, apart := false }
def GatesLeastSaid : Prop := gatesLeastRow.holds Try.pinned (OpenSpec.ofChange gatesLeastSpec)

/-- ITS FALSE NEIGHBOUR: 'it returns false'. Refute it at one input. -/
def gatesLeastWrong : ChangeSpec := { name := "gatesLeast", fn := fun _ => fun
  | [d1, d2, d3, d4] => { results := [.lit (.bool false)], args := [d1, d2, d3, d4] }
  | _ => none }
def GatesLeastWrongFalsely : Prop := gatesLeastRow.holds Try.pinned (OpenSpec.ofChange gatesLeastWrong)

/-- 'isochronlaw27.GatesTurns': WHATEVER THE INPUT: true; the input reads as it did. -/
def gatesTurnsSpec : ChangeSpec := { name := "gatesTurns", fn := fun _ => fun
  | [d1, d2] => { results := [.lit (.bool true)], args := [d1, d2] }
  | _ => none }
def gatesTurnsRow : OpenClaim := { program := "ytfneficfngpnjaa", sum := "3703c55e90d46833fdce6dc987c27fcc2b2a664d7ad4b8cdc43796c62c8d1a41", func := "isochron/isochronlaw27.GatesTurns", spec := "gatesTurns", unfollowed := true, recurses := true, apart := false }
def GatesTurnsSaid : Prop := gatesTurnsRow.holds Try.pinned (OpenSpec.ofChange gatesTurnsSpec)

/-- ITS FALSE NEIGHBOUR: 'it returns false'. Refute it at one input. -/
def gatesTurnsWrong : ChangeSpec := { name := "gatesTurns", fn := fun _ => fun
  | [d1, d2] => { results := [.lit (.bool false)], args := [d1, d2] }
  | _ => none }
def GatesTurnsWrongFalsely : Prop := gatesTurnsRow.holds Try.pinned (OpenSpec.ofChange gatesTurnsWrong)

/-- 'isochronlaw27.GatesKnown': WHATEVER THE INPUT: true; the input reads as it did. -/
def gatesKnownSpec : ChangeSpec := { name := "gatesKnown", fn := fun _ => fun
  | [] => { results := [.lit (.bool true)], args := [] }
  | _ => none }
def gatesKnownRow : OpenClaim := { program := "ytfneficfngpnjaa", sum := "3703c55e90d46833fdce6dc987c27fcc2b2a664d7ad4b8cdc43796c62c8d1a41", func := "isochron/isochronlaw27.GatesKnown", spec := "gatesKnown", unfollowed := true, recurses := true, apart := false }
def GatesKnownSaid : Prop := gatesKnownRow.holds Try.pinned (OpenSpec.ofChange gatesKnownSpec)

/-- ITS FALSE NEIGHBOUR: 'it returns false'. Refute it at one input. -/
def gatesKnownWrong : ChangeSpec := { name := "gatesKnown", fn := fun _ => fun
  | [] => { results := [.lit (.bool false)], args := [] }
  | _ => none }
def GatesKnownWrongFalsely : Prop := gatesKnownRow.holds Try.pinned (OpenSpec.ofChange gatesKnownWrong)

/- THE SECOND FORM. 'bulk': how many values and letters a reading holds, each counted each time it is reached (what is shared counts as often as it is met; a slice's spare places count too). A statement '..UptoSaid' is the law's where the arguments, and the package variables that the reading takes, are together of bulk at most 1048576: NARROWER than '..Said'. Prove '..Said' where nothing that the law and all that it calls make is longer than what came in: it says more and counts as full. Else prove '..UptoSaid'. A law counts once. -/
mutual
def uptoBulk {H : Type} : DataW H → Nat
  | .lit (.string bytes) => bytes.length + 1
  | .lit _ => 1
  | .nil => 1
  | .ptr d => uptoBulk d + 1
  | .slice elems spare => uptoBulkAll elems + uptoBulkAll spare + 1
  | .agg parts => uptoBulkAll parts + 1
  | .iface _ d => uptoBulk d + 1
  | .map entries => uptoBulkEntries entries + 1
  | .held _ => 1
def uptoBulkAll {H : Type} : List (DataW H) → Nat
  | [] => 0
  | d :: r => uptoBulk d + uptoBulkAll r
def uptoBulkEntries {H : Type} : List (Lit × DataW H) → Nat
  | [] => 0
  | x :: r => uptoBulkEntry x + uptoBulkEntries r
def uptoBulkEntry {H : Type} : Lit × DataW H → Nat
  | (.string bytes, d) => bytes.length + uptoBulk d + 1
  | (_, d) => uptoBulk d + 1
 end
def uptoSmall : (H : Type) → List (DataW H) → Bool := fun _ ds => decide (uptoBulkAll ds ≤ 1048576)
def OpenSpec.upto (s : _root_.Go.ChangeSpec) : _root_.Go.OpenSpec := { _root_.Go.OpenSpec.ofChange s with cond := some uptoSmall }

/-- 'isochronlaw27.GatesChecks', WHERE WHAT IT READS IS OF BULK AT MOST 1048576: true; the input reads as it did. -/
def gatesChecksUptoRow : OpenClaim := { program := "ytfneficfngpnjaa", sum := "3703c55e90d46833fdce6dc987c27fcc2b2a664d7ad4b8cdc43796c62c8d1a41", func := "isochron/isochronlaw27.GatesChecks", spec := "gatesChecks", unfollowed := true, recurses := true, apart := false, narrowed := true }
def GatesChecksUptoSaid : Prop := gatesChecksUptoRow.holds Try.pinned (OpenSpec.upto gatesChecksSpec)

/-- 'isochronlaw27.GatesOpens', WHERE WHAT IT READS IS OF BULK AT MOST 1048576: true; the input reads as it did. -/
def gatesOpensUptoRow : OpenClaim := { program := "ytfneficfngpnjaa", sum := "3703c55e90d46833fdce6dc987c27fcc2b2a664d7ad4b8cdc43796c62c8d1a41", func := "isochron/isochronlaw27.GatesOpens", spec := "gatesOpens", unfollowed := true, recurses := true, apart := false, narrowed := true }
def GatesOpensUptoSaid : Prop := gatesOpensUptoRow.holds Try.pinned (OpenSpec.upto gatesOpensSpec)

/-- 'isochronlaw27.GatesFinds', WHERE WHAT IT READS IS OF BULK AT MOST 1048576: true; the input reads as it did. -/
def gatesFindsUptoRow : OpenClaim := { program := "ytfneficfngpnjaa", sum := "3703c55e90d46833fdce6dc987c27fcc2b2a664d7ad4b8cdc43796c62c8d1a41", func := "isochron/isochronlaw27.GatesFinds", spec := "gatesFinds", unfollowed := true, recurses := true, apart := false, narrowed := true }
def GatesFindsUptoSaid : Prop := gatesFindsUptoRow.holds Try.pinned (OpenSpec.upto gatesFindsSpec)

/-- 'isochronlaw27.GatesMeans', WHERE WHAT IT READS IS OF BULK AT MOST 1048576: true; the input reads as it did. -/
def gatesMeansUptoRow : OpenClaim := { program := "ytfneficfngpnjaa", sum := "3703c55e90d46833fdce6dc987c27fcc2b2a664d7ad4b8cdc43796c62c8d1a41", func := "isochron/isochronlaw27.GatesMeans", spec := "gatesMeans", unfollowed := true, recurses := true, apart := false, narrowed := true }
def GatesMeansUptoSaid : Prop := gatesMeansUptoRow.holds Try.pinned (OpenSpec.upto gatesMeansSpec)

/-- 'isochronlaw27.GatesLeast', WHERE WHAT IT READS IS OF BULK AT MOST 1048576: true; the input reads as it did. -/
def gatesLeastUptoRow : OpenClaim := { program := "ytfneficfngpnjaa", sum := "3703c55e90d46833fdce6dc987c27fcc2b2a664d7ad4b8cdc43796c62c8d1a41", func := "isochron/isochronlaw27.GatesLeast", spec := "gatesLeast", unfollowed := true, recurses := true, apart := false, narrowed := true }
def GatesLeastUptoSaid : Prop := gatesLeastUptoRow.holds Try.pinned (OpenSpec.upto gatesLeastSpec)

/-- 'isochronlaw27.GatesTurns', WHERE WHAT IT READS IS OF BULK AT MOST 1048576: true; the input reads as it did. -/
def gatesTurnsUptoRow : OpenClaim := { program := "ytfneficfngpnjaa", sum := "3703c55e90d46833fdce6dc987c27fcc2b2a664d7ad4b8cdc43796c62c8d1a41", func := "isochron/isochronlaw27.GatesTurns", spec := "gatesTurns", unfollowed := true, recurses := true, apart := false, narrowed := true }
def GatesTurnsUptoSaid : Prop := gatesTurnsUptoRow.holds Try.pinned (OpenSpec.upto gatesTurnsSpec)

/-- 'isochronlaw27.GatesKnown', WHERE WHAT IT READS IS OF BULK AT MOST 1048576: true; the input reads as it did. -/
def gatesKnownUptoRow : OpenClaim := { program := "ytfneficfngpnjaa", sum := "3703c55e90d46833fdce6dc987c27fcc2b2a664d7ad4b8cdc43796c62c8d1a41", func := "isochron/isochronlaw27.GatesKnown", spec := "gatesKnown", unfollowed := true, recurses := true, apart := false, narrowed := true }
def GatesKnownUptoSaid : Prop := gatesKnownUptoRow.holds Try.pinned (OpenSpec.upto gatesKnownSpec)

end Rows
end Go.Proofs.Ytfneficfngpnjaa
