/-
  No cell of these rows narrows 'for every input' (looked for: loops, veiled, ifaces, maps, wideKeys, modest, calm, conditions, laid).
  DERIVED. THE GIVEN ROWS OF THIS SEAT. 6 by the template 'for every input the law returns true; each argument reads behind the call as it read before'; 0 by the template 'total and deterministic' (their statements: YtlnnoghneciocaaTotals.lean).
  GIVEN WITH THE SEED: the statements are not yours to turn. If you find one false, say at which input.
  Laid BY PROGRAM, IN A SANDBOX (cutbox-rows.mjs): the forced cells as the released guide's own fill.sh prints them over the translation 6cfb7cbeae36bdd5… (all of the seat's roots in one cut). By AI agents, Wed Nov 11 2026. No macro, syntax, notation, axiom, sorry.
-/
import Derived.Test.YtlnnoghneciocaaChecked
import GoSem.Claim
import GoSem.ClaimJoined
import GoSem.ClaimMapViews
import Derived.JoinedTies
import Derived.KernelRfl
namespace Go.Proofs.Ytlnnoghneciocaa
/- THE CELL 'sum', in the pinned program and in every row, IS THE sha256 OF THE DUMP (.gsa) THAT YtlnnoghneciocaaProg.lean LOADS. Nothing in Lean hashes anything: it is a label: what it is worth is what the hold of that sum in a sandbox is worth. -/
noncomputable def Try.pinned : Pinned := { name := "ytlnnoghneciocaa", sum := "6cfb7cbeae36bdd5ce94c32535be23f1150fa5094fa15029947e4ea7552dd738", checked := Try.checked }
namespace Rows
def none {H : Type} : Left H := { results := [], args := [] }

/-- 'isochronlaw39.SeqDeltas': WHATEVER THE INPUT: true; the input reads as it did. -/
def seqDeltasSpec : ChangeSpec := { name := "seqDeltas", fn := fun _ => fun
  | [d1, d2, d3, d4] => { results := [.lit (.bool true)], args := [d1, d2, d3, d4] }
  | _ => none }
def seqDeltasRow : OpenClaim := { program := "ytlnnoghneciocaa", sum := "6cfb7cbeae36bdd5ce94c32535be23f1150fa5094fa15029947e4ea7552dd738", func := "isochron/isochronlaw39.SeqDeltas", spec := "seqDeltas", unfollowed := true, recurses := true, apart := false }
def SeqDeltasSaid : Prop := seqDeltasRow.holds Try.pinned (OpenSpec.ofChange seqDeltasSpec)

/-- ITS FALSE NEIGHBOUR: 'it returns false'. Refute it at one input. -/
def seqDeltasWrong : ChangeSpec := { name := "seqDeltas", fn := fun _ => fun
  | [d1, d2, d3, d4] => { results := [.lit (.bool false)], args := [d1, d2, d3, d4] }
  | _ => none }
def SeqDeltasWrongFalsely : Prop := seqDeltasRow.holds Try.pinned (OpenSpec.ofChange seqDeltasWrong)

/-- 'isochronlaw39.SeqCopies': WHATEVER THE INPUT: true; the input reads as it did. -/
def seqCopiesSpec : ChangeSpec := { name := "seqCopies", fn := fun _ => fun
  | [d1, d2, d3, d4] => { results := [.lit (.bool true)], args := [d1, d2, d3, d4] }
  | _ => none }
def seqCopiesRow : OpenClaim := { program := "ytlnnoghneciocaa", sum := "6cfb7cbeae36bdd5ce94c32535be23f1150fa5094fa15029947e4ea7552dd738", func := "isochron/isochronlaw39.SeqCopies", spec := "seqCopies", unfollowed := true, recurses := true, apart := false }
def SeqCopiesSaid : Prop := seqCopiesRow.holds Try.pinned (OpenSpec.ofChange seqCopiesSpec)

/-- ITS FALSE NEIGHBOUR: 'it returns false'. Refute it at one input. -/
def seqCopiesWrong : ChangeSpec := { name := "seqCopies", fn := fun _ => fun
  | [d1, d2, d3, d4] => { results := [.lit (.bool false)], args := [d1, d2, d3, d4] }
  | _ => none }
def SeqCopiesWrongFalsely : Prop := seqCopiesRow.holds Try.pinned (OpenSpec.ofChange seqCopiesWrong)

/-- 'isochronlaw39.SeqRuns': WHATEVER THE INPUT: true; the input reads as it did. -/
def seqRunsSpec : ChangeSpec := { name := "seqRuns", fn := fun _ => fun
  | [d1, d2] => { results := [.lit (.bool true)], args := [d1, d2] }
  | _ => none }
def seqRunsRow : OpenClaim := { program := "ytlnnoghneciocaa", sum := "6cfb7cbeae36bdd5ce94c32535be23f1150fa5094fa15029947e4ea7552dd738", func := "isochron/isochronlaw39.SeqRuns", spec := "seqRuns", unfollowed := true, recurses := true, apart := false }
def SeqRunsSaid : Prop := seqRunsRow.holds Try.pinned (OpenSpec.ofChange seqRunsSpec)

/-- ITS FALSE NEIGHBOUR: 'it returns false'. Refute it at one input. -/
def seqRunsWrong : ChangeSpec := { name := "seqRuns", fn := fun _ => fun
  | [d1, d2] => { results := [.lit (.bool false)], args := [d1, d2] }
  | _ => none }
def SeqRunsWrongFalsely : Prop := seqRunsRow.holds Try.pinned (OpenSpec.ofChange seqRunsWrong)

/-- 'isochronlaw39.SeqTurns': WHATEVER THE INPUT: true; the input reads as it did. -/
def seqTurnsSpec : ChangeSpec := { name := "seqTurns", fn := fun _ => fun
  | [d1, d2, d3, d4] => { results := [.lit (.bool true)], args := [d1, d2, d3, d4] }
  | _ => none }
def seqTurnsRow : OpenClaim := { program := "ytlnnoghneciocaa", sum := "6cfb7cbeae36bdd5ce94c32535be23f1150fa5094fa15029947e4ea7552dd738", func := "isochron/isochronlaw39.SeqTurns", spec := "seqTurns", unfollowed := true, recurses := true, apart := false }
def SeqTurnsSaid : Prop := seqTurnsRow.holds Try.pinned (OpenSpec.ofChange seqTurnsSpec)

/-- ITS FALSE NEIGHBOUR: 'it returns false'. Refute it at one input. -/
def seqTurnsWrong : ChangeSpec := { name := "seqTurns", fn := fun _ => fun
  | [d1, d2, d3, d4] => { results := [.lit (.bool false)], args := [d1, d2, d3, d4] }
  | _ => none }
def SeqTurnsWrongFalsely : Prop := seqTurnsRow.holds Try.pinned (OpenSpec.ofChange seqTurnsWrong)

/-- 'isochronlaw39.SeqKnown': WHATEVER THE INPUT: true; the input reads as it did. -/
def seqKnownSpec : ChangeSpec := { name := "seqKnown", fn := fun _ => fun
  | [] => { results := [.lit (.bool true)], args := [] }
  | _ => none }
def seqKnownRow : OpenClaim := { program := "ytlnnoghneciocaa", sum := "6cfb7cbeae36bdd5ce94c32535be23f1150fa5094fa15029947e4ea7552dd738", func := "isochron/isochronlaw39.SeqKnown", spec := "seqKnown", unfollowed := true, recurses := true, apart := false }
def SeqKnownSaid : Prop := seqKnownRow.holds Try.pinned (OpenSpec.ofChange seqKnownSpec)

/-- ITS FALSE NEIGHBOUR: 'it returns false'. Refute it at one input. -/
def seqKnownWrong : ChangeSpec := { name := "seqKnown", fn := fun _ => fun
  | [] => { results := [.lit (.bool false)], args := [] }
  | _ => none }
def SeqKnownWrongFalsely : Prop := seqKnownRow.holds Try.pinned (OpenSpec.ofChange seqKnownWrong)

/-- 'isochronlaw39.SeqNexts': WHATEVER THE INPUT: true; the input reads as it did. -/
def seqNextsSpec : ChangeSpec := { name := "seqNexts", fn := fun _ => fun
  | [d1, d2, d3, d4, d5] => { results := [.lit (.bool true)], args := [d1, d2, d3, d4, d5] }
  | _ => none }
def seqNextsRow : OpenClaim := { program := "ytlnnoghneciocaa", sum := "6cfb7cbeae36bdd5ce94c32535be23f1150fa5094fa15029947e4ea7552dd738", func := "isochron/isochronlaw39.SeqNexts", spec := "seqNexts", unfollowed := true, recurses := true, apart := false }
def SeqNextsSaid : Prop := seqNextsRow.holds Try.pinned (OpenSpec.ofChange seqNextsSpec)

/-- ITS FALSE NEIGHBOUR: 'it returns false'. Refute it at one input. -/
def seqNextsWrong : ChangeSpec := { name := "seqNexts", fn := fun _ => fun
  | [d1, d2, d3, d4, d5] => { results := [.lit (.bool false)], args := [d1, d2, d3, d4, d5] }
  | _ => none }
def SeqNextsWrongFalsely : Prop := seqNextsRow.holds Try.pinned (OpenSpec.ofChange seqNextsWrong)

/- THE SECOND FORM. 'bulk': how many values and letters a reading holds, each counted each time it is reached (what is shared counts as often as it is met; a slice's spare places count too). A statement '..UptoSaid' is the law's where the arguments, and the package variables that the reading takes, are together of bulk at most 1048576: NARROWER than '..Said'. Prove '..Said' where nothing that the law and all that it calls make is longer than what came in: it says more and counts as full. Else prove '..UptoSaid'. A law counts once. -/
mutual
def uptoBulk {H : Type} : DataW H → Nat
  | .lit (.string bytes) => bytes.length + 1
  | .lit _ => 1
  | .nil => 1
  | .ptr d => uptoBulk d + 1
  | .slice elems spare => uptoBulkAll elems + uptoBulkAll spare + 1
  | .agg parts => uptoBulkAll parts + 1
  | .iface _ d => uptoBulk d + 1
  | .map entries => uptoBulkEntries entries + 1
  | .held _ => 1
def uptoBulkAll {H : Type} : List (DataW H) → Nat
  | [] => 0
  | d :: r => uptoBulk d + uptoBulkAll r
def uptoBulkEntries {H : Type} : List (Lit × DataW H) → Nat
  | [] => 0
  | x :: r => uptoBulkEntry x + uptoBulkEntries r
def uptoBulkEntry {H : Type} : Lit × DataW H → Nat
  | (.string bytes, d) => bytes.length + uptoBulk d + 1
  | (_, d) => uptoBulk d + 1
 end
def uptoSmall : (H : Type) → List (DataW H) → Bool := fun _ ds => decide (uptoBulkAll ds ≤ 1048576)
def OpenSpec.upto (s : _root_.Go.ChangeSpec) : _root_.Go.OpenSpec := { _root_.Go.OpenSpec.ofChange s with cond := some uptoSmall }

/-- 'isochronlaw39.SeqDeltas', WHERE WHAT IT READS IS OF BULK AT MOST 1048576: true; the input reads as it did. -/
def seqDeltasUptoRow : OpenClaim := { program := "ytlnnoghneciocaa", sum := "6cfb7cbeae36bdd5ce94c32535be23f1150fa5094fa15029947e4ea7552dd738", func := "isochron/isochronlaw39.SeqDeltas", spec := "seqDeltas", unfollowed := true, recurses := true, apart := false, narrowed := true }
def SeqDeltasUptoSaid : Prop := seqDeltasUptoRow.holds Try.pinned (OpenSpec.upto seqDeltasSpec)

/-- 'isochronlaw39.SeqCopies', WHERE WHAT IT READS IS OF BULK AT MOST 1048576: true; the input reads as it did. -/
def seqCopiesUptoRow : OpenClaim := { program := "ytlnnoghneciocaa", sum := "6cfb7cbeae36bdd5ce94c32535be23f1150fa5094fa15029947e4ea7552dd738", func := "isochron/isochronlaw39.SeqCopies", spec := "seqCopies", unfollowed := true, recurses := true, apart := false, narrowed := true }
def SeqCopiesUptoSaid : Prop := seqCopiesUptoRow.holds Try.pinned (OpenSpec.upto seqCopiesSpec)

/-- 'isochronlaw39.SeqRuns', WHERE WHAT IT READS IS OF BULK AT MOST 1048576: true; the input reads as it did. -/
def seqRunsUptoRow : OpenClaim := { program := "ytlnnoghneciocaa", sum := "6cfb7cbeae36bdd5ce94c32535be23f1150fa5094fa15029947e4ea7552dd738", func := "isochron/isochronlaw39.SeqRuns", spec := "seqRuns", unfollowed := true, recurses := true, apart := false, narrowed := true }
def SeqRunsUptoSaid : Prop := seqRunsUptoRow.holds Try.pinned (OpenSpec.upto seqRunsSpec)

/-- 'isochronlaw39.SeqTurns', WHERE WHAT IT READS IS OF BULK AT MOST 1048576: true; the input reads as it did. -/
def seqTurnsUptoRow : OpenClaim := { program := "ytlnnoghneciocaa", sum := "6cfb7cbeae36bdd5ce94c32535be23f1150fa5094fa15029947e4ea7552dd738", func := "isochron/isochronlaw39.SeqTurns", spec := "seqTurns", unfollowed := true, recurses := true, apart := false, narrowed := true }
def SeqTurnsUptoSaid : Prop := seqTurnsUptoRow.holds Try.pinned (OpenSpec.upto seqTurnsSpec)

/-- 'isochronlaw39.SeqKnown', WHERE WHAT IT READS IS OF BULK AT MOST 1048576: true; the input reads as it did. -/
def seqKnownUptoRow : OpenClaim := { program := "ytlnnoghneciocaa", sum := "6cfb7cbeae36bdd5ce94c32535be23f1150fa5094fa15029947e4ea7552dd738", func := "isochron/isochronlaw39.SeqKnown", spec := "seqKnown", unfollowed := true, recurses := true, apart := false, narrowed := true }
def SeqKnownUptoSaid : Prop := seqKnownUptoRow.holds Try.pinned (OpenSpec.upto seqKnownSpec)

/-- 'isochronlaw39.SeqNexts', WHERE WHAT IT READS IS OF BULK AT MOST 1048576: true; the input reads as it did. -/
def seqNextsUptoRow : OpenClaim := { program := "ytlnnoghneciocaa", sum := "6cfb7cbeae36bdd5ce94c32535be23f1150fa5094fa15029947e4ea7552dd738", func := "isochron/isochronlaw39.SeqNexts", spec := "seqNexts", unfollowed := true, recurses := true, apart := false, narrowed := true }
def SeqNextsUptoSaid : Prop := seqNextsUptoRow.holds Try.pinned (OpenSpec.upto seqNextsSpec)

end Rows
end Go.Proofs.Ytlnnoghneciocaa
