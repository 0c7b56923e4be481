/-
  No cell of these rows narrows 'for every input' (looked for: loops, veiled, ifaces, maps, wideKeys, modest, calm, conditions, laid).
  DERIVED. THE GIVEN ROWS OF THIS SEAT. 5 by the template 'for every input the law returns true; each argument reads behind the call as it read before'; 0 by the template 'total and deterministic' (their statements: YtjakdlcknhfibaaTotals.lean).
  GIVEN WITH THE SEED: the statements are not yours to turn. If you find one false, say at which input.
  Laid BY PROGRAM, IN A SANDBOX (cutbox-rows.mjs): the forced cells as the released guide's own fill.sh prints them over the translation 4224e5989764599d… (all of the seat's roots in one cut). By AI agents, Wed Nov 11 2026. No macro, syntax, notation, axiom, sorry.
-/
import Derived.Test.YtjakdlcknhfibaaChecked
import GoSem.Claim
import GoSem.ClaimJoined
import GoSem.ClaimMapViews
import Derived.JoinedTies
import Derived.KernelRfl
namespace Go.Proofs.Ytjakdlcknhfibaa
/- THE CELL 'sum', in the pinned program and in every row, IS THE sha256 OF THE DUMP (.gsa) THAT YtjakdlcknhfibaaProg.lean LOADS. Nothing in Lean hashes anything: it is a label: what it is worth is what the hold of that sum in a sandbox is worth. -/
noncomputable def Try.pinned : Pinned := { name := "ytjakdlcknhfibaa", sum := "4224e5989764599d2594b6a1214ed87fe2e44fcaef088b8e849067c685c736db", checked := Try.checked }
namespace Rows
def none {H : Type} : Left H := { results := [], args := [] }

/-- 'caromlaw42.WorkersValidateExact': WHATEVER THE INPUT: true; the input reads as it did. -/
def workersValidateExactSpec : ChangeSpec := { name := "workersValidateExact", fn := fun _ => fun
  | [d1, d2] => { results := [.lit (.bool true)], args := [d1, d2] }
  | _ => none }
def workersValidateExactRow : OpenClaim := { program := "ytjakdlcknhfibaa", sum := "4224e5989764599d2594b6a1214ed87fe2e44fcaef088b8e849067c685c736db", func := "carom/caromlaw42.WorkersValidateExact", spec := "workersValidateExact", apart := false }
def WorkersValidateExactSaid : Prop := workersValidateExactRow.holds Try.pinned (OpenSpec.ofChange workersValidateExactSpec)

/-- ITS FALSE NEIGHBOUR: 'it returns false'. Refute it at one input. -/
def workersValidateExactWrong : ChangeSpec := { name := "workersValidateExact", fn := fun _ => fun
  | [d1, d2] => { results := [.lit (.bool false)], args := [d1, d2] }
  | _ => none }
def WorkersValidateExactWrongFalsely : Prop := workersValidateExactRow.holds Try.pinned (OpenSpec.ofChange workersValidateExactWrong)

/-- 'caromlaw42.WorkersAssignExact': WHATEVER THE INPUT: true; the input reads as it did. -/
def workersAssignExactSpec : ChangeSpec := { name := "workersAssignExact", fn := fun _ => fun
  | [d1, d2, d3] => { results := [.lit (.bool true)], args := [d1, d2, d3] }
  | _ => none }
def workersAssignExactRow : OpenClaim := { program := "ytjakdlcknhfibaa", sum := "4224e5989764599d2594b6a1214ed87fe2e44fcaef088b8e849067c685c736db", func := "carom/caromlaw42.WorkersAssignExact", spec := "workersAssignExact", apart := false }
def WorkersAssignExactSaid : Prop := workersAssignExactRow.holds Try.pinned (OpenSpec.ofChange workersAssignExactSpec)

/-- ITS FALSE NEIGHBOUR: 'it returns false'. Refute it at one input. -/
def workersAssignExactWrong : ChangeSpec := { name := "workersAssignExact", fn := fun _ => fun
  | [d1, d2, d3] => { results := [.lit (.bool false)], args := [d1, d2, d3] }
  | _ => none }
def WorkersAssignExactWrongFalsely : Prop := workersAssignExactRow.holds Try.pinned (OpenSpec.ofChange workersAssignExactWrong)

/-- 'caromlaw42.WorkersMergeIsland': WHATEVER THE INPUT: true; the input reads as it did. -/
def workersMergeIslandSpec : ChangeSpec := { name := "workersMergeIsland", fn := fun _ => fun
  | [d1, d2, d3] => { results := [.lit (.bool true)], args := [d1, d2, d3] }
  | _ => none }
def workersMergeIslandRow : OpenClaim := { program := "ytjakdlcknhfibaa", sum := "4224e5989764599d2594b6a1214ed87fe2e44fcaef088b8e849067c685c736db", func := "carom/caromlaw42.WorkersMergeIsland", spec := "workersMergeIsland", apart := false }
def WorkersMergeIslandSaid : Prop := workersMergeIslandRow.holds Try.pinned (OpenSpec.ofChange workersMergeIslandSpec)

/-- ITS FALSE NEIGHBOUR: 'it returns false'. Refute it at one input. -/
def workersMergeIslandWrong : ChangeSpec := { name := "workersMergeIsland", fn := fun _ => fun
  | [d1, d2, d3] => { results := [.lit (.bool false)], args := [d1, d2, d3] }
  | _ => none }
def WorkersMergeIslandWrongFalsely : Prop := workersMergeIslandRow.holds Try.pinned (OpenSpec.ofChange workersMergeIslandWrong)

/-- 'caromlaw45.SnapshotAppendExact': WHATEVER THE INPUT: true; the input reads as it did. -/
def snapshotAppendExactSpec : ChangeSpec := { name := "snapshotAppendExact", fn := fun _ => fun
  | [d1, d2, d3] => { results := [.lit (.bool true)], args := [d1, d2, d3] }
  | _ => none }
def snapshotAppendExactRow : OpenClaim := { program := "ytjakdlcknhfibaa", sum := "4224e5989764599d2594b6a1214ed87fe2e44fcaef088b8e849067c685c736db", func := "carom/caromlaw45.SnapshotAppendExact", spec := "snapshotAppendExact", unfollowed := true, recurses := true, apart := false }
def SnapshotAppendExactSaid : Prop := snapshotAppendExactRow.holds Try.pinned (OpenSpec.ofChange snapshotAppendExactSpec)

/-- ITS FALSE NEIGHBOUR: 'it returns false'. Refute it at one input. -/
def snapshotAppendExactWrong : ChangeSpec := { name := "snapshotAppendExact", fn := fun _ => fun
  | [d1, d2, d3] => { results := [.lit (.bool false)], args := [d1, d2, d3] }
  | _ => none }
def SnapshotAppendExactWrongFalsely : Prop := snapshotAppendExactRow.holds Try.pinned (OpenSpec.ofChange snapshotAppendExactWrong)

/-- 'caromlaw45.SnapshotReadExact': WHATEVER THE INPUT: true; the input reads as it did. -/
def snapshotReadExactSpec : ChangeSpec := { name := "snapshotReadExact", fn := fun _ => fun
  | [d1, d2] => { results := [.lit (.bool true)], args := [d1, d2] }
  | _ => none }
def snapshotReadExactRow : OpenClaim := { program := "ytjakdlcknhfibaa", sum := "4224e5989764599d2594b6a1214ed87fe2e44fcaef088b8e849067c685c736db", func := "carom/caromlaw45.SnapshotReadExact", spec := "snapshotReadExact", unfollowed := true, recurses := true, apart := false }
def SnapshotReadExactSaid : Prop := snapshotReadExactRow.holds Try.pinned (OpenSpec.ofChange snapshotReadExactSpec)

/-- ITS FALSE NEIGHBOUR: 'it returns false'. Refute it at one input. -/
def snapshotReadExactWrong : ChangeSpec := { name := "snapshotReadExact", fn := fun _ => fun
  | [d1, d2] => { results := [.lit (.bool false)], args := [d1, d2] }
  | _ => none }
def SnapshotReadExactWrongFalsely : Prop := snapshotReadExactRow.holds Try.pinned (OpenSpec.ofChange snapshotReadExactWrong)

/- THE SECOND FORM. 'bulk': how many values and letters a reading holds, each counted each time it is reached (what is shared counts as often as it is met; a slice's spare places count too). A statement '..UptoSaid' is the law's where the arguments, and the package variables that the reading takes, are together of bulk at most 1048576: NARROWER than '..Said'. Prove '..Said' where nothing that the law and all that it calls make is longer than what came in: it says more and counts as full. Else prove '..UptoSaid'. A law counts once. -/
mutual
def uptoBulk {H : Type} : DataW H → Nat
  | .lit (.string bytes) => bytes.length + 1
  | .lit _ => 1
  | .nil => 1
  | .ptr d => uptoBulk d + 1
  | .slice elems spare => uptoBulkAll elems + uptoBulkAll spare + 1
  | .agg parts => uptoBulkAll parts + 1
  | .iface _ d => uptoBulk d + 1
  | .map entries => uptoBulkEntries entries + 1
  | .held _ => 1
def uptoBulkAll {H : Type} : List (DataW H) → Nat
  | [] => 0
  | d :: r => uptoBulk d + uptoBulkAll r
def uptoBulkEntries {H : Type} : List (Lit × DataW H) → Nat
  | [] => 0
  | x :: r => uptoBulkEntry x + uptoBulkEntries r
def uptoBulkEntry {H : Type} : Lit × DataW H → Nat
  | (.string bytes, d) => bytes.length + uptoBulk d + 1
  | (_, d) => uptoBulk d + 1
 end
def uptoSmall : (H : Type) → List (DataW H) → Bool := fun _ ds => decide (uptoBulkAll ds ≤ 1048576)
def OpenSpec.upto (s : _root_.Go.ChangeSpec) : _root_.Go.OpenSpec := { _root_.Go.OpenSpec.ofChange s with cond := some uptoSmall }

/-- 'caromlaw42.WorkersValidateExact', WHERE WHAT IT READS IS OF BULK AT MOST 1048576: true; the input reads as it did. -/
def workersValidateExactUptoRow : OpenClaim := { program := "ytjakdlcknhfibaa", sum := "4224e5989764599d2594b6a1214ed87fe2e44fcaef088b8e849067c685c736db", func := "carom/caromlaw42.WorkersValidateExact", spec := "workersValidateExact", apart := false, narrowed := true }
def WorkersValidateExactUptoSaid : Prop := workersValidateExactUptoRow.holds Try.pinned (OpenSpec.upto workersValidateExactSpec)

/-- 'caromlaw42.WorkersAssignExact', WHERE WHAT IT READS IS OF BULK AT MOST 1048576: true; the input reads as it did. -/
def workersAssignExactUptoRow : OpenClaim := { program := "ytjakdlcknhfibaa", sum := "4224e5989764599d2594b6a1214ed87fe2e44fcaef088b8e849067c685c736db", func := "carom/caromlaw42.WorkersAssignExact", spec := "workersAssignExact", apart := false, narrowed := true }
def WorkersAssignExactUptoSaid : Prop := workersAssignExactUptoRow.holds Try.pinned (OpenSpec.upto workersAssignExactSpec)

/-- 'caromlaw42.WorkersMergeIsland', WHERE WHAT IT READS IS OF BULK AT MOST 1048576: true; the input reads as it did. -/
def workersMergeIslandUptoRow : OpenClaim := { program := "ytjakdlcknhfibaa", sum := "4224e5989764599d2594b6a1214ed87fe2e44fcaef088b8e849067c685c736db", func := "carom/caromlaw42.WorkersMergeIsland", spec := "workersMergeIsland", apart := false, narrowed := true }
def WorkersMergeIslandUptoSaid : Prop := workersMergeIslandUptoRow.holds Try.pinned (OpenSpec.upto workersMergeIslandSpec)

/-- 'caromlaw45.SnapshotAppendExact', WHERE WHAT IT READS IS OF BULK AT MOST 1048576: true; the input reads as it did. -/
def snapshotAppendExactUptoRow : OpenClaim := { program := "ytjakdlcknhfibaa", sum := "4224e5989764599d2594b6a1214ed87fe2e44fcaef088b8e849067c685c736db", func := "carom/caromlaw45.SnapshotAppendExact", spec := "snapshotAppendExact", unfollowed := true, recurses := true, apart := false, narrowed := true }
def SnapshotAppendExactUptoSaid : Prop := snapshotAppendExactUptoRow.holds Try.pinned (OpenSpec.upto snapshotAppendExactSpec)

/-- 'caromlaw45.SnapshotReadExact', WHERE WHAT IT READS IS OF BULK AT MOST 1048576: true; the input reads as it did. -/
def snapshotReadExactUptoRow : OpenClaim := { program := "ytjakdlcknhfibaa", sum := "4224e5989764599d2594b6a1214ed87fe2e44fcaef088b8e849067c685c736db", func := "carom/caromlaw45.SnapshotReadExact", spec := "snapshotReadExact", unfollowed := true, recurses := true, apart := false, narrowed := true }
def SnapshotReadExactUptoSaid : Prop := snapshotReadExactUptoRow.holds Try.pinned (OpenSpec.upto snapshotReadExactSpec)

end Rows
end Go.Proofs.Ytjakdlcknhfibaa
