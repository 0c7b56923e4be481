/-
  No cell of these rows narrows 'for every input' (looked for: loops, veiled, ifaces, maps, wideKeys, modest, calm, conditions, laid).
  DERIVED. THE GIVEN ROWS OF THIS SEAT. 12 by the template 'for every input the law returns true; each argument reads behind the call as it read before'; 0 by the template 'total and deterministic' (their statements: YtlldeiikcfaegaaGreatTotals.lean).
  GIVEN WITH THE SEED: the statements are not yours to turn. If you find one false, say at which input.
  Laid BY PROGRAM, IN A SANDBOX (cutbox-rows.mjs): the forced cells as the released guide's own fill.sh prints them over the translation fca333101c8ffd6e… (all of the seat's roots in one cut). By AI agents, Wed Nov 11 2026. No macro, syntax, notation, axiom, sorry.
-/
import Derived.Test.YtlldeiikcfaegaaGreatChecked
import GoSem.Claim
import GoSem.ClaimJoined
import GoSem.ClaimMapViews
import Derived.JoinedTies
import Derived.KernelRfl
namespace Go.Proofs.YtlldeiikcfaegaaGreat
/- THE CELL 'sum', in the pinned program and in every row, IS THE sha256 OF THE DUMP (.gsa) THAT YtlldeiikcfaegaaGreatProg.lean LOADS. Nothing in Lean hashes anything: it is a label: what it is worth is what the hold of that sum in a sandbox is worth. -/
noncomputable def Tryz.pinned : Pinned := { name := "ytlldeiikcfaegaagreat", sum := "fca333101c8ffd6e98127cee14c0957a78bd32829e8d128ba034ebf5486cdeeb", checked := Tryz.checked }
namespace Rows
def none {H : Type} : Left H := { results := [], args := [] }

/-- 'caromlaw46.StateHashExact': WHATEVER THE INPUT: true; the input reads as it did. -/
def stateHashExactSpec : ChangeSpec := { name := "stateHashExact", fn := fun _ => fun
  | [d] => { results := [.lit (.bool true)], args := [d] }
  | _ => none }
def stateHashExactRow : OpenClaim := { program := "ytlldeiikcfaegaagreat", sum := "fca333101c8ffd6e98127cee14c0957a78bd32829e8d128ba034ebf5486cdeeb", func := "carom/caromlaw46.StateHashExact", spec := "stateHashExact", unfollowed := true, recurses := true, apart := false }
def StateHashExactSaid : Prop := stateHashExactRow.holds Tryz.pinned (OpenSpec.ofChange stateHashExactSpec)

/-- ITS FALSE NEIGHBOUR: 'it returns false'. Refute it at one input. -/
def stateHashExactWrong : ChangeSpec := { name := "stateHashExact", fn := fun _ => fun
  | [d] => { results := [.lit (.bool false)], args := [d] }
  | _ => none }
def StateHashExactWrongFalsely : Prop := stateHashExactRow.holds Tryz.pinned (OpenSpec.ofChange stateHashExactWrong)

/-- 'caromlaw45.SnapshotRoundTrip': WHATEVER THE INPUT: true; the input reads as it did. -/
def snapshotRoundTripSpec : ChangeSpec := { name := "snapshotRoundTrip", fn := fun _ => fun
  | [d1, d2, d3] => { results := [.lit (.bool true)], args := [d1, d2, d3] }
  | _ => none }
def snapshotRoundTripRow : OpenClaim := { program := "ytlldeiikcfaegaagreat", sum := "fca333101c8ffd6e98127cee14c0957a78bd32829e8d128ba034ebf5486cdeeb", func := "carom/caromlaw45.SnapshotRoundTrip", spec := "snapshotRoundTrip", unfollowed := true, recurses := true, apart := false }
def SnapshotRoundTripSaid : Prop := snapshotRoundTripRow.holds Tryz.pinned (OpenSpec.ofChange snapshotRoundTripSpec)

/-- ITS FALSE NEIGHBOUR: 'it returns false'. Refute it at one input. -/
def snapshotRoundTripWrong : ChangeSpec := { name := "snapshotRoundTrip", fn := fun _ => fun
  | [d1, d2, d3] => { results := [.lit (.bool false)], args := [d1, d2, d3] }
  | _ => none }
def SnapshotRoundTripWrongFalsely : Prop := snapshotRoundTripRow.holds Tryz.pinned (OpenSpec.ofChange snapshotRoundTripWrong)

/-- 'caromlaw45.SnapshotCodecExact': WHATEVER THE INPUT: true; the input reads as it did. -/
def snapshotCodecExactSpec : ChangeSpec := { name := "snapshotCodecExact", fn := fun _ => fun
  | [d1, d2] => { results := [.lit (.bool true)], args := [d1, d2] }
  | _ => none }
def snapshotCodecExactRow : OpenClaim := { program := "ytlldeiikcfaegaagreat", sum := "fca333101c8ffd6e98127cee14c0957a78bd32829e8d128ba034ebf5486cdeeb", func := "carom/caromlaw45.SnapshotCodecExact", spec := "snapshotCodecExact", unfollowed := true, recurses := true, apart := false }
def SnapshotCodecExactSaid : Prop := snapshotCodecExactRow.holds Tryz.pinned (OpenSpec.ofChange snapshotCodecExactSpec)

/-- ITS FALSE NEIGHBOUR: 'it returns false'. Refute it at one input. -/
def snapshotCodecExactWrong : ChangeSpec := { name := "snapshotCodecExact", fn := fun _ => fun
  | [d1, d2] => { results := [.lit (.bool false)], args := [d1, d2] }
  | _ => none }
def SnapshotCodecExactWrongFalsely : Prop := snapshotCodecExactRow.holds Tryz.pinned (OpenSpec.ofChange snapshotCodecExactWrong)

/-- 'caromlaw45.SnapshotCanonical': WHATEVER THE INPUT: true; the input reads as it did. -/
def snapshotCanonicalSpec : ChangeSpec := { name := "snapshotCanonical", fn := fun _ => fun
  | [d1, d2, d3] => { results := [.lit (.bool true)], args := [d1, d2, d3] }
  | _ => none }
def snapshotCanonicalRow : OpenClaim := { program := "ytlldeiikcfaegaagreat", sum := "fca333101c8ffd6e98127cee14c0957a78bd32829e8d128ba034ebf5486cdeeb", func := "carom/caromlaw45.SnapshotCanonical", spec := "snapshotCanonical", unfollowed := true, recurses := true, apart := false }
def SnapshotCanonicalSaid : Prop := snapshotCanonicalRow.holds Tryz.pinned (OpenSpec.ofChange snapshotCanonicalSpec)

/-- ITS FALSE NEIGHBOUR: 'it returns false'. Refute it at one input. -/
def snapshotCanonicalWrong : ChangeSpec := { name := "snapshotCanonical", fn := fun _ => fun
  | [d1, d2, d3] => { results := [.lit (.bool false)], args := [d1, d2, d3] }
  | _ => none }
def SnapshotCanonicalWrongFalsely : Prop := snapshotCanonicalRow.holds Tryz.pinned (OpenSpec.ofChange snapshotCanonicalWrong)

/-- 'caromlaw36.IslandPartition': WHATEVER THE INPUT: true; the input reads as it did. -/
def islandPartitionSpec : ChangeSpec := { name := "islandPartition", fn := fun _ => fun
  | [d] => { results := [.lit (.bool true)], args := [d] }
  | _ => none }
def islandPartitionRow : OpenClaim := { program := "ytlldeiikcfaegaagreat", sum := "fca333101c8ffd6e98127cee14c0957a78bd32829e8d128ba034ebf5486cdeeb", func := "carom/caromlaw36.IslandPartition", spec := "islandPartition", unfollowed := true, recurses := true, apart := false }
def IslandPartitionSaid : Prop := islandPartitionRow.holds Tryz.pinned (OpenSpec.ofChange islandPartitionSpec)

/-- ITS FALSE NEIGHBOUR: 'it returns false'. Refute it at one input. -/
def islandPartitionWrong : ChangeSpec := { name := "islandPartition", fn := fun _ => fun
  | [d] => { results := [.lit (.bool false)], args := [d] }
  | _ => none }
def IslandPartitionWrongFalsely : Prop := islandPartitionRow.holds Tryz.pinned (OpenSpec.ofChange islandPartitionWrong)

/-- 'caromlaw36.IslandBuildExact': WHATEVER THE INPUT: true; the input reads as it did. -/
def islandBuildExactSpec : ChangeSpec := { name := "islandBuildExact", fn := fun _ => fun
  | [d] => { results := [.lit (.bool true)], args := [d] }
  | _ => none }
def islandBuildExactRow : OpenClaim := { program := "ytlldeiikcfaegaagreat", sum := "fca333101c8ffd6e98127cee14c0957a78bd32829e8d128ba034ebf5486cdeeb", func := "carom/caromlaw36.IslandBuildExact", spec := "islandBuildExact", unfollowed := true, recurses := true, apart := false }
def IslandBuildExactSaid : Prop := islandBuildExactRow.holds Tryz.pinned (OpenSpec.ofChange islandBuildExactSpec)

/-- ITS FALSE NEIGHBOUR: 'it returns false'. Refute it at one input. -/
def islandBuildExactWrong : ChangeSpec := { name := "islandBuildExact", fn := fun _ => fun
  | [d] => { results := [.lit (.bool false)], args := [d] }
  | _ => none }
def IslandBuildExactWrongFalsely : Prop := islandBuildExactRow.holds Tryz.pinned (OpenSpec.ofChange islandBuildExactWrong)

/-- 'caromlaw36.IslandConnected': WHATEVER THE INPUT: true; the input reads as it did. -/
def islandConnectedSpec : ChangeSpec := { name := "islandConnected", fn := fun _ => fun
  | [d1, d2, d3] => { results := [.lit (.bool true)], args := [d1, d2, d3] }
  | _ => none }
def islandConnectedRow : OpenClaim := { program := "ytlldeiikcfaegaagreat", sum := "fca333101c8ffd6e98127cee14c0957a78bd32829e8d128ba034ebf5486cdeeb", func := "carom/caromlaw36.IslandConnected", spec := "islandConnected", unfollowed := true, recurses := true, apart := false }
def IslandConnectedSaid : Prop := islandConnectedRow.holds Tryz.pinned (OpenSpec.ofChange islandConnectedSpec)

/-- ITS FALSE NEIGHBOUR: 'it returns false'. Refute it at one input. -/
def islandConnectedWrong : ChangeSpec := { name := "islandConnected", fn := fun _ => fun
  | [d1, d2, d3] => { results := [.lit (.bool false)], args := [d1, d2, d3] }
  | _ => none }
def IslandConnectedWrongFalsely : Prop := islandConnectedRow.holds Tryz.pinned (OpenSpec.ofChange islandConnectedWrong)

/-- 'caromlaw36.IslandSingletons': WHATEVER THE INPUT: true; the input reads as it did. -/
def islandSingletonsSpec : ChangeSpec := { name := "islandSingletons", fn := fun _ => fun
  | [d] => { results := [.lit (.bool true)], args := [d] }
  | _ => none }
def islandSingletonsRow : OpenClaim := { program := "ytlldeiikcfaegaagreat", sum := "fca333101c8ffd6e98127cee14c0957a78bd32829e8d128ba034ebf5486cdeeb", func := "carom/caromlaw36.IslandSingletons", spec := "islandSingletons", unfollowed := true, recurses := true, apart := false }
def IslandSingletonsSaid : Prop := islandSingletonsRow.holds Tryz.pinned (OpenSpec.ofChange islandSingletonsSpec)

/-- ITS FALSE NEIGHBOUR: 'it returns false'. Refute it at one input. -/
def islandSingletonsWrong : ChangeSpec := { name := "islandSingletons", fn := fun _ => fun
  | [d] => { results := [.lit (.bool false)], args := [d] }
  | _ => none }
def IslandSingletonsWrongFalsely : Prop := islandSingletonsRow.holds Tryz.pinned (OpenSpec.ofChange islandSingletonsWrong)

/-- 'caromlaw36.IslandBodiesExact': WHATEVER THE INPUT: true; the input reads as it did. -/
def islandBodiesExactSpec : ChangeSpec := { name := "islandBodiesExact", fn := fun _ => fun
  | [d1, d2, d3] => { results := [.lit (.bool true)], args := [d1, d2, d3] }
  | _ => none }
def islandBodiesExactRow : OpenClaim := { program := "ytlldeiikcfaegaagreat", sum := "fca333101c8ffd6e98127cee14c0957a78bd32829e8d128ba034ebf5486cdeeb", func := "carom/caromlaw36.IslandBodiesExact", spec := "islandBodiesExact", unfollowed := true, recurses := true, apart := false }
def IslandBodiesExactSaid : Prop := islandBodiesExactRow.holds Tryz.pinned (OpenSpec.ofChange islandBodiesExactSpec)

/-- ITS FALSE NEIGHBOUR: 'it returns false'. Refute it at one input. -/
def islandBodiesExactWrong : ChangeSpec := { name := "islandBodiesExact", fn := fun _ => fun
  | [d1, d2, d3] => { results := [.lit (.bool false)], args := [d1, d2, d3] }
  | _ => none }
def IslandBodiesExactWrongFalsely : Prop := islandBodiesExactRow.holds Tryz.pinned (OpenSpec.ofChange islandBodiesExactWrong)

/-- 'caromlaw37.SleepWholeIsland': WHATEVER THE INPUT: true; the input reads as it did. -/
def sleepWholeIslandSpec : ChangeSpec := { name := "sleepWholeIsland", fn := fun _ => fun
  | [d] => { results := [.lit (.bool true)], args := [d] }
  | _ => none }
def sleepWholeIslandRow : OpenClaim := { program := "ytlldeiikcfaegaagreat", sum := "fca333101c8ffd6e98127cee14c0957a78bd32829e8d128ba034ebf5486cdeeb", func := "carom/caromlaw37.SleepWholeIsland", spec := "sleepWholeIsland", unfollowed := true, recurses := true, apart := false }
def SleepWholeIslandSaid : Prop := sleepWholeIslandRow.holds Tryz.pinned (OpenSpec.ofChange sleepWholeIslandSpec)

/-- ITS FALSE NEIGHBOUR: 'it returns false'. Refute it at one input. -/
def sleepWholeIslandWrong : ChangeSpec := { name := "sleepWholeIsland", fn := fun _ => fun
  | [d] => { results := [.lit (.bool false)], args := [d] }
  | _ => none }
def SleepWholeIslandWrongFalsely : Prop := sleepWholeIslandRow.holds Tryz.pinned (OpenSpec.ofChange sleepWholeIslandWrong)

/-- 'caromlaw46.StateHashChangedBodies': WHATEVER THE INPUT: true; the input reads as it did. -/
def stateHashChangedBodiesSpec : ChangeSpec := { name := "stateHashChangedBodies", fn := fun _ => fun
  | [d1, d2] => { results := [.lit (.bool true)], args := [d1, d2] }
  | _ => none }
def stateHashChangedBodiesRow : OpenClaim := { program := "ytlldeiikcfaegaagreat", sum := "fca333101c8ffd6e98127cee14c0957a78bd32829e8d128ba034ebf5486cdeeb", func := "carom/caromlaw46.StateHashChangedBodies", spec := "stateHashChangedBodies", unfollowed := true, recurses := true, apart := false }
def StateHashChangedBodiesSaid : Prop := stateHashChangedBodiesRow.holds Tryz.pinned (OpenSpec.ofChange stateHashChangedBodiesSpec)

/-- ITS FALSE NEIGHBOUR: 'it returns false'. Refute it at one input. -/
def stateHashChangedBodiesWrong : ChangeSpec := { name := "stateHashChangedBodies", fn := fun _ => fun
  | [d1, d2] => { results := [.lit (.bool false)], args := [d1, d2] }
  | _ => none }
def StateHashChangedBodiesWrongFalsely : Prop := stateHashChangedBodiesRow.holds Tryz.pinned (OpenSpec.ofChange stateHashChangedBodiesWrong)

/-- 'caromlaw46.StateHashEqual': WHATEVER THE INPUT: true; the input reads as it did. -/
def stateHashEqualSpec : ChangeSpec := { name := "stateHashEqual", fn := fun _ => fun
  | [d1, d2] => { results := [.lit (.bool true)], args := [d1, d2] }
  | _ => none }
def stateHashEqualRow : OpenClaim := { program := "ytlldeiikcfaegaagreat", sum := "fca333101c8ffd6e98127cee14c0957a78bd32829e8d128ba034ebf5486cdeeb", func := "carom/caromlaw46.StateHashEqual", spec := "stateHashEqual", unfollowed := true, recurses := true, apart := false }
def StateHashEqualSaid : Prop := stateHashEqualRow.holds Tryz.pinned (OpenSpec.ofChange stateHashEqualSpec)

/-- ITS FALSE NEIGHBOUR: 'it returns false'. Refute it at one input. -/
def stateHashEqualWrong : ChangeSpec := { name := "stateHashEqual", fn := fun _ => fun
  | [d1, d2] => { results := [.lit (.bool false)], args := [d1, d2] }
  | _ => none }
def StateHashEqualWrongFalsely : Prop := stateHashEqualRow.holds Tryz.pinned (OpenSpec.ofChange stateHashEqualWrong)

/- THE SECOND FORM. 'bulk': how many values and letters a reading holds, each counted each time it is reached (what is shared counts as often as it is met; a slice's spare places count too). A statement '..UptoSaid' is the law's where the arguments, and the package variables that the reading takes, are together of bulk at most 1048576: NARROWER than '..Said'. Prove '..Said' where nothing that the law and all that it calls make is longer than what came in: it says more and counts as full. Else prove '..UptoSaid'. A law counts once. -/
mutual
def uptoBulk {H : Type} : DataW H → Nat
  | .lit (.string bytes) => bytes.length + 1
  | .lit _ => 1
  | .nil => 1
  | .ptr d => uptoBulk d + 1
  | .slice elems spare => uptoBulkAll elems + uptoBulkAll spare + 1
  | .agg parts => uptoBulkAll parts + 1
  | .iface _ d => uptoBulk d + 1
  | .map entries => uptoBulkEntries entries + 1
  | .held _ => 1
def uptoBulkAll {H : Type} : List (DataW H) → Nat
  | [] => 0
  | d :: r => uptoBulk d + uptoBulkAll r
def uptoBulkEntries {H : Type} : List (Lit × DataW H) → Nat
  | [] => 0
  | x :: r => uptoBulkEntry x + uptoBulkEntries r
def uptoBulkEntry {H : Type} : Lit × DataW H → Nat
  | (.string bytes, d) => bytes.length + uptoBulk d + 1
  | (_, d) => uptoBulk d + 1
 end
def uptoSmall : (H : Type) → List (DataW H) → Bool := fun _ ds => decide (uptoBulkAll ds ≤ 1048576)
def OpenSpec.upto (s : _root_.Go.ChangeSpec) : _root_.Go.OpenSpec := { _root_.Go.OpenSpec.ofChange s with cond := some uptoSmall }

/-- 'caromlaw46.StateHashExact', WHERE WHAT IT READS IS OF BULK AT MOST 1048576: true; the input reads as it did. -/
def stateHashExactUptoRow : OpenClaim := { program := "ytlldeiikcfaegaagreat", sum := "fca333101c8ffd6e98127cee14c0957a78bd32829e8d128ba034ebf5486cdeeb", func := "carom/caromlaw46.StateHashExact", spec := "stateHashExact", unfollowed := true, recurses := true, apart := false, narrowed := true }
def StateHashExactUptoSaid : Prop := stateHashExactUptoRow.holds Tryz.pinned (OpenSpec.upto stateHashExactSpec)

/-- 'caromlaw45.SnapshotRoundTrip', WHERE WHAT IT READS IS OF BULK AT MOST 1048576: true; the input reads as it did. -/
def snapshotRoundTripUptoRow : OpenClaim := { program := "ytlldeiikcfaegaagreat", sum := "fca333101c8ffd6e98127cee14c0957a78bd32829e8d128ba034ebf5486cdeeb", func := "carom/caromlaw45.SnapshotRoundTrip", spec := "snapshotRoundTrip", unfollowed := true, recurses := true, apart := false, narrowed := true }
def SnapshotRoundTripUptoSaid : Prop := snapshotRoundTripUptoRow.holds Tryz.pinned (OpenSpec.upto snapshotRoundTripSpec)

/-- 'caromlaw45.SnapshotCodecExact', WHERE WHAT IT READS IS OF BULK AT MOST 1048576: true; the input reads as it did. -/
def snapshotCodecExactUptoRow : OpenClaim := { program := "ytlldeiikcfaegaagreat", sum := "fca333101c8ffd6e98127cee14c0957a78bd32829e8d128ba034ebf5486cdeeb", func := "carom/caromlaw45.SnapshotCodecExact", spec := "snapshotCodecExact", unfollowed := true, recurses := true, apart := false, narrowed := true }
def SnapshotCodecExactUptoSaid : Prop := snapshotCodecExactUptoRow.holds Tryz.pinned (OpenSpec.upto snapshotCodecExactSpec)

/-- 'caromlaw45.SnapshotCanonical', WHERE WHAT IT READS IS OF BULK AT MOST 1048576: true; the input reads as it did. -/
def snapshotCanonicalUptoRow : OpenClaim := { program := "ytlldeiikcfaegaagreat", sum := "fca333101c8ffd6e98127cee14c0957a78bd32829e8d128ba034ebf5486cdeeb", func := "carom/caromlaw45.SnapshotCanonical", spec := "snapshotCanonical", unfollowed := true, recurses := true, apart := false, narrowed := true }
def SnapshotCanonicalUptoSaid : Prop := snapshotCanonicalUptoRow.holds Tryz.pinned (OpenSpec.upto snapshotCanonicalSpec)

/-- 'caromlaw36.IslandPartition', WHERE WHAT IT READS IS OF BULK AT MOST 1048576: true; the input reads as it did. -/
def islandPartitionUptoRow : OpenClaim := { program := "ytlldeiikcfaegaagreat", sum := "fca333101c8ffd6e98127cee14c0957a78bd32829e8d128ba034ebf5486cdeeb", func := "carom/caromlaw36.IslandPartition", spec := "islandPartition", unfollowed := true, recurses := true, apart := false, narrowed := true }
def IslandPartitionUptoSaid : Prop := islandPartitionUptoRow.holds Tryz.pinned (OpenSpec.upto islandPartitionSpec)

/-- 'caromlaw36.IslandBuildExact', WHERE WHAT IT READS IS OF BULK AT MOST 1048576: true; the input reads as it did. -/
def islandBuildExactUptoRow : OpenClaim := { program := "ytlldeiikcfaegaagreat", sum := "fca333101c8ffd6e98127cee14c0957a78bd32829e8d128ba034ebf5486cdeeb", func := "carom/caromlaw36.IslandBuildExact", spec := "islandBuildExact", unfollowed := true, recurses := true, apart := false, narrowed := true }
def IslandBuildExactUptoSaid : Prop := islandBuildExactUptoRow.holds Tryz.pinned (OpenSpec.upto islandBuildExactSpec)

/-- 'caromlaw36.IslandConnected', WHERE WHAT IT READS IS OF BULK AT MOST 1048576: true; the input reads as it did. -/
def islandConnectedUptoRow : OpenClaim := { program := "ytlldeiikcfaegaagreat", sum := "fca333101c8ffd6e98127cee14c0957a78bd32829e8d128ba034ebf5486cdeeb", func := "carom/caromlaw36.IslandConnected", spec := "islandConnected", unfollowed := true, recurses := true, apart := false, narrowed := true }
def IslandConnectedUptoSaid : Prop := islandConnectedUptoRow.holds Tryz.pinned (OpenSpec.upto islandConnectedSpec)

/-- 'caromlaw36.IslandSingletons', WHERE WHAT IT READS IS OF BULK AT MOST 1048576: true; the input reads as it did. -/
def islandSingletonsUptoRow : OpenClaim := { program := "ytlldeiikcfaegaagreat", sum := "fca333101c8ffd6e98127cee14c0957a78bd32829e8d128ba034ebf5486cdeeb", func := "carom/caromlaw36.IslandSingletons", spec := "islandSingletons", unfollowed := true, recurses := true, apart := false, narrowed := true }
def IslandSingletonsUptoSaid : Prop := islandSingletonsUptoRow.holds Tryz.pinned (OpenSpec.upto islandSingletonsSpec)

/-- 'caromlaw36.IslandBodiesExact', WHERE WHAT IT READS IS OF BULK AT MOST 1048576: true; the input reads as it did. -/
def islandBodiesExactUptoRow : OpenClaim := { program := "ytlldeiikcfaegaagreat", sum := "fca333101c8ffd6e98127cee14c0957a78bd32829e8d128ba034ebf5486cdeeb", func := "carom/caromlaw36.IslandBodiesExact", spec := "islandBodiesExact", unfollowed := true, recurses := true, apart := false, narrowed := true }
def IslandBodiesExactUptoSaid : Prop := islandBodiesExactUptoRow.holds Tryz.pinned (OpenSpec.upto islandBodiesExactSpec)

/-- 'caromlaw37.SleepWholeIsland', WHERE WHAT IT READS IS OF BULK AT MOST 1048576: true; the input reads as it did. -/
def sleepWholeIslandUptoRow : OpenClaim := { program := "ytlldeiikcfaegaagreat", sum := "fca333101c8ffd6e98127cee14c0957a78bd32829e8d128ba034ebf5486cdeeb", func := "carom/caromlaw37.SleepWholeIsland", spec := "sleepWholeIsland", unfollowed := true, recurses := true, apart := false, narrowed := true }
def SleepWholeIslandUptoSaid : Prop := sleepWholeIslandUptoRow.holds Tryz.pinned (OpenSpec.upto sleepWholeIslandSpec)

/-- 'caromlaw46.StateHashChangedBodies', WHERE WHAT IT READS IS OF BULK AT MOST 1048576: true; the input reads as it did. -/
def stateHashChangedBodiesUptoRow : OpenClaim := { program := "ytlldeiikcfaegaagreat", sum := "fca333101c8ffd6e98127cee14c0957a78bd32829e8d128ba034ebf5486cdeeb", func := "carom/caromlaw46.StateHashChangedBodies", spec := "stateHashChangedBodies", unfollowed := true, recurses := true, apart := false, narrowed := true }
def StateHashChangedBodiesUptoSaid : Prop := stateHashChangedBodiesUptoRow.holds Tryz.pinned (OpenSpec.upto stateHashChangedBodiesSpec)

/-- 'caromlaw46.StateHashEqual', WHERE WHAT IT READS IS OF BULK AT MOST 1048576: true; the input reads as it did. -/
def stateHashEqualUptoRow : OpenClaim := { program := "ytlldeiikcfaegaagreat", sum := "fca333101c8ffd6e98127cee14c0957a78bd32829e8d128ba034ebf5486cdeeb", func := "carom/caromlaw46.StateHashEqual", spec := "stateHashEqual", unfollowed := true, recurses := true, apart := false, narrowed := true }
def StateHashEqualUptoSaid : Prop := stateHashEqualUptoRow.holds Tryz.pinned (OpenSpec.upto stateHashEqualSpec)

end Rows
end Go.Proofs.YtlldeiikcfaegaaGreat
