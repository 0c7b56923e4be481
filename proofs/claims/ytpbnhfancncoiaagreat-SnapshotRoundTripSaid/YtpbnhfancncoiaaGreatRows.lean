/-
  No cell of these rows narrows 'for every input' (looked for: loops, veiled, ifaces, maps, wideKeys, modest, calm, conditions, laid).
  DERIVED. THE GIVEN ROWS OF THIS SEAT. 3 by the template 'for every input the law returns true; each argument reads behind the call as it read before'; 0 by the template 'total and deterministic' (their statements: YtpbnhfancncoiaaGreatTotals.lean).
  GIVEN WITH THE SEED: the statements are not yours to turn. If you find one false, say at which input.
  Laid BY PROGRAM, IN A SANDBOX (cutbox-rows.mjs): the forced cells as the released guide's own fill.sh prints them over the translation f5ac18a9248d3c86… (all of the seat's roots in one cut). By AI agents, Wed Nov 11 2026. No macro, syntax, notation, axiom, sorry.
-/
import Derived.Test.YtpbnhfancncoiaaGreatChecked
import GoSem.Claim
import GoSem.ClaimJoined
import GoSem.ClaimMapViews
import Derived.JoinedTies
import Derived.KernelRfl
namespace Go.Proofs.YtpbnhfancncoiaaGreat
/- THE CELL 'sum', in the pinned program and in every row, IS THE sha256 OF THE DUMP (.gsa) THAT YtpbnhfancncoiaaGreatProg.lean LOADS. Nothing in Lean hashes anything: it is a label: what it is worth is what the hold of that sum in a sandbox is worth. -/
noncomputable def Tryz.pinned : Pinned := { name := "ytpbnhfancncoiaagreat", sum := "f5ac18a9248d3c86cb346f5db84d0fb3e9969424784cf46b8671590620d921c8", checked := Tryz.checked }
namespace Rows
def none {H : Type} : Left H := { results := [], args := [] }

/-- 'caromlaw45.SnapshotRoundTrip': WHATEVER THE INPUT: true; the input reads as it did. -/
def snapshotRoundTripSpec : ChangeSpec := { name := "snapshotRoundTrip", fn := fun _ => fun
  | [d1, d2, d3] => { results := [.lit (.bool true)], args := [d1, d2, d3] }
  | _ => none }
def snapshotRoundTripRow : OpenClaim := { program := "ytpbnhfancncoiaagreat", sum := "f5ac18a9248d3c86cb346f5db84d0fb3e9969424784cf46b8671590620d921c8", func := "carom/caromlaw45.SnapshotRoundTrip", spec := "snapshotRoundTrip", unfollowed := true, recurses := true, apart := false }
def SnapshotRoundTripSaid : Prop := snapshotRoundTripRow.holds Tryz.pinned (OpenSpec.ofChange snapshotRoundTripSpec)

/-- ITS FALSE NEIGHBOUR: 'it returns false'. Refute it at one input. -/
def snapshotRoundTripWrong : ChangeSpec := { name := "snapshotRoundTrip", fn := fun _ => fun
  | [d1, d2, d3] => { results := [.lit (.bool false)], args := [d1, d2, d3] }
  | _ => none }
def SnapshotRoundTripWrongFalsely : Prop := snapshotRoundTripRow.holds Tryz.pinned (OpenSpec.ofChange snapshotRoundTripWrong)

/-- 'caromlaw45.SnapshotCodecExact': WHATEVER THE INPUT: true; the input reads as it did. -/
def snapshotCodecExactSpec : ChangeSpec := { name := "snapshotCodecExact", fn := fun _ => fun
  | [d1, d2] => { results := [.lit (.bool true)], args := [d1, d2] }
  | _ => none }
def snapshotCodecExactRow : OpenClaim := { program := "ytpbnhfancncoiaagreat", sum := "f5ac18a9248d3c86cb346f5db84d0fb3e9969424784cf46b8671590620d921c8", func := "carom/caromlaw45.SnapshotCodecExact", spec := "snapshotCodecExact", unfollowed := true, recurses := true, apart := false }
def SnapshotCodecExactSaid : Prop := snapshotCodecExactRow.holds Tryz.pinned (OpenSpec.ofChange snapshotCodecExactSpec)

/-- ITS FALSE NEIGHBOUR: 'it returns false'. Refute it at one input. -/
def snapshotCodecExactWrong : ChangeSpec := { name := "snapshotCodecExact", fn := fun _ => fun
  | [d1, d2] => { results := [.lit (.bool false)], args := [d1, d2] }
  | _ => none }
def SnapshotCodecExactWrongFalsely : Prop := snapshotCodecExactRow.holds Tryz.pinned (OpenSpec.ofChange snapshotCodecExactWrong)

/-- 'caromlaw45.SnapshotCanonical': WHATEVER THE INPUT: true; the input reads as it did. -/
def snapshotCanonicalSpec : ChangeSpec := { name := "snapshotCanonical", fn := fun _ => fun
  | [d1, d2, d3] => { results := [.lit (.bool true)], args := [d1, d2, d3] }
  | _ => none }
def snapshotCanonicalRow : OpenClaim := { program := "ytpbnhfancncoiaagreat", sum := "f5ac18a9248d3c86cb346f5db84d0fb3e9969424784cf46b8671590620d921c8", func := "carom/caromlaw45.SnapshotCanonical", spec := "snapshotCanonical", unfollowed := true, recurses := true, apart := false }
def SnapshotCanonicalSaid : Prop := snapshotCanonicalRow.holds Tryz.pinned (OpenSpec.ofChange snapshotCanonicalSpec)

/-- ITS FALSE NEIGHBOUR: 'it returns false'. Refute it at one input. -/
def snapshotCanonicalWrong : ChangeSpec := { name := "snapshotCanonical", fn := fun _ => fun
  | [d1, d2, d3] => { results := [.lit (.bool false)], args := [d1, d2, d3] }
  | _ => none }
def SnapshotCanonicalWrongFalsely : Prop := snapshotCanonicalRow.holds Tryz.pinned (OpenSpec.ofChange snapshotCanonicalWrong)

/- THE SECOND FORM. 'bulk': how many values and letters a reading holds, each counted each time it is reached (what is shared counts as often as it is met; a slice's spare places count too). A statement '..UptoSaid' is the law's where the arguments, and the package variables that the reading takes, are together of bulk at most 1048576: NARROWER than '..Said'. Prove '..Said' where nothing that the law and all that it calls make is longer than what came in: it says more and counts as full. Else prove '..UptoSaid'. A law counts once. -/
mutual
def uptoBulk {H : Type} : DataW H → Nat
  | .lit (.string bytes) => bytes.length + 1
  | .lit _ => 1
  | .nil => 1
  | .ptr d => uptoBulk d + 1
  | .slice elems spare => uptoBulkAll elems + uptoBulkAll spare + 1
  | .agg parts => uptoBulkAll parts + 1
  | .iface _ d => uptoBulk d + 1
  | .map entries => uptoBulkEntries entries + 1
  | .held _ => 1
def uptoBulkAll {H : Type} : List (DataW H) → Nat
  | [] => 0
  | d :: r => uptoBulk d + uptoBulkAll r
def uptoBulkEntries {H : Type} : List (Lit × DataW H) → Nat
  | [] => 0
  | x :: r => uptoBulkEntry x + uptoBulkEntries r
def uptoBulkEntry {H : Type} : Lit × DataW H → Nat
  | (.string bytes, d) => bytes.length + uptoBulk d + 1
  | (_, d) => uptoBulk d + 1
 end
def uptoSmall : (H : Type) → List (DataW H) → Bool := fun _ ds => decide (uptoBulkAll ds ≤ 1048576)
def OpenSpec.upto (s : _root_.Go.ChangeSpec) : _root_.Go.OpenSpec := { _root_.Go.OpenSpec.ofChange s with cond := some uptoSmall }

/-- 'caromlaw45.SnapshotRoundTrip', WHERE WHAT IT READS IS OF BULK AT MOST 1048576: true; the input reads as it did. -/
def snapshotRoundTripUptoRow : OpenClaim := { program := "ytpbnhfancncoiaagreat", sum := "f5ac18a9248d3c86cb346f5db84d0fb3e9969424784cf46b8671590620d921c8", func := "carom/caromlaw45.SnapshotRoundTrip", spec := "snapshotRoundTrip", unfollowed := true, recurses := true, apart := false, narrowed := true }
def SnapshotRoundTripUptoSaid : Prop := snapshotRoundTripUptoRow.holds Tryz.pinned (OpenSpec.upto snapshotRoundTripSpec)

/-- 'caromlaw45.SnapshotCodecExact', WHERE WHAT IT READS IS OF BULK AT MOST 1048576: true; the input reads as it did. -/
def snapshotCodecExactUptoRow : OpenClaim := { program := "ytpbnhfancncoiaagreat", sum := "f5ac18a9248d3c86cb346f5db84d0fb3e9969424784cf46b8671590620d921c8", func := "carom/caromlaw45.SnapshotCodecExact", spec := "snapshotCodecExact", unfollowed := true, recurses := true, apart := false, narrowed := true }
def SnapshotCodecExactUptoSaid : Prop := snapshotCodecExactUptoRow.holds Tryz.pinned (OpenSpec.upto snapshotCodecExactSpec)

/-- 'caromlaw45.SnapshotCanonical', WHERE WHAT IT READS IS OF BULK AT MOST 1048576: true; the input reads as it did. -/
def snapshotCanonicalUptoRow : OpenClaim := { program := "ytpbnhfancncoiaagreat", sum := "f5ac18a9248d3c86cb346f5db84d0fb3e9969424784cf46b8671590620d921c8", func := "carom/caromlaw45.SnapshotCanonical", spec := "snapshotCanonical", unfollowed := true, recurses := true, apart := false, narrowed := true }
def SnapshotCanonicalUptoSaid : Prop := snapshotCanonicalUptoRow.holds Tryz.pinned (OpenSpec.upto snapshotCanonicalSpec)

end Rows
end Go.Proofs.YtpbnhfancncoiaaGreat
