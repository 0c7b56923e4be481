/-
  No cell of these rows narrows 'for every input' (looked for: loops, veiled, ifaces, maps, wideKeys, modest, calm, conditions, laid).
  DERIVED. THE GIVEN ROWS OF THIS SEAT. 5 by the template 'for every input the law returns true; each argument reads behind the call as it read before'; 0 by the template 'total and deterministic' (their statements: YtchcbiiammkhgaaGreatTotals.lean).
  GIVEN WITH THE SEED: the statements are not yours to turn. If you find one false, say at which input.
  Laid BY PROGRAM, IN A SANDBOX (cutbox-rows.mjs): the forced cells as the released guide's own fill.sh prints them over the translation 141ebb6e18239045… (all of the seat's roots in one cut). By AI agents, Wed Nov 11 2026. No macro, syntax, notation, axiom, sorry.
-/
import Derived.Test.YtchcbiiammkhgaaGreatChecked
import GoSem.Claim
import GoSem.ClaimJoined
import GoSem.ClaimMapViews
import Derived.JoinedTies
import Derived.KernelRfl
namespace Go.Proofs.YtchcbiiammkhgaaGreat
/- THE CELL 'sum', in the pinned program and in every row, IS THE sha256 OF THE DUMP (.gsa) THAT YtchcbiiammkhgaaGreatProg.lean LOADS. Nothing in Lean hashes anything: it is a label: what it is worth is what the hold of that sum in a sandbox is worth. -/
noncomputable def Tryz.pinned : Pinned := { name := "ytchcbiiammkhgaagreat", sum := "141ebb6e18239045a3c2f8e20029cb449dfdc7366fd436c6d60b69dbbd0ec073", checked := Tryz.checked }
namespace Rows
def none {H : Type} : Left H := { results := [], args := [] }

/-- 'caromlaw50.DeferredQueue': WHATEVER THE INPUT: true; the input reads as it did. -/
def deferredQueueSpec : ChangeSpec := { name := "deferredQueue", fn := fun _ => fun
  | [d1, d2, d3] => { results := [.lit (.bool true)], args := [d1, d2, d3] }
  | _ => none }
def deferredQueueRow : OpenClaim := { program := "ytchcbiiammkhgaagreat", sum := "141ebb6e18239045a3c2f8e20029cb449dfdc7366fd436c6d60b69dbbd0ec073", func := "carom/caromlaw50.DeferredQueue", spec := "deferredQueue", unfollowed := true, recurses := true, plainKeys := false, apart := false }
def DeferredQueueSaid : Prop := deferredQueueRow.holds Tryz.pinned (OpenSpec.ofChange deferredQueueSpec)

/-- ITS FALSE NEIGHBOUR: 'it returns false'. Refute it at one input. -/
def deferredQueueWrong : ChangeSpec := { name := "deferredQueue", fn := fun _ => fun
  | [d1, d2, d3] => { results := [.lit (.bool false)], args := [d1, d2, d3] }
  | _ => none }
def DeferredQueueWrongFalsely : Prop := deferredQueueRow.holds Tryz.pinned (OpenSpec.ofChange deferredQueueWrong)

/-- 'caromlaw49.RollbackMaxFrames': WHATEVER THE INPUT: true; the input reads as it did. -/
def rollbackMaxFramesSpec : ChangeSpec := { name := "rollbackMaxFrames", fn := fun _ => fun
  | [d] => { results := [.lit (.bool true)], args := [d] }
  | _ => none }
def rollbackMaxFramesRow : OpenClaim := { program := "ytchcbiiammkhgaagreat", sum := "141ebb6e18239045a3c2f8e20029cb449dfdc7366fd436c6d60b69dbbd0ec073", func := "carom/caromlaw49.RollbackMaxFrames", spec := "rollbackMaxFrames", unfollowed := true, recurses := true, plainKeys := false, apart := false }
def RollbackMaxFramesSaid : Prop := rollbackMaxFramesRow.holds Tryz.pinned (OpenSpec.ofChange rollbackMaxFramesSpec)

/-- ITS FALSE NEIGHBOUR: 'it returns false'. Refute it at one input. -/
def rollbackMaxFramesWrong : ChangeSpec := { name := "rollbackMaxFrames", fn := fun _ => fun
  | [d] => { results := [.lit (.bool false)], args := [d] }
  | _ => none }
def RollbackMaxFramesWrongFalsely : Prop := rollbackMaxFramesRow.holds Tryz.pinned (OpenSpec.ofChange rollbackMaxFramesWrong)

/-- 'caromlaw49.RollbackRejected': WHATEVER THE INPUT: true; the input reads as it did. -/
def rollbackRejectedSpec : ChangeSpec := { name := "rollbackRejected", fn := fun _ => fun
  | [d1, d2, d3, d4] => { results := [.lit (.bool true)], args := [d1, d2, d3, d4] }
  | _ => none }
def rollbackRejectedRow : OpenClaim := { program := "ytchcbiiammkhgaagreat", sum := "141ebb6e18239045a3c2f8e20029cb449dfdc7366fd436c6d60b69dbbd0ec073", func := "carom/caromlaw49.RollbackRejected", spec := "rollbackRejected", unfollowed := true, recurses := true, plainKeys := false, apart := false }
def RollbackRejectedSaid : Prop := rollbackRejectedRow.holds Tryz.pinned (OpenSpec.ofChange rollbackRejectedSpec)

/-- ITS FALSE NEIGHBOUR: 'it returns false'. Refute it at one input. -/
def rollbackRejectedWrong : ChangeSpec := { name := "rollbackRejected", fn := fun _ => fun
  | [d1, d2, d3, d4] => { results := [.lit (.bool false)], args := [d1, d2, d3, d4] }
  | _ => none }
def RollbackRejectedWrongFalsely : Prop := rollbackRejectedRow.holds Tryz.pinned (OpenSpec.ofChange rollbackRejectedWrong)

/-- 'caromlaw49.RollbackClone': WHATEVER THE INPUT: true; the input reads as it did. -/
def rollbackCloneSpec : ChangeSpec := { name := "rollbackClone", fn := fun _ => fun
  | [d1, d2, d3, d4] => { results := [.lit (.bool true)], args := [d1, d2, d3, d4] }
  | _ => none }
def rollbackCloneRow : OpenClaim := { program := "ytchcbiiammkhgaagreat", sum := "141ebb6e18239045a3c2f8e20029cb449dfdc7366fd436c6d60b69dbbd0ec073", func := "carom/caromlaw49.RollbackClone", spec := "rollbackClone", unfollowed := true, recurses := true, plainKeys := false, apart := false }
def RollbackCloneSaid : Prop := rollbackCloneRow.holds Tryz.pinned (OpenSpec.ofChange rollbackCloneSpec)

/-- ITS FALSE NEIGHBOUR: 'it returns false'. Refute it at one input. -/
def rollbackCloneWrong : ChangeSpec := { name := "rollbackClone", fn := fun _ => fun
  | [d1, d2, d3, d4] => { results := [.lit (.bool false)], args := [d1, d2, d3, d4] }
  | _ => none }
def RollbackCloneWrongFalsely : Prop := rollbackCloneRow.holds Tryz.pinned (OpenSpec.ofChange rollbackCloneWrong)

/-- 'caromlaw49.RollbackEqualsReplay': WHATEVER THE INPUT: true; the input reads as it did. -/
def rollbackEqualsReplaySpec : ChangeSpec := { name := "rollbackEqualsReplay", fn := fun _ => fun
  | [d1, d2, d3] => { results := [.lit (.bool true)], args := [d1, d2, d3] }
  | _ => none }
def rollbackEqualsReplayRow : OpenClaim := { program := "ytchcbiiammkhgaagreat", sum := "141ebb6e18239045a3c2f8e20029cb449dfdc7366fd436c6d60b69dbbd0ec073", func := "carom/caromlaw49.RollbackEqualsReplay", spec := "rollbackEqualsReplay", unfollowed := true, recurses := true, plainKeys := false, apart := false }
def RollbackEqualsReplaySaid : Prop := rollbackEqualsReplayRow.holds Tryz.pinned (OpenSpec.ofChange rollbackEqualsReplaySpec)

/-- ITS FALSE NEIGHBOUR: 'it returns false'. Refute it at one input. -/
def rollbackEqualsReplayWrong : ChangeSpec := { name := "rollbackEqualsReplay", fn := fun _ => fun
  | [d1, d2, d3] => { results := [.lit (.bool false)], args := [d1, d2, d3] }
  | _ => none }
def RollbackEqualsReplayWrongFalsely : Prop := rollbackEqualsReplayRow.holds Tryz.pinned (OpenSpec.ofChange rollbackEqualsReplayWrong)

/- THE SECOND FORM. 'bulk': how many values and letters a reading holds, each counted each time it is reached (what is shared counts as often as it is met; a slice's spare places count too). A statement '..UptoSaid' is the law's where the arguments, and the package variables that the reading takes, are together of bulk at most 1048576: NARROWER than '..Said'. Prove '..Said' where nothing that the law and all that it calls make is longer than what came in: it says more and counts as full. Else prove '..UptoSaid'. A law counts once. -/
mutual
def uptoBulk {H : Type} : DataW H → Nat
  | .lit (.string bytes) => bytes.length + 1
  | .lit _ => 1
  | .nil => 1
  | .ptr d => uptoBulk d + 1
  | .slice elems spare => uptoBulkAll elems + uptoBulkAll spare + 1
  | .agg parts => uptoBulkAll parts + 1
  | .iface _ d => uptoBulk d + 1
  | .map entries => uptoBulkEntries entries + 1
  | .held _ => 1
def uptoBulkAll {H : Type} : List (DataW H) → Nat
  | [] => 0
  | d :: r => uptoBulk d + uptoBulkAll r
def uptoBulkEntries {H : Type} : List (Lit × DataW H) → Nat
  | [] => 0
  | x :: r => uptoBulkEntry x + uptoBulkEntries r
def uptoBulkEntry {H : Type} : Lit × DataW H → Nat
  | (.string bytes, d) => bytes.length + uptoBulk d + 1
  | (_, d) => uptoBulk d + 1
 end
def uptoSmall : (H : Type) → List (DataW H) → Bool := fun _ ds => decide (uptoBulkAll ds ≤ 1048576)
def OpenSpec.upto (s : _root_.Go.ChangeSpec) : _root_.Go.OpenSpec := { _root_.Go.OpenSpec.ofChange s with cond := some uptoSmall }

/-- 'caromlaw50.DeferredQueue', WHERE WHAT IT READS IS OF BULK AT MOST 1048576: true; the input reads as it did. -/
def deferredQueueUptoRow : OpenClaim := { program := "ytchcbiiammkhgaagreat", sum := "141ebb6e18239045a3c2f8e20029cb449dfdc7366fd436c6d60b69dbbd0ec073", func := "carom/caromlaw50.DeferredQueue", spec := "deferredQueue", unfollowed := true, recurses := true, plainKeys := false, apart := false, narrowed := true }
def DeferredQueueUptoSaid : Prop := deferredQueueUptoRow.holds Tryz.pinned (OpenSpec.upto deferredQueueSpec)

/-- 'caromlaw49.RollbackMaxFrames', WHERE WHAT IT READS IS OF BULK AT MOST 1048576: true; the input reads as it did. -/
def rollbackMaxFramesUptoRow : OpenClaim := { program := "ytchcbiiammkhgaagreat", sum := "141ebb6e18239045a3c2f8e20029cb449dfdc7366fd436c6d60b69dbbd0ec073", func := "carom/caromlaw49.RollbackMaxFrames", spec := "rollbackMaxFrames", unfollowed := true, recurses := true, plainKeys := false, apart := false, narrowed := true }
def RollbackMaxFramesUptoSaid : Prop := rollbackMaxFramesUptoRow.holds Tryz.pinned (OpenSpec.upto rollbackMaxFramesSpec)

/-- 'caromlaw49.RollbackRejected', WHERE WHAT IT READS IS OF BULK AT MOST 1048576: true; the input reads as it did. -/
def rollbackRejectedUptoRow : OpenClaim := { program := "ytchcbiiammkhgaagreat", sum := "141ebb6e18239045a3c2f8e20029cb449dfdc7366fd436c6d60b69dbbd0ec073", func := "carom/caromlaw49.RollbackRejected", spec := "rollbackRejected", unfollowed := true, recurses := true, plainKeys := false, apart := false, narrowed := true }
def RollbackRejectedUptoSaid : Prop := rollbackRejectedUptoRow.holds Tryz.pinned (OpenSpec.upto rollbackRejectedSpec)

/-- 'caromlaw49.RollbackClone', WHERE WHAT IT READS IS OF BULK AT MOST 1048576: true; the input reads as it did. -/
def rollbackCloneUptoRow : OpenClaim := { program := "ytchcbiiammkhgaagreat", sum := "141ebb6e18239045a3c2f8e20029cb449dfdc7366fd436c6d60b69dbbd0ec073", func := "carom/caromlaw49.RollbackClone", spec := "rollbackClone", unfollowed := true, recurses := true, plainKeys := false, apart := false, narrowed := true }
def RollbackCloneUptoSaid : Prop := rollbackCloneUptoRow.holds Tryz.pinned (OpenSpec.upto rollbackCloneSpec)

/-- 'caromlaw49.RollbackEqualsReplay', WHERE WHAT IT READS IS OF BULK AT MOST 1048576: true; the input reads as it did. -/
def rollbackEqualsReplayUptoRow : OpenClaim := { program := "ytchcbiiammkhgaagreat", sum := "141ebb6e18239045a3c2f8e20029cb449dfdc7366fd436c6d60b69dbbd0ec073", func := "carom/caromlaw49.RollbackEqualsReplay", spec := "rollbackEqualsReplay", unfollowed := true, recurses := true, plainKeys := false, apart := false, narrowed := true }
def RollbackEqualsReplayUptoSaid : Prop := rollbackEqualsReplayUptoRow.holds Tryz.pinned (OpenSpec.upto rollbackEqualsReplaySpec)

end Rows
end Go.Proofs.YtchcbiiammkhgaaGreat
