/-
  No cell of these rows narrows 'for every input' (looked for: loops, veiled, ifaces, maps, wideKeys, modest, calm, conditions, laid).
  DERIVED. THE GIVEN ROWS OF THIS SEAT. 8 by the template 'for every input the law returns true; each argument reads behind the call as it read before'; 0 by the template 'total and deterministic' (their statements: YtbpaheflphafiaaTotals.lean).
  GIVEN WITH THE SEED: the statements are not yours to turn. If you find one false, say at which input.
  Laid BY PROGRAM, IN A SANDBOX (cutbox-rows.mjs): the forced cells as the released guide's own fill.sh prints them over the translation 69bb7f8ff2038ce9… (all of the seat's roots in one cut). By AI agents, Wed Nov 11 2026. No macro, syntax, notation, axiom, sorry.
-/
import Derived.Test.YtbpaheflphafiaaChecked
import GoSem.Claim
import GoSem.ClaimJoined
import GoSem.ClaimMapViews
import Derived.JoinedTies
import Derived.KernelRfl
namespace Go.Proofs.Ytbpaheflphafiaa
/- THE CELL 'sum', in the pinned program and in every row, IS THE sha256 OF THE DUMP (.gsa) THAT YtbpaheflphafiaaProg.lean LOADS. Nothing in Lean hashes anything: it is a label: what it is worth is what the hold of that sum in a sandbox is worth. -/
noncomputable def Try.pinned : Pinned := { name := "ytbpaheflphafiaa", sum := "69bb7f8ff2038ce960b57de05343a490c33516dadab7da155ca1a430a9d7ef3d", checked := Try.checked }
namespace Rows
def none {H : Type} : Left H := { results := [], args := [] }

/-- 'caromlaw37.SleepIdleSteps': WHATEVER THE INPUT: true; the input reads as it did. -/
def sleepIdleStepsSpec : ChangeSpec := { name := "sleepIdleSteps", fn := fun _ => fun
  | [d] => { results := [.lit (.bool true)], args := [d] }
  | _ => none }
def sleepIdleStepsRow : OpenClaim := { program := "ytbpaheflphafiaa", sum := "69bb7f8ff2038ce960b57de05343a490c33516dadab7da155ca1a430a9d7ef3d", func := "carom/caromlaw37.SleepIdleSteps", spec := "sleepIdleSteps", unfollowed := true, recurses := true, apart := false }
def SleepIdleStepsSaid : Prop := sleepIdleStepsRow.holds Try.pinned (OpenSpec.ofChange sleepIdleStepsSpec)

/-- ITS FALSE NEIGHBOUR: 'it returns false'. Refute it at one input. -/
def sleepIdleStepsWrong : ChangeSpec := { name := "sleepIdleSteps", fn := fun _ => fun
  | [d] => { results := [.lit (.bool false)], args := [d] }
  | _ => none }
def SleepIdleStepsWrongFalsely : Prop := sleepIdleStepsRow.holds Try.pinned (OpenSpec.ofChange sleepIdleStepsWrong)

/-- 'caromlaw37.SleepUpdate': WHATEVER THE INPUT: true; the input reads as it did. -/
def sleepUpdateSpec : ChangeSpec := { name := "sleepUpdate", fn := fun _ => fun
  | [d1, d2] => { results := [.lit (.bool true)], args := [d1, d2] }
  | _ => none }
def sleepUpdateRow : OpenClaim := { program := "ytbpaheflphafiaa", sum := "69bb7f8ff2038ce960b57de05343a490c33516dadab7da155ca1a430a9d7ef3d", func := "carom/caromlaw37.SleepUpdate", spec := "sleepUpdate", unfollowed := true, recurses := true, apart := false }
def SleepUpdateSaid : Prop := sleepUpdateRow.holds Try.pinned (OpenSpec.ofChange sleepUpdateSpec)

/-- ITS FALSE NEIGHBOUR: 'it returns false'. Refute it at one input. -/
def sleepUpdateWrong : ChangeSpec := { name := "sleepUpdate", fn := fun _ => fun
  | [d1, d2] => { results := [.lit (.bool false)], args := [d1, d2] }
  | _ => none }
def SleepUpdateWrongFalsely : Prop := sleepUpdateRow.holds Try.pinned (OpenSpec.ofChange sleepUpdateWrong)

/-- 'caromlaw37.SleepWake': WHATEVER THE INPUT: true; the input reads as it did. -/
def sleepWakeSpec : ChangeSpec := { name := "sleepWake", fn := fun _ => fun
  | [d1, d2] => { results := [.lit (.bool true)], args := [d1, d2] }
  | _ => none }
def sleepWakeRow : OpenClaim := { program := "ytbpaheflphafiaa", sum := "69bb7f8ff2038ce960b57de05343a490c33516dadab7da155ca1a430a9d7ef3d", func := "carom/caromlaw37.SleepWake", spec := "sleepWake", unfollowed := true, recurses := true, apart := false }
def SleepWakeSaid : Prop := sleepWakeRow.holds Try.pinned (OpenSpec.ofChange sleepWakeSpec)

/-- ITS FALSE NEIGHBOUR: 'it returns false'. Refute it at one input. -/
def sleepWakeWrong : ChangeSpec := { name := "sleepWake", fn := fun _ => fun
  | [d1, d2] => { results := [.lit (.bool false)], args := [d1, d2] }
  | _ => none }
def SleepWakeWrongFalsely : Prop := sleepWakeRow.holds Try.pinned (OpenSpec.ofChange sleepWakeWrong)

/-- 'caromlaw37.SleepDisabled': WHATEVER THE INPUT: true; the input reads as it did. -/
def sleepDisabledSpec : ChangeSpec := { name := "sleepDisabled", fn := fun _ => fun
  | [d1, d2] => { results := [.lit (.bool true)], args := [d1, d2] }
  | _ => none }
def sleepDisabledRow : OpenClaim := { program := "ytbpaheflphafiaa", sum := "69bb7f8ff2038ce960b57de05343a490c33516dadab7da155ca1a430a9d7ef3d", func := "carom/caromlaw37.SleepDisabled", spec := "sleepDisabled", unfollowed := true, recurses := true, apart := false }
def SleepDisabledSaid : Prop := sleepDisabledRow.holds Try.pinned (OpenSpec.ofChange sleepDisabledSpec)

/-- ITS FALSE NEIGHBOUR: 'it returns false'. Refute it at one input. -/
def sleepDisabledWrong : ChangeSpec := { name := "sleepDisabled", fn := fun _ => fun
  | [d1, d2] => { results := [.lit (.bool false)], args := [d1, d2] }
  | _ => none }
def SleepDisabledWrongFalsely : Prop := sleepDisabledRow.holds Try.pinned (OpenSpec.ofChange sleepDisabledWrong)

/-- 'caromlaw37.SleepEvents': WHATEVER THE INPUT: true; the input reads as it did. -/
def sleepEventsSpec : ChangeSpec := { name := "sleepEvents", fn := fun _ => fun
  | [d1, d2] => { results := [.lit (.bool true)], args := [d1, d2] }
  | _ => none }
def sleepEventsRow : OpenClaim := { program := "ytbpaheflphafiaa", sum := "69bb7f8ff2038ce960b57de05343a490c33516dadab7da155ca1a430a9d7ef3d", func := "carom/caromlaw37.SleepEvents", spec := "sleepEvents", unfollowed := true, recurses := true, apart := false }
def SleepEventsSaid : Prop := sleepEventsRow.holds Try.pinned (OpenSpec.ofChange sleepEventsSpec)

/-- ITS FALSE NEIGHBOUR: 'it returns false'. Refute it at one input. -/
def sleepEventsWrong : ChangeSpec := { name := "sleepEvents", fn := fun _ => fun
  | [d1, d2] => { results := [.lit (.bool false)], args := [d1, d2] }
  | _ => none }
def SleepEventsWrongFalsely : Prop := sleepEventsRow.holds Try.pinned (OpenSpec.ofChange sleepEventsWrong)

/-- 'caromlaw46.StateHashBytes': WHATEVER THE INPUT: true; the input reads as it did. -/
def stateHashBytesSpec : ChangeSpec := { name := "stateHashBytes", fn := fun _ => fun
  | [d] => { results := [.lit (.bool true)], args := [d] }
  | _ => none }
def stateHashBytesRow : OpenClaim := { program := "ytbpaheflphafiaa", sum := "69bb7f8ff2038ce960b57de05343a490c33516dadab7da155ca1a430a9d7ef3d", func := "carom/caromlaw46.StateHashBytes", spec := "stateHashBytes", unfollowed := true, recurses := true, apart := false }
def StateHashBytesSaid : Prop := stateHashBytesRow.holds Try.pinned (OpenSpec.ofChange stateHashBytesSpec)

/-- ITS FALSE NEIGHBOUR: 'it returns false'. Refute it at one input. -/
def stateHashBytesWrong : ChangeSpec := { name := "stateHashBytes", fn := fun _ => fun
  | [d] => { results := [.lit (.bool false)], args := [d] }
  | _ => none }
def StateHashBytesWrongFalsely : Prop := stateHashBytesRow.holds Try.pinned (OpenSpec.ofChange stateHashBytesWrong)

/-- 'caromlaw46.StateHashChain': WHATEVER THE INPUT: true; the input reads as it did. -/
def stateHashChainSpec : ChangeSpec := { name := "stateHashChain", fn := fun _ => fun
  | [d1, d2] => { results := [.lit (.bool true)], args := [d1, d2] }
  | _ => none }
def stateHashChainRow : OpenClaim := { program := "ytbpaheflphafiaa", sum := "69bb7f8ff2038ce960b57de05343a490c33516dadab7da155ca1a430a9d7ef3d", func := "carom/caromlaw46.StateHashChain", spec := "stateHashChain", unfollowed := true, recurses := true, apart := false }
def StateHashChainSaid : Prop := stateHashChainRow.holds Try.pinned (OpenSpec.ofChange stateHashChainSpec)

/-- ITS FALSE NEIGHBOUR: 'it returns false'. Refute it at one input. -/
def stateHashChainWrong : ChangeSpec := { name := "stateHashChain", fn := fun _ => fun
  | [d1, d2] => { results := [.lit (.bool false)], args := [d1, d2] }
  | _ => none }
def StateHashChainWrongFalsely : Prop := stateHashChainRow.holds Try.pinned (OpenSpec.ofChange stateHashChainWrong)

/-- 'caromlaw46.StateHashPrefix': WHATEVER THE INPUT: true; the input reads as it did. -/
def stateHashPrefixSpec : ChangeSpec := { name := "stateHashPrefix", fn := fun _ => fun
  | [d1, d2] => { results := [.lit (.bool true)], args := [d1, d2] }
  | _ => none }
def stateHashPrefixRow : OpenClaim := { program := "ytbpaheflphafiaa", sum := "69bb7f8ff2038ce960b57de05343a490c33516dadab7da155ca1a430a9d7ef3d", func := "carom/caromlaw46.StateHashPrefix", spec := "stateHashPrefix", unfollowed := true, recurses := true, apart := false }
def StateHashPrefixSaid : Prop := stateHashPrefixRow.holds Try.pinned (OpenSpec.ofChange stateHashPrefixSpec)

/-- ITS FALSE NEIGHBOUR: 'it returns false'. Refute it at one input. -/
def stateHashPrefixWrong : ChangeSpec := { name := "stateHashPrefix", fn := fun _ => fun
  | [d1, d2] => { results := [.lit (.bool false)], args := [d1, d2] }
  | _ => none }
def StateHashPrefixWrongFalsely : Prop := stateHashPrefixRow.holds Try.pinned (OpenSpec.ofChange stateHashPrefixWrong)

/- THE SECOND FORM. 'bulk': how many values and letters a reading holds, each counted each time it is reached (what is shared counts as often as it is met; a slice's spare places count too). A statement '..UptoSaid' is the law's where the arguments, and the package variables that the reading takes, are together of bulk at most 1048576: NARROWER than '..Said'. Prove '..Said' where nothing that the law and all that it calls make is longer than what came in: it says more and counts as full. Else prove '..UptoSaid'. A law counts once. -/
mutual
def uptoBulk {H : Type} : DataW H → Nat
  | .lit (.string bytes) => bytes.length + 1
  | .lit _ => 1
  | .nil => 1
  | .ptr d => uptoBulk d + 1
  | .slice elems spare => uptoBulkAll elems + uptoBulkAll spare + 1
  | .agg parts => uptoBulkAll parts + 1
  | .iface _ d => uptoBulk d + 1
  | .map entries => uptoBulkEntries entries + 1
  | .held _ => 1
def uptoBulkAll {H : Type} : List (DataW H) → Nat
  | [] => 0
  | d :: r => uptoBulk d + uptoBulkAll r
def uptoBulkEntries {H : Type} : List (Lit × DataW H) → Nat
  | [] => 0
  | x :: r => uptoBulkEntry x + uptoBulkEntries r
def uptoBulkEntry {H : Type} : Lit × DataW H → Nat
  | (.string bytes, d) => bytes.length + uptoBulk d + 1
  | (_, d) => uptoBulk d + 1
 end
def uptoSmall : (H : Type) → List (DataW H) → Bool := fun _ ds => decide (uptoBulkAll ds ≤ 1048576)
def OpenSpec.upto (s : _root_.Go.ChangeSpec) : _root_.Go.OpenSpec := { _root_.Go.OpenSpec.ofChange s with cond := some uptoSmall }

/-- 'caromlaw37.SleepIdleSteps', WHERE WHAT IT READS IS OF BULK AT MOST 1048576: true; the input reads as it did. -/
def sleepIdleStepsUptoRow : OpenClaim := { program := "ytbpaheflphafiaa", sum := "69bb7f8ff2038ce960b57de05343a490c33516dadab7da155ca1a430a9d7ef3d", func := "carom/caromlaw37.SleepIdleSteps", spec := "sleepIdleSteps", unfollowed := true, recurses := true, apart := false, narrowed := true }
def SleepIdleStepsUptoSaid : Prop := sleepIdleStepsUptoRow.holds Try.pinned (OpenSpec.upto sleepIdleStepsSpec)

/-- 'caromlaw37.SleepUpdate', WHERE WHAT IT READS IS OF BULK AT MOST 1048576: true; the input reads as it did. -/
def sleepUpdateUptoRow : OpenClaim := { program := "ytbpaheflphafiaa", sum := "69bb7f8ff2038ce960b57de05343a490c33516dadab7da155ca1a430a9d7ef3d", func := "carom/caromlaw37.SleepUpdate", spec := "sleepUpdate", unfollowed := true, recurses := true, apart := false, narrowed := true }
def SleepUpdateUptoSaid : Prop := sleepUpdateUptoRow.holds Try.pinned (OpenSpec.upto sleepUpdateSpec)

/-- 'caromlaw37.SleepWake', WHERE WHAT IT READS IS OF BULK AT MOST 1048576: true; the input reads as it did. -/
def sleepWakeUptoRow : OpenClaim := { program := "ytbpaheflphafiaa", sum := "69bb7f8ff2038ce960b57de05343a490c33516dadab7da155ca1a430a9d7ef3d", func := "carom/caromlaw37.SleepWake", spec := "sleepWake", unfollowed := true, recurses := true, apart := false, narrowed := true }
def SleepWakeUptoSaid : Prop := sleepWakeUptoRow.holds Try.pinned (OpenSpec.upto sleepWakeSpec)

/-- 'caromlaw37.SleepDisabled', WHERE WHAT IT READS IS OF BULK AT MOST 1048576: true; the input reads as it did. -/
def sleepDisabledUptoRow : OpenClaim := { program := "ytbpaheflphafiaa", sum := "69bb7f8ff2038ce960b57de05343a490c33516dadab7da155ca1a430a9d7ef3d", func := "carom/caromlaw37.SleepDisabled", spec := "sleepDisabled", unfollowed := true, recurses := true, apart := false, narrowed := true }
def SleepDisabledUptoSaid : Prop := sleepDisabledUptoRow.holds Try.pinned (OpenSpec.upto sleepDisabledSpec)

/-- 'caromlaw37.SleepEvents', WHERE WHAT IT READS IS OF BULK AT MOST 1048576: true; the input reads as it did. -/
def sleepEventsUptoRow : OpenClaim := { program := "ytbpaheflphafiaa", sum := "69bb7f8ff2038ce960b57de05343a490c33516dadab7da155ca1a430a9d7ef3d", func := "carom/caromlaw37.SleepEvents", spec := "sleepEvents", unfollowed := true, recurses := true, apart := false, narrowed := true }
def SleepEventsUptoSaid : Prop := sleepEventsUptoRow.holds Try.pinned (OpenSpec.upto sleepEventsSpec)

/-- 'caromlaw46.StateHashBytes', WHERE WHAT IT READS IS OF BULK AT MOST 1048576: true; the input reads as it did. -/
def stateHashBytesUptoRow : OpenClaim := { program := "ytbpaheflphafiaa", sum := "69bb7f8ff2038ce960b57de05343a490c33516dadab7da155ca1a430a9d7ef3d", func := "carom/caromlaw46.StateHashBytes", spec := "stateHashBytes", unfollowed := true, recurses := true, apart := false, narrowed := true }
def StateHashBytesUptoSaid : Prop := stateHashBytesUptoRow.holds Try.pinned (OpenSpec.upto stateHashBytesSpec)

/-- 'caromlaw46.StateHashChain', WHERE WHAT IT READS IS OF BULK AT MOST 1048576: true; the input reads as it did. -/
def stateHashChainUptoRow : OpenClaim := { program := "ytbpaheflphafiaa", sum := "69bb7f8ff2038ce960b57de05343a490c33516dadab7da155ca1a430a9d7ef3d", func := "carom/caromlaw46.StateHashChain", spec := "stateHashChain", unfollowed := true, recurses := true, apart := false, narrowed := true }
def StateHashChainUptoSaid : Prop := stateHashChainUptoRow.holds Try.pinned (OpenSpec.upto stateHashChainSpec)

/-- 'caromlaw46.StateHashPrefix', WHERE WHAT IT READS IS OF BULK AT MOST 1048576: true; the input reads as it did. -/
def stateHashPrefixUptoRow : OpenClaim := { program := "ytbpaheflphafiaa", sum := "69bb7f8ff2038ce960b57de05343a490c33516dadab7da155ca1a430a9d7ef3d", func := "carom/caromlaw46.StateHashPrefix", spec := "stateHashPrefix", unfollowed := true, recurses := true, apart := false, narrowed := true }
def StateHashPrefixUptoSaid : Prop := stateHashPrefixUptoRow.holds Try.pinned (OpenSpec.upto stateHashPrefixSpec)

end Rows
end Go.Proofs.Ytbpaheflphafiaa
