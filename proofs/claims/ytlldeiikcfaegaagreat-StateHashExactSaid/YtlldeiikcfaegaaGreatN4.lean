/- A part of the walk: contracts of functions that the statement reaches. -/
import Derived.Test.YtlldeiikcfaegaaGreatAbsC
import Derived.Test.YtlldeiikcfaegaaGreatX3
import Derived.Test.YtlldeiikcfaegaaGreatHO
import Derived.Test.YtlldeiikcfaegaaGreatE8
import Derived.Test.YtlldeiikcfaegaaGreatY4
import Derived.Test.YtlldeiikcfaegaaGreatS9
import Derived.Test.YtlldeiikcfaegaaGreatE3
set_option linter.unusedSimpArgs false
set_option linter.unusedVariables false
set_option linter.unnecessarySimpa false
set_option maxRecDepth 100000
set_option maxHeartbeats 2000000
set_option linter.unusedSimpArgs false
set_option linter.unusedVariables false
namespace Go.Abs
open Go.Proofs
open Api
/-- the hash of a world -/
def ofW (w : Api.World) : Int := if d_world_Validate w = 0 then hashL ((encR w).length : Nat) ((encR w).map w64) else 0
theorem s_statehash_OfWorld (w : Api.World) (hw : Wsm w) (hf : Wfew w) : CallsA Tryz.prog F_statehash_OfWorld [.agg w.enc] [] (.sc (.int .u64 (ofW w))) [] := by
  have hl := encR_len hf
  refine callsI_of (rs := [_]) hm Tryz.func19 (by kernel_rfl) (by kernel_rfl) is_statehash_OfWorld (by kernel_rfl : tmpsOf Tryz.f19.results.toList = some [2]) (by decide) (by kernel_rfl) ?_
  simp only [c_statehash_OfWorld, go_sem]
  refine CallGi_flat (s_snapshot_Encode w hw hf) rfl ?_
  simp only [go_sem]
  unfold ofW encE
  by_cases hv : d_world_Validate w = 0
  · rw [if_pos hv, if_pos hv, if_neg (by simp)]
    refine CallGi_flat (s_statehash_OfBytes (encR w) (by omega)) rfl ?_
    simp only [go_sem]
  · rw [if_neg hv, if_neg hv, if_pos (by simp)]
end Go.Abs
