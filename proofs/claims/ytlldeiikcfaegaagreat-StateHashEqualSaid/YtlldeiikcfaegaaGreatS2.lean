/- A part of the walk: contracts of functions that the statement reaches. -/
import Derived.Test.YtlldeiikcfaegaaGreatAbsC
import Derived.Test.YtlldeiikcfaegaaGreatS1
set_option linter.unusedSimpArgs false
set_option linter.unusedVariables false
set_option linter.unnecessarySimpa false
set_option maxRecDepth 100000
set_option maxHeartbeats 2000000
set_option linter.unusedSimpArgs false
set_option linter.unusedVariables false
namespace Go.Abs
open Go.Proofs
open Api
def lenV (v : Vec) : Int := isq (distSq ⟨0, 0⟩ v)
theorem s_vec2_Length (v : Vec) : CallsA Tryz.prog F_vec2_Length [.agg v.enc] [] (.sc (.int .i64 (lenV v))) [] := by
  refine callsI_of (rs := [_]) hm Tryz.func256 (by kernel_rfl) (by kernel_rfl) is_vec2_Length (by kernel_rfl : tmpsOf Tryz.f256.results.toList = some [2]) (by decide) (by kernel_rfl) ?_
  simp only [c_vec2_Length, go_sem]
  refine CallGi_flat (s_vec2_DistanceSquared ⟨0, 0⟩ v) rfl ?_
  simp only [go_sem]
  refine CallGi_flat (s_fixed_Isqrt _) rfl ?_
  simp only [lenV, go_sem]
end Go.Abs
