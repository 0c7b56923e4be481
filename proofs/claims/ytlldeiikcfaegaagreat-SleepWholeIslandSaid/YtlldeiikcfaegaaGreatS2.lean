/- A part of the walk: contracts of functions that the statement reaches. -/
import Derived.Test.YtlldeiikcfaegaaGreatAbsC
import Derived.Test.YtlldeiikcfaegaaGreatS1
set_option linter.unusedSimpArgs false
set_option linter.unusedVariables false
set_option linter.unnecessarySimpa false
set_option maxRecDepth 100000
set_option maxHeartbeats 2000000
set_option linter.unusedSimpArgs false
set_option linter.unusedVariables false
namespace Go.Abs
open Go.Proofs
open Api
def lenV (v : Vec) : Int := isq (distSq ⟨0, 0⟩ v)
theorem s_vec2_Length (v : Vec) : CallsA Tryz.prog F_vec2_Length [.agg v.enc] [] (.sc (.int .i64 (lenV v))) [] := by
  refine callsI_of (rs := [_]) hm Tryz.func256 (by kernel_rfl) (by kernel_rfl) is_vec2_Length (by kernel_rfl : tmpsOf Tryz.f256.results.toList = some [2]) (by decide) (by kernel_rfl) ?_
  simp only [c_vec2_Length, go_sem]
  refine CallGi_flat (s_vec2_DistanceSquared ⟨0, 0⟩ v) rfl ?_
  simp only [go_sem]
  refine CallGi_flat (s_fixed_Isqrt _) rfl ?_
  simp only [lenV, go_sem]
def isSlow (b : Body) : Bool := !b.NoSleep && decide (lenV b.Velocity ≤ 4096) && decide (-4096 ≤ b.AngularVelocity) && decide (b.AngularVelocity ≤ 4096)
theorem s_sleep_IsSlow (b : Body) : CallsA Tryz.prog F_sleep_IsSlow [.agg b.enc] [] (.sc (.bool (isSlow b))) [] := by
  refine callsI_of (rs := [_]) hm Tryz.func187 (by kernel_rfl) (by kernel_rfl) is_sleep_IsSlow (by kernel_rfl : tmpsOf Tryz.f187.results.toList = some [2]) (by decide) (by kernel_rfl) ?_
  simp only [c_sleep_IsSlow, go_sem]
  refine CallGi_flat (s_vec2_Length b.Velocity) rfl ?_
  simp only [go_sem]
  rfl

def updIdle (b : Body) : Body := { b with IdleSteps := if isSlow b then IntKind.i64.wrap ((if 1048575 < b.IdleSteps then 1048575 else b.IdleSteps) + 1) else 0 }
theorem s_sleep_UpdateIdle (b : Body) : CallsA Tryz.prog F_sleep_UpdateIdle [.agg b.enc] [] (.agg (updIdle b).enc) [] := by
  refine callsIR'_of (rs := [_]) (N := 12) hm Tryz.func110 (by kernel_rfl) (by kernel_rfl) is_sleep_UpdateIdle (by kernel_rfl) (by kernel_rfl : rvOf Tryz.prog Tryz.f110.results.toList = some [(2, some (some 20))]) (by decide) (by kernel_rfl) ?_
  simp only [c_sleep_UpdateIdle, go_sem]
  refine CallGi_flat (s_sleep_IsSlow b) rfl ?_
  simp only [go_sem]
  split
  · rename_i h
    simp only [updIdle, h, if_true, go_sem]
  · rename_i h
    simp only [updIdle, h, if_false, Bool.false_eq_true, go_sem]

end Go.Abs
