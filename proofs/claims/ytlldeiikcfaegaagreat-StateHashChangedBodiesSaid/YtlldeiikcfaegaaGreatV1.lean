/- A part of the walk: contracts of functions that the statement reaches. -/
import Derived.Test.YtlldeiikcfaegaaGreatAbsC
import Derived.Test.YtlldeiikcfaegaaGreatX6
import Derived.Test.YtlldeiikcfaegaaGreatHO
set_option linter.unusedSimpArgs false
set_option linter.unusedVariables false
set_option linter.unnecessarySimpa false
set_option maxRecDepth 100000
set_option maxHeartbeats 2000000
set_option linter.unusedSimpArgs false
set_option linter.unusedVariables false
namespace Go.Abs
open Go.Proofs
open Api
/-- x lies in [lo, hi] -/
def inR (x lo hi : Int) : Bool := decide (lo ≤ x ∧ x ≤ hi)
theorem s_world_in (x lo hi : Int) : CallsA Tryz.prog F_world_in [.sc (.int .i64 x), .sc (.int .i64 lo), .sc (.int .i64 hi)] [] (.sc (.bool (inR x lo hi))) [] := by
  refine callsI_of (rs := [_]) hm Tryz.func72 (by kernel_rfl) (by kernel_rfl) is_world_in (by kernel_rfl : tmpsOf Tryz.f72.results.toList = some [6]) (by decide) (by kernel_rfl) ?_
  simp only [c_world_in, go_sem]
  by_cases h : lo ≤ x
  · simp only [h, if_true, inR, true_and]
  · simp only [h, if_false, inR, false_and, decide_false]

end Go.Abs
