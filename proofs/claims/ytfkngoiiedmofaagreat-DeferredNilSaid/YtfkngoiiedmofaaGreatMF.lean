/- A part of the proof: contracts of functions that the statement reaches. -/
import Derived.Test.YtfkngoiiedmofaaGreatME
set_option linter.unusedSimpArgs false
set_option linter.unusedVariables false
set_option linter.unnecessarySimpa false
set_option maxRecDepth 100000
set_option maxHeartbeats 2000000
section
namespace Go.Abs
open Go.Proofs
theorem s_law50_example : CallsA Tryz.prog F_law50_example [] [] (.sc (.bool true)) [] := runs_true hm tab leafs 100 (by kernel_rfl)
end Go.Abs
end
