/- A part of the proof: contracts of functions that the statement reaches. -/
import Derived.Test.YthpkalnjbhnfpaaGreatMJ
set_option linter.unusedSimpArgs false
set_option linter.unusedVariables false
set_option linter.unnecessarySimpa false
set_option maxRecDepth 100000
set_option maxHeartbeats 2000000
section
namespace Go.Abs
open Go.Proofs
theorem A71:A5 Tryz.prog C5s [] [] (.sc (.bool true)) []:=D8o hm tab F0g 100 (by kernel_rfl)
end Go.Abs
end
