/- A part of the walk: contracts of functions that the statement reaches. -/
import Derived.Test.YtlldeiikcfaegaaGreatAbsC
import Derived.Test.YtlldeiikcfaegaaGreatI3
import Derived.Test.YtlldeiikcfaegaaGreatW1
import Derived.Test.YtlldeiikcfaegaaGreatISM
set_option linter.unusedSimpArgs false
set_option linter.unusedVariables false
set_option linter.unnecessarySimpa false
set_option maxRecDepth 100000
set_option maxHeartbeats 2000000
set_option linter.unusedSimpArgs false
set_option linter.unusedVariables false
namespace Go.Abs
open Go.Proofs
open Api
/-- a sum over the first k numbers -/
def cs (f : Nat → Nat) : Nat → Nat
  | 0 => 0
  | k + 1 => cs f k + f k
end Go.Abs
