/- A part of the walk: contracts of functions that the statement reaches. -/
import Derived.Test.YtlldeiikcfaegaaGreatAbsC
import Derived.Test.YtlldeiikcfaegaaGreatX3
import Derived.Test.YtlldeiikcfaegaaGreatHO
import Derived.Test.YtlldeiikcfaegaaGreatS15
import Derived.Test.YtlldeiikcfaegaaGreatI9
import Derived.Test.YtlldeiikcfaegaaGreatS6
set_option linter.unusedSimpArgs false
set_option linter.unusedVariables false
set_option linter.unnecessarySimpa false
set_option maxRecDepth 100000
set_option maxHeartbeats 2000000
set_option linter.unusedSimpArgs false
set_option linter.unusedVariables false
namespace Go.Abs
open Go.Proofs
open Api
/-- the bodies of the first so many worlds -/
def two (a b : Api.World) (j : Nat) : List Body := (([a, b].take j).flatMap fun w => w.Bodies)
end Go.Abs
