/- A part of the walk: contracts of functions that the statement reaches. -/
import Derived.Test.YtlldeiikcfaegaaGreatAbsC
import Derived.Test.YtlldeiikcfaegaaGreatHO
set_option linter.unusedSimpArgs false
set_option linter.unusedVariables false
set_option linter.unnecessarySimpa false
set_option maxRecDepth 100000
set_option maxHeartbeats 2000000
set_option linter.unusedSimpArgs false
set_option linter.unusedVariables false
namespace Go.Abs
open Go.Proofs
open Api
/-- the cells of a group: a world of objects 1 to 4, an island, the indices (object 5) -/
def gcells (w : Api.World) (x : Island) (n : Nat) : List AV := [.sc (.int .i64 w.Settings.TimeStep), .sc (.int .i64 w.Settings.Gravity.X), .sc (.int .i64 w.Settings.Gravity.Y), .sc (.int .i64 w.Settings.Iterations), .sc (.int .i64 w.Settings.SleepSteps),
  .sl 1 0 w.Bodies.length w.Bodies.length, .sl 2 0 w.Joints.length w.Joints.length, .sl 3 0 w.Contacts.length w.Contacts.length, .sl 4 0 w.Overlaps.length w.Overlaps.length, .sc (.int .i64 w.NextID), .sc (.int .i64 w.Frame),
  encD 1 encInt 0 x.Bodies, encD 1 encInt 0 x.Contacts, encD 1 encInt 0 x.Joints, .sl 5 0 n n]
def gobj (w : Api.World) (x : Island) (l : List Int) : List (Nat × AObj) := (6, .box (gcells w x l.length)) :: (5, .arr 1 (encQ encInt 0 l)) :: Wobj w 1 2 3 4
attribute [go_sem] gcells gobj
def anyO (w : Api.World) (x : Island) (l : List Int) (f : FuncId) : List (Nat × AObj) := (48, .box [.ptr 6 0 0 1]) :: (64, .box [.fn (.func f) [.ptr 6 0 0 1] []]) :: gobj w x l
attribute [go_sem] anyO
end Go.Abs
