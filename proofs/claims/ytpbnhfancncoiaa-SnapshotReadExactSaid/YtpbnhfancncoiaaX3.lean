/- A part of the walk: contracts of functions that the statement reaches. -/
import Derived.Test.YtpbnhfancncoiaaAbsD
import Derived.Test.YtpbnhfancncoiaaX2
set_option linter.unusedSimpArgs false
set_option linter.unusedVariables false
set_option linter.unnecessarySimpa false
set_option maxRecDepth 100000
set_option maxHeartbeats 2000000
set_option linter.unusedSimpArgs false
set_option linter.unusedVariables false
namespace Go.Abs
open Go.Proofs
open Api
/-- a world whose slices are objects a to d -/
def Wown (w : Api.World) (a b c d : Nat) : AV := .agg [.sc (.int .i64 w.Settings.TimeStep), .sc (.int .i64 w.Settings.Gravity.X), .sc (.int .i64 w.Settings.Gravity.Y), .sc (.int .i64 w.Settings.Iterations), .sc (.int .i64 w.Settings.SleepSteps),
  .sl a 0 w.Bodies.length w.Bodies.length, .sl b 0 w.Joints.length w.Joints.length, .sl c 0 w.Contacts.length w.Contacts.length, .sl d 0 w.Overlaps.length w.Overlaps.length, .sc (.int .i64 w.NextID), .sc (.int .i64 w.Frame)]
def Wobj (w : Api.World) (a b c d : Nat) : List (Nat × AObj) := [(a, .arr 20 (encQ Body.enc default w.Bodies)), (b, .arr 24 (encQ Joint.enc default w.Joints)), (c, .arr 7 (encQ Contact.enc default w.Contacts)), (d, .arr 4 (encQ PairKey.enc default w.Overlaps))]
attribute [go_sem] Wown Wobj
end Go.Abs
