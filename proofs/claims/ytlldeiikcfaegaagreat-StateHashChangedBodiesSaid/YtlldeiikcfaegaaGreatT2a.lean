/- A part of the walk: contracts of functions that the statement reaches. -/
import Derived.Test.YtlldeiikcfaegaaGreatAbsC
import Derived.Test.YtlldeiikcfaegaaGreatV1
set_option linter.unusedSimpArgs false
set_option linter.unusedVariables false
set_option linter.unnecessarySimpa false
set_option maxRecDepth 100000
set_option maxHeartbeats 2000000
set_option linter.unusedSimpArgs false
set_option linter.unusedVariables false
namespace Go.Abs
open Go.Proofs
open Api
structure polygon_triangle where
  e : Vec
  f : Vec
  cross : Int
  deriving DecidableEq, Inhabited
def polygon_triangle.enc (x : polygon_triangle) : List AV :=
  [.sc (.int .i64 x.e.X), .sc (.int .i64 x.e.Y), .sc (.int .i64 x.f.X), .sc (.int .i64 x.f.Y), .sc (.int .i64 x.cross)]
def polygon_triangle.zero : List AV := [.sc (.int .i64 0), .sc (.int .i64 0), .sc (.int .i64 0), .sc (.int .i64 0), .sc (.int .i64 0)]
attribute [go_sem] polygon_triangle.enc polygon_triangle.zero
end Go.Abs
