/- Facts of the row. -/
import Derived.Test.YtchcbiiammkhgaaGreatGPB
set_option maxRecDepth 100000
set_option maxHeartbeats 2000000
namespace Go.Proofs.YtchcbiiammkhgaaGreat
open Go.ChangeShapes Go.WideShapes Go.ChangeAt Go.RowKit
theorem G16:J0[0]? =some true:=by kernel_rfl
theorem G17:J0[1]? =some true:=by kernel_rfl
theorem G18:J0[2]? =some true:=by kernel_rfl
theorem G19:J0[3]? =some true:=by kernel_rfl
theorem G2a:J0[4]? =some true:=by kernel_rfl
theorem G2b:J0[5]? =some true:=by kernel_rfl
theorem G2c:J0[6]? =some true:=by kernel_rfl
theorem G2d:J0[7]? =some true:=by kernel_rfl
end Go.Proofs.YtchcbiiammkhgaaGreat
