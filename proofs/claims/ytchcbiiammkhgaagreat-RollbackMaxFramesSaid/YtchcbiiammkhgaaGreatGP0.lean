/- Facts of the row. -/
import Derived.Test.YtchcbiiammkhgaaGreatGPB
set_option maxRecDepth 100000
set_option maxHeartbeats 2000000
namespace Go.Proofs.YtchcbiiammkhgaaGreat
open Go.ChangeShapes Go.WideShapes Go.ChangeAt Go.RowKit
theorem G5s:J0[0]? =some true:=by kernel_rfl
theorem G5t:J0[1]? =some true:=by kernel_rfl
theorem G5u:J0[2]? =some true:=by kernel_rfl
theorem G5v:J0[3]? =some true:=by kernel_rfl
theorem G5w:J0[4]? =some true:=by kernel_rfl
theorem G5x:J0[5]? =some true:=by kernel_rfl
theorem G5y:J0[6]? =some true:=by kernel_rfl
theorem G5z:J0[7]? =some true:=by kernel_rfl
end Go.Proofs.YtchcbiiammkhgaaGreat
