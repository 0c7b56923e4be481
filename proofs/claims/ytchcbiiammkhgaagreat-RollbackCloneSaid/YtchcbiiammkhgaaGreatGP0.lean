/- Facts of the row. -/
import Derived.Test.YtchcbiiammkhgaaGreatGPB
set_option maxRecDepth 100000
set_option maxHeartbeats 2000000
namespace Go.Proofs.YtchcbiiammkhgaaGreat
open Go.ChangeShapes Go.WideShapes Go.ChangeAt Go.RowKit
theorem F7h:J0[0]? =some true:=by kernel_rfl
theorem F7i:J0[1]? =some true:=by kernel_rfl
theorem F7j:J0[2]? =some true:=by kernel_rfl
theorem F7k:J0[3]? =some true:=by kernel_rfl
theorem F7l:J0[4]? =some true:=by kernel_rfl
theorem F7m:J0[5]? =some true:=by kernel_rfl
theorem F7n:J0[6]? =some true:=by kernel_rfl
theorem F7o:J0[7]? =some true:=by kernel_rfl
end Go.Proofs.YtchcbiiammkhgaaGreat
