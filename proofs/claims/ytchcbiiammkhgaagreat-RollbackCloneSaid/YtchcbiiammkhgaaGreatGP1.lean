/- Facts of the row. -/
import Derived.Test.YtchcbiiammkhgaaGreatGPB
set_option maxRecDepth 100000
set_option maxHeartbeats 2000000
namespace Go.Proofs.YtchcbiiammkhgaaGreat
open Go.ChangeShapes Go.WideShapes Go.ChangeAt Go.RowKit
theorem F7p:J0[8]? =some true:=by kernel_rfl
theorem F7q:J0[9]? =some true:=by kernel_rfl
theorem F4d:J0[10]? =some true:=by kernel_rfl
theorem F4e:J0[11]? =some true:=by kernel_rfl
theorem F4f:J0[12]? =some true:=by kernel_rfl
theorem F4g:J0[13]? =some true:=by kernel_rfl
theorem F4h:J0[14]? =some true:=by kernel_rfl
theorem F4i:J0[15]? =some true:=by kernel_rfl
theorem F4r:J0[24]? =some true:=by kernel_rfl
theorem F4s:J0[25]? =some true:=by kernel_rfl
theorem F4t:J0[26]? =some true:=by kernel_rfl
theorem F4u:J0[27]? =some true:=by kernel_rfl
end Go.Proofs.YtchcbiiammkhgaaGreat
