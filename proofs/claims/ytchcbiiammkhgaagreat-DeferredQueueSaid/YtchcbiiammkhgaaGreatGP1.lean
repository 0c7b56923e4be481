/- Facts of the row. -/
import Derived.Test.YtchcbiiammkhgaaGreatGPB
set_option maxRecDepth 100000
set_option maxHeartbeats 2000000
namespace Go.Proofs.YtchcbiiammkhgaaGreat
open Go.ChangeShapes Go.WideShapes Go.ChangeAt Go.RowKit
theorem G2e:J0[8]? =some true:=by kernel_rfl
theorem G2f:J0[9]? =some true:=by kernel_rfl
theorem F9d:J0[10]? =some true:=by kernel_rfl
theorem F9e:J0[11]? =some true:=by kernel_rfl
theorem F9f:J0[12]? =some true:=by kernel_rfl
theorem F9g:J0[13]? =some true:=by kernel_rfl
theorem F9h:J0[14]? =some true:=by kernel_rfl
theorem F9i:J0[15]? =some true:=by kernel_rfl
theorem F9r:J0[24]? =some true:=by kernel_rfl
theorem F9s:J0[25]? =some true:=by kernel_rfl
theorem F9t:J0[26]? =some true:=by kernel_rfl
theorem F9u:J0[27]? =some true:=by kernel_rfl
end Go.Proofs.YtchcbiiammkhgaaGreat
