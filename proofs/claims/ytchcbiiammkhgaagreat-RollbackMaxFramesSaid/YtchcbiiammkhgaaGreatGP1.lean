/- Facts of the row. -/
import Derived.Test.YtchcbiiammkhgaaGreatGPB
set_option maxRecDepth 100000
set_option maxHeartbeats 2000000
namespace Go.Proofs.YtchcbiiammkhgaaGreat
open Go.ChangeShapes Go.WideShapes Go.ChangeAt Go.RowKit
theorem G50:J0[8]? =some true:=by kernel_rfl
theorem G51:J0[9]? =some true:=by kernel_rfl
theorem G2l:J0[10]? =some true:=by kernel_rfl
theorem G2m:J0[11]? =some true:=by kernel_rfl
theorem G2n:J0[12]? =some true:=by kernel_rfl
theorem G2o:J0[13]? =some true:=by kernel_rfl
theorem G2p:J0[14]? =some true:=by kernel_rfl
theorem G2q:J0[15]? =some true:=by kernel_rfl
theorem G2z:J0[24]? =some true:=by kernel_rfl
theorem G20:J0[25]? =some true:=by kernel_rfl
theorem G21:J0[26]? =some true:=by kernel_rfl
theorem G22:J0[27]? =some true:=by kernel_rfl
end Go.Proofs.YtchcbiiammkhgaaGreat
