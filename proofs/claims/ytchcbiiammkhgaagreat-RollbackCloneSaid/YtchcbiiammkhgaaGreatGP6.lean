/- Facts of the row. -/
import Derived.Test.YtchcbiiammkhgaaGreatGPB
set_option maxRecDepth 100000
set_option maxHeartbeats 2000000
namespace Go.Proofs.YtchcbiiammkhgaaGreat
open Go.ChangeShapes Go.WideShapes Go.ChangeAt Go.RowKit
theorem F4v:J0[28]? =some true:=by kernel_rfl
theorem F4w:J0[29]? =some true:=by kernel_rfl
end Go.Proofs.YtchcbiiammkhgaaGreat
