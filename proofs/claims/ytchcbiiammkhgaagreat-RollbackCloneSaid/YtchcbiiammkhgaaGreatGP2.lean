/- Facts of the row. -/
import Derived.Test.YtchcbiiammkhgaaGreatGPB
set_option maxRecDepth 100000
set_option maxHeartbeats 2000000
namespace Go.Proofs.YtchcbiiammkhgaaGreat
open Go.ChangeShapes Go.WideShapes Go.ChangeAt Go.RowKit
theorem F4j:J0[16]? =some true:=by kernel_rfl
theorem F4k:J0[17]? =some true:=by kernel_rfl
end Go.Proofs.YtchcbiiammkhgaaGreat
