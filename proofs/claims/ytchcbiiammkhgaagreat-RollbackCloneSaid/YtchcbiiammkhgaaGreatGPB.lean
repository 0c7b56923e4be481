/- The facts of the row that are worked out. -/
import Derived.Test.YtchcbiiammkhgaaGreatRows
import Derived.WalkKit
import Derived.ProofKit
import Derived.OpenShut
import Derived.ShutString
import Derived.ChangeOld
import Derived.Below
set_option maxRecDepth 100000
set_option maxHeartbeats 2000000
namespace Go.Proofs.YtchcbiiammkhgaaGreat
open Go.ChangeShapes Go.WideShapes Go.ChangeAt Go.RowKit
theorem F89 {a b:Bool}(ha:a=true)(hb:b=true):(a&&b)=true:=by rw[ha,hb];rfl
def F8q {a b:Bool}(h:PSigma λl:List Bool=>(∀x∈l,x=true)->a=true):PSigma λl:List Bool=>(∀x∈l,x=true)->(a&&b)=true:=⟨b::h.1,λhl=>F89 (h.2 λx hx=>hl x (List.mem_cons_of_mem _ hx)) (hl b (List.mem_cons_self ..))⟩
def F98 {a:Bool}:PSigma λl:List Bool=>(∀x∈l,x=true)->a=true:=⟨[a],λh=>h a (List.mem_singleton.2 rfl)⟩
def E9(P:Program)(f:FuncId)(fn:Func)(s:ChangeSpec)(c:OpenClaim):PSigma λl:List Bool=>(∀x∈l,x=true)->joinedFacts P f fn s c=true:=by
 unfold joinedFacts
 iterate 31 (refine F8q ?_)
 exact F98
noncomputable abbrev J0:=(E9 Tryz.pinned.checked.prog 6 Tryz.f6 Rows.rollbackCloneSpec Rows.rollbackCloneRow).1
end Go.Proofs.YtchcbiiammkhgaaGreat
