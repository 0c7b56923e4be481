/- A part of the walk: contracts of functions that the statement reaches. -/
import Derived.Test.YtlldeiikcfaegaaGreatAbsC
import Derived.Test.YtlldeiikcfaegaaGreatS5
set_option linter.unusedSimpArgs false
set_option linter.unusedVariables false
set_option linter.unnecessarySimpa false
set_option maxRecDepth 100000
set_option maxHeartbeats 2000000
set_option linter.unusedSimpArgs false
set_option linter.unusedVariables false
namespace Go.Abs
open Go.Proofs
open Api
def drO (w : Api.World) (x : Island) (l : List Int) : List (Nat × AObj) := (32, .box [.ptr 6 0 0 1]) :: gobj w x l
attribute [go_sem] drO
theorem bodL_len (w : Api.World) (x : Island) : (bodL w x).length ≤ (bod3 w x).length := by unfold bodL; have := cmpct_len (msort (bod3 w x)); rwa [msort_len] at this
theorem bod3_len {w : Api.World} {x : Island} (hx : Ism x) : (bod3 w x).length ≤ 8000000 := by
  obtain ⟨x1, x2, x3⟩ := hx
  have h1 := fold_len (addI_len w.Bodies.length) x.Bodies []
  have h2 := fold_len (bodC_len w) x.Contacts (bod1 w x)
  have h3 := fold_len (bodJ_len w) x.Joints (bod2 w x)
  simp only [List.length_nil] at h1
  unfold bod3 
  unfold bod2 at h3 ⊢
  unfold bod1 at h2 h3 ⊢
  omega
end Go.Abs
