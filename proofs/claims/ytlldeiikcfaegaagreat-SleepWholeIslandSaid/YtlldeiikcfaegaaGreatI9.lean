/- A part of the walk: contracts of functions that the statement reaches. -/
import Derived.Test.YtlldeiikcfaegaaGreatAbsC
import Derived.Test.YtlldeiikcfaegaaGreatI7
set_option linter.unusedSimpArgs false
set_option linter.unusedVariables false
set_option linter.unnecessarySimpa false
set_option maxRecDepth 100000
set_option maxHeartbeats 2000000
set_option linter.unusedSimpArgs false
set_option linter.unusedVariables false
namespace Go.Abs
open Go.Proofs
open Api
/-- a sum over the first k numbers -/
def cs (f : Nat → Nat) : Nat → Nat
  | 0 => 0
  | k + 1 => cs f k + f k
theorem buildL_get {w : Api.World} (hv : d_world_Validate w = 0) {k : Nat} (hk : k < nb w (conn w) w.Bodies.length) : (buildL w).getD k default = ⟨memb (pB w (conn w)) k w.Bodies.length, memb (pC w (conn w)) k w.Contacts.length, memb (pJ w (conn w)) k w.Joints.length⟩ := by
  unfold buildL; rw [if_pos hv]
  simp [List.getD, hk]
theorem buildL_n {w : Api.World} (hv : d_world_Validate w = 0) : (buildL w).length = nb w (conn w) w.Bodies.length := by
  unfold buildL; rw [if_pos hv]; simp
theorem buildL_at {w : Api.World} {k : Nat} : ((buildL w).getD k default).Bodies.length ≤ w.Bodies.length ∧ ((buildL w).getD k default).Contacts.length ≤ w.Contacts.length ∧ ((buildL w).getD k default).Joints.length ≤ w.Joints.length := by
  rcases Nat.lt_or_ge k (buildL w).length with h | h
  · exact buildL_mem (mem_getD default h)
  · rw [List.getD, List.getElem?_eq_none h]; exact ⟨Nat.zero_le _, Nat.zero_le _, Nat.zero_le _⟩
end Go.Abs
