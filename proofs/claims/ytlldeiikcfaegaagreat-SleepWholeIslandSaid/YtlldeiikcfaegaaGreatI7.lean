/- A part of the walk: contracts of functions that the statement reaches. -/
import Derived.Test.YtlldeiikcfaegaaGreatAbsC
import Derived.Test.YtlldeiikcfaegaaGreatI4
set_option linter.unusedSimpArgs false
set_option linter.unusedVariables false
set_option linter.unnecessarySimpa false
set_option maxRecDepth 100000
set_option maxHeartbeats 2000000
set_option linter.unusedSimpArgs false
set_option linter.unusedVariables false
namespace Go.Abs
open Go.Proofs
open Api
theorem val_iff (w : Api.World) : d_world_Validate w = 0 ↔ d_world_ValidateSettings w.Settings = 0 ∧ (w.Bodies.length ≤ 32 ∧ w.Joints.length ≤ 32 ∧ w.Contacts.length ≤ 8192 ∧ w.Overlaps.length ≤ 8192) ∧ (inR w.NextID 1 1099511627776 = true ∧ inR w.Frame 0 1099511627776 = true) ∧
    d_world_validBodies w = true ∧ d_world_validJoints w = true ∧ okContacts w = true := by
  unfold d_world_Validate
  simp only []
  by_cases h1 : d_world_ValidateSettings w.Settings = 0
  · rw [if_neg (by simp [h1])]
    by_cases h2 : w.Bodies.length ≤ 32 ∧ w.Joints.length ≤ 32 ∧ w.Contacts.length ≤ 8192 ∧ w.Overlaps.length ≤ 8192
    · rw [if_neg (by simp only [Bool.or_eq_true, decide_eq_true_eq]; omega)]
      cases inR w.NextID 1 1099511627776 <;> cases inR w.Frame 0 1099511627776 <;> cases d_world_validBodies w <;> cases d_world_validJoints w <;> cases okContacts w <;> simp [h1, h2]
    · rw [if_pos (by simp only [Bool.or_eq_true, decide_eq_true_eq]; omega)]
      exact ⟨fun h => by simp at h, fun h => absurd h.2.1 h2⟩
  · rw [if_pos (by simpa using h1)]
    exact ⟨fun h => by simp at h, fun h => absurd h.1 h1⟩
end Go.Abs
