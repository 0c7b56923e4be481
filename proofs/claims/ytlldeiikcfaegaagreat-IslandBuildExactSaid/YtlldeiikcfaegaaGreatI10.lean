/- A part of the walk: contracts of functions that the statement reaches. -/
import Derived.Test.YtlldeiikcfaegaaGreatAbsC
import Derived.Test.YtlldeiikcfaegaaGreatI9
set_option linter.unusedSimpArgs false
set_option linter.unusedVariables false
set_option linter.unnecessarySimpa false
set_option maxRecDepth 100000
set_option maxHeartbeats 2000000
set_option linter.unusedSimpArgs false
set_option linter.unusedVariables false
namespace Go.Abs
open Go.Proofs
open Api
/-- f at each of the first n numbers -/
def tl (n : Nat) (f : Nat → Nat) : List Int := (List.range n).map fun j => (f j : Int)
theorem small_le {w : Api.World} (h : isSmall w = true) : w.Bodies.length ≤ 8 ∧ w.Joints.length ≤ 8 ∧ w.Contacts.length ≤ 20 := by
  simp only [isSmall, few, Bool.and_eq_true, decide_eq_true_eq] at h
  obtain ⟨⟨⟨⟨⟨h1, h2⟩, h3⟩, h4⟩, _⟩, _⟩ := h
  exact ⟨h1, h2, h3⟩
def inO (w : Api.World) (f g : Nat → Nat) : List (Nat × AObj) := [(48, .box w.enc), (1, .arr 1 (encQ encInt 0 (tl w.Contacts.length f))), (2, .arr 1 (encQ encInt 0 (tl w.Joints.length g)))]
attribute [go_sem] inO
end Go.Abs
