/- A part of the walk: contracts of functions that the statement reaches. -/
import Derived.Test.YtlldeiikcfaegaaGreatAbsC
import Derived.Test.YtlldeiikcfaegaaGreatD1
set_option linter.unusedSimpArgs false
set_option linter.unusedVariables false
set_option linter.unnecessarySimpa false
set_option maxRecDepth 100000
set_option maxHeartbeats 2000000
set_option linter.unusedSimpArgs false
set_option linter.unusedVariables false
namespace Go.Abs
open Go.Proofs
open Api
def Shape.sm (s : Shape) : Prop := s.Vertices.length ≤ 1048576
def Fixture.sm (f : Fixture) : Prop := Shape.sm f.Shape
def Body.sm (b : Body) : Prop := b.Fixtures.length ≤ 1048576 ∧ ∀ f ∈ b.Fixtures, Fixture.sm f
def Manifold.sm (m : Manifold) : Prop := m.Points.length ≤ 1048576
def Wsm (w : Api.World) : Prop := w.Bodies.length ≤ 1048576 ∧ w.Joints.length ≤ 1048576 ∧ w.Contacts.length ≤ 1048576 ∧ w.Overlaps.length ≤ 1048576 ∧ (∀ b ∈ w.Bodies, Body.sm b) ∧ ∀ c ∈ w.Contacts, Manifold.sm c.Manifold

end Go.Abs
