/- A part of the walk: contracts of functions that the statement reaches. -/
import Derived.Test.YtpbnhfancncoiaaAbsD
import Derived.Test.YtpbnhfancncoiaaD1
set_option linter.unusedSimpArgs false
set_option linter.unusedVariables false
set_option linter.unnecessarySimpa false
set_option maxRecDepth 100000
set_option maxHeartbeats 2000000
set_option linter.unusedSimpArgs false
set_option linter.unusedVariables false
namespace Go.Abs
open Go.Proofs
open Api
def Shape.sm (s : Shape) : Prop := s.Vertices.length ≤ 1048576
def Fixture.sm (f : Fixture) : Prop := Shape.sm f.Shape
def Body.sm (b : Body) : Prop := b.Fixtures.length ≤ 1048576 ∧ ∀ f ∈ b.Fixtures, Fixture.sm f
def Manifold.sm (m : Manifold) : Prop := m.Points.length ≤ 1048576
end Go.Abs
