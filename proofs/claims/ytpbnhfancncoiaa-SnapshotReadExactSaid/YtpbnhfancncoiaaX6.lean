/- A part of the walk: contracts of functions that the statement reaches. -/
import Derived.Test.YtpbnhfancncoiaaAbsD
import Derived.Test.YtpbnhfancncoiaaX5
set_option linter.unusedSimpArgs false
set_option linter.unusedVariables false
set_option linter.unnecessarySimpa false
set_option maxRecDepth 100000
set_option maxHeartbeats 2000000
set_option linter.unusedSimpArgs false
set_option linter.unusedVariables false
namespace Go.Abs
open Go.Proofs
open Api
theorem Joint.beq (x y : Joint) : ((x.ID == y.ID) && ((x.Kind == y.Kind) && ((x.BodyA == y.BodyA) && ((x.BodyB == y.BodyB) && ((x.AnchorA.X == y.AnchorA.X) && ((x.AnchorA.Y == y.AnchorA.Y) && ((x.AnchorB.X == y.AnchorB.X) && ((x.AnchorB.Y == y.AnchorB.Y) && ((x.Axis.X == y.Axis.X) && ((x.Axis.Y == y.Axis.Y) && ((x.ReferenceAngle == y.ReferenceAngle) && ((x.EnableLimit == y.EnableLimit) && ((x.Lower == y.Lower) && ((x.Upper == y.Upper) && ((x.EnableMotor == y.EnableMotor) && ((x.MotorSpeed == y.MotorSpeed) && ((x.MaxForce == y.MaxForce) && ((x.Softness == y.Softness) && ((x.BreakForce == y.BreakForce) && ((x.CollideConnected == y.CollideConnected) && ((x.Impulses.I0 == y.Impulses.I0) && ((x.Impulses.I1 == y.Impulses.I1) && ((x.Impulses.I2 == y.Impulses.I2) && (x.Impulses.I3 == y.Impulses.I3)))))))))))))))))))))))) = decide (x = y) := by
  obtain ⟨a0, a1, a2, a3, ⟨a4, a5⟩, ⟨a6, a7⟩, ⟨a8, a9⟩, a10, a11, a12, a13, a14, a15, a16, a17, a18, a19, ⟨a20, a21, a22, a23⟩⟩ := x
  obtain ⟨b0, b1, b2, b3, ⟨b4, b5⟩, ⟨b6, b7⟩, ⟨b8, b9⟩, b10, b11, b12, b13, b14, b15, b16, b17, b18, b19, ⟨b20, b21, b22, b23⟩⟩ := y
  rw [Bool.eq_iff_iff]; simp [and_assoc]
theorem Settings.beq (x y : Settings) : ((x.TimeStep == y.TimeStep) && ((x.Gravity.X == y.Gravity.X) && ((x.Gravity.Y == y.Gravity.Y) && ((x.Iterations == y.Iterations) && (x.SleepSteps == y.SleepSteps))))) = decide (x = y) := by
  obtain ⟨a0, ⟨a1, a2⟩, a3, a4⟩ := x
  obtain ⟨b0, ⟨b1, b2⟩, b3, b4⟩ := y
  rw [Bool.eq_iff_iff]; simp [and_assoc]

end Go.Abs
