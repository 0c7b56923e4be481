/- IslandConnected: the row: whatever the input, the law returns true and the input reads as it did. -/
import Derived.Test.YtlldeiikcfaegaaGreatAbsC
import Derived.Test.YtlldeiikcfaegaaGreatI6
import Derived.Test.YtlldeiikcfaegaaGreatRows
import Derived.WalkKit
import Derived.ProofKit
import Derived.OpenShut
import Derived.ShutString
import Derived.ChangeOld
import Derived.Below
set_option linter.unusedSimpArgs false
set_option linter.unusedVariables false
set_option linter.unnecessarySimpa false
set_option linter.unusedVariables false
set_option linter.unusedSimpArgs false
set_option maxRecDepth 100000
set_option maxHeartbeats 1000000
namespace Go.Abs
open Go.Proofs Api
def Vec.ok (x : Vec) : Prop := fits x.X ∧ fits x.Y
theorem opens_Vec (W : World) : Opens Tryz.prog W 23 Vec.enc Vec.ok :=
  opens_struct' 2 (fun a : Int × Int × Unit => (⟨a.1, a.2.1⟩ : Vec)) Tryz.underlying23 (by kernel_rfl)
    (opensF_step 3 (opens_i64 Tryz.underlying3) rfl (by kernel_rfl : Tryz.prog.cellsOf 3 = 1) rfl rfl (opensF_step 3 (opens_i64 Tryz.underlying3) rfl (by kernel_rfl : Tryz.prog.cellsOf 3 = 1) rfl rfl opensF_nil)) (fun _ => rfl) (fun a h => ⟨h.1, h.2.1⟩)
def Settings.ok (x : Settings) : Prop := fits x.TimeStep ∧ Vec.ok x.Gravity ∧ fits x.Iterations ∧ fits x.SleepSteps
theorem opens_Settings (W : World) : Opens Tryz.prog W 25 Settings.enc Settings.ok :=
  opens_struct' 5 (fun a : Int × Vec × Int × Int × Unit => (⟨a.1, a.2.1, a.2.2.1, a.2.2.2.1⟩ : Settings)) Tryz.underlying25 (by kernel_rfl)
    (opensF_step 3 (opens_i64 Tryz.underlying3) rfl (by kernel_rfl : Tryz.prog.cellsOf 3 = 1) rfl rfl (opensF_step 23 (opens_Vec W) rfl (by kernel_rfl : Tryz.prog.cellsOf 23 = 2) rfl rfl (opensF_step 3 (opens_i64 Tryz.underlying3) rfl (by kernel_rfl : Tryz.prog.cellsOf 3 = 1) rfl rfl (opensF_step 3 (opens_i64 Tryz.underlying3) rfl (by kernel_rfl : Tryz.prog.cellsOf 3 = 1) rfl rfl opensF_nil)))) (fun _ => rfl) (fun a h => ⟨h.1, h.2.1, h.2.2.1, h.2.2.2.1⟩)
def Transform.ok (x : Transform) : Prop := Vec.ok x.Position ∧ fits x.Angle
theorem opens_Transform (W : World) : Opens Tryz.prog W 63 Transform.enc Transform.ok :=
  opens_struct' 3 (fun a : Vec × Int × Unit => (⟨a.1, a.2.1⟩ : Transform)) Tryz.underlying63 (by kernel_rfl)
    (opensF_step 23 (opens_Vec W) rfl (by kernel_rfl : Tryz.prog.cellsOf 23 = 2) rfl rfl (opensF_step 3 (opens_i64 Tryz.underlying3) rfl (by kernel_rfl : Tryz.prog.cellsOf 3 = 1) rfl rfl opensF_nil)) (fun _ => rfl) (fun a h => ⟨h.1, h.2.1⟩)
def Shape.ok (x : Shape) : Prop := fits x.Kind ∧ fits x.Radius ∧ ((∀ a ∈ x.Vertices, Vec.ok a) ∧ x.Vertices.length ≤ maxLen)
theorem opens_Shape (W : World) : Opens Tryz.prog W 97 Shape.enc Shape.ok :=
  opens_struct' 3 (fun a : Int × Int × List Vec × Unit => (⟨a.1, a.2.1, a.2.2.1⟩ : Shape)) Tryz.underlying97 (by kernel_rfl)
    (opensF_step 94 (opens_i64 Tryz.underlying94) rfl (by kernel_rfl : Tryz.prog.cellsOf 94 = 1) rfl rfl (opensF_step 3 (opens_i64 Tryz.underlying3) rfl (by kernel_rfl : Tryz.prog.cellsOf 3 = 1) rfl rfl (opensF_step 95 (opens_slice (d := (default : Vec)) Tryz.underlying95 (by kernel_rfl : Tryz.prog.cellsOf 23 = 2) (by decide) (opens_Vec W)) rfl (by kernel_rfl : Tryz.prog.cellsOf 95 = 1) rfl rfl opensF_nil))) (fun _ => rfl) (fun a h => ⟨h.1, h.2.1, h.2.2.1⟩)
def Fixture.ok (x : Fixture) : Prop := Shape.ok x.Shape ∧ fits x.Density ∧ fits x.Friction ∧ fits x.Restitution ∧ True ∧ fits x.Category ∧ fits x.Mask ∧ fits x.Group
theorem opens_Fixture (W : World) : Opens Tryz.prog W 99 Fixture.enc Fixture.ok :=
  opens_struct' 10 (fun a : Shape × Int × Int × Int × Bool × Int × Int × Int × Unit => (⟨a.1, a.2.1, a.2.2.1, a.2.2.2.1, a.2.2.2.2.1, a.2.2.2.2.2.1, a.2.2.2.2.2.2.1, a.2.2.2.2.2.2.2.1⟩ : Fixture)) Tryz.underlying99 (by kernel_rfl)
    (opensF_step 97 (opens_Shape W) rfl (by kernel_rfl : Tryz.prog.cellsOf 97 = 3) rfl rfl (opensF_step 3 (opens_i64 Tryz.underlying3) rfl (by kernel_rfl : Tryz.prog.cellsOf 3 = 1) rfl rfl (opensF_step 3 (opens_i64 Tryz.underlying3) rfl (by kernel_rfl : Tryz.prog.cellsOf 3 = 1) rfl rfl (opensF_step 3 (opens_i64 Tryz.underlying3) rfl (by kernel_rfl : Tryz.prog.cellsOf 3 = 1) rfl rfl (opensF_step 4 (opens_bool Tryz.underlying4) rfl (by kernel_rfl : Tryz.prog.cellsOf 4 = 1) rfl rfl (opensF_step 3 (opens_i64 Tryz.underlying3) rfl (by kernel_rfl : Tryz.prog.cellsOf 3 = 1) rfl rfl (opensF_step 3 (opens_i64 Tryz.underlying3) rfl (by kernel_rfl : Tryz.prog.cellsOf 3 = 1) rfl rfl (opensF_step 3 (opens_i64 Tryz.underlying3) rfl (by kernel_rfl : Tryz.prog.cellsOf 3 = 1) rfl rfl opensF_nil)))))))) (fun _ => rfl) (fun a h => ⟨h.1, h.2.1, h.2.2.1, h.2.2.2.1, h.2.2.2.2.1, h.2.2.2.2.2.1, h.2.2.2.2.2.2.1, h.2.2.2.2.2.2.2.1⟩)
def Body.ok (x : Body) : Prop := fits x.ID ∧ fits x.Kind ∧ Transform.ok x.Transform ∧ Vec.ok x.Velocity ∧ fits x.AngularVelocity ∧ Vec.ok x.Force ∧ fits x.Torque ∧ fits x.LinearDamping ∧ fits x.AngularDamping ∧ fits x.GravityScale ∧ True ∧ True ∧ True ∧ True ∧ fits x.IdleSteps ∧ ((∀ a ∈ x.Fixtures, Fixture.ok a) ∧ x.Fixtures.length ≤ maxLen)
theorem opens_Body (W : World) : Opens Tryz.prog W 66 Body.enc Body.ok :=
  opens_struct' 20 (fun a : Int × Int × Transform × Vec × Int × Vec × Int × Int × Int × Int × Bool × Bool × Bool × Bool × Int × List Fixture × Unit => (⟨a.1, a.2.1, a.2.2.1, a.2.2.2.1, a.2.2.2.2.1, a.2.2.2.2.2.1, a.2.2.2.2.2.2.1, a.2.2.2.2.2.2.2.1, a.2.2.2.2.2.2.2.2.1, a.2.2.2.2.2.2.2.2.2.1, a.2.2.2.2.2.2.2.2.2.2.1, a.2.2.2.2.2.2.2.2.2.2.2.1, a.2.2.2.2.2.2.2.2.2.2.2.2.1, a.2.2.2.2.2.2.2.2.2.2.2.2.2.1, a.2.2.2.2.2.2.2.2.2.2.2.2.2.2.1, a.2.2.2.2.2.2.2.2.2.2.2.2.2.2.2.1⟩ : Body)) Tryz.underlying66 (by kernel_rfl)
    (opensF_step 3 (opens_i64 Tryz.underlying3) rfl (by kernel_rfl : Tryz.prog.cellsOf 3 = 1) rfl rfl (opensF_step 61 (opens_i64 Tryz.underlying61) rfl (by kernel_rfl : Tryz.prog.cellsOf 61 = 1) rfl rfl (opensF_step 63 (opens_Transform W) rfl (by kernel_rfl : Tryz.prog.cellsOf 63 = 3) rfl rfl (opensF_step 23 (opens_Vec W) rfl (by kernel_rfl : Tryz.prog.cellsOf 23 = 2) rfl rfl (opensF_step 3 (opens_i64 Tryz.underlying3) rfl (by kernel_rfl : Tryz.prog.cellsOf 3 = 1) rfl rfl (opensF_step 23 (opens_Vec W) rfl (by kernel_rfl : Tryz.prog.cellsOf 23 = 2) rfl rfl (opensF_step 3 (opens_i64 Tryz.underlying3) rfl (by kernel_rfl : Tryz.prog.cellsOf 3 = 1) rfl rfl (opensF_step 3 (opens_i64 Tryz.underlying3) rfl (by kernel_rfl : Tryz.prog.cellsOf 3 = 1) rfl rfl (opensF_step 3 (opens_i64 Tryz.underlying3) rfl (by kernel_rfl : Tryz.prog.cellsOf 3 = 1) rfl rfl (opensF_step 3 (opens_i64 Tryz.underlying3) rfl (by kernel_rfl : Tryz.prog.cellsOf 3 = 1) rfl rfl (opensF_step 4 (opens_bool Tryz.underlying4) rfl (by kernel_rfl : Tryz.prog.cellsOf 4 = 1) rfl rfl (opensF_step 4 (opens_bool Tryz.underlying4) rfl (by kernel_rfl : Tryz.prog.cellsOf 4 = 1) rfl rfl (opensF_step 4 (opens_bool Tryz.underlying4) rfl (by kernel_rfl : Tryz.prog.cellsOf 4 = 1) rfl rfl (opensF_step 4 (opens_bool Tryz.underlying4) rfl (by kernel_rfl : Tryz.prog.cellsOf 4 = 1) rfl rfl (opensF_step 3 (opens_i64 Tryz.underlying3) rfl (by kernel_rfl : Tryz.prog.cellsOf 3 = 1) rfl rfl (opensF_step 64 (opens_slice (d := (default : Fixture)) Tryz.underlying64 (by kernel_rfl : Tryz.prog.cellsOf 99 = 10) (by decide) (opens_Fixture W)) rfl (by kernel_rfl : Tryz.prog.cellsOf 64 = 1) rfl rfl opensF_nil)))))))))))))))) (fun _ => rfl) (fun a h => ⟨h.1, h.2.1, h.2.2.1, h.2.2.2.1, h.2.2.2.2.1, h.2.2.2.2.2.1, h.2.2.2.2.2.2.1, h.2.2.2.2.2.2.2.1, h.2.2.2.2.2.2.2.2.1, h.2.2.2.2.2.2.2.2.2.1, h.2.2.2.2.2.2.2.2.2.2.1, h.2.2.2.2.2.2.2.2.2.2.2.1, h.2.2.2.2.2.2.2.2.2.2.2.2.1, h.2.2.2.2.2.2.2.2.2.2.2.2.2.1, h.2.2.2.2.2.2.2.2.2.2.2.2.2.2.1, h.2.2.2.2.2.2.2.2.2.2.2.2.2.2.2.1⟩)
def Joint.ok (x : Joint) : Prop := fits x.ID ∧ fits x.Kind ∧ fits x.BodyA ∧ fits x.BodyB ∧ Vec.ok x.AnchorA ∧ Vec.ok x.AnchorB ∧ Vec.ok x.Axis ∧ fits x.ReferenceAngle ∧ True ∧ fits x.Lower ∧ fits x.Upper ∧ True ∧ fits x.MotorSpeed ∧ fits x.MaxForce ∧ fits x.Softness ∧ fits x.BreakForce ∧ True ∧ (fits x.Impulses.I0 ∧ fits x.Impulses.I1 ∧ fits x.Impulses.I2 ∧ fits x.Impulses.I3)
theorem opens_Joint (W : World) : Opens Tryz.prog W 113 Joint.enc Joint.ok :=
  opens_struct' 24 (fun a : Int × Int × Int × Int × Vec × Vec × Vec × Int × Bool × Int × Int × Bool × Int × Int × Int × Int × Bool × Four × Unit => (⟨a.1, a.2.1, a.2.2.1, a.2.2.2.1, a.2.2.2.2.1, a.2.2.2.2.2.1, a.2.2.2.2.2.2.1, a.2.2.2.2.2.2.2.1, a.2.2.2.2.2.2.2.2.1, a.2.2.2.2.2.2.2.2.2.1, a.2.2.2.2.2.2.2.2.2.2.1, a.2.2.2.2.2.2.2.2.2.2.2.1, a.2.2.2.2.2.2.2.2.2.2.2.2.1, a.2.2.2.2.2.2.2.2.2.2.2.2.2.1, a.2.2.2.2.2.2.2.2.2.2.2.2.2.2.1, a.2.2.2.2.2.2.2.2.2.2.2.2.2.2.2.1, a.2.2.2.2.2.2.2.2.2.2.2.2.2.2.2.2.1, a.2.2.2.2.2.2.2.2.2.2.2.2.2.2.2.2.2.1⟩ : Joint)) Tryz.underlying113 (by kernel_rfl)
    (opensF_step 3 (opens_i64 Tryz.underlying3) rfl (by kernel_rfl : Tryz.prog.cellsOf 3 = 1) rfl rfl (opensF_step 110 (opens_i64 Tryz.underlying110) rfl (by kernel_rfl : Tryz.prog.cellsOf 110 = 1) rfl rfl (opensF_step 3 (opens_i64 Tryz.underlying3) rfl (by kernel_rfl : Tryz.prog.cellsOf 3 = 1) rfl rfl (opensF_step 3 (opens_i64 Tryz.underlying3) rfl (by kernel_rfl : Tryz.prog.cellsOf 3 = 1) rfl rfl (opensF_step 23 (opens_Vec W) rfl (by kernel_rfl : Tryz.prog.cellsOf 23 = 2) rfl rfl (opensF_step 23 (opens_Vec W) rfl (by kernel_rfl : Tryz.prog.cellsOf 23 = 2) rfl rfl (opensF_step 23 (opens_Vec W) rfl (by kernel_rfl : Tryz.prog.cellsOf 23 = 2) rfl rfl (opensF_step 3 (opens_i64 Tryz.underlying3) rfl (by kernel_rfl : Tryz.prog.cellsOf 3 = 1) rfl rfl (opensF_step 4 (opens_bool Tryz.underlying4) rfl (by kernel_rfl : Tryz.prog.cellsOf 4 = 1) rfl rfl (opensF_step 3 (opens_i64 Tryz.underlying3) rfl (by kernel_rfl : Tryz.prog.cellsOf 3 = 1) rfl rfl (opensF_step 3 (opens_i64 Tryz.underlying3) rfl (by kernel_rfl : Tryz.prog.cellsOf 3 = 1) rfl rfl (opensF_step 4 (opens_bool Tryz.underlying4) rfl (by kernel_rfl : Tryz.prog.cellsOf 4 = 1) rfl rfl (opensF_step 3 (opens_i64 Tryz.underlying3) rfl (by kernel_rfl : Tryz.prog.cellsOf 3 = 1) rfl rfl (opensF_step 3 (opens_i64 Tryz.underlying3) rfl (by kernel_rfl : Tryz.prog.cellsOf 3 = 1) rfl rfl (opensF_step 3 (opens_i64 Tryz.underlying3) rfl (by kernel_rfl : Tryz.prog.cellsOf 3 = 1) rfl rfl (opensF_step 3 (opens_i64 Tryz.underlying3) rfl (by kernel_rfl : Tryz.prog.cellsOf 3 = 1) rfl rfl (opensF_step 4 (opens_bool Tryz.underlying4) rfl (by kernel_rfl : Tryz.prog.cellsOf 4 = 1) rfl rfl (opensF_step 111 (opens_four Tryz.underlying111 Tryz.underlying3 (by kernel_rfl) (by kernel_rfl)) rfl (by kernel_rfl : Tryz.prog.cellsOf 111 = 4) rfl rfl opensF_nil)))))))))))))))))) (fun _ => rfl) (fun a h => ⟨h.1, h.2.1, h.2.2.1, h.2.2.2.1, h.2.2.2.2.1, h.2.2.2.2.2.1, h.2.2.2.2.2.2.1, h.2.2.2.2.2.2.2.1, h.2.2.2.2.2.2.2.2.1, h.2.2.2.2.2.2.2.2.2.1, h.2.2.2.2.2.2.2.2.2.2.1, h.2.2.2.2.2.2.2.2.2.2.2.1, h.2.2.2.2.2.2.2.2.2.2.2.2.1, h.2.2.2.2.2.2.2.2.2.2.2.2.2.1, h.2.2.2.2.2.2.2.2.2.2.2.2.2.2.1, h.2.2.2.2.2.2.2.2.2.2.2.2.2.2.2.1, h.2.2.2.2.2.2.2.2.2.2.2.2.2.2.2.2.1, h.2.2.2.2.2.2.2.2.2.2.2.2.2.2.2.2.2.1⟩)
def PairKey.ok (x : PairKey) : Prop := fits x.BodyA ∧ fits x.FixtureA ∧ fits x.BodyB ∧ fits x.FixtureB
theorem opens_PairKey (W : World) : Opens Tryz.prog W 88 PairKey.enc PairKey.ok :=
  opens_struct' 4 (fun a : Int × Int × Int × Int × Unit => (⟨a.1, a.2.1, a.2.2.1, a.2.2.2.1⟩ : PairKey)) Tryz.underlying88 (by kernel_rfl)
    (opensF_step 3 (opens_i64 Tryz.underlying3) rfl (by kernel_rfl : Tryz.prog.cellsOf 3 = 1) rfl rfl (opensF_step 3 (opens_i64 Tryz.underlying3) rfl (by kernel_rfl : Tryz.prog.cellsOf 3 = 1) rfl rfl (opensF_step 3 (opens_i64 Tryz.underlying3) rfl (by kernel_rfl : Tryz.prog.cellsOf 3 = 1) rfl rfl (opensF_step 3 (opens_i64 Tryz.underlying3) rfl (by kernel_rfl : Tryz.prog.cellsOf 3 = 1) rfl rfl opensF_nil)))) (fun _ => rfl) (fun a h => ⟨h.1, h.2.1, h.2.2.1, h.2.2.2.1⟩)
def ContactPoint.ok (x : ContactPoint) : Prop := Vec.ok x.Point ∧ fits x.Separation ∧ fits x.ID ∧ fits x.NormalImpulse ∧ fits x.TangentImpulse
theorem opens_ContactPoint (W : World) : Opens Tryz.prog W 190 ContactPoint.enc ContactPoint.ok :=
  opens_struct' 6 (fun a : Vec × Int × Int × Int × Int × Unit => (⟨a.1, a.2.1, a.2.2.1, a.2.2.2.1, a.2.2.2.2.1⟩ : ContactPoint)) Tryz.underlying190 (by kernel_rfl)
    (opensF_step 23 (opens_Vec W) rfl (by kernel_rfl : Tryz.prog.cellsOf 23 = 2) rfl rfl (opensF_step 3 (opens_i64 Tryz.underlying3) rfl (by kernel_rfl : Tryz.prog.cellsOf 3 = 1) rfl rfl (opensF_step 3 (opens_i64 Tryz.underlying3) rfl (by kernel_rfl : Tryz.prog.cellsOf 3 = 1) rfl rfl (opensF_step 3 (opens_i64 Tryz.underlying3) rfl (by kernel_rfl : Tryz.prog.cellsOf 3 = 1) rfl rfl (opensF_step 3 (opens_i64 Tryz.underlying3) rfl (by kernel_rfl : Tryz.prog.cellsOf 3 = 1) rfl rfl opensF_nil))))) (fun _ => rfl) (fun a h => ⟨h.1, h.2.1, h.2.2.1, h.2.2.2.1, h.2.2.2.2.1⟩)
def Manifold.ok (x : Manifold) : Prop := Vec.ok x.Normal ∧ ((∀ a ∈ x.Points, ContactPoint.ok a) ∧ x.Points.length ≤ maxLen)
theorem opens_Manifold (W : World) : Opens Tryz.prog W 86 Manifold.enc Manifold.ok :=
  opens_struct' 3 (fun a : Vec × List ContactPoint × Unit => (⟨a.1, a.2.1⟩ : Manifold)) Tryz.underlying86 (by kernel_rfl)
    (opensF_step 23 (opens_Vec W) rfl (by kernel_rfl : Tryz.prog.cellsOf 23 = 2) rfl rfl (opensF_step 84 (opens_slice (d := (default : ContactPoint)) Tryz.underlying84 (by kernel_rfl : Tryz.prog.cellsOf 190 = 6) (by decide) (opens_ContactPoint W)) rfl (by kernel_rfl : Tryz.prog.cellsOf 84 = 1) rfl rfl opensF_nil)) (fun _ => rfl) (fun a h => ⟨h.1, h.2.1⟩)
def Contact.ok (x : Contact) : Prop := PairKey.ok x.Key ∧ Manifold.ok x.Manifold
theorem opens_Contact (W : World) : Opens Tryz.prog W 90 Contact.enc Contact.ok :=
  opens_struct' 7 (fun a : PairKey × Manifold × Unit => (⟨a.1, a.2.1⟩ : Contact)) Tryz.underlying90 (by kernel_rfl)
    (opensF_step 88 (opens_PairKey W) rfl (by kernel_rfl : Tryz.prog.cellsOf 88 = 4) rfl rfl (opensF_step 86 (opens_Manifold W) rfl (by kernel_rfl : Tryz.prog.cellsOf 86 = 3) rfl rfl opensF_nil)) (fun _ => rfl) (fun a h => ⟨h.1, h.2.1⟩)
def World.ok (x : Api.World) : Prop := Settings.ok x.Settings ∧ ((∀ a ∈ x.Bodies, Body.ok a) ∧ x.Bodies.length ≤ maxLen) ∧ ((∀ a ∈ x.Joints, Joint.ok a) ∧ x.Joints.length ≤ maxLen) ∧ ((∀ a ∈ x.Contacts, Contact.ok a) ∧ x.Contacts.length ≤ maxLen) ∧ ((∀ a ∈ x.Overlaps, PairKey.ok a) ∧ x.Overlaps.length ≤ maxLen) ∧ fits x.NextID ∧ fits x.Frame
theorem opens_World (W : World) : Opens Tryz.prog W 31 Api.World.enc World.ok :=
  opens_struct' 11 (fun a : Settings × List Body × List Joint × List Contact × List PairKey × Int × Int × Unit => (⟨a.1, a.2.1, a.2.2.1, a.2.2.2.1, a.2.2.2.2.1, a.2.2.2.2.2.1, a.2.2.2.2.2.2.1⟩ : Api.World)) Tryz.underlying31 (by kernel_rfl)
    (opensF_step 25 (opens_Settings W) rfl (by kernel_rfl : Tryz.prog.cellsOf 25 = 5) rfl rfl (opensF_step 26 (opens_slice (d := (default : Body)) Tryz.underlying26 (by kernel_rfl : Tryz.prog.cellsOf 66 = 20) (by decide) (opens_Body W)) rfl (by kernel_rfl : Tryz.prog.cellsOf 26 = 1) rfl rfl (opensF_step 27 (opens_slice (d := (default : Joint)) Tryz.underlying27 (by kernel_rfl : Tryz.prog.cellsOf 113 = 24) (by decide) (opens_Joint W)) rfl (by kernel_rfl : Tryz.prog.cellsOf 27 = 1) rfl rfl (opensF_step 28 (opens_slice (d := (default : Contact)) Tryz.underlying28 (by kernel_rfl : Tryz.prog.cellsOf 90 = 7) (by decide) (opens_Contact W)) rfl (by kernel_rfl : Tryz.prog.cellsOf 28 = 1) rfl rfl (opensF_step 29 (opens_slice (d := (default : PairKey)) Tryz.underlying29 (by kernel_rfl : Tryz.prog.cellsOf 88 = 4) (by decide) (opens_PairKey W)) rfl (by kernel_rfl : Tryz.prog.cellsOf 29 = 1) rfl rfl (opensF_step 3 (opens_i64 Tryz.underlying3) rfl (by kernel_rfl : Tryz.prog.cellsOf 3 = 1) rfl rfl (opensF_step 3 (opens_i64 Tryz.underlying3) rfl (by kernel_rfl : Tryz.prog.cellsOf 3 = 1) rfl rfl opensF_nil))))))) (fun _ => rfl) (fun a h => ⟨h.1, h.2.1, h.2.2.1, h.2.2.2.1, h.2.2.2.2.1, h.2.2.2.2.2.1, h.2.2.2.2.2.2.1⟩)
end Go.Abs
namespace Go.Proofs.YtlldeiikcfaegaaGreat
open Go.ChangeMaps (open_string shut_string)
open Go.ChangeShapes Go.WideShapes Go.ChangeAt Go.RowKit Go.Abs
theorem laidOutG : laidOutB Tryz.prog = true := by kernel_rfl
theorem ownG : ownKnob Tryz.prog.godebug = none := by kernel_rfl
theorem liftedG (os : Os) (started : os.Started) (H : Type) (enc : TypeId × Value → H) :
    ReturnsInHanded {} Tryz.checked os 9 .any (Rows.islandConnectedSpec.pre6 enc Tryz.prog Tryz.f9 Rows.islandConnectedRow.domain false) (Rows.islandConnectedSpec.post enc Tryz.prog Tryz.f9 false true false false) := by
  refine returnsInHanded_of_change (C := Tryz.checked) ownG started (by kernel_rfl) Tryz.func9
    (ChangeSpec.witness6 (enc := enc) (C := Tryz.checked) false ⟨#[], #[.agg #[.int .i64 0, .int .i64 0, .int .i64 0, .int .i64 0, .int .i64 0, .slice none 0 0, .slice none 0 0, .slice none 0 0, .slice none 0 0, .int .i64 0, .int .i64 0], .int .i64 0, .int .i64 0], []⟩ 16 (by kernel_rfl) (by kernel_rfl) (by kernel_rfl) (by kernel_rfl)) ?_
  intro W base args ds gs before hval0 hW hcnd _
  have hval : ∀ (j : Nat) t v, Tryz.f9.params[j]? = some t → args[j]? = some v → Value.okWide Tryz.prog W .any base t v := hval0
  have hW' := hW
  obtain ⟨p, q, hA0, hV, rfl, hfz, hnd⟩ := hW
  have hA : DataW.TrodAll enc Tryz.prog W 0 (fun _ => true) true Tryz.f9.params.toList args.toList ds p := hA0
  rw [Tryz.params9] at hA hval
  obtain ⟨v0, vs0, d0, ds0, p0, q0, hargs, rfl, rfl, h0, r0⟩ := trodAll_cons hA
  obtain ⟨v1, vs1, d1, ds1, p1, q1, rfl, rfl, rfl, h1, r1⟩ := trodAll_cons r0
  obtain ⟨v2, vs2, d2, ds2, p2, q2, rfl, rfl, rfl, h2, r2⟩ := trodAll_cons r1
  obtain ⟨rfl, rfl, rfl⟩ := trodAll_nil r2
  obtain rfl : args = #[v0, v1, v2] := by cases args; simp_all
  obtain ⟨rfl, rfl⟩ := trodVars_none hV
  obtain ⟨c0, rfl, _⟩ := okWide_struct Tryz.underlying31 (hval 0 31 v0 rfl rfl)
  have k0 := h0
  have lt0 : ∀ x ∈ p0, x.block < W.heap.size := by obtain ⟨m, hm⟩ := k0; exact DataW.trod_lt m _ _ _ hm
  obtain ⟨fuel0, hf0⟩ := h0
  obtain ⟨x0, o0, hr0⟩ := (opens_World W) _ _ _ _ _ _ _ _ hf0
  obtain ⟨x1, rfl, rfl, rfl, w1⟩ := open_int Tryz.underlying3 (hval 1 3 v1 rfl rfl) h1
  obtain ⟨x2, rfl, rfl, rfl, w2⟩ := open_int Tryz.underlying3 (hval 2 3 v2 rfl rfl) h2
  clear hA0 hval0
  refine (calls_true (s_law36_IslandConnected x0 x1 x2) (vals := [.agg c0, .int .i64 x1, .int .i64 x2]) ?_).mono fun e W' ⟨he, bel⟩ => ?_
  · refine ⟨rfl, fun j av hj => ?_⟩
    match j, hj with
    | 0, hj => simp at hj; subst hj; exact relC_agg hr0
    | 1, hj => simp at hj; subst hj; exact .sc rfl
    | 2, hj => simp at hj; subst hj; exact .sc rfl
    | _ + 3, hj => simp at hj
  · subst he
    exact ⟨_, rfl, _, _, _, [], _, [], hW', trodAll_mk1 (shut_bool Tryz.underlying4 _), (trodAll_cons_mk (Below.trod laidOutG (by kernel_rfl) (of_decide_eq_true (by kernel_rfl)) k0 bel lt0) (trodAll_cons_mk (shut_int Tryz.underlying3 w1) (trodAll_cons_mk (shut_int Tryz.underlying3 w2) trodAll_mk0))), rfl, bel.frame _, fun h => by cases h⟩

theorem islandConnected : Rows.IslandConnectedSaid :=
  OpenClaim.holds_of_wide 9 Tryz.f9 rfl rfl rfl rfl rfl rfl rfl ⟨rfl, rfl, rfl, rfl, rfl⟩ rfl rfl rfl rfl rfl (by kernel_rfl) Tryz.func9 (by kernel_rfl)
    (of_decide_eq_true (by kernel_rfl)) (by unfold Func.isWrapper; first | (rw [if_pos (by decide +kernel)]; kernel_rfl) | (rw [if_neg (by decide +kernel)]; exact ⟨rfl, rfl⟩))
    (fun os started H enc _ => liftedG os started H enc)
#print axioms islandConnected
end Go.Proofs.YtlldeiikcfaegaaGreat
