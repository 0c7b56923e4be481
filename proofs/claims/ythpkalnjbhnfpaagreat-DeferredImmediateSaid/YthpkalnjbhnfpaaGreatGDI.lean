/- The statement's row. -/
import Derived.Test.YthpkalnjbhnfpaaGreatML
import Derived.Test.YthpkalnjbhnfpaaGreatRows
import Derived.WalkKit
import Derived.ProofKit
import Derived.OpenShut
import Derived.ShutString
import Derived.ChangeOld
import Derived.Below
set_option linter.unusedSimpArgs false
set_option linter.unusedVariables false
set_option linter.unnecessarySimpa false
set_option maxRecDepth 100000
set_option maxHeartbeats 2000000
section
namespace Go.Abs
open Go.Proofs Api
def Vec.ok(x:Vec):Prop:=fits x.X∧fits x.Y
theorem Z0(W:World):V2 Tryz.prog W 23 Vec.enc Vec.ok:=
 N0 2 (fun a:Int×Int×Unit=>(⟨a.1,a.2.1⟩:Vec)) Tryz.underlying23 (by kernel_rfl)
  (B1 3 (D4 Tryz.underlying3) rfl (by kernel_rfl:Tryz.prog.cellsOf 3=1) rfl rfl (B1 3 (D4 Tryz.underlying3) rfl (by kernel_rfl:Tryz.prog.cellsOf 3=1) rfl rfl U0)) (fun _=>rfl) (fun a h=>⟨h.1,h.2.1⟩)
def Settings.ok(x:Settings):Prop:=fits x.TimeStep∧Vec.ok x.Gravity∧fits x.Iterations∧fits x.SleepSteps
theorem C8a(W:World):V2 Tryz.prog W 25 Settings.enc Settings.ok:=
 N0 5 (fun a:Int×Vec×Int×Int×Unit=>(⟨a.1,a.2.1,a.2.2.1,a.2.2.2.1⟩:Settings)) Tryz.underlying25 (by kernel_rfl)
  (B1 3 (D4 Tryz.underlying3) rfl (by kernel_rfl:Tryz.prog.cellsOf 3=1) rfl rfl (B1 23 (Z0 W) rfl (by kernel_rfl:Tryz.prog.cellsOf 23=2) rfl rfl (B1 3 (D4 Tryz.underlying3) rfl (by kernel_rfl:Tryz.prog.cellsOf 3=1) rfl rfl (B1 3 (D4 Tryz.underlying3) rfl (by kernel_rfl:Tryz.prog.cellsOf 3=1) rfl rfl U0)))) (fun _=>rfl) (fun a h=>⟨h.1,h.2.1,h.2.2.1,h.2.2.2.1⟩)
def Transform.ok(x:Transform):Prop:=Vec.ok x.Position∧fits x.Angle
theorem C56(W:World):V2 Tryz.prog W 35 Transform.enc Transform.ok:=
 N0 3 (fun a:Vec×Int×Unit=>(⟨a.1,a.2.1⟩:Transform)) Tryz.underlying35 (by kernel_rfl)
  (B1 23 (Z0 W) rfl (by kernel_rfl:Tryz.prog.cellsOf 23=2) rfl rfl (B1 3 (D4 Tryz.underlying3) rfl (by kernel_rfl:Tryz.prog.cellsOf 3=1) rfl rfl U0)) (fun _=>rfl) (fun a h=>⟨h.1,h.2.1⟩)
def Shape.ok(x:Shape):Prop:=fits x.Kind∧fits x.Radius∧((∀a∈x.Vertices,Vec.ok a)∧x.Vertices.length≤maxLen)
theorem D37(W:World):V2 Tryz.prog W 127 Shape.enc Shape.ok:=
 N0 3 (fun a:Int×Int×List Vec×Unit=>(⟨a.1,a.2.1,a.2.2.1⟩:Shape)) Tryz.underlying127 (by kernel_rfl)
  (B1 124 (D4 Tryz.underlying124) rfl (by kernel_rfl:Tryz.prog.cellsOf 124=1) rfl rfl (B1 3 (D4 Tryz.underlying3) rfl (by kernel_rfl:Tryz.prog.cellsOf 3=1) rfl rfl (B1 125 (A3c (d:=(default:Vec)) Tryz.underlying125 (by kernel_rfl:Tryz.prog.cellsOf 23=2) (by decide) (Z0 W)) rfl (by kernel_rfl:Tryz.prog.cellsOf 125=1) rfl rfl U0))) (fun _=>rfl) (fun a h=>⟨h.1,h.2.1,h.2.2.1⟩)
def Fixture.ok(x:Fixture):Prop:=Shape.ok x.Shape∧fits x.Density∧fits x.Friction∧fits x.Restitution∧True∧fits x.Category∧fits x.Mask∧fits x.Group
theorem C9l(W:World):V2 Tryz.prog W 129 Fixture.enc Fixture.ok:=
 N0 10 (fun a:Shape×Int×Int×Int×Bool×Int×Int×Int×Unit=>(⟨a.1,a.2.1,a.2.2.1,a.2.2.2.1,a.2.2.2.2.1,a.2.2.2.2.2.1,a.2.2.2.2.2.2.1,a.2.2.2.2.2.2.2.1⟩:Fixture)) Tryz.underlying129 (by kernel_rfl)
  (B1 127 (D37 W) rfl (by kernel_rfl:Tryz.prog.cellsOf 127=3) rfl rfl (B1 3 (D4 Tryz.underlying3) rfl (by kernel_rfl:Tryz.prog.cellsOf 3=1) rfl rfl (B1 3 (D4 Tryz.underlying3) rfl (by kernel_rfl:Tryz.prog.cellsOf 3=1) rfl rfl (B1 3 (D4 Tryz.underlying3) rfl (by kernel_rfl:Tryz.prog.cellsOf 3=1) rfl rfl (B1 4 (A20 Tryz.underlying4) rfl (by kernel_rfl:Tryz.prog.cellsOf 4=1) rfl rfl (B1 3 (D4 Tryz.underlying3) rfl (by kernel_rfl:Tryz.prog.cellsOf 3=1) rfl rfl (B1 3 (D4 Tryz.underlying3) rfl (by kernel_rfl:Tryz.prog.cellsOf 3=1) rfl rfl (B1 3 (D4 Tryz.underlying3) rfl (by kernel_rfl:Tryz.prog.cellsOf 3=1) rfl rfl U0)))))))) (fun _=>rfl) (fun a h=>⟨h.1,h.2.1,h.2.2.1,h.2.2.2.1,h.2.2.2.2.1,h.2.2.2.2.2.1,h.2.2.2.2.2.2.1,h.2.2.2.2.2.2.2.1⟩)
def Body.ok(x:Body):Prop:=fits x.ID∧fits x.Kind∧Transform.ok x.Transform∧Vec.ok x.Velocity∧fits x.AngularVelocity∧Vec.ok x.Force∧fits x.Torque∧fits x.LinearDamping∧fits x.AngularDamping∧fits x.GravityScale∧True∧True∧True∧True∧fits x.IdleSteps∧((∀a∈x.Fixtures,Fixture.ok a)∧x.Fixtures.length≤maxLen)
theorem C5a(W:World):V2 Tryz.prog W 38 Body.enc Body.ok:=
 N0 20 (fun a:Int×Int×Transform×Vec×Int×Vec×Int×Int×Int×Int×Bool×Bool×Bool×Bool×Int×List Fixture×Unit=>(⟨a.1,a.2.1,a.2.2.1,a.2.2.2.1,a.2.2.2.2.1,a.2.2.2.2.2.1,a.2.2.2.2.2.2.1,a.2.2.2.2.2.2.2.1,a.2.2.2.2.2.2.2.2.1,a.2.2.2.2.2.2.2.2.2.1,a.2.2.2.2.2.2.2.2.2.2.1,a.2.2.2.2.2.2.2.2.2.2.2.1,a.2.2.2.2.2.2.2.2.2.2.2.2.1,a.2.2.2.2.2.2.2.2.2.2.2.2.2.1,a.2.2.2.2.2.2.2.2.2.2.2.2.2.2.1,a.2.2.2.2.2.2.2.2.2.2.2.2.2.2.2.1⟩:Body)) Tryz.underlying38 (by kernel_rfl)
  (B1 3 (D4 Tryz.underlying3) rfl (by kernel_rfl:Tryz.prog.cellsOf 3=1) rfl rfl (B1 33 (D4 Tryz.underlying33) rfl (by kernel_rfl:Tryz.prog.cellsOf 33=1) rfl rfl (B1 35 (C56 W) rfl (by kernel_rfl:Tryz.prog.cellsOf 35=3) rfl rfl (B1 23 (Z0 W) rfl (by kernel_rfl:Tryz.prog.cellsOf 23=2) rfl rfl (B1 3 (D4 Tryz.underlying3) rfl (by kernel_rfl:Tryz.prog.cellsOf 3=1) rfl rfl (B1 23 (Z0 W) rfl (by kernel_rfl:Tryz.prog.cellsOf 23=2) rfl rfl (B1 3 (D4 Tryz.underlying3) rfl (by kernel_rfl:Tryz.prog.cellsOf 3=1) rfl rfl (B1 3 (D4 Tryz.underlying3) rfl (by kernel_rfl:Tryz.prog.cellsOf 3=1) rfl rfl (B1 3 (D4 Tryz.underlying3) rfl (by kernel_rfl:Tryz.prog.cellsOf 3=1) rfl rfl (B1 3 (D4 Tryz.underlying3) rfl (by kernel_rfl:Tryz.prog.cellsOf 3=1) rfl rfl (B1 4 (A20 Tryz.underlying4) rfl (by kernel_rfl:Tryz.prog.cellsOf 4=1) rfl rfl (B1 4 (A20 Tryz.underlying4) rfl (by kernel_rfl:Tryz.prog.cellsOf 4=1) rfl rfl (B1 4 (A20 Tryz.underlying4) rfl (by kernel_rfl:Tryz.prog.cellsOf 4=1) rfl rfl (B1 4 (A20 Tryz.underlying4) rfl (by kernel_rfl:Tryz.prog.cellsOf 4=1) rfl rfl (B1 3 (D4 Tryz.underlying3) rfl (by kernel_rfl:Tryz.prog.cellsOf 3=1) rfl rfl (B1 36 (A3c (d:=(default:Fixture)) Tryz.underlying36 (by kernel_rfl:Tryz.prog.cellsOf 129=10) (by decide) (C9l W)) rfl (by kernel_rfl:Tryz.prog.cellsOf 36=1) rfl rfl U0)))))))))))))))) (fun _=>rfl) (fun a h=>⟨h.1,h.2.1,h.2.2.1,h.2.2.2.1,h.2.2.2.2.1,h.2.2.2.2.2.1,h.2.2.2.2.2.2.1,h.2.2.2.2.2.2.2.1,h.2.2.2.2.2.2.2.2.1,h.2.2.2.2.2.2.2.2.2.1,h.2.2.2.2.2.2.2.2.2.2.1,h.2.2.2.2.2.2.2.2.2.2.2.1,h.2.2.2.2.2.2.2.2.2.2.2.2.1,h.2.2.2.2.2.2.2.2.2.2.2.2.2.1,h.2.2.2.2.2.2.2.2.2.2.2.2.2.2.1,h.2.2.2.2.2.2.2.2.2.2.2.2.2.2.2.1⟩)
def Joint.ok(x:Joint):Prop:=fits x.ID∧fits x.Kind∧fits x.BodyA∧fits x.BodyB∧Vec.ok x.AnchorA∧Vec.ok x.AnchorB∧Vec.ok x.Axis∧fits x.ReferenceAngle∧True∧fits x.Lower∧fits x.Upper∧True∧fits x.MotorSpeed∧fits x.MaxForce∧fits x.Softness∧fits x.BreakForce∧True∧(fits x.Impulses.I0∧fits x.Impulses.I1∧fits x.Impulses.I2∧fits x.Impulses.I3)
theorem C2j(W:World):V2 Tryz.prog W 42 Joint.enc Joint.ok:=
 N0 24 (fun a:Int×Int×Int×Int×Vec×Vec×Vec×Int×Bool×Int×Int×Bool×Int×Int×Int×Int×Bool×A5a×Unit=>(⟨a.1,a.2.1,a.2.2.1,a.2.2.2.1,a.2.2.2.2.1,a.2.2.2.2.2.1,a.2.2.2.2.2.2.1,a.2.2.2.2.2.2.2.1,a.2.2.2.2.2.2.2.2.1,a.2.2.2.2.2.2.2.2.2.1,a.2.2.2.2.2.2.2.2.2.2.1,a.2.2.2.2.2.2.2.2.2.2.2.1,a.2.2.2.2.2.2.2.2.2.2.2.2.1,a.2.2.2.2.2.2.2.2.2.2.2.2.2.1,a.2.2.2.2.2.2.2.2.2.2.2.2.2.2.1,a.2.2.2.2.2.2.2.2.2.2.2.2.2.2.2.1,a.2.2.2.2.2.2.2.2.2.2.2.2.2.2.2.2.1,a.2.2.2.2.2.2.2.2.2.2.2.2.2.2.2.2.2.1⟩:Joint)) Tryz.underlying42 (by kernel_rfl)
  (B1 3 (D4 Tryz.underlying3) rfl (by kernel_rfl:Tryz.prog.cellsOf 3=1) rfl rfl (B1 39 (D4 Tryz.underlying39) rfl (by kernel_rfl:Tryz.prog.cellsOf 39=1) rfl rfl (B1 3 (D4 Tryz.underlying3) rfl (by kernel_rfl:Tryz.prog.cellsOf 3=1) rfl rfl (B1 3 (D4 Tryz.underlying3) rfl (by kernel_rfl:Tryz.prog.cellsOf 3=1) rfl rfl (B1 23 (Z0 W) rfl (by kernel_rfl:Tryz.prog.cellsOf 23=2) rfl rfl (B1 23 (Z0 W) rfl (by kernel_rfl:Tryz.prog.cellsOf 23=2) rfl rfl (B1 23 (Z0 W) rfl (by kernel_rfl:Tryz.prog.cellsOf 23=2) rfl rfl (B1 3 (D4 Tryz.underlying3) rfl (by kernel_rfl:Tryz.prog.cellsOf 3=1) rfl rfl (B1 4 (A20 Tryz.underlying4) rfl (by kernel_rfl:Tryz.prog.cellsOf 4=1) rfl rfl (B1 3 (D4 Tryz.underlying3) rfl (by kernel_rfl:Tryz.prog.cellsOf 3=1) rfl rfl (B1 3 (D4 Tryz.underlying3) rfl (by kernel_rfl:Tryz.prog.cellsOf 3=1) rfl rfl (B1 4 (A20 Tryz.underlying4) rfl (by kernel_rfl:Tryz.prog.cellsOf 4=1) rfl rfl (B1 3 (D4 Tryz.underlying3) rfl (by kernel_rfl:Tryz.prog.cellsOf 3=1) rfl rfl (B1 3 (D4 Tryz.underlying3) rfl (by kernel_rfl:Tryz.prog.cellsOf 3=1) rfl rfl (B1 3 (D4 Tryz.underlying3) rfl (by kernel_rfl:Tryz.prog.cellsOf 3=1) rfl rfl (B1 3 (D4 Tryz.underlying3) rfl (by kernel_rfl:Tryz.prog.cellsOf 3=1) rfl rfl (B1 4 (A20 Tryz.underlying4) rfl (by kernel_rfl:Tryz.prog.cellsOf 4=1) rfl rfl (B1 40 (D7l Tryz.underlying40 Tryz.underlying3 (by kernel_rfl) (by kernel_rfl)) rfl (by kernel_rfl:Tryz.prog.cellsOf 40=4) rfl rfl U0)))))))))))))))))) (fun _=>rfl) (fun a h=>⟨h.1,h.2.1,h.2.2.1,h.2.2.2.1,h.2.2.2.2.1,h.2.2.2.2.2.1,h.2.2.2.2.2.2.1,h.2.2.2.2.2.2.2.1,h.2.2.2.2.2.2.2.2.1,h.2.2.2.2.2.2.2.2.2.1,h.2.2.2.2.2.2.2.2.2.2.1,h.2.2.2.2.2.2.2.2.2.2.2.1,h.2.2.2.2.2.2.2.2.2.2.2.2.1,h.2.2.2.2.2.2.2.2.2.2.2.2.2.1,h.2.2.2.2.2.2.2.2.2.2.2.2.2.2.1,h.2.2.2.2.2.2.2.2.2.2.2.2.2.2.2.1,h.2.2.2.2.2.2.2.2.2.2.2.2.2.2.2.2.1,h.2.2.2.2.2.2.2.2.2.2.2.2.2.2.2.2.2.1⟩)
def B2.ok(x:B2):Prop:=fits x.BodyA∧fits x.FixtureA∧fits x.BodyB∧fits x.FixtureB
theorem B7u(W:World):V2 Tryz.prog W 109 B2.enc B2.ok:=
 N0 4 (fun a:Int×Int×Int×Int×Unit=>(⟨a.1,a.2.1,a.2.2.1,a.2.2.2.1⟩:B2)) Tryz.underlying109 (by kernel_rfl)
  (B1 3 (D4 Tryz.underlying3) rfl (by kernel_rfl:Tryz.prog.cellsOf 3=1) rfl rfl (B1 3 (D4 Tryz.underlying3) rfl (by kernel_rfl:Tryz.prog.cellsOf 3=1) rfl rfl (B1 3 (D4 Tryz.underlying3) rfl (by kernel_rfl:Tryz.prog.cellsOf 3=1) rfl rfl (B1 3 (D4 Tryz.underlying3) rfl (by kernel_rfl:Tryz.prog.cellsOf 3=1) rfl rfl U0)))) (fun _=>rfl) (fun a h=>⟨h.1,h.2.1,h.2.2.1,h.2.2.2.1⟩)
def C4.ok(x:C4):Prop:=Vec.ok x.Point∧fits x.Separation∧fits x.ID∧fits x.NormalImpulse∧fits x.TangentImpulse
theorem B9i(W:World):V2 Tryz.prog W 161 C4.enc C4.ok:=
 N0 6 (fun a:Vec×Int×Int×Int×Int×Unit=>(⟨a.1,a.2.1,a.2.2.1,a.2.2.2.1,a.2.2.2.2.1⟩:C4)) Tryz.underlying161 (by kernel_rfl)
  (B1 23 (Z0 W) rfl (by kernel_rfl:Tryz.prog.cellsOf 23=2) rfl rfl (B1 3 (D4 Tryz.underlying3) rfl (by kernel_rfl:Tryz.prog.cellsOf 3=1) rfl rfl (B1 3 (D4 Tryz.underlying3) rfl (by kernel_rfl:Tryz.prog.cellsOf 3=1) rfl rfl (B1 3 (D4 Tryz.underlying3) rfl (by kernel_rfl:Tryz.prog.cellsOf 3=1) rfl rfl (B1 3 (D4 Tryz.underlying3) rfl (by kernel_rfl:Tryz.prog.cellsOf 3=1) rfl rfl U0))))) (fun _=>rfl) (fun a h=>⟨h.1,h.2.1,h.2.2.1,h.2.2.2.1,h.2.2.2.2.1⟩)
def Manifold.ok(x:Manifold):Prop:=Vec.ok x.Normal∧((∀a∈x.Points,C4.ok a)∧x.Points.length≤maxLen)
theorem C6m(W:World):V2 Tryz.prog W 112 Manifold.enc Manifold.ok:=
 N0 3 (fun a:Vec×List C4×Unit=>(⟨a.1,a.2.1⟩:Manifold)) Tryz.underlying112 (by kernel_rfl)
  (B1 23 (Z0 W) rfl (by kernel_rfl:Tryz.prog.cellsOf 23=2) rfl rfl (B1 110 (A3c (d:=(default:C4)) Tryz.underlying110 (by kernel_rfl:Tryz.prog.cellsOf 161=6) (by decide) (B9i W)) rfl (by kernel_rfl:Tryz.prog.cellsOf 110=1) rfl rfl U0)) (fun _=>rfl) (fun a h=>⟨h.1,h.2.1⟩)
def D5.ok(x:D5):Prop:=B2.ok x.Key∧Manifold.ok x.Manifold
theorem C88(W:World):V2 Tryz.prog W 114 D5.enc D5.ok:=
 N0 7 (fun a:B2×Manifold×Unit=>(⟨a.1,a.2.1⟩:D5)) Tryz.underlying114 (by kernel_rfl)
  (B1 109 (B7u W) rfl (by kernel_rfl:Tryz.prog.cellsOf 109=4) rfl rfl (B1 112 (C6m W) rfl (by kernel_rfl:Tryz.prog.cellsOf 112=3) rfl rfl U0)) (fun _=>rfl) (fun a h=>⟨h.1,h.2.1⟩)
def World.ok(x:Api.World):Prop:=Settings.ok x.Settings∧((∀a∈x.Bodies,Body.ok a)∧x.Bodies.length≤maxLen)∧((∀a∈x.Joints,Joint.ok a)∧x.Joints.length≤maxLen)∧((∀a∈x.Contacts,D5.ok a)∧x.Contacts.length≤maxLen)∧((∀a∈x.Overlaps,B2.ok a)∧x.Overlaps.length≤maxLen)∧fits x.NextID∧fits x.Frame
theorem D4w(W:World):V2 Tryz.prog W 31 Api.World.enc World.ok:=
 N0 11 (fun a:Settings×List Body×List Joint×List D5×List B2×Int×Int×Unit=>(⟨a.1,a.2.1,a.2.2.1,a.2.2.2.1,a.2.2.2.2.1,a.2.2.2.2.2.1,a.2.2.2.2.2.2.1⟩:Api.World)) Tryz.underlying31 (by kernel_rfl)
  (B1 25 (C8a W) rfl (by kernel_rfl:Tryz.prog.cellsOf 25=5) rfl rfl (B1 26 (A3c (d:=(default:Body)) Tryz.underlying26 (by kernel_rfl:Tryz.prog.cellsOf 38=20) (by decide) (C5a W)) rfl (by kernel_rfl:Tryz.prog.cellsOf 26=1) rfl rfl (B1 27 (A3c (d:=(default:Joint)) Tryz.underlying27 (by kernel_rfl:Tryz.prog.cellsOf 42=24) (by decide) (C2j W)) rfl (by kernel_rfl:Tryz.prog.cellsOf 27=1) rfl rfl (B1 28 (A3c (d:=(default:D5)) Tryz.underlying28 (by kernel_rfl:Tryz.prog.cellsOf 114=7) (by decide) (C88 W)) rfl (by kernel_rfl:Tryz.prog.cellsOf 28=1) rfl rfl (B1 29 (A3c (d:=(default:B2)) Tryz.underlying29 (by kernel_rfl:Tryz.prog.cellsOf 109=4) (by decide) (B7u W)) rfl (by kernel_rfl:Tryz.prog.cellsOf 29=1) rfl rfl (B1 3 (D4 Tryz.underlying3) rfl (by kernel_rfl:Tryz.prog.cellsOf 3=1) rfl rfl (B1 3 (D4 Tryz.underlying3) rfl (by kernel_rfl:Tryz.prog.cellsOf 3=1) rfl rfl U0))))))) (fun _=>rfl) (fun a h=>⟨h.1,h.2.1,h.2.2.1,h.2.2.2.1,h.2.2.2.2.1,h.2.2.2.2.2.1,h.2.2.2.2.2.2.1⟩)
def Input.ok(x:Api.Input):Prop:=fits x.Kind∧fits x.ID∧Vec.ok x.Vec∧fits x.Value∧Body.ok x.Body∧Joint.ok x.Joint
theorem D39(W:World):V2 Tryz.prog W 44 Api.Input.enc Input.ok:=
 N0 49 (fun a:Int×Int×Vec×Int×Body×Joint×Unit=>(⟨a.1,a.2.1,a.2.2.1,a.2.2.2.1,a.2.2.2.2.1,a.2.2.2.2.2.1⟩:Api.Input)) Tryz.underlying44 (by kernel_rfl)
  (B1 32 (D4 Tryz.underlying32) rfl (by kernel_rfl:Tryz.prog.cellsOf 32=1) rfl rfl (B1 3 (D4 Tryz.underlying3) rfl (by kernel_rfl:Tryz.prog.cellsOf 3=1) rfl rfl (B1 23 (Z0 W) rfl (by kernel_rfl:Tryz.prog.cellsOf 23=2) rfl rfl (B1 3 (D4 Tryz.underlying3) rfl (by kernel_rfl:Tryz.prog.cellsOf 3=1) rfl rfl (B1 38 (C5a W) rfl (by kernel_rfl:Tryz.prog.cellsOf 38=20) rfl rfl (B1 42 (C2j W) rfl (by kernel_rfl:Tryz.prog.cellsOf 42=24) rfl rfl U0)))))) (fun _=>rfl) (fun a h=>⟨h.1,h.2.1,h.2.2.1,h.2.2.2.1,h.2.2.2.2.1,h.2.2.2.2.2.1⟩)
def Request.ok(x:Api.Request):Prop:=fits x.Kind∧Vec.ok x.From∧Vec.ok x.To∧fits x.Mask∧Input.ok x.Input
theorem C9f(W:World):V2 Tryz.prog W 46 Api.Request.enc Request.ok:=
 N0 55 (fun a:Int×Vec×Vec×Int×Api.Input×Unit=>(⟨a.1,a.2.1,a.2.2.1,a.2.2.2.1,a.2.2.2.2.1⟩:Api.Request)) Tryz.underlying46 (by kernel_rfl)
  (B1 3 (D4 Tryz.underlying3) rfl (by kernel_rfl:Tryz.prog.cellsOf 3=1) rfl rfl (B1 23 (Z0 W) rfl (by kernel_rfl:Tryz.prog.cellsOf 23=2) rfl rfl (B1 23 (Z0 W) rfl (by kernel_rfl:Tryz.prog.cellsOf 23=2) rfl rfl (B1 3 (D4 Tryz.underlying3) rfl (by kernel_rfl:Tryz.prog.cellsOf 3=1) rfl rfl (B1 44 (D39 W) rfl (by kernel_rfl:Tryz.prog.cellsOf 44=49) rfl rfl U0))))) (fun _=>rfl) (fun a h=>⟨h.1,h.2.1,h.2.2.1,h.2.2.2.1,h.2.2.2.2.1⟩)
end Go.Abs
namespace Go.Proofs.YthpkalnjbhnfpaaGreat
open Go.ChangeMaps (open_string shut_string)
open Go.ChangeShapes Go.WideShapes Go.ChangeAt Go.RowKit Go.Abs
theorem G0v {a b:Bool}(ha:a=true)(hb:b=true):(a&&b)=true:=by rw[ha,hb];rfl
def F07 {a b:Bool}(h:PSigma fun l:List Bool=>(∀x∈l,x=true)→a=true):PSigma fun l:List Bool=>(∀x∈l,x=true)→(a&&b)=true:=⟨b::h.1,fun hl=>G0v (h.2 fun x hx=>hl x (List.mem_cons_of_mem _ hx)) (hl b (List.mem_cons_self ..))⟩
def F91 {a:Bool}:PSigma fun l:List Bool=>(∀x∈l,x=true)→a=true:=⟨[a],fun h=>h a (List.mem_singleton.2 rfl)⟩
def C0(P:Program)(f:FuncId)(fn:Func)(s:ChangeSpec)(c:OpenClaim):PSigma fun l:List Bool=>(∀x∈l,x=true)→joinedFacts P f fn s c=true:=by
 unfold joinedFacts
 iterate 31 (refine F07 ?_)
 exact F91
theorem E5i {l:List Bool}{k:Nat}(hk:k<l.length)(h:l[k]? =some true):l[k]=true:=by rw[List.getElem?_eq_getElem hk]at h;injection h
theorem D9m {P:Program}{f:FuncId}{fn:Func}{s:ChangeSpec}{c:OpenClaim}(hl:(C0 P f fn s c).1.length=32)
  (p0:(C0 P f fn s c).1[0]? =some true)(p1:(C0 P f fn s c).1[1]? =some true)(p2:(C0 P f fn s c).1[2]? =some true)(p3:(C0 P f fn s c).1[3]? =some true)(p4:(C0 P f fn s c).1[4]? =some true)(p5:(C0 P f fn s c).1[5]? =some true)(p6:(C0 P f fn s c).1[6]? =some true)(p7:(C0 P f fn s c).1[7]? =some true)(p8:(C0 P f fn s c).1[8]? =some true)(p9:(C0 P f fn s c).1[9]? =some true)(p10:(C0 P f fn s c).1[10]? =some true)(p11:(C0 P f fn s c).1[11]? =some true)(p12:(C0 P f fn s c).1[12]? =some true)(p13:(C0 P f fn s c).1[13]? =some true)(p14:(C0 P f fn s c).1[14]? =some true)(p15:(C0 P f fn s c).1[15]? =some true)(p16:(C0 P f fn s c).1[16]? =some true)(p17:(C0 P f fn s c).1[17]? =some true)(p18:(C0 P f fn s c).1[18]? =some true)(p19:(C0 P f fn s c).1[19]? =some true)(p20:(C0 P f fn s c).1[20]? =some true)(p21:(C0 P f fn s c).1[21]? =some true)(p22:(C0 P f fn s c).1[22]? =some true)(p23:(C0 P f fn s c).1[23]? =some true)(p24:(C0 P f fn s c).1[24]? =some true)(p25:(C0 P f fn s c).1[25]? =some true)(p26:(C0 P f fn s c).1[26]? =some true)(p27:(C0 P f fn s c).1[27]? =some true)(p28:(C0 P f fn s c).1[28]? =some true)(p29:(C0 P f fn s c).1[29]? =some true)(p30:(C0 P f fn s c).1[30]? =some true)(p31:(C0 P f fn s c).1[31]? =some true):joinedFacts P f fn s c=true:=by
 refine(C0 P f fn s c).2 ?_;generalize(C0 P f fn s c).1=l at*;intro x hx;obtain⟨k,hk,rfl⟩:=List.getElem_of_mem hx;refine E5i hk ?_;rw[hl]at hk
 match k,hk with
 |0,_=>exact p0
 |1,_=>exact p1
 |2,_=>exact p2
 |3,_=>exact p3
 |4,_=>exact p4
 |5,_=>exact p5
 |6,_=>exact p6
 |7,_=>exact p7
 |8,_=>exact p8
 |9,_=>exact p9
 |10,_=>exact p10
 |11,_=>exact p11
 |12,_=>exact p12
 |13,_=>exact p13
 |14,_=>exact p14
 |15,_=>exact p15
 |16,_=>exact p16
 |17,_=>exact p17
 |18,_=>exact p18
 |19,_=>exact p19
 |20,_=>exact p20
 |21,_=>exact p21
 |22,_=>exact p22
 |23,_=>exact p23
 |24,_=>exact p24
 |25,_=>exact p25
 |26,_=>exact p26
 |27,_=>exact p27
 |28,_=>exact p28
 |29,_=>exact p29
 |30,_=>exact p30
 |31,_=>exact p31
 |n+32,h=>omega
theorem D2i:laidOutB Tryz.prog=true:=by kernel_rfl
theorem F94:ownKnob Tryz.prog.godebug=none:=by kernel_rfl
theorem E34(os:Os)(started:os.Started)(H:Type)(enc:TypeId×Value→H):
  ReturnsInHanded {} Tryz.checked os 3 .any (Rows.deferredImmediateSpec.pre6 enc Tryz.prog Tryz.f3 Rows.deferredImmediateRow.domain false) (Rows.deferredImmediateSpec.post enc Tryz.prog Tryz.f3 false true false false):=by
 refine returnsInHanded_of_change (C:=Tryz.checked) F94 started (by kernel_rfl) Tryz.func3
  (ChangeSpec.witness6 (enc:=enc) (C:=Tryz.checked) false ⟨#[],#[.agg #[.int .i64 0, .int .i64 0, .int .i64 0, .int .i64 0, .int .i64 0, .slice none 0 0, .slice none 0 0, .slice none 0 0, .slice none 0 0, .int .i64 0, .int .i64 0], .agg #[.int .i64 0, .int .i64 0, .int .i64 0, .int .i64 0, .int .i64 0, .int .i64 0, .int .i64 0, .int .i64 0, .int .i64 0, .int .i64 0, .int .i64 0, .int .i64 0, .int .i64 0, .int .i64 0, .int .i64 0, .int .i64 0, .int .i64 0, .int .i64 0, .int .i64 0, .int .i64 0, .int .i64 0, .int .i64 0, .int .i64 0, .int .i64 0, .int .i64 0, .bool false, .bool false, .bool false, .bool false, .int .i64 0, .slice none 0 0, .int .i64 0, .int .i64 0, .int .i64 0, .int .i64 0, .int .i64 0, .int .i64 0, .int .i64 0, .int .i64 0, .int .i64 0, .int .i64 0, .int .i64 0, .bool false, .int .i64 0, .int .i64 0, .bool false, .int .i64 0, .int .i64 0, .int .i64 0, .int .i64 0, .bool false, .int .i64 0, .int .i64 0, .int .i64 0, .int .i64 0]],[]⟩ 16 (by kernel_rfl) (by kernel_rfl) (by kernel_rfl) (by kernel_rfl)) ?_
 intro W base args ds gs before hval0 hW hcnd _;have hval: ∀(j:Nat) t v,Tryz.f3.params[j]? =some t→args[j]? =some v→Value.okWide Tryz.prog W .any base t v:=hval0
 have hW':=hW;obtain⟨p,q,hA0,hV,rfl,hfz,hnd⟩:=hW;have hA:DataW.TrodAll enc Tryz.prog W 0 (fun _=>true) true Tryz.f3.params.toList args.toList ds p:=hA0;rw[Tryz.params3]at hA hval;obtain⟨v0,vs0,d0,ds0,p0,q0,hargs,rfl,rfl,h0,r0⟩:=trodAll_cons hA;obtain⟨v1,vs1,d1,ds1,p1,q1,rfl,rfl,rfl,h1,r1⟩:=trodAll_cons r0;obtain⟨rfl,rfl,rfl⟩:=trodAll_nil r1;obtain rfl:args= #[v0,v1]:=by cases args;simp_all
 obtain⟨rfl,rfl⟩:=trodVars_none hV;obtain⟨c0,rfl,_⟩:=okWide_struct Tryz.underlying31 (hval 0 31 v0 rfl rfl);have k0:=h0
 have lt0: ∀x∈p0,x.block<W.heap.size:=by obtain⟨m,hm⟩:=k0;exact DataW.trod_lt m _ _ _ hm
 obtain⟨fuel0,hf0⟩:=h0;obtain⟨x0,o0,hr0⟩:=(D4w W) _ _ _ _ _ _ _ _ hf0;obtain⟨c1,rfl,_⟩:=okWide_struct Tryz.underlying46 (hval 1 46 v1 rfl rfl);have k1:=h1
 have lt1: ∀x∈p1,x.block<W.heap.size:=by obtain⟨m,hm⟩:=k1;exact DataW.trod_lt m _ _ _ hm
 obtain⟨fuel1,hf1⟩:=h1;obtain⟨x1,o1,hr1⟩:=(C9f W) _ _ _ _ _ _ _ _ hf1;clear hA0 hval0;refine(D62 (B1m x0 x1) (vals:= [.agg c0, .agg c1]) ?_).mono fun e W' ⟨he,bel⟩=> ?_
 ·refine⟨rfl,fun j av hj=> ?_⟩
  match j,hj with
  |0,hj=>simp at hj;subst hj;exact D2t hr0
  |1,hj=>simp at hj;subst hj;exact D2t hr1
  |_+2,hj=>simp at hj
 ·subst he;exact⟨_,rfl,_,_,_,[],_,[],hW',trodAll_mk1 (shut_bool Tryz.underlying4 _),(trodAll_cons_mk (Below.trod D2i (by kernel_rfl) (of_decide_eq_true (by kernel_rfl)) k0 bel lt0) (trodAll_cons_mk (Below.trod D2i (by kernel_rfl) (of_decide_eq_true (by kernel_rfl)) k1 bel lt1) trodAll_mk0)),rfl,bel.frame _,fun h=>by cases h⟩
theorem E5y:(C0 Tryz.pinned.checked.prog 3 Tryz.f3 Rows.deferredImmediateSpec Rows.deferredImmediateRow).1[0]? =some true:=by kernel_rfl
theorem E5v:(C0 Tryz.pinned.checked.prog 3 Tryz.f3 Rows.deferredImmediateSpec Rows.deferredImmediateRow).1[1]? =some true:=by kernel_rfl
theorem E6s:(C0 Tryz.pinned.checked.prog 3 Tryz.f3 Rows.deferredImmediateSpec Rows.deferredImmediateRow).1[2]? =some true:=by kernel_rfl
theorem E50:(C0 Tryz.pinned.checked.prog 3 Tryz.f3 Rows.deferredImmediateSpec Rows.deferredImmediateRow).1[3]? =some true:=by kernel_rfl
theorem E6a:(C0 Tryz.pinned.checked.prog 3 Tryz.f3 Rows.deferredImmediateSpec Rows.deferredImmediateRow).1[4]? =some true:=by kernel_rfl
theorem E5h:(C0 Tryz.pinned.checked.prog 3 Tryz.f3 Rows.deferredImmediateSpec Rows.deferredImmediateRow).1[5]? =some true:=by kernel_rfl
theorem E5w:(C0 Tryz.pinned.checked.prog 3 Tryz.f3 Rows.deferredImmediateSpec Rows.deferredImmediateRow).1[6]? =some true:=by kernel_rfl
theorem E61:(C0 Tryz.pinned.checked.prog 3 Tryz.f3 Rows.deferredImmediateSpec Rows.deferredImmediateRow).1[7]? =some true:=by kernel_rfl
theorem E5n:(C0 Tryz.pinned.checked.prog 3 Tryz.f3 Rows.deferredImmediateSpec Rows.deferredImmediateRow).1[8]? =some true:=by kernel_rfl
theorem E6c:(C0 Tryz.pinned.checked.prog 3 Tryz.f3 Rows.deferredImmediateSpec Rows.deferredImmediateRow).1[9]? =some true:=by kernel_rfl
theorem E3r:(C0 Tryz.pinned.checked.prog 3 Tryz.f3 Rows.deferredImmediateSpec Rows.deferredImmediateRow).1[10]? =some true:=by kernel_rfl
theorem E2r:(C0 Tryz.pinned.checked.prog 3 Tryz.f3 Rows.deferredImmediateSpec Rows.deferredImmediateRow).1[11]? =some true:=by kernel_rfl
theorem E49:(C0 Tryz.pinned.checked.prog 3 Tryz.f3 Rows.deferredImmediateSpec Rows.deferredImmediateRow).1[12]? =some true:=by kernel_rfl
theorem E2j:(C0 Tryz.pinned.checked.prog 3 Tryz.f3 Rows.deferredImmediateSpec Rows.deferredImmediateRow).1[13]? =some true:=by kernel_rfl
theorem E4w:(C0 Tryz.pinned.checked.prog 3 Tryz.f3 Rows.deferredImmediateSpec Rows.deferredImmediateRow).1[14]? =some true:=by kernel_rfl
theorem E4t:(C0 Tryz.pinned.checked.prog 3 Tryz.f3 Rows.deferredImmediateSpec Rows.deferredImmediateRow).1[15]? =some true:=by kernel_rfl
theorem E3e:(C0 Tryz.pinned.checked.prog 3 Tryz.f3 Rows.deferredImmediateSpec Rows.deferredImmediateRow).1[16]? =some true:=by kernel_rfl
theorem E3z:(C0 Tryz.pinned.checked.prog 3 Tryz.f3 Rows.deferredImmediateSpec Rows.deferredImmediateRow).1[17]? =some true:=by kernel_rfl
theorem E2q:(C0 Tryz.pinned.checked.prog 3 Tryz.f3 Rows.deferredImmediateSpec Rows.deferredImmediateRow).1[18]? =some true:=by kernel_rfl
theorem E2u:(C0 Tryz.pinned.checked.prog 3 Tryz.f3 Rows.deferredImmediateSpec Rows.deferredImmediateRow).1[19]? =some true:=by kernel_rfl
theorem E3h:(C0 Tryz.pinned.checked.prog 3 Tryz.f3 Rows.deferredImmediateSpec Rows.deferredImmediateRow).1[20]? =some true:=by kernel_rfl
theorem E4x:(C0 Tryz.pinned.checked.prog 3 Tryz.f3 Rows.deferredImmediateSpec Rows.deferredImmediateRow).1[21]? =some true:=by kernel_rfl
theorem E4e:(C0 Tryz.pinned.checked.prog 3 Tryz.f3 Rows.deferredImmediateSpec Rows.deferredImmediateRow).1[22]? =some true:=by kernel_rfl
theorem E37:(C0 Tryz.pinned.checked.prog 3 Tryz.f3 Rows.deferredImmediateSpec Rows.deferredImmediateRow).1[23]? =some true:=by kernel_rfl
theorem E4f:(C0 Tryz.pinned.checked.prog 3 Tryz.f3 Rows.deferredImmediateSpec Rows.deferredImmediateRow).1[24]? =some true:=by kernel_rfl
theorem E2f:(C0 Tryz.pinned.checked.prog 3 Tryz.f3 Rows.deferredImmediateSpec Rows.deferredImmediateRow).1[25]? =some true:=by kernel_rfl
theorem E2x:(C0 Tryz.pinned.checked.prog 3 Tryz.f3 Rows.deferredImmediateSpec Rows.deferredImmediateRow).1[26]? =some true:=by kernel_rfl
theorem E4d:(C0 Tryz.pinned.checked.prog 3 Tryz.f3 Rows.deferredImmediateSpec Rows.deferredImmediateRow).1[27]? =some true:=by kernel_rfl
theorem E3y:(C0 Tryz.pinned.checked.prog 3 Tryz.f3 Rows.deferredImmediateSpec Rows.deferredImmediateRow).1[28]? =some true:=by kernel_rfl
theorem E3v:(C0 Tryz.pinned.checked.prog 3 Tryz.f3 Rows.deferredImmediateSpec Rows.deferredImmediateRow).1[29]? =some true:=by kernel_rfl
theorem E24:(C0 Tryz.pinned.checked.prog 3 Tryz.f3 Rows.deferredImmediateSpec Rows.deferredImmediateRow).1[30]? =some true:=by kernel_rfl
theorem E3n:(C0 Tryz.pinned.checked.prog 3 Tryz.f3 Rows.deferredImmediateSpec Rows.deferredImmediateRow).1[31]? =some true:=by kernel_rfl
theorem E5c:(C0 Tryz.pinned.checked.prog 3 Tryz.f3 Rows.deferredImmediateSpec Rows.deferredImmediateRow).1.length=32:=by kernel_rfl
theorem E2y:joinedFacts Tryz.pinned.checked.prog 3 Tryz.f3 Rows.deferredImmediateSpec Rows.deferredImmediateRow=true:=D9m E5c E5y E5v E6s E50 E6a E5h E5w E61 E5n E6c E3r E2r E49 E2j E4w E4t E3e E3z E2q E2u E3h E4x E4e E37 E4f E2f E2x E4d E3y E3v E24 E3n
theorem deferredImmediate:Rows.DeferredImmediateSaid:=
 OpenClaim.holds_of_wide 3 Tryz.f3 rfl rfl rfl rfl rfl rfl rfl ⟨rfl,rfl,rfl,rfl,rfl⟩ rfl rfl rfl rfl rfl (by as_aux_lemma=>kernel_rfl) Tryz.func3 E2y
  (of_decide_eq_true (by as_aux_lemma=>kernel_rfl)) (by as_aux_lemma=>unfold Func.isWrapper;first |(rw[if_pos (by decide+kernel)];kernel_rfl) |(rw[if_neg (by decide+kernel)];exact⟨rfl,rfl⟩))
  (fun os started H enc _=>E34 os started H enc)
#print axioms deferredImmediate
end Go.Proofs.YthpkalnjbhnfpaaGreat
end
