/- The statement's row. -/
import Derived.Test.YtchcbiiammkhgaaGreatMV
import Derived.Test.YtchcbiiammkhgaaGreatGP0
import Derived.Test.YtchcbiiammkhgaaGreatGP1
import Derived.Test.YtchcbiiammkhgaaGreatGP2
import Derived.Test.YtchcbiiammkhgaaGreatGP3
import Derived.Test.YtchcbiiammkhgaaGreatGP4
import Derived.Test.YtchcbiiammkhgaaGreatGP5
import Derived.Test.YtchcbiiammkhgaaGreatGP6
import Derived.Test.YtchcbiiammkhgaaGreatGP7
set_option linter.unusedSimpArgs false
set_option linter.unusedVariables false
set_option linter.unnecessarySimpa false
set_option maxRecDepth 100000
set_option maxHeartbeats 2000000
noncomputable section
namespace Go.Abs
open Go.Proofs Api
def Vec.ok(x:Vec):Prop:=fits x.X/\fits x.Y
theorem A4l(W:World):A15 Tryz.prog W 23 Vec.enc Vec.ok:=
 X5 2 (λa:Int×Int×Unit=>(⟨a.1,a.2.1⟩:Vec)) Tryz.underlying23 (by kernel_rfl)
  (B3 3 (H0 Tryz.underlying3) rfl (by kernel_rfl:Tryz.prog.cellsOf 3=1) rfl rfl (B3 3 (H0 Tryz.underlying3) rfl (by kernel_rfl:Tryz.prog.cellsOf 3=1) rfl rfl A19)) (λ_=>rfl) (λa h=>⟨h.1,h.2.1⟩)
def Settings.ok(x:Settings):Prop:=fits x.TimeStep/\Vec.ok x.Gravity/\fits x.Iterations/\fits x.SleepSteps
theorem D9s(W:World):A15 Tryz.prog W 25 Settings.enc Settings.ok:=
 X5 5 (λa:Int×Vec×Int×Int×Unit=>(⟨a.1,a.2.1,a.2.2.1,a.2.2.2.1⟩:Settings)) Tryz.underlying25 (by kernel_rfl)
  (B3 3 (H0 Tryz.underlying3) rfl (by kernel_rfl:Tryz.prog.cellsOf 3=1) rfl rfl (B3 23 (A4l W) rfl (by kernel_rfl:Tryz.prog.cellsOf 23=2) rfl rfl (B3 3 (H0 Tryz.underlying3) rfl (by kernel_rfl:Tryz.prog.cellsOf 3=1) rfl rfl (B3 3 (H0 Tryz.underlying3) rfl (by kernel_rfl:Tryz.prog.cellsOf 3=1) rfl rfl A19)))) (λ_=>rfl) (λa h=>⟨h.1,h.2.1,h.2.2.1,h.2.2.2.1⟩)
def Transform.ok(x:Transform):Prop:=Vec.ok x.Position/\fits x.Angle
theorem D7e(W:World):A15 Tryz.prog W 51 Transform.enc Transform.ok:=
 X5 3 (λa:Vec×Int×Unit=>(⟨a.1,a.2.1⟩:Transform)) Tryz.underlying51 (by kernel_rfl)
  (B3 23 (A4l W) rfl (by kernel_rfl:Tryz.prog.cellsOf 23=2) rfl rfl (B3 3 (H0 Tryz.underlying3) rfl (by kernel_rfl:Tryz.prog.cellsOf 3=1) rfl rfl A19)) (λ_=>rfl) (λa h=>⟨h.1,h.2.1⟩)
def Shape.ok(x:Shape):Prop:=fits x.Kind/\fits x.Radius/\((∀a∈x.Vertices,Vec.ok a)/\x.Vertices.length<=maxLen)
theorem E7k(W:World):A15 Tryz.prog W 161 Shape.enc Shape.ok:=
 X5 3 (λa:Int×Int×List Vec×Unit=>(⟨a.1,a.2.1,a.2.2.1⟩:Shape)) Tryz.underlying161 (by kernel_rfl)
  (B3 158 (H0 Tryz.underlying158) rfl (by kernel_rfl:Tryz.prog.cellsOf 158=1) rfl rfl (B3 3 (H0 Tryz.underlying3) rfl (by kernel_rfl:Tryz.prog.cellsOf 3=1) rfl rfl (B3 159 (A67 (d:=(default:Vec)) Tryz.underlying159 (by kernel_rfl:Tryz.prog.cellsOf 23=2) (by decide) (A4l W)) rfl (by kernel_rfl:Tryz.prog.cellsOf 159=1) rfl rfl A19))) (λ_=>rfl) (λa h=>⟨h.1,h.2.1,h.2.2.1⟩)
def Fixture.ok(x:Fixture):Prop:=Shape.ok x.Shape/\fits x.Density/\fits x.Friction/\fits x.Restitution/\True/\fits x.Category/\fits x.Mask/\fits x.Group
theorem E2b(W:World):A15 Tryz.prog W 163 Fixture.enc Fixture.ok:=
 X5 10 (λa:Shape×Int×Int×Int×Bool×Int×Int×Int×Unit=>(⟨a.1,a.2.1,a.2.2.1,a.2.2.2.1,a.2.2.2.2.1,a.2.2.2.2.2.1,a.2.2.2.2.2.2.1,a.2.2.2.2.2.2.2.1⟩:Fixture)) Tryz.underlying163 (by kernel_rfl)
  (B3 161 (E7k W) rfl (by kernel_rfl:Tryz.prog.cellsOf 161=3) rfl rfl (B3 3 (H0 Tryz.underlying3) rfl (by kernel_rfl:Tryz.prog.cellsOf 3=1) rfl rfl (B3 3 (H0 Tryz.underlying3) rfl (by kernel_rfl:Tryz.prog.cellsOf 3=1) rfl rfl (B3 3 (H0 Tryz.underlying3) rfl (by kernel_rfl:Tryz.prog.cellsOf 3=1) rfl rfl (B3 4 (A6t Tryz.underlying4) rfl (by kernel_rfl:Tryz.prog.cellsOf 4=1) rfl rfl (B3 3 (H0 Tryz.underlying3) rfl (by kernel_rfl:Tryz.prog.cellsOf 3=1) rfl rfl (B3 3 (H0 Tryz.underlying3) rfl (by kernel_rfl:Tryz.prog.cellsOf 3=1) rfl rfl (B3 3 (H0 Tryz.underlying3) rfl (by kernel_rfl:Tryz.prog.cellsOf 3=1) rfl rfl A19)))))))) (λ_=>rfl) (λa h=>⟨h.1,h.2.1,h.2.2.1,h.2.2.2.1,h.2.2.2.2.1,h.2.2.2.2.2.1,h.2.2.2.2.2.2.1,h.2.2.2.2.2.2.2.1⟩)
def Body.ok(x:Body):Prop:=fits x.ID/\fits x.Kind/\Transform.ok x.Transform/\Vec.ok x.Velocity/\fits x.AngularVelocity/\Vec.ok x.Force/\fits x.Torque/\fits x.LinearDamping/\fits x.AngularDamping/\fits x.GravityScale/\True/\True/\True/\True/\fits x.IdleSteps/\((∀a∈x.Fixtures,Fixture.ok a)/\x.Fixtures.length<=maxLen)
theorem F07(W:World):A15 Tryz.prog W 54 Body.enc Body.ok:=
 X5 20 (λa:Int×Int×Transform×Vec×Int×Vec×Int×Int×Int×Int×Bool×Bool×Bool×Bool×Int×List Fixture×Unit=>(⟨a.1,a.2.1,a.2.2.1,a.2.2.2.1,a.2.2.2.2.1,a.2.2.2.2.2.1,a.2.2.2.2.2.2.1,a.2.2.2.2.2.2.2.1,a.2.2.2.2.2.2.2.2.1,a.2.2.2.2.2.2.2.2.2.1,a.2.2.2.2.2.2.2.2.2.2.1,a.2.2.2.2.2.2.2.2.2.2.2.1,a.2.2.2.2.2.2.2.2.2.2.2.2.1,a.2.2.2.2.2.2.2.2.2.2.2.2.2.1,a.2.2.2.2.2.2.2.2.2.2.2.2.2.2.1,a.2.2.2.2.2.2.2.2.2.2.2.2.2.2.2.1⟩:Body)) Tryz.underlying54 (by kernel_rfl)
  (B3 3 (H0 Tryz.underlying3) rfl (by kernel_rfl:Tryz.prog.cellsOf 3=1) rfl rfl (B3 49 (H0 Tryz.underlying49) rfl (by kernel_rfl:Tryz.prog.cellsOf 49=1) rfl rfl (B3 51 (D7e W) rfl (by kernel_rfl:Tryz.prog.cellsOf 51=3) rfl rfl (B3 23 (A4l W) rfl (by kernel_rfl:Tryz.prog.cellsOf 23=2) rfl rfl (B3 3 (H0 Tryz.underlying3) rfl (by kernel_rfl:Tryz.prog.cellsOf 3=1) rfl rfl (B3 23 (A4l W) rfl (by kernel_rfl:Tryz.prog.cellsOf 23=2) rfl rfl (B3 3 (H0 Tryz.underlying3) rfl (by kernel_rfl:Tryz.prog.cellsOf 3=1) rfl rfl (B3 3 (H0 Tryz.underlying3) rfl (by kernel_rfl:Tryz.prog.cellsOf 3=1) rfl rfl (B3 3 (H0 Tryz.underlying3) rfl (by kernel_rfl:Tryz.prog.cellsOf 3=1) rfl rfl (B3 3 (H0 Tryz.underlying3) rfl (by kernel_rfl:Tryz.prog.cellsOf 3=1) rfl rfl (B3 4 (A6t Tryz.underlying4) rfl (by kernel_rfl:Tryz.prog.cellsOf 4=1) rfl rfl (B3 4 (A6t Tryz.underlying4) rfl (by kernel_rfl:Tryz.prog.cellsOf 4=1) rfl rfl (B3 4 (A6t Tryz.underlying4) rfl (by kernel_rfl:Tryz.prog.cellsOf 4=1) rfl rfl (B3 4 (A6t Tryz.underlying4) rfl (by kernel_rfl:Tryz.prog.cellsOf 4=1) rfl rfl (B3 3 (H0 Tryz.underlying3) rfl (by kernel_rfl:Tryz.prog.cellsOf 3=1) rfl rfl (B3 52 (A67 (d:=(default:Fixture)) Tryz.underlying52 (by kernel_rfl:Tryz.prog.cellsOf 163=10) (by decide) (E2b W)) rfl (by kernel_rfl:Tryz.prog.cellsOf 52=1) rfl rfl A19)))))))))))))))) (λ_=>rfl) (λa h=>⟨h.1,h.2.1,h.2.2.1,h.2.2.2.1,h.2.2.2.2.1,h.2.2.2.2.2.1,h.2.2.2.2.2.2.1,h.2.2.2.2.2.2.2.1,h.2.2.2.2.2.2.2.2.1,h.2.2.2.2.2.2.2.2.2.1,h.2.2.2.2.2.2.2.2.2.2.1,h.2.2.2.2.2.2.2.2.2.2.2.1,h.2.2.2.2.2.2.2.2.2.2.2.2.1,h.2.2.2.2.2.2.2.2.2.2.2.2.2.1,h.2.2.2.2.2.2.2.2.2.2.2.2.2.2.1,h.2.2.2.2.2.2.2.2.2.2.2.2.2.2.2.1⟩)
def Joint.ok(x:Joint):Prop:=fits x.ID/\fits x.Kind/\fits x.BodyA/\fits x.BodyB/\Vec.ok x.AnchorA/\Vec.ok x.AnchorB/\Vec.ok x.Axis/\fits x.ReferenceAngle/\True/\fits x.Lower/\fits x.Upper/\True/\fits x.MotorSpeed/\fits x.MaxForce/\fits x.Softness/\fits x.BreakForce/\True/\(fits x.Impulses.I0/\fits x.Impulses.I1/\fits x.Impulses.I2/\fits x.Impulses.I3)
theorem E7j(W:World):A15 Tryz.prog W 58 Joint.enc Joint.ok:=
 X5 24 (λa:Int×Int×Int×Int×Vec×Vec×Vec×Int×Bool×Int×Int×Bool×Int×Int×Int×Int×Bool×Four×Unit=>(⟨a.1,a.2.1,a.2.2.1,a.2.2.2.1,a.2.2.2.2.1,a.2.2.2.2.2.1,a.2.2.2.2.2.2.1,a.2.2.2.2.2.2.2.1,a.2.2.2.2.2.2.2.2.1,a.2.2.2.2.2.2.2.2.2.1,a.2.2.2.2.2.2.2.2.2.2.1,a.2.2.2.2.2.2.2.2.2.2.2.1,a.2.2.2.2.2.2.2.2.2.2.2.2.1,a.2.2.2.2.2.2.2.2.2.2.2.2.2.1,a.2.2.2.2.2.2.2.2.2.2.2.2.2.2.1,a.2.2.2.2.2.2.2.2.2.2.2.2.2.2.2.1,a.2.2.2.2.2.2.2.2.2.2.2.2.2.2.2.2.1,a.2.2.2.2.2.2.2.2.2.2.2.2.2.2.2.2.2.1⟩:Joint)) Tryz.underlying58 (by kernel_rfl)
  (B3 3 (H0 Tryz.underlying3) rfl (by kernel_rfl:Tryz.prog.cellsOf 3=1) rfl rfl (B3 55 (H0 Tryz.underlying55) rfl (by kernel_rfl:Tryz.prog.cellsOf 55=1) rfl rfl (B3 3 (H0 Tryz.underlying3) rfl (by kernel_rfl:Tryz.prog.cellsOf 3=1) rfl rfl (B3 3 (H0 Tryz.underlying3) rfl (by kernel_rfl:Tryz.prog.cellsOf 3=1) rfl rfl (B3 23 (A4l W) rfl (by kernel_rfl:Tryz.prog.cellsOf 23=2) rfl rfl (B3 23 (A4l W) rfl (by kernel_rfl:Tryz.prog.cellsOf 23=2) rfl rfl (B3 23 (A4l W) rfl (by kernel_rfl:Tryz.prog.cellsOf 23=2) rfl rfl (B3 3 (H0 Tryz.underlying3) rfl (by kernel_rfl:Tryz.prog.cellsOf 3=1) rfl rfl (B3 4 (A6t Tryz.underlying4) rfl (by kernel_rfl:Tryz.prog.cellsOf 4=1) rfl rfl (B3 3 (H0 Tryz.underlying3) rfl (by kernel_rfl:Tryz.prog.cellsOf 3=1) rfl rfl (B3 3 (H0 Tryz.underlying3) rfl (by kernel_rfl:Tryz.prog.cellsOf 3=1) rfl rfl (B3 4 (A6t Tryz.underlying4) rfl (by kernel_rfl:Tryz.prog.cellsOf 4=1) rfl rfl (B3 3 (H0 Tryz.underlying3) rfl (by kernel_rfl:Tryz.prog.cellsOf 3=1) rfl rfl (B3 3 (H0 Tryz.underlying3) rfl (by kernel_rfl:Tryz.prog.cellsOf 3=1) rfl rfl (B3 3 (H0 Tryz.underlying3) rfl (by kernel_rfl:Tryz.prog.cellsOf 3=1) rfl rfl (B3 3 (H0 Tryz.underlying3) rfl (by kernel_rfl:Tryz.prog.cellsOf 3=1) rfl rfl (B3 4 (A6t Tryz.underlying4) rfl (by kernel_rfl:Tryz.prog.cellsOf 4=1) rfl rfl (B3 56 (F08 Tryz.underlying56 Tryz.underlying3 (by kernel_rfl) (by kernel_rfl)) rfl (by kernel_rfl:Tryz.prog.cellsOf 56=4) rfl rfl A19)))))))))))))))))) (λ_=>rfl) (λa h=>⟨h.1,h.2.1,h.2.2.1,h.2.2.2.1,h.2.2.2.2.1,h.2.2.2.2.2.1,h.2.2.2.2.2.2.1,h.2.2.2.2.2.2.2.1,h.2.2.2.2.2.2.2.2.1,h.2.2.2.2.2.2.2.2.2.1,h.2.2.2.2.2.2.2.2.2.2.1,h.2.2.2.2.2.2.2.2.2.2.2.1,h.2.2.2.2.2.2.2.2.2.2.2.2.1,h.2.2.2.2.2.2.2.2.2.2.2.2.2.1,h.2.2.2.2.2.2.2.2.2.2.2.2.2.2.1,h.2.2.2.2.2.2.2.2.2.2.2.2.2.2.2.1,h.2.2.2.2.2.2.2.2.2.2.2.2.2.2.2.2.1,h.2.2.2.2.2.2.2.2.2.2.2.2.2.2.2.2.2.1⟩)
def PairKey.ok(x:PairKey):Prop:=fits x.BodyA/\fits x.FixtureA/\fits x.BodyB/\fits x.FixtureB
theorem C6p(W:World):A15 Tryz.prog W 129 PairKey.enc PairKey.ok:=
 X5 4 (λa:Int×Int×Int×Int×Unit=>(⟨a.1,a.2.1,a.2.2.1,a.2.2.2.1⟩:PairKey)) Tryz.underlying129 (by kernel_rfl)
  (B3 3 (H0 Tryz.underlying3) rfl (by kernel_rfl:Tryz.prog.cellsOf 3=1) rfl rfl (B3 3 (H0 Tryz.underlying3) rfl (by kernel_rfl:Tryz.prog.cellsOf 3=1) rfl rfl (B3 3 (H0 Tryz.underlying3) rfl (by kernel_rfl:Tryz.prog.cellsOf 3=1) rfl rfl (B3 3 (H0 Tryz.underlying3) rfl (by kernel_rfl:Tryz.prog.cellsOf 3=1) rfl rfl A19)))) (λ_=>rfl) (λa h=>⟨h.1,h.2.1,h.2.2.1,h.2.2.2.1⟩)
def ContactPoint.ok(x:ContactPoint):Prop:=Vec.ok x.Point/\fits x.Separation/\fits x.ID/\fits x.NormalImpulse/\fits x.TangentImpulse
theorem C9y(W:World):A15 Tryz.prog W 195 ContactPoint.enc ContactPoint.ok:=
 X5 6 (λa:Vec×Int×Int×Int×Int×Unit=>(⟨a.1,a.2.1,a.2.2.1,a.2.2.2.1,a.2.2.2.2.1⟩:ContactPoint)) Tryz.underlying195 (by kernel_rfl)
  (B3 23 (A4l W) rfl (by kernel_rfl:Tryz.prog.cellsOf 23=2) rfl rfl (B3 3 (H0 Tryz.underlying3) rfl (by kernel_rfl:Tryz.prog.cellsOf 3=1) rfl rfl (B3 3 (H0 Tryz.underlying3) rfl (by kernel_rfl:Tryz.prog.cellsOf 3=1) rfl rfl (B3 3 (H0 Tryz.underlying3) rfl (by kernel_rfl:Tryz.prog.cellsOf 3=1) rfl rfl (B3 3 (H0 Tryz.underlying3) rfl (by kernel_rfl:Tryz.prog.cellsOf 3=1) rfl rfl A19))))) (λ_=>rfl) (λa h=>⟨h.1,h.2.1,h.2.2.1,h.2.2.2.1,h.2.2.2.2.1⟩)
def Manifold.ok(x:Manifold):Prop:=Vec.ok x.Normal/\((∀a∈x.Points,ContactPoint.ok a)/\x.Points.length<=maxLen)
theorem D9r(W:World):A15 Tryz.prog W 132 Manifold.enc Manifold.ok:=
 X5 3 (λa:Vec×List ContactPoint×Unit=>(⟨a.1,a.2.1⟩:Manifold)) Tryz.underlying132 (by kernel_rfl)
  (B3 23 (A4l W) rfl (by kernel_rfl:Tryz.prog.cellsOf 23=2) rfl rfl (B3 130 (A67 (d:=(default:ContactPoint)) Tryz.underlying130 (by kernel_rfl:Tryz.prog.cellsOf 195=6) (by decide) (C9y W)) rfl (by kernel_rfl:Tryz.prog.cellsOf 130=1) rfl rfl A19)) (λ_=>rfl) (λa h=>⟨h.1,h.2.1⟩)
def Contact.ok(x:Contact):Prop:=PairKey.ok x.Key/\Manifold.ok x.Manifold
theorem E2a(W:World):A15 Tryz.prog W 134 Contact.enc Contact.ok:=
 X5 7 (λa:PairKey×Manifold×Unit=>(⟨a.1,a.2.1⟩:Contact)) Tryz.underlying134 (by kernel_rfl)
  (B3 129 (C6p W) rfl (by kernel_rfl:Tryz.prog.cellsOf 129=4) rfl rfl (B3 132 (D9r W) rfl (by kernel_rfl:Tryz.prog.cellsOf 132=3) rfl rfl A19)) (λ_=>rfl) (λa h=>⟨h.1,h.2.1⟩)
def World.ok(x:Api.World):Prop:=Settings.ok x.Settings/\((∀a∈x.Bodies,Body.ok a)/\x.Bodies.length<=maxLen)/\((∀a∈x.Joints,Joint.ok a)/\x.Joints.length<=maxLen)/\((∀a∈x.Contacts,Contact.ok a)/\x.Contacts.length<=maxLen)/\((∀a∈x.Overlaps,PairKey.ok a)/\x.Overlaps.length<=maxLen)/\fits x.NextID/\fits x.Frame
theorem E7l(W:World):A15 Tryz.prog W 31 Api.World.enc World.ok:=
 X5 11 (λa:Settings×List Body×List Joint×List Contact×List PairKey×Int×Int×Unit=>(⟨a.1,a.2.1,a.2.2.1,a.2.2.2.1,a.2.2.2.2.1,a.2.2.2.2.2.1,a.2.2.2.2.2.2.1⟩:Api.World)) Tryz.underlying31 (by kernel_rfl)
  (B3 25 (D9s W) rfl (by kernel_rfl:Tryz.prog.cellsOf 25=5) rfl rfl (B3 26 (A67 (d:=(default:Body)) Tryz.underlying26 (by kernel_rfl:Tryz.prog.cellsOf 54=20) (by decide) (F07 W)) rfl (by kernel_rfl:Tryz.prog.cellsOf 26=1) rfl rfl (B3 27 (A67 (d:=(default:Joint)) Tryz.underlying27 (by kernel_rfl:Tryz.prog.cellsOf 58=24) (by decide) (E7j W)) rfl (by kernel_rfl:Tryz.prog.cellsOf 27=1) rfl rfl (B3 28 (A67 (d:=(default:Contact)) Tryz.underlying28 (by kernel_rfl:Tryz.prog.cellsOf 134=7) (by decide) (E2a W)) rfl (by kernel_rfl:Tryz.prog.cellsOf 28=1) rfl rfl (B3 29 (A67 (d:=(default:PairKey)) Tryz.underlying29 (by kernel_rfl:Tryz.prog.cellsOf 129=4) (by decide) (C6p W)) rfl (by kernel_rfl:Tryz.prog.cellsOf 29=1) rfl rfl (B3 3 (H0 Tryz.underlying3) rfl (by kernel_rfl:Tryz.prog.cellsOf 3=1) rfl rfl (B3 3 (H0 Tryz.underlying3) rfl (by kernel_rfl:Tryz.prog.cellsOf 3=1) rfl rfl A19))))))) (λ_=>rfl) (λa h=>⟨h.1,h.2.1,h.2.2.1,h.2.2.2.1,h.2.2.2.2.1,h.2.2.2.2.2.1,h.2.2.2.2.2.2.1⟩)
end Go.Abs
namespace Go.Proofs.YtchcbiiammkhgaaGreat
open Go.ChangeMaps (open_string shut_string)
open Go.ChangeShapes Go.WideShapes Go.ChangeAt Go.RowKit Go.Abs
theorem G1r {l:List Bool}{k:Nat}(hk:k<l.length)(h:l[k]? =some true):l[k]=true:=by rw[List.getElem?_eq_getElem hk]at h;injection h
theorem F2i {P:Program}{f:FuncId}{fn:Func}{s:ChangeSpec}{c:OpenClaim}(hl:(D6 P f fn s c).1.length=32)
  (p0:(D6 P f fn s c).1[0]? =some true)(p1:(D6 P f fn s c).1[1]? =some true)(p2:(D6 P f fn s c).1[2]? =some true)(p3:(D6 P f fn s c).1[3]? =some true)(p4:(D6 P f fn s c).1[4]? =some true)(p5:(D6 P f fn s c).1[5]? =some true)(p6:(D6 P f fn s c).1[6]? =some true)(p7:(D6 P f fn s c).1[7]? =some true)(p8:(D6 P f fn s c).1[8]? =some true)(p9:(D6 P f fn s c).1[9]? =some true)(p10:(D6 P f fn s c).1[10]? =some true)(p11:(D6 P f fn s c).1[11]? =some true)(p12:(D6 P f fn s c).1[12]? =some true)(p13:(D6 P f fn s c).1[13]? =some true)(p14:(D6 P f fn s c).1[14]? =some true)(p15:(D6 P f fn s c).1[15]? =some true)(p16:(D6 P f fn s c).1[16]? =some true)(p17:(D6 P f fn s c).1[17]? =some true)(p18:(D6 P f fn s c).1[18]? =some true)(p19:(D6 P f fn s c).1[19]? =some true)(p20:(D6 P f fn s c).1[20]? =some true)(p21:(D6 P f fn s c).1[21]? =some true)(p22:(D6 P f fn s c).1[22]? =some true)(p23:(D6 P f fn s c).1[23]? =some true)(p24:(D6 P f fn s c).1[24]? =some true)(p25:(D6 P f fn s c).1[25]? =some true)(p26:(D6 P f fn s c).1[26]? =some true)(p27:(D6 P f fn s c).1[27]? =some true)(p28:(D6 P f fn s c).1[28]? =some true)(p29:(D6 P f fn s c).1[29]? =some true)(p30:(D6 P f fn s c).1[30]? =some true)(p31:(D6 P f fn s c).1[31]? =some true):joinedFacts P f fn s c=true:=by
 refine(D6 P f fn s c).2 ?_;generalize(D6 P f fn s c).1=l at*;intro x hx;obtain⟨k,hk,rfl⟩:=List.getElem_of_mem hx;refine G1r hk ?_;rw[hl]at hk
 match k,hk with
 |0,_=>exact p0
 |1,_=>exact p1
 |2,_=>exact p2
 |3,_=>exact p3
 |4,_=>exact p4
 |5,_=>exact p5
 |6,_=>exact p6
 |7,_=>exact p7
 |8,_=>exact p8
 |9,_=>exact p9
 |10,_=>exact p10
 |11,_=>exact p11
 |12,_=>exact p12
 |13,_=>exact p13
 |14,_=>exact p14
 |15,_=>exact p15
 |16,_=>exact p16
 |17,_=>exact p17
 |18,_=>exact p18
 |19,_=>exact p19
 |20,_=>exact p20
 |21,_=>exact p21
 |22,_=>exact p22
 |23,_=>exact p23
 |24,_=>exact p24
 |25,_=>exact p25
 |26,_=>exact p26
 |27,_=>exact p27
 |28,_=>exact p28
 |29,_=>exact p29
 |30,_=>exact p30
 |31,_=>exact p31
 |n+32,h=>omega
theorem E44:laidOutB Tryz.prog=true:=by kernel_rfl
theorem G4c:ownKnob Tryz.prog.godebug=none:=by kernel_rfl
theorem F8u(os:Os)(started:os.Started)(H:Type)(enc:TypeId×Value->H):
  ReturnsInHanded {} Tryz.checked os 3 .any (Rows.deferredQueueSpec.pre6 enc Tryz.prog Tryz.f3 Rows.deferredQueueRow.domain false) (Rows.deferredQueueSpec.post enc Tryz.prog Tryz.f3 false true false false):=by
 refine returnsInHanded_of_change (C:=Tryz.checked) G4c started (by kernel_rfl) Tryz.func3
  (ChangeSpec.witness6 (enc:=enc) (C:=Tryz.checked) false ⟨#[],#[.agg #[.int .i64 0, .int .i64 0, .int .i64 0, .int .i64 0, .int .i64 0, .slice none 0 0, .slice none 0 0, .slice none 0 0, .slice none 0 0, .int .i64 0, .int .i64 0], .agg #[.int .i64 0, .int .i64 0], .int .u8 0],[]⟩ 16 (by kernel_rfl) (by kernel_rfl) (by kernel_rfl) (by kernel_rfl)) ?_
 intro W base args ds gs before hval0 hW hcnd _;have hval: ∀(j:Nat) t v,Tryz.f3.params[j]? =some t->args[j]? =some v->Value.okWide Tryz.prog W .any base t v:=hval0
 have hW':=hW;obtain⟨p,q,hA0,hV,rfl,hfz,hnd⟩:=hW;have hA:DataW.TrodAll enc Tryz.prog W 0 (λ_=>true) true Tryz.f3.params.toList args.toList ds p:=hA0;rw[Tryz.params3]at hA hval;obtain⟨v0,vs0,d0,ds0,p0,q0,hargs,rfl,rfl,h0,r0⟩:=trodAll_cons hA;obtain⟨v1,vs1,d1,ds1,p1,q1,rfl,rfl,rfl,h1,r1⟩:=trodAll_cons r0;obtain⟨v2,vs2,d2,ds2,p2,q2,rfl,rfl,rfl,h2,r2⟩:=trodAll_cons r1;obtain⟨rfl,rfl,rfl⟩:=trodAll_nil r2;obtain rfl:args= #[v0,v1,v2]:=by cases args;simp_all
 obtain⟨rfl,rfl⟩:=trodVars_none hV;obtain⟨c0,rfl,_⟩:=okWide_struct Tryz.underlying31 (hval 0 31 v0 rfl rfl);have k0:=h0
 have lt0: ∀x∈p0,x.block<W.heap.size:=by obtain⟨m,hm⟩:=k0;exact DataW.trod_lt m _ _ _ hm
 obtain⟨fuel0,hf0⟩:=h0;obtain⟨x0,o0,hr0⟩:=(E7l W) _ _ _ _ _ _ _ _ hf0;obtain⟨c1,rfl,_⟩:=okWide_struct Tryz.underlying23 (hval 1 23 v1 rfl rfl);have k1:=h1
 have lt1: ∀x∈p1,x.block<W.heap.size:=by obtain⟨m,hm⟩:=k1;exact DataW.trod_lt m _ _ _ hm
 obtain⟨fuel1,hf1⟩:=h1;obtain⟨x1,o1,hr1⟩:=(A4l W) _ _ _ _ _ _ _ _ hf1;obtain⟨x2,rfl,rfl,rfl,w2⟩:=open_int Tryz.underlying5 (hval 2 5 v2 rfl rfl) h2;clear hA0 hval0;refine(F0g (C3u x0 x1 x2 (G2s w2)) (vals:= [.agg c0, .agg c1, .int .u8 x2]) ?_).mono λe W' ⟨he,bel⟩=> ?_
 ·refine⟨rfl,λj av hj=> ?_⟩
  match j,hj with
  |0,hj=>simp at hj;subst hj;exact E5g hr0
  |1,hj=>simp at hj;subst hj;exact E5g hr1
  |2,hj=>simp at hj;subst hj;exact .sc rfl
  |_+3,hj=>simp at hj
 ·subst he;exact⟨_,rfl,_,_,_,[],_,[],hW',trodAll_mk1 (shut_bool Tryz.underlying4 _),(trodAll_cons_mk (Below.trod E44 (by kernel_rfl) (of_decide_eq_true (by kernel_rfl)) k0 bel lt0) (trodAll_cons_mk (Below.trod E44 (by kernel_rfl) (of_decide_eq_true (by kernel_rfl)) k1 bel lt1) (trodAll_cons_mk (shut_int Tryz.underlying5 w2) trodAll_mk0))),rfl,bel.frame _,λh=>by cases h⟩
theorem G2g:(D6 Tryz.pinned.checked.prog 3 Tryz.f3 Rows.deferredQueueSpec Rows.deferredQueueRow).1.length=32:=by kernel_rfl
theorem F8d:joinedFacts Tryz.pinned.checked.prog 3 Tryz.f3 Rows.deferredQueueSpec Rows.deferredQueueRow=true:=F2i G2g G16 G17 G18 G19 G2a G2b G2c G2d G2e G2f F9d F9e F9f F9g F9h F9i F9j F9k F9l F9m F9n F9o F9p F9q F9r F9s F9t F9u F9v F9w F9x F9y
theorem deferredQueue:Rows.DeferredQueueSaid:=
 OpenClaim.holds_of_wide 3 Tryz.f3 rfl rfl rfl rfl rfl rfl rfl ⟨rfl,rfl,rfl,rfl,rfl⟩ rfl rfl rfl rfl rfl (by as_aux_lemma=>kernel_rfl) Tryz.func3 F8d
  (of_decide_eq_true (by as_aux_lemma=>kernel_rfl)) (by as_aux_lemma=>unfold Func.isWrapper;first |(rw[if_pos (by decide+kernel)];kernel_rfl) |(rw[if_neg (by decide+kernel)];exact⟨rfl,rfl⟩))
  (λos started H enc _=>F8u os started H enc)
#print axioms deferredQueue
end Go.Proofs.YtchcbiiammkhgaaGreat
end
