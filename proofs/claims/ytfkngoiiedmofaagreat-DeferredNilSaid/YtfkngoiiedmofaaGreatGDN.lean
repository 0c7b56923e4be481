/- The statement's row. -/
import Derived.Test.YtfkngoiiedmofaaGreatMG
import Derived.Test.YtfkngoiiedmofaaGreatRows
import Derived.WalkKit
import Derived.ProofKit
import Derived.OpenShut
import Derived.ShutString
import Derived.ChangeOld
import Derived.Below
set_option linter.unusedSimpArgs false
set_option linter.unusedVariables false
set_option linter.unnecessarySimpa false
set_option maxRecDepth 100000
set_option maxHeartbeats 2000000
section
namespace Go.Abs
open Go.Proofs Api
def Vec.ok (x : Vec) : Prop := fits x.X ∧ fits x.Y
theorem opens_Vec (W : World) : Opens Tryz.prog W 23 Vec.enc Vec.ok :=
  opens_struct' 2 (fun a : Int × Int × Unit => (⟨a.1, a.2.1⟩ : Vec)) Tryz.underlying23 (by kernel_rfl)
    (opensF_step 3 (opens_i64 Tryz.underlying3) rfl (by kernel_rfl : Tryz.prog.cellsOf 3 = 1) rfl rfl (opensF_step 3 (opens_i64 Tryz.underlying3) rfl (by kernel_rfl : Tryz.prog.cellsOf 3 = 1) rfl rfl opensF_nil)) (fun _ => rfl) (fun a h => ⟨h.1, h.2.1⟩)
def Transform.ok (x : Transform) : Prop := Vec.ok x.Position ∧ fits x.Angle
theorem opens_Transform (W : World) : Opens Tryz.prog W 35 Transform.enc Transform.ok :=
  opens_struct' 3 (fun a : Vec × Int × Unit => (⟨a.1, a.2.1⟩ : Transform)) Tryz.underlying35 (by kernel_rfl)
    (opensF_step 23 (opens_Vec W) rfl (by kernel_rfl : Tryz.prog.cellsOf 23 = 2) rfl rfl (opensF_step 3 (opens_i64 Tryz.underlying3) rfl (by kernel_rfl : Tryz.prog.cellsOf 3 = 1) rfl rfl opensF_nil)) (fun _ => rfl) (fun a h => ⟨h.1, h.2.1⟩)
def Shape.ok (x : Shape) : Prop := fits x.Kind ∧ fits x.Radius ∧ ((∀ a ∈ x.Vertices, Vec.ok a) ∧ x.Vertices.length ≤ maxLen)
theorem opens_Shape (W : World) : Opens Tryz.prog W 135 Shape.enc Shape.ok :=
  opens_struct' 3 (fun a : Int × Int × List Vec × Unit => (⟨a.1, a.2.1, a.2.2.1⟩ : Shape)) Tryz.underlying135 (by kernel_rfl)
    (opensF_step 132 (opens_i64 Tryz.underlying132) rfl (by kernel_rfl : Tryz.prog.cellsOf 132 = 1) rfl rfl (opensF_step 3 (opens_i64 Tryz.underlying3) rfl (by kernel_rfl : Tryz.prog.cellsOf 3 = 1) rfl rfl (opensF_step 133 (opens_slice (d := (default : Vec)) Tryz.underlying133 (by kernel_rfl : Tryz.prog.cellsOf 23 = 2) (by decide) (opens_Vec W)) rfl (by kernel_rfl : Tryz.prog.cellsOf 133 = 1) rfl rfl opensF_nil))) (fun _ => rfl) (fun a h => ⟨h.1, h.2.1, h.2.2.1⟩)
def Fixture.ok (x : Fixture) : Prop := Shape.ok x.Shape ∧ fits x.Density ∧ fits x.Friction ∧ fits x.Restitution ∧ True ∧ fits x.Category ∧ fits x.Mask ∧ fits x.Group
theorem opens_Fixture (W : World) : Opens Tryz.prog W 137 Fixture.enc Fixture.ok :=
  opens_struct' 10 (fun a : Shape × Int × Int × Int × Bool × Int × Int × Int × Unit => (⟨a.1, a.2.1, a.2.2.1, a.2.2.2.1, a.2.2.2.2.1, a.2.2.2.2.2.1, a.2.2.2.2.2.2.1, a.2.2.2.2.2.2.2.1⟩ : Fixture)) Tryz.underlying137 (by kernel_rfl)
    (opensF_step 135 (opens_Shape W) rfl (by kernel_rfl : Tryz.prog.cellsOf 135 = 3) rfl rfl (opensF_step 3 (opens_i64 Tryz.underlying3) rfl (by kernel_rfl : Tryz.prog.cellsOf 3 = 1) rfl rfl (opensF_step 3 (opens_i64 Tryz.underlying3) rfl (by kernel_rfl : Tryz.prog.cellsOf 3 = 1) rfl rfl (opensF_step 3 (opens_i64 Tryz.underlying3) rfl (by kernel_rfl : Tryz.prog.cellsOf 3 = 1) rfl rfl (opensF_step 4 (opens_bool Tryz.underlying4) rfl (by kernel_rfl : Tryz.prog.cellsOf 4 = 1) rfl rfl (opensF_step 3 (opens_i64 Tryz.underlying3) rfl (by kernel_rfl : Tryz.prog.cellsOf 3 = 1) rfl rfl (opensF_step 3 (opens_i64 Tryz.underlying3) rfl (by kernel_rfl : Tryz.prog.cellsOf 3 = 1) rfl rfl (opensF_step 3 (opens_i64 Tryz.underlying3) rfl (by kernel_rfl : Tryz.prog.cellsOf 3 = 1) rfl rfl opensF_nil)))))))) (fun _ => rfl) (fun a h => ⟨h.1, h.2.1, h.2.2.1, h.2.2.2.1, h.2.2.2.2.1, h.2.2.2.2.2.1, h.2.2.2.2.2.2.1, h.2.2.2.2.2.2.2.1⟩)
def Body.ok (x : Body) : Prop := fits x.ID ∧ fits x.Kind ∧ Transform.ok x.Transform ∧ Vec.ok x.Velocity ∧ fits x.AngularVelocity ∧ Vec.ok x.Force ∧ fits x.Torque ∧ fits x.LinearDamping ∧ fits x.AngularDamping ∧ fits x.GravityScale ∧ True ∧ True ∧ True ∧ True ∧ fits x.IdleSteps ∧ ((∀ a ∈ x.Fixtures, Fixture.ok a) ∧ x.Fixtures.length ≤ maxLen)
theorem opens_Body (W : World) : Opens Tryz.prog W 38 Body.enc Body.ok :=
  opens_struct' 20 (fun a : Int × Int × Transform × Vec × Int × Vec × Int × Int × Int × Int × Bool × Bool × Bool × Bool × Int × List Fixture × Unit => (⟨a.1, a.2.1, a.2.2.1, a.2.2.2.1, a.2.2.2.2.1, a.2.2.2.2.2.1, a.2.2.2.2.2.2.1, a.2.2.2.2.2.2.2.1, a.2.2.2.2.2.2.2.2.1, a.2.2.2.2.2.2.2.2.2.1, a.2.2.2.2.2.2.2.2.2.2.1, a.2.2.2.2.2.2.2.2.2.2.2.1, a.2.2.2.2.2.2.2.2.2.2.2.2.1, a.2.2.2.2.2.2.2.2.2.2.2.2.2.1, a.2.2.2.2.2.2.2.2.2.2.2.2.2.2.1, a.2.2.2.2.2.2.2.2.2.2.2.2.2.2.2.1⟩ : Body)) Tryz.underlying38 (by kernel_rfl)
    (opensF_step 3 (opens_i64 Tryz.underlying3) rfl (by kernel_rfl : Tryz.prog.cellsOf 3 = 1) rfl rfl (opensF_step 33 (opens_i64 Tryz.underlying33) rfl (by kernel_rfl : Tryz.prog.cellsOf 33 = 1) rfl rfl (opensF_step 35 (opens_Transform W) rfl (by kernel_rfl : Tryz.prog.cellsOf 35 = 3) rfl rfl (opensF_step 23 (opens_Vec W) rfl (by kernel_rfl : Tryz.prog.cellsOf 23 = 2) rfl rfl (opensF_step 3 (opens_i64 Tryz.underlying3) rfl (by kernel_rfl : Tryz.prog.cellsOf 3 = 1) rfl rfl (opensF_step 23 (opens_Vec W) rfl (by kernel_rfl : Tryz.prog.cellsOf 23 = 2) rfl rfl (opensF_step 3 (opens_i64 Tryz.underlying3) rfl (by kernel_rfl : Tryz.prog.cellsOf 3 = 1) rfl rfl (opensF_step 3 (opens_i64 Tryz.underlying3) rfl (by kernel_rfl : Tryz.prog.cellsOf 3 = 1) rfl rfl (opensF_step 3 (opens_i64 Tryz.underlying3) rfl (by kernel_rfl : Tryz.prog.cellsOf 3 = 1) rfl rfl (opensF_step 3 (opens_i64 Tryz.underlying3) rfl (by kernel_rfl : Tryz.prog.cellsOf 3 = 1) rfl rfl (opensF_step 4 (opens_bool Tryz.underlying4) rfl (by kernel_rfl : Tryz.prog.cellsOf 4 = 1) rfl rfl (opensF_step 4 (opens_bool Tryz.underlying4) rfl (by kernel_rfl : Tryz.prog.cellsOf 4 = 1) rfl rfl (opensF_step 4 (opens_bool Tryz.underlying4) rfl (by kernel_rfl : Tryz.prog.cellsOf 4 = 1) rfl rfl (opensF_step 4 (opens_bool Tryz.underlying4) rfl (by kernel_rfl : Tryz.prog.cellsOf 4 = 1) rfl rfl (opensF_step 3 (opens_i64 Tryz.underlying3) rfl (by kernel_rfl : Tryz.prog.cellsOf 3 = 1) rfl rfl (opensF_step 36 (opens_slice (d := (default : Fixture)) Tryz.underlying36 (by kernel_rfl : Tryz.prog.cellsOf 137 = 10) (by decide) (opens_Fixture W)) rfl (by kernel_rfl : Tryz.prog.cellsOf 36 = 1) rfl rfl opensF_nil)))))))))))))))) (fun _ => rfl) (fun a h => ⟨h.1, h.2.1, h.2.2.1, h.2.2.2.1, h.2.2.2.2.1, h.2.2.2.2.2.1, h.2.2.2.2.2.2.1, h.2.2.2.2.2.2.2.1, h.2.2.2.2.2.2.2.2.1, h.2.2.2.2.2.2.2.2.2.1, h.2.2.2.2.2.2.2.2.2.2.1, h.2.2.2.2.2.2.2.2.2.2.2.1, h.2.2.2.2.2.2.2.2.2.2.2.2.1, h.2.2.2.2.2.2.2.2.2.2.2.2.2.1, h.2.2.2.2.2.2.2.2.2.2.2.2.2.2.1, h.2.2.2.2.2.2.2.2.2.2.2.2.2.2.2.1⟩)
def Joint.ok (x : Joint) : Prop := fits x.ID ∧ fits x.Kind ∧ fits x.BodyA ∧ fits x.BodyB ∧ Vec.ok x.AnchorA ∧ Vec.ok x.AnchorB ∧ Vec.ok x.Axis ∧ fits x.ReferenceAngle ∧ True ∧ fits x.Lower ∧ fits x.Upper ∧ True ∧ fits x.MotorSpeed ∧ fits x.MaxForce ∧ fits x.Softness ∧ fits x.BreakForce ∧ True ∧ (fits x.Impulses.I0 ∧ fits x.Impulses.I1 ∧ fits x.Impulses.I2 ∧ fits x.Impulses.I3)
theorem opens_Joint (W : World) : Opens Tryz.prog W 42 Joint.enc Joint.ok :=
  opens_struct' 24 (fun a : Int × Int × Int × Int × Vec × Vec × Vec × Int × Bool × Int × Int × Bool × Int × Int × Int × Int × Bool × Four × Unit => (⟨a.1, a.2.1, a.2.2.1, a.2.2.2.1, a.2.2.2.2.1, a.2.2.2.2.2.1, a.2.2.2.2.2.2.1, a.2.2.2.2.2.2.2.1, a.2.2.2.2.2.2.2.2.1, a.2.2.2.2.2.2.2.2.2.1, a.2.2.2.2.2.2.2.2.2.2.1, a.2.2.2.2.2.2.2.2.2.2.2.1, a.2.2.2.2.2.2.2.2.2.2.2.2.1, a.2.2.2.2.2.2.2.2.2.2.2.2.2.1, a.2.2.2.2.2.2.2.2.2.2.2.2.2.2.1, a.2.2.2.2.2.2.2.2.2.2.2.2.2.2.2.1, a.2.2.2.2.2.2.2.2.2.2.2.2.2.2.2.2.1, a.2.2.2.2.2.2.2.2.2.2.2.2.2.2.2.2.2.1⟩ : Joint)) Tryz.underlying42 (by kernel_rfl)
    (opensF_step 3 (opens_i64 Tryz.underlying3) rfl (by kernel_rfl : Tryz.prog.cellsOf 3 = 1) rfl rfl (opensF_step 39 (opens_i64 Tryz.underlying39) rfl (by kernel_rfl : Tryz.prog.cellsOf 39 = 1) rfl rfl (opensF_step 3 (opens_i64 Tryz.underlying3) rfl (by kernel_rfl : Tryz.prog.cellsOf 3 = 1) rfl rfl (opensF_step 3 (opens_i64 Tryz.underlying3) rfl (by kernel_rfl : Tryz.prog.cellsOf 3 = 1) rfl rfl (opensF_step 23 (opens_Vec W) rfl (by kernel_rfl : Tryz.prog.cellsOf 23 = 2) rfl rfl (opensF_step 23 (opens_Vec W) rfl (by kernel_rfl : Tryz.prog.cellsOf 23 = 2) rfl rfl (opensF_step 23 (opens_Vec W) rfl (by kernel_rfl : Tryz.prog.cellsOf 23 = 2) rfl rfl (opensF_step 3 (opens_i64 Tryz.underlying3) rfl (by kernel_rfl : Tryz.prog.cellsOf 3 = 1) rfl rfl (opensF_step 4 (opens_bool Tryz.underlying4) rfl (by kernel_rfl : Tryz.prog.cellsOf 4 = 1) rfl rfl (opensF_step 3 (opens_i64 Tryz.underlying3) rfl (by kernel_rfl : Tryz.prog.cellsOf 3 = 1) rfl rfl (opensF_step 3 (opens_i64 Tryz.underlying3) rfl (by kernel_rfl : Tryz.prog.cellsOf 3 = 1) rfl rfl (opensF_step 4 (opens_bool Tryz.underlying4) rfl (by kernel_rfl : Tryz.prog.cellsOf 4 = 1) rfl rfl (opensF_step 3 (opens_i64 Tryz.underlying3) rfl (by kernel_rfl : Tryz.prog.cellsOf 3 = 1) rfl rfl (opensF_step 3 (opens_i64 Tryz.underlying3) rfl (by kernel_rfl : Tryz.prog.cellsOf 3 = 1) rfl rfl (opensF_step 3 (opens_i64 Tryz.underlying3) rfl (by kernel_rfl : Tryz.prog.cellsOf 3 = 1) rfl rfl (opensF_step 3 (opens_i64 Tryz.underlying3) rfl (by kernel_rfl : Tryz.prog.cellsOf 3 = 1) rfl rfl (opensF_step 4 (opens_bool Tryz.underlying4) rfl (by kernel_rfl : Tryz.prog.cellsOf 4 = 1) rfl rfl (opensF_step 40 (opens_four Tryz.underlying40 Tryz.underlying3 (by kernel_rfl) (by kernel_rfl)) rfl (by kernel_rfl : Tryz.prog.cellsOf 40 = 4) rfl rfl opensF_nil)))))))))))))))))) (fun _ => rfl) (fun a h => ⟨h.1, h.2.1, h.2.2.1, h.2.2.2.1, h.2.2.2.2.1, h.2.2.2.2.2.1, h.2.2.2.2.2.2.1, h.2.2.2.2.2.2.2.1, h.2.2.2.2.2.2.2.2.1, h.2.2.2.2.2.2.2.2.2.1, h.2.2.2.2.2.2.2.2.2.2.1, h.2.2.2.2.2.2.2.2.2.2.2.1, h.2.2.2.2.2.2.2.2.2.2.2.2.1, h.2.2.2.2.2.2.2.2.2.2.2.2.2.1, h.2.2.2.2.2.2.2.2.2.2.2.2.2.2.1, h.2.2.2.2.2.2.2.2.2.2.2.2.2.2.2.1, h.2.2.2.2.2.2.2.2.2.2.2.2.2.2.2.2.1, h.2.2.2.2.2.2.2.2.2.2.2.2.2.2.2.2.2.1⟩)
def Input.ok (x : Api.Input) : Prop := fits x.Kind ∧ fits x.ID ∧ Vec.ok x.Vec ∧ fits x.Value ∧ Body.ok x.Body ∧ Joint.ok x.Joint
theorem opens_Input (W : World) : Opens Tryz.prog W 44 Api.Input.enc Input.ok :=
  opens_struct' 49 (fun a : Int × Int × Vec × Int × Body × Joint × Unit => (⟨a.1, a.2.1, a.2.2.1, a.2.2.2.1, a.2.2.2.2.1, a.2.2.2.2.2.1⟩ : Api.Input)) Tryz.underlying44 (by kernel_rfl)
    (opensF_step 32 (opens_i64 Tryz.underlying32) rfl (by kernel_rfl : Tryz.prog.cellsOf 32 = 1) rfl rfl (opensF_step 3 (opens_i64 Tryz.underlying3) rfl (by kernel_rfl : Tryz.prog.cellsOf 3 = 1) rfl rfl (opensF_step 23 (opens_Vec W) rfl (by kernel_rfl : Tryz.prog.cellsOf 23 = 2) rfl rfl (opensF_step 3 (opens_i64 Tryz.underlying3) rfl (by kernel_rfl : Tryz.prog.cellsOf 3 = 1) rfl rfl (opensF_step 38 (opens_Body W) rfl (by kernel_rfl : Tryz.prog.cellsOf 38 = 20) rfl rfl (opensF_step 42 (opens_Joint W) rfl (by kernel_rfl : Tryz.prog.cellsOf 42 = 24) rfl rfl opensF_nil)))))) (fun _ => rfl) (fun a h => ⟨h.1, h.2.1, h.2.2.1, h.2.2.2.1, h.2.2.2.2.1, h.2.2.2.2.2.1⟩)
def Request.ok (x : Api.Request) : Prop := fits x.Kind ∧ Vec.ok x.From ∧ Vec.ok x.To ∧ fits x.Mask ∧ Input.ok x.Input
theorem opens_Request (W : World) : Opens Tryz.prog W 46 Api.Request.enc Request.ok :=
  opens_struct' 55 (fun a : Int × Vec × Vec × Int × Api.Input × Unit => (⟨a.1, a.2.1, a.2.2.1, a.2.2.2.1, a.2.2.2.2.1⟩ : Api.Request)) Tryz.underlying46 (by kernel_rfl)
    (opensF_step 3 (opens_i64 Tryz.underlying3) rfl (by kernel_rfl : Tryz.prog.cellsOf 3 = 1) rfl rfl (opensF_step 23 (opens_Vec W) rfl (by kernel_rfl : Tryz.prog.cellsOf 23 = 2) rfl rfl (opensF_step 23 (opens_Vec W) rfl (by kernel_rfl : Tryz.prog.cellsOf 23 = 2) rfl rfl (opensF_step 3 (opens_i64 Tryz.underlying3) rfl (by kernel_rfl : Tryz.prog.cellsOf 3 = 1) rfl rfl (opensF_step 44 (opens_Input W) rfl (by kernel_rfl : Tryz.prog.cellsOf 44 = 49) rfl rfl opensF_nil))))) (fun _ => rfl) (fun a h => ⟨h.1, h.2.1, h.2.2.1, h.2.2.2.1, h.2.2.2.2.1⟩)
end Go.Abs
namespace Go.Proofs.YtfkngoiiedmofaaGreat
open Go.ChangeMaps (open_string shut_string)
open Go.ChangeShapes Go.WideShapes Go.ChangeAt Go.RowKit Go.Abs
theorem andI {a b : Bool} (ha : a = true) (hb : b = true) : (a && b) = true := by rw [ha, hb]; rfl
def pcons {a b : Bool} (h : PSigma fun l : List Bool => (∀ x ∈ l, x = true) → a = true) : PSigma fun l : List Bool => (∀ x ∈ l, x = true) → (a && b) = true :=
  ⟨b :: h.1, fun hl => andI (h.2 fun x hx => hl x (List.mem_cons_of_mem _ hx)) (hl b (List.mem_cons_self ..))⟩
def pone {a : Bool} : PSigma fun l : List Bool => (∀ x ∈ l, x = true) → a = true := ⟨[a], fun h => h a (List.mem_singleton.2 rfl)⟩
def parts (P : Program) (f : FuncId) (fn : Func) (s : ChangeSpec) (c : OpenClaim) : PSigma fun l : List Bool => (∀ x ∈ l, x = true) → joinedFacts P f fn s c = true := by
  unfold joinedFacts
  iterate 31 (refine pcons ?_)
  exact pone
theorem of_get {l : List Bool} {k : Nat} (hk : k < l.length) (h : l[k]? = some true) : l[k] = true := by
  rw [List.getElem?_eq_getElem hk] at h; injection h
theorem closed_of {P : Program} {f : FuncId} {fn : Func} {s : ChangeSpec} {c : OpenClaim} (hl : (parts P f fn s c).1.length = 32)
    (p0 : (parts P f fn s c).1[0]? = some true) (p1 : (parts P f fn s c).1[1]? = some true) (p2 : (parts P f fn s c).1[2]? = some true) (p3 : (parts P f fn s c).1[3]? = some true) (p4 : (parts P f fn s c).1[4]? = some true) (p5 : (parts P f fn s c).1[5]? = some true) (p6 : (parts P f fn s c).1[6]? = some true) (p7 : (parts P f fn s c).1[7]? = some true) (p8 : (parts P f fn s c).1[8]? = some true) (p9 : (parts P f fn s c).1[9]? = some true) (p10 : (parts P f fn s c).1[10]? = some true) (p11 : (parts P f fn s c).1[11]? = some true) (p12 : (parts P f fn s c).1[12]? = some true) (p13 : (parts P f fn s c).1[13]? = some true) (p14 : (parts P f fn s c).1[14]? = some true) (p15 : (parts P f fn s c).1[15]? = some true) (p16 : (parts P f fn s c).1[16]? = some true) (p17 : (parts P f fn s c).1[17]? = some true) (p18 : (parts P f fn s c).1[18]? = some true) (p19 : (parts P f fn s c).1[19]? = some true) (p20 : (parts P f fn s c).1[20]? = some true) (p21 : (parts P f fn s c).1[21]? = some true) (p22 : (parts P f fn s c).1[22]? = some true) (p23 : (parts P f fn s c).1[23]? = some true) (p24 : (parts P f fn s c).1[24]? = some true) (p25 : (parts P f fn s c).1[25]? = some true) (p26 : (parts P f fn s c).1[26]? = some true) (p27 : (parts P f fn s c).1[27]? = some true) (p28 : (parts P f fn s c).1[28]? = some true) (p29 : (parts P f fn s c).1[29]? = some true) (p30 : (parts P f fn s c).1[30]? = some true) (p31 : (parts P f fn s c).1[31]? = some true) : joinedFacts P f fn s c = true := by
  refine (parts P f fn s c).2 ?_
  generalize (parts P f fn s c).1 = l at *
  intro x hx
  obtain ⟨k, hk, rfl⟩ := List.getElem_of_mem hx
  refine of_get hk ?_
  rw [hl] at hk
  match k, hk with
  | 0, _ => exact p0
  | 1, _ => exact p1
  | 2, _ => exact p2
  | 3, _ => exact p3
  | 4, _ => exact p4
  | 5, _ => exact p5
  | 6, _ => exact p6
  | 7, _ => exact p7
  | 8, _ => exact p8
  | 9, _ => exact p9
  | 10, _ => exact p10
  | 11, _ => exact p11
  | 12, _ => exact p12
  | 13, _ => exact p13
  | 14, _ => exact p14
  | 15, _ => exact p15
  | 16, _ => exact p16
  | 17, _ => exact p17
  | 18, _ => exact p18
  | 19, _ => exact p19
  | 20, _ => exact p20
  | 21, _ => exact p21
  | 22, _ => exact p22
  | 23, _ => exact p23
  | 24, _ => exact p24
  | 25, _ => exact p25
  | 26, _ => exact p26
  | 27, _ => exact p27
  | 28, _ => exact p28
  | 29, _ => exact p29
  | 30, _ => exact p30
  | 31, _ => exact p31
  | n + 32, h => omega
theorem laidOutG : laidOutB Tryz.prog = true := by kernel_rfl
theorem ownG : ownKnob Tryz.prog.godebug = none := by kernel_rfl
theorem liftedG (os : Os) (started : os.Started) (H : Type) (enc : TypeId × Value → H) :
    ReturnsInHanded {} Tryz.checked os 5 .any (Rows.deferredNilSpec.pre6 enc Tryz.prog Tryz.f5 Rows.deferredNilRow.domain false) (Rows.deferredNilSpec.post enc Tryz.prog Tryz.f5 false true false false) := by
  refine returnsInHanded_of_change (C := Tryz.checked) ownG started (by kernel_rfl) Tryz.func5
    (ChangeSpec.witness6 (enc := enc) (C := Tryz.checked) false ⟨#[], #[.agg #[.int .i64 0, .int .i64 0, .int .i64 0, .int .i64 0, .int .i64 0, .int .i64 0, .int .i64 0, .int .i64 0, .int .i64 0, .int .i64 0, .int .i64 0, .int .i64 0, .int .i64 0, .int .i64 0, .int .i64 0, .int .i64 0, .int .i64 0, .int .i64 0, .int .i64 0, .int .i64 0, .int .i64 0, .int .i64 0, .int .i64 0, .int .i64 0, .int .i64 0, .bool false, .bool false, .bool false, .bool false, .int .i64 0, .slice none 0 0, .int .i64 0, .int .i64 0, .int .i64 0, .int .i64 0, .int .i64 0, .int .i64 0, .int .i64 0, .int .i64 0, .int .i64 0, .int .i64 0, .int .i64 0, .bool false, .int .i64 0, .int .i64 0, .bool false, .int .i64 0, .int .i64 0, .int .i64 0, .int .i64 0, .bool false, .int .i64 0, .int .i64 0, .int .i64 0, .int .i64 0], .int .i64 0], []⟩ 16 (by kernel_rfl) (by kernel_rfl) (by kernel_rfl) (by kernel_rfl)) ?_
  intro W base args ds gs before hval0 hW hcnd _
  have hval : ∀ (j : Nat) t v, Tryz.f5.params[j]? = some t → args[j]? = some v → Value.okWide Tryz.prog W .any base t v := hval0
  have hW' := hW
  obtain ⟨p, q, hA0, hV, rfl, hfz, hnd⟩ := hW
  have hA : DataW.TrodAll enc Tryz.prog W 0 (fun _ => true) true Tryz.f5.params.toList args.toList ds p := hA0
  rw [Tryz.params5] at hA hval
  obtain ⟨v0, vs0, d0, ds0, p0, q0, hargs, rfl, rfl, h0, r0⟩ := trodAll_cons hA
  obtain ⟨v1, vs1, d1, ds1, p1, q1, rfl, rfl, rfl, h1, r1⟩ := trodAll_cons r0
  obtain ⟨rfl, rfl, rfl⟩ := trodAll_nil r1
  obtain rfl : args = #[v0, v1] := by cases args; simp_all
  obtain ⟨rfl, rfl⟩ := trodVars_none hV
  obtain ⟨c0, rfl, _⟩ := okWide_struct Tryz.underlying46 (hval 0 46 v0 rfl rfl)
  have k0 := h0
  have lt0 : ∀ x ∈ p0, x.block < W.heap.size := by obtain ⟨m, hm⟩ := k0; exact DataW.trod_lt m _ _ _ hm
  obtain ⟨fuel0, hf0⟩ := h0
  obtain ⟨x0, o0, hr0⟩ := (opens_Request W) _ _ _ _ _ _ _ _ hf0
  obtain ⟨x1, rfl, rfl, rfl, w1⟩ := open_int Tryz.underlying3 (hval 1 3 v1 rfl rfl) h1
  clear hA0 hval0
  refine (calls_true (s_law50_DeferredNil x0 x1) (vals := [.agg c0, .int .i64 x1]) ?_).mono fun e W' ⟨he, bel⟩ => ?_
  · refine ⟨rfl, fun j av hj => ?_⟩
    match j, hj with
    | 0, hj => simp at hj; subst hj; exact relC_agg hr0
    | 1, hj => simp at hj; subst hj; exact .sc rfl
    | _ + 2, hj => simp at hj
  · subst he
    exact ⟨_, rfl, _, _, _, [], _, [], hW', trodAll_mk1 (shut_bool Tryz.underlying4 _), (trodAll_cons_mk (Below.trod laidOutG (by kernel_rfl) (of_decide_eq_true (by kernel_rfl)) k0 bel lt0) (trodAll_cons_mk (shut_int Tryz.underlying3 w1) trodAll_mk0)), rfl, bel.frame _, fun h => by cases h⟩
theorem partG0 : (parts Tryz.pinned.checked.prog 5 Tryz.f5 Rows.deferredNilSpec Rows.deferredNilRow).1[0]? = some true := by kernel_rfl
theorem partG1 : (parts Tryz.pinned.checked.prog 5 Tryz.f5 Rows.deferredNilSpec Rows.deferredNilRow).1[1]? = some true := by kernel_rfl
theorem partG2 : (parts Tryz.pinned.checked.prog 5 Tryz.f5 Rows.deferredNilSpec Rows.deferredNilRow).1[2]? = some true := by kernel_rfl
theorem partG3 : (parts Tryz.pinned.checked.prog 5 Tryz.f5 Rows.deferredNilSpec Rows.deferredNilRow).1[3]? = some true := by kernel_rfl
theorem partG4 : (parts Tryz.pinned.checked.prog 5 Tryz.f5 Rows.deferredNilSpec Rows.deferredNilRow).1[4]? = some true := by kernel_rfl
theorem partG5 : (parts Tryz.pinned.checked.prog 5 Tryz.f5 Rows.deferredNilSpec Rows.deferredNilRow).1[5]? = some true := by kernel_rfl
theorem partG6 : (parts Tryz.pinned.checked.prog 5 Tryz.f5 Rows.deferredNilSpec Rows.deferredNilRow).1[6]? = some true := by kernel_rfl
theorem partG7 : (parts Tryz.pinned.checked.prog 5 Tryz.f5 Rows.deferredNilSpec Rows.deferredNilRow).1[7]? = some true := by kernel_rfl
theorem partG8 : (parts Tryz.pinned.checked.prog 5 Tryz.f5 Rows.deferredNilSpec Rows.deferredNilRow).1[8]? = some true := by kernel_rfl
theorem partG9 : (parts Tryz.pinned.checked.prog 5 Tryz.f5 Rows.deferredNilSpec Rows.deferredNilRow).1[9]? = some true := by kernel_rfl
theorem partG10 : (parts Tryz.pinned.checked.prog 5 Tryz.f5 Rows.deferredNilSpec Rows.deferredNilRow).1[10]? = some true := by kernel_rfl
theorem partG11 : (parts Tryz.pinned.checked.prog 5 Tryz.f5 Rows.deferredNilSpec Rows.deferredNilRow).1[11]? = some true := by kernel_rfl
theorem partG12 : (parts Tryz.pinned.checked.prog 5 Tryz.f5 Rows.deferredNilSpec Rows.deferredNilRow).1[12]? = some true := by kernel_rfl
theorem partG13 : (parts Tryz.pinned.checked.prog 5 Tryz.f5 Rows.deferredNilSpec Rows.deferredNilRow).1[13]? = some true := by kernel_rfl
theorem partG14 : (parts Tryz.pinned.checked.prog 5 Tryz.f5 Rows.deferredNilSpec Rows.deferredNilRow).1[14]? = some true := by kernel_rfl
theorem partG15 : (parts Tryz.pinned.checked.prog 5 Tryz.f5 Rows.deferredNilSpec Rows.deferredNilRow).1[15]? = some true := by kernel_rfl
theorem partG16 : (parts Tryz.pinned.checked.prog 5 Tryz.f5 Rows.deferredNilSpec Rows.deferredNilRow).1[16]? = some true := by kernel_rfl
theorem partG17 : (parts Tryz.pinned.checked.prog 5 Tryz.f5 Rows.deferredNilSpec Rows.deferredNilRow).1[17]? = some true := by kernel_rfl
theorem partG18 : (parts Tryz.pinned.checked.prog 5 Tryz.f5 Rows.deferredNilSpec Rows.deferredNilRow).1[18]? = some true := by kernel_rfl
theorem partG19 : (parts Tryz.pinned.checked.prog 5 Tryz.f5 Rows.deferredNilSpec Rows.deferredNilRow).1[19]? = some true := by kernel_rfl
theorem partG20 : (parts Tryz.pinned.checked.prog 5 Tryz.f5 Rows.deferredNilSpec Rows.deferredNilRow).1[20]? = some true := by kernel_rfl
theorem partG21 : (parts Tryz.pinned.checked.prog 5 Tryz.f5 Rows.deferredNilSpec Rows.deferredNilRow).1[21]? = some true := by kernel_rfl
theorem partG22 : (parts Tryz.pinned.checked.prog 5 Tryz.f5 Rows.deferredNilSpec Rows.deferredNilRow).1[22]? = some true := by kernel_rfl
theorem partG23 : (parts Tryz.pinned.checked.prog 5 Tryz.f5 Rows.deferredNilSpec Rows.deferredNilRow).1[23]? = some true := by kernel_rfl
theorem partG24 : (parts Tryz.pinned.checked.prog 5 Tryz.f5 Rows.deferredNilSpec Rows.deferredNilRow).1[24]? = some true := by kernel_rfl
theorem partG25 : (parts Tryz.pinned.checked.prog 5 Tryz.f5 Rows.deferredNilSpec Rows.deferredNilRow).1[25]? = some true := by kernel_rfl
theorem partG26 : (parts Tryz.pinned.checked.prog 5 Tryz.f5 Rows.deferredNilSpec Rows.deferredNilRow).1[26]? = some true := by kernel_rfl
theorem partG27 : (parts Tryz.pinned.checked.prog 5 Tryz.f5 Rows.deferredNilSpec Rows.deferredNilRow).1[27]? = some true := by kernel_rfl
theorem partG28 : (parts Tryz.pinned.checked.prog 5 Tryz.f5 Rows.deferredNilSpec Rows.deferredNilRow).1[28]? = some true := by kernel_rfl
theorem partG29 : (parts Tryz.pinned.checked.prog 5 Tryz.f5 Rows.deferredNilSpec Rows.deferredNilRow).1[29]? = some true := by kernel_rfl
theorem partG30 : (parts Tryz.pinned.checked.prog 5 Tryz.f5 Rows.deferredNilSpec Rows.deferredNilRow).1[30]? = some true := by kernel_rfl
theorem partG31 : (parts Tryz.pinned.checked.prog 5 Tryz.f5 Rows.deferredNilSpec Rows.deferredNilRow).1[31]? = some true := by kernel_rfl
theorem partsG : (parts Tryz.pinned.checked.prog 5 Tryz.f5 Rows.deferredNilSpec Rows.deferredNilRow).1.length = 32 := by kernel_rfl
theorem closedG : joinedFacts Tryz.pinned.checked.prog 5 Tryz.f5 Rows.deferredNilSpec Rows.deferredNilRow = true := closed_of partsG partG0 partG1 partG2 partG3 partG4 partG5 partG6 partG7 partG8 partG9 partG10 partG11 partG12 partG13 partG14 partG15 partG16 partG17 partG18 partG19 partG20 partG21 partG22 partG23 partG24 partG25 partG26 partG27 partG28 partG29 partG30 partG31
theorem deferredNil : Rows.DeferredNilSaid :=
  OpenClaim.holds_of_wide 5 Tryz.f5 rfl rfl rfl rfl rfl rfl rfl ⟨rfl, rfl, rfl, rfl, rfl⟩ rfl rfl rfl rfl rfl (by as_aux_lemma => kernel_rfl) Tryz.func5 closedG
    (of_decide_eq_true (by as_aux_lemma => kernel_rfl)) (by as_aux_lemma => unfold Func.isWrapper; first | (rw [if_pos (by decide +kernel)]; kernel_rfl) | (rw [if_neg (by decide +kernel)]; exact ⟨rfl, rfl⟩))
    (fun os started H enc _ => liftedG os started H enc)
#print axioms deferredNil
end Go.Proofs.YtfkngoiiedmofaaGreat
end
