/- SleepIdleSteps: the row: whatever the input, the law returns true and the input reads as it did. -/
import Derived.Test.YtbpaheflphafiaaS11
import Derived.Test.YtbpaheflphafiaaAbs29
import Derived.Test.YtbpaheflphafiaaRows
import Derived.WalkKit
import Derived.ProofKit
import Derived.OpenShut
import Derived.ShutString
import Derived.ChangeOld
import Derived.Below
set_option linter.unusedSimpArgs false
set_option linter.unusedVariables false
set_option linter.unnecessarySimpa false
set_option linter.unusedVariables false
set_option linter.unusedSimpArgs false
set_option maxRecDepth 100000
set_option maxHeartbeats 1000000
namespace Go.Abs
open Go.Proofs Api
def Vec.ok (x : Vec) : Prop := fits x.X ∧ fits x.Y
theorem opens_Vec (W : World) : Opens Try.prog W 24 Vec.enc Vec.ok :=
  opens_struct' 2 (fun a : Int × Int × Unit => (⟨a.1, a.2.1⟩ : Vec)) Try.underlying24 (by kernel_rfl)
    (opensF_step 3 (opens_i64 Try.underlying3) rfl (by kernel_rfl : Try.prog.cellsOf 3 = 1) rfl rfl (opensF_step 3 (opens_i64 Try.underlying3) rfl (by kernel_rfl : Try.prog.cellsOf 3 = 1) rfl rfl opensF_nil)) (fun _ => rfl) (fun a h => ⟨h.1, h.2.1⟩)
def Transform.ok (x : Transform) : Prop := Vec.ok x.Position ∧ fits x.Angle
theorem opens_Transform (W : World) : Opens Try.prog W 26 Transform.enc Transform.ok :=
  opens_struct' 3 (fun a : Vec × Int × Unit => (⟨a.1, a.2.1⟩ : Transform)) Try.underlying26 (by kernel_rfl)
    (opensF_step 24 (opens_Vec W) rfl (by kernel_rfl : Try.prog.cellsOf 24 = 2) rfl rfl (opensF_step 3 (opens_i64 Try.underlying3) rfl (by kernel_rfl : Try.prog.cellsOf 3 = 1) rfl rfl opensF_nil)) (fun _ => rfl) (fun a h => ⟨h.1, h.2.1⟩)
def Shape.ok (x : Shape) : Prop := fits x.Kind ∧ fits x.Radius ∧ ((∀ a ∈ x.Vertices, Vec.ok a) ∧ x.Vertices.length ≤ maxLen)
theorem opens_Shape (W : World) : Opens Try.prog W 64 Shape.enc Shape.ok :=
  opens_struct' 3 (fun a : Int × Int × List Vec × Unit => (⟨a.1, a.2.1, a.2.2.1⟩ : Shape)) Try.underlying64 (by kernel_rfl)
    (opensF_step 61 (opens_i64 Try.underlying61) rfl (by kernel_rfl : Try.prog.cellsOf 61 = 1) rfl rfl (opensF_step 3 (opens_i64 Try.underlying3) rfl (by kernel_rfl : Try.prog.cellsOf 3 = 1) rfl rfl (opensF_step 62 (opens_slice (d := (default : Vec)) Try.underlying62 (by kernel_rfl : Try.prog.cellsOf 24 = 2) (by decide) (opens_Vec W)) rfl (by kernel_rfl : Try.prog.cellsOf 62 = 1) rfl rfl opensF_nil))) (fun _ => rfl) (fun a h => ⟨h.1, h.2.1, h.2.2.1⟩)
def Fixture.ok (x : Fixture) : Prop := Shape.ok x.Shape ∧ fits x.Density ∧ fits x.Friction ∧ fits x.Restitution ∧ True ∧ fits x.Category ∧ fits x.Mask ∧ fits x.Group
theorem opens_Fixture (W : World) : Opens Try.prog W 66 Fixture.enc Fixture.ok :=
  opens_struct' 10 (fun a : Shape × Int × Int × Int × Bool × Int × Int × Int × Unit => (⟨a.1, a.2.1, a.2.2.1, a.2.2.2.1, a.2.2.2.2.1, a.2.2.2.2.2.1, a.2.2.2.2.2.2.1, a.2.2.2.2.2.2.2.1⟩ : Fixture)) Try.underlying66 (by kernel_rfl)
    (opensF_step 64 (opens_Shape W) rfl (by kernel_rfl : Try.prog.cellsOf 64 = 3) rfl rfl (opensF_step 3 (opens_i64 Try.underlying3) rfl (by kernel_rfl : Try.prog.cellsOf 3 = 1) rfl rfl (opensF_step 3 (opens_i64 Try.underlying3) rfl (by kernel_rfl : Try.prog.cellsOf 3 = 1) rfl rfl (opensF_step 3 (opens_i64 Try.underlying3) rfl (by kernel_rfl : Try.prog.cellsOf 3 = 1) rfl rfl (opensF_step 4 (opens_bool Try.underlying4) rfl (by kernel_rfl : Try.prog.cellsOf 4 = 1) rfl rfl (opensF_step 3 (opens_i64 Try.underlying3) rfl (by kernel_rfl : Try.prog.cellsOf 3 = 1) rfl rfl (opensF_step 3 (opens_i64 Try.underlying3) rfl (by kernel_rfl : Try.prog.cellsOf 3 = 1) rfl rfl (opensF_step 3 (opens_i64 Try.underlying3) rfl (by kernel_rfl : Try.prog.cellsOf 3 = 1) rfl rfl opensF_nil)))))))) (fun _ => rfl) (fun a h => ⟨h.1, h.2.1, h.2.2.1, h.2.2.2.1, h.2.2.2.2.1, h.2.2.2.2.2.1, h.2.2.2.2.2.2.1, h.2.2.2.2.2.2.2.1⟩)
def Body.ok (x : Body) : Prop := fits x.ID ∧ fits x.Kind ∧ Transform.ok x.Transform ∧ Vec.ok x.Velocity ∧ fits x.AngularVelocity ∧ Vec.ok x.Force ∧ fits x.Torque ∧ fits x.LinearDamping ∧ fits x.AngularDamping ∧ fits x.GravityScale ∧ True ∧ True ∧ True ∧ True ∧ fits x.IdleSteps ∧ ((∀ a ∈ x.Fixtures, Fixture.ok a) ∧ x.Fixtures.length ≤ maxLen)
theorem opens_Body (W : World) : Opens Try.prog W 29 Body.enc Body.ok :=
  opens_struct' 20 (fun a : Int × Int × Transform × Vec × Int × Vec × Int × Int × Int × Int × Bool × Bool × Bool × Bool × Int × List Fixture × Unit => (⟨a.1, a.2.1, a.2.2.1, a.2.2.2.1, a.2.2.2.2.1, a.2.2.2.2.2.1, a.2.2.2.2.2.2.1, a.2.2.2.2.2.2.2.1, a.2.2.2.2.2.2.2.2.1, a.2.2.2.2.2.2.2.2.2.1, a.2.2.2.2.2.2.2.2.2.2.1, a.2.2.2.2.2.2.2.2.2.2.2.1, a.2.2.2.2.2.2.2.2.2.2.2.2.1, a.2.2.2.2.2.2.2.2.2.2.2.2.2.1, a.2.2.2.2.2.2.2.2.2.2.2.2.2.2.1, a.2.2.2.2.2.2.2.2.2.2.2.2.2.2.2.1⟩ : Body)) Try.underlying29 (by kernel_rfl)
    (opensF_step 3 (opens_i64 Try.underlying3) rfl (by kernel_rfl : Try.prog.cellsOf 3 = 1) rfl rfl (opensF_step 22 (opens_i64 Try.underlying22) rfl (by kernel_rfl : Try.prog.cellsOf 22 = 1) rfl rfl (opensF_step 26 (opens_Transform W) rfl (by kernel_rfl : Try.prog.cellsOf 26 = 3) rfl rfl (opensF_step 24 (opens_Vec W) rfl (by kernel_rfl : Try.prog.cellsOf 24 = 2) rfl rfl (opensF_step 3 (opens_i64 Try.underlying3) rfl (by kernel_rfl : Try.prog.cellsOf 3 = 1) rfl rfl (opensF_step 24 (opens_Vec W) rfl (by kernel_rfl : Try.prog.cellsOf 24 = 2) rfl rfl (opensF_step 3 (opens_i64 Try.underlying3) rfl (by kernel_rfl : Try.prog.cellsOf 3 = 1) rfl rfl (opensF_step 3 (opens_i64 Try.underlying3) rfl (by kernel_rfl : Try.prog.cellsOf 3 = 1) rfl rfl (opensF_step 3 (opens_i64 Try.underlying3) rfl (by kernel_rfl : Try.prog.cellsOf 3 = 1) rfl rfl (opensF_step 3 (opens_i64 Try.underlying3) rfl (by kernel_rfl : Try.prog.cellsOf 3 = 1) rfl rfl (opensF_step 4 (opens_bool Try.underlying4) rfl (by kernel_rfl : Try.prog.cellsOf 4 = 1) rfl rfl (opensF_step 4 (opens_bool Try.underlying4) rfl (by kernel_rfl : Try.prog.cellsOf 4 = 1) rfl rfl (opensF_step 4 (opens_bool Try.underlying4) rfl (by kernel_rfl : Try.prog.cellsOf 4 = 1) rfl rfl (opensF_step 4 (opens_bool Try.underlying4) rfl (by kernel_rfl : Try.prog.cellsOf 4 = 1) rfl rfl (opensF_step 3 (opens_i64 Try.underlying3) rfl (by kernel_rfl : Try.prog.cellsOf 3 = 1) rfl rfl (opensF_step 27 (opens_slice (d := (default : Fixture)) Try.underlying27 (by kernel_rfl : Try.prog.cellsOf 66 = 10) (by decide) (opens_Fixture W)) rfl (by kernel_rfl : Try.prog.cellsOf 27 = 1) rfl rfl opensF_nil)))))))))))))))) (fun _ => rfl) (fun a h => ⟨h.1, h.2.1, h.2.2.1, h.2.2.2.1, h.2.2.2.2.1, h.2.2.2.2.2.1, h.2.2.2.2.2.2.1, h.2.2.2.2.2.2.2.1, h.2.2.2.2.2.2.2.2.1, h.2.2.2.2.2.2.2.2.2.1, h.2.2.2.2.2.2.2.2.2.2.1, h.2.2.2.2.2.2.2.2.2.2.2.1, h.2.2.2.2.2.2.2.2.2.2.2.2.1, h.2.2.2.2.2.2.2.2.2.2.2.2.2.1, h.2.2.2.2.2.2.2.2.2.2.2.2.2.2.1, h.2.2.2.2.2.2.2.2.2.2.2.2.2.2.2.1⟩)
end Go.Abs
namespace Go.Proofs.Ytbpaheflphafiaa
open Go.ChangeMaps (open_string shut_string)
open Go.ChangeShapes Go.WideShapes Go.ChangeAt Go.RowKit Go.Abs
theorem laidOutG : laidOutB Try.prog = true := by kernel_rfl
theorem ownG : ownKnob Try.prog.godebug = none := by kernel_rfl
theorem liftedG (os : Os) (started : os.Started) (H : Type) (enc : TypeId × Value → H) :
    ReturnsInHanded {} Try.checked os 3 .any (Rows.sleepIdleStepsSpec.pre6 enc Try.prog Try.f3 Rows.sleepIdleStepsRow.domain false) (Rows.sleepIdleStepsSpec.post enc Try.prog Try.f3 false true false false) := by
  refine returnsInHanded_of_change (C := Try.checked) ownG started (by kernel_rfl) Try.func3
    (ChangeSpec.witness6 (enc := enc) (C := Try.checked) false ⟨#[], #[.agg #[.int .i64 0, .int .i64 0, .int .i64 0, .int .i64 0, .int .i64 0, .int .i64 0, .int .i64 0, .int .i64 0, .int .i64 0, .int .i64 0, .int .i64 0, .int .i64 0, .int .i64 0, .int .i64 0, .bool false, .bool false, .bool false, .bool false, .int .i64 0, .slice none 0 0]], []⟩ 16 (by kernel_rfl) (by kernel_rfl) (by kernel_rfl) (by kernel_rfl)) ?_
  intro W base args ds gs before hval0 hW hcnd _
  have hval : ∀ (j : Nat) t v, Try.f3.params[j]? = some t → args[j]? = some v → Value.okWide Try.prog W .any base t v := hval0
  have hW' := hW
  obtain ⟨p, q, hA0, hV, rfl, hfz, hnd⟩ := hW
  have hA : DataW.TrodAll enc Try.prog W 0 (fun _ => true) true Try.f3.params.toList args.toList ds p := hA0
  rw [Try.params3] at hA hval
  obtain ⟨v0, vs0, d0, ds0, p0, q0, hargs, rfl, rfl, h0, r0⟩ := trodAll_cons hA
  obtain ⟨rfl, rfl, rfl⟩ := trodAll_nil r0
  obtain rfl : args = #[v0] := by cases args; simp_all
  obtain ⟨rfl, rfl⟩ := trodVars_none hV
  obtain ⟨c0, rfl, _⟩ := okWide_struct Try.underlying29 (hval 0 29 v0 rfl rfl)
  have k0 := h0
  have lt0 : ∀ x ∈ p0, x.block < W.heap.size := by obtain ⟨m, hm⟩ := k0; exact DataW.trod_lt m _ _ _ hm
  obtain ⟨fuel0, hf0⟩ := h0
  obtain ⟨x0, o0, hr0⟩ := (opens_Body W) _ _ _ _ _ _ _ _ hf0
  clear hA0 hval0
  refine (calls_true (s_law37_SleepIdleSteps x0) (vals := [.agg c0]) ?_).mono fun e W' ⟨he, bel⟩ => ?_
  · refine ⟨rfl, fun j av hj => ?_⟩
    match j, hj with
    | 0, hj => simp at hj; subst hj; exact relC_agg hr0
    | _ + 1, hj => simp at hj
  · subst he
    exact ⟨_, rfl, _, _, _, [], _, [], hW', trodAll_mk1 (shut_bool Try.underlying4 _), (trodAll_cons_mk (Below.trod laidOutG (by kernel_rfl) (of_decide_eq_true (by kernel_rfl)) k0 bel lt0) trodAll_mk0), rfl, bel.frame _, fun h => by cases h⟩

theorem sleepIdleSteps : Rows.SleepIdleStepsSaid :=
  OpenClaim.holds_of_wide 3 Try.f3 rfl rfl rfl rfl rfl rfl rfl ⟨rfl, rfl, rfl, rfl, rfl⟩ rfl rfl rfl rfl rfl (by kernel_rfl) Try.func3 (by kernel_rfl)
    (of_decide_eq_true (by kernel_rfl)) (by unfold Func.isWrapper; first | (rw [if_pos (by decide +kernel)]; kernel_rfl) | (rw [if_neg (by decide +kernel)]; exact ⟨rfl, rfl⟩))
    (fun os started H enc _ => liftedG os started H enc)
#print axioms sleepIdleSteps
end Go.Proofs.Ytbpaheflphafiaa
