/- A part of the walk: contracts of functions that the statement reaches. -/
import Derived.Test.YtpbnhfancncoiaaAbsD
import Derived.Test.YtpbnhfancncoiaaE5
import Derived.Test.YtpbnhfancncoiaaSUB
set_option linter.unusedSimpArgs false
set_option linter.unusedVariables false
set_option linter.unnecessarySimpa false
set_option maxRecDepth 100000
set_option maxHeartbeats 2000000
set_option linter.unusedSimpArgs false
set_option linter.unusedVariables false
namespace Go.Abs
open Go.Proofs
open Api
def keyB (k : PairKey) : List Int := intsB [k.BodyA, k.FixtureA, k.BodyB, k.FixtureB]
theorem keyB_len (k : PairKey) : (keyB k).length ≤ 40 := intsB_len _
theorem s_enc_key (b : List Int) (k : PairKey) (hb : b.length ≤ 300000000000) : CallsA Try.prog F_snapshot_encoder_key [.ptr 1 0 0 1, .agg k.enc] (eO b) (.tup []) (eO (b ++ keyB k)) := by
  refine callsIO_of (rs := []) hm Try.func47 (by kernel_rfl) (by kernel_rfl) is_snapshot_encoder_key (by kernel_rfl : tmpsOf Try.f47.results.toList = some []) (by decide) (by kernel_rfl) ?_
  simp only [c_snapshot_encoder_key, go_sem]
  refine CallGi_obj [true, false] [] (s_enc_ints b [k.BodyA, k.FixtureA, k.BodyB, k.FixtureB] (by simp only [List.length_append, List.length_cons, List.length_nil]; omega)) (by simp [go_sem]) (by simp [go_sem]) (by simp [go_sem]) (by simp [go_sem]) ?_
  simp only [argsOC, go_sem]
  refine ⟨avle_lit2 (l := [k.BodyA, k.FixtureA, k.BodyB, k.FixtureB]) (fun _ _ => rfl) rfl rfl rfl, ?_⟩
  refine retW_of [] [] [] rfl rfl (by simp [go_sem]) (by simp [assoc, go_sem]) (by simp [go_sem]) ?_
  simp only [keyB, go_sem]
def fixB (x : Fixture) : List Int := (intsB [x.Shape.Kind, x.Shape.Radius, (x.Shape.Vertices.length : Int)]) ++ (vecsB x.Shape.Vertices) ++ (intsB [x.Density, x.Friction, x.Restitution]) ++ (boolsB [x.Sensor]) ++ (intsB [x.Category, x.Mask, x.Group])
theorem fixB_len (x : Fixture) : (fixB x).length ≤ 100 + 20 * x.Shape.Vertices.length := by
  have q0 : (intsB [x.Shape.Kind, x.Shape.Radius, (x.Shape.Vertices.length : Int)]).length ≤ 30 := intsB_len _
  have q1 := vecsB_len x.Shape.Vertices
  have q2 : (intsB [x.Density, x.Friction, x.Restitution]).length ≤ 30 := intsB_len _
  have q3 : (boolsB [x.Sensor]).length ≤ 1 := boolsB_len _
  have q4 : (intsB [x.Category, x.Mask, x.Group]).length ≤ 30 := intsB_len _
  unfold fixB; simp only [List.length_append]; omega
theorem s_enc_fixture (b : List Int) (x : Fixture) (hb : b.length ≤ 200000000000) (hx : x.Shape.Vertices.length ≤ 1048576) : CallsA Try.prog F_snapshot_encoder_fixture [.ptr 1 0 0 1, .agg x.enc] (eO b) (.tup []) (eO (b ++ fixB x)) := by
  have q0 : (intsB [x.Shape.Kind, x.Shape.Radius, (x.Shape.Vertices.length : Int)]).length ≤ 30 := intsB_len _
  have q1 := vecsB_len x.Shape.Vertices
  have q2 : (intsB [x.Density, x.Friction, x.Restitution]).length ≤ 30 := intsB_len _
  have q3 : (boolsB [x.Sensor]).length ≤ 1 := boolsB_len _
  have q4 : (intsB [x.Category, x.Mask, x.Group]).length ≤ 30 := intsB_len _
  refine callsIO_of (rs := []) hm Try.func44 (by kernel_rfl) (by kernel_rfl) is_snapshot_encoder_fixture (by kernel_rfl : tmpsOf Try.f44.results.toList = some []) (by decide) (by kernel_rfl) ?_
  simp only [c_snapshot_encoder_fixture, go_sem]
  refine CallGi_obj [true, false] [] (s_enc_ints b [x.Shape.Kind, x.Shape.Radius, (x.Shape.Vertices.length : Int)] (by simp only [List.length_append, List.length_cons, List.length_nil]; omega)) (by simp [go_sem]) (by simp [go_sem]) (by simp [go_sem]) (by simp [go_sem]) ?_
  simp only [argsOC, go_sem]
  refine ⟨avle_lit2 (l := [x.Shape.Kind, x.Shape.Radius, (x.Shape.Vertices.length : Int)]) (fun _ _ => rfl) rfl rfl rfl, ?_⟩
  refine CallGi_obj [true, true] [] (s_enc_vecs (b ++ intsB [x.Shape.Kind, x.Shape.Radius, (x.Shape.Vertices.length : Int)]) x.Shape.Vertices (by simp only [List.length_append, List.length_cons, List.length_nil]; omega)) (by simp [go_sem]) (by simp [go_sem]) (by simp [go_sem]) (by simp [go_sem]) ?_
  simp only [argsOC, go_sem]
  refine CallGi_obj [true, false] [] (s_enc_ints ((b ++ intsB [x.Shape.Kind, x.Shape.Radius, (x.Shape.Vertices.length : Int)]) ++ vecsB x.Shape.Vertices) [x.Density, x.Friction, x.Restitution] (by simp only [List.length_append, List.length_cons, List.length_nil]; omega)) (by simp [go_sem]) (by simp [go_sem]) (by simp [go_sem]) (by simp [go_sem]) ?_
  simp only [argsOC, go_sem]
  refine ⟨avle_lit2 (l := [x.Density, x.Friction, x.Restitution]) (fun _ _ => rfl) rfl rfl rfl, ?_⟩
  refine CallGi_obj [true, false] [] (s_enc_bools (((b ++ intsB [x.Shape.Kind, x.Shape.Radius, (x.Shape.Vertices.length : Int)]) ++ vecsB x.Shape.Vertices) ++ intsB [x.Density, x.Friction, x.Restitution]) [x.Sensor] (by simp only [List.length_append, List.length_cons, List.length_nil]; omega)) (by simp [go_sem]) (by simp [go_sem]) (by simp [go_sem]) (by simp [go_sem]) ?_
  simp only [argsOC, go_sem]
  refine ⟨avle_lit2 (l := [x.Sensor]) (fun _ _ => rfl) rfl rfl rfl, ?_⟩
  refine CallGi_obj [true, false] [] (s_enc_ints ((((b ++ intsB [x.Shape.Kind, x.Shape.Radius, (x.Shape.Vertices.length : Int)]) ++ vecsB x.Shape.Vertices) ++ intsB [x.Density, x.Friction, x.Restitution]) ++ boolsB [x.Sensor]) [x.Category, x.Mask, x.Group] (by simp only [List.length_append, List.length_cons, List.length_nil]; omega)) (by simp [go_sem]) (by simp [go_sem]) (by simp [go_sem]) (by simp [go_sem]) ?_
  simp only [argsOC, go_sem]
  refine ⟨avle_lit2 (l := [x.Category, x.Mask, x.Group]) (fun _ _ => rfl) rfl rfl rfl, ?_⟩
  refine retW_of [] [] [] rfl rfl (by simp [go_sem]) (by simp [assoc, go_sem]) (by simp [go_sem]) ?_
  simp only [fixB, go_sem]
theorem fm_lenP {α : Type} {f : α → List Int} {c : Nat} : ∀ {l : List α}, (∀ a ∈ l, (f a).length ≤ c) → (l.flatMap f).length ≤ c * l.length
  | [], _ => by simp
  | a :: l, h => by
    have := fm_lenP (f := f) (c := c) (l := l) fun x hx => h x (List.mem_cons_of_mem _ hx)
    have := h a (List.mem_cons_self ..)
    rw [List.flatMap_cons, List.length_append, List.length_cons, Nat.mul_add]; omega
def Bfew (x : Body) : Prop := x.Fixtures.length ≤ 64 ∧ ∀ f ∈ x.Fixtures, f.Shape.Vertices.length ≤ 64
theorem fix_few {x : Body} (h : Bfew x) : ∀ f ∈ x.Fixtures, (fixB f).length ≤ 1400 := fun f hf => by
  have := fixB_len f; have := h.2 f hf; omega
def bodH (x : Body) : List Int := (intsB [x.ID, x.Kind]) ++ (vecsB [x.Transform.Position]) ++ (intsB [x.Transform.Angle]) ++ (vecsB [x.Velocity]) ++ (intsB [x.AngularVelocity]) ++ (vecsB [x.Force]) ++ (intsB [x.Torque, x.LinearDamping, x.AngularDamping, x.GravityScale]) ++ (boolsB [x.Bullet, x.FixedRotation, x.NoSleep, x.Asleep]) ++ (intsB [x.IdleSteps, (x.Fixtures.length : Int)])
def bodB (x : Body) : List Int := bodH x ++ x.Fixtures.flatMap fixB
theorem bodH_len (x : Body) : (bodH x).length ≤ 300 := by
  have q0 : (intsB [x.ID, x.Kind]).length ≤ 20 := intsB_len _
  have q1 : (vecsB [x.Transform.Position]).length ≤ 20 := vecsB_len _
  have q2 : (intsB [x.Transform.Angle]).length ≤ 10 := intsB_len _
  have q3 : (vecsB [x.Velocity]).length ≤ 20 := vecsB_len _
  have q4 : (intsB [x.AngularVelocity]).length ≤ 10 := intsB_len _
  have q5 : (vecsB [x.Force]).length ≤ 20 := vecsB_len _
  have q6 : (intsB [x.Torque, x.LinearDamping, x.AngularDamping, x.GravityScale]).length ≤ 40 := intsB_len _
  have q7 : (boolsB [x.Bullet, x.FixedRotation, x.NoSleep, x.Asleep]).length ≤ 4 := boolsB_len _
  have q8 : (intsB [x.IdleSteps, (x.Fixtures.length : Int)]).length ≤ 20 := intsB_len _
  unfold bodH; simp only [List.length_append]; omega
theorem s_enc_body (b : List Int) (x : Body) (hb : b.length ≤ 100000000000) (hx : Bfew x) : CallsA Try.prog F_snapshot_encoder_body [.ptr 1 0 0 1, .agg x.enc] (eO b) (.tup []) (eO (b ++ bodB x)) := by
  have q0 : (intsB [x.ID, x.Kind]).length ≤ 20 := intsB_len _
  have q1 : (vecsB [x.Transform.Position]).length ≤ 20 := vecsB_len _
  have q2 : (intsB [x.Transform.Angle]).length ≤ 10 := intsB_len _
  have q3 : (vecsB [x.Velocity]).length ≤ 20 := vecsB_len _
  have q4 : (intsB [x.AngularVelocity]).length ≤ 10 := intsB_len _
  have q5 : (vecsB [x.Force]).length ≤ 20 := vecsB_len _
  have q6 : (intsB [x.Torque, x.LinearDamping, x.AngularDamping, x.GravityScale]).length ≤ 40 := intsB_len _
  have q7 : (boolsB [x.Bullet, x.FixedRotation, x.NoSleep, x.Asleep]).length ≤ 4 := boolsB_len _
  have q8 : (intsB [x.IdleSteps, (x.Fixtures.length : Int)]).length ≤ 20 := intsB_len _
  have hh := bodH_len x
  have hx1 := hx.1
  refine callsIO_of (rs := []) hm Try.func23 (by kernel_rfl) (by kernel_rfl) is_snapshot_encoder_body (by kernel_rfl : tmpsOf Try.f23.results.toList = some []) (by decide) (by kernel_rfl) ?_
  simp only [c_snapshot_encoder_body, go_sem]
  refine CallGi_obj [true, false] [] (s_enc_ints b [x.ID, x.Kind] (by simp only [List.length_append, List.length_cons, List.length_nil]; omega)) (by simp [go_sem]) (by simp [go_sem]) (by simp [go_sem]) (by simp [go_sem]) ?_
  simp only [argsOC, go_sem]
  refine ⟨avle_lit2 (l := [x.ID, x.Kind]) (fun _ _ => rfl) rfl rfl rfl, ?_⟩
  refine CallGi_obj [true, false] [] (s_enc_vecs (b ++ intsB [x.ID, x.Kind]) [x.Transform.Position] (by simp only [List.length_append, List.length_cons, List.length_nil]; omega)) (by simp [go_sem]) (by simp [go_sem]) (by simp [go_sem]) (by simp [go_sem]) ?_
  simp only [argsOC, go_sem]
  refine ⟨avle_lit2 (l := [x.Transform.Position]) (fun _ _ => rfl) rfl rfl rfl, ?_⟩
  refine CallGi_obj [true, false] [] (s_enc_ints ((b ++ intsB [x.ID, x.Kind]) ++ vecsB [x.Transform.Position]) [x.Transform.Angle] (by simp only [List.length_append, List.length_cons, List.length_nil]; omega)) (by simp [go_sem]) (by simp [go_sem]) (by simp [go_sem]) (by simp [go_sem]) ?_
  simp only [argsOC, go_sem]
  refine ⟨avle_lit2 (l := [x.Transform.Angle]) (fun _ _ => rfl) rfl rfl rfl, ?_⟩
  refine CallGi_obj [true, false] [] (s_enc_vecs (((b ++ intsB [x.ID, x.Kind]) ++ vecsB [x.Transform.Position]) ++ intsB [x.Transform.Angle]) [x.Velocity] (by simp only [List.length_append, List.length_cons, List.length_nil]; omega)) (by simp [go_sem]) (by simp [go_sem]) (by simp [go_sem]) (by simp [go_sem]) ?_
  simp only [argsOC, go_sem]
  refine ⟨avle_lit2 (l := [x.Velocity]) (fun _ _ => rfl) rfl rfl rfl, ?_⟩
  refine CallGi_obj [true, false] [] (s_enc_ints ((((b ++ intsB [x.ID, x.Kind]) ++ vecsB [x.Transform.Position]) ++ intsB [x.Transform.Angle]) ++ vecsB [x.Velocity]) [x.AngularVelocity] (by simp only [List.length_append, List.length_cons, List.length_nil]; omega)) (by simp [go_sem]) (by simp [go_sem]) (by simp [go_sem]) (by simp [go_sem]) ?_
  simp only [argsOC, go_sem]
  refine ⟨avle_lit2 (l := [x.AngularVelocity]) (fun _ _ => rfl) rfl rfl rfl, ?_⟩
  refine CallGi_obj [true, false] [] (s_enc_vecs (((((b ++ intsB [x.ID, x.Kind]) ++ vecsB [x.Transform.Position]) ++ intsB [x.Transform.Angle]) ++ vecsB [x.Velocity]) ++ intsB [x.AngularVelocity]) [x.Force] (by simp only [List.length_append, List.length_cons, List.length_nil]; omega)) (by simp [go_sem]) (by simp [go_sem]) (by simp [go_sem]) (by simp [go_sem]) ?_
  simp only [argsOC, go_sem]
  refine ⟨avle_lit2 (l := [x.Force]) (fun _ _ => rfl) rfl rfl rfl, ?_⟩
  refine CallGi_obj [true, false] [] (s_enc_ints ((((((b ++ intsB [x.ID, x.Kind]) ++ vecsB [x.Transform.Position]) ++ intsB [x.Transform.Angle]) ++ vecsB [x.Velocity]) ++ intsB [x.AngularVelocity]) ++ vecsB [x.Force]) [x.Torque, x.LinearDamping, x.AngularDamping, x.GravityScale] (by simp only [List.length_append, List.length_cons, List.length_nil]; omega)) (by simp [go_sem]) (by simp [go_sem]) (by simp [go_sem]) (by simp [go_sem]) ?_
  simp only [argsOC, go_sem]
  refine ⟨avle_lit2 (l := [x.Torque, x.LinearDamping, x.AngularDamping, x.GravityScale]) (fun _ _ => rfl) rfl rfl rfl, ?_⟩
  refine CallGi_obj [true, false] [] (s_enc_bools (((((((b ++ intsB [x.ID, x.Kind]) ++ vecsB [x.Transform.Position]) ++ intsB [x.Transform.Angle]) ++ vecsB [x.Velocity]) ++ intsB [x.AngularVelocity]) ++ vecsB [x.Force]) ++ intsB [x.Torque, x.LinearDamping, x.AngularDamping, x.GravityScale]) [x.Bullet, x.FixedRotation, x.NoSleep, x.Asleep] (by simp only [List.length_append, List.length_cons, List.length_nil]; omega)) (by simp [go_sem]) (by simp [go_sem]) (by simp [go_sem]) (by simp [go_sem]) ?_
  simp only [argsOC, go_sem]
  refine ⟨avle_lit2 (l := [x.Bullet, x.FixedRotation, x.NoSleep, x.Asleep]) (fun _ _ => rfl) rfl rfl rfl, ?_⟩
  refine CallGi_obj [true, false] [] (s_enc_ints ((((((((b ++ intsB [x.ID, x.Kind]) ++ vecsB [x.Transform.Position]) ++ intsB [x.Transform.Angle]) ++ vecsB [x.Velocity]) ++ intsB [x.AngularVelocity]) ++ vecsB [x.Force]) ++ intsB [x.Torque, x.LinearDamping, x.AngularDamping, x.GravityScale]) ++ boolsB [x.Bullet, x.FixedRotation, x.NoSleep, x.Asleep]) [x.IdleSteps, (x.Fixtures.length : Int)] (by simp only [List.length_append, List.length_cons, List.length_nil]; omega)) (by simp [go_sem]) (by simp [go_sem]) (by simp [go_sem]) (by simp [go_sem]) ?_
  simp only [argsOC, go_sem]
  refine ⟨avle_lit2 (l := [x.IdleSteps, (x.Fixtures.length : Int)]) (fun _ _ => rfl) rfl rfl rfl, ?_⟩
  unfold bodB
  refine Wpi_loop hm (ι := {i : Nat // i ≤ x.Fixtures.length}) (fun i => [(0, .share, .ptr 1 0 0 1), (71, .share, encD 10 Fixture.enc default x.Fixtures), (72, .share, .sc (.int .i64 x.Fixtures.length)), (73, .share, .sc (.int .i64 i.1))])
    (fun i => eO (b ++ (bodH x ++ (x.Fixtures.take i.1).flatMap fixB))) (fun i => x.Fixtures.length - i.1) ⟨0, by omega⟩ ?_ ?_
  · refine weakE_ [] [] ?_
    simp only [List.take_zero, List.flatMap_nil, List.append_nil, bodH, go_sem]
    try trivial
  · rintro ⟨i, hi⟩
    simp only [c_snapshot_encoder_bodyb0, go_sem]
    by_cases hlt : i < x.Fixtures.length
    · rw [if_pos (by omega)]
      have hl := fm_lenP (f := fixB) (c := 1400) (l := x.Fixtures.take i) (fun f hf => fix_few hx f (List.mem_of_mem_take hf))
      rw [List.length_take] at hl
      have hs := fm_snoc (f := fixB) (l := x.Fixtures) default hlt
      refine ⟨ok_, ?_⟩
      refine CallGi_subw (s_enc_fixture (b ++ (bodH x ++ (x.Fixtures.take i).flatMap fixB)) (x.Fixtures.getD i default) (by simp only [List.length_append]; omega) (by have := hx.2 _ (mem_getD default hlt); omega)) (okO_eO _) rfl (by simp [go_sem]) (by simp [go_sem, AV.ids]) rfl ?_
      simp only [go_sem]
      refine loop_next ⟨i + 1, by omega⟩ (by show x.Fixtures.length - (i + 1) < x.Fixtures.length - i; omega) (weakE_ [] [] ?_)
      simp only [hs, go_sem]
      exact (by rw [IntKind.wrap_i64]; omega)
    · rw [if_neg (by omega)]
      obtain rfl : i = x.Fixtures.length := by omega
      refine retW_of [] [] [] rfl rfl (by simp [go_sem]) (by simp [assoc, go_sem]) (by simp [go_sem]) ?_
      simp only [List.take_length, go_sem]
def jntB (x : Joint) : List Int := (intsB [x.ID, x.Kind, x.BodyA, x.BodyB]) ++ (vecsB [x.AnchorA, x.AnchorB, x.Axis]) ++ (intsB [x.ReferenceAngle]) ++ (boolsB [x.EnableLimit]) ++ (intsB [x.Lower, x.Upper]) ++ (boolsB [x.EnableMotor]) ++ (intsB [x.MotorSpeed, x.MaxForce, x.Softness, x.BreakForce]) ++ (boolsB [x.CollideConnected]) ++ (intsB [x.Impulses.I0, x.Impulses.I1, x.Impulses.I2, x.Impulses.I3])
theorem s_enc_joint (b : List Int) (x : Joint) (hb : b.length ≤ 200000000000) : CallsA Try.prog F_snapshot_encoder_joint [.ptr 1 0 0 1, .agg x.enc] (eO b) (.tup []) (eO (b ++ jntB x)) := by
  have q0 : (intsB [x.ID, x.Kind, x.BodyA, x.BodyB]).length ≤ 40 := intsB_len _
  have q1 : (vecsB [x.AnchorA, x.AnchorB, x.Axis]).length ≤ 60 := vecsB_len _
  have q2 : (intsB [x.ReferenceAngle]).length ≤ 10 := intsB_len _
  have q3 : (boolsB [x.EnableLimit]).length ≤ 1 := boolsB_len _
  have q4 : (intsB [x.Lower, x.Upper]).length ≤ 20 := intsB_len _
  have q5 : (boolsB [x.EnableMotor]).length ≤ 1 := boolsB_len _
  have q6 : (intsB [x.MotorSpeed, x.MaxForce, x.Softness, x.BreakForce]).length ≤ 40 := intsB_len _
  have q7 : (boolsB [x.CollideConnected]).length ≤ 1 := boolsB_len _
  refine callsIO_of (rs := []) hm Try.func28 (by kernel_rfl) (by kernel_rfl) is_snapshot_encoder_joint (by kernel_rfl : tmpsOf Try.f28.results.toList = some []) (by decide) (by kernel_rfl) ?_
  simp only [c_snapshot_encoder_joint, go_sem]
  refine CallGi_obj [true, false] [] (s_enc_ints b [x.ID, x.Kind, x.BodyA, x.BodyB] (by simp only [List.length_append, List.length_cons, List.length_nil]; omega)) (by simp [go_sem]) (by simp [go_sem]) (by simp [go_sem]) (by simp [go_sem]) ?_
  simp only [argsOC, go_sem]
  refine ⟨avle_lit2 (l := [x.ID, x.Kind, x.BodyA, x.BodyB]) (fun _ _ => rfl) rfl rfl rfl, ?_⟩
  refine CallGi_obj [true, false] [] (s_enc_vecs (b ++ intsB [x.ID, x.Kind, x.BodyA, x.BodyB]) [x.AnchorA, x.AnchorB, x.Axis] (by simp only [List.length_append, List.length_cons, List.length_nil]; omega)) (by simp [go_sem]) (by simp [go_sem]) (by simp [go_sem]) (by simp [go_sem]) ?_
  simp only [argsOC, go_sem]
  refine ⟨avle_lit2 (l := [x.AnchorA, x.AnchorB, x.Axis]) (fun _ _ => rfl) rfl rfl rfl, ?_⟩
  refine CallGi_obj [true, false] [] (s_enc_ints ((b ++ intsB [x.ID, x.Kind, x.BodyA, x.BodyB]) ++ vecsB [x.AnchorA, x.AnchorB, x.Axis]) [x.ReferenceAngle] (by simp only [List.length_append, List.length_cons, List.length_nil]; omega)) (by simp [go_sem]) (by simp [go_sem]) (by simp [go_sem]) (by simp [go_sem]) ?_
  simp only [argsOC, go_sem]
  refine ⟨avle_lit2 (l := [x.ReferenceAngle]) (fun _ _ => rfl) rfl rfl rfl, ?_⟩
  refine CallGi_obj [true, false] [] (s_enc_bools (((b ++ intsB [x.ID, x.Kind, x.BodyA, x.BodyB]) ++ vecsB [x.AnchorA, x.AnchorB, x.Axis]) ++ intsB [x.ReferenceAngle]) [x.EnableLimit] (by simp only [List.length_append, List.length_cons, List.length_nil]; omega)) (by simp [go_sem]) (by simp [go_sem]) (by simp [go_sem]) (by simp [go_sem]) ?_
  simp only [argsOC, go_sem]
  refine ⟨avle_lit2 (l := [x.EnableLimit]) (fun _ _ => rfl) rfl rfl rfl, ?_⟩
  refine CallGi_obj [true, false] [] (s_enc_ints ((((b ++ intsB [x.ID, x.Kind, x.BodyA, x.BodyB]) ++ vecsB [x.AnchorA, x.AnchorB, x.Axis]) ++ intsB [x.ReferenceAngle]) ++ boolsB [x.EnableLimit]) [x.Lower, x.Upper] (by simp only [List.length_append, List.length_cons, List.length_nil]; omega)) (by simp [go_sem]) (by simp [go_sem]) (by simp [go_sem]) (by simp [go_sem]) ?_
  simp only [argsOC, go_sem]
  refine ⟨avle_lit2 (l := [x.Lower, x.Upper]) (fun _ _ => rfl) rfl rfl rfl, ?_⟩
  refine CallGi_obj [true, false] [] (s_enc_bools (((((b ++ intsB [x.ID, x.Kind, x.BodyA, x.BodyB]) ++ vecsB [x.AnchorA, x.AnchorB, x.Axis]) ++ intsB [x.ReferenceAngle]) ++ boolsB [x.EnableLimit]) ++ intsB [x.Lower, x.Upper]) [x.EnableMotor] (by simp only [List.length_append, List.length_cons, List.length_nil]; omega)) (by simp [go_sem]) (by simp [go_sem]) (by simp [go_sem]) (by simp [go_sem]) ?_
  simp only [argsOC, go_sem]
  refine ⟨avle_lit2 (l := [x.EnableMotor]) (fun _ _ => rfl) rfl rfl rfl, ?_⟩
  refine CallGi_obj [true, false] [] (s_enc_ints ((((((b ++ intsB [x.ID, x.Kind, x.BodyA, x.BodyB]) ++ vecsB [x.AnchorA, x.AnchorB, x.Axis]) ++ intsB [x.ReferenceAngle]) ++ boolsB [x.EnableLimit]) ++ intsB [x.Lower, x.Upper]) ++ boolsB [x.EnableMotor]) [x.MotorSpeed, x.MaxForce, x.Softness, x.BreakForce] (by simp only [List.length_append, List.length_cons, List.length_nil]; omega)) (by simp [go_sem]) (by simp [go_sem]) (by simp [go_sem]) (by simp [go_sem]) ?_
  simp only [argsOC, go_sem]
  refine ⟨avle_lit2 (l := [x.MotorSpeed, x.MaxForce, x.Softness, x.BreakForce]) (fun _ _ => rfl) rfl rfl rfl, ?_⟩
  refine CallGi_obj [true, false] [] (s_enc_bools (((((((b ++ intsB [x.ID, x.Kind, x.BodyA, x.BodyB]) ++ vecsB [x.AnchorA, x.AnchorB, x.Axis]) ++ intsB [x.ReferenceAngle]) ++ boolsB [x.EnableLimit]) ++ intsB [x.Lower, x.Upper]) ++ boolsB [x.EnableMotor]) ++ intsB [x.MotorSpeed, x.MaxForce, x.Softness, x.BreakForce]) [x.CollideConnected] (by simp only [List.length_append, List.length_cons, List.length_nil]; omega)) (by simp [go_sem]) (by simp [go_sem]) (by simp [go_sem]) (by simp [go_sem]) ?_
  simp only [argsOC, go_sem]
  refine ⟨avle_lit2 (l := [x.CollideConnected]) (fun _ _ => rfl) rfl rfl rfl, ?_⟩
  refine CallGi_obj [true, false] [] (s_enc_ints ((((((((b ++ intsB [x.ID, x.Kind, x.BodyA, x.BodyB]) ++ vecsB [x.AnchorA, x.AnchorB, x.Axis]) ++ intsB [x.ReferenceAngle]) ++ boolsB [x.EnableLimit]) ++ intsB [x.Lower, x.Upper]) ++ boolsB [x.EnableMotor]) ++ intsB [x.MotorSpeed, x.MaxForce, x.Softness, x.BreakForce]) ++ boolsB [x.CollideConnected]) [x.Impulses.I0, x.Impulses.I1, x.Impulses.I2, x.Impulses.I3] (by simp only [List.length_append, List.length_cons, List.length_nil]; omega)) (by simp [go_sem]) (by simp [go_sem]) (by simp [go_sem]) (by simp [go_sem]) ?_
  simp only [argsOC, go_sem]
  refine ⟨⟨rfl, rfl, fun i hi => ?_⟩, ?_⟩
  · match i, hi with
    | 0, _ => exact avleL_refl _
    | 1, _ => exact avleL_refl _
    | 2, _ => exact avleL_refl _
    | 3, _ => exact avleL_refl _
  refine retW_of [] [] [] rfl rfl (by simp [go_sem]) (by simp [assoc, go_sem]) (by simp [go_sem]) ?_
  simp only [jntB, go_sem]
def ptB (p : ContactPoint) : List Int := (vecsB [p.Point]) ++ (intsB [p.Separation, p.ID, p.NormalImpulse, p.TangentImpulse])
theorem ptB_len (p : ContactPoint) : (ptB p).length ≤ 60 := by
  have q0 : (vecsB [p.Point]).length ≤ 20 := vecsB_len _
  have q1 : (intsB [p.Separation, p.ID, p.NormalImpulse, p.TangentImpulse]).length ≤ 40 := intsB_len _
  unfold ptB; simp only [List.length_append]; omega
def ctcH (x : Contact) : List Int := keyB x.Key ++ (vecsB [x.Manifold.Normal]) ++ (intsB [(x.Manifold.Points.length : Int)])
def ctcB (x : Contact) : List Int := ctcH x ++ x.Manifold.Points.flatMap ptB
theorem ctcH_len (x : Contact) : (ctcH x).length ≤ 70 := by
  have q0 := keyB_len x.Key
  have q1 : (vecsB [x.Manifold.Normal]).length ≤ 20 := vecsB_len _
  have q2 : (intsB [(x.Manifold.Points.length : Int)]).length ≤ 10 := intsB_len _
  unfold ctcH; simp only [List.length_append]; omega
theorem s_enc_contact (b : List Int) (x : Contact) (hb : b.length ≤ 100000000000) (hx : x.Manifold.Points.length ≤ 1048576) : CallsA Try.prog F_snapshot_encoder_contact [.ptr 1 0 0 1, .agg x.enc] (eO b) (.tup []) (eO (b ++ ctcB x)) := by
  have q0 := keyB_len x.Key
  have q1 : (vecsB [x.Manifold.Normal]).length ≤ 20 := vecsB_len _
  have q2 : (intsB [(x.Manifold.Points.length : Int)]).length ≤ 10 := intsB_len _
  have hh := ctcH_len x
  refine callsIO_of (rs := []) hm Try.func29 (by kernel_rfl) (by kernel_rfl) is_snapshot_encoder_contact (by kernel_rfl : tmpsOf Try.f29.results.toList = some []) (by decide) (by kernel_rfl) ?_
  simp only [c_snapshot_encoder_contact, go_sem]
  refine CallGi_subw (s_enc_key b x.Key (by omega)) (okO_eO _) rfl (by simp [go_sem]) (by simp [go_sem, AV.ids]) rfl ?_
  simp only [go_sem]
  refine CallGi_obj [true, false] [] (s_enc_vecs (b ++ keyB x.Key) [x.Manifold.Normal] (by simp only [List.length_append, List.length_cons, List.length_nil]; omega)) (by simp [go_sem]) (by simp [go_sem]) (by simp [go_sem]) (by simp [go_sem]) ?_
  simp only [argsOC, go_sem]
  refine ⟨avle_lit2 (l := [x.Manifold.Normal]) (fun _ _ => rfl) rfl rfl rfl, ?_⟩
  refine CallGi_obj [true, false] [] (s_enc_ints ((b ++ keyB x.Key) ++ vecsB [x.Manifold.Normal]) [(x.Manifold.Points.length : Int)] (by simp only [List.length_append, List.length_cons, List.length_nil]; omega)) (by simp [go_sem]) (by simp [go_sem]) (by simp [go_sem]) (by simp [go_sem]) ?_
  simp only [argsOC, go_sem]
  refine ⟨avle_lit2 (l := [(x.Manifold.Points.length : Int)]) (fun _ _ => rfl) rfl rfl rfl, ?_⟩
  unfold ctcB
  refine Wpi_loop hm (ι := {i : Nat // i ≤ x.Manifold.Points.length}) (fun i => [(0, .share, .ptr 1 0 0 1), (25, .share, encD 6 ContactPoint.enc default x.Manifold.Points), (26, .share, .sc (.int .i64 x.Manifold.Points.length)), (27, .share, .sc (.int .i64 i.1))])
    (fun i => eO (b ++ (ctcH x ++ (x.Manifold.Points.take i.1).flatMap ptB))) (fun i => x.Manifold.Points.length - i.1) ⟨0, by omega⟩ ?_ ?_
  · refine weakE_ [] [] ?_
    simp only [List.take_zero, List.flatMap_nil, List.append_nil, ctcH, go_sem]
    try trivial
  · rintro ⟨i, hi⟩
    simp only [c_snapshot_encoder_contactb0, go_sem]
    by_cases hlt : i < x.Manifold.Points.length
    · rw [if_pos (by omega)]
      have hl := fm_lenP (f := ptB) (c := 60) (l := x.Manifold.Points.take i) (fun f _ => ptB_len f)
      rw [List.length_take] at hl
      have hs := fm_snoc (f := ptB) (l := x.Manifold.Points) default hlt
      refine ⟨ok_, ?_⟩
      have q0 : (vecsB [(x.Manifold.Points.getD i default).Point]).length ≤ 20 := vecsB_len _
      have q1 : (intsB [(x.Manifold.Points.getD i default).Separation, (x.Manifold.Points.getD i default).ID, (x.Manifold.Points.getD i default).NormalImpulse, (x.Manifold.Points.getD i default).TangentImpulse]).length ≤ 40 := intsB_len _
      refine CallGi_obj [true, false] [] (s_enc_vecs (b ++ (ctcH x ++ (x.Manifold.Points.take i).flatMap ptB)) [(x.Manifold.Points.getD i default).Point] (by simp only [List.length_append, List.length_cons, List.length_nil]; omega)) (by simp [go_sem]) (by simp [go_sem]) (by simp [go_sem]) (by simp [go_sem]) ?_
      simp only [argsOC, go_sem]
      refine ⟨avle_lit2 (l := [(x.Manifold.Points.getD i default).Point]) (fun _ _ => rfl) rfl rfl rfl, ?_⟩
      refine CallGi_obj [true, false] [] (s_enc_ints ((b ++ (ctcH x ++ (x.Manifold.Points.take i).flatMap ptB)) ++ vecsB [(x.Manifold.Points.getD i default).Point]) [(x.Manifold.Points.getD i default).Separation, (x.Manifold.Points.getD i default).ID, (x.Manifold.Points.getD i default).NormalImpulse, (x.Manifold.Points.getD i default).TangentImpulse] (by simp only [List.length_append, List.length_cons, List.length_nil]; omega)) (by simp [go_sem]) (by simp [go_sem]) (by simp [go_sem]) (by simp [go_sem]) ?_
      simp only [argsOC, go_sem]
      refine ⟨avle_lit2 (l := [(x.Manifold.Points.getD i default).Separation, (x.Manifold.Points.getD i default).ID, (x.Manifold.Points.getD i default).NormalImpulse, (x.Manifold.Points.getD i default).TangentImpulse]) (fun _ _ => rfl) rfl rfl rfl, ?_⟩
      refine loop_next ⟨i + 1, by omega⟩ (by show x.Manifold.Points.length - (i + 1) < x.Manifold.Points.length - i; omega) (weakE_ [] [] ?_)
      simp only [hs, ptB, go_sem]
      exact (by rw [IntKind.wrap_i64]; omega)
    · rw [if_neg (by omega)]
      obtain rfl : i = x.Manifold.Points.length := by omega
      refine retW_of [] [] [] rfl rfl (by simp [go_sem]) (by simp [assoc, go_sem]) (by simp [go_sem]) ?_
      simp only [List.take_length, go_sem]

end Go.Abs
