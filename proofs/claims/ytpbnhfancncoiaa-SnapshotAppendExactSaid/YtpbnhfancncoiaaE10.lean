/- A part of the walk: contracts of functions that the statement reaches. -/
import Derived.Test.YtpbnhfancncoiaaAbsD
import Derived.Test.YtpbnhfancncoiaaE9
set_option linter.unusedSimpArgs false
set_option linter.unusedVariables false
set_option linter.unnecessarySimpa false
set_option maxRecDepth 100000
set_option maxHeartbeats 2000000
set_option linter.unusedSimpArgs false
set_option linter.unusedVariables false
namespace Go.Abs
open Go.Proofs
open Api
theorem bools1 (a : Bool) : boolsB [a] = boolB a := by simp [boolsB]
theorem bools4 (a b c d : Bool) : boolsB [a, b, c, d] = boolB a ++ (boolB b ++ (boolB c ++ boolB d)) := by simp [boolsB]
theorem vecs1 (a : Vec) : vecsB [a] = vecB a := by simp [vecsB]
theorem vecs3 (a b c : Vec) : vecsB [a, b, c] = vecB a ++ (vecB b ++ vecB c) := by simp [vecsB]
theorem s_r45_appendShape (b : List Int) (s : Shape) (hb : b.length ≤ 300000000000) (hx : s.Vertices.length ≤ 1048576) : CallsA Try.prog F_r45_appendShape [encD 1 encU8 0 b, .agg s.enc] [] (encD 1 encU8 0 (b ++ (intsB [s.Kind, s.Radius, (s.Vertices.length : Int)] ++ vecsB s.Vertices))) [] := by
  have q0 : (intsB [s.Kind, s.Radius, (s.Vertices.length : Int)]).length ≤ 30 := intsB_len _
  refine callsI_of (rs := [_]) hm Try.func46 (by kernel_rfl) (by kernel_rfl) is_r45_appendShape (by kernel_rfl : tmpsOf Try.f46.results.toList = some [4]) (by decide) (by kernel_rfl) ?_
  simp only [c_r45_appendShape, go_sem]
  refine CallGi_thaw (s_r45_appendInts b [s.Kind, s.Radius, (s.Vertices.length : Int)] (by simp only [List.length_append, List.length_cons, List.length_nil]; omega)) ?_
  simp only [argsC, go_sem]
  refine ⟨avle_lit2 (l := [s.Kind, s.Radius, (s.Vertices.length : Int)]) (fun _ _ => rfl) rfl rfl rfl, ?_⟩
  generalize hH : intsB [s.Kind, s.Radius, (s.Vertices.length : Int)] = H at *
  refine Wpi_loop hm (ι := {i : Nat // i ≤ s.Vertices.length}) (fun i => [(0, .share, encD 1 encU8 0 (b ++ (H ++ (s.Vertices.take i.1).flatMap vecB))), (3, .share, .ptr 64 0 0 1), (5, .share, .sc (.int .i64 i.1))])
    (fun _ => [(64, .box s.enc)]) (fun i => s.Vertices.length - i.1) ⟨0, by omega⟩ ?_ ?_
  · refine weakE_ [] [] ?_
    simp only [List.take_zero, List.flatMap_nil, List.append_nil, go_sem]
    try trivial
  · rintro ⟨i, hi⟩
    simp only [c_r45_appendShapeb0, go_sem]
    by_cases hlt : i < s.Vertices.length
    · rw [if_pos (by omega)]
      have hl := fm_len (f := vecB) vecB_len (s.Vertices.take i)
      rw [List.length_take] at hl
      have hs := fm_snoc (f := vecB) (l := s.Vertices) default hlt
      refine ⟨ok_, ?_⟩
      refine CallGi_flat (s_r07_AppendVec (b ++ (H ++ (s.Vertices.take i).flatMap vecB)) (s.Vertices.getD i default) (by simp only [List.length_append]; omega)) rfl ?_
      simp only [go_sem]
      refine loop_next ⟨i + 1, by omega⟩ (by show s.Vertices.length - (i + 1) < s.Vertices.length - i; omega) (weakE_ [] [] ?_)
      simp only [hs, go_sem]
      exact (by rw [IntKind.wrap_i64]; omega)
    · rw [if_neg (by omega)]
      obtain rfl : i = s.Vertices.length := by omega
      simp only [List.take_length, vecsB, go_sem]
theorem s_r45_appendFixture (b : List Int) (x : Fixture) (hb : b.length ≤ 200000000000) (hx : x.Shape.Vertices.length ≤ 1048576) : CallsA Try.prog F_r45_appendFixture [encD 1 encU8 0 b, .agg x.enc] [] (encD 1 encU8 0 (b ++ fixB x)) [] := by
  have q0 : (intsB [x.Density, x.Friction, x.Restitution]).length ≤ 30 := intsB_len _
  have q1 := boolB_len x.Sensor
  have q2 : (intsB [x.Category, x.Mask, x.Group]).length ≤ 30 := intsB_len _
  have q8 : (intsB [x.Shape.Kind, x.Shape.Radius, (x.Shape.Vertices.length : Int)]).length ≤ 30 := intsB_len _
  have q9 := vecsB_len x.Shape.Vertices
  refine callsI_of (rs := [_]) hm Try.func27 (by kernel_rfl) (by kernel_rfl) is_r45_appendFixture (by kernel_rfl : tmpsOf Try.f27.results.toList = some [4]) (by decide) (by kernel_rfl) ?_
  simp only [c_r45_appendFixture, go_sem]
  refine CallGi_flat (s_r45_appendShape b x.Shape (by omega) hx) rfl ?_
  simp only [go_sem]
  refine CallGi_thaw (s_r45_appendInts (b ++ ((intsB [x.Shape.Kind, x.Shape.Radius, (x.Shape.Vertices.length : Int)]) ++ (vecsB x.Shape.Vertices))) [x.Density, x.Friction, x.Restitution] (by simp only [List.length_append, List.length_cons, List.length_nil]; omega)) ?_
  simp only [argsC, go_sem]
  refine ⟨avle_lit2 (l := [x.Density, x.Friction, x.Restitution]) (fun _ _ => rfl) rfl rfl rfl, ?_⟩
  refine CallGi_flat (s_r07_AppendBool (b ++ ((intsB [x.Shape.Kind, x.Shape.Radius, (x.Shape.Vertices.length : Int)]) ++ ((vecsB x.Shape.Vertices) ++ (intsB [x.Density, x.Friction, x.Restitution])))) x.Sensor (by simp only [List.length_append]; omega)) rfl ?_
  simp only [go_sem]
  refine CallGi_thaw (s_r45_appendInts (b ++ ((intsB [x.Shape.Kind, x.Shape.Radius, (x.Shape.Vertices.length : Int)]) ++ ((vecsB x.Shape.Vertices) ++ ((intsB [x.Density, x.Friction, x.Restitution]) ++ (boolB x.Sensor))))) [x.Category, x.Mask, x.Group] (by simp only [List.length_append, List.length_cons, List.length_nil]; omega)) ?_
  simp only [argsC, go_sem]
  refine ⟨avle_lit2 (l := [x.Category, x.Mask, x.Group]) (fun _ _ => rfl) rfl rfl rfl, ?_⟩
  simp only [fixB, bools1, bools4, vecs1, vecs3, go_sem]
theorem s_r45_AppendBody (b : List Int) (x : Body) (hb : b.length ≤ 100000000000) (hx : Bfew x) : CallsA Try.prog F_r45_AppendBody [encD 1 encU8 0 b, .agg x.enc] [] (encD 1 encU8 0 (b ++ bodB x)) [] := by
  have q0 : (intsB [x.ID, x.Kind]).length ≤ 20 := intsB_len _
  have q1 := vecB_len x.Transform.Position
  have q2 : (intsB [x.Transform.Angle]).length ≤ 10 := intsB_len _
  have q3 := vecB_len x.Velocity
  have q4 : (intsB [x.AngularVelocity]).length ≤ 10 := intsB_len _
  have q5 := vecB_len x.Force
  have q6 : (intsB [x.Torque, x.LinearDamping, x.AngularDamping, x.GravityScale]).length ≤ 40 := intsB_len _
  have q7 := boolB_len x.Bullet
  have q8 := boolB_len x.FixedRotation
  have q9 := boolB_len x.NoSleep
  have q10 := boolB_len x.Asleep
  have q11 : (intsB [x.IdleSteps, (x.Fixtures.length : Int)]).length ≤ 20 := intsB_len _
  have hh := bodH_len x
  have hx1 := hx.1
  have eH : ((intsB [x.ID, x.Kind]) ++ ((vecB x.Transform.Position) ++ ((intsB [x.Transform.Angle]) ++ ((vecB x.Velocity) ++ ((intsB [x.AngularVelocity]) ++ ((vecB x.Force) ++ ((intsB [x.Torque, x.LinearDamping, x.AngularDamping, x.GravityScale]) ++ ((boolB x.Bullet) ++ ((boolB x.FixedRotation) ++ ((boolB x.NoSleep) ++ ((boolB x.Asleep) ++ (intsB [x.IdleSteps, (x.Fixtures.length : Int)])))))))))))) = bodH x := by unfold bodH; simp only [bools1, bools4, vecs1, vecs3,  List.append_assoc]
  refine callsI_of (rs := [_]) hm Try.func8 (by kernel_rfl) (by kernel_rfl) is_r45_AppendBody (by kernel_rfl : tmpsOf Try.f8.results.toList = some [4]) (by decide) (by kernel_rfl) ?_
  simp only [c_r45_AppendBody, go_sem]
  refine ⟨⟨by omega, (by simp only [maxLen]; omega)⟩, ?_⟩
  refine CallGi_thaw (s_r45_appendInts b [x.ID, x.Kind] (by simp only [List.length_append, List.length_cons, List.length_nil]; omega)) ?_
  simp only [argsC, go_sem]
  refine ⟨avle_lit2 (l := [x.ID, x.Kind]) (fun _ _ => rfl) rfl rfl rfl, ?_⟩
  refine CallGi_flat (s_r07_AppendVec (b ++ (intsB [x.ID, x.Kind])) x.Transform.Position (by simp only [List.length_append]; omega)) rfl ?_
  simp only [go_sem]
  refine CallGi_thaw (s_r45_appendInts (b ++ ((intsB [x.ID, x.Kind]) ++ (vecB x.Transform.Position))) [x.Transform.Angle] (by simp only [List.length_append, List.length_cons, List.length_nil]; omega)) ?_
  simp only [argsC, go_sem]
  refine ⟨avle_lit2 (l := [x.Transform.Angle]) (fun _ _ => rfl) rfl rfl rfl, ?_⟩
  refine CallGi_flat (s_r07_AppendVec (b ++ ((intsB [x.ID, x.Kind]) ++ ((vecB x.Transform.Position) ++ (intsB [x.Transform.Angle])))) x.Velocity (by simp only [List.length_append]; omega)) rfl ?_
  simp only [go_sem]
  refine CallGi_thaw (s_r45_appendInts (b ++ ((intsB [x.ID, x.Kind]) ++ ((vecB x.Transform.Position) ++ ((intsB [x.Transform.Angle]) ++ (vecB x.Velocity))))) [x.AngularVelocity] (by simp only [List.length_append, List.length_cons, List.length_nil]; omega)) ?_
  simp only [argsC, go_sem]
  refine ⟨avle_lit2 (l := [x.AngularVelocity]) (fun _ _ => rfl) rfl rfl rfl, ?_⟩
  refine CallGi_flat (s_r07_AppendVec (b ++ ((intsB [x.ID, x.Kind]) ++ ((vecB x.Transform.Position) ++ ((intsB [x.Transform.Angle]) ++ ((vecB x.Velocity) ++ (intsB [x.AngularVelocity])))))) x.Force (by simp only [List.length_append]; omega)) rfl ?_
  simp only [go_sem]
  refine CallGi_thaw (s_r45_appendInts (b ++ ((intsB [x.ID, x.Kind]) ++ ((vecB x.Transform.Position) ++ ((intsB [x.Transform.Angle]) ++ ((vecB x.Velocity) ++ ((intsB [x.AngularVelocity]) ++ (vecB x.Force))))))) [x.Torque, x.LinearDamping, x.AngularDamping, x.GravityScale] (by simp only [List.length_append, List.length_cons, List.length_nil]; omega)) ?_
  simp only [argsC, go_sem]
  refine ⟨avle_lit2 (l := [x.Torque, x.LinearDamping, x.AngularDamping, x.GravityScale]) (fun _ _ => rfl) rfl rfl rfl, ?_⟩
  refine CallGi_flat (s_r07_AppendBool (b ++ ((intsB [x.ID, x.Kind]) ++ ((vecB x.Transform.Position) ++ ((intsB [x.Transform.Angle]) ++ ((vecB x.Velocity) ++ ((intsB [x.AngularVelocity]) ++ ((vecB x.Force) ++ (intsB [x.Torque, x.LinearDamping, x.AngularDamping, x.GravityScale])))))))) x.Bullet (by simp only [List.length_append]; omega)) rfl ?_
  simp only [go_sem]
  refine CallGi_flat (s_r07_AppendBool (b ++ ((intsB [x.ID, x.Kind]) ++ ((vecB x.Transform.Position) ++ ((intsB [x.Transform.Angle]) ++ ((vecB x.Velocity) ++ ((intsB [x.AngularVelocity]) ++ ((vecB x.Force) ++ ((intsB [x.Torque, x.LinearDamping, x.AngularDamping, x.GravityScale]) ++ (boolB x.Bullet))))))))) x.FixedRotation (by simp only [List.length_append]; omega)) rfl ?_
  simp only [go_sem]
  refine CallGi_flat (s_r07_AppendBool (b ++ ((intsB [x.ID, x.Kind]) ++ ((vecB x.Transform.Position) ++ ((intsB [x.Transform.Angle]) ++ ((vecB x.Velocity) ++ ((intsB [x.AngularVelocity]) ++ ((vecB x.Force) ++ ((intsB [x.Torque, x.LinearDamping, x.AngularDamping, x.GravityScale]) ++ ((boolB x.Bullet) ++ (boolB x.FixedRotation)))))))))) x.NoSleep (by simp only [List.length_append]; omega)) rfl ?_
  simp only [go_sem]
  refine CallGi_flat (s_r07_AppendBool (b ++ ((intsB [x.ID, x.Kind]) ++ ((vecB x.Transform.Position) ++ ((intsB [x.Transform.Angle]) ++ ((vecB x.Velocity) ++ ((intsB [x.AngularVelocity]) ++ ((vecB x.Force) ++ ((intsB [x.Torque, x.LinearDamping, x.AngularDamping, x.GravityScale]) ++ ((boolB x.Bullet) ++ ((boolB x.FixedRotation) ++ (boolB x.NoSleep))))))))))) x.Asleep (by simp only [List.length_append]; omega)) rfl ?_
  simp only [go_sem]
  refine CallGi_thaw (s_r45_appendInts (b ++ ((intsB [x.ID, x.Kind]) ++ ((vecB x.Transform.Position) ++ ((intsB [x.Transform.Angle]) ++ ((vecB x.Velocity) ++ ((intsB [x.AngularVelocity]) ++ ((vecB x.Force) ++ ((intsB [x.Torque, x.LinearDamping, x.AngularDamping, x.GravityScale]) ++ ((boolB x.Bullet) ++ ((boolB x.FixedRotation) ++ ((boolB x.NoSleep) ++ (boolB x.Asleep)))))))))))) [x.IdleSteps, (x.Fixtures.length : Int)] (by simp only [List.length_append, List.length_cons, List.length_nil]; omega)) ?_
  simp only [argsC, go_sem]
  refine ⟨avle_lit2 (l := [x.IdleSteps, (x.Fixtures.length : Int)]) (fun _ _ => rfl) rfl rfl rfl, ?_⟩
  unfold bodB
  refine Wpi_loop hm (ι := {i : Nat // i ≤ x.Fixtures.length}) (fun i => [(0, .share, encD 1 encU8 0 (b ++ (bodH x ++ (x.Fixtures.take i.1).flatMap fixB))), (3, .share, .ptr 64 0 0 1), (5, .share, .sc (.int .i64 i.1))])
    (fun _ => [(64, .box x.enc)]) (fun i => x.Fixtures.length - i.1) ⟨0, by omega⟩ ?_ ?_
  · refine weakE_ [] [] ?_
    simp only [List.take_zero, List.flatMap_nil, List.append_nil, eH, go_sem]
    try trivial
  · rintro ⟨i, hi⟩
    simp only [c_r45_AppendBodyb0, go_sem]
    by_cases hlt : i < x.Fixtures.length
    · rw [if_pos (by omega)]
      have hl := fm_lenP (f := fixB) (c := 1400) (l := x.Fixtures.take i) (fun f hf => fix_few hx f (List.mem_of_mem_take hf))
      rw [List.length_take] at hl
      have hs := fm_snoc (f := fixB) (l := x.Fixtures) default hlt
      refine ⟨ok_, ?_⟩
      refine CallGi_flat (s_r45_appendFixture (b ++ (bodH x ++ (x.Fixtures.take i).flatMap fixB)) (x.Fixtures.getD i default) (by simp only [List.length_append]; omega) (by have := hx.2 _ (mem_getD default hlt); omega)) rfl ?_
      simp only [go_sem]
      refine loop_next ⟨i + 1, by omega⟩ (by show x.Fixtures.length - (i + 1) < x.Fixtures.length - i; omega) (weakE_ [] [] ?_)
      simp only [hs, go_sem]
      exact (by rw [IntKind.wrap_i64]; omega)
    · rw [if_neg (by omega)]
      obtain rfl : i = x.Fixtures.length := by omega
      simp only [List.take_length, go_sem]
theorem s_r45_AppendJoint (b : List Int) (x : Joint) (hb : b.length ≤ 200000000000) : CallsA Try.prog F_r45_AppendJoint [encD 1 encU8 0 b, .agg x.enc] [] (encD 1 encU8 0 (b ++ jntB x)) [] := by
  have q0 : (intsB [x.ID, x.Kind, x.BodyA, x.BodyB]).length ≤ 40 := intsB_len _
  have q1 := vecB_len x.AnchorA
  have q2 := vecB_len x.AnchorB
  have q3 := vecB_len x.Axis
  have q4 : (intsB [x.ReferenceAngle]).length ≤ 10 := intsB_len _
  have q5 := boolB_len x.EnableLimit
  have q6 : (intsB [x.Lower, x.Upper]).length ≤ 20 := intsB_len _
  have q7 := boolB_len x.EnableMotor
  have q8 : (intsB [x.MotorSpeed, x.MaxForce, x.Softness, x.BreakForce]).length ≤ 40 := intsB_len _
  have q9 := boolB_len x.CollideConnected
  have q10 : (intsB [x.Impulses.I0, x.Impulses.I1, x.Impulses.I2, x.Impulses.I3]).length ≤ 40 := intsB_len _
  refine callsI_of (rs := [_]) hm Try.func10 (by kernel_rfl) (by kernel_rfl) is_r45_AppendJoint (by kernel_rfl : tmpsOf Try.f10.results.toList = some [4]) (by decide) (by kernel_rfl) ?_
  simp only [c_r45_AppendJoint, go_sem]
  refine ⟨⟨by omega, (by simp only [maxLen]; omega)⟩, ?_⟩
  refine CallGi_thaw (s_r45_appendInts b [x.ID, x.Kind, x.BodyA, x.BodyB] (by simp only [Int.cast_ofNat_Int, Int.reduceLT, Int.reduceLE, List.length_append, List.length_cons, List.length_nil]; omega)) ?_
  simp only [Int.cast_ofNat_Int, Int.reduceLT, Int.reduceLE, argsC, go_sem]
  refine ⟨avle_lit2 (l := [x.ID, x.Kind, x.BodyA, x.BodyB]) (fun _ _ => rfl) rfl rfl rfl, ?_⟩
  refine CallGi_flat (s_r07_AppendVec (b ++ (intsB [x.ID, x.Kind, x.BodyA, x.BodyB])) x.AnchorA (by simp only [Int.cast_ofNat_Int, Int.reduceLT, Int.reduceLE, List.length_append]; omega)) rfl ?_
  simp only [Int.cast_ofNat_Int, Int.reduceLT, Int.reduceLE, go_sem]
  refine CallGi_flat (s_r07_AppendVec (b ++ ((intsB [x.ID, x.Kind, x.BodyA, x.BodyB]) ++ (vecB x.AnchorA))) x.AnchorB (by simp only [Int.cast_ofNat_Int, Int.reduceLT, Int.reduceLE, List.length_append]; omega)) rfl ?_
  simp only [Int.cast_ofNat_Int, Int.reduceLT, Int.reduceLE, go_sem]
  refine CallGi_flat (s_r07_AppendVec (b ++ ((intsB [x.ID, x.Kind, x.BodyA, x.BodyB]) ++ ((vecB x.AnchorA) ++ (vecB x.AnchorB)))) x.Axis (by simp only [Int.cast_ofNat_Int, Int.reduceLT, Int.reduceLE, List.length_append]; omega)) rfl ?_
  simp only [Int.cast_ofNat_Int, Int.reduceLT, Int.reduceLE, go_sem]
  refine CallGi_thaw (s_r45_appendInts (b ++ ((intsB [x.ID, x.Kind, x.BodyA, x.BodyB]) ++ ((vecB x.AnchorA) ++ ((vecB x.AnchorB) ++ (vecB x.Axis))))) [x.ReferenceAngle] (by simp only [Int.cast_ofNat_Int, Int.reduceLT, Int.reduceLE, List.length_append, List.length_cons, List.length_nil]; omega)) ?_
  simp only [Int.cast_ofNat_Int, Int.reduceLT, Int.reduceLE, argsC, go_sem]
  refine ⟨avle_lit2 (l := [x.ReferenceAngle]) (fun _ _ => rfl) rfl rfl rfl, ?_⟩
  refine CallGi_flat (s_r07_AppendBool (b ++ ((intsB [x.ID, x.Kind, x.BodyA, x.BodyB]) ++ ((vecB x.AnchorA) ++ ((vecB x.AnchorB) ++ ((vecB x.Axis) ++ (intsB [x.ReferenceAngle])))))) x.EnableLimit (by simp only [Int.cast_ofNat_Int, Int.reduceLT, Int.reduceLE, List.length_append]; omega)) rfl ?_
  simp only [Int.cast_ofNat_Int, Int.reduceLT, Int.reduceLE, go_sem]
  refine CallGi_thaw (s_r45_appendInts (b ++ ((intsB [x.ID, x.Kind, x.BodyA, x.BodyB]) ++ ((vecB x.AnchorA) ++ ((vecB x.AnchorB) ++ ((vecB x.Axis) ++ ((intsB [x.ReferenceAngle]) ++ (boolB x.EnableLimit))))))) [x.Lower, x.Upper] (by simp only [Int.cast_ofNat_Int, Int.reduceLT, Int.reduceLE, List.length_append, List.length_cons, List.length_nil]; omega)) ?_
  simp only [Int.cast_ofNat_Int, Int.reduceLT, Int.reduceLE, argsC, go_sem]
  refine ⟨avle_lit2 (l := [x.Lower, x.Upper]) (fun _ _ => rfl) rfl rfl rfl, ?_⟩
  refine CallGi_flat (s_r07_AppendBool (b ++ ((intsB [x.ID, x.Kind, x.BodyA, x.BodyB]) ++ ((vecB x.AnchorA) ++ ((vecB x.AnchorB) ++ ((vecB x.Axis) ++ ((intsB [x.ReferenceAngle]) ++ ((boolB x.EnableLimit) ++ (intsB [x.Lower, x.Upper])))))))) x.EnableMotor (by simp only [Int.cast_ofNat_Int, Int.reduceLT, Int.reduceLE, List.length_append]; omega)) rfl ?_
  simp only [Int.cast_ofNat_Int, Int.reduceLT, Int.reduceLE, go_sem]
  refine CallGi_thaw (s_r45_appendInts (b ++ ((intsB [x.ID, x.Kind, x.BodyA, x.BodyB]) ++ ((vecB x.AnchorA) ++ ((vecB x.AnchorB) ++ ((vecB x.Axis) ++ ((intsB [x.ReferenceAngle]) ++ ((boolB x.EnableLimit) ++ ((intsB [x.Lower, x.Upper]) ++ (boolB x.EnableMotor))))))))) [x.MotorSpeed, x.MaxForce, x.Softness, x.BreakForce] (by simp only [Int.cast_ofNat_Int, Int.reduceLT, Int.reduceLE, List.length_append, List.length_cons, List.length_nil]; omega)) ?_
  simp only [Int.cast_ofNat_Int, Int.reduceLT, Int.reduceLE, argsC, go_sem]
  refine ⟨avle_lit2 (l := [x.MotorSpeed, x.MaxForce, x.Softness, x.BreakForce]) (fun _ _ => rfl) rfl rfl rfl, ?_⟩
  refine CallGi_flat (s_r07_AppendBool (b ++ ((intsB [x.ID, x.Kind, x.BodyA, x.BodyB]) ++ ((vecB x.AnchorA) ++ ((vecB x.AnchorB) ++ ((vecB x.Axis) ++ ((intsB [x.ReferenceAngle]) ++ ((boolB x.EnableLimit) ++ ((intsB [x.Lower, x.Upper]) ++ ((boolB x.EnableMotor) ++ (intsB [x.MotorSpeed, x.MaxForce, x.Softness, x.BreakForce])))))))))) x.CollideConnected (by simp only [Int.cast_ofNat_Int, Int.reduceLT, Int.reduceLE, List.length_append]; omega)) rfl ?_
  simp only [Int.cast_ofNat_Int, Int.reduceLT, Int.reduceLE, go_sem]
  refine CallGi_thaw (s_r45_appendInts (b ++ ((intsB [x.ID, x.Kind, x.BodyA, x.BodyB]) ++ ((vecB x.AnchorA) ++ ((vecB x.AnchorB) ++ ((vecB x.Axis) ++ ((intsB [x.ReferenceAngle]) ++ ((boolB x.EnableLimit) ++ ((intsB [x.Lower, x.Upper]) ++ ((boolB x.EnableMotor) ++ ((intsB [x.MotorSpeed, x.MaxForce, x.Softness, x.BreakForce]) ++ (boolB x.CollideConnected))))))))))) [x.Impulses.I0, x.Impulses.I1, x.Impulses.I2, x.Impulses.I3] (by simp only [Int.cast_ofNat_Int, Int.reduceLT, Int.reduceLE, List.length_append, List.length_cons, List.length_nil]; omega)) ?_
  simp only [Int.cast_ofNat_Int, Int.reduceLT, Int.reduceLE, argsC, go_sem]
  refine ⟨avle_lit2 (l := [x.Impulses.I0, x.Impulses.I1, x.Impulses.I2, x.Impulses.I3]) (fun _ _ => rfl) rfl rfl rfl, ?_⟩
  simp only [jntB, bools1, bools4, vecs1, vecs3, go_sem]
theorem s_r45_AppendContact (b : List Int) (x : Contact) (hb : b.length ≤ 100000000000) (hx : x.Manifold.Points.length ≤ 1048576) : CallsA Try.prog F_r45_AppendContact [encD 1 encU8 0 b, .agg x.enc] [] (encD 1 encU8 0 (b ++ ctcB x)) [] := by
  have q0 := keyB_len x.Key
  have q1 := vecB_len x.Manifold.Normal
  have q2 : (intsB [(x.Manifold.Points.length : Int)]).length ≤ 10 := intsB_len _
  have hh := ctcH_len x
  have eH : ((keyB x.Key) ++ ((vecB x.Manifold.Normal) ++ (intsB [(x.Manifold.Points.length : Int)]))) = ctcH x := by unfold ctcH; simp only [bools1, bools4, vecs1, vecs3,  List.append_assoc]
  refine callsI_of (rs := [_]) hm Try.func12 (by kernel_rfl) (by kernel_rfl) is_r45_AppendContact (by kernel_rfl : tmpsOf Try.f12.results.toList = some [4]) (by decide) (by kernel_rfl) ?_
  simp only [c_r45_AppendContact, go_sem]
  refine ⟨⟨by omega, (by simp only [maxLen]; omega)⟩, ?_⟩
  refine CallGi_thaw (s_r45_appendKey b x.Key (by omega)) ?_
  simp only [argsC, go_sem]
  refine CallGi_flat (s_r07_AppendVec (b ++ (keyB x.Key)) x.Manifold.Normal (by simp only [List.length_append]; omega)) rfl ?_
  simp only [go_sem]
  refine CallGi_thaw (s_r45_appendInts (b ++ ((keyB x.Key) ++ (vecB x.Manifold.Normal))) [(x.Manifold.Points.length : Int)] (by simp only [List.length_append, List.length_cons, List.length_nil]; omega)) ?_
  simp only [argsC, go_sem]
  refine ⟨avle_lit2 (l := [(x.Manifold.Points.length : Int)]) (fun _ _ => rfl) rfl rfl rfl, ?_⟩
  unfold ctcB
  refine Wpi_loop hm (ι := {i : Nat // i ≤ x.Manifold.Points.length}) (fun i => [(0, .share, encD 1 encU8 0 (b ++ (ctcH x ++ (x.Manifold.Points.take i.1).flatMap ptB))), (3, .share, .ptr 64 0 0 1), (5, .share, .sc (.int .i64 i.1))])
    (fun _ => [(64, .box x.enc)]) (fun i => x.Manifold.Points.length - i.1) ⟨0, by omega⟩ ?_ ?_
  · refine weakE_ [] [] ?_
    simp only [List.take_zero, List.flatMap_nil, List.append_nil, eH, go_sem]
    try trivial
  · rintro ⟨i, hi⟩
    simp only [c_r45_AppendContactb0, go_sem]
    by_cases hlt : i < x.Manifold.Points.length
    · rw [if_pos (by omega)]
      have hl := fm_lenP (f := ptB) (c := 60) (l := x.Manifold.Points.take i) (fun f _ => ptB_len f)
      rw [List.length_take] at hl
      have hs := fm_snoc (f := ptB) (l := x.Manifold.Points) default hlt
      refine ⟨ok_, ?_⟩
      have q0 := vecB_len (x.Manifold.Points.getD i default).Point
      have q1 : (intsB [(x.Manifold.Points.getD i default).Separation, (x.Manifold.Points.getD i default).ID, (x.Manifold.Points.getD i default).NormalImpulse, (x.Manifold.Points.getD i default).TangentImpulse]).length ≤ 40 := intsB_len _
      refine CallGi_flat (s_r07_AppendVec (b ++ (ctcH x ++ ((x.Manifold.Points.take i).flatMap ptB))) (x.Manifold.Points.getD i default).Point (by simp only [List.length_append]; omega)) rfl ?_
      simp only [go_sem]
      refine CallGi_thaw (s_r45_appendInts (b ++ (ctcH x ++ (((x.Manifold.Points.take i).flatMap ptB) ++ (vecB (x.Manifold.Points.getD i default).Point)))) [(x.Manifold.Points.getD i default).Separation, (x.Manifold.Points.getD i default).ID, (x.Manifold.Points.getD i default).NormalImpulse, (x.Manifold.Points.getD i default).TangentImpulse] (by simp only [List.length_append, List.length_cons, List.length_nil]; omega)) ?_
      simp only [argsC, go_sem]
      refine ⟨avle_lit2 (l := [(x.Manifold.Points.getD i default).Separation, (x.Manifold.Points.getD i default).ID, (x.Manifold.Points.getD i default).NormalImpulse, (x.Manifold.Points.getD i default).TangentImpulse]) (fun _ _ => rfl) rfl rfl rfl, ?_⟩
      refine loop_next ⟨i + 1, by omega⟩ (by show x.Manifold.Points.length - (i + 1) < x.Manifold.Points.length - i; omega) (weakE_ [] [] ?_)
      simp only [hs, ptB, bools1, bools4, vecs1, vecs3, go_sem]
      exact (by rw [IntKind.wrap_i64]; omega)
    · rw [if_neg (by omega)]
      obtain rfl : i = x.Manifold.Points.length := by omega
      simp only [List.take_length, go_sem]

end Go.Abs
