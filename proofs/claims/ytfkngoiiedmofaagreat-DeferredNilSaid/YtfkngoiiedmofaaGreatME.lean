/- A part of the proof: contracts of functions that the statement reaches. -/
import Derived.Test.YtfkngoiiedmofaaGreatLD
import Derived.KernelRfl
import Derived.Eval
import Derived.Test.YtfkngoiiedmofaaGreatChecked
set_option linter.unusedSimpArgs false
set_option linter.unusedVariables false
set_option linter.unnecessarySimpa false
set_option maxRecDepth 100000
set_option maxHeartbeats 2000000
section
namespace Go.Abs
open Go.Proofs
theorem hm : Tryz.prog.follows .mixedOrders = true := Tryz.checked.mixed
def shL : List (Nat × List Bool) := [(22, [true, true]), (23, [true, true]), (24, [true, true, true, true, true]), (25, [true, true, true, true, true]), (34, [true, true, true]), (35, [true, true, true]), (40, [true, true, true, true]), (41, [true, true, true, true, true, true, true, true, true, true, true, false, true, true, false, true, true, true, true, false, true, true, true, true]), (42, [true, true, true, true, true, true, true, true, true, true, true, false, true, true, false, true, true, true, true, false, true, true, true, true]), (55, [true, true, true, true, true, true, true]), (56, [true, true, true, true, true, true, true]), (109, [true, true, true, true]), (110, [true, true, true, true]), (116, [true, true, true, true]), (117, [true, true, true, true]), (139, [true, true, true, true, true]), (140, [true, true, true, true, true]), (171, [true, true, true, true, true, true]), (172, [true, true, true, true, true, true]), (188, [true, true, true, true, true]), (189, [true, true, true, true, true]), (284, [true, true, true, true]), (285, [true, true, true, true]), (343, [true, true]), (344, [true, true]), (345, [true, true]), (376, [true, true]), (377, [true, true]), (408, [true, true, true, true]), (409, [true, true, true, true]), (412, [true, true, true, true, true, true]), (413, [true, true, true, true, true, true]), (415, [true, true, true, true, true]), (416, [true, true, true, true, true]), (485, [true, true, true]), (486, [true, true, true]), (492, [true, true, true, true]), (493, [true, true, true, true]), (497, [true, true, true, true, true]), (498, [true, true, true, true, true])]
theorem shOk : okE Tryz.prog shL = true := by kernel_rfl
abbrev F_law50_DeferredNil : Nat := 5
abbrev F_law50_example : Nat := 9
abbrev F_r47_SmallInputs : Nat := 22
end Go.Abs
end
section
namespace Go.Abs
open Go.Proofs
open Api
def Wown (w : Api.World) (a b c d : Nat) : AV := .agg [.sc (.int .i64 w.Settings.TimeStep), .sc (.int .i64 w.Settings.Gravity.X), .sc (.int .i64 w.Settings.Gravity.Y), .sc (.int .i64 w.Settings.Iterations), .sc (.int .i64 w.Settings.SleepSteps),
  .sl a 0 w.Bodies.length w.Bodies.length, .sl b 0 w.Joints.length w.Joints.length, .sl c 0 w.Contacts.length w.Contacts.length, .sl d 0 w.Overlaps.length w.Overlaps.length, .sc (.int .i64 w.NextID), .sc (.int .i64 w.Frame)]
def Wobj (w : Api.World) (a b c d : Nat) : List (Nat × AObj) := [(a, .arr 20 (encQ Body.enc default w.Bodies)), (b, .arr 24 (encQ Joint.enc default w.Joints)), (c, .arr 7 (encQ Contact.enc default w.Contacts)), (d, .arr 4 (encQ PairKey.enc default w.Overlaps))]
attribute [go_sem] Wown Wobj
end Go.Abs
end
section
namespace Go.Abs
open Go.Proofs
open Api
theorem Vec.beq (x y : Vec) : (x.X == y.X && x.Y == y.Y) = decide (x = y) := by
  cases x; cases y; rw [Bool.eq_iff_iff]; simp
theorem PairKey.beq (x y : PairKey) : (x.BodyA == y.BodyA && (x.FixtureA == y.FixtureA && (x.BodyB == y.BodyB && x.FixtureB == y.FixtureB))) = decide (x = y) := by
  cases x; cases y; rw [Bool.eq_iff_iff]; simp
theorem ContactPoint.beq (x y : ContactPoint) : (x.Point.X == y.Point.X && (x.Point.Y == y.Point.Y && (x.Separation == y.Separation && (x.ID == y.ID && (x.NormalImpulse == y.NormalImpulse && x.TangentImpulse == y.TangentImpulse))))) = decide (x = y) := by
  obtain ⟨⟨a, b⟩, c, d, e, f⟩ := x; obtain ⟨⟨a', b'⟩, c', d', e', f'⟩ := y; rw [Bool.eq_iff_iff]; simp [and_assoc]
end Go.Abs
end
section
namespace Go.Abs
open Go.Proofs
open Api
theorem Joint.beq (x y : Joint) : ((x.ID == y.ID) && ((x.Kind == y.Kind) && ((x.BodyA == y.BodyA) && ((x.BodyB == y.BodyB) && ((x.AnchorA.X == y.AnchorA.X) && ((x.AnchorA.Y == y.AnchorA.Y) && ((x.AnchorB.X == y.AnchorB.X) && ((x.AnchorB.Y == y.AnchorB.Y) && ((x.Axis.X == y.Axis.X) && ((x.Axis.Y == y.Axis.Y) && ((x.ReferenceAngle == y.ReferenceAngle) && ((x.EnableLimit == y.EnableLimit) && ((x.Lower == y.Lower) && ((x.Upper == y.Upper) && ((x.EnableMotor == y.EnableMotor) && ((x.MotorSpeed == y.MotorSpeed) && ((x.MaxForce == y.MaxForce) && ((x.Softness == y.Softness) && ((x.BreakForce == y.BreakForce) && ((x.CollideConnected == y.CollideConnected) && ((x.Impulses.I0 == y.Impulses.I0) && ((x.Impulses.I1 == y.Impulses.I1) && ((x.Impulses.I2 == y.Impulses.I2) && (x.Impulses.I3 == y.Impulses.I3)))))))))))))))))))))))) = decide (x = y) := by
  obtain ⟨a0, a1, a2, a3, ⟨a4, a5⟩, ⟨a6, a7⟩, ⟨a8, a9⟩, a10, a11, a12, a13, a14, a15, a16, a17, a18, a19, ⟨a20, a21, a22, a23⟩⟩ := x
  obtain ⟨b0, b1, b2, b3, ⟨b4, b5⟩, ⟨b6, b7⟩, ⟨b8, b9⟩, b10, b11, b12, b13, b14, b15, b16, b17, b18, b19, ⟨b20, b21, b22, b23⟩⟩ := y
  rw [Bool.eq_iff_iff]; simp [and_assoc]
theorem Settings.beq (x y : Settings) : ((x.TimeStep == y.TimeStep) && ((x.Gravity.X == y.Gravity.X) && ((x.Gravity.Y == y.Gravity.Y) && ((x.Iterations == y.Iterations) && (x.SleepSteps == y.SleepSteps))))) = decide (x = y) := by
  obtain ⟨a0, ⟨a1, a2⟩, a3, a4⟩ := x
  obtain ⟨b0, ⟨b1, b2⟩, b3, b4⟩ := y
  rw [Bool.eq_iff_iff]; simp [and_assoc]
end Go.Abs
end
section
namespace Go.Abs
open Go.Proofs
open Api
end Go.Abs
namespace Go.Api
open Go.Abs
structure Input where
  Kind : Int
  ID : Int
  Vec : Vec
  Value : Int
  Body : Body
  Joint : Joint
  deriving DecidableEq, Inhabited
def Input.enc (x : Input) : List AV :=
  [.sc (.int .i64 x.Kind), .sc (.int .i64 x.ID), .sc (.int .i64 x.Vec.X), .sc (.int .i64 x.Vec.Y), .sc (.int .i64 x.Value), .sc (.int .i64 x.Body.ID), .sc (.int .i64 x.Body.Kind), .sc (.int .i64 x.Body.Transform.Position.X), .sc (.int .i64 x.Body.Transform.Position.Y), .sc (.int .i64 x.Body.Transform.Angle), .sc (.int .i64 x.Body.Velocity.X), .sc (.int .i64 x.Body.Velocity.Y), .sc (.int .i64 x.Body.AngularVelocity), .sc (.int .i64 x.Body.Force.X), .sc (.int .i64 x.Body.Force.Y), .sc (.int .i64 x.Body.Torque), .sc (.int .i64 x.Body.LinearDamping), .sc (.int .i64 x.Body.AngularDamping), .sc (.int .i64 x.Body.GravityScale), .sc (.bool x.Body.Bullet), .sc (.bool x.Body.FixedRotation), .sc (.bool x.Body.NoSleep), .sc (.bool x.Body.Asleep), .sc (.int .i64 x.Body.IdleSteps), encD 10 Fixture.enc default x.Body.Fixtures, .sc (.int .i64 x.Joint.ID), .sc (.int .i64 x.Joint.Kind), .sc (.int .i64 x.Joint.BodyA), .sc (.int .i64 x.Joint.BodyB), .sc (.int .i64 x.Joint.AnchorA.X), .sc (.int .i64 x.Joint.AnchorA.Y), .sc (.int .i64 x.Joint.AnchorB.X), .sc (.int .i64 x.Joint.AnchorB.Y), .sc (.int .i64 x.Joint.Axis.X), .sc (.int .i64 x.Joint.Axis.Y), .sc (.int .i64 x.Joint.ReferenceAngle), .sc (.bool x.Joint.EnableLimit), .sc (.int .i64 x.Joint.Lower), .sc (.int .i64 x.Joint.Upper), .sc (.bool x.Joint.EnableMotor), .sc (.int .i64 x.Joint.MotorSpeed), .sc (.int .i64 x.Joint.MaxForce), .sc (.int .i64 x.Joint.Softness), .sc (.int .i64 x.Joint.BreakForce), .sc (.bool x.Joint.CollideConnected), .sc (.int .i64 x.Joint.Impulses.I0), .sc (.int .i64 x.Joint.Impulses.I1), .sc (.int .i64 x.Joint.Impulses.I2), .sc (.int .i64 x.Joint.Impulses.I3)]
def Input.zero : List AV := [.sc (.int .i64 0), .sc (.int .i64 0), .sc (.int .i64 0), .sc (.int .i64 0), .sc (.int .i64 0), .sc (.int .i64 0), .sc (.int .i64 0), .sc (.int .i64 0), .sc (.int .i64 0), .sc (.int .i64 0), .sc (.int .i64 0), .sc (.int .i64 0), .sc (.int .i64 0), .sc (.int .i64 0), .sc (.int .i64 0), .sc (.int .i64 0), .sc (.int .i64 0), .sc (.int .i64 0), .sc (.int .i64 0), .sc (.bool false), .sc (.bool false), .sc (.bool false), .sc (.bool false), .sc (.int .i64 0), .sc (.slice none 0 0), .sc (.int .i64 0), .sc (.int .i64 0), .sc (.int .i64 0), .sc (.int .i64 0), .sc (.int .i64 0), .sc (.int .i64 0), .sc (.int .i64 0), .sc (.int .i64 0), .sc (.int .i64 0), .sc (.int .i64 0), .sc (.int .i64 0), .sc (.bool false), .sc (.int .i64 0), .sc (.int .i64 0), .sc (.bool false), .sc (.int .i64 0), .sc (.int .i64 0), .sc (.int .i64 0), .sc (.int .i64 0), .sc (.bool false), .sc (.int .i64 0), .sc (.int .i64 0), .sc (.int .i64 0), .sc (.int .i64 0)]
attribute [go_sem] Input.enc Input.zero
@[go_sem] theorem eta_Input (x : Input) : Input.mk x.Kind x.ID x.Vec x.Value x.Body x.Joint = x := rfl
structure Request where
  Kind : Int
  From : Vec
  To : Vec
  Mask : Int
  Input : Input
  deriving DecidableEq, Inhabited
def Request.enc (x : Request) : List AV :=
  [.sc (.int .i64 x.Kind), .sc (.int .i64 x.From.X), .sc (.int .i64 x.From.Y), .sc (.int .i64 x.To.X), .sc (.int .i64 x.To.Y), .sc (.int .i64 x.Mask), .sc (.int .i64 x.Input.Kind), .sc (.int .i64 x.Input.ID), .sc (.int .i64 x.Input.Vec.X), .sc (.int .i64 x.Input.Vec.Y), .sc (.int .i64 x.Input.Value), .sc (.int .i64 x.Input.Body.ID), .sc (.int .i64 x.Input.Body.Kind), .sc (.int .i64 x.Input.Body.Transform.Position.X), .sc (.int .i64 x.Input.Body.Transform.Position.Y), .sc (.int .i64 x.Input.Body.Transform.Angle), .sc (.int .i64 x.Input.Body.Velocity.X), .sc (.int .i64 x.Input.Body.Velocity.Y), .sc (.int .i64 x.Input.Body.AngularVelocity), .sc (.int .i64 x.Input.Body.Force.X), .sc (.int .i64 x.Input.Body.Force.Y), .sc (.int .i64 x.Input.Body.Torque), .sc (.int .i64 x.Input.Body.LinearDamping), .sc (.int .i64 x.Input.Body.AngularDamping), .sc (.int .i64 x.Input.Body.GravityScale), .sc (.bool x.Input.Body.Bullet), .sc (.bool x.Input.Body.FixedRotation), .sc (.bool x.Input.Body.NoSleep), .sc (.bool x.Input.Body.Asleep), .sc (.int .i64 x.Input.Body.IdleSteps), encD 10 Fixture.enc default x.Input.Body.Fixtures, .sc (.int .i64 x.Input.Joint.ID), .sc (.int .i64 x.Input.Joint.Kind), .sc (.int .i64 x.Input.Joint.BodyA), .sc (.int .i64 x.Input.Joint.BodyB), .sc (.int .i64 x.Input.Joint.AnchorA.X), .sc (.int .i64 x.Input.Joint.AnchorA.Y), .sc (.int .i64 x.Input.Joint.AnchorB.X), .sc (.int .i64 x.Input.Joint.AnchorB.Y), .sc (.int .i64 x.Input.Joint.Axis.X), .sc (.int .i64 x.Input.Joint.Axis.Y), .sc (.int .i64 x.Input.Joint.ReferenceAngle), .sc (.bool x.Input.Joint.EnableLimit), .sc (.int .i64 x.Input.Joint.Lower), .sc (.int .i64 x.Input.Joint.Upper), .sc (.bool x.Input.Joint.EnableMotor), .sc (.int .i64 x.Input.Joint.MotorSpeed), .sc (.int .i64 x.Input.Joint.MaxForce), .sc (.int .i64 x.Input.Joint.Softness), .sc (.int .i64 x.Input.Joint.BreakForce), .sc (.bool x.Input.Joint.CollideConnected), .sc (.int .i64 x.Input.Joint.Impulses.I0), .sc (.int .i64 x.Input.Joint.Impulses.I1), .sc (.int .i64 x.Input.Joint.Impulses.I2), .sc (.int .i64 x.Input.Joint.Impulses.I3)]
def Request.zero : List AV := [.sc (.int .i64 0), .sc (.int .i64 0), .sc (.int .i64 0), .sc (.int .i64 0), .sc (.int .i64 0), .sc (.int .i64 0), .sc (.int .i64 0), .sc (.int .i64 0), .sc (.int .i64 0), .sc (.int .i64 0), .sc (.int .i64 0), .sc (.int .i64 0), .sc (.int .i64 0), .sc (.int .i64 0), .sc (.int .i64 0), .sc (.int .i64 0), .sc (.int .i64 0), .sc (.int .i64 0), .sc (.int .i64 0), .sc (.int .i64 0), .sc (.int .i64 0), .sc (.int .i64 0), .sc (.int .i64 0), .sc (.int .i64 0), .sc (.int .i64 0), .sc (.bool false), .sc (.bool false), .sc (.bool false), .sc (.bool false), .sc (.int .i64 0), .sc (.slice none 0 0), .sc (.int .i64 0), .sc (.int .i64 0), .sc (.int .i64 0), .sc (.int .i64 0), .sc (.int .i64 0), .sc (.int .i64 0), .sc (.int .i64 0), .sc (.int .i64 0), .sc (.int .i64 0), .sc (.int .i64 0), .sc (.int .i64 0), .sc (.bool false), .sc (.int .i64 0), .sc (.int .i64 0), .sc (.bool false), .sc (.int .i64 0), .sc (.int .i64 0), .sc (.int .i64 0), .sc (.int .i64 0), .sc (.bool false), .sc (.int .i64 0), .sc (.int .i64 0), .sc (.int .i64 0), .sc (.int .i64 0)]
attribute [go_sem] Request.enc Request.zero
@[go_sem] theorem eta_Request (x : Request) : Request.mk x.Kind x.From x.To x.Mask x.Input = x := rfl
end Go.Api
namespace Go.Abs
open Go.Proofs Api
def smV (f : Fixture) : Bool := decide (f.Shape.Vertices.length ≤ 12)
def smI (l : List Fixture) : Bool := (l.take 6).all smV && decide (l.length ≤ 6)
theorem take_min_end {α : Type} {l : List α} {p : α → Bool} {k : Nat} (h : (l.take k).all p = true) (hk : k = l.length ∨ k = 6) (hl : k ≤ l.length) (h6 : k ≤ 6) : (l.take 6).all p = true := by
  rcases hk with rfl | rfl
  · rw [List.take_of_length_le (by omega)]; rw [List.take_of_length_le (by omega)] at h; exact h
  · exact h
theorem take6_false {l : List Fixture} {k : Nat} (hk : k < 6) (hl : k < l.length) (h : smV (l.getD k default) = false) : (l.take 6).all smV = false := by
  rw [List.all_eq_false]
  refine ⟨l.getD k default, ?_, by rw [h]; simp⟩
  rw [List.mem_take_iff_getElem]
  exact ⟨k, by omega, by simp [List.getD, List.getElem?_eq_getElem hl]⟩
end Go.Abs
end
section
namespace Go.Abs
open Go.Proofs
open Api
theorem l_all_succ {α : Type} {l : List α} {p : α → Bool} {i : Nat} (d : α) (h : (l.take i).all p = true) (hi : i < l.length) (hp : p (l.getD i d) = true) : (l.take (i + 1)).all p = true := by
  rw [take_snoc d hi, List.all_append, h]; simpa using hp
theorem s_r47_SmallInputs1 (x : Api.Input) : CallsA Tryz.prog F_r47_SmallInputs [encD 49 Api.Input.enc default [x]] [] (.sc (.bool (smI x.Body.Fixtures))) [] := by
  refine en1 hm shOk Tryz.func22 rfl rfl ?_
  simp only [go_sem, ↓reduceIte, Nat.reduceEqDiff, reduceCtorEq, Nat.reduceAdd, Nat.reduceLeDiff, Nat.reduceMul, Nat.reduceSub, Int.reduceToNat]
  refine Wpi_rounds hm 3 ?_
  simp only [Wri_succ, List.length_cons, List.length_nil, go_sem, ↓reduceIte, Nat.reduceEqDiff, reduceCtorEq, Nat.reduceAdd, Nat.reduceLeDiff, Nat.reduceMul, Nat.reduceSub, Int.reduceToNat]
  simp only [Int.cast_ofNat_Int, Nat.reduceAdd, List.getD_cons_zero, Int.reduceToNat, go_sem, ↓reduceIte, Nat.reduceEqDiff, reduceCtorEq, Nat.reduceAdd, Nat.reduceLeDiff, Nat.reduceMul, Nat.reduceSub, Int.reduceToNat]
  refine ⟨(by (repeat' (with_reducible apply And.intro)) <;> first | omega | (simp only [maxLen]; omega)), ?_⟩
  refine Wpi_loop hm (ι := {k : Nat // k ≤ x.Body.Fixtures.length ∧ k ≤ 6 ∧ (x.Body.Fixtures.take k).all smV = true})
    (fun k => [(0, .share, encD 49 Api.Input.enc default [x]), (3, .share, .sc (.int .i64 0)), (4, .share, encD 10 Fixture.enc default x.Body.Fixtures), (5, .share, .sc (.int .i64 k.1))])
    (fun _ => []) (fun k => 6 - k.1) ⟨0, by omega, by omega, rfl⟩ ?_ ?_
  · refine weakE_of [] [] (by simp) (by simp [assoc]) (by simp) ?_
    simp only [go_sem, ↓reduceIte, Nat.reduceEqDiff, reduceCtorEq, Nat.reduceAdd, Nat.reduceLeDiff, Nat.reduceMul, Nat.reduceSub, Int.reduceToNat]
  · rintro ⟨k, hk, hk6, ht⟩
    simp only [go_sem, ↓reduceIte, Nat.reduceEqDiff, reduceCtorEq, Nat.reduceAdd, Nat.reduceLeDiff, Nat.reduceMul, Nat.reduceSub, Int.reduceToNat]
    by_cases h : k < x.Body.Fixtures.length ∧ k < 6
    · rw [if_pos (by rw [if_pos (by omega)]; exact decide_eq_true (by omega))]
      refine ⟨by omega, ?_⟩
      by_cases he : (x.Body.Fixtures.getD k default).Shape.Vertices.length ≤ 12
      · rw [if_neg (by omega)]
        refine loop_next ⟨k + 1, by omega, by omega, l_all_succ default ht h.1 (decide_eq_true he)⟩ (by show 6 - (k + 1) < 6 - k; omega) (weakE_of [] [] (by simp) (by simp [assoc]) (by simp) ?_)
        simp only [go_sem, ↓reduceIte, Nat.reduceEqDiff, reduceCtorEq, Nat.reduceAdd, Nat.reduceLeDiff, Nat.reduceMul, Nat.reduceSub, Int.reduceToNat]
        exact (by rw [IntKind.wrap_i64]; omega)
      · rw [if_pos (by omega)]
        unfold smI
        rw [take6_false h.2 h.1 (decide_eq_false he)]; rfl
    · rw [if_neg (by split <;> simp <;> omega)]
      have hend : (x.Body.Fixtures.take 6).all smV = true := take_min_end ht (by omega) hk hk6
      by_cases h6 : x.Body.Fixtures.length ≤ 6
      · rw [if_neg (by omega)]
        simp only [Wri_succ, go_sem, ↓reduceIte, Nat.reduceEqDiff, reduceCtorEq, Nat.reduceAdd, Nat.reduceLeDiff, Nat.reduceMul, Nat.reduceSub, Int.reduceToNat]
        simp only [smI, hend, h6, decide_true, Bool.and_true]
        have e : IntKind.i64.wrap (0 + 1) = 1 := by decide
        simp only [e]
        rw [if_neg (by simp)]
        rfl
      · rw [if_pos (by omega)]
        simp [smI, h6]
end Go.Abs
end
section
namespace Go.Abs
open Go.Proofs
noncomputable def gN_11 : FnG Tryz.prog 11 := mkG 53 [(4, some (some 11)), (5, none), (6, none)] shOk Tryz.func11 rfl
noncomputable def gN_12 : FnG Tryz.prog 12 := mkG 14 [(2, some (some 55))] shOk Tryz.func12 rfl
noncomputable def gN_14 : FnG Tryz.prog 14 := mkG Tryz.f14.ntmps [(4, none)] shOk Tryz.func14 rfl
noncomputable def gN_15 : FnG Tryz.prog 15 := mkG 14 [(2, some (some 11))] shOk Tryz.func15 rfl
noncomputable def gN_16 : FnG Tryz.prog 16 := mkG Tryz.f16.ntmps [(4, none)] shOk Tryz.func16 rfl
noncomputable def gN_17 : FnG Tryz.prog 17 := mkG 11 [(2, some (some 11))] shOk Tryz.func17 rfl
noncomputable def gN_18 : FnG Tryz.prog 18 := mkG Tryz.f18.ntmps [(2, none)] shOk Tryz.func18 rfl
noncomputable def gN_19 : FnG Tryz.prog 19 := mkG Tryz.f19.ntmps [(2, none), (3, none)] shOk Tryz.func19 rfl
noncomputable def gN_20 : FnG Tryz.prog 20 := mkG Tryz.f20.ntmps [(2, none)] shOk Tryz.func20 rfl
noncomputable def gN_21 : FnG Tryz.prog 21 := mkG Tryz.f21.ntmps [(2, none), (3, none), (4, none)] shOk Tryz.func21 rfl
noncomputable def gN_23 : FnG Tryz.prog 23 := mkG Tryz.f23.ntmps [(4, none)] shOk Tryz.func23 rfl
noncomputable def gN_37 : FnG Tryz.prog 37 := mkG Tryz.f37.ntmps [(2, none)] shOk Tryz.func37 rfl
noncomputable def gN_45 : FnG Tryz.prog 45 := mkG Tryz.f45.ntmps [(4, none)] shOk Tryz.func45 rfl
noncomputable def gN_46 : FnG Tryz.prog 46 := mkG Tryz.f46.ntmps [(4, none)] shOk Tryz.func46 rfl
noncomputable def tabN : Tab Tryz.prog := (.node 19 gN_19 (.node 15 gN_15 (.node 12 gN_12 (.node 11 gN_11 .leaf .leaf) (.node 14 gN_14 .leaf .leaf)) (.node 17 gN_17 (.node 16 gN_16 .leaf .leaf) (.node 18 gN_18 .leaf .leaf))) (.node 37 gN_37 (.node 21 gN_21 (.node 20 gN_20 .leaf .leaf) (.node 23 gN_23 .leaf .leaf)) (.node 46 gN_46 (.node 45 gN_45 .leaf .leaf) .leaf)))
end Go.Abs
end
section
namespace Go.Abs
open Go.Proofs
open Api
def sesZ : List AV := [.sc (.bool false), .sc (.int .i64 0), .sc (.int .i64 0), .sc (.int .i64 0), .sc (.int .i64 0), .sc (.int .i64 0), .sc (.slice none 0 0), .sc (.slice none 0 0), .sc (.slice none 0 0), .sc (.slice none 0 0), .sc (.int .i64 0), .sc (.int .i64 0), .sc (.bool false), .sc (.int .i64 0), .sc (.int .i64 0), .sc (.int .i64 0), .sc (.int .i64 0), .sc (.int .i64 0), .sc (.slice none 0 0), .sc (.slice none 0 0), .sc (.slice none 0 0), .sc (.slice none 0 0), .sc (.int .i64 0), .sc (.int .i64 0), .sc (.slice none 0 0), .sc (.slice none 0 0), .sc (.slice none 0 0), .sc (.slice none 0 0)]
def resZ : List AV := [.sc (.int .i64 0), .sc (.int .i64 0), .sc (.int .i64 0), .sc (.int .i64 0), .sc (.int .i64 0), .sc (.int .i64 0), .sc (.int .i64 0), .sc (.bool false), .sc (.slice none 0 0), .sc (.int .i64 0), .sc (.int .i64 0)]
def wldZ : List AV := [.sc (.int .i64 0), .sc (.int .i64 0), .sc (.int .i64 0), .sc (.int .i64 0), .sc (.int .i64 0), .sc (.slice none 0 0), .sc (.slice none 0 0), .sc (.slice none 0 0), .sc (.slice none 0 0), .sc (.int .i64 0), .sc (.int .i64 0)]
attribute [go_sem] sesZ resZ wldZ
end Go.Abs
end
section
namespace Go.Abs
open Go.Proofs
noncomputable def g_9 : FnG Tryz.prog 9 := mkG Tryz.f9.ntmps [(0, none)] shOk Tryz.func9 rfl
noncomputable def g_10 : FnG Tryz.prog 10 := mkG Tryz.f10.ntmps [(2, none), (3, none)] shOk Tryz.func10 rfl
noncomputable def g_11 : FnG Tryz.prog 11 := mkG 53 [(4, some (some 11)), (5, none), (6, none)] shOk Tryz.func11 rfl
noncomputable def g_13 : FnG Tryz.prog 13 := mkG 81 [(4, some (some 11)), (5, some (some 11))] shOk Tryz.func13 rfl
noncomputable def g_17 : FnG Tryz.prog 17 := mkG 11 [(2, some (some 11))] shOk Tryz.func17 rfl
noncomputable def g_18 : FnG Tryz.prog 18 := mkG Tryz.f18.ntmps [(2, none)] shOk Tryz.func18 rfl
noncomputable def g_19 : FnG Tryz.prog 19 := mkG Tryz.f19.ntmps [(2, none), (3, none)] shOk Tryz.func19 rfl
noncomputable def g_20 : FnG Tryz.prog 20 := mkG Tryz.f20.ntmps [(2, none)] shOk Tryz.func20 rfl
noncomputable def g_21 : FnG Tryz.prog 21 := mkG Tryz.f21.ntmps [(2, none), (3, none), (4, none)] shOk Tryz.func21 rfl
noncomputable def g_33 : FnG Tryz.prog 33 := mkG 15 [(0, some (some 11))] shOk Tryz.func33 rfl
noncomputable def g_34 : FnG Tryz.prog 34 := mkG Tryz.f34.ntmps [(2, none)] shOk Tryz.func34 rfl
noncomputable def g_35 : FnG Tryz.prog 35 := mkG Tryz.f35.ntmps [(2, none)] shOk Tryz.func35 rfl
noncomputable def g_36 : FnG Tryz.prog 36 := mkG 56 [(2, some (some 11))] shOk Tryz.func36 rfl
noncomputable def g_37 : FnG Tryz.prog 37 := mkG Tryz.f37.ntmps [(2, none)] shOk Tryz.func37 rfl
noncomputable def g_38 : FnG Tryz.prog 38 := mkG 8 [(2, some (some 49))] shOk Tryz.func38 rfl
noncomputable def g_39 : FnG Tryz.prog 39 := mkG 10 [(3, some (some 11)), (4, some (some 11))] shOk Tryz.func39 rfl
noncomputable def g_41 : FnG Tryz.prog 41 := mkG 8 [(2, some (some 11))] shOk Tryz.func41 rfl
noncomputable def g_42 : FnG Tryz.prog 42 := mkG Tryz.f42.ntmps [(6, none)] shOk Tryz.func42 rfl
noncomputable def g_49 : FnG Tryz.prog 49 := mkG 49 [(2, some (some 11)), (3, none), (4, none)] shOk Tryz.func49 rfl
noncomputable def g_50 : FnG Tryz.prog 50 := mkG 189 [(4, some (some 11))] shOk Tryz.func50 rfl
noncomputable def g_51 : FnG Tryz.prog 51 := mkG 78 [(2, some (some 11)), (3, none)] shOk Tryz.func51 rfl
noncomputable def g_62 : FnG Tryz.prog 62 := mkG Tryz.f62.ntmps [(2, none)] shOk Tryz.func62 rfl
noncomputable def g_63 : FnG Tryz.prog 63 := mkG Tryz.f63.ntmps [(6, none)] shOk Tryz.func63 rfl
noncomputable def g_64 : FnG Tryz.prog 64 := mkG Tryz.f64.ntmps [(2, none)] shOk Tryz.func64 rfl
noncomputable def g_65 : FnG Tryz.prog 65 := mkG Tryz.f65.ntmps [(2, none)] shOk Tryz.func65 rfl
noncomputable def g_66 : FnG Tryz.prog 66 := mkG Tryz.f66.ntmps [(2, none)] shOk Tryz.func66 rfl
noncomputable def g_67 : FnG Tryz.prog 67 := mkG Tryz.f67.ntmps [(2, none)] shOk Tryz.func67 rfl
noncomputable def g_68 : FnG Tryz.prog 68 := mkG Tryz.f68.ntmps [(2, none)] shOk Tryz.func68 rfl
noncomputable def g_69 : FnG Tryz.prog 69 := mkG Tryz.f69.ntmps [(2, none)] shOk Tryz.func69 rfl
noncomputable def g_70 : FnG Tryz.prog 70 := mkG Tryz.f70.ntmps [(2, none)] shOk Tryz.func70 rfl
noncomputable def g_71 : FnG Tryz.prog 71 := mkG 25 [(2, some (some 20))] shOk Tryz.func71 rfl
noncomputable def g_74 : FnG Tryz.prog 74 := mkG Tryz.f74.ntmps [(6, none)] shOk Tryz.func74 rfl
noncomputable def g_75 : FnG Tryz.prog 75 := mkG Tryz.f75.ntmps [(5, none)] shOk Tryz.func75 rfl
noncomputable def g_76 : FnG Tryz.prog 76 := mkG Tryz.f76.ntmps [(6, none)] shOk Tryz.func76 rfl
noncomputable def g_79 : FnG Tryz.prog 79 := mkG 32 [(4, some (some 4))] shOk Tryz.func79 rfl
noncomputable def g_88 : FnG Tryz.prog 88 := mkG Tryz.f88.ntmps [(2, none)] shOk Tryz.func88 rfl
noncomputable def g_89 : FnG Tryz.prog 89 := mkG Tryz.f89.ntmps [(4, none)] shOk Tryz.func89 rfl
noncomputable def g_90 : FnG Tryz.prog 90 := mkG Tryz.f90.ntmps [(2, none)] shOk Tryz.func90 rfl
noncomputable def g_91 : FnG Tryz.prog 91 := mkG 62 [(4, some (some 11)), (5, none)] shOk Tryz.func91 rfl
noncomputable def g_92 : FnG Tryz.prog 92 := mkG Tryz.f92.ntmps [(4, none)] shOk Tryz.func92 rfl
noncomputable def g_93 : FnG Tryz.prog 93 := mkG Tryz.f93.ntmps [(4, none)] shOk Tryz.func93 rfl
noncomputable def g_94 : FnG Tryz.prog 94 := mkG Tryz.f94.ntmps [(6, none), (7, none)] shOk Tryz.func94 rfl
noncomputable def g_95 : FnG Tryz.prog 95 := mkG Tryz.f95.ntmps [(4, none), (5, none)] shOk Tryz.func95 rfl
noncomputable def g_96 : FnG Tryz.prog 96 := mkG 20 [(2, some (some 20))] shOk Tryz.func96 rfl
noncomputable def g_100 : FnG Tryz.prog 100 := mkG 26 [(4, some (some 11))] shOk Tryz.func100 rfl
noncomputable def g_101 : FnG Tryz.prog 101 := mkG 9 [(3, some (some 20))] shOk Tryz.func101 rfl
noncomputable def g_102 : FnG Tryz.prog 102 := mkG 69 [(4, some (some 20))] shOk Tryz.func102 rfl
noncomputable def g_103 : FnG Tryz.prog 103 := mkG Tryz.f103.ntmps [(6, none), (7, none)] shOk Tryz.func103 rfl
noncomputable def g_104 : FnG Tryz.prog 104 := mkG 119 [(4, some (some 11)), (5, none)] shOk Tryz.func104 rfl
noncomputable def g_105 : FnG Tryz.prog 105 := mkG 13 [(2, some (some 11)), (3, none)] shOk Tryz.func105 rfl
noncomputable def g_106 : FnG Tryz.prog 106 := mkG 7 [(2, some (some 20))] shOk Tryz.func106 rfl
noncomputable def g_107 : FnG Tryz.prog 107 := mkG Tryz.f107.ntmps [(2, none)] shOk Tryz.func107 rfl
noncomputable def g_108 : FnG Tryz.prog 108 := mkG Tryz.f108.ntmps [(2, none)] shOk Tryz.func108 rfl
noncomputable def g_109 : FnG Tryz.prog 109 := mkG Tryz.f109.ntmps [(4, none)] shOk Tryz.func109 rfl
noncomputable def g_118 : FnG Tryz.prog 118 := mkG Tryz.f118.ntmps [(2, none)] shOk Tryz.func118 rfl
noncomputable def g_123 : FnG Tryz.prog 123 := mkG Tryz.f123.ntmps [(2, none)] shOk Tryz.func123 rfl
noncomputable def g_124 : FnG Tryz.prog 124 := mkG Tryz.f124.ntmps [(4, none)] shOk Tryz.func124 rfl
noncomputable def g_125 : FnG Tryz.prog 125 := mkG Tryz.f125.ntmps [(2, none)] shOk Tryz.func125 rfl
noncomputable def g_128 : FnG Tryz.prog 128 := mkG 8 [(2, some (some 3))] shOk Tryz.func128 rfl
noncomputable def g_130 : FnG Tryz.prog 130 := mkG Tryz.f130.ntmps [] shOk Tryz.func130 rfl
noncomputable def g_136 : FnG Tryz.prog 136 := mkG Tryz.f136.ntmps [] shOk Tryz.func136 rfl
noncomputable def g_137 : FnG Tryz.prog 137 := mkG Tryz.f137.ntmps [] shOk Tryz.func137 rfl
noncomputable def g_138 : FnG Tryz.prog 138 := mkG Tryz.f138.ntmps [(2, none)] shOk Tryz.func138 rfl
noncomputable def g_139 : FnG Tryz.prog 139 := mkG Tryz.f139.ntmps [(4, none)] shOk Tryz.func139 rfl
noncomputable def g_140 : FnG Tryz.prog 140 := mkG Tryz.f140.ntmps [(2, none)] shOk Tryz.func140 rfl
noncomputable def g_141 : FnG Tryz.prog 141 := mkG 16 [(4, some (some 2))] shOk Tryz.func141 rfl
noncomputable def g_144 : FnG Tryz.prog 144 := mkG Tryz.f144.ntmps [(2, none)] shOk Tryz.func144 rfl
noncomputable def g_145 : FnG Tryz.prog 145 := mkG Tryz.f145.ntmps [(4, none)] shOk Tryz.func145 rfl
noncomputable def g_146 : FnG Tryz.prog 146 := mkG 40 [(2, some (some 4)), (3, none)] shOk Tryz.func146 rfl
noncomputable def g_147 : FnG Tryz.prog 147 := mkG 16 [(4, some (some 2))] shOk Tryz.func147 rfl
noncomputable def g_157 : FnG Tryz.prog 157 := mkG Tryz.f157.ntmps [(4, none)] shOk Tryz.func157 rfl
noncomputable def g_168 : FnG Tryz.prog 168 := mkG Tryz.f168.ntmps [(2, none)] shOk Tryz.func168 rfl
noncomputable def g_169 : FnG Tryz.prog 169 := mkG Tryz.f169.ntmps [(4, none)] shOk Tryz.func169 rfl
noncomputable def g_173 : FnG Tryz.prog 173 := mkG Tryz.f173.ntmps [(6, none)] shOk Tryz.func173 rfl
noncomputable def g_174 : FnG Tryz.prog 174 := mkG Tryz.f174.ntmps [(2, none)] shOk Tryz.func174 rfl
noncomputable def g_175 : FnG Tryz.prog 175 := mkG Tryz.f175.ntmps [(4, none)] shOk Tryz.func175 rfl
noncomputable def g_177 : FnG Tryz.prog 177 := mkG Tryz.f177.ntmps [(4, none)] shOk Tryz.func177 rfl
noncomputable def g_178 : FnG Tryz.prog 178 := mkG Tryz.f178.ntmps [(2, none)] shOk Tryz.func178 rfl
noncomputable def g_179 : FnG Tryz.prog 179 := mkG Tryz.f179.ntmps [(4, none)] shOk Tryz.func179 rfl
noncomputable def g_180 : FnG Tryz.prog 180 := mkG Tryz.f180.ntmps [(4, none)] shOk Tryz.func180 rfl
noncomputable def g_181 : FnG Tryz.prog 181 := mkG 73 [(4, some (some 20))] shOk Tryz.func181 rfl
noncomputable def g_182 : FnG Tryz.prog 182 := mkG 22 [(2, some (some 5))] shOk Tryz.func182 rfl
noncomputable def g_186 : FnG Tryz.prog 186 := mkG Tryz.f186.ntmps [(2, none)] shOk Tryz.func186 rfl
noncomputable def g_187 : FnG Tryz.prog 187 := mkG Tryz.f187.ntmps [(4, none)] shOk Tryz.func187 rfl
noncomputable def g_188 : FnG Tryz.prog 188 := mkG Tryz.f188.ntmps [(6, none)] shOk Tryz.func188 rfl
noncomputable def g_189 : FnG Tryz.prog 189 := mkG Tryz.f189.ntmps [(4, none), (5, none)] shOk Tryz.func189 rfl
noncomputable def g_190 : FnG Tryz.prog 190 := mkG Tryz.f190.ntmps [(4, none)] shOk Tryz.func190 rfl
noncomputable def g_192 : FnG Tryz.prog 192 := mkG Tryz.f192.ntmps [(4, none)] shOk Tryz.func192 rfl
noncomputable def g_196 : FnG Tryz.prog 196 := mkG 6 [(2, some (some 4))] shOk Tryz.func196 rfl
noncomputable def g_197 : FnG Tryz.prog 197 := mkG 34 [(10, some (some 3))] shOk Tryz.func197 rfl
noncomputable def g_198 : FnG Tryz.prog 198 := mkG Tryz.f198.ntmps [(4, none), (5, none)] shOk Tryz.func198 rfl
noncomputable def g_199 : FnG Tryz.prog 199 := mkG 48 [(8, some (some 20)), (9, none)] shOk Tryz.func199 rfl
noncomputable def g_200 : FnG Tryz.prog 200 := mkG 12 [(2, some (some 20))] shOk Tryz.func200 rfl
noncomputable def g_201 : FnG Tryz.prog 201 := mkG Tryz.f201.ntmps [(4, none)] shOk Tryz.func201 rfl
noncomputable def g_209 : FnG Tryz.prog 209 := mkG Tryz.f209.ntmps [(4, none)] shOk Tryz.func209 rfl
noncomputable def g_210 : FnG Tryz.prog 210 := mkG Tryz.f210.ntmps [(6, none)] shOk Tryz.func210 rfl
noncomputable def g_211 : FnG Tryz.prog 211 := mkG Tryz.f211.ntmps [(2, none)] shOk Tryz.func211 rfl
noncomputable def g_219 : FnG Tryz.prog 219 := mkG Tryz.f219.ntmps [(2, none)] shOk Tryz.func219 rfl
noncomputable def g_220 : FnG Tryz.prog 220 := mkG Tryz.f220.ntmps [(2, none)] shOk Tryz.func220 rfl
noncomputable def g_221 : FnG Tryz.prog 221 := mkG Tryz.f221.ntmps [(2, none)] shOk Tryz.func221 rfl
noncomputable def g_232 : FnG Tryz.prog 232 := mkG Tryz.f232.ntmps [(4, none)] shOk Tryz.func232 rfl
noncomputable def g_233 : FnG Tryz.prog 233 := mkG Tryz.f233.ntmps [(4, none)] shOk Tryz.func233 rfl
noncomputable def g_234 : FnG Tryz.prog 234 := mkG Tryz.f234.ntmps [(2, none)] shOk Tryz.func234 rfl
noncomputable def g_235 : FnG Tryz.prog 235 := mkG Tryz.f235.ntmps [(4, none)] shOk Tryz.func235 rfl
noncomputable def g_241 : FnG Tryz.prog 241 := mkG Tryz.f241.ntmps [(2, none)] shOk Tryz.func241 rfl
noncomputable def g_242 : FnG Tryz.prog 242 := mkG Tryz.f242.ntmps [(2, none)] shOk Tryz.func242 rfl
noncomputable def g_243 : FnG Tryz.prog 243 := mkG Tryz.f243.ntmps [(4, none)] shOk Tryz.func243 rfl
noncomputable def g_244 : FnG Tryz.prog 244 := mkG Tryz.f244.ntmps [] shOk Tryz.func244 rfl
noncomputable def g_245 : FnG Tryz.prog 245 := mkG Tryz.f245.ntmps [(2, none)] shOk Tryz.func245 rfl
noncomputable def g_246 : FnG Tryz.prog 246 := mkG 13 [(4, some (some 2))] shOk Tryz.func246 rfl
noncomputable def g_247 : FnG Tryz.prog 247 := mkG Tryz.f247.ntmps [(2, none)] shOk Tryz.func247 rfl
noncomputable def g_248 : FnG Tryz.prog 248 := mkG Tryz.f248.ntmps [(4, none)] shOk Tryz.func248 rfl
noncomputable def g_249 : FnG Tryz.prog 249 := mkG Tryz.f249.ntmps [(4, none)] shOk Tryz.func249 rfl
noncomputable def g_251 : FnG Tryz.prog 251 := mkG Tryz.f251.ntmps [(2, none)] shOk Tryz.func251 rfl
noncomputable def g_253 : FnG Tryz.prog 253 := mkG 10 [(2, some (some 2))] shOk Tryz.func253 rfl
noncomputable def g_254 : FnG Tryz.prog 254 := mkG Tryz.f254.ntmps [(2, none)] shOk Tryz.func254 rfl
noncomputable def g_255 : FnG Tryz.prog 255 := mkG 10 [(2, some (some 2))] shOk Tryz.func255 rfl
noncomputable def g_258 : FnG Tryz.prog 258 := mkG Tryz.f258.ntmps [(4, none)] shOk Tryz.func258 rfl
noncomputable def g_260 : FnG Tryz.prog 260 := mkG Tryz.f260.ntmps [(4, none)] shOk Tryz.func260 rfl
noncomputable def g_263 : FnG Tryz.prog 263 := mkG Tryz.f263.ntmps [(2, none)] shOk Tryz.func263 rfl
noncomputable def g_268 : FnG Tryz.prog 268 := mkG 58 [(4, some (some 4))] shOk Tryz.func268 rfl
noncomputable def g_272 : FnG Tryz.prog 272 := mkG Tryz.f272.ntmps [] shOk Tryz.func272 rfl
noncomputable def g_279 : FnG Tryz.prog 279 := mkG Tryz.f279.ntmps [(4, none)] shOk Tryz.func279 rfl
noncomputable def g_284 : FnG Tryz.prog 284 := mkG Tryz.f284.ntmps [(4, none)] shOk Tryz.func284 rfl
noncomputable def g_285 : FnG Tryz.prog 285 := mkG Tryz.f285.ntmps [(4, none)] shOk Tryz.func285 rfl
noncomputable def g_286 : FnG Tryz.prog 286 := mkG Tryz.f286.ntmps [] shOk Tryz.func286 rfl
noncomputable def g_288 : FnG Tryz.prog 288 := mkG 14 [(4, some (some 2))] shOk Tryz.func288 rfl
noncomputable def g_289 : FnG Tryz.prog 289 := mkG Tryz.f289.ntmps [(4, none)] shOk Tryz.func289 rfl
noncomputable def g_290 : FnG Tryz.prog 290 := mkG Tryz.f290.ntmps [(6, none), (7, none)] shOk Tryz.func290 rfl
noncomputable def g_302 : FnG Tryz.prog 302 := mkG Tryz.f302.ntmps [(2, none)] shOk Tryz.func302 rfl
noncomputable def g_304 : FnG Tryz.prog 304 := mkG Tryz.f304.ntmps [(2, none)] shOk Tryz.func304 rfl
noncomputable def g_307 : FnG Tryz.prog 307 := mkG Tryz.f307.ntmps [(2, none)] shOk Tryz.func307 rfl
noncomputable def g_308 : FnG Tryz.prog 308 := mkG 30 [(2, some (some 4))] shOk Tryz.func308 rfl
noncomputable def g_309 : FnG Tryz.prog 309 := mkG Tryz.f309.ntmps [(4, none)] shOk Tryz.func309 rfl
noncomputable def g_310 : FnG Tryz.prog 310 := mkG 36 [(4, some (some 2))] shOk Tryz.func310 rfl
noncomputable def g_311 : FnG Tryz.prog 311 := mkG 25 [(2, some (some 2))] shOk Tryz.func311 rfl
noncomputable def g_312 : FnG Tryz.prog 312 := mkG Tryz.f312.ntmps [(8, none), (9, none)] shOk Tryz.func312 rfl
noncomputable def g_314 : FnG Tryz.prog 314 := mkG Tryz.f314.ntmps [(2, none)] shOk Tryz.func314 rfl
noncomputable def g_315 : FnG Tryz.prog 315 := mkG Tryz.f315.ntmps [(4, none)] shOk Tryz.func315 rfl
noncomputable def g_316 : FnG Tryz.prog 316 := mkG Tryz.f316.ntmps [(4, none)] shOk Tryz.func316 rfl
noncomputable def g_333 : FnG Tryz.prog 333 := mkG Tryz.f333.ntmps [(4, none)] shOk Tryz.func333 rfl
noncomputable def g_334 : FnG Tryz.prog 334 := mkG Tryz.f334.ntmps [(6, none)] shOk Tryz.func334 rfl
noncomputable def g_345 : FnG Tryz.prog 345 := mkG Tryz.f345.ntmps [(4, none)] shOk Tryz.func345 rfl
noncomputable def g_354 : FnG Tryz.prog 354 := mkG Tryz.f354.ntmps [(2, none)] shOk Tryz.func354 rfl
noncomputable def g_355 : FnG Tryz.prog 355 := mkG Tryz.f355.ntmps [(2, none)] shOk Tryz.func355 rfl
noncomputable def g_356 : FnG Tryz.prog 356 := mkG Tryz.f356.ntmps [] shOk Tryz.func356 rfl
noncomputable def g_364 : FnG Tryz.prog 364 := mkG Tryz.f364.ntmps [(2, none)] shOk Tryz.func364 rfl
noncomputable def g_365 : FnG Tryz.prog 365 := mkG Tryz.f365.ntmps [(4, none)] shOk Tryz.func365 rfl
noncomputable def g_366 : FnG Tryz.prog 366 := mkG Tryz.f366.ntmps [(2, none)] shOk Tryz.func366 rfl
noncomputable def g_367 : FnG Tryz.prog 367 := mkG Tryz.f367.ntmps [(2, none)] shOk Tryz.func367 rfl
noncomputable def g_375 : FnG Tryz.prog 375 := mkG Tryz.f375.ntmps [(2, none)] shOk Tryz.func375 rfl
noncomputable def g_377 : FnG Tryz.prog 377 := mkG 19 [(4, some (some 6))] shOk Tryz.func377 rfl
noncomputable def g_378 : FnG Tryz.prog 378 := mkG Tryz.f378.ntmps [(2, none)] shOk Tryz.func378 rfl
noncomputable def g_379 : FnG Tryz.prog 379 := mkG Tryz.f379.ntmps [(2, none)] shOk Tryz.func379 rfl
noncomputable def g_380 : FnG Tryz.prog 380 := mkG Tryz.f380.ntmps [] shOk Tryz.func380 rfl
noncomputable def g_381 : FnG Tryz.prog 381 := mkG Tryz.f381.ntmps [(4, none)] shOk Tryz.func381 rfl
noncomputable def g_384 : FnG Tryz.prog 384 := mkG Tryz.f384.ntmps [] shOk Tryz.func384 rfl
noncomputable def g_393 : FnG Tryz.prog 393 := mkG Tryz.f393.ntmps [(2, none)] shOk Tryz.func393 rfl
noncomputable def g_394 : FnG Tryz.prog 394 := mkG Tryz.f394.ntmps [(4, none)] shOk Tryz.func394 rfl
noncomputable def g_395 : FnG Tryz.prog 395 := mkG Tryz.f395.ntmps [(4, none)] shOk Tryz.func395 rfl
noncomputable def g_418 : FnG Tryz.prog 418 := mkG 32 [(4, some (some 4))] shOk Tryz.func418 rfl
noncomputable def g_419 : FnG Tryz.prog 419 := mkG 91 [(2, some (some 4))] shOk Tryz.func419 rfl
noncomputable def g_420 : FnG Tryz.prog 420 := mkG Tryz.f420.ntmps [(2, none)] shOk Tryz.func420 rfl
noncomputable def g_421 : FnG Tryz.prog 421 := mkG Tryz.f421.ntmps [(2, none)] shOk Tryz.func421 rfl
noncomputable def g_422 : FnG Tryz.prog 422 := mkG Tryz.f422.ntmps [(2, none)] shOk Tryz.func422 rfl
noncomputable def g_441 : FnG Tryz.prog 441 := mkG Tryz.f441.ntmps [(4, none)] shOk Tryz.func441 rfl
noncomputable def g_445 : FnG Tryz.prog 445 := mkG 38 [(4, some (some 4))] shOk Tryz.func445 rfl
noncomputable def g_446 : FnG Tryz.prog 446 := mkG Tryz.f446.ntmps [] shOk Tryz.func446 rfl
noncomputable def g_447 : FnG Tryz.prog 447 := mkG Tryz.f447.ntmps [] shOk Tryz.func447 rfl
noncomputable def g_448 : FnG Tryz.prog 448 := mkG Tryz.f448.ntmps [(4, none)] shOk Tryz.func448 rfl
noncomputable def g_449 : FnG Tryz.prog 449 := mkG Tryz.f449.ntmps [] shOk Tryz.func449 rfl
noncomputable def g_452 : FnG Tryz.prog 452 := mkG Tryz.f452.ntmps [] shOk Tryz.func452 rfl
noncomputable def g_466 : FnG Tryz.prog 466 := mkG 26 [(4, some (some 4))] shOk Tryz.func466 rfl
noncomputable def g_469 : FnG Tryz.prog 469 := mkG Tryz.f469.ntmps [(4, none)] shOk Tryz.func469 rfl
noncomputable def g_470 : FnG Tryz.prog 470 := mkG Tryz.f470.ntmps [(2, none)] shOk Tryz.func470 rfl
noncomputable def g_471 : FnG Tryz.prog 471 := mkG Tryz.f471.ntmps [(2, none)] shOk Tryz.func471 rfl
noncomputable def g_477 : FnG Tryz.prog 477 := mkG Tryz.f477.ntmps [] shOk Tryz.func477 rfl
noncomputable def g_478 : FnG Tryz.prog 478 := mkG Tryz.f478.ntmps [] shOk Tryz.func478 rfl
noncomputable def g_492 : FnG Tryz.prog 492 := mkG Tryz.f492.ntmps [(4, none)] shOk Tryz.func492 rfl
noncomputable def g_497 : FnG Tryz.prog 497 := mkG Tryz.f497.ntmps [] shOk Tryz.func497 rfl
noncomputable def tab : Tab Tryz.prog := (.node 198 g_198 (.node 101 g_101 (.node 63 g_63 (.node 35 g_35 (.node 18 g_18 (.node 11 g_11 (.node 10 g_10 (.node 9 g_9 .leaf .leaf) .leaf) (.node 17 g_17 (.node 13 g_13 .leaf .leaf) .leaf)) (.node 21 g_21 (.node 20 g_20 (.node 19 g_19 .leaf .leaf) .leaf) (.node 34 g_34 (.node 33 g_33 .leaf .leaf) .leaf))) (.node 42 g_42 (.node 38 g_38 (.node 37 g_37 (.node 36 g_36 .leaf .leaf) .leaf) (.node 41 g_41 (.node 39 g_39 .leaf .leaf) .leaf)) (.node 51 g_51 (.node 50 g_50 (.node 49 g_49 .leaf .leaf) .leaf) (.node 62 g_62 .leaf .leaf)))) (.node 79 g_79 (.node 69 g_69 (.node 66 g_66 (.node 65 g_65 (.node 64 g_64 .leaf .leaf) .leaf) (.node 68 g_68 (.node 67 g_67 .leaf .leaf) .leaf)) (.node 74 g_74 (.node 71 g_71 (.node 70 g_70 .leaf .leaf) .leaf) (.node 76 g_76 (.node 75 g_75 .leaf .leaf) .leaf))) (.node 93 g_93 (.node 90 g_90 (.node 89 g_89 (.node 88 g_88 .leaf .leaf) .leaf) (.node 92 g_92 (.node 91 g_91 .leaf .leaf) .leaf)) (.node 96 g_96 (.node 95 g_95 (.node 94 g_94 .leaf .leaf) .leaf) (.node 100 g_100 .leaf .leaf))))) (.node 146 g_146 (.node 125 g_125 (.node 107 g_107 (.node 104 g_104 (.node 103 g_103 (.node 102 g_102 .leaf .leaf) .leaf) (.node 106 g_106 (.node 105 g_105 .leaf .leaf) .leaf)) (.node 118 g_118 (.node 109 g_109 (.node 108 g_108 .leaf .leaf) .leaf) (.node 124 g_124 (.node 123 g_123 .leaf .leaf) .leaf))) (.node 139 g_139 (.node 136 g_136 (.node 130 g_130 (.node 128 g_128 .leaf .leaf) .leaf) (.node 138 g_138 (.node 137 g_137 .leaf .leaf) .leaf)) (.node 144 g_144 (.node 141 g_141 (.node 140 g_140 .leaf .leaf) .leaf) (.node 145 g_145 .leaf .leaf)))) (.node 180 g_180 (.node 174 g_174 (.node 168 g_168 (.node 157 g_157 (.node 147 g_147 .leaf .leaf) .leaf) (.node 173 g_173 (.node 169 g_169 .leaf .leaf) .leaf)) (.node 178 g_178 (.node 177 g_177 (.node 175 g_175 .leaf .leaf) .leaf) (.node 179 g_179 .leaf .leaf))) (.node 189 g_189 (.node 186 g_186 (.node 182 g_182 (.node 181 g_181 .leaf .leaf) .leaf) (.node 188 g_188 (.node 187 g_187 .leaf .leaf) .leaf)) (.node 196 g_196 (.node 192 g_192 (.node 190 g_190 .leaf .leaf) .leaf) (.node 197 g_197 .leaf .leaf)))))) (.node 311 g_311 (.node 251 g_251 (.node 234 g_234 (.node 211 g_211 (.node 201 g_201 (.node 200 g_200 (.node 199 g_199 .leaf .leaf) .leaf) (.node 210 g_210 (.node 209 g_209 .leaf .leaf) .leaf)) (.node 221 g_221 (.node 220 g_220 (.node 219 g_219 .leaf .leaf) .leaf) (.node 233 g_233 (.node 232 g_232 .leaf .leaf) .leaf))) (.node 245 g_245 (.node 242 g_242 (.node 241 g_241 (.node 235 g_235 .leaf .leaf) .leaf) (.node 244 g_244 (.node 243 g_243 .leaf .leaf) .leaf)) (.node 248 g_248 (.node 247 g_247 (.node 246 g_246 .leaf .leaf) .leaf) (.node 249 g_249 .leaf .leaf)))) (.node 285 g_285 (.node 263 g_263 (.node 255 g_255 (.node 254 g_254 (.node 253 g_253 .leaf .leaf) .leaf) (.node 260 g_260 (.node 258 g_258 .leaf .leaf) .leaf)) (.node 279 g_279 (.node 272 g_272 (.node 268 g_268 .leaf .leaf) .leaf) (.node 284 g_284 .leaf .leaf))) (.node 304 g_304 (.node 289 g_289 (.node 288 g_288 (.node 286 g_286 .leaf .leaf) .leaf) (.node 302 g_302 (.node 290 g_290 .leaf .leaf) .leaf)) (.node 309 g_309 (.node 308 g_308 (.node 307 g_307 .leaf .leaf) .leaf) (.node 310 g_310 .leaf .leaf))))) (.node 394 g_394 (.node 365 g_365 (.node 334 g_334 (.node 315 g_315 (.node 314 g_314 (.node 312 g_312 .leaf .leaf) .leaf) (.node 333 g_333 (.node 316 g_316 .leaf .leaf) .leaf)) (.node 355 g_355 (.node 354 g_354 (.node 345 g_345 .leaf .leaf) .leaf) (.node 364 g_364 (.node 356 g_356 .leaf .leaf) .leaf))) (.node 379 g_379 (.node 375 g_375 (.node 367 g_367 (.node 366 g_366 .leaf .leaf) .leaf) (.node 378 g_378 (.node 377 g_377 .leaf .leaf) .leaf)) (.node 384 g_384 (.node 381 g_381 (.node 380 g_380 .leaf .leaf) .leaf) (.node 393 g_393 .leaf .leaf)))) (.node 448 g_448 (.node 422 g_422 (.node 419 g_419 (.node 418 g_418 (.node 395 g_395 .leaf .leaf) .leaf) (.node 421 g_421 (.node 420 g_420 .leaf .leaf) .leaf)) (.node 446 g_446 (.node 445 g_445 (.node 441 g_441 .leaf .leaf) .leaf) (.node 447 g_447 .leaf .leaf))) (.node 471 g_471 (.node 466 g_466 (.node 452 g_452 (.node 449 g_449 .leaf .leaf) .leaf) (.node 470 g_470 (.node 469 g_469 .leaf .leaf) .leaf)) (.node 492 g_492 (.node 478 g_478 (.node 477 g_477 .leaf .leaf) .leaf) (.node 497 g_497 .leaf .leaf)))))))
end Go.Abs
end
section
namespace Go.Abs
open Go.Proofs
theorem mkR {P : Program} {L : List (Nat × List Bool)} {f : FuncId} {fn : Func} (N : Nat) (rvs : List (Nat × Option (Option Nat))) {i0 i1 i2 i3 i4 j gx : Nat} {o0 o1 o2 o3 o4 : Array Oper} {ps : Array Tmp} {asg bd : Code} {a0 a1 a2 a3 a4 : List AOper}
    (hL : okE P L = true) (hf : P.funcs[f]? = some fn)
    (hb : fn.body = some (.seq (.region i0 o0 false) (.seq (.region i1 o1 false) (.seq (.seq (.region i2 o2 false) (.block j (.rangeFunc (.tmp gx) ps asg bd))) (.seq (.region i3 o3 false) (.seq (.region i4 o4 false) .ret))))))
    (h0 : copers2 P L N o0 o0.toList = some a0) (h1 : copers2 P L N o1 o1.toList = some a1) (h2 : copers2 P L N o2 o2.toList = some a2) (h3 : copers2 P L N o3 o3.toList = some a3) (h4 : copers2 P L N o4 o4.toList = some a4)
    (hN : fn.ntmps = N := by kernel_rfl) (hts : rvOf P fn.results.toList = some rvs := by kernel_rfl)
    (hname : (fn.name != "runtime.NumGoroutine") = true := by kernel_rfl) (hlt : (rvs.all fun p => p.1.blt N) = true := by decide) : GoodR P f ⟨N, a0, a1, a2, gx, a3, a4, rvs⟩ := by
  subst hN
  exact ⟨fn, i0, i1, i2, i3, i4, j, o0, o1, o2, o3, o4, ps, asg, bd, hf, hb, hname, copers2_eq hL h0, copers2_eq hL h1, copers2_eq hL h2, copers2_eq hL h3, copers2_eq hL h4, hts, hlt, rfl⟩
noncomputable def goodPairs : {R : RfT // GoodR Tryz.prog 269 R} := ⟨_, mkR Tryz.f269.ntmps [(2, none)] shOk Tryz.func269 rfl rfl rfl rfl rfl rfl⟩
noncomputable def leafs : Leafs Tryz.prog := rfLeaf hm tab 60 269 goodPairs.1 goodPairs.2
end Go.Abs
end
