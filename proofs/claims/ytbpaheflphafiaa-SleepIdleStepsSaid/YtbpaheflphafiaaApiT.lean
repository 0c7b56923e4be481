/- The data types of the program as Lean structures, and their cells. -/
import Derived.Test.YtbpaheflphafiaaAbs28
set_option linter.unusedSimpArgs false
set_option linter.unusedVariables false
set_option linter.unnecessarySimpa false
namespace Go.Api
open Go.Abs

def encInt (x : Int) : List AV := [.sc (.int .i64 x)]

structure Vec where
  X : Int
  Y : Int
  deriving DecidableEq, Inhabited
def Vec.enc (x : Vec) : List AV :=
  [.sc (.int .i64 x.X), .sc (.int .i64 x.Y)]
def Vec.zero : List AV := [.sc (.int .i64 0), .sc (.int .i64 0)]
theorem Vec.enc_length (x : Vec) : x.enc.length = 2 := rfl

structure Settings where
  TimeStep : Int
  Gravity : Vec
  Iterations : Int
  SleepSteps : Int
  deriving DecidableEq, Inhabited
def Settings.enc (x : Settings) : List AV :=
  [.sc (.int .i64 x.TimeStep), .sc (.int .i64 x.Gravity.X), .sc (.int .i64 x.Gravity.Y), .sc (.int .i64 x.Iterations), .sc (.int .i64 x.SleepSteps)]
def Settings.zero : List AV := [.sc (.int .i64 0), .sc (.int .i64 0), .sc (.int .i64 0), .sc (.int .i64 0), .sc (.int .i64 0)]
theorem Settings.enc_length (x : Settings) : x.enc.length = 5 := rfl

structure Transform where
  Position : Vec
  Angle : Int
  deriving DecidableEq, Inhabited
def Transform.enc (x : Transform) : List AV :=
  [.sc (.int .i64 x.Position.X), .sc (.int .i64 x.Position.Y), .sc (.int .i64 x.Angle)]
def Transform.zero : List AV := [.sc (.int .i64 0), .sc (.int .i64 0), .sc (.int .i64 0)]
theorem Transform.enc_length (x : Transform) : x.enc.length = 3 := rfl

structure Shape where
  Kind : Int
  Radius : Int
  Vertices : List Vec
  deriving DecidableEq, Inhabited
def Shape.enc (x : Shape) : List AV :=
  [.sc (.int .i64 x.Kind), .sc (.int .i64 x.Radius), encD 2 Vec.enc default x.Vertices]
def Shape.zero : List AV := [.sc (.int .i64 0), .sc (.int .i64 0), .sc (.slice none 0 0)]
theorem Shape.enc_length (x : Shape) : x.enc.length = 3 := rfl

structure Fixture where
  Shape : Shape
  Density : Int
  Friction : Int
  Restitution : Int
  Sensor : Bool
  Category : Int
  Mask : Int
  Group : Int
  deriving DecidableEq, Inhabited
def Fixture.enc (x : Fixture) : List AV :=
  [.sc (.int .i64 x.Shape.Kind), .sc (.int .i64 x.Shape.Radius), encD 2 Vec.enc default x.Shape.Vertices, .sc (.int .i64 x.Density), .sc (.int .i64 x.Friction), .sc (.int .i64 x.Restitution), .sc (.bool x.Sensor), .sc (.int .i64 x.Category), .sc (.int .i64 x.Mask), .sc (.int .i64 x.Group)]
def Fixture.zero : List AV := [.sc (.int .i64 0), .sc (.int .i64 0), .sc (.slice none 0 0), .sc (.int .i64 0), .sc (.int .i64 0), .sc (.int .i64 0), .sc (.bool false), .sc (.int .i64 0), .sc (.int .i64 0), .sc (.int .i64 0)]
theorem Fixture.enc_length (x : Fixture) : x.enc.length = 10 := rfl

structure Body where
  ID : Int
  Kind : Int
  Transform : Transform
  Velocity : Vec
  AngularVelocity : Int
  Force : Vec
  Torque : Int
  LinearDamping : Int
  AngularDamping : Int
  GravityScale : Int
  Bullet : Bool
  FixedRotation : Bool
  NoSleep : Bool
  Asleep : Bool
  IdleSteps : Int
  Fixtures : List Fixture
  deriving DecidableEq, Inhabited
def Body.enc (x : Body) : List AV :=
  [.sc (.int .i64 x.ID), .sc (.int .i64 x.Kind), .sc (.int .i64 x.Transform.Position.X), .sc (.int .i64 x.Transform.Position.Y), .sc (.int .i64 x.Transform.Angle), .sc (.int .i64 x.Velocity.X), .sc (.int .i64 x.Velocity.Y), .sc (.int .i64 x.AngularVelocity), .sc (.int .i64 x.Force.X), .sc (.int .i64 x.Force.Y), .sc (.int .i64 x.Torque), .sc (.int .i64 x.LinearDamping), .sc (.int .i64 x.AngularDamping), .sc (.int .i64 x.GravityScale), .sc (.bool x.Bullet), .sc (.bool x.FixedRotation), .sc (.bool x.NoSleep), .sc (.bool x.Asleep), .sc (.int .i64 x.IdleSteps), encD 10 Fixture.enc default x.Fixtures]
def Body.zero : List AV := [.sc (.int .i64 0), .sc (.int .i64 0), .sc (.int .i64 0), .sc (.int .i64 0), .sc (.int .i64 0), .sc (.int .i64 0), .sc (.int .i64 0), .sc (.int .i64 0), .sc (.int .i64 0), .sc (.int .i64 0), .sc (.int .i64 0), .sc (.int .i64 0), .sc (.int .i64 0), .sc (.int .i64 0), .sc (.bool false), .sc (.bool false), .sc (.bool false), .sc (.bool false), .sc (.int .i64 0), .sc (.slice none 0 0)]
theorem Body.enc_length (x : Body) : x.enc.length = 20 := rfl

structure Four where
  I0 : Int
  I1 : Int
  I2 : Int
  I3 : Int
  deriving DecidableEq, Inhabited
def Four.enc (x : Four) : List AV :=
  [.sc (.int .i64 x.I0), .sc (.int .i64 x.I1), .sc (.int .i64 x.I2), .sc (.int .i64 x.I3)]
def Four.zero : List AV := [.sc (.int .i64 0), .sc (.int .i64 0), .sc (.int .i64 0), .sc (.int .i64 0)]
theorem Four.enc_length (x : Four) : x.enc.length = 4 := rfl

structure Joint where
  ID : Int
  Kind : Int
  BodyA : Int
  BodyB : Int
  AnchorA : Vec
  AnchorB : Vec
  Axis : Vec
  ReferenceAngle : Int
  EnableLimit : Bool
  Lower : Int
  Upper : Int
  EnableMotor : Bool
  MotorSpeed : Int
  MaxForce : Int
  Softness : Int
  BreakForce : Int
  CollideConnected : Bool
  Impulses : Four
  deriving DecidableEq, Inhabited
def Joint.enc (x : Joint) : List AV :=
  [.sc (.int .i64 x.ID), .sc (.int .i64 x.Kind), .sc (.int .i64 x.BodyA), .sc (.int .i64 x.BodyB), .sc (.int .i64 x.AnchorA.X), .sc (.int .i64 x.AnchorA.Y), .sc (.int .i64 x.AnchorB.X), .sc (.int .i64 x.AnchorB.Y), .sc (.int .i64 x.Axis.X), .sc (.int .i64 x.Axis.Y), .sc (.int .i64 x.ReferenceAngle), .sc (.bool x.EnableLimit), .sc (.int .i64 x.Lower), .sc (.int .i64 x.Upper), .sc (.bool x.EnableMotor), .sc (.int .i64 x.MotorSpeed), .sc (.int .i64 x.MaxForce), .sc (.int .i64 x.Softness), .sc (.int .i64 x.BreakForce), .sc (.bool x.CollideConnected), .sc (.int .i64 x.Impulses.I0), .sc (.int .i64 x.Impulses.I1), .sc (.int .i64 x.Impulses.I2), .sc (.int .i64 x.Impulses.I3)]
def Joint.zero : List AV := [.sc (.int .i64 0), .sc (.int .i64 0), .sc (.int .i64 0), .sc (.int .i64 0), .sc (.int .i64 0), .sc (.int .i64 0), .sc (.int .i64 0), .sc (.int .i64 0), .sc (.int .i64 0), .sc (.int .i64 0), .sc (.int .i64 0), .sc (.bool false), .sc (.int .i64 0), .sc (.int .i64 0), .sc (.bool false), .sc (.int .i64 0), .sc (.int .i64 0), .sc (.int .i64 0), .sc (.int .i64 0), .sc (.bool false), .sc (.int .i64 0), .sc (.int .i64 0), .sc (.int .i64 0), .sc (.int .i64 0)]
theorem Joint.enc_length (x : Joint) : x.enc.length = 24 := rfl

structure PairKey where
  BodyA : Int
  FixtureA : Int
  BodyB : Int
  FixtureB : Int
  deriving DecidableEq, Inhabited
def PairKey.enc (x : PairKey) : List AV :=
  [.sc (.int .i64 x.BodyA), .sc (.int .i64 x.FixtureA), .sc (.int .i64 x.BodyB), .sc (.int .i64 x.FixtureB)]
def PairKey.zero : List AV := [.sc (.int .i64 0), .sc (.int .i64 0), .sc (.int .i64 0), .sc (.int .i64 0)]
theorem PairKey.enc_length (x : PairKey) : x.enc.length = 4 := rfl

structure ContactPoint where
  Point : Vec
  Separation : Int
  ID : Int
  NormalImpulse : Int
  TangentImpulse : Int
  deriving DecidableEq, Inhabited
def ContactPoint.enc (x : ContactPoint) : List AV :=
  [.sc (.int .i64 x.Point.X), .sc (.int .i64 x.Point.Y), .sc (.int .i64 x.Separation), .sc (.int .i64 x.ID), .sc (.int .i64 x.NormalImpulse), .sc (.int .i64 x.TangentImpulse)]
def ContactPoint.zero : List AV := [.sc (.int .i64 0), .sc (.int .i64 0), .sc (.int .i64 0), .sc (.int .i64 0), .sc (.int .i64 0), .sc (.int .i64 0)]
theorem ContactPoint.enc_length (x : ContactPoint) : x.enc.length = 6 := rfl

structure Manifold where
  Normal : Vec
  Points : List ContactPoint
  deriving DecidableEq, Inhabited
def Manifold.enc (x : Manifold) : List AV :=
  [.sc (.int .i64 x.Normal.X), .sc (.int .i64 x.Normal.Y), encD 6 ContactPoint.enc default x.Points]
def Manifold.zero : List AV := [.sc (.int .i64 0), .sc (.int .i64 0), .sc (.slice none 0 0)]
theorem Manifold.enc_length (x : Manifold) : x.enc.length = 3 := rfl

structure Contact where
  Key : PairKey
  Manifold : Manifold
  deriving DecidableEq, Inhabited
def Contact.enc (x : Contact) : List AV :=
  [.sc (.int .i64 x.Key.BodyA), .sc (.int .i64 x.Key.FixtureA), .sc (.int .i64 x.Key.BodyB), .sc (.int .i64 x.Key.FixtureB), .sc (.int .i64 x.Manifold.Normal.X), .sc (.int .i64 x.Manifold.Normal.Y), encD 6 ContactPoint.enc default x.Manifold.Points]
def Contact.zero : List AV := [.sc (.int .i64 0), .sc (.int .i64 0), .sc (.int .i64 0), .sc (.int .i64 0), .sc (.int .i64 0), .sc (.int .i64 0), .sc (.slice none 0 0)]
theorem Contact.enc_length (x : Contact) : x.enc.length = 7 := rfl

structure World where
  Settings : Settings
  Bodies : List Body
  Joints : List Joint
  Contacts : List Contact
  Overlaps : List PairKey
  NextID : Int
  Frame : Int
  deriving DecidableEq, Inhabited
def World.enc (x : World) : List AV :=
  [.sc (.int .i64 x.Settings.TimeStep), .sc (.int .i64 x.Settings.Gravity.X), .sc (.int .i64 x.Settings.Gravity.Y), .sc (.int .i64 x.Settings.Iterations), .sc (.int .i64 x.Settings.SleepSteps), encD 20 Body.enc default x.Bodies, encD 24 Joint.enc default x.Joints, encD 7 Contact.enc default x.Contacts, encD 4 PairKey.enc default x.Overlaps, .sc (.int .i64 x.NextID), .sc (.int .i64 x.Frame)]
def World.zero : List AV := [.sc (.int .i64 0), .sc (.int .i64 0), .sc (.int .i64 0), .sc (.int .i64 0), .sc (.int .i64 0), .sc (.slice none 0 0), .sc (.slice none 0 0), .sc (.slice none 0 0), .sc (.slice none 0 0), .sc (.int .i64 0), .sc (.int .i64 0)]
theorem World.enc_length (x : World) : x.enc.length = 11 := rfl

structure Island where
  Bodies : List Int
  Contacts : List Int
  Joints : List Int
  deriving DecidableEq, Inhabited
def Island.enc (x : Island) : List AV :=
  [encD 1 encInt 0 x.Bodies, encD 1 encInt 0 x.Contacts, encD 1 encInt 0 x.Joints]
def Island.zero : List AV := [.sc (.slice none 0 0), .sc (.slice none 0 0), .sc (.slice none 0 0)]
theorem Island.enc_length (x : Island) : x.enc.length = 3 := rfl
attribute [go_sem] encInt Vec.enc Vec.zero Settings.enc Settings.zero Transform.enc Transform.zero Shape.enc Shape.zero Fixture.enc Fixture.zero Body.enc Body.zero Four.enc Four.zero Joint.enc Joint.zero PairKey.enc PairKey.zero ContactPoint.enc ContactPoint.zero Manifold.enc Manifold.zero Contact.enc Contact.zero World.enc World.zero Island.enc Island.zero
end Go.Api
