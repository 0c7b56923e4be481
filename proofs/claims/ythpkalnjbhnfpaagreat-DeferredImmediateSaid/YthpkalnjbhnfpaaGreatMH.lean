/- A part of the proof: contracts of functions that the statement reaches. -/
import Derived.Test.YthpkalnjbhnfpaaGreatMG
set_option linter.unusedSimpArgs false
set_option linter.unusedVariables false
set_option linter.unnecessarySimpa false
set_option maxRecDepth 100000
set_option maxHeartbeats 2000000
section
namespace Go.Abs
open Go.Proofs
open Api
def N5(w:Api.World)(j:Joint):Bool:=let v1:=(Q7 w j.BodyB);let v2:=(Q7 w j.BodyA);((decide (0≤v1))&&((j.Kind==5)||(decide (0≤v2))))
theorem A44(w:Api.World)(j:Joint)(hl:w.Bodies.length≤1048576):A5 Tryz.prog B74 [.agg w.enc, .agg j.enc] [] (.sc (.bool (N5 w j))) []:=by
 refine en1 hm A1 Tryz.func114 rfl rfl ?_;have:=A0t w j.BodyB
 have:=U6
 have:=A0t w j.BodyA
 have:=N5.eq_1 w j;exact D3
def A1k(w:Api.World)(k:B2):Bool:=let v1:=(Q7 w k.BodyA);let v2:=(Q7 w k.BodyB);((((decide (0≤v1))&&(decide (0≤v2)))&&(decide (k.FixtureA<((w.Bodies.getD v1.toNat default).Fixtures.length:Int))))&&(decide (k.FixtureB<((w.Bodies.getD v2.toNat default).Fixtures.length:Int))))
theorem B4s(w:Api.World)(k:B2)(hl:w.Bodies.length≤1048576):A5 Tryz.prog B41 [.agg w.enc, .agg k.enc] [] (.sc (.bool (A1k w k))) []:=by
 refine en1 hm A1 Tryz.func121 rfl rfl ?_;have:=A0t w k.BodyA
 have:=U6
 have:=A0t w k.BodyB
 have:=A1k.eq_1 w k;exact D3
def U8(w:Api.World)(id:Int)(n:Int):Bool:=let v1:=(Q7 w id);(((decide (0≤v1))&&(decide (0≤n)))&&(decide (n<((w.Bodies.getD v1.toNat default).Fixtures.length:Int))))
theorem D12(w:Api.World)(id:Int)(n:Int)(hl:w.Bodies.length≤1048576):A5 Tryz.prog D05 [.agg w.enc, .sc (.int .i64 id), .sc (.int .i64 n)] [] (.sc (.bool (U8 w id n))) []:=by
 refine en1 hm A1 Tryz.func110 rfl rfl ?_;have:=A0t w id
 have:=A8v
 have:=U8.eq_1 w id n;exact D3
def A6h(w:Api.World)(l:List B2)(i1:Nat)(s1:Unit):(Unit) ⊕ (Bool):=let v1:=(U8 w (l.getD i1 default).BodyA (l.getD i1 default).FixtureA);let v2:=(U8 w (l.getD i1 default).BodyB (l.getD i1 default).FixtureB);if((!v1)||(!v2))=true then(.inr false)else(.inl ())
def Z2(w:Api.World)(l:List B2):Bool:=(match D0 (A6h w l) l.length ()with | .inr r=>r | .inl s1=>true)
theorem B4m(w:Api.World)(l:List B2)(hl:w.Bodies.length≤1048576)(hk:l.length≤1048576):A5 Tryz.prog C61 [.agg w.enc,B4 4 B2.enc default l] [] (.sc (.bool (Z2 w l))) []:=by
 refine en1 hm A1 Tryz.func54 rfl rfl ?_;have:=D12
 have:=Z2.eq_1 w l
 have:=fun i_ s_=>A6h.eq_1 w l i_ s_
 have:=fun x_ Q_ σ_=> @lp_ Tryz.prog Tryz.f54.ntmps [] x_ Q_ σ_ hm (IE (A6h w l) ()) (fun _=>True) l.length (fun i_=> [(1, .share,B4 4 B2.enc default l),(2, .share, .ptr 48 0 0 1),(5, .share, .sc (.int .i64 (i_:Int)))]) (fun i_=> [(48, .box [.sc (.int .i64 w.Settings.TimeStep), .sc (.int .i64 w.Settings.Gravity.X), .sc (.int .i64 w.Settings.Gravity.Y), .sc (.int .i64 w.Settings.Iterations), .sc (.int .i64 w.Settings.SleepSteps),B4 20 Body.enc default w.Bodies,B4 24 Joint.enc default w.Joints,B4 7 D5.enc default w.Contacts,B4 4 B2.enc default w.Overlaps, .sc (.int .i64 w.NextID), .sc (.int .i64 w.Frame)])]) [] rfl (fun _ _=>trivial) (by simp[go_sem]) (by simp[go_sem,A9]) (by simp[go_sem]);exact A2x
def A1n(w:Api.World)(j:Joint):Bool:=let v1:=(Q7 w j.BodyA);let v2:=(Q7 w j.BodyB);(((j.BodyA==0)||(decide (0≤v1)))&&((j.BodyB==0)||(decide (0≤v2))))
theorem C5x(w:Api.World)(j:Joint)(hl:w.Bodies.length≤1048576):A5 Tryz.prog C4u [.agg w.enc, .agg j.enc] [] (.sc (.bool (A1n w j))) []:=by
 refine en1 hm A1 Tryz.func50 rfl rfl ?_;have:=A0t w j.BodyA
 have:=A8v
 have:=A0t w j.BodyB
 have:=A1n.eq_1 w j;exact D3
def A1d(b:Body)(i1:Nat)(s1:Unit):(Unit) ⊕ (Int):=let v2:=(X0 (b.Fixtures.getD i1 default));if(v2 != 0)=true then(.inr 13)else(.inl ())
def A0a(b:Body):Int:=if(((b.Kind != 1)&&(b.Kind != 2))&&(b.Kind != 3))=true then(10)else(let v1:=(A3w b);if v1=false then(6)else(if 4<(b.Fixtures.length:Int)then(11)else((match D0 (A1d b) b.Fixtures.length ()with | .inr r=>r | .inl s1=>let v3:=(A3l b);if v3=false then(14)else(0)))))
theorem A8h(b:Body)(hb:Body.sm b):A5 Tryz.prog C5w [.agg b.enc] [] (.sc (.int .i64 (A0a b))) []:=by
 refine en1 hm A1 Tryz.func112 rfl rfl ?_;have:=hb.1
 have:=fun i (h:i<b.Fixtures.length)=>hb.2 _ (D6 default h)
 have:=C6s
 have:=B32
 have:=C11
 have:=A0a.eq_1 b
 have:=fun i_ s_=>A1d.eq_1 b i_ s_
 have:=fun x_ Q_ σ_=> @lp_ Tryz.prog Tryz.f112.ntmps [] x_ Q_ σ_ hm (IE (A1d b) ()) (fun _=>True) b.Fixtures.length (fun i_=> [(1, .share, .ptr 32 0 0 1),(26, .share,B4 10 Fixture.enc default b.Fixtures),(27, .share, .sc (.int .i64 (b.Fixtures.length:Int))),(28, .share, .sc (.int .i64 (i_:Int)))]) (fun i_=> [(32, .box [.sc (.int .i64 b.ID), .sc (.int .i64 b.Kind), .sc (.int .i64 b.Transform.Position.X), .sc (.int .i64 b.Transform.Position.Y), .sc (.int .i64 b.Transform.Angle), .sc (.int .i64 b.Velocity.X), .sc (.int .i64 b.Velocity.Y), .sc (.int .i64 b.AngularVelocity), .sc (.int .i64 b.Force.X), .sc (.int .i64 b.Force.Y), .sc (.int .i64 b.Torque), .sc (.int .i64 b.LinearDamping), .sc (.int .i64 b.AngularDamping), .sc (.int .i64 b.GravityScale), .sc (.bool b.Bullet), .sc (.bool b.FixedRotation), .sc (.bool b.NoSleep), .sc (.bool b.Asleep), .sc (.int .i64 b.IdleSteps),B4 10 Fixture.enc default b.Fixtures])]) [] rfl (fun _ _=>trivial) (by simp[go_sem]) (by simp[go_sem,A9]) (by simp[go_sem]);exact A2x
def A0l(b:Body)(i1:Nat)(s1:Unit):(Unit) ⊕ (Int):=let v2:=(Y5 (b.Fixtures.getD i1 default));if(v2 != 0)=true then(.inr 13)else(.inl ())
def S5(b:Body):Int:=if(((b.Kind != 1)&&(b.Kind != 2))&&(b.Kind != 3))=true then(10)else(let v1:=(A2r b);if v1=false then(6)else(if 4<(b.Fixtures.length:Int)then(11)else((match D0 (A0l b) b.Fixtures.length ()with | .inr r=>r | .inl s1=>if((((b.Kind==1)&&(((!((b.Velocity.X==0)&&(b.Velocity.Y==0)))||(b.AngularVelocity != 0))||((!((b.Force.X==0)&&(b.Force.Y==0)))||(b.Torque != 0))))||((b.Kind != 3)&&(b.Asleep||b.Bullet)))||(b.Asleep&&((!((b.Velocity.X==0)&&(b.Velocity.Y==0)))||(b.AngularVelocity != 0))))=true then(14)else(0)))))
theorem C6l(b:Body)(hb:Body.sm b):A5 Tryz.prog C7x [.agg b.enc] [] (.sc (.int .i64 (S5 b))) []:=by
 refine en1 hm A1 Tryz.func48 rfl rfl ?_;have:=hb.1
 have:=fun i (h:i<b.Fixtures.length)=>hb.2 _ (D6 default h)
 have:=C83
 have:=B42
 have:=S5.eq_1 b
 have:=fun i_ s_=>A0l.eq_1 b i_ s_
 have:=fun x_ Q_ σ_=> @lp_ Tryz.prog Tryz.f48.ntmps [] x_ Q_ σ_ hm (IE (A0l b) ()) (fun _=>True) b.Fixtures.length (fun i_=> [(1, .share, .ptr 32 0 0 1),(3, .share, .sc (.int .i64 (i_:Int)))]) (fun i_=> [(32, .box [.sc (.int .i64 b.ID), .sc (.int .i64 b.Kind), .sc (.int .i64 b.Transform.Position.X), .sc (.int .i64 b.Transform.Position.Y), .sc (.int .i64 b.Transform.Angle), .sc (.int .i64 b.Velocity.X), .sc (.int .i64 b.Velocity.Y), .sc (.int .i64 b.AngularVelocity), .sc (.int .i64 b.Force.X), .sc (.int .i64 b.Force.Y), .sc (.int .i64 b.Torque), .sc (.int .i64 b.LinearDamping), .sc (.int .i64 b.AngularDamping), .sc (.int .i64 b.GravityScale), .sc (.bool b.Bullet), .sc (.bool b.FixedRotation), .sc (.bool b.NoSleep), .sc (.bool b.Asleep), .sc (.int .i64 b.IdleSteps),B4 10 Fixture.enc default b.Fixtures])]) [] rfl (fun _ _=>trivial) (by simp[go_sem]) (by simp[go_sem,A9]) (by simp[go_sem]);exact A2x
def K5(j:Joint)(i1:Nat)(s1:Unit):(Unit) ⊕ (Bool):=if(inR ([j.Impulses.I0,j.Impulses.I1,j.Impulses.I2,j.Impulses.I3].getD i1 0) (-536870911) 536870911)=false then(.inr false)else(.inl ())
def K6(j:Joint)(i2:Nat)(s2:Unit):(Unit) ⊕ (Bool):=if(inR ([j.Impulses.I0,j.Impulses.I1,j.Impulses.I2,j.Impulses.I3].getD i2 0) (-536870911) 536870911)=false then(.inr false)else(.inl ())
def H9(j:Joint):Bool:=if(j.Kind==5)=true then(let v1:=(J9 j.Kind);(match D0 (K5 j) 4 ()with | .inr r=>r | .inl s1=>let v4:=(J6 j.AnchorA 268435456);let v5:=(J6 j.AnchorB 1048576);(((((((((((inR j.ID 1 1099511627776)&&v4)&&v5)&&(inR j.ReferenceAngle (-205888) 205887))&&(inR j.Lower v1.1 v1.2))&&(inR j.Upper v1.1 v1.2))&&(decide (j.Lower≤j.Upper)))&&(inR j.MotorSpeed (-16777216) 16777216))&&(inR j.MaxForce 0 536870911))&&(inR j.Softness 0 536870911))&&(inR j.BreakForce 0 536870911))))else(let v13:=(J9 j.Kind);(match D0 (K6 j) 4 ()with | .inr r=>r | .inl s2=>let v16:=(J6 j.AnchorA 1048576);let v17:=(J6 j.AnchorB 1048576);(((((((((((inR j.ID 1 1099511627776)&&v16)&&v17)&&(inR j.ReferenceAngle (-205888) 205887))&&(inR j.Lower v13.1 v13.2))&&(inR j.Upper v13.1 v13.2))&&(decide (j.Lower≤j.Upper)))&&(inR j.MotorSpeed (-16777216) 16777216))&&(inR j.MaxForce 0 536870911))&&(inR j.Softness 0 536870911))&&(inR j.BreakForce 0 536870911))))
theorem B4g(j:Joint):A5 Tryz.prog B39 [.agg j.enc] [] (.sc (.bool (H9 j))) []:=by
 refine en1 hm A1 Tryz.func216 rfl rfl ?_;simp only[go_sem,A4,A6,A3,A2]
 (repeat(with_reducible refine And.intro ?_ ?_;focus (first |exact B0 |(exact ob_))))
 by_cases h1:(j.Kind==5)=true
 ·first |rw[if_pos h1] |rw[if_pos (by simp_all)] |rw[if_pos (by omega)]
  (repeat(with_reducible refine And.intro ?_ ?_;focus (first |exact B0 |(exact ob_))))
  refine A0 (A9y j.Kind) rfl ?_;generalize hv1:(J9 j.Kind)=v1;simp only[go_sem,A4,A6,A3,A2]
  (repeat(with_reducible refine And.intro ?_ ?_;focus (first |exact B0 |(exact ob_))))
  refine C6 hm (ι:= {p:Nat×Unit // p.1≤4∧D0 (K5 j) p.1 ()= .inl p.2}) (fun i=> [(1, .share, .ptr 32 0 0 1),(3, .share, .sc (.int .i64 268435456)),(4, .share, .sc (.int .i64 v1.1)),(5, .share, .sc (.int .i64 v1.2)),(18, .share, .agg [.sc (.int .i64 j.Impulses.I0), .sc (.int .i64 j.Impulses.I1), .sc (.int .i64 j.Impulses.I2), .sc (.int .i64 j.Impulses.I3)]),(19, .share, .sc (.int .i64 (i.1.1:Int)))]) (fun i=> [(32, .box [.sc (.int .i64 j.ID), .sc (.int .i64 j.Kind), .sc (.int .i64 j.BodyA), .sc (.int .i64 j.BodyB), .sc (.int .i64 j.AnchorA.X), .sc (.int .i64 j.AnchorA.Y), .sc (.int .i64 j.AnchorB.X), .sc (.int .i64 j.AnchorB.Y), .sc (.int .i64 j.Axis.X), .sc (.int .i64 j.Axis.Y), .sc (.int .i64 j.ReferenceAngle), .sc (.bool j.EnableLimit), .sc (.int .i64 j.Lower), .sc (.int .i64 j.Upper), .sc (.bool j.EnableMotor), .sc (.int .i64 j.MotorSpeed), .sc (.int .i64 j.MaxForce), .sc (.int .i64 j.Softness), .sc (.int .i64 j.BreakForce), .sc (.bool j.CollideConnected), .sc (.int .i64 j.Impulses.I0), .sc (.int .i64 j.Impulses.I1), .sc (.int .i64 j.Impulses.I2), .sc (.int .i64 j.Impulses.I3)])]) (fun i=>4-i.1.1) ⟨(0,()),by omega,rfl⟩ ?_ ?_
  ·refine F9 [] [] ?_;simp only[go_sem,A4,A6,A3,A2,B6]
   all_goals exact F4
  ·rintro⟨⟨i1,s1⟩,hi1,hs1⟩;replace hi1:i1≤4:=hi1;replace hs1:D0 (K5 j) i1 ()= .inl s1:=hs1;simp only[go_sem,A4,A6,A3,A2]
   (repeat(with_reducible refine And.intro ?_ ?_;focus (first |exact B0 |(exact ob_))))
   by_cases h2:(i1:Int)<4
   ·first |rw[if_pos h2] |rw[if_pos (by simp_all)] |rw[if_pos (by omega)]
    have hlt1:i1<4:=by first |omega |(simp only[IntKind.wrap_i64]at h2;omega)
    (repeat(with_reducible refine And.intro ?_ ?_;focus (first |exact B0 |(exact ob_))))
    rw[E11 (show i1<4 by omega)];refine A0 (F1 ([j.Impulses.I0,j.Impulses.I1,j.Impulses.I2,j.Impulses.I3].getD i1 0) (-536870911) 536870911) rfl ?_;simp only[go_sem,A4,A6,A3,A2]
    (repeat(with_reducible refine And.intro ?_ ?_;focus (first |exact B0 |(exact ob_))))
    by_cases h3:(inR ([j.Impulses.I0,j.Impulses.I1,j.Impulses.I2,j.Impulses.I3].getD i1 0) (-536870911) 536870911)=false
    ·first |rw[if_pos h3] |rw[if_pos (by simp_all)] |rw[if_pos (by omega)]
     (repeat(with_reducible refine And.intro ?_ ?_;focus (first |exact B0 |(exact ob_))))
     have e1:D0 (K5 j) (i1+1) ()= .inr false:=K3 hs1 (by first |with_reducible rfl |(unfold K5;exact hd_));replace e1:=U5 e1 (show i1+1≤4 by omega);have hd:H9 j=false:=by first |with_reducible rfl |(unfold H9;exact hd_)
     try rw[hd]
     try simp only[go_sem,A4,A6,A3,A2]
     all_goals exact F4
    ·first |rw[if_neg h3] |rw[if_neg (by simp_all)] |rw[if_neg (by omega)]
     (repeat(with_reducible refine And.intro ?_ ?_;focus (first |exact B0 |(exact ob_))))
     have hn:D0 (K5 j) (i1+1) ()= .inl ():=K3 hs1 (by first |with_reducible rfl |(unfold K5;exact hd_));refine B8 ⟨(i1+1,()),by omega,hn⟩ (by show 4-(i1+1)<4-i1;omega) (F9 [] [] ?_);simp only[go_sem,A4,A6,A3,A2]
     all_goals exact F4
   ·first |rw[if_neg h2] |rw[if_neg (by simp_all)] |rw[if_neg (by omega)]
    (repeat(with_reducible refine And.intro ?_ ?_;focus (first |exact B0 |(exact ob_))))
    have hge:i1=4:=by first |omega |(simp only[IntKind.wrap_i64]at h2;omega)
    subst hge;refine A0 (F1 j.ID 1 1099511627776) rfl ?_;simp only[go_sem,A4,A6,A3,A2]
    (repeat(with_reducible refine And.intro ?_ ?_;focus (first |exact B0 |(exact ob_))))
    refine A0 (A13 j.AnchorA 268435456) rfl ?_;generalize hv4:(J6 j.AnchorA 268435456)=v4;simp only[go_sem,A4,A6,A3,A2]
    (repeat(with_reducible refine And.intro ?_ ?_;focus (first |exact B0 |(exact ob_))))
    refine A0 (A13 j.AnchorB 1048576) rfl ?_;generalize hv5:(J6 j.AnchorB 1048576)=v5;simp only[go_sem,A4,A6,A3,A2]
    (repeat(with_reducible refine And.intro ?_ ?_;focus (first |exact B0 |(exact ob_))))
    refine A0 (F1 j.ReferenceAngle (-205888) 205887) rfl ?_;simp only[go_sem,A4,A6,A3,A2]
    (repeat(with_reducible refine And.intro ?_ ?_;focus (first |exact B0 |(exact ob_))))
    refine A0 (F1 j.Lower v1.1 v1.2) rfl ?_;simp only[go_sem,A4,A6,A3,A2]
    (repeat(with_reducible refine And.intro ?_ ?_;focus (first |exact B0 |(exact ob_))))
    refine A0 (F1 j.Upper v1.1 v1.2) rfl ?_;simp only[go_sem,A4,A6,A3,A2]
    (repeat(with_reducible refine And.intro ?_ ?_;focus (first |exact B0 |(exact ob_))))
    refine A0 (F1 j.MotorSpeed (-16777216) 16777216) rfl ?_;simp only[go_sem,A4,A6,A3,A2]
    (repeat(with_reducible refine And.intro ?_ ?_;focus (first |exact B0 |(exact ob_))))
    refine A0 (F1 j.MaxForce 0 536870911) rfl ?_;simp only[go_sem,A4,A6,A3,A2]
    (repeat(with_reducible refine And.intro ?_ ?_;focus (first |exact B0 |(exact ob_))))
    refine A0 (F1 j.Softness 0 536870911) rfl ?_;simp only[go_sem,A4,A6,A3,A2]
    (repeat(with_reducible refine And.intro ?_ ?_;focus (first |exact B0 |(exact ob_))))
    refine A0 (F1 j.BreakForce 0 536870911) rfl ?_;simp only[go_sem,A4,A6,A3,A2]
    (repeat(with_reducible refine And.intro ?_ ?_;focus (first |exact B0 |(exact ob_))))
    have hd:H9 j=(((((((((((inR j.ID 1 1099511627776)&&v4)&&v5)&&(inR j.ReferenceAngle (-205888) 205887))&&(inR j.Lower v1.1 v1.2))&&(inR j.Upper v1.1 v1.2))&&(decide (j.Lower≤j.Upper)))&&(inR j.MotorSpeed (-16777216) 16777216))&&(inR j.MaxForce 0 536870911))&&(inR j.Softness 0 536870911))&&(inR j.BreakForce 0 536870911)):=by first |with_reducible rfl |(unfold H9;exact hd_)
    try rw[hd]
    try simp only[go_sem,A4,A6,A3,A2]
    all_goals exact F4
 ·first |rw[if_neg h1] |rw[if_neg (by simp_all)] |rw[if_neg (by omega)]
  (repeat(with_reducible refine And.intro ?_ ?_;focus (first |exact B0 |(exact ob_))))
  refine A0 (A9y j.Kind) rfl ?_;generalize hv13:(J9 j.Kind)=v13;simp only[go_sem,A4,A6,A3,A2]
  (repeat(with_reducible refine And.intro ?_ ?_;focus (first |exact B0 |(exact ob_))))
  refine C6 hm (ι:= {p:Nat×Unit // p.1≤4∧D0 (K6 j) p.1 ()= .inl p.2}) (fun i=> [(1, .share, .ptr 32 0 0 1),(3, .share, .sc (.int .i64 1048576)),(4, .share, .sc (.int .i64 v13.1)),(5, .share, .sc (.int .i64 v13.2)),(18, .share, .agg [.sc (.int .i64 j.Impulses.I0), .sc (.int .i64 j.Impulses.I1), .sc (.int .i64 j.Impulses.I2), .sc (.int .i64 j.Impulses.I3)]),(19, .share, .sc (.int .i64 (i.1.1:Int)))]) (fun i=> [(32, .box [.sc (.int .i64 j.ID), .sc (.int .i64 j.Kind), .sc (.int .i64 j.BodyA), .sc (.int .i64 j.BodyB), .sc (.int .i64 j.AnchorA.X), .sc (.int .i64 j.AnchorA.Y), .sc (.int .i64 j.AnchorB.X), .sc (.int .i64 j.AnchorB.Y), .sc (.int .i64 j.Axis.X), .sc (.int .i64 j.Axis.Y), .sc (.int .i64 j.ReferenceAngle), .sc (.bool j.EnableLimit), .sc (.int .i64 j.Lower), .sc (.int .i64 j.Upper), .sc (.bool j.EnableMotor), .sc (.int .i64 j.MotorSpeed), .sc (.int .i64 j.MaxForce), .sc (.int .i64 j.Softness), .sc (.int .i64 j.BreakForce), .sc (.bool j.CollideConnected), .sc (.int .i64 j.Impulses.I0), .sc (.int .i64 j.Impulses.I1), .sc (.int .i64 j.Impulses.I2), .sc (.int .i64 j.Impulses.I3)])]) (fun i=>4-i.1.1) ⟨(0,()),by omega,rfl⟩ ?_ ?_
  ·refine F9 [] [] ?_;simp only[go_sem,A4,A6,A3,A2,B6]
   all_goals exact F4
  ·rintro⟨⟨i2,s2⟩,hi2,hs2⟩;replace hi2:i2≤4:=hi2;replace hs2:D0 (K6 j) i2 ()= .inl s2:=hs2;simp only[go_sem,A4,A6,A3,A2]
   (repeat(with_reducible refine And.intro ?_ ?_;focus (first |exact B0 |(exact ob_))))
   by_cases h4:(i2:Int)<4
   ·first |rw[if_pos h4] |rw[if_pos (by simp_all)] |rw[if_pos (by omega)]
    have hlt2:i2<4:=by first |omega |(simp only[IntKind.wrap_i64]at h4;omega)
    (repeat(with_reducible refine And.intro ?_ ?_;focus (first |exact B0 |(exact ob_))))
    rw[E11 (show i2<4 by omega)];refine A0 (F1 ([j.Impulses.I0,j.Impulses.I1,j.Impulses.I2,j.Impulses.I3].getD i2 0) (-536870911) 536870911) rfl ?_;simp only[go_sem,A4,A6,A3,A2]
    (repeat(with_reducible refine And.intro ?_ ?_;focus (first |exact B0 |(exact ob_))))
    by_cases h5:(inR ([j.Impulses.I0,j.Impulses.I1,j.Impulses.I2,j.Impulses.I3].getD i2 0) (-536870911) 536870911)=false
    ·first |rw[if_pos h5] |rw[if_pos (by simp_all)] |rw[if_pos (by omega)]
     (repeat(with_reducible refine And.intro ?_ ?_;focus (first |exact B0 |(exact ob_))))
     have e2:D0 (K6 j) (i2+1) ()= .inr false:=K3 hs2 (by first |with_reducible rfl |(unfold K6;exact hd_));replace e2:=U5 e2 (show i2+1≤4 by omega);have hd:H9 j=false:=by first |with_reducible rfl |(unfold H9;exact hd_)
     try rw[hd]
     try simp only[go_sem,A4,A6,A3,A2]
     all_goals exact F4
    ·first |rw[if_neg h5] |rw[if_neg (by simp_all)] |rw[if_neg (by omega)]
     (repeat(with_reducible refine And.intro ?_ ?_;focus (first |exact B0 |(exact ob_))))
     have hn:D0 (K6 j) (i2+1) ()= .inl ():=K3 hs2 (by first |with_reducible rfl |(unfold K6;exact hd_));refine B8 ⟨(i2+1,()),by omega,hn⟩ (by show 4-(i2+1)<4-i2;omega) (F9 [] [] ?_);simp only[go_sem,A4,A6,A3,A2]
     all_goals exact F4
   ·first |rw[if_neg h4] |rw[if_neg (by simp_all)] |rw[if_neg (by omega)]
    (repeat(with_reducible refine And.intro ?_ ?_;focus (first |exact B0 |(exact ob_))))
    have hge:i2=4:=by first |omega |(simp only[IntKind.wrap_i64]at h4;omega)
    subst hge;refine A0 (F1 j.ID 1 1099511627776) rfl ?_;simp only[go_sem,A4,A6,A3,A2]
    (repeat(with_reducible refine And.intro ?_ ?_;focus (first |exact B0 |(exact ob_))))
    refine A0 (A13 j.AnchorA 1048576) rfl ?_;generalize hv16:(J6 j.AnchorA 1048576)=v16;simp only[go_sem,A4,A6,A3,A2]
    (repeat(with_reducible refine And.intro ?_ ?_;focus (first |exact B0 |(exact ob_))))
    refine A0 (A13 j.AnchorB 1048576) rfl ?_;generalize hv17:(J6 j.AnchorB 1048576)=v17;simp only[go_sem,A4,A6,A3,A2]
    (repeat(with_reducible refine And.intro ?_ ?_;focus (first |exact B0 |(exact ob_))))
    refine A0 (F1 j.ReferenceAngle (-205888) 205887) rfl ?_;simp only[go_sem,A4,A6,A3,A2]
    (repeat(with_reducible refine And.intro ?_ ?_;focus (first |exact B0 |(exact ob_))))
    refine A0 (F1 j.Lower v13.1 v13.2) rfl ?_;simp only[go_sem,A4,A6,A3,A2]
    (repeat(with_reducible refine And.intro ?_ ?_;focus (first |exact B0 |(exact ob_))))
    refine A0 (F1 j.Upper v13.1 v13.2) rfl ?_;simp only[go_sem,A4,A6,A3,A2]
    (repeat(with_reducible refine And.intro ?_ ?_;focus (first |exact B0 |(exact ob_))))
    refine A0 (F1 j.MotorSpeed (-16777216) 16777216) rfl ?_;simp only[go_sem,A4,A6,A3,A2]
    (repeat(with_reducible refine And.intro ?_ ?_;focus (first |exact B0 |(exact ob_))))
    refine A0 (F1 j.MaxForce 0 536870911) rfl ?_;simp only[go_sem,A4,A6,A3,A2]
    (repeat(with_reducible refine And.intro ?_ ?_;focus (first |exact B0 |(exact ob_))))
    refine A0 (F1 j.Softness 0 536870911) rfl ?_;simp only[go_sem,A4,A6,A3,A2]
    (repeat(with_reducible refine And.intro ?_ ?_;focus (first |exact B0 |(exact ob_))))
    refine A0 (F1 j.BreakForce 0 536870911) rfl ?_;simp only[go_sem,A4,A6,A3,A2]
    (repeat(with_reducible refine And.intro ?_ ?_;focus (first |exact B0 |(exact ob_))))
    have hd:H9 j=(((((((((((inR j.ID 1 1099511627776)&&v16)&&v17)&&(inR j.ReferenceAngle (-205888) 205887))&&(inR j.Lower v13.1 v13.2))&&(inR j.Upper v13.1 v13.2))&&(decide (j.Lower≤j.Upper)))&&(inR j.MotorSpeed (-16777216) 16777216))&&(inR j.MaxForce 0 536870911))&&(inR j.Softness 0 536870911))&&(inR j.BreakForce 0 536870911)):=by first |with_reducible rfl |(unfold H9;exact hd_)
    try rw[hd]
    try simp only[go_sem,A4,A6,A3,A2]
    all_goals exact F4
def J4(j:Joint)(i1:Nat)(s1:Unit):(Unit) ⊕ (Bool):=if(inR ([j.Impulses.I0,j.Impulses.I1,j.Impulses.I2,j.Impulses.I3].getD i1 0) (-536870911) 536870911)=false then(.inr false)else(.inl ())
def L3(j:Joint)(i2:Nat)(s2:Unit):(Unit) ⊕ (Bool):=if(inR ([j.Impulses.I0,j.Impulses.I1,j.Impulses.I2,j.Impulses.I3].getD i2 0) (-536870911) 536870911)=false then(.inr false)else(.inl ())
def H2(j:Joint):Bool:=if(j.Kind==5)=true then((match D0 (J4 j) 4 ()with | .inr r=>r | .inl s1=>let v3:=(Q8 j.AnchorA 268435456);let v4:=(Q8 j.AnchorB 1048576);let v6:=(T4 j);if(((((!(inR j.ID 1 1099511627776))||(!v3))||(!v4))||(!(inR j.ReferenceAngle (-205888) 205887)))||(!v6))=true then(false)else(((((inR j.MotorSpeed (-16777216) 16777216)&&(inR j.MaxForce 0 536870911))&&(inR j.Softness 0 536870911))&&(inR j.BreakForce 0 536870911)))))else((match D0 (L3 j) 4 ()with | .inr r=>r | .inl s2=>let v13:=(Q8 j.AnchorA 1048576);let v14:=(Q8 j.AnchorB 1048576);let v16:=(T4 j);if(((((!(inR j.ID 1 1099511627776))||(!v13))||(!v14))||(!(inR j.ReferenceAngle (-205888) 205887)))||(!v16))=true then(false)else(((((inR j.MotorSpeed (-16777216) 16777216)&&(inR j.MaxForce 0 536870911))&&(inR j.Softness 0 536870911))&&(inR j.BreakForce 0 536870911)))))
theorem C14(j:Joint):A5 Tryz.prog C1o [.agg j.enc] [] (.sc (.bool (H2 j))) []:=by
 refine en1 hm A1 Tryz.func106 rfl rfl ?_;simp only[go_sem,A4,A6,A3,A2]
 (repeat(with_reducible refine And.intro ?_ ?_;focus (first |exact B0 |(exact ob_))))
 by_cases h1:(j.Kind==5)=true
 ·first |rw[if_pos h1] |rw[if_pos (by simp_all)] |rw[if_pos (by omega)]
  (repeat(with_reducible refine And.intro ?_ ?_;focus (first |exact B0 |(exact ob_))))
  refine C6 hm (ι:= {p:Nat×Unit // p.1≤4∧D0 (J4 j) p.1 ()= .inl p.2}) (fun i=> [(1, .share, .ptr 32 0 0 1),(3, .share, .sc (.int .i64 268435456)),(4, .share, .sc (.int .i64 (i.1.1:Int)))]) (fun i=> [(32, .box [.sc (.int .i64 j.ID), .sc (.int .i64 j.Kind), .sc (.int .i64 j.BodyA), .sc (.int .i64 j.BodyB), .sc (.int .i64 j.AnchorA.X), .sc (.int .i64 j.AnchorA.Y), .sc (.int .i64 j.AnchorB.X), .sc (.int .i64 j.AnchorB.Y), .sc (.int .i64 j.Axis.X), .sc (.int .i64 j.Axis.Y), .sc (.int .i64 j.ReferenceAngle), .sc (.bool j.EnableLimit), .sc (.int .i64 j.Lower), .sc (.int .i64 j.Upper), .sc (.bool j.EnableMotor), .sc (.int .i64 j.MotorSpeed), .sc (.int .i64 j.MaxForce), .sc (.int .i64 j.Softness), .sc (.int .i64 j.BreakForce), .sc (.bool j.CollideConnected), .sc (.int .i64 j.Impulses.I0), .sc (.int .i64 j.Impulses.I1), .sc (.int .i64 j.Impulses.I2), .sc (.int .i64 j.Impulses.I3)])]) (fun i=>4-i.1.1) ⟨(0,()),by omega,rfl⟩ ?_ ?_
  ·refine F9 [] [] ?_;simp only[go_sem,A4,A6,A3,A2,B6]
   all_goals exact F4
  ·rintro⟨⟨i1,s1⟩,hi1,hs1⟩;replace hi1:i1≤4:=hi1;replace hs1:D0 (J4 j) i1 ()= .inl s1:=hs1;simp only[go_sem,A4,A6,A3,A2]
   (repeat(with_reducible refine And.intro ?_ ?_;focus (first |exact B0 |(exact ob_))))
   by_cases h2:(i1:Int)<4
   ·first |rw[if_pos h2] |rw[if_pos (by simp_all)] |rw[if_pos (by omega)]
    have hlt1:i1<4:=by first |omega |(simp only[IntKind.wrap_i64]at h2;omega)
    (repeat(with_reducible refine And.intro ?_ ?_;focus (first |exact B0 |(exact ob_))))
    simp only[E1z (show i1<4 by omega),go_sem,A4,A6,A3,A2]
    (repeat(with_reducible refine And.intro ?_ ?_;focus (first |exact B0 |(exact ob_))))
    refine A0 (K2 ([j.Impulses.I0,j.Impulses.I1,j.Impulses.I2,j.Impulses.I3].getD i1 0) (-536870911) 536870911) rfl ?_;simp only[go_sem,A4,A6,A3,A2]
    (repeat(with_reducible refine And.intro ?_ ?_;focus (first |exact B0 |(exact ob_))))
    by_cases h3:(inR ([j.Impulses.I0,j.Impulses.I1,j.Impulses.I2,j.Impulses.I3].getD i1 0) (-536870911) 536870911)=false
    ·first |rw[if_pos h3] |rw[if_pos (by simp_all)] |rw[if_pos (by omega)]
     (repeat(with_reducible refine And.intro ?_ ?_;focus (first |exact B0 |(exact ob_))))
     have e1:D0 (J4 j) (i1+1) ()= .inr false:=K3 hs1 (by first |with_reducible rfl |(unfold J4;exact hd_));replace e1:=U5 e1 (show i1+1≤4 by omega);have hd:H2 j=false:=by first |with_reducible rfl |(unfold H2;exact hd_)
     try rw[hd]
     try simp only[go_sem,A4,A6,A3,A2]
     all_goals exact F4
    ·first |rw[if_neg h3] |rw[if_neg (by simp_all)] |rw[if_neg (by omega)]
     (repeat(with_reducible refine And.intro ?_ ?_;focus (first |exact B0 |(exact ob_))))
     have hn:D0 (J4 j) (i1+1) ()= .inl ():=K3 hs1 (by first |with_reducible rfl |(unfold J4;exact hd_));refine B8 ⟨(i1+1,()),by omega,hn⟩ (by show 4-(i1+1)<4-i1;omega) (F9 [] [] ?_);simp only[go_sem,A4,A6,A3,A2]
     all_goals exact F4
   ·first |rw[if_neg h2] |rw[if_neg (by simp_all)] |rw[if_neg (by omega)]
    (repeat(with_reducible refine And.intro ?_ ?_;focus (first |exact B0 |(exact ob_))))
    have hge:i1=4:=by first |omega |(simp only[IntKind.wrap_i64]at h2;omega)
    subst hge;refine A0 (K2 j.ID 1 1099511627776) rfl ?_;simp only[go_sem,A4,A6,A3,A2]
    (repeat(with_reducible refine And.intro ?_ ?_;focus (first |exact B0 |(exact ob_))))
    refine A0 (A57 j.AnchorA 268435456) rfl ?_;generalize hv3:(Q8 j.AnchorA 268435456)=v3;simp only[go_sem,A4,A6,A3,A2]
    (repeat(with_reducible refine And.intro ?_ ?_;focus (first |exact B0 |(exact ob_))))
    refine A0 (A57 j.AnchorB 1048576) rfl ?_;generalize hv4:(Q8 j.AnchorB 1048576)=v4;simp only[go_sem,A4,A6,A3,A2]
    (repeat(with_reducible refine And.intro ?_ ?_;focus (first |exact B0 |(exact ob_))))
    refine A0 (K2 j.ReferenceAngle (-205888) 205887) rfl ?_;simp only[go_sem,A4,A6,A3,A2]
    (repeat(with_reducible refine And.intro ?_ ?_;focus (first |exact B0 |(exact ob_))))
    refine A0 (B0t j) rfl ?_;generalize hv6:(T4 j)=v6;simp only[go_sem,A4,A6,A3,A2]
    (repeat(with_reducible refine And.intro ?_ ?_;focus (first |exact B0 |(exact ob_))))
    by_cases h4:(((((!(inR j.ID 1 1099511627776))||(!v3))||(!v4))||(!(inR j.ReferenceAngle (-205888) 205887)))||(!v6))=true
    ·first |rw[if_pos h4] |rw[if_pos (by simp_all)] |rw[if_pos (by omega)]
     (repeat(with_reducible refine And.intro ?_ ?_;focus (first |exact B0 |(exact ob_))))
     have hd:H2 j=false:=by first |with_reducible rfl |(unfold H2;exact hd_)
     try rw[hd]
     try simp only[go_sem,A4,A6,A3,A2]
     all_goals exact F4
    ·first |rw[if_neg h4] |rw[if_neg (by simp_all)] |rw[if_neg (by omega)]
     (repeat(with_reducible refine And.intro ?_ ?_;focus (first |exact B0 |(exact ob_))))
     refine A0 (K2 j.MotorSpeed (-16777216) 16777216) rfl ?_;simp only[go_sem,A4,A6,A3,A2]
     (repeat(with_reducible refine And.intro ?_ ?_;focus (first |exact B0 |(exact ob_))))
     refine A0 (K2 j.MaxForce 0 536870911) rfl ?_;simp only[go_sem,A4,A6,A3,A2]
     (repeat(with_reducible refine And.intro ?_ ?_;focus (first |exact B0 |(exact ob_))))
     refine A0 (K2 j.Softness 0 536870911) rfl ?_;simp only[go_sem,A4,A6,A3,A2]
     (repeat(with_reducible refine And.intro ?_ ?_;focus (first |exact B0 |(exact ob_))))
     refine A0 (K2 j.BreakForce 0 536870911) rfl ?_;simp only[go_sem,A4,A6,A3,A2]
     (repeat(with_reducible refine And.intro ?_ ?_;focus (first |exact B0 |(exact ob_))))
     have hd:H2 j=((((inR j.MotorSpeed (-16777216) 16777216)&&(inR j.MaxForce 0 536870911))&&(inR j.Softness 0 536870911))&&(inR j.BreakForce 0 536870911)):=by first |with_reducible rfl |(unfold H2;exact hd_)
     try rw[hd]
     try simp only[go_sem,A4,A6,A3,A2]
     all_goals exact F4
 ·first |rw[if_neg h1] |rw[if_neg (by simp_all)] |rw[if_neg (by omega)]
  (repeat(with_reducible refine And.intro ?_ ?_;focus (first |exact B0 |(exact ob_))))
  refine C6 hm (ι:= {p:Nat×Unit // p.1≤4∧D0 (L3 j) p.1 ()= .inl p.2}) (fun i=> [(1, .share, .ptr 32 0 0 1),(3, .share, .sc (.int .i64 1048576)),(4, .share, .sc (.int .i64 (i.1.1:Int)))]) (fun i=> [(32, .box [.sc (.int .i64 j.ID), .sc (.int .i64 j.Kind), .sc (.int .i64 j.BodyA), .sc (.int .i64 j.BodyB), .sc (.int .i64 j.AnchorA.X), .sc (.int .i64 j.AnchorA.Y), .sc (.int .i64 j.AnchorB.X), .sc (.int .i64 j.AnchorB.Y), .sc (.int .i64 j.Axis.X), .sc (.int .i64 j.Axis.Y), .sc (.int .i64 j.ReferenceAngle), .sc (.bool j.EnableLimit), .sc (.int .i64 j.Lower), .sc (.int .i64 j.Upper), .sc (.bool j.EnableMotor), .sc (.int .i64 j.MotorSpeed), .sc (.int .i64 j.MaxForce), .sc (.int .i64 j.Softness), .sc (.int .i64 j.BreakForce), .sc (.bool j.CollideConnected), .sc (.int .i64 j.Impulses.I0), .sc (.int .i64 j.Impulses.I1), .sc (.int .i64 j.Impulses.I2), .sc (.int .i64 j.Impulses.I3)])]) (fun i=>4-i.1.1) ⟨(0,()),by omega,rfl⟩ ?_ ?_
  ·refine F9 [] [] ?_;simp only[go_sem,A4,A6,A3,A2,B6]
   all_goals exact F4
  ·rintro⟨⟨i2,s2⟩,hi2,hs2⟩;replace hi2:i2≤4:=hi2;replace hs2:D0 (L3 j) i2 ()= .inl s2:=hs2;simp only[go_sem,A4,A6,A3,A2]
   (repeat(with_reducible refine And.intro ?_ ?_;focus (first |exact B0 |(exact ob_))))
   by_cases h5:(i2:Int)<4
   ·first |rw[if_pos h5] |rw[if_pos (by simp_all)] |rw[if_pos (by omega)]
    have hlt2:i2<4:=by first |omega |(simp only[IntKind.wrap_i64]at h5;omega)
    (repeat(with_reducible refine And.intro ?_ ?_;focus (first |exact B0 |(exact ob_))))
    simp only[E1z (show i2<4 by omega),go_sem,A4,A6,A3,A2]
    (repeat(with_reducible refine And.intro ?_ ?_;focus (first |exact B0 |(exact ob_))))
    refine A0 (K2 ([j.Impulses.I0,j.Impulses.I1,j.Impulses.I2,j.Impulses.I3].getD i2 0) (-536870911) 536870911) rfl ?_;simp only[go_sem,A4,A6,A3,A2]
    (repeat(with_reducible refine And.intro ?_ ?_;focus (first |exact B0 |(exact ob_))))
    by_cases h6:(inR ([j.Impulses.I0,j.Impulses.I1,j.Impulses.I2,j.Impulses.I3].getD i2 0) (-536870911) 536870911)=false
    ·first |rw[if_pos h6] |rw[if_pos (by simp_all)] |rw[if_pos (by omega)]
     (repeat(with_reducible refine And.intro ?_ ?_;focus (first |exact B0 |(exact ob_))))
     have e2:D0 (L3 j) (i2+1) ()= .inr false:=K3 hs2 (by first |with_reducible rfl |(unfold L3;exact hd_));replace e2:=U5 e2 (show i2+1≤4 by omega);have hd:H2 j=false:=by first |with_reducible rfl |(unfold H2;exact hd_)
     try rw[hd]
     try simp only[go_sem,A4,A6,A3,A2]
     all_goals exact F4
    ·first |rw[if_neg h6] |rw[if_neg (by simp_all)] |rw[if_neg (by omega)]
     (repeat(with_reducible refine And.intro ?_ ?_;focus (first |exact B0 |(exact ob_))))
     have hn:D0 (L3 j) (i2+1) ()= .inl ():=K3 hs2 (by first |with_reducible rfl |(unfold L3;exact hd_));refine B8 ⟨(i2+1,()),by omega,hn⟩ (by show 4-(i2+1)<4-i2;omega) (F9 [] [] ?_);simp only[go_sem,A4,A6,A3,A2]
     all_goals exact F4
   ·first |rw[if_neg h5] |rw[if_neg (by simp_all)] |rw[if_neg (by omega)]
    (repeat(with_reducible refine And.intro ?_ ?_;focus (first |exact B0 |(exact ob_))))
    have hge:i2=4:=by first |omega |(simp only[IntKind.wrap_i64]at h5;omega)
    subst hge;refine A0 (K2 j.ID 1 1099511627776) rfl ?_;simp only[go_sem,A4,A6,A3,A2]
    (repeat(with_reducible refine And.intro ?_ ?_;focus (first |exact B0 |(exact ob_))))
    refine A0 (A57 j.AnchorA 1048576) rfl ?_;generalize hv13:(Q8 j.AnchorA 1048576)=v13;simp only[go_sem,A4,A6,A3,A2]
    (repeat(with_reducible refine And.intro ?_ ?_;focus (first |exact B0 |(exact ob_))))
    refine A0 (A57 j.AnchorB 1048576) rfl ?_;generalize hv14:(Q8 j.AnchorB 1048576)=v14;simp only[go_sem,A4,A6,A3,A2]
    (repeat(with_reducible refine And.intro ?_ ?_;focus (first |exact B0 |(exact ob_))))
    refine A0 (K2 j.ReferenceAngle (-205888) 205887) rfl ?_;simp only[go_sem,A4,A6,A3,A2]
    (repeat(with_reducible refine And.intro ?_ ?_;focus (first |exact B0 |(exact ob_))))
    refine A0 (B0t j) rfl ?_;generalize hv16:(T4 j)=v16;simp only[go_sem,A4,A6,A3,A2]
    (repeat(with_reducible refine And.intro ?_ ?_;focus (first |exact B0 |(exact ob_))))
    by_cases h7:(((((!(inR j.ID 1 1099511627776))||(!v13))||(!v14))||(!(inR j.ReferenceAngle (-205888) 205887)))||(!v16))=true
    ·first |rw[if_pos h7] |rw[if_pos (by simp_all)] |rw[if_pos (by omega)]
     (repeat(with_reducible refine And.intro ?_ ?_;focus (first |exact B0 |(exact ob_))))
     have hd:H2 j=false:=by first |with_reducible rfl |(unfold H2;exact hd_)
     try rw[hd]
     try simp only[go_sem,A4,A6,A3,A2]
     all_goals exact F4
    ·first |rw[if_neg h7] |rw[if_neg (by simp_all)] |rw[if_neg (by omega)]
     (repeat(with_reducible refine And.intro ?_ ?_;focus (first |exact B0 |(exact ob_))))
     refine A0 (K2 j.MotorSpeed (-16777216) 16777216) rfl ?_;simp only[go_sem,A4,A6,A3,A2]
     (repeat(with_reducible refine And.intro ?_ ?_;focus (first |exact B0 |(exact ob_))))
     refine A0 (K2 j.MaxForce 0 536870911) rfl ?_;simp only[go_sem,A4,A6,A3,A2]
     (repeat(with_reducible refine And.intro ?_ ?_;focus (first |exact B0 |(exact ob_))))
     refine A0 (K2 j.Softness 0 536870911) rfl ?_;simp only[go_sem,A4,A6,A3,A2]
     (repeat(with_reducible refine And.intro ?_ ?_;focus (first |exact B0 |(exact ob_))))
     refine A0 (K2 j.BreakForce 0 536870911) rfl ?_;simp only[go_sem,A4,A6,A3,A2]
     (repeat(with_reducible refine And.intro ?_ ?_;focus (first |exact B0 |(exact ob_))))
     have hd:H2 j=((((inR j.MotorSpeed (-16777216) 16777216)&&(inR j.MaxForce 0 536870911))&&(inR j.Softness 0 536870911))&&(inR j.BreakForce 0 536870911)):=by first |with_reducible rfl |(unfold H2;exact hd_)
     try rw[hd]
     try simp only[go_sem,A4,A6,A3,A2]
     all_goals exact F4
def P3(j:Joint):Int:=if((decide (j.Kind<1))||(decide (5<j.Kind)))=true then(10)else(let v1:=(H9 j);if v1=false then(6)else(let v2:=(A2n j);if v2=false then(14)else(let v3:=(A14 j);if v3=true then(15)else(0))))
theorem Y2(j:Joint):A5 Tryz.prog C3d [.agg j.enc] [] (.sc (.int .i64 (P3 j))) []:=by
 refine en1 hm A1 Tryz.func113 rfl rfl ?_;have:=B4g
 have:=B70
 have:=B6x
 have:=P3.eq_1 j;exact D3
def Q9(j:Joint):Int:=if((decide (j.Kind<1))||(decide (5<j.Kind)))=true then(10)else(let v1:=(H2 j);if v1=false then(6)else(if(((!(inR j.BodyB 1 1099511627776))||((j.Kind==5)&&(j.BodyA != 0)))||((j.Kind != 5)&&((!(inR j.BodyA 1 1099511627776))||(j.BodyA==j.BodyB))))=true then(14)else(let v4:=(A4c j.Axis);if(((j.Kind==3)&&(!(inR v4 65520 65552)))||((j.Kind != 3)&&(!((j.Axis.X==0)&&(j.Axis.Y==0)))))=true then(15)else(if(((((j.Kind==1)||((j.Kind==4)||(j.Kind==5)))&&j.EnableMotor)||(((j.Kind==4)||(j.Kind==5))&&j.EnableLimit))||((j.Kind==1)&&(!j.EnableLimit)))=true then(15)else(0)))))
theorem C72(j:Joint):A5 Tryz.prog C6t [.agg j.enc] [] (.sc (.int .i64 (Q9 j))) []:=by
 refine en1 hm A1 Tryz.func49 rfl rfl ?_;have:=C14
 have:=K2
 have:=B2e
 have:=Q9.eq_1 j;exact D3
end Go.Abs
end
section
namespace Go.Abs
open Go.Proofs
open Api
def L1(w:Api.World)(i1:Nat)(s1:Int):(Int) ⊕ (Bool):=let v1:=(A0a (w.Bodies.getD i1 default));if(((v1 != 0)||(decide (w.NextID≤(w.Bodies.getD i1 default).ID)))||(decide ((w.Bodies.getD i1 default).ID≤s1)))=true then(.inr false)else(.inl (w.Bodies.getD i1 default).ID)
def Q2(w:Api.World):Bool:=(match D0 (L1 w) w.Bodies.length 0 with | .inr r=>r | .inl s1=>true)
theorem B78(w:Api.World)(hw:Wsm w):A5 Tryz.prog B79 [.agg w.enc] [] (.sc (.bool (Q2 w))) []:=by
 have hw1:=hw.1;refine en1 hm A1 Tryz.func58 rfl rfl ?_;simp only[go_sem,A4,A6,A3,A2]
 (repeat(with_reducible refine And.intro ?_ ?_;focus (first |exact B0 |(exact ob_))))
 refine C6 hm (ι:= {p:Nat×Int // p.1≤w.Bodies.length∧D0 (L1 w) p.1 0= .inl p.2}) (fun i=> [(1, .share, .ptr 32 0 0 1),(3, .share, .sc (.int .i64 i.1.2)),(7, .share,B4 20 Body.enc default w.Bodies),(8, .share, .sc (.int .i64 (w.Bodies.length:Int))),(9, .share, .sc (.int .i64 (i.1.1:Int)))]) (fun i=> [(32, .box [.sc (.int .i64 w.Settings.TimeStep), .sc (.int .i64 w.Settings.Gravity.X), .sc (.int .i64 w.Settings.Gravity.Y), .sc (.int .i64 w.Settings.Iterations), .sc (.int .i64 w.Settings.SleepSteps),B4 20 Body.enc default w.Bodies,B4 24 Joint.enc default w.Joints,B4 7 D5.enc default w.Contacts,B4 4 B2.enc default w.Overlaps, .sc (.int .i64 w.NextID), .sc (.int .i64 w.Frame)])]) (fun i=>w.Bodies.length-i.1.1) ⟨(0,0),by omega,rfl⟩ ?_ ?_
 ·refine F9 [] [] ?_;simp only[go_sem,A4,A6,A3,A2,B6]
  all_goals exact F4
 ·rintro⟨⟨i1,s1⟩,hi1,hs1⟩;replace hi1:i1≤w.Bodies.length:=hi1;replace hs1:D0 (L1 w) i1 0= .inl s1:=hs1;simp only[go_sem,A4,A6,A3,A2]
  (repeat(with_reducible refine And.intro ?_ ?_;focus (first |exact B0 |(exact ob_))))
  by_cases h1:(i1:Int)<(w.Bodies.length:Int)
  ·first |rw[if_pos h1] |rw[if_pos (by simp_all)] |rw[if_pos (by omega)]
   have hlt1:i1<w.Bodies.length:=by first |omega |(simp only[IntKind.wrap_i64]at h1;omega)
   (repeat(with_reducible refine And.intro ?_ ?_;focus (first |exact B0 |(exact ob_))))
   refine A0 (A8h (w.Bodies.getD i1 default) (by(first |exact hw.2.2.2.2.1 _ (D6 _ (by omega)) |exact hw.1 |assumption |omega |exact B0 |(simp_all;done) |(simp_all;omega)))) rfl ?_;generalize hv1:(A0a (w.Bodies.getD i1 default))=v1;simp only[go_sem,A4,A6,A3,A2]
   (repeat(with_reducible refine And.intro ?_ ?_;focus (first |exact B0 |(exact ob_))))
   by_cases h2:(((v1 != 0)||(decide (w.NextID≤(w.Bodies.getD i1 default).ID)))||(decide ((w.Bodies.getD i1 default).ID≤s1)))=true
   ·first |rw[if_pos h2] |rw[if_pos (by simp_all)] |rw[if_pos (by omega)]
    (repeat(with_reducible refine And.intro ?_ ?_;focus (first |exact B0 |(exact ob_))))
    have e1:D0 (L1 w) (i1+1) 0= .inr false:=K3 hs1 (by first |with_reducible rfl |(unfold L1;exact hd_));replace e1:=U5 e1 (show i1+1≤w.Bodies.length by omega);have hd:Q2 w=false:=by first |with_reducible rfl |(unfold Q2;exact hd_)
    try rw[hd]
    try simp only[go_sem,A4,A6,A3,A2]
    all_goals exact F4
   ·first |rw[if_neg h2] |rw[if_neg (by simp_all)] |rw[if_neg (by omega)]
    (repeat(with_reducible refine And.intro ?_ ?_;focus (first |exact B0 |(exact ob_))))
    have hn:D0 (L1 w) (i1+1) 0= .inl (w.Bodies.getD i1 default).ID:=K3 hs1 (by first |with_reducible rfl |(unfold L1;exact hd_));refine B8 ⟨(i1+1,(w.Bodies.getD i1 default).ID),by omega,hn⟩ (by show w.Bodies.length-(i1+1)<w.Bodies.length-i1;omega) (F9 [] [] ?_);simp only[go_sem,A4,A6,A3,A2]
    all_goals exact F4
  ·first |rw[if_neg h1] |rw[if_neg (by simp_all)] |rw[if_neg (by omega)]
   (repeat(with_reducible refine And.intro ?_ ?_;focus (first |exact B0 |(exact ob_))))
   have hge:i1=w.Bodies.length:=by first |omega |(simp only[IntKind.wrap_i64]at h1;omega)
   subst hge;have hd:Q2 w=true:=by first |with_reducible rfl |(unfold Q2;exact hd_)
   try rw[hd]
   try simp only[go_sem,A4,A6,A3,A2]
   all_goals exact F4
def M5(w:Api.World)(i1:Nat)(s1:Int):(Int) ⊕ (Bool):=let v1:=(S5 (w.Bodies.getD i1 default));if(((v1 != 0)||(decide (w.NextID≤(w.Bodies.getD i1 default).ID)))||((decide (0<(i1:Int)))&&(decide ((w.Bodies.getD i1 default).ID≤s1))))=true then(.inr false)else(.inl (w.Bodies.getD i1 default).ID)
def T3(w:Api.World):Bool:=(match D0 (M5 w) w.Bodies.length 0 with | .inr r=>r | .inl s1=>true)
theorem C1s(w:Api.World)(hw:Wsm w):A5 Tryz.prog C1x [.agg w.enc] [] (.sc (.bool (T3 w))) []:=by
 have hw1:=hw.1;refine en1 hm A1 Tryz.func25 rfl rfl ?_;simp only[go_sem,A4,A6,A3,A2]
 (repeat(with_reducible refine And.intro ?_ ?_;focus (first |exact B0 |(exact ob_))))
 refine C6 hm (ι:= {p:Nat×Int // p.1≤w.Bodies.length∧D0 (M5 w) p.1 0= .inl p.2}) (fun i=> [(1, .share, .ptr 32 0 0 1),(3, .share, .sc (.int .i64 i.1.2)),(4, .share, .sc (.int .i64 (i.1.1:Int)))]) (fun i=> [(32, .box [.sc (.int .i64 w.Settings.TimeStep), .sc (.int .i64 w.Settings.Gravity.X), .sc (.int .i64 w.Settings.Gravity.Y), .sc (.int .i64 w.Settings.Iterations), .sc (.int .i64 w.Settings.SleepSteps),B4 20 Body.enc default w.Bodies,B4 24 Joint.enc default w.Joints,B4 7 D5.enc default w.Contacts,B4 4 B2.enc default w.Overlaps, .sc (.int .i64 w.NextID), .sc (.int .i64 w.Frame)])]) (fun i=>w.Bodies.length-i.1.1) ⟨(0,0),by omega,rfl⟩ ?_ ?_
 ·refine F9 [] [] ?_;simp only[go_sem,A4,A6,A3,A2,B6]
  all_goals exact F4
 ·rintro⟨⟨i1,s1⟩,hi1,hs1⟩;replace hi1:i1≤w.Bodies.length:=hi1;replace hs1:D0 (M5 w) i1 0= .inl s1:=hs1;simp only[go_sem,A4,A6,A3,A2]
  (repeat(with_reducible refine And.intro ?_ ?_;focus (first |exact B0 |(exact ob_))))
  by_cases h1:(i1:Int)<(w.Bodies.length:Int)
  ·first |rw[if_pos h1] |rw[if_pos (by simp_all)] |rw[if_pos (by omega)]
   have hlt1:i1<w.Bodies.length:=by first |omega |(simp only[IntKind.wrap_i64]at h1;omega)
   (repeat(with_reducible refine And.intro ?_ ?_;focus (first |exact B0 |(exact ob_))))
   refine A0 (C6l (w.Bodies.getD i1 default) (by(first |exact hw.2.2.2.2.1 _ (D6 _ (by omega)) |exact hw.1 |assumption |omega |exact B0 |(simp_all;done) |(simp_all;omega)))) rfl ?_;generalize hv1:(S5 (w.Bodies.getD i1 default))=v1;simp only[go_sem,A4,A6,A3,A2]
   (repeat(with_reducible refine And.intro ?_ ?_;focus (first |exact B0 |(exact ob_))))
   by_cases h2:(((v1 != 0)||(decide (w.NextID≤(w.Bodies.getD i1 default).ID)))||((decide (0<(i1:Int)))&&(decide ((w.Bodies.getD i1 default).ID≤s1))))=true
   ·first |rw[if_pos h2] |rw[if_pos (by simp_all)] |rw[if_pos (by omega)]
    (repeat(with_reducible refine And.intro ?_ ?_;focus (first |exact B0 |(exact ob_))))
    have e1:D0 (M5 w) (i1+1) 0= .inr false:=K3 hs1 (by first |with_reducible rfl |(unfold M5;exact hd_));replace e1:=U5 e1 (show i1+1≤w.Bodies.length by omega);have hd:T3 w=false:=by first |with_reducible rfl |(unfold T3;exact hd_)
    try rw[hd]
    try simp only[go_sem,A4,A6,A3,A2]
    all_goals exact F4
   ·first |rw[if_neg h2] |rw[if_neg (by simp_all)] |rw[if_neg (by omega)]
    (repeat(with_reducible refine And.intro ?_ ?_;focus (first |exact B0 |(exact ob_))))
    have hn:D0 (M5 w) (i1+1) 0= .inl (w.Bodies.getD i1 default).ID:=K3 hs1 (by first |with_reducible rfl |(unfold M5;exact hd_));refine B8 ⟨(i1+1,(w.Bodies.getD i1 default).ID),by omega,hn⟩ (by show w.Bodies.length-(i1+1)<w.Bodies.length-i1;omega) (F9 [] [] ?_);simp only[go_sem,A4,A6,A3,A2]
    all_goals exact F4
  ·first |rw[if_neg h1] |rw[if_neg (by simp_all)] |rw[if_neg (by omega)]
   (repeat(with_reducible refine And.intro ?_ ?_;focus (first |exact B0 |(exact ob_))))
   have hge:i1=w.Bodies.length:=by first |omega |(simp only[IntKind.wrap_i64]at h1;omega)
   subst hge;have hd:T3 w=true:=by first |with_reducible rfl |(unfold T3;exact hd_)
   try rw[hd]
   try simp only[go_sem,A4,A6,A3,A2]
   all_goals exact F4
def L4(w:Api.World)(i1:Nat)(s1:Int):(Int) ⊕ (Bool):=let v1:=(P3 (w.Joints.getD i1 default));let v2:=(N5 w (w.Joints.getD i1 default));let v3:=(Q7 w (w.Joints.getD i1 default).ID);if(((((v1 != 0)||(decide (w.NextID≤(w.Joints.getD i1 default).ID)))||(decide ((w.Joints.getD i1 default).ID≤s1)))||(!v2))||(decide (0≤v3)))=true then(.inr false)else(.inl (w.Joints.getD i1 default).ID)
def Q1(w:Api.World):Bool:=(match D0 (L4 w) w.Joints.length 0 with | .inr r=>r | .inl s1=>true)
theorem B75(w:Api.World)(hw:Wsm w):A5 Tryz.prog B8j [.agg w.enc] [] (.sc (.bool (Q1 w))) []:=by
 have hw2:=hw.2.1;have hw1:=hw.1;refine en1 hm A1 Tryz.func59 rfl rfl ?_;simp only[go_sem,A4,A6,A3,A2]
 (repeat(with_reducible refine And.intro ?_ ?_;focus (first |exact B0 |(exact ob_))))
 refine C6 hm (ι:= {p:Nat×Int // p.1≤w.Joints.length∧D0 (L4 w) p.1 0= .inl p.2}) (fun i=> [(1, .share, .ptr 32 0 0 1),(3, .share, .sc (.int .i64 i.1.2)),(7, .share,B4 24 Joint.enc default w.Joints),(8, .share, .sc (.int .i64 (w.Joints.length:Int))),(9, .share, .sc (.int .i64 (i.1.1:Int)))]) (fun i=> [(32, .box [.sc (.int .i64 w.Settings.TimeStep), .sc (.int .i64 w.Settings.Gravity.X), .sc (.int .i64 w.Settings.Gravity.Y), .sc (.int .i64 w.Settings.Iterations), .sc (.int .i64 w.Settings.SleepSteps),B4 20 Body.enc default w.Bodies,B4 24 Joint.enc default w.Joints,B4 7 D5.enc default w.Contacts,B4 4 B2.enc default w.Overlaps, .sc (.int .i64 w.NextID), .sc (.int .i64 w.Frame)])]) (fun i=>w.Joints.length-i.1.1) ⟨(0,0),by omega,rfl⟩ ?_ ?_
 ·refine F9 [] [] ?_;simp only[go_sem,A4,A6,A3,A2,B6]
  all_goals exact F4
 ·rintro⟨⟨i1,s1⟩,hi1,hs1⟩;replace hi1:i1≤w.Joints.length:=hi1;replace hs1:D0 (L4 w) i1 0= .inl s1:=hs1;simp only[go_sem,A4,A6,A3,A2]
  (repeat(with_reducible refine And.intro ?_ ?_;focus (first |exact B0 |(exact ob_))))
  by_cases h1:(i1:Int)<(w.Joints.length:Int)
  ·first |rw[if_pos h1] |rw[if_pos (by simp_all)] |rw[if_pos (by omega)]
   have hlt1:i1<w.Joints.length:=by first |omega |(simp only[IntKind.wrap_i64]at h1;omega)
   (repeat(with_reducible refine And.intro ?_ ?_;focus (first |exact B0 |(exact ob_))))
   refine A0 (Y2 (w.Joints.getD i1 default)) rfl ?_;generalize hv1:(P3 (w.Joints.getD i1 default))=v1;simp only[go_sem,A4,A6,A3,A2]
   (repeat(with_reducible refine And.intro ?_ ?_;focus (first |exact B0 |(exact ob_))))
   refine A0 (A44 w (w.Joints.getD i1 default) (by(first |exact hw.1 |assumption |omega |exact B0 |(simp_all;done) |(simp_all;omega)))) rfl ?_;generalize hv2:(N5 w (w.Joints.getD i1 default))=v2;simp only[go_sem,A4,A6,A3,A2]
   (repeat(with_reducible refine And.intro ?_ ?_;focus (first |exact B0 |(exact ob_))))
   have p2:=A0t w (w.Joints.getD i1 default).ID;refine A0 (U6 w (w.Joints.getD i1 default).ID (by(first |exact hw.1 |assumption |omega |(simp_all;done)))) rfl ?_;generalize hv3:(Q7 w (w.Joints.getD i1 default).ID)=v3 at*;simp only[go_sem,A4,A6,A3,A2]
   (repeat(with_reducible refine And.intro ?_ ?_;focus (first |exact B0 |(exact ob_))))
   by_cases h3:(((((v1 != 0)||(decide (w.NextID≤(w.Joints.getD i1 default).ID)))||(decide ((w.Joints.getD i1 default).ID≤s1)))||(!v2))||(decide (0≤v3)))=true
   ·first |rw[if_pos h3] |rw[if_pos (by simp_all)] |rw[if_pos (by omega)]
    (repeat(with_reducible refine And.intro ?_ ?_;focus (first |exact B0 |(exact ob_))))
    have e1:D0 (L4 w) (i1+1) 0= .inr false:=K3 hs1 (by first |with_reducible rfl |(unfold L4;exact hd_));replace e1:=U5 e1 (show i1+1≤w.Joints.length by omega);have hd:Q1 w=false:=by first |with_reducible rfl |(unfold Q1;exact hd_)
    try rw[hd]
    try simp only[go_sem,A4,A6,A3,A2]
    all_goals exact F4
   ·first |rw[if_neg h3] |rw[if_neg (by simp_all)] |rw[if_neg (by omega)]
    (repeat(with_reducible refine And.intro ?_ ?_;focus (first |exact B0 |(exact ob_))))
    have hn:D0 (L4 w) (i1+1) 0= .inl (w.Joints.getD i1 default).ID:=K3 hs1 (by first |with_reducible rfl |(unfold L4;exact hd_));refine B8 ⟨(i1+1,(w.Joints.getD i1 default).ID),by omega,hn⟩ (by show w.Joints.length-(i1+1)<w.Joints.length-i1;omega) (F9 [] [] ?_);simp only[go_sem,A4,A6,A3,A2]
    all_goals exact F4
  ·first |rw[if_neg h1] |rw[if_neg (by simp_all)] |rw[if_neg (by omega)]
   (repeat(with_reducible refine And.intro ?_ ?_;focus (first |exact B0 |(exact ob_))))
   have hge:i1=w.Joints.length:=by first |omega |(simp only[IntKind.wrap_i64]at h1;omega)
   subst hge;have hd:Q1 w=true:=by first |with_reducible rfl |(unfold Q1;exact hd_)
   try rw[hd]
   try simp only[go_sem,A4,A6,A3,A2]
   all_goals exact F4
def M4(w:Api.World)(i1:Nat)(s1:Int):(Int) ⊕ (Bool):=let v1:=(Q9 (w.Joints.getD i1 default));let v2:=(A1n w (w.Joints.getD i1 default));let v3:=(Q7 w (w.Joints.getD i1 default).ID);if(((((v1 != 0)||(decide (w.NextID≤(w.Joints.getD i1 default).ID)))||((decide (0<(i1:Int)))&&(decide ((w.Joints.getD i1 default).ID≤s1))))||(!v2))||(decide (0≤v3)))=true then(.inr false)else(.inl (w.Joints.getD i1 default).ID)
def S7(w:Api.World):Bool:=(match D0 (M4 w) w.Joints.length 0 with | .inr r=>r | .inl s1=>true)
theorem C1l(w:Api.World)(hw:Wsm w):A5 Tryz.prog C2a [.agg w.enc] [] (.sc (.bool (S7 w))) []:=by
 have hw2:=hw.2.1;have hw1:=hw.1;refine en1 hm A1 Tryz.func26 rfl rfl ?_;simp only[go_sem,A4,A6,A3,A2]
 (repeat(with_reducible refine And.intro ?_ ?_;focus (first |exact B0 |(exact ob_))))
 refine C6 hm (ι:= {p:Nat×Int // p.1≤w.Joints.length∧D0 (M4 w) p.1 0= .inl p.2}) (fun i=> [(1, .share, .ptr 32 0 0 1),(3, .share, .sc (.int .i64 i.1.2)),(4, .share, .sc (.int .i64 (i.1.1:Int)))]) (fun i=> [(32, .box [.sc (.int .i64 w.Settings.TimeStep), .sc (.int .i64 w.Settings.Gravity.X), .sc (.int .i64 w.Settings.Gravity.Y), .sc (.int .i64 w.Settings.Iterations), .sc (.int .i64 w.Settings.SleepSteps),B4 20 Body.enc default w.Bodies,B4 24 Joint.enc default w.Joints,B4 7 D5.enc default w.Contacts,B4 4 B2.enc default w.Overlaps, .sc (.int .i64 w.NextID), .sc (.int .i64 w.Frame)])]) (fun i=>w.Joints.length-i.1.1) ⟨(0,0),by omega,rfl⟩ ?_ ?_
 ·refine F9 [] [] ?_;simp only[go_sem,A4,A6,A3,A2,B6]
  all_goals exact F4
 ·rintro⟨⟨i1,s1⟩,hi1,hs1⟩;replace hi1:i1≤w.Joints.length:=hi1;replace hs1:D0 (M4 w) i1 0= .inl s1:=hs1;simp only[go_sem,A4,A6,A3,A2]
  (repeat(with_reducible refine And.intro ?_ ?_;focus (first |exact B0 |(exact ob_))))
  by_cases h1:(i1:Int)<(w.Joints.length:Int)
  ·first |rw[if_pos h1] |rw[if_pos (by simp_all)] |rw[if_pos (by omega)]
   have hlt1:i1<w.Joints.length:=by first |omega |(simp only[IntKind.wrap_i64]at h1;omega)
   (repeat(with_reducible refine And.intro ?_ ?_;focus (first |exact B0 |(exact ob_))))
   refine A0 (C72 (w.Joints.getD i1 default)) rfl ?_;generalize hv1:(Q9 (w.Joints.getD i1 default))=v1;simp only[go_sem,A4,A6,A3,A2]
   (repeat(with_reducible refine And.intro ?_ ?_;focus (first |exact B0 |(exact ob_))))
   refine A0 (C5x w (w.Joints.getD i1 default) (by(first |exact hw.1 |assumption |omega |exact B0 |(simp_all;done) |(simp_all;omega)))) rfl ?_;generalize hv2:(A1n w (w.Joints.getD i1 default))=v2;simp only[go_sem,A4,A6,A3,A2]
   (repeat(with_reducible refine And.intro ?_ ?_;focus (first |exact B0 |(exact ob_))))
   have p2:=A0t w (w.Joints.getD i1 default).ID;refine A0 (A8v w (w.Joints.getD i1 default).ID (by(first |exact hw.1 |assumption |omega |(simp_all;done)))) rfl ?_;generalize hv3:(Q7 w (w.Joints.getD i1 default).ID)=v3 at*;simp only[go_sem,A4,A6,A3,A2]
   (repeat(with_reducible refine And.intro ?_ ?_;focus (first |exact B0 |(exact ob_))))
   by_cases h3:(((((v1 != 0)||(decide (w.NextID≤(w.Joints.getD i1 default).ID)))||((decide (0<(i1:Int)))&&(decide ((w.Joints.getD i1 default).ID≤s1))))||(!v2))||(decide (0≤v3)))=true
   ·first |rw[if_pos h3] |rw[if_pos (by simp_all)] |rw[if_pos (by omega)]
    (repeat(with_reducible refine And.intro ?_ ?_;focus (first |exact B0 |(exact ob_))))
    have e1:D0 (M4 w) (i1+1) 0= .inr false:=K3 hs1 (by first |with_reducible rfl |(unfold M4;exact hd_));replace e1:=U5 e1 (show i1+1≤w.Joints.length by omega);have hd:S7 w=false:=by first |with_reducible rfl |(unfold S7;exact hd_)
    try rw[hd]
    try simp only[go_sem,A4,A6,A3,A2]
    all_goals exact F4
   ·first |rw[if_neg h3] |rw[if_neg (by simp_all)] |rw[if_neg (by omega)]
    (repeat(with_reducible refine And.intro ?_ ?_;focus (first |exact B0 |(exact ob_))))
    have hn:D0 (M4 w) (i1+1) 0= .inl (w.Joints.getD i1 default).ID:=K3 hs1 (by first |with_reducible rfl |(unfold M4;exact hd_));refine B8 ⟨(i1+1,(w.Joints.getD i1 default).ID),by omega,hn⟩ (by show w.Joints.length-(i1+1)<w.Joints.length-i1;omega) (F9 [] [] ?_);simp only[go_sem,A4,A6,A3,A2]
    all_goals exact F4
  ·first |rw[if_neg h1] |rw[if_neg (by simp_all)] |rw[if_neg (by omega)]
   (repeat(with_reducible refine And.intro ?_ ?_;focus (first |exact B0 |(exact ob_))))
   have hge:i1=w.Joints.length:=by first |omega |(simp only[IntKind.wrap_i64]at h1;omega)
   subst hge;have hd:S7 w=true:=by first |with_reducible rfl |(unfold S7;exact hd_)
   try rw[hd]
   try simp only[go_sem,A4,A6,A3,A2]
   all_goals exact F4
end Go.Abs
end
section
namespace Go.Abs
open Go.Proofs
open Api
def C1j(l:List B2):List AV:= [B4 4 B2.enc default l]
attribute [go_sem] C1j
theorem B8t(n:Nat)(h0:0<n)(hn:n≤4194304):A5 Tryz.prog A7h [.sc (.slice none 0 0), .sc (.int .i64 n)] [] (.sl 1 0 0 n) [(1, .arr 4 ⟨n,fun _=>B2.zero⟩)]:=by
 have w1:IntKind.i64.wrap (0-0)=0:=rfl
 have w2:IntKind.i64.wrap ((n:Int)-0)=n:=by rw[IntKind.wrap_i64];omega
 refine R8 hm A1 Tryz.func227 rfl rfl ?_;simp only[go_sem,A4,A6,A3,A2];rw[if_neg (by omega)];simp only[w1,w2];rw[if_pos (by omega)];refine⟨ok_,?_⟩;refine⟨by omega,?_⟩;simp only[Int.toNat_natCast];refine E3 [.share] [(1,368)] [] rfl rfl (by simp) (by simp) (by simp) ?_;simp only[go_sem,Int.toNat_natCast];simp
theorem B4z(n:Nat)(hn:n≤4194304):A5 Tryz.prog A7h [.sc (.slice none 0 0), .sc (.int .i64 n)] [] (.sl 1 0 0 0) [(1, .arr 4 (D2 B2.enc default []))]:=by
 rcases Nat.eq_zero_or_pos n with rfl |h0
 ·have w1:IntKind.i64.wrap (0-0)=0:=rfl
  refine R8 hm A1 Tryz.func227 rfl rfl ?_;simp only[go_sem,A4,A6,A3,A2];rw[if_neg (by omega)];simp only[w1];rw[if_neg (by decide)];refine E3 [.adopt] [] [1] rfl rfl (by simp) (by simp[A9]) (by simp) ?_;simp only[go_sem]
 ·exact(B8t n h0 hn).shrink rfl _
def A3n(L:List (List B2))(k:Nat):Nat:=((L.take k).flatten).length
theorem C4z {L:List (List B2)}{k:Nat}(h:k<L.length):A3n L (k+1)=A3n L k+(L.getD k default).length:=by unfold A3n;rw[A1e default h];simp
theorem B6d(L:List (List B2))(k:Nat):A3n L k≤L.flatten.length:=by
 unfold A3n;have:L.flatten=(L.take k).flatten++(L.drop k).flatten:=by rw[←List.flatten_append,List.take_append_drop]
 rw[this,List.length_append];omega
theorem B2r(L:List (List B2))(hL:L.flatten.length≤4194304)(hl:L.length≤1000):A5 Tryz.prog B2o [B4 1 C1j default L] [] (B4 4 B2.enc default L.flatten) []:=by
 refine en1 hm A1 Tryz.func119 rfl rfl ?_;simp only[go_sem,A4,A6,A3,A2];refine C6 hm (ι:= {i:Nat // i≤L.length}) (fun i=> [(0, .share,B4 1 C1j default L),(3, .share, .sc (.int .i64 (A3n L i.1))),(9, .share,B4 1 C1j default L),(10, .share, .sc (.int .i64 L.length)),(11, .share, .sc (.int .i64 i.1))])
  (fun i=> []) (fun i=>L.length-i.1) ⟨0,by omega⟩ ?_ ?_
 ·refine F9 [] [] ?_;simp only[go_sem];simp[A3n]
 ·rintro⟨i,hi⟩;have hs:=B6d L i;simp only[go_sem,A4,A6,A3,A2];by_cases hlt:(i:Int)<L.length
  ·rw[if_pos hlt];have hlt:i<L.length:=by omega
   have hs2:=B6d L (i+1)
   have he:=C4z hlt;refine⟨ok_,?_⟩;have hw:IntKind.i64.wrap ((A3n L i:Int)+((L.getD i default).length:Int))=(A3n L (i+1):Int):=by rw[IntKind.wrap_i64,he];omega
   rw[hw,if_neg (by omega)];refine B8 ⟨i+1,by omega⟩ (by show L.length-(i+1)<L.length-i;omega) (F9 [] [] ?_);simp only[go_sem];exact(by rw[IntKind.wrap_i64];omega)
  ·rw[if_neg hlt];obtain rfl:i=L.length:=by omega
   have hfull:A3n L L.length=L.flatten.length:=by unfold A3n;rw[List.take_length]
   refine I4 [true,true] [(1,7)] (B4z (A3n L L.length) (by omega)) (by simp) (by simp) (by simp) (by simp) ?_;simp only[go_sem];refine C6 hm (ι:= {i:Nat // i≤L.length}) (fun i=> [(6, .share, .sl 7 0 (A3n L i.1) (A3n L i.1)),(25, .share,B4 1 C1j default L),(26, .share, .sc (.int .i64 L.length)),(27, .share, .sc (.int .i64 i.1))])
    (fun i=> [(7, .arr 4 (D2 B2.enc default (L.take i.1).flatten))]) (fun i=>L.length-i.1) ⟨0,by omega⟩ ?_ ?_
   ·refine F9 [] [] ?_;simp only[go_sem];simp[A3n,List.take_zero,go_sem]
   ·rintro⟨i,hi⟩;have hs:=B6d L i;simp only[go_sem,A4,A6,A3,A2];by_cases hlt:(i:Int)<L.length
    ·rw[if_pos hlt];have hlt:i<L.length:=by omega
     have hs2:=B6d L (i+1)
     have he:=C4z hlt
     have hm0:(L.take i).flatten.length=A3n L i:=rfl;refine⟨ok_,?_⟩;refine⟨⟨by omega,by omega,by omega,by simp only[maxLen];omega⟩,?_⟩;refine B8 ⟨i+1,by omega⟩ (by show L.length-(i+1)<L.length-i;omega) (F9 [] [] ?_);simp only[go_sem]
     all_goals((repeat' (with_reducible apply And.intro)) <;> first |(rw[IntKind.wrap_i64];omega) |exact he.symm |(rw[he,hm0];done) |(rw[he];done) |exact A6p (by rw[A1e default hlt];simp) |omega)
    ·rw[if_neg hlt];obtain rfl:i=L.length:=by omega
     simp only[go_sem,List.take_length];exact⟨hfull,by rw[hfull];exact B7 _⟩
theorem C4q {α:Type}{l:List α}{p:α→Bool}{i:Nat}(d:α)(h:(l.take i).all p=true)(hi:i<l.length)(hp:p (l.getD i d)=true):(l.take (i+1)).all p=true:=by rw[A1e d hi,List.all_append,h];simpa using hp
theorem D3f {α:Type}{l:List α}{p:α→Bool}{i:Nat}(d:α)(hi:i<l.length)(hp:p (l.getD i d)=false):l.all p=false:=by rw[List.all_eq_false];exact⟨_,D6 d hi,by rw[hp];simp⟩
theorem D8p {α:Type}{l:List α}{p:α→Bool}(h:(l.take l.length).all p=true):l.all p=true:=by rwa[List.take_length]at h
def A5f(w:Api.World)(k:B2):Bool:= !(A1k w k)
theorem B19(w:Api.World)(k:B2)(hw:w.Bodies.length≤1048576):A5 Tryz.prog A5m [.agg k.enc, .ptr 32 0 0 1] [(32, .box w.enc)] (.sc (.bool (A5f w k))) [(32, .box w.enc)]:=by refine R8 hm A1 Tryz.func120 rfl rfl ?_;simp only[go_sem,A4,A6,A3,A2];refine A0 (B4s w k hw) rfl ?_;simp only[go_sem,A4,A6,A3,A2];refine E3 [.share] [] [] rfl rfl (by simp[go_sem]) (by simp[A9,go_sem]) (by simp[go_sem]) ?_;simp only[go_sem,A5f]
def A2m(w:Api.World):List B2:=w.Contacts.map fun c=>c.Key
def A4j(w:Api.World):Bool:=w.Contacts.all (fun c=>D7 c.Manifold)&&J3 (A2m w)&&J3 w.Overlaps&& !((A2m w++w.Overlaps).any (A5f w))
theorem F50(w:Api.World):okO [(32, .box w.enc)]:=by refine⟨by simp[go_sem],?_⟩;simp[go_sem,C9,AV.ids]
theorem B5l(w:Api.World)(hw:Wsm w):A5 Tryz.prog B4t [.agg w.enc] [] (.sc (.bool (A4j w))) []:=by
 obtain⟨w1,w2,w3,w4,w5,w6⟩:=hw;refine en1 hm A1 Tryz.func60 rfl rfl ?_;simp only[go_sem,A4,A6,A3,A2];refine C6 hm (ι:= {i:Nat // i≤w.Contacts.length∧(w.Contacts.take i).all (fun c=>D7 c.Manifold)=true}) (fun i=> [(1, .share, .ptr 32 0 0 1),(3,if i.1=0 then .adopt else .share, .sl 7 0 i.1 i.1),(7, .share,B4 7 D5.enc default w.Contacts),(8, .share, .sc (.int .i64 w.Contacts.length)),(9, .share, .sc (.int .i64 i.1))])
  (fun i=> [(32, .box w.enc),(7, .arr 4 (D2 B2.enc default ((w.Contacts.take i.1).map fun c=>c.Key)))]) (fun i=>w.Contacts.length-i.1) ⟨0,by omega,rfl⟩ ?_ ?_
 ·refine F9 [] [7] ?_;simp only[go_sem,List.take_zero,List.map_nil]
  try simp
 ·rintro⟨i,hi,ht⟩;simp only[go_sem,A4,A6,A3,A2];by_cases hlt:(i:Int)<w.Contacts.length
  ·rw[if_pos hlt];have hlt:i<w.Contacts.length:=by omega
   have hmm:=D6 default hlt;refine⟨ok_,?_⟩;refine A0 (B48 (w.Contacts.getD i default).Manifold (w6 _ hmm)) rfl ?_;simp only[go_sem,A4,A6,A3,A2];cases hv:D7 (w.Contacts.getD i default).Manifold with
   |false=>rw[if_pos rfl];unfold A4j;have:=D3f (p:=fun c:D5=>D7 c.Manifold) default hlt hv;rw[this];rfl
   |true=>
    rw[if_neg (by simp)];have hlen:(List.map (fun c:D5=>c.Key) (List.take i w.Contacts)).length=i:=by simp;omega
    refine⟨⟨by omega,by omega,by simp only[maxLen];omega⟩,?_⟩;refine B8 ⟨i+1,by omega,C4q default ht hlt hv⟩ (by show w.Contacts.length-(i+1)<w.Contacts.length-i;omega) (F9 [] [] ?_);simp only[go_sem];refine⟨by omega,(by rw[IntKind.wrap_i64];omega),A3o (w.Contacts.getD i default).Key rfl ?_⟩;rw[A1e default hlt,List.map_append];rfl
  ·rw[if_neg hlt];obtain rfl:i=w.Contacts.length:=by omega
   have hall:=D8p ht
   have hk:(List.map (fun c:D5=>c.Key) (List.take w.Contacts.length w.Contacts))=A2m w:=by rw[List.take_length];rfl
   have hkl:(A2m w).length=w.Contacts.length:=by simp[A2m]
   simp only[hk];refine A04 (A6n (A2m w) (by omega)) rfl ?_ ?_
   ·simp only[P9,go_sem,hkl]
   simp only[go_sem,A4,A6,A3,A2];refine A0 (A6n w.Overlaps w4) rfl ?_;simp only[go_sem,A4,A6,A3,A2,hk,hkl];have hok:A4j w=(J3 (A2m w)&&J3 w.Overlaps&& !((A2m w++w.Overlaps).any (A5f w))):=by unfold A4j;rw[hall,Bool.true_and]
   rw[hok];cases J3 (A2m w)with
   |false=>rfl
   |true=>
    cases J3 w.Overlaps with
    |false=>rfl
    |true=>
     rw[if_neg (by simp)];have hC:=B2r [A2m w,w.Overlaps] (by simp;omega) (by simp)
     have hflat: [A2m w,w.Overlaps].flatten=A2m w++w.Overlaps:=by simp
     rw[hflat]at hC;refine P2 hC ?_;simp only[P9,go_sem,A4,A6,A3,A2,hk,hkl];refine⟨R5 (fun _ _=>rfl) (by simp[C1j,B4,hkl]) rfl rfl,?_⟩;refine I4 [true,true] [] (A8p (A2m w++w.Overlaps) A5m [] [.ptr 32 0 0 1] [(32, .box w.enc)] (A5f w) (by rw[List.length_append];omega) (F50 w) (by simp[go_sem,AV.ids]) (fun k _=>B19 w k w1)) (by simp) (by simp) (by simp) (by simp[go_sem]) ?_;simp only[go_sem,A4,A6,A3,A2,hk,hkl]
def L2(w:Api.World)(i1:Nat)(s1:Unit):(Unit) ⊕ (Bool):=let v6:=(W2 (w.Contacts.getD i1 default).Manifold);if v6=false then(.inr false)else(.inl ())
def M1(w:Api.World):Bool:=let v1:=(A03 w.Contacts);let v2:=(M9 v1);let v3:=(M9 w.Overlaps);let v4:=(Z2 w v1);let v5:=(Z2 w w.Overlaps);if((((!v2)||(!v3))||(!v4))||(!v5))=true then(false)else((match D0 (L2 w) w.Contacts.length ()with | .inr r=>r | .inl s1=>true))
theorem B8o(w:Api.World)(hw:Wsm w):A5 Tryz.prog B8l [.agg w.enc] [] (.sc (.bool (M1 w))) []:=by
 have hw1:=hw.1;have hw3:=hw.2.2.1;have hw4:=hw.2.2.2.1;refine en1 hm A1 Tryz.func27 rfl rfl ?_;simp only[go_sem,A4,A6,A3,A2]
 (repeat(with_reducible refine And.intro ?_ ?_;focus (first |exact B0 |(exact ob_))))
 have p1:=E0c w.Contacts;refine A0 (D6e w.Contacts (by(first |exact hw.2.2.2.2.2 _ (D6 _ (by omega)) |exact hw.1 |exact hw.2.2.1 |exact hw.2.2.2.1 |assumption |omega |exact B0 |(simp_all;done) |(simp_all;omega)))) rfl ?_;generalize hv1:(A03 w.Contacts)=v1 at*;simp only[go_sem,A4,A6,A3,A2]
 (repeat(with_reducible refine And.intro ?_ ?_;focus (first |exact B0 |(exact ob_))))
 refine A0 (B28 v1 (by(first |exact hw.2.2.2.2.2 _ (D6 _ (by omega)) |exact hw.1 |exact hw.2.2.1 |exact hw.2.2.2.1 |assumption |omega |exact B0 |(simp_all;done) |(simp_all;omega)))) rfl ?_;generalize hv2:(M9 v1)=v2;simp only[go_sem,A4,A6,A3,A2]
 (repeat(with_reducible refine And.intro ?_ ?_;focus (first |exact B0 |(exact ob_))))
 refine A0 (B28 w.Overlaps (by(first |exact hw.2.2.2.2.2 _ (D6 _ (by omega)) |exact hw.1 |exact hw.2.2.1 |exact hw.2.2.2.1 |assumption |omega |exact B0 |(simp_all;done) |(simp_all;omega)))) rfl ?_;generalize hv3:(M9 w.Overlaps)=v3;simp only[go_sem,A4,A6,A3,A2]
 (repeat(with_reducible refine And.intro ?_ ?_;focus (first |exact B0 |(exact ob_))))
 refine A0 (B4m w v1 (by(first |exact hw.2.2.2.2.2 _ (D6 _ (by omega)) |exact hw.1 |exact hw.2.2.1 |exact hw.2.2.2.1 |assumption |omega |exact B0 |(simp_all;done) |(simp_all;omega))) (by(first |exact hw.2.2.2.2.2 _ (D6 _ (by omega)) |exact hw.1 |exact hw.2.2.1 |exact hw.2.2.2.1 |assumption |omega |exact B0 |(simp_all;done) |(simp_all;omega)))) rfl ?_;generalize hv4:(Z2 w v1)=v4;simp only[go_sem,A4,A6,A3,A2]
 (repeat(with_reducible refine And.intro ?_ ?_;focus (first |exact B0 |(exact ob_))))
 refine A0 (B4m w w.Overlaps (by(first |exact hw.2.2.2.2.2 _ (D6 _ (by omega)) |exact hw.1 |exact hw.2.2.1 |exact hw.2.2.2.1 |assumption |omega |exact B0 |(simp_all;done) |(simp_all;omega))) (by(first |exact hw.2.2.2.2.2 _ (D6 _ (by omega)) |exact hw.1 |exact hw.2.2.1 |exact hw.2.2.2.1 |assumption |omega |exact B0 |(simp_all;done) |(simp_all;omega)))) rfl ?_;generalize hv5:(Z2 w w.Overlaps)=v5;simp only[go_sem,A4,A6,A3,A2]
 (repeat(with_reducible refine And.intro ?_ ?_;focus (first |exact B0 |(exact ob_))))
 by_cases h2:((((!v2)||(!v3))||(!v4))||(!v5))=true
 ·first |rw[if_pos h2] |rw[if_pos (by simp_all)] |rw[if_pos (by omega)]
  (repeat(with_reducible refine And.intro ?_ ?_;focus (first |exact B0 |(exact ob_))))
  have hd:M1 w=false:=by first |with_reducible rfl |(unfold M1;exact hd_)
  try rw[hd]
  try simp only[go_sem,A4,A6,A3,A2]
  all_goals exact F4
 ·first |rw[if_neg h2] |rw[if_neg (by simp_all)] |rw[if_neg (by omega)]
  (repeat(with_reducible refine And.intro ?_ ?_;focus (first |exact B0 |(exact ob_))))
  refine C6 hm (ι:= {p:Nat×Unit // p.1≤w.Contacts.length∧D0 (L2 w) p.1 ()= .inl p.2}) (fun i=> [(1, .share, .ptr 32 0 0 1),(4, .share, .sc (.int .i64 (i.1.1:Int)))]) (fun i=> [(32, .box [.sc (.int .i64 w.Settings.TimeStep), .sc (.int .i64 w.Settings.Gravity.X), .sc (.int .i64 w.Settings.Gravity.Y), .sc (.int .i64 w.Settings.Iterations), .sc (.int .i64 w.Settings.SleepSteps),B4 20 Body.enc default w.Bodies,B4 24 Joint.enc default w.Joints,B4 7 D5.enc default w.Contacts,B4 4 B2.enc default w.Overlaps, .sc (.int .i64 w.NextID), .sc (.int .i64 w.Frame)])]) (fun i=>w.Contacts.length-i.1.1) ⟨(0,()),by omega,rfl⟩ ?_ ?_
  ·refine F9 [] [] ?_;simp only[go_sem,A4,A6,A3,A2,B6]
   all_goals exact F4
  ·rintro⟨⟨i1,s1⟩,hi1,hs1⟩;replace hi1:i1≤w.Contacts.length:=hi1;replace hs1:D0 (L2 w) i1 ()= .inl s1:=hs1;simp only[go_sem,A4,A6,A3,A2]
   (repeat(with_reducible refine And.intro ?_ ?_;focus (first |exact B0 |(exact ob_))))
   by_cases h3:(i1:Int)<(w.Contacts.length:Int)
   ·first |rw[if_pos h3] |rw[if_pos (by simp_all)] |rw[if_pos (by omega)]
    have hlt1:i1<w.Contacts.length:=by first |omega |(simp only[IntKind.wrap_i64]at h3;omega)
    (repeat(with_reducible refine And.intro ?_ ?_;focus (first |exact B0 |(exact ob_))))
    refine A0 (C1u (w.Contacts.getD i1 default).Manifold (by(first |exact hw.2.2.2.2.2 _ (D6 _ (by omega)) |exact hw.1 |exact hw.2.2.1 |exact hw.2.2.2.1 |assumption |omega |exact B0 |(simp_all;done) |(simp_all;omega)))) rfl ?_;generalize hv6:(W2 (w.Contacts.getD i1 default).Manifold)=v6;simp only[go_sem,A4,A6,A3,A2]
    (repeat(with_reducible refine And.intro ?_ ?_;focus (first |exact B0 |(exact ob_))))
    by_cases h4:v6=false
    ·first |rw[if_pos h4] |rw[if_pos (by simp_all)] |rw[if_pos (by omega)]
     (repeat(with_reducible refine And.intro ?_ ?_;focus (first |exact B0 |(exact ob_))))
     have e1:D0 (L2 w) (i1+1) ()= .inr false:=K3 hs1 (by first |with_reducible rfl |(unfold L2;exact hd_));replace e1:=U5 e1 (show i1+1≤w.Contacts.length by omega);have hd:M1 w=false:=by first |with_reducible rfl |(unfold M1;exact hd_)
     try rw[hd]
     try simp only[go_sem,A4,A6,A3,A2]
     all_goals exact F4
    ·first |rw[if_neg h4] |rw[if_neg (by simp_all)] |rw[if_neg (by omega)]
     (repeat(with_reducible refine And.intro ?_ ?_;focus (first |exact B0 |(exact ob_))))
     have hn:D0 (L2 w) (i1+1) ()= .inl ():=K3 hs1 (by first |with_reducible rfl |(unfold L2;exact hd_));refine B8 ⟨(i1+1,()),by omega,hn⟩ (by show w.Contacts.length-(i1+1)<w.Contacts.length-i1;omega) (F9 [] [] ?_);simp only[go_sem,A4,A6,A3,A2]
     all_goals exact F4
   ·first |rw[if_neg h3] |rw[if_neg (by simp_all)] |rw[if_neg (by omega)]
    (repeat(with_reducible refine And.intro ?_ ?_;focus (first |exact B0 |(exact ob_))))
    have hge:i1=w.Contacts.length:=by first |omega |(simp only[IntKind.wrap_i64]at h3;omega)
    subst hge;have hd:M1 w=true:=by first |with_reducible rfl |(unfold M1;exact hd_)
    try rw[hd]
    try simp only[go_sem,A4,A6,A3,A2]
    all_goals exact F4
end Go.Abs
end
section
namespace Go.Abs
open Go.Proofs
open Api
def V0(s:Settings):Int:=if((((!(inR s.TimeStep 64 8192))||(!((inR s.Gravity.X (-16777216) 16777216)&&(inR s.Gravity.Y (-16777216) 16777216))))||(!(inR s.Iterations 1 32)))||(!(inR s.SleepSteps 0 1048576)))=true then(6)else(0)
theorem B1z(s:Settings):A5 Tryz.prog B11 [.agg s.enc] [] (.sc (.int .i64 (V0 s))) []:=by
 refine en1 hm A1 Tryz.func56 rfl rfl ?_;have:=B7f
 have:=V0.eq_1 s;exact D3
def X4(s:Settings):Int:=if(((((!(inR s.TimeStep 64 8192))||(!(inR s.Gravity.X (-16777216) 16777216)))||(!(inR s.Gravity.Y (-16777216) 16777216)))||(!(inR s.Iterations 1 32)))||(!(inR s.SleepSteps 0 1048576)))=true then(6)else(0)
theorem B3o(s:Settings):A5 Tryz.prog B3j [.agg s.enc] [] (.sc (.int .i64 (X4 s))) []:=by
 refine en1 hm A1 Tryz.func23 rfl rfl ?_;have:=B7d
 have:=X4.eq_1 s;exact D3
def P5(w:Api.World):Int:=let v1:=(V0 w.Settings);if(v1 != 0)=true then(17)else(if((((decide (32<(w.Bodies.length:Int)))||(decide (32<(w.Joints.length:Int))))||(decide (8192<(w.Contacts.length:Int))))||(decide (8192<(w.Overlaps.length:Int))))=true then(11)else(if((!(inR w.NextID 1 1099511627776))||(!(inR w.Frame 0 1099511627776)))=true then(6)else(let v4:=(Q2 w);if v4=false then(14)else(let v5:=(Q1 w);if v5=false then(15)else(let v6:=(A4j w);if v6=false then(16)else(0))))))
theorem H8(w:Api.World)(hw:Wsm w):A5 Tryz.prog C3r [.agg w.enc] [] (.sc (.int .i64 (P5 w))) []:=by
 refine en1 hm A1 Tryz.func30 rfl rfl ?_;have:=B1z
 have:=B7f
 have:=B78
 have:=B75
 have:=B5l
 have:=P5.eq_1 w;exact D3
def A3t(w:Api.World):Int:=let v1:=(X4 w.Settings);if(v1 != 0)=true then(17)else(if((((decide (32<(w.Bodies.length:Int)))||(decide (32<(w.Joints.length:Int))))||(decide (8192<(w.Contacts.length:Int))))||(decide (8192<(w.Overlaps.length:Int))))=true then(11)else(if((!(inR w.NextID 1 1099511627776))||(!(inR w.Frame 0 1099511627776)))=true then(6)else(let v4:=(T3 w);if v4=false then(14)else(let v5:=(S7 w);if v5=false then(15)else(let v6:=(M1 w);if v6=false then(16)else(0))))))
theorem B44(w:Api.World)(hw:Wsm w):A5 Tryz.prog C78 [.agg w.enc] [] (.sc (.int .i64 (A3t w))) []:=by
 refine en1 hm A1 Tryz.func6 rfl rfl ?_;have:=B3o
 have:=B7d
 have:=C1s
 have:=C1l
 have:=B8o
 have:=A3t.eq_1 w;exact D3
end Go.Abs
end
section
namespace Go.Abs
open Go.Proofs
open Api
def V6(ps:List Vec)(i1:Nat)(s1:Int×Int×Int×Int):Int×Int×Int×Int:=let v2:=(H0 ((ps.drop 1).getD i1 default));let v3:=(B10 (⟨s1.1,s1.2.1⟩:Vec) v2);let v4:=(B13 (⟨s1.2.2.1,s1.2.2.2⟩:Vec) v2);(v3.X,v3.Y,v4.X,v4.Y)
def T0(ps:List Vec):AABB×Bool:=if((ps.length:Int)==0)=true then(((⟨(⟨0,0⟩:Vec),(⟨0,0⟩:Vec)⟩:AABB),false))else(let v1:=(H0 (ps.getD 0 default));let s1:=itr (V6 ps) (ps.drop 1).length (v1.X,v1.Y,v1.X,v1.Y);((⟨(⟨s1.1,s1.2.1⟩:Vec),(⟨s1.2.2.1,s1.2.2.2⟩:Vec)⟩:AABB),true))
theorem A6c(ps:List Vec)(h0:ps.length≤1048576):A5 Tryz.prog C1r [B4 2 Vec.enc default ps] [] (.tup [.agg (T0 ps).1.enc, .sc (.bool (T0 ps).2)]) []:=by
 refine P6 40 [(2,some (some 4)),(3,none)] hm A1 Tryz.func140 rfl ?_;have:=fun x1 x2 x3=>cx_ (B9b ⟨x1,x2⟩ x3)
 have:=fun x1 x2 x3=>cx_ (B9f ⟨x1,x2⟩ x3)
 have:=C4i
 have:=B9b
 have:=B9f
 have:=T0.eq_1 ps
 have:=fun i_ s_=>V6.eq_1 ps i_ s_
 have:=fun x_ Q_ σ_=> @lp_ Tryz.prog 40 [] x_ Q_ σ_ hm (fun _=>True) (fun _=>True) (ps.drop 1).length (fun i_=> [(2, .share, .ptr 48 0 0 1),(5, .share, .ptr 96 0 0 1),(20, .share,B4 2 Vec.enc default (ps.drop 1)),(21, .share, .sc (.int .i64 ((ps.drop 1).length:Int))),(22, .share, .sc (.int .i64 (i_:Int)))]) (fun i_=> [(48, .box [.sc (.int .i64 0), .sc (.int .i64 0), .sc (.int .i64 0), .sc (.int .i64 0)]),(96, .box [.sc (.int .i64 (itr (V6 ps) i_ ((H0 (ps.getD 0 default)).X,(H0 (ps.getD 0 default)).Y,(H0 (ps.getD 0 default)).X,(H0 (ps.getD 0 default)).Y)).1), .sc (.int .i64 (itr (V6 ps) i_ ((H0 (ps.getD 0 default)).X,(H0 (ps.getD 0 default)).Y,(H0 (ps.getD 0 default)).X,(H0 (ps.getD 0 default)).Y)).2.1), .sc (.int .i64 (itr (V6 ps) i_ ((H0 (ps.getD 0 default)).X,(H0 (ps.getD 0 default)).Y,(H0 (ps.getD 0 default)).X,(H0 (ps.getD 0 default)).Y)).2.2.1), .sc (.int .i64 (itr (V6 ps) i_ ((H0 (ps.getD 0 default)).X,(H0 (ps.getD 0 default)).Y,(H0 (ps.getD 0 default)).X,(H0 (ps.getD 0 default)).Y)).2.2.2)])]) [] trivial (fun _ _=>trivial) (by simp[go_sem]) (by simp[go_sem,A9]) (by simp[go_sem]);exact A2i
def O7(a:Vec)(b:Vec)(c:Vec)(d:Vec):Bool:=let v1:=(T0 ([a,b]));let v2:=(T0 ([c,d]));let v3:=(ori a b c);let v4:=(ori a b d);let v5:=(ori c d a);let v6:=(ori c d b);let v7:=(A0b v1.1 v2.1);((!((decide (0<(IntKind.i64.wrap (v3*v4))))||(decide (0<(IntKind.i64.wrap (v5*v6))))))&&v7)
theorem A76(a:Vec)(b:Vec)(c:Vec)(d:Vec):A5 Tryz.prog B7c [.agg a.enc, .agg b.enc, .agg c.enc, .agg d.enc] [] (.sc (.bool (O7 a b c d))) []:=by
 refine en1 hm A1 Tryz.func244 rfl rfl ?_;simp only[go_sem,go_sem_proc,A4,A6,A3,A2]
 (repeat(with_reducible refine And.intro ?_ ?_;focus (exact bO_)))
 refine A04 (A6c ([a,b]) (by(first |assumption |omega |exact B0 |(simp_all;done) |(simp_all;omega)))) rfl ?_ ?_
 ·(try simp only[P9,go_sem,go_sem_proc,A4,A6,A3,A2]);all_goals((repeat' (with_reducible apply And.intro)) <;> first |with_reducible rfl |trivial |exact R5 (fun _ _=>rfl) rfl rfl rfl |exact C1 rfl |exact A2w _ |rfl)
 generalize hv1:(T0 ([a,b]))=v1;simp only[go_sem,go_sem_proc,A4,A6,A3,A2]
 (repeat(with_reducible refine And.intro ?_ ?_;focus (exact bO_)))
 refine A04 (A6c ([c,d]) (by(first |assumption |omega |exact B0 |(simp_all;done) |(simp_all;omega)))) rfl ?_ ?_
 ·(try simp only[P9,go_sem,go_sem_proc,A4,A6,A3,A2]);all_goals((repeat' (with_reducible apply And.intro)) <;> first |with_reducible rfl |trivial |exact R5 (fun _ _=>rfl) rfl rfl rfl |exact C1 rfl |exact A2w _ |rfl)
 generalize hv2:(T0 ([c,d]))=v2;simp only[go_sem,go_sem_proc,A4,A6,A3,A2]
 (repeat(with_reducible refine And.intro ?_ ?_;focus (exact bO_)))
 refine A0 (Z1 a b c) rfl ?_;generalize hv3:(ori a b c)=v3;simp only[go_sem,go_sem_proc,A4,A6,A3,A2]
 (repeat(with_reducible refine And.intro ?_ ?_;focus (exact bO_)))
 refine A0 (Z1 a b d) rfl ?_;generalize hv4:(ori a b d)=v4;simp only[go_sem,go_sem_proc,A4,A6,A3,A2]
 (repeat(with_reducible refine And.intro ?_ ?_;focus (exact bO_)))
 refine A0 (Z1 c d a) rfl ?_;generalize hv5:(ori c d a)=v5;simp only[go_sem,go_sem_proc,A4,A6,A3,A2]
 (repeat(with_reducible refine And.intro ?_ ?_;focus (exact bO_)))
 refine A0 (Z1 c d b) rfl ?_;generalize hv6:(ori c d b)=v6;simp only[go_sem,go_sem_proc,A4,A6,A3,A2]
 (repeat(with_reducible refine And.intro ?_ ?_;focus (exact bO_)))
 refine A0 (B22 v1.1 v2.1) rfl ?_;generalize hv7:(A0b v1.1 v2.1)=v7;simp only[go_sem,go_sem_proc,A4,A6,A3,A2]
 (repeat(with_reducible refine And.intro ?_ ?_;focus (exact bO_)))
 have hd:O7 a b c d=((!((decide (0<(IntKind.i64.wrap (v3*v4))))||(decide (0<(IntKind.i64.wrap (v5*v6))))))&&v7):=by first |with_reducible rfl |(simp only[O7,hv1,hv2,hv3,hv4,hv5,hv6,hv7,if_true,if_false,eq_self,Bool.false_eq_true,Bool.true_eq_false,not_true_eq_false,not_false_eq_true,reduceCtorEq,B6,C5,E1,E2,Bool.and_true,Bool.true_and,Bool.and_false,Bool.false_and,Bool.or_true,Bool.true_or,Bool.or_false,Bool.false_or,Bool.not_true,Bool.not_false,decide_true,decide_false];done) |(simp only[O7,hv1,hv2,hv3,hv4,hv5,hv6,hv7,if_true,if_false,eq_self,Bool.false_eq_true,Bool.true_eq_false,not_true_eq_false,not_false_eq_true,reduceCtorEq,B6,C5,E1,E2,Bool.and_true,Bool.true_and,Bool.and_false,Bool.false_and,Bool.or_true,Bool.true_or,Bool.or_false,Bool.false_or,Bool.not_true,Bool.not_false,decide_true,decide_false];with_reducible rfl) |(simp only[O7,hv1,hv2,hv3,hv4,hv5,hv6,hv7,if_true,if_false,eq_self,Bool.false_eq_true,Bool.true_eq_false,not_true_eq_false,not_false_eq_true,reduceCtorEq,B6,C5,E1,E2,Bool.and_true,Bool.true_and,Bool.and_false,Bool.false_and,Bool.or_true,Bool.true_or,Bool.or_false,Bool.false_or,Bool.not_true,Bool.not_false,decide_true,decide_false];rfl) |(unfold O7;(repeat' split) <;> first |rfl |omega |(simp_all;done) |(simp_all;omega))
 try rw[hd]
 try simp only[go_sem,go_sem_proc,A4,A6,A3,A2]
 all_goals exact eO_
structure D1 where
 x:Vec
 y:Vec
 deriving DecidableEq,Inhabited
def D1.enc(x:D1):List AV:=[.sc (.int .i64 x.x.X), .sc (.int .i64 x.x.Y), .sc (.int .i64 x.y.X), .sc (.int .i64 x.y.Y)]
def D1.zero:List AV:= [.sc (.int .i64 0), .sc (.int .i64 0), .sc (.int .i64 0), .sc (.int .i64 0)]
attribute [go_sem] D1.enc D1.zero
@[go_sem] theorem D47(x:D1):D1.mk x.x x.y=x:=rfl
def O2(v2:Vec)(v3:Vec)(v4:Vec)(v11:Vec×Int)(v12:Vec×Int)(v13:Vec×Int)(i1:Nat)(s1:Int×Int×Int×Int):Int×Int×Int×Int:=let v14:=(A8i (([(⟨v2,v11.1⟩:D1),(⟨v12.1,v3⟩:D1),(⟨v13.1,v4⟩:D1)]).getD i1 default).x (([(⟨v2,v11.1⟩:D1),(⟨v12.1,v3⟩:D1),(⟨v13.1,v4⟩:D1)]).getD i1 default).y);let v15:=(A8i (⟨s1.1,s1.2.1⟩:Vec) (⟨s1.2.2.1,s1.2.2.2⟩:Vec));if v14<v15 then(((([(⟨v2,v11.1⟩:D1),(⟨v12.1,v3⟩:D1),(⟨v13.1,v4⟩:D1)]).getD i1 default).x.X,(([(⟨v2,v11.1⟩:D1),(⟨v12.1,v3⟩:D1),(⟨v13.1,v4⟩:D1)]).getD i1 default).x.Y,(([(⟨v2,v11.1⟩:D1),(⟨v12.1,v3⟩:D1),(⟨v13.1,v4⟩:D1)]).getD i1 default).y.X,(([(⟨v2,v11.1⟩:D1),(⟨v12.1,v3⟩:D1),(⟨v13.1,v4⟩:D1)]).getD i1 default).y.Y))else((s1.1,s1.2.1,s1.2.2.1,s1.2.2.2))
def A0q(a:Vec)(b:Vec)(c:Vec)(d:Vec):Vec×Vec:=let v1:=(A7 a);let v2:=(A7 b);let v3:=(A7 c);let v4:=(A7 d);let v5:=(O7 v1 v2 v3 v4);if v5=true then(let v6:=(A08 v3 v4 v1);let v7:=(A08 v3 v4 v2);let v8:=(A4t v6 (IntKind.i64.wrap (v6+v7)));let v9:=(A3e v1 v2 v8);(v9,v9))else(let v10:=(B5 v3 v4 v1);let v11:=(B5 v3 v4 v2);let v12:=(B5 v1 v2 v3);let v13:=(B5 v1 v2 v4);let s1:=itr (O2 v2 v3 v4 v11 v12 v13) 3 (v1.X,v1.Y,v10.1.X,v10.1.Y);((⟨s1.1,s1.2.1⟩:Vec),(⟨s1.2.2.1,s1.2.2.2⟩:Vec)))
theorem B2q(a:Vec)(b:Vec)(c:Vec)(d:Vec):A5 Tryz.prog B2n [.agg a.enc, .agg b.enc, .agg c.enc, .agg d.enc] [] (.tup [.agg (A0q a b c d).1.enc, .agg (A0q a b c d).2.enc]) []:=by
 refine P6 118 [(8,some (some 2)),(9,some (some 2))] hm A1 Tryz.func246 rfl ?_;have:=fun x1 x2 x3 x4=>cx_ (X3 ⟨x1,x2⟩ ⟨x3,x4⟩)
 have:=A90
 have:=A76
 have:=B35
 have:=B0f
 have:=A6m
 have:=B4a
 have:=X3
 have:=A0q.eq_1 a b c d
 have:=fun i_ s_=>O2.eq_1 (A7 b) (A7 c) (A7 d) (B5 (A7 c) (A7 d) (A7 b)) (B5 (A7 a) (A7 b) (A7 c)) (B5 (A7 a) (A7 b) (A7 d)) i_ s_
 have:=fun x_ Q_ σ_=> @lp_ Tryz.prog 118 [] x_ Q_ σ_ hm (fun _=>True) (fun _=>True) 3 (fun i_=> [(8, .share, .ptr 144 0 0 1),(9, .share, .ptr 160 0 0 1),(21, .share, .ptr 352 0 0 1),(95, .share, .sl 1536 0 3 3),(96, .share, .sc (.int .i64 3)),(97, .share, .sc (.int .i64 (i_:Int)))]) (fun i_=> [(144, .box [.sc (.int .i64 0), .sc (.int .i64 0)]),(160, .box [.sc (.int .i64 0), .sc (.int .i64 0)]),(352, .box [.sc (.int .i64 (itr (O2 (A7 b) (A7 c) (A7 d) (B5 (A7 c) (A7 d) (A7 b)) (B5 (A7 a) (A7 b) (A7 c)) (B5 (A7 a) (A7 b) (A7 d))) i_ ((A7 a).X,(A7 a).Y,(B5 (A7 c) (A7 d) (A7 a)).1.X,(B5 (A7 c) (A7 d) (A7 a)).1.Y)).1), .sc (.int .i64 (itr (O2 (A7 b) (A7 c) (A7 d) (B5 (A7 c) (A7 d) (A7 b)) (B5 (A7 a) (A7 b) (A7 c)) (B5 (A7 a) (A7 b) (A7 d))) i_ ((A7 a).X,(A7 a).Y,(B5 (A7 c) (A7 d) (A7 a)).1.X,(B5 (A7 c) (A7 d) (A7 a)).1.Y)).2.1), .sc (.int .i64 (itr (O2 (A7 b) (A7 c) (A7 d) (B5 (A7 c) (A7 d) (A7 b)) (B5 (A7 a) (A7 b) (A7 c)) (B5 (A7 a) (A7 b) (A7 d))) i_ ((A7 a).X,(A7 a).Y,(B5 (A7 c) (A7 d) (A7 a)).1.X,(B5 (A7 c) (A7 d) (A7 a)).1.Y)).2.2.1), .sc (.int .i64 (itr (O2 (A7 b) (A7 c) (A7 d) (B5 (A7 c) (A7 d) (A7 b)) (B5 (A7 a) (A7 b) (A7 c)) (B5 (A7 a) (A7 b) (A7 d))) i_ ((A7 a).X,(A7 a).Y,(B5 (A7 c) (A7 d) (A7 a)).1.X,(B5 (A7 c) (A7 d) (A7 a)).1.Y)).2.2.2)]),(1536, .arr 4 (D2 D1.enc default ([(⟨(A7 b),(B5 (A7 c) (A7 d) (A7 b)).1⟩:D1),(⟨(B5 (A7 a) (A7 b) (A7 c)).1,(A7 c)⟩:D1),(⟨(B5 (A7 a) (A7 b) (A7 d)).1,(A7 d)⟩:D1)])))]) [] trivial (fun _ _=>trivial) (by simp[go_sem]) (by simp[go_sem,A9]) (by simp[go_sem]);exact A2i
def A5w(a:Vec)(b:Vec)(c:Vec)(d:Vec):Int:=let v1:=(O7 a b c d);if v1=true then(0)else(let v2:=(A0q a b c d);let v3:=(A8i v2.1 v2.2);let v4:=(isq v3);(sat v4))
theorem B8z(a:Vec)(b:Vec)(c:Vec)(d:Vec):A5 Tryz.prog C0v [.agg a.enc, .agg b.enc, .agg c.enc, .agg d.enc] [] (.sc (.int .i64 (A5w a b c d))) []:=by
 refine en1 hm A1 Tryz.func136 rfl rfl ?_;have:=A76
 have:=B2q
 have:=X3
 have:=A6v
 have:=H5
 have:=A5w.eq_1 a b c d;exact D3
def Q3(s:Shape)(p:Transform)(i1:Nat)(s1:(List Vec)):(List Vec):=let v2:=(S9 p (s.Vertices.getD i1 default));(s1++ [v2])
def D8(s:Shape)(p:Transform):(List Vec):=let v1:=(J7 s);if(v1 != 0)=true then(([]:List Vec))else(let s1:=itr (Q3 s p) s.Vertices.length [];s1)
theorem A69(s:Shape)(p:Transform)(h0:s.Vertices.length≤1048576):A5 Tryz.prog C4c [.agg s.enc, .agg p.enc] [] (B4 2 Vec.enc default (D8 s p)) []:=by
 refine en1 hm A1 Tryz.func133 rfl rfl ?_;have:=A67
 have:=B0q
 have:=D8.eq_1 s p
 have:=fun i_ s_=>Q3.eq_1 s p i_ s_
 have:=fun x_ Q_ σ_=> @lp_ Tryz.prog Tryz.f133.ntmps [] x_ Q_ σ_ hm (fun _=>True) (fun i_=>((itr (Q3 s p) i_ [])).length≤0+1*i_) s.Vertices.length (fun i_=> [(3, .share, .ptr 64 0 0 1),(5,if i_=0 then .adopt else .share, .sl 1005 0 (itr (Q3 s p) i_ []).length (itr (Q3 s p) i_ []).length),(12, .share,B4 2 Vec.enc default s.Vertices),(13, .share, .sc (.int .i64 (s.Vertices.length:Int))),(14, .share, .sc (.int .i64 (i_:Int)))]) (fun i_=> [(64, .box [.sc (.int .i64 p.Position.X), .sc (.int .i64 p.Position.Y), .sc (.int .i64 p.Angle)]),(1005, .arr 2 (D2 Vec.enc default (itr (Q3 s p) i_ [])))]) [1005] trivial (fun i_ hI_=>B1o (fun s:(List Vec)=>(s).length) 1 (fun i s=>by(unfold Q3;(repeat' split) <;> simp <;> omega)) i_ _) (by simp[go_sem]) (by simp[go_sem,A9]) (by simp[go_sem]);exact A2x
theorem D43 {α β:Type}(g:α→β)(d:α)(l:List α)(st:Nat→List β→List β)(h: ∀i s,st i s=s++ [g (l.getD i d)]): ∀n,n≤l.length→itr st n []=(l.take n).map g
 |0,_=>rfl
 |n+1,hn=>by rw[H7,h,D43 g d l st h n (by omega),A1e d (by omega:n<l.length),List.map_append];rfl
theorem E1n(s:Shape)(p:Transform):D8 s p=if J7 s=0 then s.Vertices.map (fun v=>S9 p v)else []:=by
 unfold D8;by_cases h:J7 s=0
 ·rw[if_neg (by simp[h]),if_pos h];have:=D43 (fun v=>S9 p v) default s.Vertices (Q3 s p) (fun i s'=>rfl) s.Vertices.length (Nat.le_refl _);rw[List.take_length]at this;exact this
 ·rw[if_pos (by simp[h]),if_neg h]
theorem C0l(s:Shape)(p:Transform):(D8 s p).length=(if J7 s=0 then s.Vertices.length else 0):=by rw[E1n];split <;> simp
theorem C3t(s:Shape)(p:Transform):(D8 s p).length≤s.Vertices.length:=by rw[C0l];split <;> omega
def A2d(s:Shape)(p:Transform):AABB:=let v1:=(D8 s p);let v2:=(T0 v1);if v2.2=false then((⟨(⟨0,0⟩:Vec),(⟨0,0⟩:Vec)⟩:AABB))else(let v3:=(J8 v2.1.Min (⟨s.Radius,s.Radius⟩:Vec));let v4:=(T8 v2.1.Max (⟨s.Radius,s.Radius⟩:Vec));(⟨v3,v4⟩:AABB))
theorem C62(s:Shape)(p:Transform)(h0:s.Vertices.length≤1048576):A5 Tryz.prog C7l [.agg s.enc, .agg p.enc] [] (.agg (A2d s p).enc) []:=by
 refine P7 32 [(4,some (some 4))] hm A1 Tryz.func73 rfl ?_;have:=fun x1 x2 x3=>cx_ (N4 x1 ⟨x2,x3⟩)
 have:=fun x1 x2 x3=>cx_ (A17 x1 ⟨x2,x3⟩)
 have:=C3t s p
 have:=A69
 have:=A6c
 have:=N4
 have:=A17
 have:=A2d.eq_1 s p;exact A2i
def A2j(v:Vec)(v1:(List Vec))(i1:Nat)(s1:Unit):(Unit) ⊕ (Bool):=let v5:=(ori (v1.getD i1 default) (v1.getD ((IntKind.i64.wrap ((i1:Int)+1)).tmod (v1.length:Int)).toNat default) v);if v5<0 then(.inr false)else(.inl ())
def U1(s:Shape)(p:Transform)(v:Vec):Bool:=let v1:=(D8 s p);if((v1.length:Int)==0)=true then(false)else(if((v1.length:Int)==1)=true then(let v2:=(J8 v (v1.getD 0 default));let v3:=(A4c v2);(decide (v3≤s.Radius)))else(if((v1.length:Int)==2)=true then(let v4:=(A5w v v (v1.getD 0 default) (v1.getD 1 default));(decide (v4≤s.Radius)))else((match D0 (A2j v v1) v1.length ()with | .inr r=>r | .inl s1=>true))))
theorem A7j(s:Shape)(p:Transform)(v:Vec)(h0:s.Vertices.length≤1048576):A5 Tryz.prog B4y [.agg s.enc, .agg p.enc, .agg v.enc] [] (.sc (.bool (U1 s p v))) []:=by
 refine en1 hm A1 Tryz.func70 rfl rfl ?_;have:=C3t s p
 have:=A69
 have:=N4
 have:=A1w
 have:=B8z
 have:=Z1
 have:=U1.eq_1 s p v
 have:=fun i_ s_=>A2j.eq_1 v (D8 s p) i_ s_
 have:=fun x_ Q_ σ_=> @lp_ Tryz.prog Tryz.f70.ntmps [] x_ Q_ σ_ hm (IE (A2j v (D8 s p)) ()) (fun _=>True) (D8 s p).length (fun i_=> [(5, .share, .ptr 96 0 0 1),(7, .share,B4 2 Vec.enc default (D8 s p)),(42, .share,B4 2 Vec.enc default (D8 s p)),(43, .share, .sc (.int .i64 ((D8 s p).length:Int))),(44, .share, .sc (.int .i64 (i_:Int)))]) (fun i_=> [(96, .box [.sc (.int .i64 v.X), .sc (.int .i64 v.Y)])]) [] rfl (fun _ _=>trivial) (by simp[go_sem]) (by simp[go_sem,A9]) (by simp[go_sem]);exact A2i
end Go.Abs
end
section
namespace Go.Abs
open Go.Proofs
open Api
theorem C8d(s:Shape):J7 s=0→(1≤s.Kind∧s.Kind≤3)∧(s.Kind=1→s.Vertices.length=1)∧(s.Kind=2→s.Vertices.length=2)∧(s.Kind≠1→s.Kind≠2→3≤s.Vertices.length)∧s.Vertices.length≤8:=by
 intro h;unfold J7 at h;split at h
 ·cases h
 ·rename_i h1;simp only at h;split at h
  ·cases h
  ·rename_i h2;clear h;unfold R4 at h2;simp only[Bool.or_eq_true,decide_eq_true_eq,not_or]at h1
   (repeat' split at h2) <;> simp only[Bool.and_eq_true,Bool.not_eq_false,decide_eq_true_eq,beq_iff_eq,Bool.not_eq_true]at* <;> omega
def B1c(a:List Vec)(i:Int):Vec×Bool:=if(((decide ((a.length:Int)<2))||(decide (i<0)))||(decide ((a.length:Int)≤i)))=true then(((⟨0,0⟩:Vec),false))else(let v1:=(J8 (a.getD ((IntKind.i64.wrap (i+1)).tmod (a.length:Int)).toNat default) (a.getD i.toNat default));(v1,true))
theorem D7h(a:List Vec)(i:Int)(h0:a.length≤1048576):A5 Tryz.prog D63 [B4 2 Vec.enc default a, .sc (.int .i64 i)] [] (.tup [.agg (B1c a i).1.enc, .sc (.bool (B1c a i).2)]) []:=by
 refine P6 33 [(4,some (some 2)),(5,none)] hm A1 Tryz.func426 rfl ?_;have:=N4
 have:=B1c.eq_1 a i;exact A2i
def A4d(a:List Vec)(i:Int):Vec:=let v1:=(B1c a i);if v1.2=false then((⟨0,0⟩:Vec))else(let v2:=(X9 (⟨v1.1.Y,(IntKind.i64.wrap (0-v1.1.X))⟩:Vec));v2)
theorem C3w(a:List Vec)(i:Int)(h0:a.length≤1048576):A5 Tryz.prog C23 [B4 2 Vec.enc default a, .sc (.int .i64 i)] [] (.agg (A4d a i).enc) []:=by
 refine P7 23 [(4,some (some 2))] hm A1 Tryz.func338 rfl ?_;have:=fun x1 x2=>cx_ (A4f ⟨x1,x2⟩)
 have:=D7h
 have:=A4f
 have:=A4d.eq_1 a i;exact D3
structure A3d where
 Point:Vec
 ID:Int
 deriving DecidableEq,Inhabited
def A3d.enc(x:A3d):List AV:=[.sc (.int .i64 x.Point.X), .sc (.int .i64 x.Point.Y), .sc (.int .i64 x.ID)]
def A3d.zero:List AV:= [.sc (.int .i64 0), .sc (.int .i64 0), .sc (.int .i64 0)]
attribute [go_sem] A3d.enc A3d.zero
@[go_sem] theorem E2a(x:A3d):A3d.mk x.Point x.ID=x:=rfl
theorem E41(vs:List Vec):(K1 vs).1.length≤vs.length:=by have:=B1o (fun s:(List F0)×Int=>s.1.length) 1 (f:=K7 vs) (fun i s=>by unfold K7;simp) (vs.length-2) ([],0);unfold K1;simp only[List.length_nil]at this⊢;omega
def A1i(v2:(List F0)×Int)(i1:Nat)(s1:Int×Int):Int×Int:=((IntKind.i64.wrap (s1.1+(IntKind.i64.wrap ((IntKind.i64.wrap ((v2.1.getD i1 default).e.X+(v2.1.getD i1 default).f.X))*(v2.1.getD i1 default).cross)))),(IntKind.i64.wrap (s1.2+(IntKind.i64.wrap ((IntKind.i64.wrap ((v2.1.getD i1 default).e.Y+(v2.1.getD i1 default).f.Y))*(v2.1.getD i1 default).cross)))))
def E9(vs:List Vec):Vec:=let v1:=(F6 vs);if v1=false then((⟨0,0⟩:Vec))else(let v2:=(K1 vs);if(v2.2==0)=true then((vs.getD 0 default))else(let s1:=itr (A1i v2) v2.1.length (0,0);let v3:=(Y1 s1.1 (IntKind.i64.wrap (3*v2.2)));let v4:=(Y1 s1.2 (IntKind.i64.wrap (3*v2.2)));(⟨(IntKind.i64.wrap ((vs.getD 0 default).X+v3)),(IntKind.i64.wrap ((vs.getD 0 default).Y+v4))⟩:Vec)))
theorem B99(vs:List Vec)(h0:vs.length≤1048576):A5 Tryz.prog C0a [B4 2 Vec.enc default vs] [] (.agg (E9 vs).enc) []:=by
 refine P7 73 [(2,some (some 2))] hm A1 Tryz.func485 rfl ?_;have:=E41 vs
 have:=B0y vs
 have:=A25
 have:=B7v
 have:=M2
 have:=E9.eq_1 vs
 have:=fun i_ s_=>A1i.eq_1 (K1 vs) i_ s_
 have:=fun x_ Q_ σ_=> @lp_ Tryz.prog 73 [] x_ Q_ σ_ hm (fun _=>True) (fun _=>True) (K1 vs).1.length (fun i_=> [(0, .share,B4 2 Vec.enc default vs),(2, .share, .ptr 48 0 0 1),(4, .share, .sc (.int .i64 (K1 vs).2)),(5, .share, .sc (.int .i64 (itr (A1i (K1 vs)) i_ (0,0)).1)),(6, .share, .sc (.int .i64 (itr (A1i (K1 vs)) i_ (0,0)).2)),(23, .share,B4 5 F0.enc default (K1 vs).1),(24, .share, .sc (.int .i64 ((K1 vs).1.length:Int))),(25, .share, .sc (.int .i64 (i_:Int)))]) (fun i_=> [(48, .box [.sc (.int .i64 0), .sc (.int .i64 0)])]) [] trivial (fun _ _=>trivial) (by simp[go_sem]) (by simp[go_sem,A9]) (by simp[go_sem]);exact A2i
structure MassData where
 Mass:Int
 Center:Vec
 Inertia:Int
 deriving DecidableEq,Inhabited
def MassData.enc(x:MassData):List AV:=[.sc (.int .i64 x.Mass), .sc (.int .i64 x.Center.X), .sc (.int .i64 x.Center.Y), .sc (.int .i64 x.Inertia)]
def MassData.zero:List AV:= [.sc (.int .i64 0), .sc (.int .i64 0), .sc (.int .i64 0), .sc (.int .i64 0)]
attribute [go_sem] MassData.enc MassData.zero
@[go_sem] theorem E6f(x:MassData):MassData.mk x.Mass x.Center x.Inertia=x:=rfl
def A42(s:Shape)(d:Int):MassData:=let v1:=(E0 s.Radius s.Radius);let v2:=(E0 205888 v1);let v3:=(E0 v2 d);let v4:=(Y1 v1 2);let v5:=(E0 v3 v4);(⟨v3,(s.Vertices.getD 0 default),v5⟩:MassData)
theorem B76(s:Shape)(d:Int)(h1:1≤s.Vertices.length):A5 Tryz.prog B8a [.agg s.enc, .sc (.int .i64 d)] [] (.agg (A42 s d).enc) []:=by
 refine P7 26 [(4,some (some 4))] hm A1 Tryz.func460 rfl ?_;have:=Z5
 have:=M2
 have:=A42.eq_1 s d;exact D3
def A4m(s:Shape)(d:Int):MassData:=let v1:=(E0 s.Radius s.Radius);let v2:=(J8 (s.Vertices.getD 1 default) (s.Vertices.getD 0 default));let v3:=(A4c v2);let v4:=(E0 205888 v1);let v5:=(I9 s.Radius s.Radius);let v6:=(E0 v5 v3);let v7:=(I9 v4 v6);let v8:=(E0 v7 d);let v9:=(Y1 v1 2);let v10:=(E0 v3 v3);let v11:=(Y1 v10 12);let v12:=(I9 v9 v11);let v13:=(A3e (s.Vertices.getD 0 default) (s.Vertices.getD 1 default) 32768);let v14:=(E0 v8 v12);(⟨v8,v13,v14⟩:MassData)
theorem B53(s:Shape)(d:Int)(h1:2≤s.Vertices.length):A5 Tryz.prog B5p [.agg s.enc, .sc (.int .i64 d)] [] (.agg (A4m s d).enc) []:=by
 refine P7 59 [(4,some (some 4))] hm A1 Tryz.func461 rfl ?_;have:=Z5
 have:=N4
 have:=A1w
 have:=Z4
 have:=M2
 have:=A6m
 have:=A4m.eq_1 s d;exact D3
def R6(s:Shape)(v3:Vec)(i1:Nat)(s1:Int×Int×Int×Int):Int×Int×Int×Int:=let v5:=(J8 (s.Vertices.getD i1 default) v3);let v6:=(A2g (⟨s1.2.2.1,s1.2.2.2⟩:Vec) v5);let v7:=(V5 (⟨s1.2.2.1,s1.2.2.2⟩:Vec) (⟨s1.2.2.1,s1.2.2.2⟩:Vec));let v8:=(V5 (⟨s1.2.2.1,s1.2.2.2⟩:Vec) v5);let v9:=(V5 v5 v5);((IntKind.i64.wrap (s1.1+(IntKind.i64.wrap (v6*(IntKind.i64.wrap ((IntKind.i64.wrap (v7+v8))+v9)))))),(IntKind.i64.wrap (s1.2.1+v6)),v5.X,v5.Y)
def A39(s:Shape)(d:Int):MassData:=let v1:=(R3 s.Vertices);let v2:=(E0 v1 d);let v3:=(E9 s.Vertices);let v4:=(J8 (s.Vertices.getD (IntKind.i64.wrap ((s.Vertices.length:Int)-1)).toNat default) v3);let s1:=itr (R6 s v3) s.Vertices.length (0,0,v4.X,v4.Y);if s1.2.1<1 then((⟨v2,v3,0⟩:MassData))else(let v10:=(Y1 s1.1 s1.2.1);let v11:=(Y1 v10 6);let v12:=(E0 v2 v11);(⟨v2,v3,v12⟩:MassData))
theorem B6u(s:Shape)(d:Int)(h1:1≤s.Vertices.length)(h0:s.Vertices.length≤1048576):A5 Tryz.prog B67 [.agg s.enc, .sc (.int .i64 d)] [] (.agg (A39 s d).enc) []:=by
 refine P7 79 [(4,some (some 4))] hm A1 Tryz.func462 rfl ?_;have:=fun x1 x2 x3=>cx_ (A7x ⟨x1,x2⟩ x3)
 have:=fun x1 x2 x3 x4=>cx_ (A4g ⟨x1,x2⟩ ⟨x3,x4⟩)
 have:=fun x1 x2 x3=>cx_ (A4g ⟨x1,x2⟩ x3)
 have:=B5k
 have:=Z5
 have:=B99
 have:=N4
 have:=A7x
 have:=A4g
 have:=M2
 have:=A39.eq_1 s d
 have:=fun i_ s_=>R6.eq_1 s (E9 s.Vertices) i_ s_
 have:=fun x_ Q_ σ_=> @lp_ Tryz.prog 79 [] x_ Q_ σ_ hm (fun _=>True) (fun _=>True) s.Vertices.length (fun i_=> [(4, .share, .ptr 80 0 0 1),(5, .share, .sc (.int .i64 (E0 (R3 s.Vertices) d))),(6, .share, .ptr 112 0 0 1),(7, .share, .sc (.int .i64 (itr (R6 s (E9 s.Vertices)) i_ (0,0,(J8 (s.Vertices.getD (IntKind.i64.wrap ((s.Vertices.length:Int)-1)).toNat default) (E9 s.Vertices)).X,(J8 (s.Vertices.getD (IntKind.i64.wrap ((s.Vertices.length:Int)-1)).toNat default) (E9 s.Vertices)).Y)).1)),(8, .share, .sc (.int .i64 (itr (R6 s (E9 s.Vertices)) i_ (0,0,(J8 (s.Vertices.getD (IntKind.i64.wrap ((s.Vertices.length:Int)-1)).toNat default) (E9 s.Vertices)).X,(J8 (s.Vertices.getD (IntKind.i64.wrap ((s.Vertices.length:Int)-1)).toNat default) (E9 s.Vertices)).Y)).2.1)),(9, .share, .ptr 160 0 0 1),(33, .share,B4 2 Vec.enc default s.Vertices),(34, .share, .sc (.int .i64 (s.Vertices.length:Int))),(35, .share, .sc (.int .i64 (i_:Int)))]) (fun i_=> [(80, .box [.sc (.int .i64 0), .sc (.int .i64 0), .sc (.int .i64 0), .sc (.int .i64 0)]),(112, .box [.sc (.int .i64 (E9 s.Vertices).X), .sc (.int .i64 (E9 s.Vertices).Y)]),(160, .box [.sc (.int .i64 (itr (R6 s (E9 s.Vertices)) i_ (0,0,(J8 (s.Vertices.getD (IntKind.i64.wrap ((s.Vertices.length:Int)-1)).toNat default) (E9 s.Vertices)).X,(J8 (s.Vertices.getD (IntKind.i64.wrap ((s.Vertices.length:Int)-1)).toNat default) (E9 s.Vertices)).Y)).2.2.1), .sc (.int .i64 (itr (R6 s (E9 s.Vertices)) i_ (0,0,(J8 (s.Vertices.getD (IntKind.i64.wrap ((s.Vertices.length:Int)-1)).toNat default) (E9 s.Vertices)).X,(J8 (s.Vertices.getD (IntKind.i64.wrap ((s.Vertices.length:Int)-1)).toNat default) (E9 s.Vertices)).Y)).2.2.2)])]) [] trivial (fun _ _=>trivial) (by simp[go_sem]) (by simp[go_sem,A9]) (by simp[go_sem]);exact A2x
def A5r(s:Shape)(d:Int):MassData:=let v1:=(J7 s);if(((v1 != 0)||(decide (d<0)))||(decide (262144<d)))=true then((⟨0,(⟨0,0⟩:Vec),0⟩:MassData))else(if(s.Kind==1)=true then(let v2:=(A42 s d);v2)else(if(s.Kind==2)=true then(let v3:=(A4m s d);v3)else(let v4:=(A39 s d);v4)))
theorem C0w(s:Shape)(d:Int)(h0:s.Vertices.length≤1048576):A5 Tryz.prog C0k [.agg s.enc, .sc (.int .i64 d)] [] (.agg (A5r s d).enc) []:=by
 refine P7 32 [(4,some (some 4))] hm A1 Tryz.func412 rfl ?_;have:=C8d s
 have:=A67
 have:=B76
 have:=B53
 have:=B6u
 have:=A5r.eq_1 s d;exact A2i
def Y7(p:MassData):Bool:=(decide (p.Mass<0))
theorem B4q(p:MassData):A5 Tryz.prog A7n [.agg p.enc] [] (.sc (.bool (Y7 p))) []:=by refine en1 hm A1 Tryz.func464 rfl rfl ?_;have:=Y7.eq_1 p;exact D3
theorem A97(l:List MassData)(f:FuncId)(first cap:List AV)(O:List (Nat×A8))(p:MassData→Bool)(hl:l.length≤4194304)(hO:okO O)
  (hids: ∀i∈(AV.fn (.func f) first cap).ids,(ofL O i).isSome)
  (hp: ∀x∈l,A5 Tryz.prog f (first++ [.agg x.enc]++cap) O (.sc (.bool (p x))) O):
  A5 Tryz.prog A9n [B4 4 MassData.enc default l, .fn (.func f) first cap] O (.sc (.int .i64 (A2p default p l))) O:=by
 have hren:(AV.fn (.func f) first cap).ren id= .fn (.func f) first cap:=AV.ren_id _
 have hargs: ∀x:MassData,∀a∈first++ [.agg x.enc]++cap,∀i∈a.ids,(ofL O i).isSome:=fun x a ha i hi=>by
  simp only[List.mem_append,List.mem_singleton]at ha;refine hids i ?_;simp only[AV.ids,List.mem_append];rcases ha with(ha |rfl) |ha
  ·obtain⟨k,hk⟩:=List.getElem?_of_mem ha;exact .inl (K8 hk i hi)
  ·simp[AV.ids,go_sem]at hi
  ·obtain⟨k,hk⟩:=List.getElem?_of_mem ha;exact .inr (K8 hk i hi)
 refine R8 hm A1 Tryz.func486 rfl rfl ?_;simp only[go_sem,go_sem_proc];refine C6 hm (ι:= {i:Nat // i≤l.length∧ ∀j,j<i→p (l.getD j default)=false}) (fun i=> [(0, .share,B4 4 MassData.enc default l),(1, .share, .fn (.func f) first cap),(7, .share, .sc (.int .i64 l.length)),(8, .share, .sc (.int .i64 i.1))])
  (fun i=>O) (fun i=>l.length-i.1) ⟨0,by omega,fun j hj=>by omega⟩ ?_ ?_
 ·refine R9 hO rfl ?_;simp only[go_sem,go_sem_proc];exact⟨by rw[J1,J1],fun i hi=>hids i hi⟩
 ·rintro⟨i,hi,hs⟩;simp only[go_sem,go_sem_proc];split
  ·rename_i hlt;have hlt:i<l.length:=by omega
   refine⟨(by(repeat' (with_reducible apply And.intro)) <;> first |omega |(simp only[maxLen];omega)),?_⟩;have hx:A5 Tryz.prog f (first++ .agg (l.getD i default).enc::cap) O (.sc (.bool (p (l.getD i default)))) O:=by have:=hp (l.getD i default) (D6 default hlt);rwa[List.append_assoc]at this
   refine V1 hx hO rfl (fun a ha=>hargs (l.getD i default) a (by rw[List.append_assoc];exact ha)) rfl ?_;simp only[go_sem,go_sem_proc];cases hpx:p (l.getD i default)with
   |true=>rw[if_pos rfl];refine O9 [.share] rfl rfl hO (S1 hO) ?_;simp only[go_sem,go_sem_proc];exact(A3z hlt hs hpx).symm
   |false=>rw[if_neg (by simp)];refine B8 ⟨i+1,by omega,fun j hj=>by rcases Nat.lt_succ_iff_lt_or_eq.1 hj with h |rfl;exact hs j h;exact hpx⟩ (by show l.length-(i+1)<l.length-i;omega) (R9 hO (S1 hO) ?_);simp only[go_sem,go_sem_proc];exact⟨by rw[J1,J1],fun i hi=>hids i hi,(by rw[IntKind.wrap_i64];omega)⟩
  ·rename_i hge;refine O9 [.share] rfl rfl hO rfl ?_;simp only[go_sem,go_sem_proc];exact(A0o fun j hj=>hs j (by omega)).symm
theorem A7v(l:List MassData)(f:FuncId)(first cap:List AV)(O:List (Nat×A8))(p:MassData→Bool)(hl:l.length≤4194304)(hO:okO O)
  (hids: ∀i∈(AV.fn (.func f) first cap).ids,(ofL O i).isSome)
  (hp: ∀x∈l,A5 Tryz.prog f (first++ [.agg x.enc]++cap) O (.sc (.bool (p x))) O):
  A5 Tryz.prog A7y [B4 4 MassData.enc default l, .fn (.func f) first cap] O (.sc (.bool (l.any p))) O:=by
 refine R8 hm A1 Tryz.func463 rfl rfl ?_;simp only[go_sem,go_sem_proc];refine V1 (A97 l f first cap O p hl hO hids hp) hO rfl ?_ rfl ?_
 ·intro a ha;simp only[List.mem_cons,List.not_mem_nil,or_false]at ha;rcases ha with rfl |rfl
  ·intro i hi;simp[AV.ids]at hi
  ·exact hids
 ·simp only[go_sem,go_sem_proc];refine O9 [.share] rfl rfl hO (S1 hO) ?_;simp only[go_sem,go_sem_proc];exact B54 p l
def N6(ps:List MassData)(v5:Int)(v6:Int)(i2:Nat)(s2:Int):Int:=let v7:=(J8 (ps.getD i2 default).Center (⟨v5,v6⟩:Vec));let v8:=(I9 s2 (ps.getD i2 default).Inertia);let v9:=(V5 v7 v7);let v10:=(E0 (ps.getD i2 default).Mass v9);let v11:=(I9 v8 v10);v11
def N8(ps:List MassData)(i3:Nat)(s3:Int):Int:=let v12:=(J8 (ps.getD i3 default).Center (⟨0,0⟩:Vec));let v13:=(I9 s3 (ps.getD i3 default).Inertia);let v14:=(V5 v12 v12);let v15:=(E0 (ps.getD i3 default).Mass v14);let v16:=(I9 v13 v15);v16
def J0(ps:List MassData)(i1:Nat)(s1:Int×Int×Int×Int):Int×Int×Int×Int:=let v2:=(I9 s1.2.2.2 (sat (ps.getD i1 default).Mass));((IntKind.i64.wrap (s1.1+(sat (ps.getD i1 default).Mass))),(IntKind.i64.wrap (s1.2.1+(IntKind.i64.wrap ((sat (ps.getD i1 default).Mass)*(sat (ps.getD i1 default).Center.X))))),(IntKind.i64.wrap (s1.2.2.1+(IntKind.i64.wrap ((sat (ps.getD i1 default).Mass)*(sat (ps.getD i1 default).Center.Y))))),v2)
def G5(ps:List MassData):MassData:=if((decide (8<(ps.length:Int)))||(ps.any (fun x=>(Y7 x))))=true then((⟨0,(⟨0,0⟩:Vec),0⟩:MassData))else(let s1:=itr (J0 ps) ps.length (0,0,0,0);if 0<s1.1 then(let v5:=(Y1 s1.2.1 s1.1);let v6:=(Y1 s1.2.2.1 s1.1);let s2:=itr (N6 ps v5 v6) ps.length 0;(⟨s1.2.2.2,(⟨v5,v6⟩:Vec),s2⟩:MassData))else(let s3:=itr (N8 ps) ps.length 0;(⟨s1.2.2.2,(⟨0,0⟩:Vec),s3⟩:MassData)))
theorem B9s(ps:List MassData)(h0:ps.length≤1048576):A5 Tryz.prog B9a [B4 4 MassData.enc default ps] [] (.agg (G5 ps).enc) []:=by
 refine P7 91 [(2,some (some 4))] hm A1 Tryz.func413 rfl ?_;simp only[go_sem,go_sem_proc,A4,A6,A3,A2]
 (repeat(with_reducible refine And.intro ?_ ?_;focus (exact bO_)))
 refine A0 (A7v ps A7n [] [] [] (fun x=>(Y7 x)) (by(first |assumption |omega |exact B0 |(simp_all;done) |(simp_all;omega))) C1k (by simp[AV.ids,C9]) (fun x _=>B4q x)) rfl ?_;simp only[go_sem,go_sem_proc,A4,A6,A3,A2]
 (repeat(with_reducible refine And.intro ?_ ?_;focus (exact bO_)))
 by_cases h1:((decide (8<(ps.length:Int)))||(ps.any (fun x=>(Y7 x))))=true
 ·first |rw[if_pos h1] |rw[if_pos (by simp_all)] |rw[if_pos (by omega)]
  (repeat(with_reducible refine And.intro ?_ ?_;focus (exact bO_)))
  have hd:G5 ps=(⟨0,(⟨0,0⟩:Vec),0⟩:MassData):=by first |with_reducible rfl |(simp only[G5,h1,if_true,if_false,eq_self,Bool.false_eq_true,Bool.true_eq_false,not_true_eq_false,not_false_eq_true,reduceCtorEq,B6,C5,E1,E2,Bool.and_true,Bool.true_and,Bool.and_false,Bool.false_and,Bool.or_true,Bool.true_or,Bool.or_false,Bool.false_or,Bool.not_true,Bool.not_false,decide_true,decide_false];done) |(simp only[G5,h1,if_true,if_false,eq_self,Bool.false_eq_true,Bool.true_eq_false,not_true_eq_false,not_false_eq_true,reduceCtorEq,B6,C5,E1,E2,Bool.and_true,Bool.true_and,Bool.and_false,Bool.false_and,Bool.or_true,Bool.true_or,Bool.or_false,Bool.false_or,Bool.not_true,Bool.not_false,decide_true,decide_false];with_reducible rfl) |(simp only[G5,h1,if_true,if_false,eq_self,Bool.false_eq_true,Bool.true_eq_false,not_true_eq_false,not_false_eq_true,reduceCtorEq,B6,C5,E1,E2,Bool.and_true,Bool.true_and,Bool.and_false,Bool.false_and,Bool.or_true,Bool.true_or,Bool.or_false,Bool.false_or,Bool.not_true,Bool.not_false,decide_true,decide_false];rfl) |(unfold G5;(repeat' split) <;> first |rfl |omega |(simp_all;done) |(simp_all;omega))
  try rw[hd]
  try simp only[go_sem,go_sem_proc,A4,A6,A3,A2]
  all_goals exact eO_
 ·first |rw[if_neg h1] |rw[if_neg (by simp_all)] |rw[if_neg (by omega)]
  (repeat(with_reducible refine And.intro ?_ ?_;focus (exact bO_)))
  refine C6 hm (ι:= {i:Nat // i≤ps.length}) (fun i=> [(0, .share,B4 4 MassData.enc default ps),(2, .share, .ptr 48 0 0 1),(3, .share, .ptr 64 0 0 1),(4, .share, .sc (.int .i64 (itr (J0 ps) i.1 (0,0,0,0)).1)),(5, .share, .sc (.int .i64 (itr (J0 ps) i.1 (0,0,0,0)).2.1)),(6, .share, .sc (.int .i64 (itr (J0 ps) i.1 (0,0,0,0)).2.2.1)),(21, .share,B4 4 MassData.enc default ps),(22, .share, .sc (.int .i64 (ps.length:Int))),(23, .share, .sc (.int .i64 (i.1:Int)))]) (fun i=> [(48, .box [.sc (.int .i64 0), .sc (.int .i64 0), .sc (.int .i64 0), .sc (.int .i64 0)]),(64, .box [.sc (.int .i64 (itr (J0 ps) i.1 (0,0,0,0)).2.2.2), .sc (.int .i64 0), .sc (.int .i64 0), .sc (.int .i64 0)])]) (fun i=>ps.length-i.1) ⟨0,by omega⟩ ?_ ?_
  ·refine B3 [] [] (by simp[go_sem]) (by simp[A9,go_sem]) (by simp[go_sem]) ?_;simp only[go_sem,go_sem_proc,A4,A6,A3,A2,B6]
   all_goals exact eO_
  ·rintro⟨i1,hi1⟩;dsimp only;generalize hs1:itr (J0 ps) i1 (0,0,0,0)=s1;simp only[go_sem,go_sem_proc,A4,A6,A3,A2]
   (repeat(with_reducible refine And.intro ?_ ?_;focus (exact bO_)))
   by_cases h2:(i1:Int)<(ps.length:Int)
   ·first |rw[if_pos h2] |rw[if_pos (by simp_all)] |rw[if_pos (by omega)]
    have hlt1:i1<ps.length:=by first |omega |(simp only[IntKind.wrap_i64]at h2;omega)
    (repeat(with_reducible refine And.intro ?_ ?_;focus (exact bO_)))
    refine A0 (H5 (ps.getD i1 default).Mass) rfl ?_;simp only[go_sem,go_sem_proc,A4,A6,A3,A2]
    (repeat(with_reducible refine And.intro ?_ ?_;focus (exact bO_)))
    refine A0 (Z4 s1.2.2.2 (sat (ps.getD i1 default).Mass)) rfl ?_;generalize hv2:(I9 s1.2.2.2 (sat (ps.getD i1 default).Mass))=v2;simp only[go_sem,go_sem_proc,A4,A6,A3,A2]
    (repeat(with_reducible refine And.intro ?_ ?_;focus (exact bO_)))
    refine A0 (H5 (ps.getD i1 default).Center.X) rfl ?_;simp only[go_sem,go_sem_proc,A4,A6,A3,A2]
    (repeat(with_reducible refine And.intro ?_ ?_;focus (exact bO_)))
    refine A0 (H5 (ps.getD i1 default).Center.Y) rfl ?_;simp only[go_sem,go_sem_proc,A4,A6,A3,A2]
    (repeat(with_reducible refine And.intro ?_ ?_;focus (exact bO_)))
    have hn:itr (J0 ps) (i1+1) (0,0,0,0)=((IntKind.i64.wrap (s1.1+(sat (ps.getD i1 default).Mass))),(IntKind.i64.wrap (s1.2.1+(IntKind.i64.wrap ((sat (ps.getD i1 default).Mass)*(sat (ps.getD i1 default).Center.X))))),(IntKind.i64.wrap (s1.2.2.1+(IntKind.i64.wrap ((sat (ps.getD i1 default).Mass)*(sat (ps.getD i1 default).Center.Y))))),v2):=by rw[H7,hs1];first |with_reducible rfl |(simp only[J0,h1,h2,hv2,if_true,if_false,eq_self,Bool.false_eq_true,Bool.true_eq_false,not_true_eq_false,not_false_eq_true,reduceCtorEq,B6,C5,E1,E2,Bool.and_true,Bool.true_and,Bool.and_false,Bool.false_and,Bool.or_true,Bool.true_or,Bool.or_false,Bool.false_or,Bool.not_true,Bool.not_false,decide_true,decide_false];done) |(simp only[J0,h1,h2,hv2,if_true,if_false,eq_self,Bool.false_eq_true,Bool.true_eq_false,not_true_eq_false,not_false_eq_true,reduceCtorEq,B6,C5,E1,E2,Bool.and_true,Bool.true_and,Bool.and_false,Bool.false_and,Bool.or_true,Bool.true_or,Bool.or_false,Bool.false_or,Bool.not_true,Bool.not_false,decide_true,decide_false];with_reducible rfl) |(simp only[J0,h1,h2,hv2,if_true,if_false,eq_self,Bool.false_eq_true,Bool.true_eq_false,not_true_eq_false,not_false_eq_true,reduceCtorEq,B6,C5,E1,E2,Bool.and_true,Bool.true_and,Bool.and_false,Bool.false_and,Bool.or_true,Bool.true_or,Bool.or_false,Bool.false_or,Bool.not_true,Bool.not_false,decide_true,decide_false];rfl) |(unfold J0;(repeat' split) <;> first |rfl |omega |(simp_all;done) |(simp_all;omega))
    refine B8 ⟨i1+1,by omega⟩ (by show ps.length-(i1+1)<ps.length-i1;omega) (B3 [] [] (by simp[go_sem]) (by simp[A9,go_sem]) (by simp[go_sem]) ?_);simp only[go_sem,go_sem_proc,A4,A6,A3,A2,hn]
    all_goals exact eO_
   ·first |rw[if_neg h2] |rw[if_neg (by simp_all)] |rw[if_neg (by omega)]
    (repeat(with_reducible refine And.intro ?_ ?_;focus (exact bO_)))
    have hge:i1=ps.length:=by first |omega |(simp only[IntKind.wrap_i64]at h2;omega)
    subst hge;by_cases h3:0<s1.1
    ·first |rw[if_pos h3] |rw[if_pos (by simp_all)] |rw[if_pos (by omega)]
     (repeat(with_reducible refine And.intro ?_ ?_;focus (exact bO_)))
     refine A0 (M2 s1.2.1 s1.1) rfl ?_;generalize hv5:(Y1 s1.2.1 s1.1)=v5;simp only[go_sem,go_sem_proc,A4,A6,A3,A2]
     (repeat(with_reducible refine And.intro ?_ ?_;focus (exact bO_)))
     refine A0 (M2 s1.2.2.1 s1.1) rfl ?_;generalize hv6:(Y1 s1.2.2.1 s1.1)=v6;simp only[go_sem,go_sem_proc,A4,A6,A3,A2]
     (repeat(with_reducible refine And.intro ?_ ?_;focus (exact bO_)))
     refine C6 hm (ι:= {i:Nat // i≤ps.length}) (fun i=> [(2, .share, .ptr 48 0 0 1),(3, .share, .ptr 64 0 0 1),(65, .share,B4 4 MassData.enc default ps),(66, .share, .sc (.int .i64 (ps.length:Int))),(67, .share, .sc (.int .i64 (i.1:Int)))]) (fun i=> [(48, .box [.sc (.int .i64 0), .sc (.int .i64 0), .sc (.int .i64 0), .sc (.int .i64 0)]),(64, .box [.sc (.int .i64 s1.2.2.2), .sc (.int .i64 v5), .sc (.int .i64 v6), .sc (.int .i64 (itr (N6 ps v5 v6) i.1 0))])]) (fun i=>ps.length-i.1) ⟨0,by omega⟩ ?_ ?_
     ·refine B3 [] [] (by simp[go_sem]) (by simp[A9,go_sem]) (by simp[go_sem]) ?_;simp only[go_sem,go_sem_proc,A4,A6,A3,A2,B6]
      all_goals exact eO_
     ·rintro⟨i2,hi2⟩;dsimp only;generalize hs2:itr (N6 ps v5 v6) i2 0=s2;simp only[go_sem,go_sem_proc,A4,A6,A3,A2]
      (repeat(with_reducible refine And.intro ?_ ?_;focus (exact bO_)))
      by_cases h4:(i2:Int)<(ps.length:Int)
      ·first |rw[if_pos h4] |rw[if_pos (by simp_all)] |rw[if_pos (by omega)]
       have hlt2:i2<ps.length:=by first |omega |(simp only[IntKind.wrap_i64]at h4;omega)
       (repeat(with_reducible refine And.intro ?_ ?_;focus (exact bO_)))
       refine A0 (N4 (ps.getD i2 default).Center (⟨v5,v6⟩:Vec)) rfl ?_;generalize hv7:(J8 (ps.getD i2 default).Center (⟨v5,v6⟩:Vec))=v7;simp only[go_sem,go_sem_proc,A4,A6,A3,A2]
       (repeat(with_reducible refine And.intro ?_ ?_;focus (exact bO_)))
       refine A0 (Z4 s2 (ps.getD i2 default).Inertia) rfl ?_;generalize hv8:(I9 s2 (ps.getD i2 default).Inertia)=v8;simp only[go_sem,go_sem_proc,A4,A6,A3,A2]
       (repeat(with_reducible refine And.intro ?_ ?_;focus (exact bO_)))
       refine A0 (A4g v7 v7) rfl ?_;generalize hv9:(V5 v7 v7)=v9;simp only[go_sem,go_sem_proc,A4,A6,A3,A2]
       (repeat(with_reducible refine And.intro ?_ ?_;focus (exact bO_)))
       refine A0 (Z5 (ps.getD i2 default).Mass v9) rfl ?_;generalize hv10:(E0 (ps.getD i2 default).Mass v9)=v10;simp only[go_sem,go_sem_proc,A4,A6,A3,A2]
       (repeat(with_reducible refine And.intro ?_ ?_;focus (exact bO_)))
       refine A0 (Z4 v8 v10) rfl ?_;generalize hv11:(I9 v8 v10)=v11;simp only[go_sem,go_sem_proc,A4,A6,A3,A2]
       (repeat(with_reducible refine And.intro ?_ ?_;focus (exact bO_)))
       have hn:itr (N6 ps v5 v6) (i2+1) 0=v11:=by rw[H7,hs2];first |with_reducible rfl |(simp only[N6,h1,hs1,h3,hv5,hv6,h4,hv7,hv8,hv9,hv10,hv11,if_true,if_false,eq_self,Bool.false_eq_true,Bool.true_eq_false,not_true_eq_false,not_false_eq_true,reduceCtorEq,B6,C5,E1,E2,Bool.and_true,Bool.true_and,Bool.and_false,Bool.false_and,Bool.or_true,Bool.true_or,Bool.or_false,Bool.false_or,Bool.not_true,Bool.not_false,decide_true,decide_false];done) |(simp only[N6,h1,hs1,h3,hv5,hv6,h4,hv7,hv8,hv9,hv10,hv11,if_true,if_false,eq_self,Bool.false_eq_true,Bool.true_eq_false,not_true_eq_false,not_false_eq_true,reduceCtorEq,B6,C5,E1,E2,Bool.and_true,Bool.true_and,Bool.and_false,Bool.false_and,Bool.or_true,Bool.true_or,Bool.or_false,Bool.false_or,Bool.not_true,Bool.not_false,decide_true,decide_false];with_reducible rfl) |(simp only[N6,h1,hs1,h3,hv5,hv6,h4,hv7,hv8,hv9,hv10,hv11,if_true,if_false,eq_self,Bool.false_eq_true,Bool.true_eq_false,not_true_eq_false,not_false_eq_true,reduceCtorEq,B6,C5,E1,E2,Bool.and_true,Bool.true_and,Bool.and_false,Bool.false_and,Bool.or_true,Bool.true_or,Bool.or_false,Bool.false_or,Bool.not_true,Bool.not_false,decide_true,decide_false];rfl) |(unfold N6;(repeat' split) <;> first |rfl |omega |(simp_all;done) |(simp_all;omega))
       refine B8 ⟨i2+1,by omega⟩ (by show ps.length-(i2+1)<ps.length-i2;omega) (B3 [] [] (by simp[go_sem]) (by simp[A9,go_sem]) (by simp[go_sem]) ?_);simp only[go_sem,go_sem_proc,A4,A6,A3,A2,hn]
       all_goals exact eO_
      ·first |rw[if_neg h4] |rw[if_neg (by simp_all)] |rw[if_neg (by omega)]
       (repeat(with_reducible refine And.intro ?_ ?_;focus (exact bO_)))
       have hge:i2=ps.length:=by first |omega |(simp only[IntKind.wrap_i64]at h4;omega)
       subst hge;have hd:G5 ps=(⟨s1.2.2.2,(⟨v5,v6⟩:Vec),s2⟩:MassData):=by first |with_reducible rfl |(simp only[G5,h1,hs1,h3,hv5,hv6,hs2,if_true,if_false,eq_self,Bool.false_eq_true,Bool.true_eq_false,not_true_eq_false,not_false_eq_true,reduceCtorEq,B6,C5,E1,E2,Bool.and_true,Bool.true_and,Bool.and_false,Bool.false_and,Bool.or_true,Bool.true_or,Bool.or_false,Bool.false_or,Bool.not_true,Bool.not_false,decide_true,decide_false];done) |(simp only[G5,h1,hs1,h3,hv5,hv6,hs2,if_true,if_false,eq_self,Bool.false_eq_true,Bool.true_eq_false,not_true_eq_false,not_false_eq_true,reduceCtorEq,B6,C5,E1,E2,Bool.and_true,Bool.true_and,Bool.and_false,Bool.false_and,Bool.or_true,Bool.true_or,Bool.or_false,Bool.false_or,Bool.not_true,Bool.not_false,decide_true,decide_false];with_reducible rfl) |(simp only[G5,h1,hs1,h3,hv5,hv6,hs2,if_true,if_false,eq_self,Bool.false_eq_true,Bool.true_eq_false,not_true_eq_false,not_false_eq_true,reduceCtorEq,B6,C5,E1,E2,Bool.and_true,Bool.true_and,Bool.and_false,Bool.false_and,Bool.or_true,Bool.true_or,Bool.or_false,Bool.false_or,Bool.not_true,Bool.not_false,decide_true,decide_false];rfl) |(unfold G5;(repeat' split) <;> first |rfl |omega |(simp_all;done) |(simp_all;omega))
       try rw[hd]
       try simp only[go_sem,go_sem_proc,A4,A6,A3,A2]
       all_goals exact eO_
    ·first |rw[if_neg h3] |rw[if_neg (by simp_all)] |rw[if_neg (by omega)]
     (repeat(with_reducible refine And.intro ?_ ?_;focus (exact bO_)))
     refine C6 hm (ι:= {i:Nat // i≤ps.length}) (fun i=> [(2, .share, .ptr 48 0 0 1),(3, .share, .ptr 64 0 0 1),(65, .share,B4 4 MassData.enc default ps),(66, .share, .sc (.int .i64 (ps.length:Int))),(67, .share, .sc (.int .i64 (i.1:Int)))]) (fun i=> [(48, .box [.sc (.int .i64 0), .sc (.int .i64 0), .sc (.int .i64 0), .sc (.int .i64 0)]),(64, .box [.sc (.int .i64 s1.2.2.2), .sc (.int .i64 0), .sc (.int .i64 0), .sc (.int .i64 (itr (N8 ps) i.1 0))])]) (fun i=>ps.length-i.1) ⟨0,by omega⟩ ?_ ?_
     ·refine B3 [] [] (by simp[go_sem]) (by simp[A9,go_sem]) (by simp[go_sem]) ?_;simp only[go_sem,go_sem_proc,A4,A6,A3,A2,B6]
      all_goals exact eO_
     ·rintro⟨i3,hi3⟩;dsimp only;generalize hs3:itr (N8 ps) i3 0=s3;simp only[go_sem,go_sem_proc,A4,A6,A3,A2]
      (repeat(with_reducible refine And.intro ?_ ?_;focus (exact bO_)))
      by_cases h5:(i3:Int)<(ps.length:Int)
      ·first |rw[if_pos h5] |rw[if_pos (by simp_all)] |rw[if_pos (by omega)]
       have hlt3:i3<ps.length:=by first |omega |(simp only[IntKind.wrap_i64]at h5;omega)
       (repeat(with_reducible refine And.intro ?_ ?_;focus (exact bO_)))
       refine A0 (N4 (ps.getD i3 default).Center (⟨0,0⟩:Vec)) rfl ?_;generalize hv12:(J8 (ps.getD i3 default).Center (⟨0,0⟩:Vec))=v12;simp only[go_sem,go_sem_proc,A4,A6,A3,A2]
       (repeat(with_reducible refine And.intro ?_ ?_;focus (exact bO_)))
       refine A0 (Z4 s3 (ps.getD i3 default).Inertia) rfl ?_;generalize hv13:(I9 s3 (ps.getD i3 default).Inertia)=v13;simp only[go_sem,go_sem_proc,A4,A6,A3,A2]
       (repeat(with_reducible refine And.intro ?_ ?_;focus (exact bO_)))
       refine A0 (A4g v12 v12) rfl ?_;generalize hv14:(V5 v12 v12)=v14;simp only[go_sem,go_sem_proc,A4,A6,A3,A2]
       (repeat(with_reducible refine And.intro ?_ ?_;focus (exact bO_)))
       refine A0 (Z5 (ps.getD i3 default).Mass v14) rfl ?_;generalize hv15:(E0 (ps.getD i3 default).Mass v14)=v15;simp only[go_sem,go_sem_proc,A4,A6,A3,A2]
       (repeat(with_reducible refine And.intro ?_ ?_;focus (exact bO_)))
       refine A0 (Z4 v13 v15) rfl ?_;generalize hv16:(I9 v13 v15)=v16;simp only[go_sem,go_sem_proc,A4,A6,A3,A2]
       (repeat(with_reducible refine And.intro ?_ ?_;focus (exact bO_)))
       have hn:itr (N8 ps) (i3+1) 0=v16:=by rw[H7,hs3];first |with_reducible rfl |(simp only[N8,h1,hs1,h3,h5,hv12,hv13,hv14,hv15,hv16,if_true,if_false,eq_self,Bool.false_eq_true,Bool.true_eq_false,not_true_eq_false,not_false_eq_true,reduceCtorEq,B6,C5,E1,E2,Bool.and_true,Bool.true_and,Bool.and_false,Bool.false_and,Bool.or_true,Bool.true_or,Bool.or_false,Bool.false_or,Bool.not_true,Bool.not_false,decide_true,decide_false];done) |(simp only[N8,h1,hs1,h3,h5,hv12,hv13,hv14,hv15,hv16,if_true,if_false,eq_self,Bool.false_eq_true,Bool.true_eq_false,not_true_eq_false,not_false_eq_true,reduceCtorEq,B6,C5,E1,E2,Bool.and_true,Bool.true_and,Bool.and_false,Bool.false_and,Bool.or_true,Bool.true_or,Bool.or_false,Bool.false_or,Bool.not_true,Bool.not_false,decide_true,decide_false];with_reducible rfl) |(simp only[N8,h1,hs1,h3,h5,hv12,hv13,hv14,hv15,hv16,if_true,if_false,eq_self,Bool.false_eq_true,Bool.true_eq_false,not_true_eq_false,not_false_eq_true,reduceCtorEq,B6,C5,E1,E2,Bool.and_true,Bool.true_and,Bool.and_false,Bool.false_and,Bool.or_true,Bool.true_or,Bool.or_false,Bool.false_or,Bool.not_true,Bool.not_false,decide_true,decide_false];rfl) |(unfold N8;(repeat' split) <;> first |rfl |omega |(simp_all;done) |(simp_all;omega))
       refine B8 ⟨i3+1,by omega⟩ (by show ps.length-(i3+1)<ps.length-i3;omega) (B3 [] [] (by simp[go_sem]) (by simp[A9,go_sem]) (by simp[go_sem]) ?_);simp only[go_sem,go_sem_proc,A4,A6,A3,A2,hn]
       all_goals exact eO_
      ·first |rw[if_neg h5] |rw[if_neg (by simp_all)] |rw[if_neg (by omega)]
       (repeat(with_reducible refine And.intro ?_ ?_;focus (exact bO_)))
       have hge:i3=ps.length:=by first |omega |(simp only[IntKind.wrap_i64]at h5;omega)
       subst hge;have hd:G5 ps=(⟨s1.2.2.2,(⟨0,0⟩:Vec),s3⟩:MassData):=by first |with_reducible rfl |(simp only[G5,h1,hs1,h3,hs3,if_true,if_false,eq_self,Bool.false_eq_true,Bool.true_eq_false,not_true_eq_false,not_false_eq_true,reduceCtorEq,B6,C5,E1,E2,Bool.and_true,Bool.true_and,Bool.and_false,Bool.false_and,Bool.or_true,Bool.true_or,Bool.or_false,Bool.false_or,Bool.not_true,Bool.not_false,decide_true,decide_false];done) |(simp only[G5,h1,hs1,h3,hs3,if_true,if_false,eq_self,Bool.false_eq_true,Bool.true_eq_false,not_true_eq_false,not_false_eq_true,reduceCtorEq,B6,C5,E1,E2,Bool.and_true,Bool.true_and,Bool.and_false,Bool.false_and,Bool.or_true,Bool.true_or,Bool.or_false,Bool.false_or,Bool.not_true,Bool.not_false,decide_true,decide_false];with_reducible rfl) |(simp only[G5,h1,hs1,h3,hs3,if_true,if_false,eq_self,Bool.false_eq_true,Bool.true_eq_false,not_true_eq_false,not_false_eq_true,reduceCtorEq,B6,C5,E1,E2,Bool.and_true,Bool.true_and,Bool.and_false,Bool.false_and,Bool.or_true,Bool.true_or,Bool.or_false,Bool.false_or,Bool.not_true,Bool.not_false,decide_true,decide_false];rfl) |(unfold G5;(repeat' split) <;> first |rfl |omega |(simp_all;done) |(simp_all;omega))
       try rw[hd]
       try simp only[go_sem,go_sem_proc,A4,A6,A3,A2]
       all_goals exact eO_
def N3(fs:List Fixture)(i1:Nat)(s1:(List MassData)):(List MassData):=if(fs.getD i1 default).Sensor=false then(let v1:=(A5r (fs.getD i1 default).Shape (fs.getD i1 default).Density);(s1++ [v1]))else(s1)
def A34(fs:List Fixture):MassData:=if 4<(fs.length:Int)then((⟨0,(⟨0,0⟩:Vec),0⟩:MassData))else(let s1:=itr (N3 fs) fs.length [];let v2:=(G5 s1);v2)
theorem B5b(fs:List Fixture)(h0: ∀f∈fs,f.Shape.Vertices.length≤1048576):A5 Tryz.prog B4w [B4 10 Fixture.enc default fs] [] (.agg (A34 fs).enc) []:=by
 refine P7 30 [(2,some (some 4))] hm A1 Tryz.func302 rfl ?_;have:=C0w
 have:=B9s
 have:=A34.eq_1 fs
 have:=fun i_ s_=>N3.eq_1 fs i_ s_
 have:=fun x_ Q_ σ_=> @lp_ Tryz.prog 30 [] x_ Q_ σ_ hm (fun _=>True) (fun i_=>((itr (N3 fs) i_ [])).length≤0+1*i_) fs.length (fun i_=> [(2, .share, .ptr 48 0 0 1),(3,if i_=0 then .adopt else .share, .sl 1003 0 (itr (N3 fs) i_ []).length (itr (N3 fs) i_ []).length),(10, .share,B4 10 Fixture.enc default fs),(11, .share, .sc (.int .i64 (fs.length:Int))),(12, .share, .sc (.int .i64 (i_:Int)))]) (fun i_=> [(48, .box [.sc (.int .i64 0), .sc (.int .i64 0), .sc (.int .i64 0), .sc (.int .i64 0)]),(1003, .arr 4 (D2 MassData.enc default (itr (N3 fs) i_ [])))]) [1003] trivial (fun i_ hI_=>B1o (fun s:(List MassData)=>(s).length) 1 (fun i s=>by(unfold N3;(repeat' split) <;> simp <;> omega)) i_ _) (by simp[go_sem]) (by simp[go_sem,A9]) (by simp[go_sem]);exact A2i
def A45(b:Body):MassData:=let v1:=(A34 b.Fixtures);v1
theorem B2u(b:Body)(h0: ∀f∈b.Fixtures,f.Shape.Vertices.length≤1048576):A5 Tryz.prog C4n [.agg b.enc] [] (.agg (A45 b).enc) []:=by
 refine P7 6 [(2,some (some 4))] hm A1 Tryz.func190 rfl ?_;have:=B5b
 have:=A45.eq_1 b;exact D3
def Y9(b:Body):Vec:=let v1:=(A45 b);let v2:=(S9 b.Transform v1.Center);v2
theorem A96(b:Body)(h0: ∀f∈b.Fixtures,f.Shape.Vertices.length≤1048576):A5 Tryz.prog B91 [.agg b.enc] [] (.agg (Y9 b).enc) []:=by
 refine P7 9 [(2,some (some 2))] hm A1 Tryz.func259 rfl ?_;have:=B2u
 have:=B0q
 have:=Y9.eq_1 b;exact D3
def A2y(m:MassData)(k:Int)(f:Bool):Int×Int:=if(k != 3)=true then((0,0))else(if 0<m.Mass then(let v1:=(P0 65536 m.Mass);if((decide (0<m.Inertia))&&(!f))=true then(let v2:=(P0 65536 m.Inertia);(v1,v2))else((v1,0)))else(if((decide (0<m.Inertia))&&(!f))=true then(let v3:=(P0 65536 m.Inertia);(65536,v3))else((65536,0))))
theorem C02(m:MassData)(k:Int)(f:Bool):A5 Tryz.prog B9w [.agg m.enc, .sc (.int .i64 k), .sc (.bool f)] [] (.tup [.sc (.int .i64 (A2y m k f).1), .sc (.int .i64 (A2y m k f).2)]) []:=by
 refine enT hm A1 Tryz.func284 rfl rfl ?_;have:=A6t
 have:=A2y.eq_1 m k f;exact D3
def A3g(b:Body):SolverBody:=let v1:=(A45 b);let v2:=(A2y v1 b.Kind b.FixedRotation);(⟨b.Velocity,b.AngularVelocity,v2.1,v2.2⟩:SolverBody)
theorem B0r(b:Body)(h0: ∀f∈b.Fixtures,f.Shape.Vertices.length≤1048576):A5 Tryz.prog C1z [.agg b.enc] [] (.agg (A3g b).enc) []:=by
 refine P7 22 [(2,some (some 5))] hm A1 Tryz.func176 rfl ?_;have:=B2u
 have:=C02
 have:=A3g.eq_1 b;exact D3
def A0d(b:Body):Body:=let v1:=(A1s b.Velocity.X (-16777216) 16777216);let v2:=(A1s b.Velocity.Y (-16777216) 16777216);let v3:=(A1s b.AngularVelocity (-4194304) 4194304);(⟨b.ID,b.Kind,b.Transform,(⟨v1,v2⟩:Vec),v3,b.Force,b.Torque,b.LinearDamping,b.AngularDamping,b.GravityScale,b.Bullet,b.FixedRotation,b.NoSleep,b.Asleep,b.IdleSteps,b.Fixtures⟩:Body)
theorem A38(b:Body):A5 Tryz.prog B52 [.agg b.enc] [] (.agg (A0d b).enc) []:=by
 refine P7 20 [(2,some (some 20))] hm A1 Tryz.func90 rfl ?_;have:=B7o
 have:=A0d.eq_1 b;exact D3
def A5n(b:Body):Body:=let v1:=(A0d b);(⟨v1.ID,v1.Kind,v1.Transform,v1.Velocity,v1.AngularVelocity,v1.Force,v1.Torque,v1.LinearDamping,v1.AngularDamping,v1.GravityScale,v1.Bullet,v1.FixedRotation,v1.NoSleep,false,0,v1.Fixtures⟩:Body)
theorem A7t(b:Body):A5 Tryz.prog D16 [.agg b.enc] [] (.agg (A5n b).enc) []:=by
 refine P7 8 [(2,some (some 20))] hm A1 Tryz.func370 rfl ?_;have:=A38
 have:=A5n.eq_1 b;exact D3
def A2l(b:Body)(p:Vec)(i:Vec):Body:=if(b.Kind != 3)=true then(b)else(let v1:=(A3g b);let v2:=(Y9 b);let v3:=(J8 p v2);let v4:=(A5k i v1.InvMass);let v5:=(T8 b.Velocity v4);let v6:=(A2g v3 i);let v7:=(E0 v6 v1.InvInertia);let v8:=(I9 b.AngularVelocity v7);let v9:=(A5n (⟨b.ID,b.Kind,b.Transform,v5,v8,b.Force,b.Torque,b.LinearDamping,b.AngularDamping,b.GravityScale,b.Bullet,b.FixedRotation,b.NoSleep,b.Asleep,b.IdleSteps,b.Fixtures⟩:Body));v9)
theorem B8f(b:Body)(p:Vec)(i:Vec)(h0: ∀f∈b.Fixtures,f.Shape.Vertices.length≤1048576):A5 Tryz.prog B8h [.agg b.enc, .agg p.enc, .agg i.enc] [] (.agg (A2l b p i).enc) []:=by
 refine P7 39 [(6,some (some 20))] hm A1 Tryz.func258 rfl ?_;have:=fun x1 x2 x3 x4 x5 x6 x7 x8 x9 x10 x11 x12 x13 x14 x15 x16 x17 x18 x19 x20=>cx_ (A7t ⟨x1,x2,⟨⟨x3,x4⟩,x5⟩,⟨x6,x7⟩,x8,⟨x9,x10⟩,x11,x12,x13,x14,x15,x16,x17,x18,x19,x20⟩)
 have:=B0r
 have:=A96
 have:=N4
 have:=C0d
 have:=A17
 have:=A7x
 have:=Z5
 have:=Z4
 have:=A7t
 have:=A2l.eq_1 b p i;exact D3
def X5(b:Body)(i:Int):Body:=if(b.Kind != 3)=true then(b)else(let v1:=(A3g b);let v2:=(E0 i v1.InvInertia);let v3:=(I9 b.AngularVelocity v2);let v4:=(A5n (⟨b.ID,b.Kind,b.Transform,b.Velocity,v3,b.Force,b.Torque,b.LinearDamping,b.AngularDamping,b.GravityScale,b.Bullet,b.FixedRotation,b.NoSleep,b.Asleep,b.IdleSteps,b.Fixtures⟩:Body));v4)
theorem B0c(b:Body)(i:Int)(h0: ∀f∈b.Fixtures,f.Shape.Vertices.length≤1048576):A5 Tryz.prog B0i [.agg b.enc, .sc (.int .i64 i)] [] (.agg (X5 b i).enc) []:=by
 refine P7 20 [(4,some (some 20))] hm A1 Tryz.func260 rfl ?_;have:=fun x1 x2 x3 x4 x5 x6 x7 x8 x9 x10 x11 x12 x13 x14 x15 x16 x17 x18 x19 x20=>cx_ (A7t ⟨x1,x2,⟨⟨x3,x4⟩,x5⟩,⟨x6,x7⟩,x8,⟨x9,x10⟩,x11,x12,x13,x14,x15,x16,x17,x18,x19,x20⟩)
 have:=B0r
 have:=Z5
 have:=Z4
 have:=A7t
 have:=X5.eq_1 b i;exact D3
end Go.Abs
end
section
namespace Go.Abs
open Go.Proofs
open Api
def B2y(bs:List SolverBody)(i:Int):SolverBody:=if((decide (i<0))||(decide ((bs.length:Int)≤i)))=true then((⟨(⟨0,0⟩:Vec),0,0,0⟩:SolverBody))else((bs.getD i.toNat default))
def A5v(a:Int)(i:Int):Int:=let v1:=(E0 a a);let v2:=(E0 v1 i);v2
def A8q(r:Row)(v6:Int)(v7:Int)(i1:Nat)(s1:Int):Int:=let v8:=(I9 s1 (([v6,v7,r.Softness]).getD i1 0));v8
def B0l(r:Row)(bs:List SolverBody):Int:=let v1:=(B2y bs r.A);let v2:=(B2y bs r.B);let v3:=(I9 v1.InvMass v2.InvMass);let v4:=(V5 r.Normal r.Normal);let v5:=(E0 v3 v4);let v6:=(A5v r.ArmA v1.InvInertia);let v7:=(A5v r.ArmB v2.InvInertia);let s1:=itr (A8q r v6 v7) 3 v5;if s1<1 then(0)else(let v9:=(P0 65536 s1);v9)
end Go.Abs
end
section
namespace Go.Abs
open Go.Proofs
open Api
def B26(j:Joint)(a:Body)(b:Body):Vec×Vec:=let v1:=(S9 b.Transform j.AnchorB);if(j.Kind != 5)=true then(let v2:=(S9 a.Transform j.AnchorA);(v2,v1))else((j.AnchorA,v1))
def A6b(e:Int)(dt:Int):Int:=let v1:=(P0 e dt);let v2:=(E0 13107 v1);let v3:=(A1s v2 (-262144) 262144);v3
def A5d(j:Joint)(a:Body)(b:Body)(ia:Int)(ib:Int)(n:Vec)(s:List SolverBody):Row:=let v1:=(B26 j a b);let v2:=(Y9 a);let v3:=(J8 v1.1 v2);let v4:=(A2g v3 n);let v5:=(Y9 b);let v6:=(J8 v1.2 v5);let v7:=(A2g v6 n);let v8:=(B0l (⟨ia,ib,n,v4,v7,0,0,(-536870911),536870911,j.Softness,0,(-1),0⟩:Row) s);(⟨ia,ib,n,v4,v7,v8,0,(-536870911),536870911,j.Softness,0,(-1),0⟩:Row)
def A8n(j:Joint)(a:Body)(b:Body)(ia:Int)(ib:Int)(s:List SolverBody)(dt:Int):(List Row):=let v1:=(B26 j a b);let v2:=(A5d j a b ia ib (⟨65536,0⟩:Vec) s);let v3:=(A5d j a b ia ib (⟨0,65536⟩:Vec) s);let v4:=(sat (sat v1.2.X-sat v1.1.X));let v5:=(A6b v4 dt);let v6:=(sat (sat v1.2.Y-sat v1.1.Y));let v7:=(A6b v6 dt);[(⟨v2.A,v2.B,v2.Normal,v2.ArmA,v2.ArmB,v2.EffectiveMass,v5,v2.Lower,v2.Upper,v2.Softness,j.Impulses.I0,v2.FrictionOf,v2.Friction⟩:Row),(⟨v3.A,v3.B,v3.Normal,v3.ArmA,v3.ArmB,v3.EffectiveMass,v7,v3.Lower,v3.Upper,v3.Softness,j.Impulses.I1,v3.FrictionOf,v3.Friction⟩:Row)]
@[simp] theorem F8s(j:Joint)(a b:Body)(ia ib:Int)(s:List SolverBody)(dt:Int):(A8n j a b ia ib s dt).length=2:=by unfold A8n;simp
end Go.Abs
end
section
namespace Go.Abs
open Go.Proofs
open Api
theorem D3z(s:Shape)(p:Transform)(h:J7 s=0):1≤(D8 s p).length∧(s.Kind=1→(D8 s p).length=1)∧(s.Kind=2→(D8 s p).length=2)∧(s.Kind≠1→s.Kind≠2→3≤(D8 s p).length)∧(D8 s p).length≤8:=by
 have:=C8d s h
 have:=C0l s p;rw[if_pos h]at this;rw[this];by_cases h1:s.Kind=1 <;> by_cases h2:s.Kind=2 <;> simp_all <;> omega
structure A1t where
 from_:Vec
 to:Vec
 deriving DecidableEq,Inhabited
def A1t.enc(x:A1t):List AV:=[.sc (.int .i64 x.from_.X), .sc (.int .i64 x.from_.Y), .sc (.int .i64 x.to.X), .sc (.int .i64 x.to.Y)]
def A1t.zero:List AV:= [.sc (.int .i64 0), .sc (.int .i64 0), .sc (.int .i64 0), .sc (.int .i64 0)]
attribute [go_sem] A1t.enc A1t.zero
@[go_sem] theorem D9t(x:A1t):A1t.mk x.from_ x.to=x:=rfl
def B9(v:Vec):Vec:=(⟨(sat v.X),(sat v.Y)⟩:Vec)
theorem A9o(v:Vec):A5 Tryz.prog B8u [.agg v.enc] [] (.agg (B9 v).enc) []:=by
 refine P7 10 [(2,some (some 2))] hm A1 Tryz.func334 rfl ?_;have:=H5
 have:=B9.eq_1 v;exact D3
def M6(c:Vec)(r:Int)(f:Vec)(t:Vec):Int×Vec×Bool:=let v1:=(B9 f);let v2:=(B9 t);let v3:=(J8 v2 v1);let v4:=(A4c v3);let v5:=(X9 v3);let v6:=(J8 c v1);let v7:=(A2g v5 v6);if((((v4==0)||(decide (r<0)))||(decide (536870911<r)))||(decide (r<(if v7<(IntKind.i64.wrap (0-v7))then(IntKind.i64.wrap (0-v7))else v7))))=true then((0,(⟨0,0⟩:Vec),false))else(let v8:=(V5 v6 v5);let v9:=(isq (IntKind.i64.wrap ((IntKind.i64.wrap (r*r))-(IntKind.i64.wrap (v7*v7)))));let v10:=(sat (sat v8-sat v9));if((decide (v10<0))||(decide (v4<v10)))=true then((0,(⟨0,0⟩:Vec),false))else(let v11:=(A4t v10 v4);let v12:=(A3e v1 v2 v11);let v13:=(J8 v12 c);let v14:=(X9 v13);(v11,v14,true)))
theorem A4p(c:Vec)(r:Int)(f:Vec)(t:Vec):A5 Tryz.prog B51 [.agg c.enc, .sc (.int .i64 r), .agg f.enc, .agg t.enc] [] (.tup [.sc (.int .i64 (M6 c r f t).1), .agg (M6 c r f t).2.1.enc, .sc (.bool (M6 c r f t).2.2)]) []:=by
 refine P6 85 [(8,none),(9,some (some 2)),(10,none)] hm A1 Tryz.func230 rfl ?_;have:=A9o
 have:=N4
 have:=A1w
 have:=A4f
 have:=A7x
 have:=A4g
 have:=A6v
 have:=A6u
 have:=B0f
 have:=A6m
 have:=M6.eq_1 c r f t;exact A2i
def L5(vs:List Vec)(v1:Vec)(v3:Vec)(i1:Nat)(s1:Int×Int×Int×Bool×Bool):(Int×Int×Int×Bool×Bool) ⊕ (Int×Int×Int×Bool×Bool):=let v4:=(A4d vs (i1:Int));let v5:=(J8 (vs.getD i1 default) v1);let v6:=(V5 v4 v5);let v7:=(V5 v4 v3);if((v7==0)&&(decide (v6<0)))=true then(.inr (s1.1,s1.2.1,s1.2.2.1,s1.2.2.2.1,false))else(if v7<0 then(let v8:=(P0 v6 v7);if((decide (s1.2.2.1<0))||(decide (s1.1<v8)))=true then(.inl (v8,s1.2.1,(i1:Int),s1.2.2.2.1,s1.2.2.2.2))else(.inl (s1.1,s1.2.1,s1.2.2.1,s1.2.2.2.1,s1.2.2.2.2)))else(if 0<v7 then(let v9:=(P0 v6 v7);if((!s1.2.2.2.1)||(decide (v9<s1.2.1)))=true then(.inl (s1.1,v9,s1.2.2.1,true,s1.2.2.2.2))else(.inl (s1.1,s1.2.1,s1.2.2.1,s1.2.2.2.1,s1.2.2.2.2)))else(.inl (s1.1,s1.2.1,s1.2.2.1,s1.2.2.2.1,s1.2.2.2.2))))
def M0(vs:List Vec)(f:Vec)(t:Vec):Int×Vec×Bool:=let v1:=(B9 f);let v2:=(B9 t);let v3:=(J8 v2 v1);let s1:=mrg (D0 (L5 vs v1 v3) vs.length (0,0,(-1),false,(decide (1<(vs.length:Int)))));if(((((!s1.2.2.2.2)||(decide (s1.2.2.1<0)))||(decide (s1.1<0)))||(decide (65536<s1.1)))||(s1.2.2.2.1&&(decide (s1.2.1<s1.1))))=true then((0,(⟨0,0⟩:Vec),false))else(let v10:=(A4d vs s1.2.2.1);(s1.1,v10,true))
theorem A32(vs:List Vec)(f:Vec)(t:Vec)(h0:vs.length≤1048576):A5 Tryz.prog B5f [B4 2 Vec.enc default vs, .agg f.enc, .agg t.enc] [] (.tup [.sc (.int .i64 (M0 vs f t).1), .agg (M0 vs f t).2.1.enc, .sc (.bool (M0 vs f t).2.2)]) []:=by
 refine P6 114 [(6,none),(7,some (some 2)),(8,none)] hm A1 Tryz.func232 rfl ?_;have:=A9o
 have:=N4
 have:=C3w
 have:=A4g
 have:=A6t
 have:=M0.eq_1 vs f t
 have:=fun i_ s_=>L5.eq_1 vs (B9 f) (J8 (B9 t) (B9 f)) i_ s_
 have:=fun x_ Q_ σ_=> @lp_ Tryz.prog 114 [] x_ Q_ σ_ hm (IE (L5 vs (B9 f) (J8 (B9 t) (B9 f))) (0,0,(-1),false,(decide (1<(vs.length:Int))))) (fun _=>True) vs.length (fun i_=> [(0, .share,B4 2 Vec.enc default vs),(4, .share, .ptr 80 0 0 1),(7, .share, .ptr 128 0 0 1),(9, .share, .ptr 160 0 0 1),(10, .share, .sc (.int .i64 (stE (L5 vs (B9 f) (J8 (B9 t) (B9 f))) i_ (0,0,(-1),false,(decide (1<(vs.length:Int))))).1)),(11, .share, .sc (.int .i64 (stE (L5 vs (B9 f) (J8 (B9 t) (B9 f))) i_ (0,0,(-1),false,(decide (1<(vs.length:Int))))).2.1)),(12, .share, .sc (.int .i64 (stE (L5 vs (B9 f) (J8 (B9 t) (B9 f))) i_ (0,0,(-1),false,(decide (1<(vs.length:Int))))).2.2.1)),(13, .share, .sc (.bool (stE (L5 vs (B9 f) (J8 (B9 t) (B9 f))) i_ (0,0,(-1),false,(decide (1<(vs.length:Int))))).2.2.2.1)),(14, .share, .sc (.bool (stE (L5 vs (B9 f) (J8 (B9 t) (B9 f))) i_ (0,0,(-1),false,(decide (1<(vs.length:Int))))).2.2.2.2)),(32, .share, .sc (.int .i64 (vs.length:Int))),(33, .share, .sc (.int .i64 (i_:Int)))]) (fun i_=> [(80, .box [.sc (.int .i64 (B9 f).X), .sc (.int .i64 (B9 f).Y)]),(128, .box [.sc (.int .i64 0), .sc (.int .i64 0)]),(160, .box [.sc (.int .i64 (J8 (B9 t) (B9 f)).X), .sc (.int .i64 (J8 (B9 t) (B9 f)).Y)])]) [] rfl (fun _ _=>trivial) (by simp[go_sem]) (by simp[go_sem,A9]) (by simp[go_sem]);exact A2i
structure A0h where
 core:List Vec
 radius:Int
 kind:Int
 deriving DecidableEq,Inhabited
def A0h.enc(x:A0h):List AV:=[B4 2 Vec.enc default x.core, .sc (.int .i64 x.radius), .sc (.int .i64 x.kind)]
def A0h.zero:List AV:= [.sc (.slice none 0 0), .sc (.int .i64 0), .sc (.int .i64 0)]
attribute [go_sem] A0h.enc A0h.zero
@[go_sem] theorem D74(x:A0h):A0h.mk x.core x.radius x.kind=x:=rfl
def P1(j:Joint)(i:Int):Bool:=((i != 0)&&((j.BodyA==i)||(j.BodyB==i)))
theorem B1r(j:Joint)(i:Int):A5 Tryz.prog C28 [.agg j.enc, .sc (.int .i64 i)] [] (.sc (.bool (P1 j i))) []:=by refine en1 hm A1 Tryz.func148 rfl rfl ?_;have:=P1.eq_1 j i;exact D3
def A33(j:Joint):Joint:=if((j.Impulses.I0==0)&&((j.Impulses.I1==0)&&((j.Impulses.I2==0)&&(j.Impulses.I3==0))))=true then(j)else((⟨j.ID,j.Kind,j.BodyA,j.BodyB,j.AnchorA,j.AnchorB,j.Axis,j.ReferenceAngle,j.EnableLimit,j.Lower,j.Upper,j.EnableMotor,j.MotorSpeed,j.MaxForce,j.Softness,j.BreakForce,j.CollideConnected,(⟨0,0,0,0⟩:A5a)⟩:Joint))
theorem A7c(j:Joint):A5 Tryz.prog B5e [.agg j.enc] [] (.agg (A33 j).enc) []:=by refine P7 11 [(2,some (some 24))] hm A1 Tryz.func145 rfl ?_;have:=A33.eq_1 j;exact A2i
end Go.Abs
end
section
namespace Go.Abs
open Go.Proofs
open Api
structure X8 where
 ia:Int
 ib:Int
 centerA:Vec
 centerB:Vec
 bodies:List SolverBody
 deriving DecidableEq,Inhabited
def X8.enc(x:X8):List AV:=[.sc (.int .i64 x.ia), .sc (.int .i64 x.ib), .sc (.int .i64 x.centerA.X), .sc (.int .i64 x.centerA.Y), .sc (.int .i64 x.centerB.X), .sc (.int .i64 x.centerB.Y),B4 5 SolverBody.enc default x.bodies]
def X8.zero:List AV:= [.sc (.int .i64 0), .sc (.int .i64 0), .sc (.int .i64 0), .sc (.int .i64 0), .sc (.int .i64 0), .sc (.int .i64 0), .sc (.slice none 0 0)]
attribute [go_sem] X8.enc X8.zero
@[go_sem] theorem D5u(x:X8):X8.mk x.ia x.ib x.centerA x.centerB x.bodies=x:=rfl
def C7(p:Vec)(q:Vec)(r:Int)(f:Vec)(t:Vec):Int×Vec×Bool:=let v1:=(J8 q p);let v2:=(X9 v1);let v3:=(A9e v2);let v4:=(A5k v3 r);let v5:=(M6 p r f t);let v6:=(M6 q r f t);if(v6.2.2&&((!v5.2.2)||(decide (v6.1<v5.1))))=true then(let v7:=(J8 p v4);let v8:=(J8 q v4);let v9:=(T8 q v4);let v10:=(T8 p v4);let v11:=(M0 ([v7,v8,v9,v10]) f t);if(v11.2.2&&((!v6.2.2)||(decide (v11.1<v6.1))))=true then((v11.1,v11.2.1,v11.2.2))else((v6.1,v6.2.1,v6.2.2)))else(let v12:=(J8 p v4);let v13:=(J8 q v4);let v14:=(T8 q v4);let v15:=(T8 p v4);let v16:=(M0 ([v12,v13,v14,v15]) f t);if(v16.2.2&&((!v5.2.2)||(decide (v16.1<v5.1))))=true then((v16.1,v16.2.1,v16.2.2))else((v5.1,v5.2.1,v5.2.2)))
theorem B4x(p:Vec)(q:Vec)(r:Int)(f:Vec)(t:Vec):A5 Tryz.prog B4o [.agg p.enc, .agg q.enc, .sc (.int .i64 r), .agg f.enc, .agg t.enc] [] (.tup [.sc (.int .i64 (C7 p q r f t).1), .agg (C7 p q r f t).2.1.enc, .sc (.bool (C7 p q r f t).2.2)]) []:=by
 refine P6 99 [(10,none),(11,some (some 2)),(12,none)] hm A1 Tryz.func231 rfl ?_;simp only[go_sem,go_sem_proc,A4,A6,A3,A2]
 (repeat(with_reducible refine And.intro ?_ ?_;focus (exact bO_)))
 refine A0 (N4 q p) rfl ?_;generalize hv1:(J8 q p)=v1;simp only[go_sem,go_sem_proc,A4,A6,A3,A2]
 (repeat(with_reducible refine And.intro ?_ ?_;focus (exact bO_)))
 refine A0 (A4f v1) rfl ?_;generalize hv2:(X9 v1)=v2;simp only[go_sem,go_sem_proc,A4,A6,A3,A2]
 (repeat(with_reducible refine And.intro ?_ ?_;focus (exact bO_)))
 refine A0 (D4d v2) rfl ?_;generalize hv3:(A9e v2)=v3;simp only[go_sem,go_sem_proc,A4,A6,A3,A2]
 (repeat(with_reducible refine And.intro ?_ ?_;focus (exact bO_)))
 refine A0 (C0d v3 r) rfl ?_;generalize hv4:(A5k v3 r)=v4;simp only[go_sem,go_sem_proc,A4,A6,A3,A2]
 (repeat(with_reducible refine And.intro ?_ ?_;focus (exact bO_)))
 refine A0 (A4p p r f t) rfl ?_;generalize hv5:(M6 p r f t)=v5;simp only[go_sem,go_sem_proc,A4,A6,A3,A2]
 (repeat(with_reducible refine And.intro ?_ ?_;focus (exact bO_)))
 refine A0 (A4p q r f t) rfl ?_;generalize hv6:(M6 q r f t)=v6;simp only[go_sem,go_sem_proc,A4,A6,A3,A2]
 (repeat(with_reducible refine And.intro ?_ ?_;focus (exact bO_)))
 by_cases h1:(v6.2.2&&((!v5.2.2)||(decide (v6.1<v5.1))))=true
 ·first |rw[if_pos h1] |rw[if_pos (by simp_all)] |rw[if_pos (by omega)]
  (repeat(with_reducible refine And.intro ?_ ?_;focus (exact bO_)))
  refine A0 (N4 p v4) rfl ?_;generalize hv7:(J8 p v4)=v7;simp only[go_sem,go_sem_proc,A4,A6,A3,A2]
  (repeat(with_reducible refine And.intro ?_ ?_;focus (exact bO_)))
  refine A0 (N4 q v4) rfl ?_;generalize hv8:(J8 q v4)=v8;simp only[go_sem,go_sem_proc,A4,A6,A3,A2]
  (repeat(with_reducible refine And.intro ?_ ?_;focus (exact bO_)))
  refine A0 (A17 q v4) rfl ?_;generalize hv9:(T8 q v4)=v9;simp only[go_sem,go_sem_proc,A4,A6,A3,A2]
  (repeat(with_reducible refine And.intro ?_ ?_;focus (exact bO_)))
  refine A0 (A17 p v4) rfl ?_;generalize hv10:(T8 p v4)=v10;simp only[go_sem,go_sem_proc,A4,A6,A3,A2]
  (repeat(with_reducible refine And.intro ?_ ?_;focus (exact bO_)))
  refine A04 (A32 ([v7,v8,v9,v10]) f t (by(first |assumption |omega |exact B0 |(simp_all;done) |(simp_all;omega)))) rfl ?_ ?_
  ·(try simp only[P9,go_sem,go_sem_proc,A4,A6,A3,A2]);all_goals((repeat' (with_reducible apply And.intro)) <;> first |with_reducible rfl |trivial |exact R5 (fun _ _=>rfl) rfl rfl rfl |exact C1 rfl |exact A2w _ |rfl)
  generalize hv11:(M0 ([v7,v8,v9,v10]) f t)=v11;simp only[go_sem,go_sem_proc,A4,A6,A3,A2]
  (repeat(with_reducible refine And.intro ?_ ?_;focus (exact bO_)))
  by_cases h2:(v11.2.2&&((!v6.2.2)||(decide (v11.1<v6.1))))=true
  ·first |rw[if_pos h2] |rw[if_pos (by simp_all)] |rw[if_pos (by omega)]
   (repeat(with_reducible refine And.intro ?_ ?_;focus (exact bO_)))
   have hd:C7 p q r f t=(v11.1,v11.2.1,v11.2.2):=by first |with_reducible rfl |(simp only[C7,hv1,hv2,hv3,hv4,hv5,hv6,h1,hv7,hv8,hv9,hv10,hv11,h2,if_true,if_false,eq_self,Bool.false_eq_true,Bool.true_eq_false,not_true_eq_false,not_false_eq_true,reduceCtorEq,B6,C5,E1,E2,Bool.and_true,Bool.true_and,Bool.and_false,Bool.false_and,Bool.or_true,Bool.true_or,Bool.or_false,Bool.false_or,Bool.not_true,Bool.not_false,decide_true,decide_false];done) |(simp only[C7,hv1,hv2,hv3,hv4,hv5,hv6,h1,hv7,hv8,hv9,hv10,hv11,h2,if_true,if_false,eq_self,Bool.false_eq_true,Bool.true_eq_false,not_true_eq_false,not_false_eq_true,reduceCtorEq,B6,C5,E1,E2,Bool.and_true,Bool.true_and,Bool.and_false,Bool.false_and,Bool.or_true,Bool.true_or,Bool.or_false,Bool.false_or,Bool.not_true,Bool.not_false,decide_true,decide_false];with_reducible rfl) |(simp only[C7,hv1,hv2,hv3,hv4,hv5,hv6,h1,hv7,hv8,hv9,hv10,hv11,h2,if_true,if_false,eq_self,Bool.false_eq_true,Bool.true_eq_false,not_true_eq_false,not_false_eq_true,reduceCtorEq,B6,C5,E1,E2,Bool.and_true,Bool.true_and,Bool.and_false,Bool.false_and,Bool.or_true,Bool.true_or,Bool.or_false,Bool.false_or,Bool.not_true,Bool.not_false,decide_true,decide_false];rfl) |(unfold C7;(repeat' split) <;> first |rfl |omega |(simp_all;done) |(simp_all;omega))
   try rw[hd]
   try simp only[go_sem,go_sem_proc,A4,A6,A3,A2]
   all_goals exact eO_
  ·first |rw[if_neg h2] |rw[if_neg (by simp_all)] |rw[if_neg (by omega)]
   (repeat(with_reducible refine And.intro ?_ ?_;focus (exact bO_)))
   have hd:C7 p q r f t=(v6.1,v6.2.1,v6.2.2):=by first |with_reducible rfl |(simp only[C7,hv1,hv2,hv3,hv4,hv5,hv6,h1,hv7,hv8,hv9,hv10,hv11,h2,if_true,if_false,eq_self,Bool.false_eq_true,Bool.true_eq_false,not_true_eq_false,not_false_eq_true,reduceCtorEq,B6,C5,E1,E2,Bool.and_true,Bool.true_and,Bool.and_false,Bool.false_and,Bool.or_true,Bool.true_or,Bool.or_false,Bool.false_or,Bool.not_true,Bool.not_false,decide_true,decide_false];done) |(simp only[C7,hv1,hv2,hv3,hv4,hv5,hv6,h1,hv7,hv8,hv9,hv10,hv11,h2,if_true,if_false,eq_self,Bool.false_eq_true,Bool.true_eq_false,not_true_eq_false,not_false_eq_true,reduceCtorEq,B6,C5,E1,E2,Bool.and_true,Bool.true_and,Bool.and_false,Bool.false_and,Bool.or_true,Bool.true_or,Bool.or_false,Bool.false_or,Bool.not_true,Bool.not_false,decide_true,decide_false];with_reducible rfl) |(simp only[C7,hv1,hv2,hv3,hv4,hv5,hv6,h1,hv7,hv8,hv9,hv10,hv11,h2,if_true,if_false,eq_self,Bool.false_eq_true,Bool.true_eq_false,not_true_eq_false,not_false_eq_true,reduceCtorEq,B6,C5,E1,E2,Bool.and_true,Bool.true_and,Bool.and_false,Bool.false_and,Bool.or_true,Bool.true_or,Bool.or_false,Bool.false_or,Bool.not_true,Bool.not_false,decide_true,decide_false];rfl) |(unfold C7;(repeat' split) <;> first |rfl |omega |(simp_all;done) |(simp_all;omega))
   try rw[hd]
   try simp only[go_sem,go_sem_proc,A4,A6,A3,A2]
   all_goals exact eO_
 ·first |rw[if_neg h1] |rw[if_neg (by simp_all)] |rw[if_neg (by omega)]
  (repeat(with_reducible refine And.intro ?_ ?_;focus (exact bO_)))
  refine A0 (N4 p v4) rfl ?_;generalize hv12:(J8 p v4)=v12;simp only[go_sem,go_sem_proc,A4,A6,A3,A2]
  (repeat(with_reducible refine And.intro ?_ ?_;focus (exact bO_)))
  refine A0 (N4 q v4) rfl ?_;generalize hv13:(J8 q v4)=v13;simp only[go_sem,go_sem_proc,A4,A6,A3,A2]
  (repeat(with_reducible refine And.intro ?_ ?_;focus (exact bO_)))
  refine A0 (A17 q v4) rfl ?_;generalize hv14:(T8 q v4)=v14;simp only[go_sem,go_sem_proc,A4,A6,A3,A2]
  (repeat(with_reducible refine And.intro ?_ ?_;focus (exact bO_)))
  refine A0 (A17 p v4) rfl ?_;generalize hv15:(T8 p v4)=v15;simp only[go_sem,go_sem_proc,A4,A6,A3,A2]
  (repeat(with_reducible refine And.intro ?_ ?_;focus (exact bO_)))
  refine A04 (A32 ([v12,v13,v14,v15]) f t (by(first |assumption |omega |exact B0 |(simp_all;done) |(simp_all;omega)))) rfl ?_ ?_
  ·(try simp only[P9,go_sem,go_sem_proc,A4,A6,A3,A2]);all_goals((repeat' (with_reducible apply And.intro)) <;> first |with_reducible rfl |trivial |exact R5 (fun _ _=>rfl) rfl rfl rfl |exact C1 rfl |exact A2w _ |rfl)
  generalize hv16:(M0 ([v12,v13,v14,v15]) f t)=v16;simp only[go_sem,go_sem_proc,A4,A6,A3,A2]
  (repeat(with_reducible refine And.intro ?_ ?_;focus (exact bO_)))
  by_cases h3:(v16.2.2&&((!v5.2.2)||(decide (v16.1<v5.1))))=true
  ·first |rw[if_pos h3] |rw[if_pos (by simp_all)] |rw[if_pos (by omega)]
   (repeat(with_reducible refine And.intro ?_ ?_;focus (exact bO_)))
   have hd:C7 p q r f t=(v16.1,v16.2.1,v16.2.2):=by first |with_reducible rfl |(simp only[C7,hv1,hv2,hv3,hv4,hv5,hv6,h1,hv12,hv13,hv14,hv15,hv16,h3,if_true,if_false,eq_self,Bool.false_eq_true,Bool.true_eq_false,not_true_eq_false,not_false_eq_true,reduceCtorEq,B6,C5,E1,E2,Bool.and_true,Bool.true_and,Bool.and_false,Bool.false_and,Bool.or_true,Bool.true_or,Bool.or_false,Bool.false_or,Bool.not_true,Bool.not_false,decide_true,decide_false];done) |(simp only[C7,hv1,hv2,hv3,hv4,hv5,hv6,h1,hv12,hv13,hv14,hv15,hv16,h3,if_true,if_false,eq_self,Bool.false_eq_true,Bool.true_eq_false,not_true_eq_false,not_false_eq_true,reduceCtorEq,B6,C5,E1,E2,Bool.and_true,Bool.true_and,Bool.and_false,Bool.false_and,Bool.or_true,Bool.true_or,Bool.or_false,Bool.false_or,Bool.not_true,Bool.not_false,decide_true,decide_false];with_reducible rfl) |(simp only[C7,hv1,hv2,hv3,hv4,hv5,hv6,h1,hv12,hv13,hv14,hv15,hv16,h3,if_true,if_false,eq_self,Bool.false_eq_true,Bool.true_eq_false,not_true_eq_false,not_false_eq_true,reduceCtorEq,B6,C5,E1,E2,Bool.and_true,Bool.true_and,Bool.and_false,Bool.false_and,Bool.or_true,Bool.true_or,Bool.or_false,Bool.false_or,Bool.not_true,Bool.not_false,decide_true,decide_false];rfl) |(unfold C7;(repeat' split) <;> first |rfl |omega |(simp_all;done) |(simp_all;omega))
   try rw[hd]
   try simp only[go_sem,go_sem_proc,A4,A6,A3,A2]
   all_goals exact eO_
  ·first |rw[if_neg h3] |rw[if_neg (by simp_all)] |rw[if_neg (by omega)]
   (repeat(with_reducible refine And.intro ?_ ?_;focus (exact bO_)))
   have hd:C7 p q r f t=(v5.1,v5.2.1,v5.2.2):=by first |with_reducible rfl |(simp only[C7,hv1,hv2,hv3,hv4,hv5,hv6,h1,hv12,hv13,hv14,hv15,hv16,h3,if_true,if_false,eq_self,Bool.false_eq_true,Bool.true_eq_false,not_true_eq_false,not_false_eq_true,reduceCtorEq,B6,C5,E1,E2,Bool.and_true,Bool.true_and,Bool.and_false,Bool.false_and,Bool.or_true,Bool.true_or,Bool.or_false,Bool.false_or,Bool.not_true,Bool.not_false,decide_true,decide_false];done) |(simp only[C7,hv1,hv2,hv3,hv4,hv5,hv6,h1,hv12,hv13,hv14,hv15,hv16,h3,if_true,if_false,eq_self,Bool.false_eq_true,Bool.true_eq_false,not_true_eq_false,not_false_eq_true,reduceCtorEq,B6,C5,E1,E2,Bool.and_true,Bool.true_and,Bool.and_false,Bool.false_and,Bool.or_true,Bool.true_or,Bool.or_false,Bool.false_or,Bool.not_true,Bool.not_false,decide_true,decide_false];with_reducible rfl) |(simp only[C7,hv1,hv2,hv3,hv4,hv5,hv6,h1,hv12,hv13,hv14,hv15,hv16,h3,if_true,if_false,eq_self,Bool.false_eq_true,Bool.true_eq_false,not_true_eq_false,not_false_eq_true,reduceCtorEq,B6,C5,E1,E2,Bool.and_true,Bool.true_and,Bool.and_false,Bool.false_and,Bool.or_true,Bool.true_or,Bool.or_false,Bool.false_or,Bool.not_true,Bool.not_false,decide_true,decide_false];rfl) |(unfold C7;(repeat' split) <;> first |rfl |omega |(simp_all;done) |(simp_all;omega))
   try rw[hd]
   try simp only[go_sem,go_sem_proc,A4,A6,A3,A2]
   all_goals exact eO_
theorem D4x(s:Shape)(p:Transform):(D8 s p).length=0∨(1≤(D8 s p).length∧(s.Kind=1→(D8 s p).length=1)∧(s.Kind=2→(D8 s p).length=2)∧(D8 s p).length≤8):=by
 by_cases h:J7 s=0
 ·have:=D3z s p h
  exact .inr ⟨this.1,this.2.1,this.2.2.1,this.2.2.2.2⟩
 ·left;rw[C0l,if_neg h]
def V4(s:Shape)(p:Transform)(f:Vec)(t:Vec):Int×Vec×Bool:=let v1:=(D8 s p);if((v1.length:Int)==0)=true then((0,(⟨0,0⟩:Vec),false))else(let v2:=(U1 s p f);if v2=true then((0,(⟨0,0⟩:Vec),true))else(if(s.Kind==1)=true then(let v3:=(M6 (v1.getD 0 default) s.Radius f t);(v3.1,v3.2.1,v3.2.2))else(if(s.Kind==2)=true then(let v4:=(C7 (v1.getD 0 default) (v1.getD 1 default) s.Radius f t);(v4.1,v4.2.1,v4.2.2))else(let v5:=(M0 v1 f t);(v5.1,v5.2.1,v5.2.2)))))
theorem C7z(s:Shape)(p:Transform)(f:Vec)(t:Vec)(h0:s.Vertices.length≤1048576):A5 Tryz.prog C7d [.agg s.enc, .agg p.enc, .agg f.enc, .agg t.enc] [] (.tup [.sc (.int .i64 (V4 s p f t).1), .agg (V4 s p f t).2.1.enc, .sc (.bool (V4 s p f t).2.2)]) []:=by
 refine P6 62 [(8,none),(9,some (some 2)),(10,none)] hm A1 Tryz.func126 rfl ?_;have:=D4x s p
 have:=C3t s p
 have:=A69
 have:=A7j
 have:=A4p
 have:=B4x
 have:=A32
 have:=V4.eq_1 s p f t;exact A2i
end Go.Abs
end
section
namespace Go.Abs
open Go.Proofs
open Api
def bO(n:Vec):List (Nat×A8):= [(1, .box [.sc (.int .i64 n.X), .sc (.int .i64 n.Y), .sc (.slice none 0 0)]),(2, .box n.enc),(3, .box [.ptr 1 0 0 1])]
def bL(n:Vec)(l:List C4):List (Nat×A8):= [(1, .box [.sc (.int .i64 n.X), .sc (.int .i64 n.Y), .sl 4 0 l.length l.length]),(2, .box n.enc),(3, .box [.ptr 1 0 0 1]),(4, .arr 6 (D2 C4.enc default l))]
attribute [go_sem] bO bL
end Go.Abs
end
section
namespace Go.Abs
open Go.Proofs
open Api
def A74(w:Api.World)(id:Int):Int:=A2p default (fun j:Joint=>j.ID==id) w.Joints
theorem B5t(id:Int)(b:Joint):A5 Tryz.prog A73 [.agg b.enc, .ptr 1 0 0 1] [(1, .box [.sc (.int .i64 id)])] (.sc (.bool (b.ID==id))) [(1, .box [.sc (.int .i64 id)])]:=by refine R8 hm A1 Tryz.func256 rfl rfl ?_;simp only[go_sem,go_sem_proc];refine E3 [.share] [] [] rfl rfl (by simp[go_sem]) (by simp[A9,go_sem]) (by simp[go_sem]) ?_;simp only[go_sem,go_sem_proc]
theorem A3i(w:Api.World)(id:Int)(hw:w.Joints.length≤1048576):A5 Tryz.prog C12 [.agg w.enc, .sc (.int .i64 id)] [] (.sc (.int .i64 (A74 w id))) []:=by refine R8 hm A1 Tryz.func156 rfl rfl ?_;simp only[go_sem,go_sem_proc];refine I4 [true,true] [(1,64)] (B2i w.Joints A73 [] [.ptr 1 0 0 1] [(1, .box [.sc (.int .i64 id)])] (fun b=>b.ID==id) (by omega) (D8f id) (by simp[go_sem,AV.ids]) (fun b _=>B5t id b)) (by simp) (by simp) (by simp) (by simp[go_sem]) ?_;simp only[go_sem,go_sem_proc];refine E3 [.share] [] [] rfl rfl (by simp[go_sem]) (by simp[A9,go_sem]) (by simp[go_sem]) ?_;simp only[go_sem,go_sem_proc];rfl
end Go.Abs
end
section
namespace Go.Abs
open Go.Proofs
open Api
end Go.Abs
namespace Go.Api
open Go.Abs
structure Input where
 Kind:Int
 ID:Int
 Vec:Vec
 Value:Int
 Body:Body
 Joint:Joint
 deriving DecidableEq,Inhabited
def Input.enc(x:Input):List AV:=[.sc (.int .i64 x.Kind), .sc (.int .i64 x.ID), .sc (.int .i64 x.Vec.X), .sc (.int .i64 x.Vec.Y), .sc (.int .i64 x.Value), .sc (.int .i64 x.Body.ID), .sc (.int .i64 x.Body.Kind), .sc (.int .i64 x.Body.Transform.Position.X), .sc (.int .i64 x.Body.Transform.Position.Y), .sc (.int .i64 x.Body.Transform.Angle), .sc (.int .i64 x.Body.Velocity.X), .sc (.int .i64 x.Body.Velocity.Y), .sc (.int .i64 x.Body.AngularVelocity), .sc (.int .i64 x.Body.Force.X), .sc (.int .i64 x.Body.Force.Y), .sc (.int .i64 x.Body.Torque), .sc (.int .i64 x.Body.LinearDamping), .sc (.int .i64 x.Body.AngularDamping), .sc (.int .i64 x.Body.GravityScale), .sc (.bool x.Body.Bullet), .sc (.bool x.Body.FixedRotation), .sc (.bool x.Body.NoSleep), .sc (.bool x.Body.Asleep), .sc (.int .i64 x.Body.IdleSteps),B4 10 Fixture.enc default x.Body.Fixtures, .sc (.int .i64 x.Joint.ID), .sc (.int .i64 x.Joint.Kind), .sc (.int .i64 x.Joint.BodyA), .sc (.int .i64 x.Joint.BodyB), .sc (.int .i64 x.Joint.AnchorA.X), .sc (.int .i64 x.Joint.AnchorA.Y), .sc (.int .i64 x.Joint.AnchorB.X), .sc (.int .i64 x.Joint.AnchorB.Y), .sc (.int .i64 x.Joint.Axis.X), .sc (.int .i64 x.Joint.Axis.Y), .sc (.int .i64 x.Joint.ReferenceAngle), .sc (.bool x.Joint.EnableLimit), .sc (.int .i64 x.Joint.Lower), .sc (.int .i64 x.Joint.Upper), .sc (.bool x.Joint.EnableMotor), .sc (.int .i64 x.Joint.MotorSpeed), .sc (.int .i64 x.Joint.MaxForce), .sc (.int .i64 x.Joint.Softness), .sc (.int .i64 x.Joint.BreakForce), .sc (.bool x.Joint.CollideConnected), .sc (.int .i64 x.Joint.Impulses.I0), .sc (.int .i64 x.Joint.Impulses.I1), .sc (.int .i64 x.Joint.Impulses.I2), .sc (.int .i64 x.Joint.Impulses.I3)]
def Input.zero:List AV:= [.sc (.int .i64 0), .sc (.int .i64 0), .sc (.int .i64 0), .sc (.int .i64 0), .sc (.int .i64 0), .sc (.int .i64 0), .sc (.int .i64 0), .sc (.int .i64 0), .sc (.int .i64 0), .sc (.int .i64 0), .sc (.int .i64 0), .sc (.int .i64 0), .sc (.int .i64 0), .sc (.int .i64 0), .sc (.int .i64 0), .sc (.int .i64 0), .sc (.int .i64 0), .sc (.int .i64 0), .sc (.int .i64 0), .sc (.bool false), .sc (.bool false), .sc (.bool false), .sc (.bool false), .sc (.int .i64 0), .sc (.slice none 0 0), .sc (.int .i64 0), .sc (.int .i64 0), .sc (.int .i64 0), .sc (.int .i64 0), .sc (.int .i64 0), .sc (.int .i64 0), .sc (.int .i64 0), .sc (.int .i64 0), .sc (.int .i64 0), .sc (.int .i64 0), .sc (.int .i64 0), .sc (.bool false), .sc (.int .i64 0), .sc (.int .i64 0), .sc (.bool false), .sc (.int .i64 0), .sc (.int .i64 0), .sc (.int .i64 0), .sc (.int .i64 0), .sc (.bool false), .sc (.int .i64 0), .sc (.int .i64 0), .sc (.int .i64 0), .sc (.int .i64 0)]
attribute [go_sem] Input.enc Input.zero
@[go_sem] theorem F8p(x:Input):Input.mk x.Kind x.ID x.Vec x.Value x.Body x.Joint=x:=rfl
structure Request where
 Kind:Int
 From:Vec
 To:Vec
 Mask:Int
 Input:Input
 deriving DecidableEq,Inhabited
def Request.enc(x:Request):List AV:=[.sc (.int .i64 x.Kind), .sc (.int .i64 x.From.X), .sc (.int .i64 x.From.Y), .sc (.int .i64 x.To.X), .sc (.int .i64 x.To.Y), .sc (.int .i64 x.Mask), .sc (.int .i64 x.Input.Kind), .sc (.int .i64 x.Input.ID), .sc (.int .i64 x.Input.Vec.X), .sc (.int .i64 x.Input.Vec.Y), .sc (.int .i64 x.Input.Value), .sc (.int .i64 x.Input.Body.ID), .sc (.int .i64 x.Input.Body.Kind), .sc (.int .i64 x.Input.Body.Transform.Position.X), .sc (.int .i64 x.Input.Body.Transform.Position.Y), .sc (.int .i64 x.Input.Body.Transform.Angle), .sc (.int .i64 x.Input.Body.Velocity.X), .sc (.int .i64 x.Input.Body.Velocity.Y), .sc (.int .i64 x.Input.Body.AngularVelocity), .sc (.int .i64 x.Input.Body.Force.X), .sc (.int .i64 x.Input.Body.Force.Y), .sc (.int .i64 x.Input.Body.Torque), .sc (.int .i64 x.Input.Body.LinearDamping), .sc (.int .i64 x.Input.Body.AngularDamping), .sc (.int .i64 x.Input.Body.GravityScale), .sc (.bool x.Input.Body.Bullet), .sc (.bool x.Input.Body.FixedRotation), .sc (.bool x.Input.Body.NoSleep), .sc (.bool x.Input.Body.Asleep), .sc (.int .i64 x.Input.Body.IdleSteps),B4 10 Fixture.enc default x.Input.Body.Fixtures, .sc (.int .i64 x.Input.Joint.ID), .sc (.int .i64 x.Input.Joint.Kind), .sc (.int .i64 x.Input.Joint.BodyA), .sc (.int .i64 x.Input.Joint.BodyB), .sc (.int .i64 x.Input.Joint.AnchorA.X), .sc (.int .i64 x.Input.Joint.AnchorA.Y), .sc (.int .i64 x.Input.Joint.AnchorB.X), .sc (.int .i64 x.Input.Joint.AnchorB.Y), .sc (.int .i64 x.Input.Joint.Axis.X), .sc (.int .i64 x.Input.Joint.Axis.Y), .sc (.int .i64 x.Input.Joint.ReferenceAngle), .sc (.bool x.Input.Joint.EnableLimit), .sc (.int .i64 x.Input.Joint.Lower), .sc (.int .i64 x.Input.Joint.Upper), .sc (.bool x.Input.Joint.EnableMotor), .sc (.int .i64 x.Input.Joint.MotorSpeed), .sc (.int .i64 x.Input.Joint.MaxForce), .sc (.int .i64 x.Input.Joint.Softness), .sc (.int .i64 x.Input.Joint.BreakForce), .sc (.bool x.Input.Joint.CollideConnected), .sc (.int .i64 x.Input.Joint.Impulses.I0), .sc (.int .i64 x.Input.Joint.Impulses.I1), .sc (.int .i64 x.Input.Joint.Impulses.I2), .sc (.int .i64 x.Input.Joint.Impulses.I3)]
def Request.zero:List AV:= [.sc (.int .i64 0), .sc (.int .i64 0), .sc (.int .i64 0), .sc (.int .i64 0), .sc (.int .i64 0), .sc (.int .i64 0), .sc (.int .i64 0), .sc (.int .i64 0), .sc (.int .i64 0), .sc (.int .i64 0), .sc (.int .i64 0), .sc (.int .i64 0), .sc (.int .i64 0), .sc (.int .i64 0), .sc (.int .i64 0), .sc (.int .i64 0), .sc (.int .i64 0), .sc (.int .i64 0), .sc (.int .i64 0), .sc (.int .i64 0), .sc (.int .i64 0), .sc (.int .i64 0), .sc (.int .i64 0), .sc (.int .i64 0), .sc (.int .i64 0), .sc (.bool false), .sc (.bool false), .sc (.bool false), .sc (.bool false), .sc (.int .i64 0), .sc (.slice none 0 0), .sc (.int .i64 0), .sc (.int .i64 0), .sc (.int .i64 0), .sc (.int .i64 0), .sc (.int .i64 0), .sc (.int .i64 0), .sc (.int .i64 0), .sc (.int .i64 0), .sc (.int .i64 0), .sc (.int .i64 0), .sc (.int .i64 0), .sc (.bool false), .sc (.int .i64 0), .sc (.int .i64 0), .sc (.bool false), .sc (.int .i64 0), .sc (.int .i64 0), .sc (.int .i64 0), .sc (.int .i64 0), .sc (.bool false), .sc (.int .i64 0), .sc (.int .i64 0), .sc (.int .i64 0), .sc (.int .i64 0)]
attribute [go_sem] Request.enc Request.zero
@[go_sem] theorem E7b(x:Request):Request.mk x.Kind x.From x.To x.Mask x.Input=x:=rfl
end Go.Api
namespace Go.Abs
open Go.Proofs Api
def smV(f:Fixture):Bool:=decide (f.Shape.Vertices.length≤12)
def smI(l:List Fixture):Bool:=(l.take 6).all smV&&decide (l.length≤6)
theorem D1k {α:Type}{l:List α}{p:α→Bool}{k:Nat}(h:(l.take k).all p=true)(hk:k=l.length∨k=6)(hl:k≤l.length)(h6:k≤6):(l.take 6).all p=true:=by
 rcases hk with rfl |rfl
 ·rw[List.take_of_length_le (by omega)];rw[List.take_of_length_le (by omega)]at h;exact h
 ·exact h
theorem D3c {l:List Fixture}{k:Nat}(hk:k<6)(hl:k<l.length)(h:smV (l.getD k default)=false):(l.take 6).all smV=false:=by rw[List.all_eq_false];refine⟨l.getD k default,?_,by rw[h];simp⟩;rw[List.mem_take_iff_getElem];exact⟨k,by omega,by simp[List.getD,List.getElem?_eq_getElem hl]⟩
end Go.Abs
end
