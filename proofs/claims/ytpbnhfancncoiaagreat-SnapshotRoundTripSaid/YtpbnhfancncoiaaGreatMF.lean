/- A part of the proof: contracts of functions that the statement reaches. -/
import Derived.Test.YtpbnhfancncoiaaGreatME
set_option linter.unusedSimpArgs false
set_option linter.unusedVariables false
set_option linter.unnecessarySimpa false
set_option maxRecDepth 100000
set_option maxHeartbeats 2000000
section
namespace Go.Abs
open Go.Proofs
open Api
def d_world_bodiesExist (w : Api.World) (j : Joint) : Bool := let v1 := (findB w j.BodyB); let v2 := (findB w j.BodyA); ((decide (0 ≤ v1)) && ((j.Kind == 5) || (decide (0 ≤ v2))))
theorem s_world_bodiesExist (w : Api.World) (j : Joint) (hl : w.Bodies.length ≤ 1048576) : CallsA Tryz.prog F_world_bodiesExist [.agg w.enc, .agg j.enc] [] (.sc (.bool (d_world_bodiesExist w j))) [] := by
  refine en1 hm shOk Tryz.func51 rfl rfl ?_
  have := findB_lt w j.BodyB
  have := s_world_FindBody
  have := findB_lt w j.BodyA
  have := d_world_bodiesExist.eq_1 w j
  exact walk_
def d_world_fixturesExist (w : Api.World) (k : PairKey) : Bool := let v1 := (findB w k.BodyA); let v2 := (findB w k.BodyB); ((((decide (0 ≤ v1)) && (decide (0 ≤ v2))) && (decide (k.FixtureA < ((w.Bodies.getD v1.toNat default).Fixtures.length : Int)))) && (decide (k.FixtureB < ((w.Bodies.getD v2.toNat default).Fixtures.length : Int))))
theorem s_world_fixturesExist (w : Api.World) (k : PairKey) (hl : w.Bodies.length ≤ 1048576) : CallsA Tryz.prog F_world_fixturesExist [.agg w.enc, .agg k.enc] [] (.sc (.bool (d_world_fixturesExist w k))) [] := by
  refine en1 hm shOk Tryz.func58 rfl rfl ?_
  have := findB_lt w k.BodyA
  have := s_world_FindBody
  have := findB_lt w k.BodyB
  have := d_world_fixturesExist.eq_1 w k
  exact walk_
def d_body_Validate_L1 (b : Body) (i1 : Nat) (s1 : Unit) : (Unit) ⊕ (Int) := let v2 := (d_body_ValidateFixture (b.Fixtures.getD i1 default)); if (v2 != 0) = true then (.inr 13) else (.inl ())
def d_body_Validate (b : Body) : Int := if (((b.Kind != 1) && (b.Kind != 2)) && (b.Kind != 3)) = true then (10) else (let v1 := (d_body_inRange b); if v1 = false then (6) else (if 4 < (b.Fixtures.length : Int) then (11) else ((match itrE (d_body_Validate_L1 b) b.Fixtures.length () with | .inr r => r | .inl s1 => let v3 := (d_body_consistent b); if v3 = false then (14) else (0)))))
theorem s_body_Validate (b : Body) (hb : Body.sm b) : CallsA Tryz.prog F_body_Validate [.agg b.enc] [] (.sc (.int .i64 (d_body_Validate b))) [] := by
  refine en1 hm shOk Tryz.func49 rfl rfl ?_
  simp only [go_sem, ite_andP, ite_orP, dec_true, dec_false]
  (repeat (with_reducible refine And.intro ?_ ?_; focus exact ob_))
  by_cases h1 : (((b.Kind != 1) && (b.Kind != 2)) && (b.Kind != 3)) = true
  · first | rw [if_pos h1] | rw [if_pos (by simp_all)] | rw [if_pos (by omega)]
    (repeat (with_reducible refine And.intro ?_ ?_; focus exact ob_))
    have hd : d_body_Validate b = 10 := by first | with_reducible rfl | (unfold d_body_Validate; exact hd_)
    try rw [hd]
    try simp only [go_sem, ite_andP, ite_orP, dec_true, dec_false]
    all_goals exact fin_
  · first | rw [if_neg h1] | rw [if_neg (by simp_all)] | rw [if_neg (by omega)]
    (repeat (with_reducible refine And.intro ?_ ?_; focus exact ob_))
    refine CallGi_flat (s_body_inRange b ) rfl ?_
    generalize hv1 : (d_body_inRange b) = v1
    simp only [go_sem, ite_andP, ite_orP, dec_true, dec_false]
    (repeat (with_reducible refine And.intro ?_ ?_; focus exact ob_))
    by_cases h2 : v1 = false
    · first | rw [if_pos h2] | rw [if_pos (by simp_all)] | rw [if_pos (by omega)]
      (repeat (with_reducible refine And.intro ?_ ?_; focus exact ob_))
      have hd : d_body_Validate b = 6 := by first | with_reducible rfl | (unfold d_body_Validate; exact hd_)
      try rw [hd]
      try simp only [go_sem, ite_andP, ite_orP, dec_true, dec_false]
      all_goals exact fin_
    · first | rw [if_neg h2] | rw [if_neg (by simp_all)] | rw [if_neg (by omega)]
      (repeat (with_reducible refine And.intro ?_ ?_; focus exact ob_))
      by_cases h3 : 4 < (b.Fixtures.length : Int)
      · first | rw [if_pos h3] | rw [if_pos (by simp_all)] | rw [if_pos (by omega)]
        (repeat (with_reducible refine And.intro ?_ ?_; focus exact ob_))
        have hd : d_body_Validate b = 11 := by first | with_reducible rfl | (unfold d_body_Validate; exact hd_)
        try rw [hd]
        try simp only [go_sem, ite_andP, ite_orP, dec_true, dec_false]
        all_goals exact fin_
      · first | rw [if_neg h3] | rw [if_neg (by simp_all)] | rw [if_neg (by omega)]
        (repeat (with_reducible refine And.intro ?_ ?_; focus exact ob_))
        refine Wpi_loop hm (ι := {p : Nat × Unit // p.1 ≤ b.Fixtures.length ∧ itrE (d_body_Validate_L1 b) p.1 () = .inl p.2}) (fun i => [(1, .share, .ptr 32 0 0 1), (26, .share, encD 10 Fixture.enc default b.Fixtures), (27, .share, .sc (.int .i64 (b.Fixtures.length : Int))), (28, .share, .sc (.int .i64 (i.1.1 : Int)))]) (fun i => [(32, .box [.sc (.int .i64 b.ID), .sc (.int .i64 b.Kind), .sc (.int .i64 b.Transform.Position.X), .sc (.int .i64 b.Transform.Position.Y), .sc (.int .i64 b.Transform.Angle), .sc (.int .i64 b.Velocity.X), .sc (.int .i64 b.Velocity.Y), .sc (.int .i64 b.AngularVelocity), .sc (.int .i64 b.Force.X), .sc (.int .i64 b.Force.Y), .sc (.int .i64 b.Torque), .sc (.int .i64 b.LinearDamping), .sc (.int .i64 b.AngularDamping), .sc (.int .i64 b.GravityScale), .sc (.bool b.Bullet), .sc (.bool b.FixedRotation), .sc (.bool b.NoSleep), .sc (.bool b.Asleep), .sc (.int .i64 b.IdleSteps), encD 10 Fixture.enc default b.Fixtures])]) (fun i => b.Fixtures.length - i.1.1) ⟨(0, ()), by omega, rfl⟩ ?_ ?_
        · refine weakE_ [] [] ?_
          simp only [go_sem, ite_andP, ite_orP, dec_true, dec_false, itr_zero]
          all_goals exact fin_
        · rintro ⟨⟨i1, s1⟩, hi1, hs1⟩
          replace hi1 : i1 ≤ b.Fixtures.length := hi1
          replace hs1 : itrE (d_body_Validate_L1 b) i1 () = .inl s1 := hs1
          simp only [go_sem, ite_andP, ite_orP, dec_true, dec_false]
          (repeat (with_reducible refine And.intro ?_ ?_; focus exact ob_))
          by_cases h4 : (i1 : Int) < (b.Fixtures.length : Int)
          · first | rw [if_pos h4] | rw [if_pos (by simp_all)] | rw [if_pos (by omega)]
            have hlt1 : i1 < b.Fixtures.length := by first | omega | (simp only [IntKind.wrap_i64] at h4; omega)
            (repeat (with_reducible refine And.intro ?_ ?_; focus exact ob_))
            refine CallGi_flat (s_body_ValidateFixture (b.Fixtures.getD i1 default) (by (first | exact hb.2 _ (mem_getD _ (by omega)) | assumption | omega | (simp_all; done) | (simp_all; omega)))) rfl ?_
            generalize hv2 : (d_body_ValidateFixture (b.Fixtures.getD i1 default)) = v2
            simp only [go_sem, ite_andP, ite_orP, dec_true, dec_false]
            (repeat (with_reducible refine And.intro ?_ ?_; focus exact ob_))
            by_cases h5 : (v2 != 0) = true
            · first | rw [if_pos h5] | rw [if_pos (by simp_all)] | rw [if_pos (by omega)]
              (repeat (with_reducible refine And.intro ?_ ?_; focus exact ob_))
              have e1 : itrE (d_body_Validate_L1 b) (i1 + 1) () = .inr 13 := itrE_inl hs1 (by first | with_reducible rfl | (unfold d_body_Validate_L1; exact hd_))
              replace e1 := itrE_stop e1 (show i1 + 1 ≤ b.Fixtures.length by omega)
              have hd : d_body_Validate b = 13 := by first | with_reducible rfl | (unfold d_body_Validate; exact hd_)
              try rw [hd]
              try simp only [go_sem, ite_andP, ite_orP, dec_true, dec_false]
              all_goals exact fin_
            · first | rw [if_neg h5] | rw [if_neg (by simp_all)] | rw [if_neg (by omega)]
              (repeat (with_reducible refine And.intro ?_ ?_; focus exact ob_))
              have hn : itrE (d_body_Validate_L1 b) (i1 + 1) () = .inl () := itrE_inl hs1 (by first | with_reducible rfl | (unfold d_body_Validate_L1; exact hd_))
              refine loop_next ⟨(i1 + 1, ()), by omega, hn⟩ (by show b.Fixtures.length - (i1 + 1) < b.Fixtures.length - i1; omega) (weakE_ [] [] ?_)
              simp only [go_sem, ite_andP, ite_orP, dec_true, dec_false]
              all_goals exact fin_
          · first | rw [if_neg h4] | rw [if_neg (by simp_all)] | rw [if_neg (by omega)]
            (repeat (with_reducible refine And.intro ?_ ?_; focus exact ob_))
            have hge : i1 = b.Fixtures.length := by first | omega | (simp only [IntKind.wrap_i64] at h4; omega)
            subst hge
            refine CallGi_flat (s_body_consistent b ) rfl ?_
            generalize hv3 : (d_body_consistent b) = v3
            simp only [go_sem, ite_andP, ite_orP, dec_true, dec_false]
            (repeat (with_reducible refine And.intro ?_ ?_; focus exact ob_))
            by_cases h6 : v3 = false
            · first | rw [if_pos h6] | rw [if_pos (by simp_all)] | rw [if_pos (by omega)]
              (repeat (with_reducible refine And.intro ?_ ?_; focus exact ob_))
              have hd : d_body_Validate b = 14 := by first | with_reducible rfl | (unfold d_body_Validate; exact hd_)
              try rw [hd]
              try simp only [go_sem, ite_andP, ite_orP, dec_true, dec_false]
              all_goals exact fin_
            · first | rw [if_neg h6] | rw [if_neg (by simp_all)] | rw [if_neg (by omega)]
              (repeat (with_reducible refine And.intro ?_ ?_; focus exact ob_))
              have hd : d_body_Validate b = 0 := by first | with_reducible rfl | (unfold d_body_Validate; exact hd_)
              try rw [hd]
              try simp only [go_sem, ite_andP, ite_orP, dec_true, dec_false]
              all_goals exact fin_
def d_joint_numbersInRange_L1 (j : Joint) (i1 : Nat) (s1 : Unit) : (Unit) ⊕ (Bool) := if (inR ([j.Impulses.I0, j.Impulses.I1, j.Impulses.I2, j.Impulses.I3].getD i1 0) (-536870911) 536870911) = false then (.inr false) else (.inl ())
def d_joint_numbersInRange_L2 (j : Joint) (i2 : Nat) (s2 : Unit) : (Unit) ⊕ (Bool) := if (inR ([j.Impulses.I0, j.Impulses.I1, j.Impulses.I2, j.Impulses.I3].getD i2 0) (-536870911) 536870911) = false then (.inr false) else (.inl ())
def d_joint_numbersInRange (j : Joint) : Bool := if (j.Kind == 5) = true then (let v1 := (d_joint_limitRange j.Kind); (match itrE (d_joint_numbersInRange_L1 j) 4 () with | .inr r => r | .inl s1 => let v4 := (d_joint_pointInRange j.AnchorA 268435456); let v5 := (d_joint_pointInRange j.AnchorB 1048576); (((((((((((inR j.ID 1 1099511627776) && v4) && v5) && (inR j.ReferenceAngle (-205888) 205887)) && (inR j.Lower v1.1 v1.2)) && (inR j.Upper v1.1 v1.2)) && (decide (j.Lower ≤ j.Upper))) && (inR j.MotorSpeed (-16777216) 16777216)) && (inR j.MaxForce 0 536870911)) && (inR j.Softness 0 536870911)) && (inR j.BreakForce 0 536870911)))) else (let v13 := (d_joint_limitRange j.Kind); (match itrE (d_joint_numbersInRange_L2 j) 4 () with | .inr r => r | .inl s2 => let v16 := (d_joint_pointInRange j.AnchorA 1048576); let v17 := (d_joint_pointInRange j.AnchorB 1048576); (((((((((((inR j.ID 1 1099511627776) && v16) && v17) && (inR j.ReferenceAngle (-205888) 205887)) && (inR j.Lower v13.1 v13.2)) && (inR j.Upper v13.1 v13.2)) && (decide (j.Lower ≤ j.Upper))) && (inR j.MotorSpeed (-16777216) 16777216)) && (inR j.MaxForce 0 536870911)) && (inR j.Softness 0 536870911)) && (inR j.BreakForce 0 536870911))))
theorem s_joint_numbersInRange (j : Joint)  : CallsA Tryz.prog F_joint_numbersInRange [.agg j.enc] [] (.sc (.bool (d_joint_numbersInRange j))) [] := by
  refine en1 hm shOk Tryz.func100 rfl rfl ?_
  simp only [go_sem, ite_andP, ite_orP, dec_true, dec_false]
  (repeat (with_reducible refine And.intro ?_ ?_; focus exact ob_))
  by_cases h1 : (j.Kind == 5) = true
  · first | rw [if_pos h1] | rw [if_pos (by simp_all)] | rw [if_pos (by omega)]
    (repeat (with_reducible refine And.intro ?_ ?_; focus exact ob_))
    refine CallGi_flat (s_joint_limitRange j.Kind ) rfl ?_
    generalize hv1 : (d_joint_limitRange j.Kind) = v1
    simp only [go_sem, ite_andP, ite_orP, dec_true, dec_false]
    (repeat (with_reducible refine And.intro ?_ ?_; focus exact ob_))
    refine Wpi_loop hm (ι := {p : Nat × Unit // p.1 ≤ 4 ∧ itrE (d_joint_numbersInRange_L1 j) p.1 () = .inl p.2}) (fun i => [(1, .share, .ptr 32 0 0 1), (3, .share, .sc (.int .i64 268435456)), (4, .share, .sc (.int .i64 v1.1)), (5, .share, .sc (.int .i64 v1.2)), (18, .share, .agg [.sc (.int .i64 j.Impulses.I0), .sc (.int .i64 j.Impulses.I1), .sc (.int .i64 j.Impulses.I2), .sc (.int .i64 j.Impulses.I3)]), (19, .share, .sc (.int .i64 (i.1.1 : Int)))]) (fun i => [(32, .box [.sc (.int .i64 j.ID), .sc (.int .i64 j.Kind), .sc (.int .i64 j.BodyA), .sc (.int .i64 j.BodyB), .sc (.int .i64 j.AnchorA.X), .sc (.int .i64 j.AnchorA.Y), .sc (.int .i64 j.AnchorB.X), .sc (.int .i64 j.AnchorB.Y), .sc (.int .i64 j.Axis.X), .sc (.int .i64 j.Axis.Y), .sc (.int .i64 j.ReferenceAngle), .sc (.bool j.EnableLimit), .sc (.int .i64 j.Lower), .sc (.int .i64 j.Upper), .sc (.bool j.EnableMotor), .sc (.int .i64 j.MotorSpeed), .sc (.int .i64 j.MaxForce), .sc (.int .i64 j.Softness), .sc (.int .i64 j.BreakForce), .sc (.bool j.CollideConnected), .sc (.int .i64 j.Impulses.I0), .sc (.int .i64 j.Impulses.I1), .sc (.int .i64 j.Impulses.I2), .sc (.int .i64 j.Impulses.I3)])]) (fun i => 4 - i.1.1) ⟨(0, ()), by omega, rfl⟩ ?_ ?_
    · refine weakE_ [] [] ?_
      simp only [go_sem, ite_andP, ite_orP, dec_true, dec_false, itr_zero]
      all_goals exact fin_
    · rintro ⟨⟨i1, s1⟩, hi1, hs1⟩
      replace hi1 : i1 ≤ 4 := hi1
      replace hs1 : itrE (d_joint_numbersInRange_L1 j) i1 () = .inl s1 := hs1
      simp only [go_sem, ite_andP, ite_orP, dec_true, dec_false]
      (repeat (with_reducible refine And.intro ?_ ?_; focus exact ob_))
      by_cases h2 : (i1 : Int) < 4
      · first | rw [if_pos h2] | rw [if_pos (by simp_all)] | rw [if_pos (by omega)]
        have hlt1 : i1 < 4 := by first | omega | (simp only [IntKind.wrap_i64] at h2; omega)
        (repeat (with_reducible refine And.intro ?_ ?_; focus exact ob_))
        rw [getD4 (show i1 < 4 by omega)]
        refine CallGi_flat (s_joint_inRange ([j.Impulses.I0, j.Impulses.I1, j.Impulses.I2, j.Impulses.I3].getD i1 0) (-536870911) 536870911 ) rfl ?_
        simp only [go_sem, ite_andP, ite_orP, dec_true, dec_false]
        (repeat (with_reducible refine And.intro ?_ ?_; focus exact ob_))
        by_cases h3 : (inR ([j.Impulses.I0, j.Impulses.I1, j.Impulses.I2, j.Impulses.I3].getD i1 0) (-536870911) 536870911) = false
        · first | rw [if_pos h3] | rw [if_pos (by simp_all)] | rw [if_pos (by omega)]
          (repeat (with_reducible refine And.intro ?_ ?_; focus exact ob_))
          have e1 : itrE (d_joint_numbersInRange_L1 j) (i1 + 1) () = .inr false := itrE_inl hs1 (by first | with_reducible rfl | (unfold d_joint_numbersInRange_L1; exact hd_))
          replace e1 := itrE_stop e1 (show i1 + 1 ≤ 4 by omega)
          have hd : d_joint_numbersInRange j = false := by first | with_reducible rfl | (unfold d_joint_numbersInRange; exact hd_)
          try rw [hd]
          try simp only [go_sem, ite_andP, ite_orP, dec_true, dec_false]
          all_goals exact fin_
        · first | rw [if_neg h3] | rw [if_neg (by simp_all)] | rw [if_neg (by omega)]
          (repeat (with_reducible refine And.intro ?_ ?_; focus exact ob_))
          have hn : itrE (d_joint_numbersInRange_L1 j) (i1 + 1) () = .inl () := itrE_inl hs1 (by first | with_reducible rfl | (unfold d_joint_numbersInRange_L1; exact hd_))
          refine loop_next ⟨(i1 + 1, ()), by omega, hn⟩ (by show 4 - (i1 + 1) < 4 - i1; omega) (weakE_ [] [] ?_)
          simp only [go_sem, ite_andP, ite_orP, dec_true, dec_false]
          all_goals exact fin_
      · first | rw [if_neg h2] | rw [if_neg (by simp_all)] | rw [if_neg (by omega)]
        (repeat (with_reducible refine And.intro ?_ ?_; focus exact ob_))
        have hge : i1 = 4 := by first | omega | (simp only [IntKind.wrap_i64] at h2; omega)
        subst hge
        refine CallGi_flat (s_joint_inRange j.ID 1 1099511627776 ) rfl ?_
        simp only [go_sem, ite_andP, ite_orP, dec_true, dec_false]
        (repeat (with_reducible refine And.intro ?_ ?_; focus exact ob_))
        refine CallGi_flat (s_joint_pointInRange j.AnchorA 268435456 ) rfl ?_
        generalize hv4 : (d_joint_pointInRange j.AnchorA 268435456) = v4
        simp only [go_sem, ite_andP, ite_orP, dec_true, dec_false]
        (repeat (with_reducible refine And.intro ?_ ?_; focus exact ob_))
        refine CallGi_flat (s_joint_pointInRange j.AnchorB 1048576 ) rfl ?_
        generalize hv5 : (d_joint_pointInRange j.AnchorB 1048576) = v5
        simp only [go_sem, ite_andP, ite_orP, dec_true, dec_false]
        (repeat (with_reducible refine And.intro ?_ ?_; focus exact ob_))
        refine CallGi_flat (s_joint_inRange j.ReferenceAngle (-205888) 205887 ) rfl ?_
        simp only [go_sem, ite_andP, ite_orP, dec_true, dec_false]
        (repeat (with_reducible refine And.intro ?_ ?_; focus exact ob_))
        refine CallGi_flat (s_joint_inRange j.Lower v1.1 v1.2 ) rfl ?_
        simp only [go_sem, ite_andP, ite_orP, dec_true, dec_false]
        (repeat (with_reducible refine And.intro ?_ ?_; focus exact ob_))
        refine CallGi_flat (s_joint_inRange j.Upper v1.1 v1.2 ) rfl ?_
        simp only [go_sem, ite_andP, ite_orP, dec_true, dec_false]
        (repeat (with_reducible refine And.intro ?_ ?_; focus exact ob_))
        refine CallGi_flat (s_joint_inRange j.MotorSpeed (-16777216) 16777216 ) rfl ?_
        simp only [go_sem, ite_andP, ite_orP, dec_true, dec_false]
        (repeat (with_reducible refine And.intro ?_ ?_; focus exact ob_))
        refine CallGi_flat (s_joint_inRange j.MaxForce 0 536870911 ) rfl ?_
        simp only [go_sem, ite_andP, ite_orP, dec_true, dec_false]
        (repeat (with_reducible refine And.intro ?_ ?_; focus exact ob_))
        refine CallGi_flat (s_joint_inRange j.Softness 0 536870911 ) rfl ?_
        simp only [go_sem, ite_andP, ite_orP, dec_true, dec_false]
        (repeat (with_reducible refine And.intro ?_ ?_; focus exact ob_))
        refine CallGi_flat (s_joint_inRange j.BreakForce 0 536870911 ) rfl ?_
        simp only [go_sem, ite_andP, ite_orP, dec_true, dec_false]
        (repeat (with_reducible refine And.intro ?_ ?_; focus exact ob_))
        have hd : d_joint_numbersInRange j = (((((((((((inR j.ID 1 1099511627776) && v4) && v5) && (inR j.ReferenceAngle (-205888) 205887)) && (inR j.Lower v1.1 v1.2)) && (inR j.Upper v1.1 v1.2)) && (decide (j.Lower ≤ j.Upper))) && (inR j.MotorSpeed (-16777216) 16777216)) && (inR j.MaxForce 0 536870911)) && (inR j.Softness 0 536870911)) && (inR j.BreakForce 0 536870911)) := by first | with_reducible rfl | (unfold d_joint_numbersInRange; exact hd_)
        try rw [hd]
        try simp only [go_sem, ite_andP, ite_orP, dec_true, dec_false]
        all_goals exact fin_
  · first | rw [if_neg h1] | rw [if_neg (by simp_all)] | rw [if_neg (by omega)]
    (repeat (with_reducible refine And.intro ?_ ?_; focus exact ob_))
    refine CallGi_flat (s_joint_limitRange j.Kind ) rfl ?_
    generalize hv13 : (d_joint_limitRange j.Kind) = v13
    simp only [go_sem, ite_andP, ite_orP, dec_true, dec_false]
    (repeat (with_reducible refine And.intro ?_ ?_; focus exact ob_))
    refine Wpi_loop hm (ι := {p : Nat × Unit // p.1 ≤ 4 ∧ itrE (d_joint_numbersInRange_L2 j) p.1 () = .inl p.2}) (fun i => [(1, .share, .ptr 32 0 0 1), (3, .share, .sc (.int .i64 1048576)), (4, .share, .sc (.int .i64 v13.1)), (5, .share, .sc (.int .i64 v13.2)), (18, .share, .agg [.sc (.int .i64 j.Impulses.I0), .sc (.int .i64 j.Impulses.I1), .sc (.int .i64 j.Impulses.I2), .sc (.int .i64 j.Impulses.I3)]), (19, .share, .sc (.int .i64 (i.1.1 : Int)))]) (fun i => [(32, .box [.sc (.int .i64 j.ID), .sc (.int .i64 j.Kind), .sc (.int .i64 j.BodyA), .sc (.int .i64 j.BodyB), .sc (.int .i64 j.AnchorA.X), .sc (.int .i64 j.AnchorA.Y), .sc (.int .i64 j.AnchorB.X), .sc (.int .i64 j.AnchorB.Y), .sc (.int .i64 j.Axis.X), .sc (.int .i64 j.Axis.Y), .sc (.int .i64 j.ReferenceAngle), .sc (.bool j.EnableLimit), .sc (.int .i64 j.Lower), .sc (.int .i64 j.Upper), .sc (.bool j.EnableMotor), .sc (.int .i64 j.MotorSpeed), .sc (.int .i64 j.MaxForce), .sc (.int .i64 j.Softness), .sc (.int .i64 j.BreakForce), .sc (.bool j.CollideConnected), .sc (.int .i64 j.Impulses.I0), .sc (.int .i64 j.Impulses.I1), .sc (.int .i64 j.Impulses.I2), .sc (.int .i64 j.Impulses.I3)])]) (fun i => 4 - i.1.1) ⟨(0, ()), by omega, rfl⟩ ?_ ?_
    · refine weakE_ [] [] ?_
      simp only [go_sem, ite_andP, ite_orP, dec_true, dec_false, itr_zero]
      all_goals exact fin_
    · rintro ⟨⟨i2, s2⟩, hi2, hs2⟩
      replace hi2 : i2 ≤ 4 := hi2
      replace hs2 : itrE (d_joint_numbersInRange_L2 j) i2 () = .inl s2 := hs2
      simp only [go_sem, ite_andP, ite_orP, dec_true, dec_false]
      (repeat (with_reducible refine And.intro ?_ ?_; focus exact ob_))
      by_cases h4 : (i2 : Int) < 4
      · first | rw [if_pos h4] | rw [if_pos (by simp_all)] | rw [if_pos (by omega)]
        have hlt2 : i2 < 4 := by first | omega | (simp only [IntKind.wrap_i64] at h4; omega)
        (repeat (with_reducible refine And.intro ?_ ?_; focus exact ob_))
        rw [getD4 (show i2 < 4 by omega)]
        refine CallGi_flat (s_joint_inRange ([j.Impulses.I0, j.Impulses.I1, j.Impulses.I2, j.Impulses.I3].getD i2 0) (-536870911) 536870911 ) rfl ?_
        simp only [go_sem, ite_andP, ite_orP, dec_true, dec_false]
        (repeat (with_reducible refine And.intro ?_ ?_; focus exact ob_))
        by_cases h5 : (inR ([j.Impulses.I0, j.Impulses.I1, j.Impulses.I2, j.Impulses.I3].getD i2 0) (-536870911) 536870911) = false
        · first | rw [if_pos h5] | rw [if_pos (by simp_all)] | rw [if_pos (by omega)]
          (repeat (with_reducible refine And.intro ?_ ?_; focus exact ob_))
          have e2 : itrE (d_joint_numbersInRange_L2 j) (i2 + 1) () = .inr false := itrE_inl hs2 (by first | with_reducible rfl | (unfold d_joint_numbersInRange_L2; exact hd_))
          replace e2 := itrE_stop e2 (show i2 + 1 ≤ 4 by omega)
          have hd : d_joint_numbersInRange j = false := by first | with_reducible rfl | (unfold d_joint_numbersInRange; exact hd_)
          try rw [hd]
          try simp only [go_sem, ite_andP, ite_orP, dec_true, dec_false]
          all_goals exact fin_
        · first | rw [if_neg h5] | rw [if_neg (by simp_all)] | rw [if_neg (by omega)]
          (repeat (with_reducible refine And.intro ?_ ?_; focus exact ob_))
          have hn : itrE (d_joint_numbersInRange_L2 j) (i2 + 1) () = .inl () := itrE_inl hs2 (by first | with_reducible rfl | (unfold d_joint_numbersInRange_L2; exact hd_))
          refine loop_next ⟨(i2 + 1, ()), by omega, hn⟩ (by show 4 - (i2 + 1) < 4 - i2; omega) (weakE_ [] [] ?_)
          simp only [go_sem, ite_andP, ite_orP, dec_true, dec_false]
          all_goals exact fin_
      · first | rw [if_neg h4] | rw [if_neg (by simp_all)] | rw [if_neg (by omega)]
        (repeat (with_reducible refine And.intro ?_ ?_; focus exact ob_))
        have hge : i2 = 4 := by first | omega | (simp only [IntKind.wrap_i64] at h4; omega)
        subst hge
        refine CallGi_flat (s_joint_inRange j.ID 1 1099511627776 ) rfl ?_
        simp only [go_sem, ite_andP, ite_orP, dec_true, dec_false]
        (repeat (with_reducible refine And.intro ?_ ?_; focus exact ob_))
        refine CallGi_flat (s_joint_pointInRange j.AnchorA 1048576 ) rfl ?_
        generalize hv16 : (d_joint_pointInRange j.AnchorA 1048576) = v16
        simp only [go_sem, ite_andP, ite_orP, dec_true, dec_false]
        (repeat (with_reducible refine And.intro ?_ ?_; focus exact ob_))
        refine CallGi_flat (s_joint_pointInRange j.AnchorB 1048576 ) rfl ?_
        generalize hv17 : (d_joint_pointInRange j.AnchorB 1048576) = v17
        simp only [go_sem, ite_andP, ite_orP, dec_true, dec_false]
        (repeat (with_reducible refine And.intro ?_ ?_; focus exact ob_))
        refine CallGi_flat (s_joint_inRange j.ReferenceAngle (-205888) 205887 ) rfl ?_
        simp only [go_sem, ite_andP, ite_orP, dec_true, dec_false]
        (repeat (with_reducible refine And.intro ?_ ?_; focus exact ob_))
        refine CallGi_flat (s_joint_inRange j.Lower v13.1 v13.2 ) rfl ?_
        simp only [go_sem, ite_andP, ite_orP, dec_true, dec_false]
        (repeat (with_reducible refine And.intro ?_ ?_; focus exact ob_))
        refine CallGi_flat (s_joint_inRange j.Upper v13.1 v13.2 ) rfl ?_
        simp only [go_sem, ite_andP, ite_orP, dec_true, dec_false]
        (repeat (with_reducible refine And.intro ?_ ?_; focus exact ob_))
        refine CallGi_flat (s_joint_inRange j.MotorSpeed (-16777216) 16777216 ) rfl ?_
        simp only [go_sem, ite_andP, ite_orP, dec_true, dec_false]
        (repeat (with_reducible refine And.intro ?_ ?_; focus exact ob_))
        refine CallGi_flat (s_joint_inRange j.MaxForce 0 536870911 ) rfl ?_
        simp only [go_sem, ite_andP, ite_orP, dec_true, dec_false]
        (repeat (with_reducible refine And.intro ?_ ?_; focus exact ob_))
        refine CallGi_flat (s_joint_inRange j.Softness 0 536870911 ) rfl ?_
        simp only [go_sem, ite_andP, ite_orP, dec_true, dec_false]
        (repeat (with_reducible refine And.intro ?_ ?_; focus exact ob_))
        refine CallGi_flat (s_joint_inRange j.BreakForce 0 536870911 ) rfl ?_
        simp only [go_sem, ite_andP, ite_orP, dec_true, dec_false]
        (repeat (with_reducible refine And.intro ?_ ?_; focus exact ob_))
        have hd : d_joint_numbersInRange j = (((((((((((inR j.ID 1 1099511627776) && v16) && v17) && (inR j.ReferenceAngle (-205888) 205887)) && (inR j.Lower v13.1 v13.2)) && (inR j.Upper v13.1 v13.2)) && (decide (j.Lower ≤ j.Upper))) && (inR j.MotorSpeed (-16777216) 16777216)) && (inR j.MaxForce 0 536870911)) && (inR j.Softness 0 536870911)) && (inR j.BreakForce 0 536870911)) := by first | with_reducible rfl | (unfold d_joint_numbersInRange; exact hd_)
        try rw [hd]
        try simp only [go_sem, ite_andP, ite_orP, dec_true, dec_false]
        all_goals exact fin_
def d_joint_Validate (j : Joint) : Int := if ((decide (j.Kind < 1)) || (decide (5 < j.Kind))) = true then (10) else (let v1 := (d_joint_numbersInRange j); if v1 = false then (6) else (let v2 := (d_joint_validBodies j); if v2 = false then (14) else (let v3 := (d_joint_inconsistent j); if v3 = true then (15) else (0))))
theorem s_joint_Validate (j : Joint)  : CallsA Tryz.prog F_joint_Validate [.agg j.enc] [] (.sc (.int .i64 (d_joint_Validate j))) [] := by
  refine en1 hm shOk Tryz.func50 rfl rfl ?_
  have := s_joint_numbersInRange
  have := s_joint_validBodies
  have := s_joint_inconsistent
  have := d_joint_Validate.eq_1 j
  exact walk_
end Go.Abs
end
section
namespace Go.Abs
open Go.Proofs
open Api
def d_world_validBodies_L1 (w : Api.World) (i1 : Nat) (s1 : Int) : (Int) ⊕ (Bool) := let v1 := (d_body_Validate (w.Bodies.getD i1 default)); if (((v1 != 0) || (decide (w.NextID ≤ (w.Bodies.getD i1 default).ID))) || (decide ((w.Bodies.getD i1 default).ID ≤ s1))) = true then (.inr false) else (.inl (w.Bodies.getD i1 default).ID)
def d_world_validBodies (w : Api.World) : Bool := (match itrE (d_world_validBodies_L1 w) w.Bodies.length 0 with | .inr r => r | .inl s1 => true)
theorem s_world_validBodies (w : Api.World) (hw : Wsm w) : CallsA Tryz.prog F_world_validBodies [.agg w.enc] [] (.sc (.bool (d_world_validBodies w))) [] := by
  have hw1 := hw.1
  refine en1 hm shOk Tryz.func27 rfl rfl ?_
  simp only [go_sem, ite_andP, ite_orP, dec_true, dec_false]
  (repeat (with_reducible refine And.intro ?_ ?_; focus exact ob_))
  refine Wpi_loop hm (ι := {p : Nat × Int // p.1 ≤ w.Bodies.length ∧ itrE (d_world_validBodies_L1 w) p.1 0 = .inl p.2}) (fun i => [(1, .share, .ptr 32 0 0 1), (3, .share, .sc (.int .i64 i.1.2)), (7, .share, encD 20 Body.enc default w.Bodies), (8, .share, .sc (.int .i64 (w.Bodies.length : Int))), (9, .share, .sc (.int .i64 (i.1.1 : Int)))]) (fun i => [(32, .box [.sc (.int .i64 w.Settings.TimeStep), .sc (.int .i64 w.Settings.Gravity.X), .sc (.int .i64 w.Settings.Gravity.Y), .sc (.int .i64 w.Settings.Iterations), .sc (.int .i64 w.Settings.SleepSteps), encD 20 Body.enc default w.Bodies, encD 24 Joint.enc default w.Joints, encD 7 Contact.enc default w.Contacts, encD 4 PairKey.enc default w.Overlaps, .sc (.int .i64 w.NextID), .sc (.int .i64 w.Frame)])]) (fun i => w.Bodies.length - i.1.1) ⟨(0, 0), by omega, rfl⟩ ?_ ?_
  · refine weakE_ [] [] ?_
    simp only [go_sem, ite_andP, ite_orP, dec_true, dec_false, itr_zero]
    all_goals exact fin_
  · rintro ⟨⟨i1, s1⟩, hi1, hs1⟩
    replace hi1 : i1 ≤ w.Bodies.length := hi1
    replace hs1 : itrE (d_world_validBodies_L1 w) i1 0 = .inl s1 := hs1
    simp only [go_sem, ite_andP, ite_orP, dec_true, dec_false]
    (repeat (with_reducible refine And.intro ?_ ?_; focus exact ob_))
    by_cases h1 : (i1 : Int) < (w.Bodies.length : Int)
    · first | rw [if_pos h1] | rw [if_pos (by simp_all)] | rw [if_pos (by omega)]
      have hlt1 : i1 < w.Bodies.length := by first | omega | (simp only [IntKind.wrap_i64] at h1; omega)
      (repeat (with_reducible refine And.intro ?_ ?_; focus exact ob_))
      refine CallGi_flat (s_body_Validate (w.Bodies.getD i1 default) (by (first | exact hw.2.2.2.2.1 _ (mem_getD _ (by omega)) | exact hw.1 | assumption | omega | (simp_all; done) | (simp_all; omega)))) rfl ?_
      generalize hv1 : (d_body_Validate (w.Bodies.getD i1 default)) = v1
      simp only [go_sem, ite_andP, ite_orP, dec_true, dec_false]
      (repeat (with_reducible refine And.intro ?_ ?_; focus exact ob_))
      by_cases h2 : (((v1 != 0) || (decide (w.NextID ≤ (w.Bodies.getD i1 default).ID))) || (decide ((w.Bodies.getD i1 default).ID ≤ s1))) = true
      · first | rw [if_pos h2] | rw [if_pos (by simp_all)] | rw [if_pos (by omega)]
        (repeat (with_reducible refine And.intro ?_ ?_; focus exact ob_))
        have e1 : itrE (d_world_validBodies_L1 w) (i1 + 1) 0 = .inr false := itrE_inl hs1 (by first | with_reducible rfl | (unfold d_world_validBodies_L1; exact hd_))
        replace e1 := itrE_stop e1 (show i1 + 1 ≤ w.Bodies.length by omega)
        have hd : d_world_validBodies w = false := by first | with_reducible rfl | (unfold d_world_validBodies; exact hd_)
        try rw [hd]
        try simp only [go_sem, ite_andP, ite_orP, dec_true, dec_false]
        all_goals exact fin_
      · first | rw [if_neg h2] | rw [if_neg (by simp_all)] | rw [if_neg (by omega)]
        (repeat (with_reducible refine And.intro ?_ ?_; focus exact ob_))
        have hn : itrE (d_world_validBodies_L1 w) (i1 + 1) 0 = .inl (w.Bodies.getD i1 default).ID := itrE_inl hs1 (by first | with_reducible rfl | (unfold d_world_validBodies_L1; exact hd_))
        refine loop_next ⟨(i1 + 1, (w.Bodies.getD i1 default).ID), by omega, hn⟩ (by show w.Bodies.length - (i1 + 1) < w.Bodies.length - i1; omega) (weakE_ [] [] ?_)
        simp only [go_sem, ite_andP, ite_orP, dec_true, dec_false]
        all_goals exact fin_
    · first | rw [if_neg h1] | rw [if_neg (by simp_all)] | rw [if_neg (by omega)]
      (repeat (with_reducible refine And.intro ?_ ?_; focus exact ob_))
      have hge : i1 = w.Bodies.length := by first | omega | (simp only [IntKind.wrap_i64] at h1; omega)
      subst hge
      have hd : d_world_validBodies w = true := by first | with_reducible rfl | (unfold d_world_validBodies; exact hd_)
      try rw [hd]
      try simp only [go_sem, ite_andP, ite_orP, dec_true, dec_false]
      all_goals exact fin_
def d_world_validJoints_L1 (w : Api.World) (i1 : Nat) (s1 : Int) : (Int) ⊕ (Bool) := let v1 := (d_joint_Validate (w.Joints.getD i1 default)); let v2 := (d_world_bodiesExist w (w.Joints.getD i1 default)); let v3 := (findB w (w.Joints.getD i1 default).ID); if (((((v1 != 0) || (decide (w.NextID ≤ (w.Joints.getD i1 default).ID))) || (decide ((w.Joints.getD i1 default).ID ≤ s1))) || (!v2)) || (decide (0 ≤ v3))) = true then (.inr false) else (.inl (w.Joints.getD i1 default).ID)
def d_world_validJoints (w : Api.World) : Bool := (match itrE (d_world_validJoints_L1 w) w.Joints.length 0 with | .inr r => r | .inl s1 => true)
theorem s_world_validJoints (w : Api.World) (hw : Wsm w) : CallsA Tryz.prog F_world_validJoints [.agg w.enc] [] (.sc (.bool (d_world_validJoints w))) [] := by
  have hw2 := hw.2.1; have hw1 := hw.1
  refine en1 hm shOk Tryz.func28 rfl rfl ?_
  simp only [go_sem, ite_andP, ite_orP, dec_true, dec_false]
  (repeat (with_reducible refine And.intro ?_ ?_; focus exact ob_))
  refine Wpi_loop hm (ι := {p : Nat × Int // p.1 ≤ w.Joints.length ∧ itrE (d_world_validJoints_L1 w) p.1 0 = .inl p.2}) (fun i => [(1, .share, .ptr 32 0 0 1), (3, .share, .sc (.int .i64 i.1.2)), (7, .share, encD 24 Joint.enc default w.Joints), (8, .share, .sc (.int .i64 (w.Joints.length : Int))), (9, .share, .sc (.int .i64 (i.1.1 : Int)))]) (fun i => [(32, .box [.sc (.int .i64 w.Settings.TimeStep), .sc (.int .i64 w.Settings.Gravity.X), .sc (.int .i64 w.Settings.Gravity.Y), .sc (.int .i64 w.Settings.Iterations), .sc (.int .i64 w.Settings.SleepSteps), encD 20 Body.enc default w.Bodies, encD 24 Joint.enc default w.Joints, encD 7 Contact.enc default w.Contacts, encD 4 PairKey.enc default w.Overlaps, .sc (.int .i64 w.NextID), .sc (.int .i64 w.Frame)])]) (fun i => w.Joints.length - i.1.1) ⟨(0, 0), by omega, rfl⟩ ?_ ?_
  · refine weakE_ [] [] ?_
    simp only [go_sem, ite_andP, ite_orP, dec_true, dec_false, itr_zero]
    all_goals exact fin_
  · rintro ⟨⟨i1, s1⟩, hi1, hs1⟩
    replace hi1 : i1 ≤ w.Joints.length := hi1
    replace hs1 : itrE (d_world_validJoints_L1 w) i1 0 = .inl s1 := hs1
    simp only [go_sem, ite_andP, ite_orP, dec_true, dec_false]
    (repeat (with_reducible refine And.intro ?_ ?_; focus exact ob_))
    by_cases h1 : (i1 : Int) < (w.Joints.length : Int)
    · first | rw [if_pos h1] | rw [if_pos (by simp_all)] | rw [if_pos (by omega)]
      have hlt1 : i1 < w.Joints.length := by first | omega | (simp only [IntKind.wrap_i64] at h1; omega)
      (repeat (with_reducible refine And.intro ?_ ?_; focus exact ob_))
      refine CallGi_flat (s_joint_Validate (w.Joints.getD i1 default) ) rfl ?_
      generalize hv1 : (d_joint_Validate (w.Joints.getD i1 default)) = v1
      simp only [go_sem, ite_andP, ite_orP, dec_true, dec_false]
      (repeat (with_reducible refine And.intro ?_ ?_; focus exact ob_))
      refine CallGi_flat (s_world_bodiesExist w (w.Joints.getD i1 default) (by (first | exact hw.1 | assumption | omega | (simp_all; done) | (simp_all; omega)))) rfl ?_
      generalize hv2 : (d_world_bodiesExist w (w.Joints.getD i1 default)) = v2
      simp only [go_sem, ite_andP, ite_orP, dec_true, dec_false]
      (repeat (with_reducible refine And.intro ?_ ?_; focus exact ob_))
      have p2 := findB_lt w (w.Joints.getD i1 default).ID
      refine CallGi_flat (s_world_FindBody w (w.Joints.getD i1 default).ID (by (first | exact hw.1 | assumption | omega | (simp_all; done)))) rfl ?_
      generalize hv3 : (findB w (w.Joints.getD i1 default).ID) = v3 at *
      simp only [go_sem, ite_andP, ite_orP, dec_true, dec_false]
      (repeat (with_reducible refine And.intro ?_ ?_; focus exact ob_))
      by_cases h3 : (((((v1 != 0) || (decide (w.NextID ≤ (w.Joints.getD i1 default).ID))) || (decide ((w.Joints.getD i1 default).ID ≤ s1))) || (!v2)) || (decide (0 ≤ v3))) = true
      · first | rw [if_pos h3] | rw [if_pos (by simp_all)] | rw [if_pos (by omega)]
        (repeat (with_reducible refine And.intro ?_ ?_; focus exact ob_))
        have e1 : itrE (d_world_validJoints_L1 w) (i1 + 1) 0 = .inr false := itrE_inl hs1 (by first | with_reducible rfl | (unfold d_world_validJoints_L1; exact hd_))
        replace e1 := itrE_stop e1 (show i1 + 1 ≤ w.Joints.length by omega)
        have hd : d_world_validJoints w = false := by first | with_reducible rfl | (unfold d_world_validJoints; exact hd_)
        try rw [hd]
        try simp only [go_sem, ite_andP, ite_orP, dec_true, dec_false]
        all_goals exact fin_
      · first | rw [if_neg h3] | rw [if_neg (by simp_all)] | rw [if_neg (by omega)]
        (repeat (with_reducible refine And.intro ?_ ?_; focus exact ob_))
        have hn : itrE (d_world_validJoints_L1 w) (i1 + 1) 0 = .inl (w.Joints.getD i1 default).ID := itrE_inl hs1 (by first | with_reducible rfl | (unfold d_world_validJoints_L1; exact hd_))
        refine loop_next ⟨(i1 + 1, (w.Joints.getD i1 default).ID), by omega, hn⟩ (by show w.Joints.length - (i1 + 1) < w.Joints.length - i1; omega) (weakE_ [] [] ?_)
        simp only [go_sem, ite_andP, ite_orP, dec_true, dec_false]
        all_goals exact fin_
    · first | rw [if_neg h1] | rw [if_neg (by simp_all)] | rw [if_neg (by omega)]
      (repeat (with_reducible refine And.intro ?_ ?_; focus exact ob_))
      have hge : i1 = w.Joints.length := by first | omega | (simp only [IntKind.wrap_i64] at h1; omega)
      subst hge
      have hd : d_world_validJoints w = true := by first | with_reducible rfl | (unfold d_world_validJoints; exact hd_)
      try rw [hd]
      try simp only [go_sem, ite_andP, ite_orP, dec_true, dec_false]
      all_goals exact fin_
end Go.Abs
end
section
namespace Go.Abs
open Go.Proofs
open Api
def encLK (l : List PairKey) : List AV := [encD 4 PairKey.enc default l]
attribute [go_sem] encLK
theorem s_Grow_PairKey_pos (n : Nat) (h0 : 0 < n) (hn : n ≤ 4194304) : CallsA Tryz.prog F_slices_Grow_PairKey [.sc (.slice none 0 0), .sc (.int .i64 n)] [] (.sl 1 0 0 n) [(1, .arr 4 ⟨n, fun _ => PairKey.zero⟩)] := by
  have w1 : IntKind.i64.wrap (0 - 0) = 0 := rfl
  have w2 : IntKind.i64.wrap ((n : Int) - 0) = n := by rw [IntKind.wrap_i64]; omega
  refine enO1 hm shOk Tryz.func111 rfl rfl ?_
  simp only [go_sem, ite_andP, ite_orP, dec_true, dec_false]
  rw [if_neg (by omega)]
  simp only [w1, w2]
  rw [if_pos (by omega)]
  refine ⟨ok_, ?_⟩
  refine ⟨by omega, ?_⟩
  simp only [Int.toNat_natCast]
  refine retW_of [.share] [(1, 368)] [] rfl rfl (by simp) (by simp) (by simp) ?_
  simp only [go_sem, Int.toNat_natCast]
  simp
theorem s_slices_Grow_PairKey (n : Nat) (hn : n ≤ 4194304) : CallsA Tryz.prog F_slices_Grow_PairKey [.sc (.slice none 0 0), .sc (.int .i64 n)] [] (.sl 1 0 0 0) [(1, .arr 4 (encQ PairKey.enc default []))] := by
  rcases Nat.eq_zero_or_pos n with rfl | h0
  · have w1 : IntKind.i64.wrap (0 - 0) = 0 := rfl
    refine enO1 hm shOk Tryz.func111 rfl rfl ?_
    simp only [go_sem, ite_andP, ite_orP, dec_true, dec_false]
    rw [if_neg (by omega)]
    simp only [w1]
    rw [if_neg (by decide)]
    refine retW_of [.adopt] [] [1] rfl rfl (by simp) (by simp [assoc]) (by simp) ?_
    simp only [go_sem]
  · exact (s_Grow_PairKey_pos n h0 hn).shrink rfl _
def sumLK (L : List (List PairKey)) (k : Nat) : Nat := ((L.take k).flatten).length
theorem sumLK_succ {L : List (List PairKey)} {k : Nat} (h : k < L.length) : sumLK L (k + 1) = sumLK L k + (L.getD k default).length := by
  unfold sumLK; rw [take_snoc default h]; simp
theorem sumLK_le (L : List (List PairKey)) (k : Nat) : sumLK L k ≤ L.flatten.length := by
  unfold sumLK
  have : L.flatten = (L.take k).flatten ++ (L.drop k).flatten := by rw [← List.flatten_append, List.take_append_drop]
  rw [this, List.length_append]; omega
theorem s_slices_Concat_PairKey (L : List (List PairKey)) (hL : L.flatten.length ≤ 4194304) (hl : L.length ≤ 1000) : CallsA Tryz.prog F_slices_Concat_PairKey [encD 1 encLK default L] [] (encD 4 PairKey.enc default L.flatten) [] := by
  refine en1 hm shOk Tryz.func56 rfl rfl ?_
  simp only [go_sem, ite_andP, ite_orP, dec_true, dec_false]
  refine Wpi_loop hm (ι := {i : Nat // i ≤ L.length}) (fun i => [(0, .share, encD 1 encLK default L), (3, .share, .sc (.int .i64 (sumLK L i.1))), (9, .share, encD 1 encLK default L), (10, .share, .sc (.int .i64 L.length)), (11, .share, .sc (.int .i64 i.1))])
    (fun i => []) (fun i => L.length - i.1) ⟨0, by omega⟩ ?_ ?_
  · refine weakE_ [] [] ?_
    simp only [go_sem]
    simp [sumLK]
  · rintro ⟨i, hi⟩
    have hs := sumLK_le L i
    simp only [go_sem, ite_andP, ite_orP, dec_true, dec_false]
    by_cases hlt : (i : Int) < L.length
    · rw [if_pos hlt]
      have hlt : i < L.length := by omega
      have hs2 := sumLK_le L (i + 1)
      have he := sumLK_succ hlt
      refine ⟨ok_, ?_⟩
      have hw : IntKind.i64.wrap ((sumLK L i : Int) + ((L.getD i default).length : Int)) = (sumLK L (i + 1) : Int) := by rw [IntKind.wrap_i64, he]; omega
      rw [hw, if_neg (by omega)]
      refine loop_next ⟨i + 1, by omega⟩ (by show L.length - (i + 1) < L.length - i; omega) (weakE_ [] [] ?_)
      simp only [go_sem]
      exact (by rw [IntKind.wrap_i64]; omega)
    · rw [if_neg hlt]
      obtain rfl : i = L.length := by omega
      have hfull : sumLK L L.length = L.flatten.length := by unfold sumLK; rw [List.take_length]
      refine CallGi_obj [true, true] [(1, 7)] (s_slices_Grow_PairKey (sumLK L L.length) (by omega)) (by simp) (by simp) (by simp) (by simp) ?_
      simp only [go_sem]
      refine Wpi_loop hm (ι := {i : Nat // i ≤ L.length}) (fun i => [(6, .share, .sl 7 0 (sumLK L i.1) (sumLK L i.1)), (25, .share, encD 1 encLK default L), (26, .share, .sc (.int .i64 L.length)), (27, .share, .sc (.int .i64 i.1))])
        (fun i => [(7, .arr 4 (encQ PairKey.enc default (L.take i.1).flatten))]) (fun i => L.length - i.1) ⟨0, by omega⟩ ?_ ?_
      · refine weakE_ [] [] ?_
        simp only [go_sem]
        simp [sumLK, List.take_zero, go_sem]
      · rintro ⟨i, hi⟩
        have hs := sumLK_le L i
        simp only [go_sem, ite_andP, ite_orP, dec_true, dec_false]
        by_cases hlt : (i : Int) < L.length
        · rw [if_pos hlt]
          have hlt : i < L.length := by omega
          have hs2 := sumLK_le L (i + 1)
          have he := sumLK_succ hlt
          have hm0 : (L.take i).flatten.length = sumLK L i := rfl
          refine ⟨ok_, ?_⟩
          refine ⟨⟨by omega, by omega, by omega, by simp only [maxLen]; omega⟩, ?_⟩
          refine loop_next ⟨i + 1, by omega⟩ (by show L.length - (i + 1) < L.length - i; omega) (weakE_ [] [] ?_)
          simp only [go_sem]
          all_goals ((repeat' (with_reducible apply And.intro)) <;> first | (rw [IntKind.wrap_i64]; omega) | exact he.symm | (rw [he, hm0]; done) | (rw [he]; done) | exact q_same (by rw [take_snoc default hlt]; simp) | omega)
        · rw [if_neg hlt]
          obtain rfl : i = L.length := by omega
          simp only [go_sem, List.take_length]
          exact ⟨hfull, by rw [hfull]; exact avle_refl _⟩
theorem l_all_succ {α : Type} {l : List α} {p : α → Bool} {i : Nat} (d : α) (h : (l.take i).all p = true) (hi : i < l.length) (hp : p (l.getD i d) = true) : (l.take (i + 1)).all p = true := by
  rw [take_snoc d hi, List.all_append, h]; simpa using hp
theorem l_all_false {α : Type} {l : List α} {p : α → Bool} {i : Nat} (d : α) (hi : i < l.length) (hp : p (l.getD i d) = false) : l.all p = false := by
  rw [List.all_eq_false]; exact ⟨_, mem_getD d hi, by rw [hp]; simp⟩
theorem l_all_end {α : Type} {l : List α} {p : α → Bool} (h : (l.take l.length).all p = true) : l.all p = true := by rwa [List.take_length] at h
def fixOut (w : Api.World) (k : PairKey) : Bool := !(d_world_fixturesExist w k)
theorem s_world_validContacts_f1 (w : Api.World) (k : PairKey) (hw : w.Bodies.length ≤ 1048576) : CallsA Tryz.prog F_world_validContacts_f1 [.agg k.enc, .ptr 32 0 0 1] [(32, .box w.enc)] (.sc (.bool (fixOut w k))) [(32, .box w.enc)] := by
  refine enO1 hm shOk Tryz.func57 rfl rfl ?_
  simp only [go_sem, ite_andP, ite_orP, dec_true, dec_false]
  refine CallGi_flat (s_world_fixturesExist w k hw) rfl ?_
  simp only [go_sem, ite_andP, ite_orP, dec_true, dec_false]
  refine retW_of [.share] [] [] rfl rfl (by simp [go_sem]) (by simp [assoc, go_sem]) (by simp [go_sem]) ?_
  simp only [go_sem, fixOut]
def keysC (w : Api.World) : List PairKey := w.Contacts.map fun c => c.Key
def okContacts (w : Api.World) : Bool := w.Contacts.all (fun c => d_world_validManifold c.Manifold) && d_broadphase_ValidKeys (keysC w) && d_broadphase_ValidKeys w.Overlaps && !((keysC w ++ w.Overlaps).any (fixOut w))
theorem okO_w (w : Api.World) : okO [(32, .box w.enc)] := by
  refine ⟨by simp [go_sem], ?_⟩
  simp [go_sem, idsL, AV.ids]
theorem s_world_validContacts (w : Api.World) (hw : Wsm w) : CallsA Tryz.prog F_world_validContacts [.agg w.enc] [] (.sc (.bool (okContacts w))) [] := by
  obtain ⟨w1, w2, w3, w4, w5, w6⟩ := hw
  refine en1 hm shOk Tryz.func29 rfl rfl ?_
  simp only [go_sem, ite_andP, ite_orP, dec_true, dec_false]
  refine Wpi_loop hm (ι := {i : Nat // i ≤ w.Contacts.length ∧ (w.Contacts.take i).all (fun c => d_world_validManifold c.Manifold) = true}) (fun i => [(1, .share, .ptr 32 0 0 1), (3, if i.1 = 0 then .adopt else .share, .sl 7 0 i.1 i.1), (7, .share, encD 7 Contact.enc default w.Contacts), (8, .share, .sc (.int .i64 w.Contacts.length)), (9, .share, .sc (.int .i64 i.1))])
    (fun i => [(32, .box w.enc), (7, .arr 4 (encQ PairKey.enc default ((w.Contacts.take i.1).map fun c => c.Key)))]) (fun i => w.Contacts.length - i.1) ⟨0, by omega, rfl⟩ ?_ ?_
  · refine weakE_ [] [7] ?_
    simp only [go_sem, List.take_zero, List.map_nil]
    try simp
  · rintro ⟨i, hi, ht⟩
    simp only [go_sem, ite_andP, ite_orP, dec_true, dec_false]
    by_cases hlt : (i : Int) < w.Contacts.length
    · rw [if_pos hlt]
      have hlt : i < w.Contacts.length := by omega
      have hmm := mem_getD default hlt
      refine ⟨ok_, ?_⟩
      refine CallGi_flat (s_world_validManifold (w.Contacts.getD i default).Manifold (w6 _ hmm)) rfl ?_
      simp only [go_sem, ite_andP, ite_orP, dec_true, dec_false]
      cases hv : d_world_validManifold (w.Contacts.getD i default).Manifold with
      | false =>
        rw [if_pos rfl]
        unfold okContacts
        have := l_all_false (p := fun c : Contact => d_world_validManifold c.Manifold) default hlt hv
        rw [this]; rfl
      | true =>
        rw [if_neg (by simp)]
        have hlen : (List.map (fun c : Contact => c.Key) (List.take i w.Contacts)).length = i := by simp; omega
        refine ⟨⟨by omega, by omega, by simp only [maxLen]; omega⟩, ?_⟩
        refine loop_next ⟨i + 1, by omega, l_all_succ default ht hlt hv⟩ (by show w.Contacts.length - (i + 1) < w.Contacts.length - i; omega) (weakE_ [] [] ?_)
        simp only [go_sem]
        refine ⟨by omega, (by rw [IntKind.wrap_i64]; omega), q_app1 (w.Contacts.getD i default).Key rfl ?_⟩
        rw [take_snoc default hlt, List.map_append]; rfl
    · rw [if_neg hlt]
      obtain rfl : i = w.Contacts.length := by omega
      have hall := l_all_end ht
      have hk : (List.map (fun c : Contact => c.Key) (List.take w.Contacts.length w.Contacts)) = keysC w := by rw [List.take_length]; rfl
      have hkl : (keysC w).length = w.Contacts.length := by simp [keysC]
      simp only [hk]
      refine CallGi_keep (s_broadphase_ValidKeys (keysC w) (by omega)) rfl ?_ ?_
      · simp only [argsC, go_sem, hkl]
      simp only [go_sem, ite_andP, ite_orP, dec_true, dec_false]
      refine CallGi_flat (s_broadphase_ValidKeys w.Overlaps w4) rfl ?_
      simp only [go_sem, ite_andP, ite_orP, dec_true, dec_false, hk, hkl]
      have hok : okContacts w = (d_broadphase_ValidKeys (keysC w) && d_broadphase_ValidKeys w.Overlaps && !((keysC w ++ w.Overlaps).any (fixOut w))) := by
        unfold okContacts; rw [hall, Bool.true_and]
      rw [hok]
      cases d_broadphase_ValidKeys (keysC w) with
      | false => rfl
      | true =>
        cases d_broadphase_ValidKeys w.Overlaps with
        | false => rfl
        | true =>
          rw [if_neg (by simp)]
          have hC := s_slices_Concat_PairKey [keysC w, w.Overlaps] (by simp; omega) (by simp)
          have hflat : [keysC w, w.Overlaps].flatten = keysC w ++ w.Overlaps := by simp
          rw [hflat] at hC
          refine CallGi_thaw hC ?_
          simp only [argsC, go_sem, ite_andP, ite_orP, dec_true, dec_false, hk, hkl]
          refine ⟨avle_lit2 (fun _ _ => rfl) (by simp [encLK, encD, hkl]) rfl rfl, ?_⟩
          refine CallGi_obj [true, true] [] (s_slices_ContainsFunc_PairKey (keysC w ++ w.Overlaps) F_world_validContacts_f1 [] [.ptr 32 0 0 1] [(32, .box w.enc)] (fixOut w) (by rw [List.length_append]; omega) (okO_w w) (by simp [go_sem, AV.ids]) (fun k _ => s_world_validContacts_f1 w k w1)) (by simp) (by simp) (by simp) (by simp [go_sem]) ?_
          simp only [go_sem, ite_andP, ite_orP, dec_true, dec_false, hk, hkl]
end Go.Abs
end
section
namespace Go.Abs
open Go.Proofs
open Api
def d_world_ValidateSettings (s : Settings) : Int := if ((((!(inR s.TimeStep 64 8192)) || (!((inR s.Gravity.X (-16777216) 16777216) && (inR s.Gravity.Y (-16777216) 16777216)))) || (!(inR s.Iterations 1 32))) || (!(inR s.SleepSteps 0 1048576))) = true then (6) else (0)
theorem s_world_ValidateSettings (s : Settings)  : CallsA Tryz.prog F_world_ValidateSettings [.agg s.enc] [] (.sc (.int .i64 (d_world_ValidateSettings s))) [] := by
  refine en1 hm shOk Tryz.func25 rfl rfl ?_
  have := s_world_in
  have := d_world_ValidateSettings.eq_1 s
  exact walk_
def d_world_Validate (w : Api.World) : Int := let v1 := (d_world_ValidateSettings w.Settings); if (v1 != 0) = true then (17) else (if ((((decide (32 < (w.Bodies.length : Int))) || (decide (32 < (w.Joints.length : Int)))) || (decide (8192 < (w.Contacts.length : Int)))) || (decide (8192 < (w.Overlaps.length : Int)))) = true then (11) else (if ((!(inR w.NextID 1 1099511627776)) || (!(inR w.Frame 0 1099511627776))) = true then (6) else (let v4 := (d_world_validBodies w); if v4 = false then (14) else (let v5 := (d_world_validJoints w); if v5 = false then (15) else (let v6 := (okContacts w); if v6 = false then (16) else (0))))))
theorem s_world_Validate (w : Api.World) (hw : Wsm w) : CallsA Tryz.prog F_world_Validate [.agg w.enc] [] (.sc (.int .i64 (d_world_Validate w))) [] := by
  refine en1 hm shOk Tryz.func9 rfl rfl ?_
  have := s_world_ValidateSettings
  have := s_world_in
  have := s_world_validBodies
  have := s_world_validJoints
  have := s_world_validContacts
  have := d_world_Validate.eq_1 w
  exact walk_
end Go.Abs
end
section
namespace Go.Abs
open Go.Proofs
open Api
def Wfew (w : Api.World) : Prop := w.Bodies.length ≤ 8192 ∧ (∀ b ∈ w.Bodies, Bfew b) ∧ w.Joints.length ≤ 8192 ∧ w.Contacts.length ≤ 8192 ∧ (∀ c ∈ w.Contacts, c.Manifold.Points.length ≤ 8) ∧ w.Overlaps.length ≤ 8192
def encH (w : Api.World) : List Int := intsB [w.Settings.TimeStep] ++ vecsB [w.Settings.Gravity] ++ intsB [w.Settings.Iterations, w.Settings.SleepSteps, (w.Bodies.length : Int)]
def enc1 (w : Api.World) : List Int := encH w ++ w.Bodies.flatMap bodB ++ intsB [(w.Joints.length : Int)]
def enc2 (w : Api.World) : List Int := enc1 w ++ w.Joints.flatMap jntB ++ intsB [(w.Contacts.length : Int)]
def enc3 (w : Api.World) : List Int := enc2 w ++ w.Contacts.flatMap ctcB ++ intsB [(w.Overlaps.length : Int)]
def encW (w : Api.World) : List Int := enc3 w ++ w.Overlaps.flatMap keyB ++ intsB [w.NextID, w.Frame]
theorem encH_len (w : Api.World) : (encH w).length ≤ 60 := by
  have q0 : (intsB [w.Settings.TimeStep]).length ≤ 10 := intsB_len _
  have q1 : (vecsB [w.Settings.Gravity]).length ≤ 20 := vecsB_len _
  have q2 : (intsB [w.Settings.Iterations, w.Settings.SleepSteps, (w.Bodies.length : Int)]).length ≤ 30 := intsB_len _
  unfold encH; simp only [List.length_append]; omega
theorem ctc_few {w : Api.World} (h : Wfew w) : ∀ c ∈ w.Contacts, (ctcB c).length ≤ 600 := fun c hc => by
  have := ctcB_len c; have := h.2.2.2.2.1 c hc; omega
theorem enc1_len {w : Api.World} (h : Wfew w) : (enc1 w).length ≤ 737300000 := by
  have h1 := encH_len w
  have h2 := fm_lenP (f := bodB) (c := 90000) (l := w.Bodies) fun b hb => bodB_len (h.2.1 b hb)
  have h3 : (intsB [(w.Joints.length : Int)]).length ≤ 10 := intsB_len _
  have := h.1
  unfold enc1; simp only [List.length_append]; omega
theorem enc2_len {w : Api.World} (h : Wfew w) : (enc2 w).length ≤ 739800000 := by
  have h1 := enc1_len h
  have h2 := fm_lenP (f := jntB) (c := 300) (l := w.Joints) fun b _ => jntB_len b
  have h3 : (intsB [(w.Contacts.length : Int)]).length ≤ 10 := intsB_len _
  have := h.2.2.1
  unfold enc2; simp only [List.length_append]; omega
theorem enc3_len {w : Api.World} (h : Wfew w) : (enc3 w).length ≤ 744800000 := by
  have h1 := enc2_len h
  have h2 := fm_lenP (f := ctcB) (c := 600) (l := w.Contacts) (ctc_few h)
  have h3 : (intsB [(w.Overlaps.length : Int)]).length ≤ 10 := intsB_len _
  have := h.2.2.2.1
  unfold enc3; simp only [List.length_append]; omega
theorem encW_len {w : Api.World} (h : Wfew w) : (encW w).length ≤ 745200000 := by
  have h1 := enc3_len h
  have h2 := fm_lenP (f := keyB) (c := 40) (l := w.Overlaps) fun b _ => keyB_len b
  have h3 : (intsB [w.NextID, w.Frame]).length ≤ 20 := intsB_len _
  have := h.2.2.2.2.2
  unfold encW; simp only [List.length_append]; omega
theorem s_enc_ints0 (l : List Int) (hb : 10 * l.length ≤ 400000000000) : CallsA Tryz.prog F_snapshot_encoder_ints [.ptr 1 0 0 1, encD 1 encInt 0 l] [(1, .box [.sc (.slice none 0 0)])] (.tup []) (eO (intsB l)) := by
  refine enOT hm shOk Tryz.func18 rfl rfl ?_
  simp only [go_sem]
  refine Wpi_loop hm (ι := {i : Nat // i ≤ l.length}) (fun i => [(0, .share, .ptr 1 0 0 1), (6, .share, encD 1 encInt 0 l), (7, .share, .sc (.int .i64 l.length)), (8, .share, .sc (.int .i64 i.1))])
    (fun i => eO ((l.take i.1).flatMap intB)) (fun i => l.length - i.1) ⟨0, by omega⟩ ?_ ?_
  · refine weakE_ [] [] ?_
    simp only [List.take_zero, List.flatMap_nil, List.append_nil, go_sem]
    exact avle_nilD rfl
  · rintro ⟨i, hi⟩
    simp only [go_sem]
    by_cases hlt : i < l.length
    · rw [if_pos (by omega)]
      have hl := fm_len (f := intB) intB_len (l.take i)
      rw [List.length_take] at hl
      have hs := fm_snoc (f := intB) (l := l) 0 hlt
      refine ⟨ok_, ?_⟩
      refine CallGi_flat (s_codec_AppendInt ((l.take i).flatMap intB) (l.getD i 0) (by omega)) rfl ?_
      simp only [go_sem]
      refine loop_next ⟨i + 1, by omega⟩ (by show l.length - (i + 1) < l.length - i; omega) (weakE_ [] [] ?_)
      simp only [hs, go_sem]
      exact (by rw [IntKind.wrap_i64]; omega)
    · rw [if_neg (by omega)]
      obtain rfl : i = l.length := by omega
      refine retW_of [] [] [] rfl rfl (by simp [go_sem]) (by simp [assoc, go_sem]) (by simp [go_sem]) ?_
      simp only [List.take_length, intsB, go_sem]
theorem s_snapshot_Encode_valid (w : Api.World) (hw : Wsm w) (hf : Wfew w) (hv : d_world_Validate w = 0) : CallsA Tryz.prog F_snapshot_Encode [.agg w.enc] [] (.tup [encD 1 encU8 0 (sealB (encW w)), .sc (.int .i64 0)]) [] := by
  refine enT hm shOk Tryz.func8 rfl rfl ?_
  simp only [go_sem]
  refine CallGi_flat (s_world_Validate w hw) rfl ?_
  simp only [go_sem]
  rw [if_neg (by simp [hv])]
  refine CallGi_obj [true, false] [(1, 288)] (s_enc_ints0 [w.Settings.TimeStep] (by simp)) (by simp [go_sem]) (by simp [go_sem]) (by simp [go_sem]) (by simp [go_sem]) ?_
  simp only [argsOC, go_sem]
  refine ⟨avle_lit2 (l := [w.Settings.TimeStep]) (fun _ _ => rfl) rfl rfl rfl, ?_⟩
  have q0 : (intsB [w.Settings.TimeStep]).length ≤ 10 := intsB_len _
  have q1 : (vecsB [w.Settings.Gravity]).length ≤ 20 := vecsB_len _
  have m0 := encH_len w
  have m1 := enc1_len hf
  have m2 := enc2_len hf
  have m3 := enc3_len hf
  have m4 := encW_len hf
  obtain ⟨f1, f2, f3, f4, f5, f6⟩ := hf
  refine CallGi_obj [true, false] [(1, 288)] (s_enc_vecs (intsB [w.Settings.TimeStep]) [w.Settings.Gravity] (by simp only [List.length_append, List.length_cons, List.length_nil]; omega)) (by simp [go_sem]) (by simp [go_sem]) (by simp [go_sem]) (by simp [go_sem]) ?_
  simp only [argsOC, go_sem]
  refine ⟨avle_lit2 (l := [w.Settings.Gravity]) (fun _ _ => rfl) rfl rfl rfl, ?_⟩
  refine CallGi_obj [true, false] [(1, 288)] (s_enc_ints (intsB [w.Settings.TimeStep] ++ vecsB [w.Settings.Gravity]) [w.Settings.Iterations, w.Settings.SleepSteps, (w.Bodies.length : Int)] (by simp only [List.length_append, List.length_cons, List.length_nil]; omega)) (by simp [go_sem]) (by simp [go_sem]) (by simp [go_sem]) (by simp [go_sem]) ?_
  simp only [argsOC, go_sem]
  refine ⟨avle_lit2 (l := [w.Settings.Iterations, w.Settings.SleepSteps, (w.Bodies.length : Int)]) (fun _ _ => rfl) rfl rfl rfl, ?_⟩
  have eH : intsB [w.Settings.TimeStep] ++ (vecsB [w.Settings.Gravity] ++ intsB [w.Settings.Iterations, w.Settings.SleepSteps, (w.Bodies.length : Int)]) = encH w := by unfold encH; rw [List.append_assoc]
  refine Wpi_loop hm (ι := {i : Nat // i ≤ w.Bodies.length}) (fun i => [(1, .share, .ptr 32 0 0 1), (4, .share, .ptr 1 0 0 1), (43, .share, encD 20 Body.enc default w.Bodies), (44, .share, .sc (.int .i64 w.Bodies.length)), (45, .share, .sc (.int .i64 i.1))])
    (fun i => (32, .box w.enc) :: eO (encH w ++ (w.Bodies.take i.1).flatMap bodB)) (fun i => w.Bodies.length - i.1) ⟨0, by omega⟩ ?_ ?_
  · refine weakE_ [(1, 288)] [] ?_
    simp only [List.take_zero, List.flatMap_nil, List.append_nil, eH, go_sem]
    try trivial
  · rintro ⟨i, hi⟩
    simp only [go_sem]
    have hl := fm_lenP (f := bodB) (c := 90000) (l := w.Bodies.take i) (fun b hb => bodB_len (f2 b (List.mem_of_mem_take hb)))
    rw [List.length_take] at hl
    by_cases hlt : i < w.Bodies.length
    · rw [if_pos (by omega)]
      have hs := fm_snoc (f := bodB) (l := w.Bodies) default hlt
      refine ⟨ok_, ?_⟩
      refine CallGi_subw (s_enc_body (encH w ++ (w.Bodies.take i).flatMap bodB) (w.Bodies.getD i default) (by simp only [List.length_append]; omega) (f2 _ (mem_getD default hlt))) (okO_eO _) rfl (by simp [go_sem]) (by simp [go_sem, AV.ids]) rfl ?_
      simp only [go_sem]
      refine loop_next ⟨i + 1, by omega⟩ (by show w.Bodies.length - (i + 1) < w.Bodies.length - i; omega) (weakE_ [] [] ?_)
      simp only [hs, go_sem]
      exact (by rw [IntKind.wrap_i64]; omega)
    · rw [if_neg (by omega)]
      obtain rfl : i = w.Bodies.length := by omega
      rw [List.take_length] at hl
      have e1 : encH w ++ (w.Bodies.flatMap bodB ++ intsB [(w.Joints.length : Int)]) = enc1 w := by unfold enc1; rw [List.append_assoc]
      simp only [List.take_length, go_sem]
      refine CallGi_obj [true, false] [] (s_enc_ints (encH w ++ w.Bodies.flatMap bodB) [(w.Joints.length : Int)] (by simp only [List.length_append, List.length_cons, List.length_nil]; omega)) (by simp [go_sem]) (by simp [go_sem]) (by simp [go_sem]) (by simp [go_sem]) ?_
      simp only [argsOC, go_sem]
      refine ⟨avle_lit2 (l := [(w.Joints.length : Int)]) (fun _ _ => rfl) rfl rfl rfl, ?_⟩
      refine Wpi_loop hm (ι := {i : Nat // i ≤ w.Joints.length}) (fun i => [(1, .share, .ptr 32 0 0 1), (4, .share, .ptr 1 0 0 1), (60, .share, encD 24 Joint.enc default w.Joints), (61, .share, .sc (.int .i64 w.Joints.length)), (62, .share, .sc (.int .i64 i.1))])
        (fun i => (32, .box w.enc) :: eO (enc1 w ++ (w.Joints.take i.1).flatMap jntB)) (fun i => w.Joints.length - i.1) ⟨0, by omega⟩ ?_ ?_
      · refine weakE_ [] [] ?_
        simp only [List.take_zero, List.flatMap_nil, List.append_nil, e1, go_sem]
        try trivial
      · rintro ⟨i, hi⟩
        simp only [go_sem]
        have hl := fm_lenP (f := jntB) (c := 300) (l := w.Joints.take i) (fun b _ => jntB_len b)
        rw [List.length_take] at hl
        by_cases hlt : i < w.Joints.length
        · rw [if_pos (by omega)]
          have hs := fm_snoc (f := jntB) (l := w.Joints) default hlt
          refine ⟨ok_, ?_⟩
          refine CallGi_subw (s_enc_joint (enc1 w ++ (w.Joints.take i).flatMap jntB) (w.Joints.getD i default) (by simp only [List.length_append]; omega) ) (okO_eO _) rfl (by simp [go_sem]) (by simp [go_sem, AV.ids]) rfl ?_
          simp only [go_sem]
          refine loop_next ⟨i + 1, by omega⟩ (by show w.Joints.length - (i + 1) < w.Joints.length - i; omega) (weakE_ [] [] ?_)
          simp only [hs, go_sem]
          exact (by rw [IntKind.wrap_i64]; omega)
        · rw [if_neg (by omega)]
          obtain rfl : i = w.Joints.length := by omega
          rw [List.take_length] at hl
          have e2 : enc1 w ++ (w.Joints.flatMap jntB ++ intsB [(w.Contacts.length : Int)]) = enc2 w := by unfold enc2; rw [List.append_assoc]
          simp only [List.take_length, go_sem]
          refine CallGi_obj [true, false] [] (s_enc_ints (enc1 w ++ w.Joints.flatMap jntB) [(w.Contacts.length : Int)] (by simp only [List.length_append, List.length_cons, List.length_nil]; omega)) (by simp [go_sem]) (by simp [go_sem]) (by simp [go_sem]) (by simp [go_sem]) ?_
          simp only [argsOC, go_sem]
          refine ⟨avle_lit2 (l := [(w.Contacts.length : Int)]) (fun _ _ => rfl) rfl rfl rfl, ?_⟩
          refine Wpi_loop hm (ι := {i : Nat // i ≤ w.Contacts.length}) (fun i => [(1, .share, .ptr 32 0 0 1), (4, .share, .ptr 1 0 0 1), (77, .share, encD 7 Contact.enc default w.Contacts), (78, .share, .sc (.int .i64 w.Contacts.length)), (79, .share, .sc (.int .i64 i.1))])
            (fun i => (32, .box w.enc) :: eO (enc2 w ++ (w.Contacts.take i.1).flatMap ctcB)) (fun i => w.Contacts.length - i.1) ⟨0, by omega⟩ ?_ ?_
          · refine weakE_ [] [] ?_
            simp only [List.take_zero, List.flatMap_nil, List.append_nil, e2, go_sem]
            try trivial
          · rintro ⟨i, hi⟩
            simp only [go_sem]
            have hl := fm_lenP (f := ctcB) (c := 600) (l := w.Contacts.take i) (fun c hc => ctc_few ⟨f1, f2, f3, f4, f5, f6⟩ c (List.mem_of_mem_take hc))
            rw [List.length_take] at hl
            by_cases hlt : i < w.Contacts.length
            · rw [if_pos (by omega)]
              have hs := fm_snoc (f := ctcB) (l := w.Contacts) default hlt
              refine ⟨ok_, ?_⟩
              refine CallGi_subw (s_enc_contact (enc2 w ++ (w.Contacts.take i).flatMap ctcB) (w.Contacts.getD i default) (by simp only [List.length_append]; omega) (by have := f5 _ (mem_getD default hlt); omega)) (okO_eO _) rfl (by simp [go_sem]) (by simp [go_sem, AV.ids]) rfl ?_
              simp only [go_sem]
              refine loop_next ⟨i + 1, by omega⟩ (by show w.Contacts.length - (i + 1) < w.Contacts.length - i; omega) (weakE_ [] [] ?_)
              simp only [hs, go_sem]
              exact (by rw [IntKind.wrap_i64]; omega)
            · rw [if_neg (by omega)]
              obtain rfl : i = w.Contacts.length := by omega
              rw [List.take_length] at hl
              have e3 : enc2 w ++ (w.Contacts.flatMap ctcB ++ intsB [(w.Overlaps.length : Int)]) = enc3 w := by unfold enc3; rw [List.append_assoc]
              simp only [List.take_length, go_sem]
              refine CallGi_obj [true, false] [] (s_enc_ints (enc2 w ++ w.Contacts.flatMap ctcB) [(w.Overlaps.length : Int)] (by simp only [List.length_append, List.length_cons, List.length_nil]; omega)) (by simp [go_sem]) (by simp [go_sem]) (by simp [go_sem]) (by simp [go_sem]) ?_
              simp only [argsOC, go_sem]
              refine ⟨avle_lit2 (l := [(w.Overlaps.length : Int)]) (fun _ _ => rfl) rfl rfl rfl, ?_⟩
              refine Wpi_loop hm (ι := {i : Nat // i ≤ w.Overlaps.length}) (fun i => [(1, .share, .ptr 32 0 0 1), (4, .share, .ptr 1 0 0 1), (94, .share, encD 4 PairKey.enc default w.Overlaps), (95, .share, .sc (.int .i64 w.Overlaps.length)), (96, .share, .sc (.int .i64 i.1))])
                (fun i => (32, .box w.enc) :: eO (enc3 w ++ (w.Overlaps.take i.1).flatMap keyB)) (fun i => w.Overlaps.length - i.1) ⟨0, by omega⟩ ?_ ?_
              · refine weakE_ [] [] ?_
                simp only [List.take_zero, List.flatMap_nil, List.append_nil, e3, go_sem]
                try trivial
              · rintro ⟨i, hi⟩
                simp only [go_sem]
                have hl := fm_lenP (f := keyB) (c := 40) (l := w.Overlaps.take i) (fun b _ => keyB_len b)
                rw [List.length_take] at hl
                by_cases hlt : i < w.Overlaps.length
                · rw [if_pos (by omega)]
                  have hs := fm_snoc (f := keyB) (l := w.Overlaps) default hlt
                  refine ⟨ok_, ?_⟩
                  refine CallGi_subw (s_enc_key (enc3 w ++ (w.Overlaps.take i).flatMap keyB) (w.Overlaps.getD i default) (by simp only [List.length_append]; omega) ) (okO_eO _) rfl (by simp [go_sem]) (by simp [go_sem, AV.ids]) rfl ?_
                  simp only [go_sem]
                  refine loop_next ⟨i + 1, by omega⟩ (by show w.Overlaps.length - (i + 1) < w.Overlaps.length - i; omega) (weakE_ [] [] ?_)
                  simp only [hs, go_sem]
                  exact (by rw [IntKind.wrap_i64]; omega)
                · rw [if_neg (by omega)]
                  obtain rfl : i = w.Overlaps.length := by omega
                  rw [List.take_length] at hl
                  have e4 : enc3 w ++ (w.Overlaps.flatMap keyB ++ intsB [w.NextID, w.Frame]) = encW w := by unfold encW; rw [List.append_assoc]
                  simp only [List.take_length, go_sem]
                  refine CallGi_obj [true, false] [] (s_enc_ints (enc3 w ++ w.Overlaps.flatMap keyB) [w.NextID, w.Frame] (by simp only [List.length_append, List.length_cons, List.length_nil]; omega)) (by simp [go_sem]) (by simp [go_sem]) (by simp [go_sem]) (by simp [go_sem]) ?_
                  simp only [argsOC, go_sem]
                  refine ⟨avle_lit2 (l := [w.NextID, w.Frame]) (fun _ _ => rfl) rfl rfl rfl, ?_⟩
                  simp only [e4, go_sem]
                  refine CallGi_flat (s_checksum_Seal (encW w) (by omega)) rfl ?_
                  simp only [go_sem]
def encR (w : Api.World) : List Int := if d_world_Validate w = 0 then sealB (encW w) else []
def encE (w : Api.World) : Int := if d_world_Validate w = 0 then 0 else 18
theorem s_snapshot_Encode (w : Api.World) (hw : Wsm w) (hf : Wfew w) : CallsA Tryz.prog F_snapshot_Encode [.agg w.enc] [] (.tup [encD 1 encU8 0 (encR w), .sc (.int .i64 (encE w))]) [] := by
  unfold encR encE
  by_cases hv : d_world_Validate w = 0
  · rw [if_pos hv, if_pos hv]; exact s_snapshot_Encode_valid w hw hf hv
  · rw [if_neg hv, if_neg hv]
    refine enT hm shOk Tryz.func8 rfl rfl ?_
    simp only [go_sem]
    refine CallGi_flat (s_world_Validate w hw) rfl ?_
    simp only [go_sem]
    rw [if_pos (by simpa using hv)]
    exact avle_nilD rfl
theorem encR_len {w : Api.World} (hf : Wfew w) : (encR w).length ≤ 745200004 := by
  have := encW_len hf
  unfold encR; split
  · unfold sealB; rw [List.length_append]
    show _ + 4 ≤ _
    omega
  · simp
end Go.Abs
end
section
namespace Go.Abs
open Go.Proofs
open Api
theorem s_newEncoder_own (b : List Int) (hb : b.length ≤ 400000000000) : CallsA Tryz.prog F_snapshot_newEncoder [encD 1 encU8 0 b] [] (.ptr 1 0 0 1) [(1, .box [.sl 2 0 b.length b.length]), (2, .arr 1 (encQ encU8 0 b))] := by
  refine enO1 hm shOk Tryz.func41 rfl rfl ?_
  simp only [go_sem]
  refine ⟨⟨by omega, (by simp only [maxLen]; omega)⟩, ?_⟩
  refine retW_of [.share] [(1, 112), (2, 80)] [] rfl rfl (by simp [go_sem]) (by simp [assoc, go_sem]) (by simp [go_sem]) ?_
  simp only [go_sem]
theorem s_newEncoder (b : List Int) (hb : b.length ≤ 400000000000) : CallsA Tryz.prog F_snapshot_newEncoder [encD 1 encU8 0 b] [] (.ptr 1 0 0 1) [(1, .box [encD 1 encU8 0 b]), (2, .frz 1 (encQ encU8 0 b))] := by
  refine CallsA.thawBox (s_newEncoder_own b hb) (id := 1) (k := 2) (z := 1) (s := encQ encU8 0 b) (cs := [.sl 2 0 b.length b.length]) rfl rfl (by decide) ?_ ?_
  · exact ⟨fun _ => rfl, trivial⟩
  · have e : (fun i => (encQ encU8 0 b).g (0 + i)) = encAt encU8 0 b := by funext i; rw [Nat.zero_add]; rfl
    have e2 : thawCells 2 1 (encQ encU8 0 b) [.sl 2 0 b.length b.length] = [encD 1 encU8 0 b] := by
      show [if 2 = 2 then AV.dsl 1 b.length (fun i => (encQ encU8 0 b).g (0 + i)) else AV.sl 2 0 b.length b.length] = _
      rw [if_pos rfl, e]; rfl
    rw [e2]
    funext x
    by_cases h1 : x = 1
    · subst h1; simp [ofL, wrm, upd]
    · by_cases h2 : x = 2
      · subst h2; simp [ofL, wrm, upd]
      · simp [ofL, wrm, upd, h1, h2]
theorem s_AppendContact (b : List Int) (x : Contact) (hb : b.length ≤ 100000000000) (hx : x.Manifold.Points.length ≤ 1048576) : CallsA Tryz.prog F_snapshot_AppendContact [encD 1 encU8 0 b, .agg x.enc] [] (encD 1 encU8 0 (b ++ ctcB x)) [] := by
  refine en1 hm shOk Tryz.func16 rfl rfl ?_
  simp only [go_sem]
  refine CallGi_obj [true] [] (s_newEncoder b (by omega)) (by simp) (by simp [go_sem]) (by simp [go_sem]) (by simp) ?_
  simp only [argsOC, go_sem]
  refine CallGi_subw (s_enc_contact b x (by omega) hx) (okO_eO _) rfl (by simp [go_sem]) (by simp [go_sem, AV.ids]) rfl ?_
  simp only [go_sem]
end Go.Abs
end
section
namespace Go.Abs
open Go.Proofs
open Api
def bytes (b : List Int) : Prop := ∀ x ∈ b, 0 ≤ x ∧ x < 256
theorem bytes_getD {b : List Int} (h : bytes b) (i : Nat) : 0 ≤ b.getD i 0 ∧ b.getD i 0 < 256 := by
  by_cases hi : i < b.length
  · have : b.getD i 0 = b[i] := by simp [List.getD, hi]
    rw [this]; exact h _ (List.getElem_mem hi)
  · have : b.getD i 0 = 0 := by simp only [List.getD]; rw [List.getElem?_eq_none (by omega)]; rfl
    rw [this]; omega
def t2 (r : Except Int Int) : Int × Int := match r with | .ok x => (x, 0) | .error e => (0, e)
def rByte (b : List Int) (at' : Int) : Except Int Int :=
  if at' < 0 ∨ (b.length : Int) < at' then .error 2 else if at' = b.length then .error 4 else .ok (b.getD at'.toNat 0)
theorem rByte_ok {b : List Int} {at' x : Int} (h : rByte b at' = .ok x) : 0 ≤ at' ∧ at' < b.length ∧ x = b.getD at'.toNat 0 := by
  unfold rByte at h
  split at h
  · cases h
  · split at h
    · cases h
    · cases h; refine ⟨by omega, by omega, rfl⟩
theorem s_codec_readByte (b : List Int) (at' : Int) (hb : b.length ≤ 549755813888) : CallsA Tryz.prog F_codec_readByte [encD 1 encU8 0 b, .sc (.int .i64 at')] [] (.tup [.sc (.int .u8 (t2 (rByte b at')).1), .sc (.int .i64 (t2 (rByte b at')).2)]) [] := by
  refine enT hm shOk Tryz.func148 rfl rfl ?_
  simp only [go_sem]
  by_cases h0 : at' < 0
  · have hr : rByte b at' = .error 2 := by unfold rByte; rw [if_pos (.inl h0)]
    simp only [h0, hr, t2, decide_true, go_sem]
  · by_cases h1 : (b.length : Int) < at'
    · have hr : rByte b at' = .error 2 := by unfold rByte; rw [if_pos (.inr h1)]
      simp only [h0, h1, hr, t2, decide_true, decide_false, go_sem]
    · by_cases h2 : at' = b.length
      · have hr : rByte b at' = .error 4 := by unfold rByte; rw [if_neg (by omega), if_pos h2]
        simp only [h0, h1, hr, t2, decide_true, decide_false, go_sem]
        simp only [h2, beq_self_eq_true, go_sem]
      · have hr : rByte b at' = .ok (b.getD at'.toNat 0) := by unfold rByte; rw [if_neg (by omega), if_neg h2]
        simp only [h0, h1, h2, hr, t2, decide_true, decide_false, go_sem]
        first | exact ⟨by omega, rfl, rfl⟩ | (rw [if_neg (by simpa using h2)]; omega)
def beU (l : List Int) : Int := l.foldl (fun u c => u * 256 + c) 0
theorem beU_snoc {l : List Int} {i : Nat} (hi : i < l.length) : beU (l.take (i + 1)) = beU (l.take i) * 256 + l.getD i 0 := by
  unfold beU; rw [take_snoc 0 hi, List.foldl_append]; rfl
theorem beU_range {l : List Int} (h : bytes l) : ∀ i, i ≤ l.length → 0 ≤ beU (l.take i) ∧ beU (l.take i) < 256 ^ i
  | 0, _ => by simp [beU]
  | i + 1, hi => by
    have ih := beU_range h i (by omega)
    rw [beU_snoc (by omega)]
    have hc := bytes_getD h i
    have : (256 : Int) ^ (i + 1) = 256 ^ i * 256 := Int.pow_succ _ _
    rw [this]
    omega
def t3 (r : Except Int (Int × Int)) : Int × Int × Int := match r with | .ok x => (x.1, x.2, 0) | .error e => (0, 0, e)
def rBig (b : List Int) (at' : Int) (m : Bool) (k : Int) : Except Int (Int × Int) :=
  if 8 < k then .error 3 else if (b.length : Int) - at' - 1 < k then .error 4 else
  if (0 < k ∧ b.getD (at'.toNat + 1) 0 = 0) ∨ (m = false ∧ 9223372036854775808 ≤ beU ((b.drop (at'.toNat + 1)).take k.toNat)) ∨ (m = true ∧ 9223372036854775808 < beU ((b.drop (at'.toNat + 1)).take k.toNat)) then .error 3
  else .ok (if m = true then - beU ((b.drop (at'.toNat + 1)).take k.toNat) else beU ((b.drop (at'.toNat + 1)).take k.toNat), at' + 1 + k)
def rInt (b : List Int) (at' : Int) : Except Int (Int × Int) :=
  if at' < 0 ∨ (b.length : Int) < at' then .error 2 else if at' = b.length then .error 4 else
  rBig b at' (decide (16 < b.getD at'.toNat 0)) (if 16 < b.getD at'.toNat 0 then b.getD at'.toNat 0 - 16 else b.getD at'.toNat 0)
theorem take_drop_len {b : List Int} {i k : Nat} (h : i + k ≤ b.length) : ((b.drop i).take k).length = k := by simp; omega
theorem take_drop_get {b : List Int} {i k j : Nat} (h : j < k) : ((b.drop i).take k).getD j 0 = b.getD (i + j) 0 := by
  simp only [List.getD, List.getElem?_take, h, if_true, List.getElem?_drop]
theorem dslv {n m : Nat} {l : List Int} {f : Nat → Int} (hn : n = l.length) (hm' : m = n) (hf : ∀ i, i < n → f i = l.getD i 0) : avle (.dsl 1 n fun i => [AV.sc (.int .u8 (f i))]) (.dsl 1 m (encAt encU8 0 l)) := by
  subst hm'
  exact ⟨rfl, rfl, fun i hi => by show avleL [AV.sc (.int .u8 (f i))] _; rw [hf i hi]; exact avleL_refl _⟩
theorem drop_get {b : List Int} {i j : Nat} : (b.drop i).getD j 0 = b.getD (i + j) 0 := by simp [List.getD]
theorem or256 (u c : Int) (hu : 0 ≤ u) (hu2 : u < 72057594037927936) (hc : 0 ≤ c ∧ c < 256) :
    IntKind.u64.wrap ↑(BitVec.ofInt 64 (IntKind.u64.wrap (u * 2 ^ min 8 64)) ||| BitVec.ofInt 64 (IntKind.u64.wrap c)).toNat = u * 256 + c := by
  obtain ⟨a, rfl⟩ := Int.eq_ofNat_of_zero_le hu
  obtain ⟨d, rfl⟩ := Int.eq_ofNat_of_zero_le hc.1
  have e1 : IntKind.u64.wrap ((a : Int) * 2 ^ min 8 64) = ((a * 256 : Nat) : Int) := by
    have e8 : (2 : Int) ^ min 8 64 = 256 := by decide
    rw [e8, IntKind.wrap_u64]; omega
  have e2 : IntKind.u64.wrap (d : Int) = (d : Int) := by rw [IntKind.wrap_u64]; omega
  rw [e1, e2]
  have e3 : (BitVec.ofInt 64 ((a * 256 : Nat) : Int) ||| BitVec.ofInt 64 (d : Int)).toNat = a * 256 + d := by
    have hd : d < 2 ^ 8 := by omega
    have h := Nat.shiftLeft_add_eq_or_of_lt hd a
    rw [BitVec.ofInt_natCast, BitVec.ofInt_natCast, BitVec.toNat_or, BitVec.toNat_ofNat, BitVec.toNat_ofNat, Nat.mod_eq_of_lt (by omega), Nat.mod_eq_of_lt (by omega)]
    rw [Nat.shiftLeft_eq] at h
    exact h.symm
  rw [e3, IntKind.wrap_u64]; omega
theorem pow256_le {i : Nat} (h : i ≤ 7) : (256 : Int) ^ i ≤ 72057594037927936 := by
  have := Nat.pow_le_pow_right (show 0 < 256 by decide) h
  have e : (256 : Int) ^ i = ((256 ^ i : Nat) : Int) := by simp
  rw [e]; exact Int.ofNat_le.2 this
theorem pow256_le8 {i : Nat} (h : i ≤ 8) : (256 : Int) ^ i ≤ 18446744073709551616 := by
  have := Nat.pow_le_pow_right (show 0 < 256 by decide) h
  have e : (256 : Int) ^ i = ((256 ^ i : Nat) : Int) := by simp
  rw [e]; exact Int.ofNat_le.2 this
theorem rd_true {u : Int} (h : 0 ≤ u ∧ u < 18446744073709551616) {z : Bool} (hz : u = 0 → z = true) :
    (z || ((mag (IntKind.i64.wrap (0 - IntKind.i64.wrap u)) : Nat) : Int) != u || !(decide (IntKind.i64.wrap (0 - IntKind.i64.wrap u) < 0) == true)) = (z || decide (9223372036854775808 < u)) := by
  by_cases h1 : 9223372036854775808 < u
  · have : ¬ IntKind.i64.wrap (0 - IntKind.i64.wrap u) < 0 := by simp only [IntKind.wrap_i64]; omega
    simp only [h1, this]; simp
  · by_cases h0 : u = 0
    · simp [hz h0]
    · have e : IntKind.i64.wrap (0 - IntKind.i64.wrap u) = -u := by simp only [IntKind.wrap_i64]; omega
      have e2 : ((mag (-u) : Nat) : Int) = u := by unfold mag; omega
      have e3 : -u < 0 := by omega
      simp only [e, e2, e3, h1]
      simp
theorem rd_false {u : Int} (h : 0 ≤ u ∧ u < 18446744073709551616) {z : Bool} :
    (z || ((mag (IntKind.i64.wrap u) : Nat) : Int) != u || !(decide (IntKind.i64.wrap u < 0) == false)) = (z || decide (9223372036854775808 ≤ u)) := by
  by_cases h1 : 9223372036854775808 ≤ u
  · have : IntKind.i64.wrap u < 0 := by simp only [IntKind.wrap_i64]; omega
    simp [h1, this]
  · have e : IntKind.i64.wrap u = u := by simp only [IntKind.wrap_i64]; omega
    have e2 : ((mag u : Nat) : Int) = u := by unfold mag; omega
    have e3 : ¬ u < 0 := by omega
    simp only [e, e2, e3, h1]
    simp
theorem foldl_ge {l : List Int} (h : bytes l) : ∀ u, 0 ≤ u → u ≤ l.foldl (fun u c => u * 256 + c) u := by
  induction l with
  | nil => intro u _; exact Int.le_refl _
  | cons c l ih =>
    intro u hu
    have hc := h c (List.mem_cons_self ..)
    have := ih (fun x hx => h x (List.mem_cons_of_mem _ hx)) (u * 256 + c) (by omega)
    simp only [List.foldl_cons]; omega
theorem beU_zero {l : List Int} (h : bytes l) (hu : beU l = 0) : l.getD 0 0 = 0 := by
  cases l with
  | nil => rfl
  | cons c l =>
    have hc := h c (List.mem_cons_self ..)
    have := foldl_ge (l := l) (fun x hx => h x (List.mem_cons_of_mem _ hx)) (0 * 256 + c) (by omega)
    unfold beU at hu
    simp only [List.foldl_cons] at hu
    show c = 0
    omega
theorem s_codec_ReadInt (b : List Int) (at' : Int) (hb : b.length ≤ 549755813888) (hB : bytes b) :
    CallsA Tryz.prog F_codec_ReadInt [encD 1 encU8 0 b, .sc (.int .i64 at')] [] (.tup [.sc (.int .i64 (t3 (rInt b at')).1), .sc (.int .i64 (t3 (rInt b at')).2.1), .sc (.int .i64 (t3 (rInt b at')).2.2)]) [] := by
  refine enT hm shOk Tryz.func112 rfl rfl ?_
  simp only [go_sem]
  refine CallGi_flat (s_codec_readByte b at' hb) rfl ?_
  simp only [go_sem]
  by_cases h0 : at' < 0 ∨ (b.length : Int) < at'
  · have h1 : rByte b at' = .error 2 := by unfold rByte; rw [if_pos h0]
    have h2 : rInt b at' = .error 2 := by unfold rInt; rw [if_pos h0]
    simp only [h1, h2, t2, t3, go_sem]
    first | done | simp
  by_cases h0' : at' = b.length
  · have h1 : rByte b at' = .error 4 := by unfold rByte; rw [if_neg h0, if_pos h0']
    have h2 : rInt b at' = .error 4 := by unfold rInt; rw [if_neg h0, if_pos h0']
    simp only [h1, h2, t2, t3, go_sem]
    first | done | simp
  have h1 : rByte b at' = .ok (b.getD at'.toNat 0) := by unfold rByte; rw [if_neg h0, if_neg h0']
  have hh := bytes_getD hB at'.toNat
  have hr : rInt b at' = rBig b at' (decide (16 < b.getD at'.toNat 0)) (if 16 < b.getD at'.toNat 0 then b.getD at'.toNat 0 - 16 else b.getD at'.toNat 0) := by unfold rInt; rw [if_neg h0, if_neg h0']
  rw [hr]
  simp only [h1, t2, go_sem]
  generalize hH : b.getD at'.toNat 0 = H at *
  clear h1 hr
  rw [if_neg (by decide)]
  have w0 : IntKind.i64.wrap H = H := by rw [IntKind.wrap_i64]; omega
  have w1 : IntKind.i64.wrap (at' + 1) = at' + 1 := by rw [IntKind.wrap_i64]; omega
  by_cases hm16 : 16 < H
  · have w2 : IntKind.i64.wrap (H - 16) = H - 16 := by rw [IntKind.wrap_i64]; omega
    have hk0 : 0 ≤ (H - 16) := by omega
    simp only [hm16, w0, w1, w2, decide_true, decide_false, go_sem]
    generalize hk : (H - 16) = k at *
    by_cases h8 : 8 < k
    · have h3 : rBig b at' true k = .error 3 := by unfold rBig; rw [if_pos h8]
      simp only [h8, h3, t3, go_sem]
    by_cases h9 : (b.length : Int) - at' - 1 < k
    · have h3 : rBig b at' true k = .error 4 := by unfold rBig; rw [if_neg h8, if_pos h9]
      simp only [h8, h3, t3, Option.toList_some, Option.toList_none, Int.sub_zero, Int.toNat_natCast, go_sem]
      refine ⟨by omega, ?_⟩
      rw [if_pos (by omega)]
      trivial
    simp only [h8, Option.toList_some, Option.toList_none, Int.sub_zero, Int.toNat_natCast, go_sem]
    refine ⟨by omega, ?_⟩
    rw [if_neg (by omega)]
    refine ⟨by omega, ?_⟩
    obtain ⟨p, rfl⟩ := Int.eq_ofNat_of_zero_le (show 0 ≤ at' by omega)
    obtain ⟨q, rfl⟩ := Int.eq_ofNat_of_zero_le hk0
    have hLl : ((b.drop (p + 1)).take q).length = q := take_drop_len (by omega)
    refine Wpi_loop hm (ι := {i : Nat // i ≤ q}) (fun i => [(1, .share, .sc (.int .i64 p)), (9, .share, .sc (.int .i64 q)), (10, .share, .sc (.bool true)), (11, .thaw, encD 1 encU8 0 (b.drop (p + 1))), (12, .share, .sc (.int .u64 (beU (((b.drop (p + 1)).take q).take i.1)))), (44, .thaw, encD 1 encU8 0 ((b.drop (p + 1)).take q)), (45, .share, .sc (.int .i64 q)), (46, .share, .sc (.int .i64 i.1))])
      (fun i => []) (fun i => q - i.1) ⟨0, by omega⟩ ?_ ?_
    · refine weakE_ [] [] ?_
      simp only [List.take_zero, go_sem]
      exact ⟨dslv (by rw [List.length_drop]; omega) (by rw [List.length_drop]; omega) (fun i hi => by rw [drop_get, show ((p : Int) + 1).toNat + i = p + 1 + i by omega]), rfl, dslv hLl.symm (by rw [List.length_drop]; omega) (fun i hi => by rw [take_drop_get hi, show ((p : Int) + 1).toNat + i = p + 1 + i by omega])⟩
    · rintro ⟨i, hi⟩
      have hsn := beU_snoc (l := (b.drop (p + 1)).take q) (i := i)
      have hrg := beU_range (l := (b.drop (p + 1)).take q) (fun x hx => hB x (List.mem_of_mem_drop (List.mem_of_mem_take hx))) i (by omega)
      have hcc := bytes_getD (b := (b.drop (p + 1)).take q) (fun x hx => hB x (List.mem_of_mem_drop (List.mem_of_mem_take hx))) i
      have hld : (b.drop (p + 1)).length = b.length - (p + 1) := List.length_drop
      simp only [go_sem]
      by_cases hlt : i < q
      · rw [if_pos (by omega)]
        refine ⟨by omega, by omega, ?_⟩
        refine loop_next ⟨i + 1, by omega⟩ (by show q - (i + 1) < q - i; omega) (weakE_ [] [] ?_)
        simp only [go_sem]
        have h7 := pow256_le (show i ≤ 7 by omega)
        exact ⟨(or256 _ _ hrg.1 (by omega) hcc).trans (hsn (by omega)).symm, by rw [IntKind.wrap_i64]; omega⟩
      · rw [if_neg (by omega)]
        obtain rfl : i = q := by omega
        clear hsn
        rw [List.take_of_length_le (by omega)] at hrg
        have h8' := pow256_le8 (show i ≤ 8 by omega)
        simp only [List.take_of_length_le (show ((b.drop (p + 1)).take i).length ≤ i by omega)]
        refine ⟨by omega, ?_⟩
        refine CallGi_flat (s_codec_magnitude _) rfl ?_
        have hd0 : (b.drop (p + 1)).getD 0 0 = b.getD (p + 1) 0 := drop_get
        generalize hu : beU ((b.drop (p + 1)).take i) = u at *
        simp only [hd0, List.take_take, Nat.min_self, hu, go_sem]
        have hb3 : 0 ≤ u ∧ u < 18446744073709551616 := by omega
        have hz0 : 0 < i → u = 0 → b.getD (p + 1) 0 = 0 := fun hi0 hu0 => by
          have := beU_zero (l := (b.drop (p + 1)).take i) (fun x hx => hB x (List.mem_of_mem_drop (List.mem_of_mem_take hx))) (by rw [hu]; exact hu0)
          rwa [take_drop_get hi0] at this
        have hpos : 0 < i := by omega
        simp only [hm16, if_true, decide_true]
        rw [rd_true hb3 (fun h => by rw [if_pos (show (0 : Int) < i by omega), hz0 hpos h]; rfl)]
        have hrB : rBig b p true i = if (0 < (i : Int) ∧ b.getD (p + 1) 0 = 0) ∨ (true = false ∧ 9223372036854775808 ≤ u) ∨ (true = true ∧ 9223372036854775808 < u) then .error 3 else .ok (if true = true then -u else u, (p : Int) + 1 + i) := by
          unfold rBig; rw [if_neg h8, if_neg h9]; simp only [Int.toNat_natCast, hu]
        rw [hrB]
        by_cases hc : (0 < (i : Int) ∧ b.getD (p + 1) 0 = 0) ∨ (true = false ∧ 9223372036854775808 ≤ u) ∨ (true = true ∧ 9223372036854775808 < u)
        · rw [if_pos hc, if_pos]
          · exact ⟨rfl, rfl, rfl⟩
          · rcases hc with ⟨hc1, hc2⟩ | ⟨_, hc1⟩ | ⟨_, hc1⟩
            · rw [if_pos hc1, hc2]; rfl
            · simp_all
            · simp_all
        · rw [if_neg hc, if_neg]
          · simp only [t3, w1]
            have hle : ¬ 9223372036854775808 < u := fun h => hc (.inr (.inr ⟨rfl, h⟩))
            refine ⟨?_, ?_, trivial⟩
            · simp only [IntKind.wrap_i64]; simp; omega
            · rw [IntKind.wrap_i64]; omega
          · intro hb4
            refine hc ?_
            simp only [Bool.or_eq_true, decide_eq_true_eq] at hb4
            rcases hb4 with hb4 | hb4
            · split at hb4
              · rename_i h0i; exact .inl ⟨h0i, by simpa using hb4⟩
              · cases hb4
            · simp_all
  · have w2 : IntKind.i64.wrap (H - 16) = H - 16 := by rw [IntKind.wrap_i64]; omega
    have hk0 : 0 ≤ H := by omega
    simp only [hm16, w0, w1, w2, decide_true, decide_false, go_sem]
    generalize hk : H = k at *
    by_cases h8 : 8 < k
    · have h3 : rBig b at' false k = .error 3 := by unfold rBig; rw [if_pos h8]
      simp only [h8, h3, t3, go_sem]
    by_cases h9 : (b.length : Int) - at' - 1 < k
    · have h3 : rBig b at' false k = .error 4 := by unfold rBig; rw [if_neg h8, if_pos h9]
      simp only [h8, h3, t3, Option.toList_some, Option.toList_none, Int.sub_zero, Int.toNat_natCast, go_sem]
      refine ⟨by omega, ?_⟩
      rw [if_pos (by omega)]
      trivial
    simp only [h8, Option.toList_some, Option.toList_none, Int.sub_zero, Int.toNat_natCast, go_sem]
    refine ⟨by omega, ?_⟩
    rw [if_neg (by omega)]
    refine ⟨by omega, ?_⟩
    obtain ⟨p, rfl⟩ := Int.eq_ofNat_of_zero_le (show 0 ≤ at' by omega)
    obtain ⟨q, rfl⟩ := Int.eq_ofNat_of_zero_le hk0
    have hLl : ((b.drop (p + 1)).take q).length = q := take_drop_len (by omega)
    refine Wpi_loop hm (ι := {i : Nat // i ≤ q}) (fun i => [(1, .share, .sc (.int .i64 p)), (9, .share, .sc (.int .i64 q)), (10, .share, .sc (.bool false)), (11, .thaw, encD 1 encU8 0 (b.drop (p + 1))), (12, .share, .sc (.int .u64 (beU (((b.drop (p + 1)).take q).take i.1)))), (44, .thaw, encD 1 encU8 0 ((b.drop (p + 1)).take q)), (45, .share, .sc (.int .i64 q)), (46, .share, .sc (.int .i64 i.1))])
      (fun i => []) (fun i => q - i.1) ⟨0, by omega⟩ ?_ ?_
    · refine weakE_ [] [] ?_
      simp only [List.take_zero, go_sem]
      exact ⟨dslv (by rw [List.length_drop]; omega) (by rw [List.length_drop]; omega) (fun i hi => by rw [drop_get, show ((p : Int) + 1).toNat + i = p + 1 + i by omega]), rfl, dslv hLl.symm (by rw [List.length_drop]; omega) (fun i hi => by rw [take_drop_get hi, show ((p : Int) + 1).toNat + i = p + 1 + i by omega])⟩
    · rintro ⟨i, hi⟩
      have hsn := beU_snoc (l := (b.drop (p + 1)).take q) (i := i)
      have hrg := beU_range (l := (b.drop (p + 1)).take q) (fun x hx => hB x (List.mem_of_mem_drop (List.mem_of_mem_take hx))) i (by omega)
      have hcc := bytes_getD (b := (b.drop (p + 1)).take q) (fun x hx => hB x (List.mem_of_mem_drop (List.mem_of_mem_take hx))) i
      have hld : (b.drop (p + 1)).length = b.length - (p + 1) := List.length_drop
      simp only [go_sem]
      by_cases hlt : i < q
      · rw [if_pos (by omega)]
        refine ⟨by omega, by omega, ?_⟩
        refine loop_next ⟨i + 1, by omega⟩ (by show q - (i + 1) < q - i; omega) (weakE_ [] [] ?_)
        simp only [go_sem]
        have h7 := pow256_le (show i ≤ 7 by omega)
        exact ⟨(or256 _ _ hrg.1 (by omega) hcc).trans (hsn (by omega)).symm, by rw [IntKind.wrap_i64]; omega⟩
      · rw [if_neg (by omega)]
        obtain rfl : i = q := by omega
        clear hsn
        rw [List.take_of_length_le (by omega)] at hrg
        have h8' := pow256_le8 (show i ≤ 8 by omega)
        simp only [List.take_of_length_le (show ((b.drop (p + 1)).take i).length ≤ i by omega)]
        refine ⟨by omega, ?_⟩
        refine CallGi_flat (s_codec_magnitude _) rfl ?_
        have hd0 : (b.drop (p + 1)).getD 0 0 = b.getD (p + 1) 0 := drop_get
        generalize hu : beU ((b.drop (p + 1)).take i) = u at *
        simp only [hd0, List.take_take, Nat.min_self, hu, go_sem]
        have hb3 : 0 ≤ u ∧ u < 18446744073709551616 := by omega
        have hz0 : 0 < i → u = 0 → b.getD (p + 1) 0 = 0 := fun hi0 hu0 => by
          have := beU_zero (l := (b.drop (p + 1)).take i) (fun x hx => hB x (List.mem_of_mem_drop (List.mem_of_mem_take hx))) (by rw [hu]; exact hu0)
          rwa [take_drop_get hi0] at this
        simp only [hm16, if_false, decide_false]
        rw [rd_false hb3]
        have hrB : rBig b p false i = if (0 < (i : Int) ∧ b.getD (p + 1) 0 = 0) ∨ (false = false ∧ 9223372036854775808 ≤ u) ∨ (false = true ∧ 9223372036854775808 < u) then .error 3 else .ok (if false = true then -u else u, (p : Int) + 1 + i) := by
          unfold rBig; rw [if_neg h8, if_neg h9]; simp only [Int.toNat_natCast, hu]
        rw [hrB]
        by_cases hc : (0 < (i : Int) ∧ b.getD (p + 1) 0 = 0) ∨ (false = false ∧ 9223372036854775808 ≤ u) ∨ (false = true ∧ 9223372036854775808 < u)
        · rw [if_pos hc, if_pos]
          · exact ⟨rfl, rfl, rfl⟩
          · rcases hc with ⟨hc1, hc2⟩ | ⟨_, hc1⟩ | ⟨_, hc1⟩
            · rw [if_pos hc1, hc2]; rfl
            · simp_all
            · simp_all
        · rw [if_neg hc, if_neg]
          · simp only [t3, w1]
            have hle : ¬ 9223372036854775808 ≤ u := fun h => hc (.inr (.inl ⟨rfl, h⟩))
            refine ⟨?_, ?_, trivial⟩
            · simp only [IntKind.wrap_i64]; simp; omega
            · rw [IntKind.wrap_i64]; omega
          · intro hb4
            refine hc ?_
            simp only [Bool.or_eq_true, decide_eq_true_eq] at hb4
            rcases hb4 with hb4 | hb4
            · split at hb4
              · rename_i h0i; exact .inl ⟨h0i, by simpa using hb4⟩
              · cases hb4
            · simp_all
theorem n00 : ((0 : Int) != 0) = false := by decide
def t3b (r : Except Int (Bool × Int)) : Bool × Int × Int := match r with | .ok x => (x.1, x.2, 0) | .error e => (false, 0, e)
def rBool (b : List Int) (at' : Int) : Except Int (Bool × Int) :=
  match rByte b at' with
  | .error e => .error e
  | .ok c => if 1 < c then .error 3 else .ok (c == 1, at' + 1)
theorem rByte_err {b : List Int} {at' e : Int} (h : rByte b at' = .error e) : e ≠ 0 := by
  unfold rByte at h
  split at h
  · cases h; decide
  · split at h
    · cases h; decide
    · cases h
theorem s_codec_ReadBool (b : List Int) (at' : Int) (hb : b.length ≤ 549755813888) :
    CallsA Tryz.prog F_codec_ReadBool [encD 1 encU8 0 b, .sc (.int .i64 at')] [] (.tup [.sc (.bool (t3b (rBool b at')).1), .sc (.int .i64 (t3b (rBool b at')).2.1), .sc (.int .i64 (t3b (rBool b at')).2.2)]) [] := by
  refine enT hm shOk Tryz.func149 rfl rfl ?_
  simp only [go_sem]
  refine CallGi_flat (s_codec_readByte b at' hb) rfl ?_
  simp only [go_sem]
  cases hr : rByte b at' with
  | error e =>
    have he := rByte_err hr
    have h2 : rBool b at' = .error e := by unfold rBool; rw [hr]
    have hne : (e != 0) = true := by simpa using he
    simp only [h2, t2, t3b, hne, go_sem]
  | ok c =>
    obtain ⟨h0, h1, rfl⟩ := rByte_ok hr
    have h2 : rBool b at' = if 1 < b.getD at'.toNat 0 then .error 3 else .ok (b.getD at'.toNat 0 == 1, at' + 1) := by unfold rBool; rw [hr]
    rw [h2]
    by_cases hc : 1 < b.getD at'.toNat 0
    · simp only [hc, t2, t3b, n00, decide_true, go_sem]
    · simp only [hc, t2, t3b, n00, decide_false, go_sem]
      rw [IntKind.wrap_i64]; omega
def t3v (r : Except Int (Vec × Int)) : Vec × Int × Int := match r with | .ok x => (x.1, x.2, 0) | .error e => (default, 0, e)
def rVec (b : List Int) (at' : Int) : Except Int (Vec × Int) :=
  match rInt b at' with
  | .error e => .error e
  | .ok (x, at1) => match rInt b at1 with
    | .error e => .error e
    | .ok (y, at2) => .ok (⟨x, y⟩, at2)
theorem rInt_err {b : List Int} {at' e : Int} (h : rInt b at' = .error e) : e ≠ 0 := by
  unfold rInt rBig at h
  (repeat' split at h) <;> cases h <;> decide
theorem s_codec_ReadVec (b : List Int) (at' : Int) (hb : b.length ≤ 549755813888) (hB : bytes b) :
    CallsA Tryz.prog F_codec_ReadVec [encD 1 encU8 0 b, .sc (.int .i64 at')] [] (.tup [.agg (t3v (rVec b at')).1.enc, .sc (.int .i64 (t3v (rVec b at')).2.1), .sc (.int .i64 (t3v (rVec b at')).2.2)]) [] := by
  refine enRT 36 [(4, some (some 2)), (5, none), (6, none)] hm shOk Tryz.func114 rfl ?_
  simp only [go_sem]
  refine CallGi_flat (s_codec_ReadInt b at' hb hB) rfl ?_
  simp only [go_sem]
  cases hr : rInt b at' with
  | error e =>
    have he := rInt_err hr
    have h2 : rVec b at' = .error e := by unfold rVec; rw [hr]
    have hne : (e != 0) = true := by simpa using he
    simp only [h2, t3, t3v, hne, go_sem]
    exact ⟨rfl, rfl⟩
  | ok p =>
    obtain ⟨x, at1⟩ := p
    simp only [t3, n00, go_sem]
    refine CallGi_flat (s_codec_ReadInt b at1 hb hB) rfl ?_
    simp only [go_sem]
    cases hr2 : rInt b at1 with
    | error e =>
      have he := rInt_err hr2
      have h2 : rVec b at' = .error e := by unfold rVec; rw [hr]; simp only [hr2]
      have hne : (e != 0) = true := by simpa using he
      simp only [h2, t3, t3v, hne, go_sem]
      exact ⟨rfl, rfl⟩
    | ok p =>
      obtain ⟨y, at2⟩ := p
      have h2 : rVec b at' = .ok (⟨x, y⟩, at2) := by unfold rVec; rw [hr]; simp only [hr2]
      simp only [h2, t3, t3v, n00, go_sem]
end Go.Abs
end
section
namespace Go.Abs
open Go.Proofs
open Api
def evD (n : Int) : Value := .iface 181 (.agg #[.int .i64 n])
theorem evD_ty : ∃ fs, Tryz.prog.underlying 181 = some (.struct fs) := ⟨_, Tryz.underlying181⟩
def tRes {α : Type} (enc : α → List AV) (st : α → List (Nat × AObj)) : Except Int α → Except Int (List AV × List (Nat × AObj))
  | .ok x => .ok (enc x, st x)
  | .error e => .error e
theorem CallGi_subx {P : Program} {m : Nat → Option AObj} {f : FuncId} {avs : List AV} {b : Bool} {Q : ContR} {O O' : List (Nat × AObj)} {r : AV} (hc : CallsA P f avs O r O') (h : okO O) (hk : O'.map (·.1) = O.map (·.1)) (hm : ∀ p ∈ O, m p.1 = some p.2)
    (ha : ∀ a ∈ avs, ∀ i ∈ a.ids, (ofL O i).isSome) (hb : b = true) (hK : @Ri Q b ⟨some r, O'⟩) : @CallGi P m f avs b Q := by
  rw [← renO_id O'] at hK
  have hiff : ∀ i, (ofL O' i).isSome ↔ (ofL O i).isSome := fun i => by
    have key : ∀ (l : List (Nat × AObj)), (l.map (·.1)).Nodup → ((ofL l i).isSome ↔ i ∈ l.map (·.1)) := fun l hl => by
      constructor
      · intro hs
        obtain ⟨o, ho⟩ := Option.isSome_iff_exists.1 hs
        exact List.mem_map_of_mem (f := (·.1)) (ofL_mem' hl ho)
      · intro hs
        rw [List.mem_map] at hs
        obtain ⟨p, hp, rfl⟩ := hs
        rw [ofL_mem_eq hl hp]; rfl
    rw [key O' (by rw [hk]; exact h.1), key O h.1, hk]
  refine ⟨⟨some r, renO id O'⟩, fun _ => ?_, fun _ => hb, hK⟩
  have := CallDoes.mk (P := P) (m := m) (avs.map fun _ => true) avs O r O' id [] false hc (argsOk_same ha)
    (fun i o hi => by rw [aobj_ren_id]; exact hm _ (ofL_mem' h.1 hi))
    (fun i cs hi j hj => h.2 _ (ofL_mem' h.1 hi) cs rfl j hj) (fun i hi => (hiff i).2 hi) (fun i hi => .inl ((hiff i).1 hi)) (by show (O'.map (·.1)).Nodup; rw [hk]; exact h.1) (fun e => by cases e)
  simpa [AV.ren_id] using this
theorem CallGiT_sub {P : Program} {m : Nat → Option AObj} {f : FuncId} {avs : List AV} {b : Bool} {Q : ContR} {D : ContD} {O : List (Nat × AObj)} {α : Type} {r : Except Int α} {enc : α → List AV} {st : α → List (Nat × AObj)} {ev : Int → Value}
    (hc : CallsT P ev f avs O (tRes enc st r)) (hev : D.ev = ev) (h : okO O) (hk : ∀ x, (st x).map (·.1) = O.map (·.1)) (hm : ∀ p ∈ O, m p.1 = some p.2)
    (ha : ∀ a ∈ avs, ∀ i ∈ a.ids, (ofL O i).isSome) (hb : b = true) (hD : ∀ e, r = .error e → D.d e) (hK : ∀ x, r = .ok x → @Ri Q b ⟨some (pack (enc x)), st x⟩) : @CallGiT P m f avs b Q D := by
  cases r with
  | ok x => exact .inl (CallGi_subx hc h (hk x) hm ha hb (hK x rfl))
  | error e =>
    subst hev
    exact .inr ⟨hb, avs.map (fun _ => true), avs, O, id, [], e, hD e rfl, hc, argsOk_same ha, fun i o hi => by rw [aobj_ren_id]; exact hm _ (ofL_mem' h.1 hi),
      fun i cs hi j hj => h.2 _ (ofL_mem' h.1 hi) cs rfl j hj, fun i j _ _ e => e⟩
def dO (b : List Int) (at' : Int) : List (Nat × AObj) := [(1, .box [encD 1 encU8 0 b, .sc (.int .i64 at')])]
attribute [go_sem] dO
theorem okO_dO (b : List Int) (at' : Int) : okO (dO b at') := by
  refine ⟨by simp [go_sem], ?_⟩
  simp [go_sem, idsL, AV.ids]
theorem retT_ok {α : Type} {enc : α → List AV} {st : α → List (Nat × AObj)} {r : Except Int α} (x : α) (h : r = .ok x) {Q : List AV → List (Nat × AObj) → Prop} (hq : Q (enc x) (st x)) : ∃ rs O', tRes enc st r = .ok (rs, O') ∧ Q rs O' :=
  ⟨enc x, st x, by rw [h]; rfl, hq⟩
theorem tRes_err {α : Type} {enc : α → List AV} {st : α → List (Nat × AObj)} {r : Except Int α} {e : Int} (h : r = .error e) : tRes enc st r = .error e := by rw [h]; rfl
def advR (code : Int) : Except Int Unit := if code = 0 then .ok () else .error code
theorem advR_ok {c : Int} {u : Unit} (h : advR c = .ok u) : c = 0 := by
  unfold advR at h; split at h
  · assumption
  · cases h
theorem advR_err {c e : Int} (h : advR c = .error e) : c ≠ 0 ∧ c = e := by
  unfold advR at h; split at h
  · cases h
  · cases h; exact ⟨by assumption, rfl⟩
def tc_snapshot_decoder_advance : TCode := (.seq (.seq (.plain (.region false [⟨(some 6), .mov (.t 2), none, []⟩, ⟨(some 7), .bin .neq (.t 6) (.k (.sc (.int .i64 0))), none, []⟩])) (.cond (.t 7) (.die [⟨(some 8), .mov (.t 2), none, []⟩, ⟨(some 9), .build [(.int .i64 0)] [(0, 1, (.t 8))], none, []⟩] (.t 9)) (.plain .skip))) (.plain (.region false [⟨(some 11), .mov (.t 0), none, []⟩, ⟨(some 12), .mov (.t 1), none, []⟩, ⟨(some 13), .nilck (.t 11), none, []⟩, ⟨(some 14), .faddr 1 (.t 13), none, []⟩, ⟨none, .store 1 (.t 14) (.t 12), none, []⟩])))
theorem s_dec_advance (b : List Int) (at' off code : Int) : CallsT Tryz.prog evD F_snapshot_decoder_advance [.ptr 1 0 0 1, .sc (.int .i64 off), .sc (.int .i64 code)] (dO b at') (tRes (fun _ : Unit => []) (fun _ => dO b off) (advR code)) := by
  unfold advR
  refine callsTC_of (N := 15) hm evD_ty (fun _ => rfl) Tryz.func113 (by kernel_rfl) (by kernel_rfl) (by kernel_rfl) (by kernel_rfl : tcompile _ _ _ _ = some tc_snapshot_decoder_advance) (by kernel_rfl : rvOf Tryz.prog Tryz.f113.results.toList = some []) (by decide) (by kernel_rfl) ?_
  simp only [tc_snapshot_decoder_advance, go_sem]
  by_cases hc : code = 0
  · subst hc
    rw [if_neg (by decide)]
    refine retT_ok () rfl ?_
    simp only [retR]
    exact retW_of [] [] [] rfl rfl (by simp [go_sem]) (by simp [assoc, go_sem]) (by simp [go_sem]) (by simp only [go_sem])
  · have hne : (code != 0) = true := by simpa using hc
    rw [if_pos hne, if_neg hc]
    exact ⟨code, rfl, rfl⟩
theorem rBool_err {b : List Int} {at' e : Int} (h : rBool b at' = .error e) : e ≠ 0 := by
  unfold rBool at h
  split at h
  · rename_i hr; cases h; exact rByte_err hr
  · split at h
    · cases h; decide
    · cases h
theorem rVec_err {b : List Int} {at' e : Int} (h : rVec b at' = .error e) : e ≠ 0 := by
  unfold rVec at h
  split at h
  · rename_i hr; cases h; exact rInt_err hr
  · split at h
    · rename_i hr; cases h; exact rInt_err hr
    · cases h
theorem s_dec_int (b : List Int) (at' : Int) (hb : b.length ≤ 549755813888) (hB : bytes b) : CallsT Tryz.prog evD F_snapshot_decoder_int [.ptr 1 0 0 1] (dO b at') (tRes (fun x : Int × Int => [.sc (.int .i64 x.1)]) (fun x => dO b x.2) (rInt b at')) := by
  refine enD 24 [(2, none)] hm shOk Tryz.func61 rfl ?_
  simp only [go_sem]
  refine CallGi_flat (s_codec_ReadInt b at' hb hB) rfl ?_
  simp only [go_sem]
  refine CallGiT_sub (s_dec_advance b at' _ _) rfl (okO_dO _ _) (fun _ => rfl) (by simp [go_sem]) (by simp [go_sem, AV.ids]) rfl (fun e he => ?_) (fun _ he => ?_)
  · cases hr : rInt b at' with
    | ok x => exact absurd (by rw [hr]; rfl) (advR_err he).1
    | error e' =>
      have h := (advR_err he).2

      rw [hr] at h
      obtain rfl : e' = e := h
      exact tRes_err rfl
  · cases hr : rInt b at' with
    | error e' => have h := advR_ok he; rw [hr] at h; exact absurd h (rInt_err hr)
    | ok x =>
      simp only [t3, go_sem]
      refine retT_ok x rfl ?_
      simp only [retR, go_sem]
      refine retW_of [.share] [] [] rfl rfl (by simp [go_sem]) (by simp [assoc, go_sem]) (by simp [go_sem]) ?_
      simp only [go_sem]
theorem s_dec_bool (b : List Int) (at' : Int) (hb : b.length ≤ 549755813888) : CallsT Tryz.prog evD F_snapshot_decoder_bool [.ptr 1 0 0 1] (dO b at') (tRes (fun x : Bool × Int => [.sc (.bool x.1)]) (fun x => dO b x.2) (rBool b at')) := by
  refine enD 24 [(2, none)] hm shOk Tryz.func116 rfl ?_
  simp only [go_sem]
  refine CallGi_flat (s_codec_ReadBool b at' hb) rfl ?_
  simp only [go_sem]
  refine CallGiT_sub (s_dec_advance b at' _ _) rfl (okO_dO _ _) (fun _ => rfl) (by simp [go_sem]) (by simp [go_sem, AV.ids]) rfl (fun e he => ?_) (fun _ he => ?_)
  · cases hr : rBool b at' with
    | ok x => exact absurd (by rw [hr]; rfl) (advR_err he).1
    | error e' =>
      have h := (advR_err he).2

      rw [hr] at h
      obtain rfl : e' = e := h
      exact tRes_err rfl
  · cases hr : rBool b at' with
    | error e' => have h := advR_ok he; rw [hr] at h; exact absurd h (rBool_err hr)
    | ok x =>
      simp only [t3b, go_sem]
      refine retT_ok x rfl ?_
      simp only [retR, go_sem]
      refine retW_of [.share] [] [] rfl rfl (by simp [go_sem]) (by simp [assoc, go_sem]) (by simp [go_sem]) ?_
      simp only [go_sem]
theorem s_dec_vec (b : List Int) (at' : Int) (hb : b.length ≤ 549755813888) (hB : bytes b) : CallsT Tryz.prog evD F_snapshot_decoder_vec [.ptr 1 0 0 1] (dO b at') (tRes (fun x : Vec × Int => [.agg x.1.enc]) (fun x => dO b x.2) (rVec b at')) := by
  refine enD 24 [(2, some (some 2))] hm shOk Tryz.func62 rfl ?_
  simp only [go_sem]
  refine CallGi_flat (s_codec_ReadVec b at' hb hB) rfl ?_
  simp only [go_sem]
  refine CallGiT_sub (s_dec_advance b at' _ _) rfl (okO_dO _ _) (fun _ => rfl) (by simp [go_sem]) (by simp [go_sem, AV.ids]) rfl (fun e he => ?_) (fun _ he => ?_)
  · cases hr : rVec b at' with
    | ok x => exact absurd (by rw [hr]; rfl) (advR_err he).1
    | error e' =>
      have h := (advR_err he).2

      rw [hr] at h
      obtain rfl : e' = e := h
      exact tRes_err rfl
  · cases hr : rVec b at' with
    | error e' => have h := advR_ok he; rw [hr] at h; exact absurd h (rVec_err hr)
    | ok x =>
      simp only [t3v, go_sem]
      refine retT_ok x rfl ?_
      simp only [retR, go_sem]
      refine retW_of [.share] [] [] rfl rfl (by simp [go_sem]) (by simp [assoc, go_sem]) (by simp [go_sem]) ?_
      simp only [go_sem]
def tc_snapshot_decoder_length : TCode := (.seq (.plain (.region false [⟨(some 2), .mov (.k (.sc (.int .i64 0))), none, []⟩])) (.seq (.plain (.region false [⟨(some 4), .mov (.t 0), none, []⟩, ⟨(some 5), .call 61 [(.t 4)], none, []⟩, ⟨(some 3), .mov (.t 5), none, []⟩])) (.seq (.block 0 (.seq (.plain (.region false [⟨(some 7), .mov (.t 3), none, []⟩, ⟨(some 8), .bin .lss (.t 7) (.k (.sc (.int .i64 0))), none, []⟩, ⟨(some 6), .mov (.t 8), none, []⟩])) (.cond (.t 6) (.die [⟨(some 9), .build [(.int .i64 0)] [(0, 1, (.k (.sc (.int .i64 3))))], none, []⟩] (.t 9)) (.seq (.plain (.region false [⟨(some 12), .mov (.t 3), none, []⟩, ⟨(some 13), .bin .gtr (.t 12) (.k (.sc (.int .i64 8192))), none, []⟩, ⟨(some 11), .mov (.t 13), none, []⟩])) (.cond (.t 11) (.die [⟨(some 14), .build [(.int .i64 0)] [(0, 1, (.k (.sc (.int .i64 5))))], none, []⟩] (.t 14)) (.plain .skip)))))) (.seq (.plain (.region false [⟨(some 16), .mov (.t 3), none, []⟩, ⟨(some 2), .mov (.t 16), none, []⟩])) (.plain .ret)))))
def rLen (b : List Int) (at' : Int) : Except Int (Int × Int) :=
  match rInt b at' with
  | .error e => .error e
  | .ok x => if x.1 < 0 then .error 3 else if 8192 < x.1 then .error 5 else .ok x
theorem rLen_ok {b : List Int} {at' : Int} {x : Int × Int} (h : rLen b at' = .ok x) : 0 ≤ x.1 ∧ x.1 ≤ 8192 ∧ rInt b at' = .ok x := by
  unfold rLen at h
  split at h
  · cases h
  · split at h
    · cases h
    · split at h
      · cases h
      · rename_i hr _ _; cases h; exact ⟨by omega, by omega, hr⟩
theorem s_dec_length (b : List Int) (at' : Int) (hb : b.length ≤ 549755813888) (hB : bytes b) : CallsT Tryz.prog evD F_snapshot_decoder_length [.ptr 1 0 0 1] (dO b at') (tRes (fun x : Int × Int => [.sc (.int .i64 x.1)]) (fun x => dO b x.2) (rLen b at')) := by
  refine callsTC_of (N := 17) hm evD_ty (fun _ => rfl) Tryz.func115 (by kernel_rfl) (by kernel_rfl) (by kernel_rfl) (by kernel_rfl : tcompile _ _ _ _ = some tc_snapshot_decoder_length) (by kernel_rfl : rvOf Tryz.prog Tryz.f115.results.toList = some [(2, none)]) (by decide) (by kernel_rfl) ?_
  simp only [tc_snapshot_decoder_length, go_sem]
  refine CallGiT_sub (s_dec_int b at' hb hB) rfl (okO_dO _ _) (fun _ => rfl) (by simp [go_sem]) (by simp [go_sem, AV.ids]) rfl (fun e he => ?_) (fun x he => ?_)
  · have : rLen b at' = .error e := by unfold rLen; rw [he]
    exact tRes_err this
  · simp only [go_sem]
    by_cases h1 : x.1 < 0
    · have h2 : rLen b at' = .error 3 := by unfold rLen; rw [he]; simp only [h1, if_true]
      simp only [h1, decide_true, go_sem]
      exact ⟨3, tRes_err h2, rfl⟩
    · by_cases h3 : 8192 < x.1
      · have h2 : rLen b at' = .error 5 := by unfold rLen; rw [he]; simp only [h1, h3, if_true, if_false]
        simp only [h1, h3, decide_true, decide_false, go_sem]
        exact ⟨5, tRes_err h2, rfl⟩
      · have h2 : rLen b at' = .ok x := by unfold rLen; rw [he]; simp only [h1, h3, if_false]
        simp only [h1, h3, decide_false, go_sem]
        refine retT_ok x h2 ?_
        simp only [retR, go_sem]
        refine retW_of [.share] [] [] rfl rfl (by simp [go_sem]) (by simp [assoc, go_sem]) (by simp [go_sem]) ?_
        simp only [go_sem]
end Go.Abs
end
section
namespace Go.Abs
open Go.Proofs
open Api
def rN {α : Type} (p : Int → Except Int (α × Int)) (t : Int) : Nat → Except Int (List α × Int)
  | 0 => .ok ([], t)
  | n + 1 => match rN p t n with
    | .error e => .error e
    | .ok x => match p x.2 with
      | .error e => .error e
      | .ok y => .ok (x.1 ++ [y.1], y.2)
theorem rN_len {α : Type} {p : Int → Except Int (α × Int)} {t : Int} : ∀ {n : Nat} {x : List α × Int}, rN p t n = .ok x → x.1.length = n
  | 0, x, h => by cases h; rfl
  | n + 1, x, h => by
    simp only [rN] at h
    split at h
    · cases h
    · rename_i y hy
      split at h
      · cases h
      · cases h
        have := rN_len hy
        simp [this]
theorem rN_err {α : Type} {p : Int → Except Int (α × Int)} {t : Int} {i : Nat} {e : Int} (h : rN p t i = .error e) : ∀ {n : Nat}, i ≤ n → rN p t n = .error e
  | 0, hn => by obtain rfl : i = 0 := by omega
                exact h
  | n + 1, hn => by
    by_cases hi : i = n + 1
    · subst hi; exact h
    · simp only [rN]; rw [rN_err h (by omega)]
def rSl {α : Type} (p : Int → Except Int (α × Int)) (b : List Int) (at' : Int) : Except Int (List α × Int) :=
  match rLen b at' with
  | .error e => .error e
  | .ok x => rN p x.2 x.1.toNat
theorem s_dec_slice_Vec (b : List Int) (at' : Int) (hb : b.length ≤ 549755813888) (hB : bytes b) (p : Int → Except Int (Vec × Int)) (f : Nat)
    (hp : ∀ t, CallsT Tryz.prog evD f [.ptr 1 0 0 1] (dO b t) (tRes (fun x : Vec × Int => [.agg (Vec.enc x.1)]) (fun x => dO b x.2) (p t))) :
    CallsT Tryz.prog evD F_snapshot_slice_Vec [.ptr 1 0 0 1, .fn (.func f) [.ptr 1 0 0 1] []] (dO b at') (tRes (fun x : List Vec × Int => [encD 2 Vec.enc default x.1]) (fun x => dO b x.2) (rSl p b at')) := by
  refine enD 19 [(4, none)] hm shOk Tryz.func150 rfl ?_
  simp only [go_sem]
  refine CallGiT_sub (s_dec_length b at' hb hB) rfl (okO_dO _ _) (fun _ => rfl) (by simp [go_sem]) (by simp [go_sem, AV.ids]) rfl (fun e he => tRes_err (by unfold rSl; rw [he])) (fun x he => ?_)
  obtain ⟨n0, t0⟩ := x
  obtain ⟨hn0, hn1, -⟩ := rLen_ok he
  obtain ⟨n, rfl⟩ := Int.eq_ofNat_of_zero_le hn0
  have hsp : rSl p b at' = rN p t0 n := by unfold rSl; rw [he]; rfl
  simp only [go_sem]
  refine WpiT_loop hm (ι := {i : Nat × List Vec × Int // i.1 ≤ n ∧ rN p t0 i.1 = .ok i.2}) (fun i => [(1, .share, .fn (.func f) [.ptr 1 0 0 1] []), (6, if i.1.1 = 0 then .adopt else .share, .sl 2 0 i.1.1 i.1.1), (9, .share, .sc (.int .i64 n)), (10, .share, .sc (.int .i64 i.1.1))])
    (fun i => [(1, .box [encD 1 encU8 0 b, .sc (.int .i64 i.1.2.2)]), (2, .arr 2 (encQ Vec.enc default i.1.2.1))]) (fun i => n - i.1.1) ⟨(0, [], t0), by omega, rfl⟩ ?_ ?_
  · refine weakE_ [] [2] ?_
    simp only [List.length_nil, go_sem]
    try simp
  · rintro ⟨⟨i, l, t⟩, hi, hr⟩
    have hl : l.length = i := rN_len hr
    have hi : i ≤ n := hi
    have hr : rN p t0 i = .ok (l, t) := hr
    simp only [go_sem]
    by_cases hlt : i < n
    · rw [if_pos (by omega)]
      refine CallGiT_sub (O := dO b t) (hp t) rfl (okO_dO _ _) (fun _ => rfl) (by simp [go_sem]) (by simp [go_sem, AV.ids]) rfl (fun e he' => tRes_err ?_) (fun x he' => ?_)
      · rw [hsp]
        refine rN_err (i := i + 1) ?_ (by omega)
        simp only [rN]; rw [hr]; simp only [he']
      · have hr2 : rN p t0 (i + 1) = .ok (l ++ [x.1], x.2) := by simp only [rN]; rw [hr]; simp only [he']
        simp only [go_sem]
        refine ⟨⟨hl.symm, hl.symm, by omega, by simp only [maxLen]; omega⟩, ?_⟩
        refine loop_next ⟨(i + 1, l ++ [x.1], x.2), by omega, hr2⟩ (by show n - (i + 1) < n - i; omega) (weakE_ [] [] ?_)
        simp only [go_sem]
        refine ⟨by omega, (by rw [IntKind.wrap_i64]; omega), q_app1 x.1 rfl rfl⟩
    · rw [if_neg (by omega)]
      obtain rfl : i = n := by omega
      refine retT_ok (l, t) (hsp.trans hr) ?_
      simp only [retR, go_sem]
      refine retW_of [.thaw] [] [] rfl rfl (by simp [go_sem]) (by simp [assoc, go_sem]) (by simp [go_sem]) ?_
      simp only [go_sem]
      exact ⟨hl.symm, by rw [hl]; exact avle_refl _⟩
theorem s_dec_slice_ContactPoint (b : List Int) (at' : Int) (hb : b.length ≤ 549755813888) (hB : bytes b) (p : Int → Except Int (ContactPoint × Int)) (f : Nat)
    (hp : ∀ t, CallsT Tryz.prog evD f [.ptr 1 0 0 1] (dO b t) (tRes (fun x : ContactPoint × Int => [.agg (ContactPoint.enc x.1)]) (fun x => dO b x.2) (p t))) :
    CallsT Tryz.prog evD F_snapshot_slice_ContactPoint [.ptr 1 0 0 1, .fn (.func f) [.ptr 1 0 0 1] []] (dO b at') (tRes (fun x : List ContactPoint × Int => [encD 6 ContactPoint.enc default x.1]) (fun x => dO b x.2) (rSl p b at')) := by
  refine enD 19 [(4, none)] hm shOk Tryz.func91 rfl ?_
  simp only [go_sem]
  refine CallGiT_sub (s_dec_length b at' hb hB) rfl (okO_dO _ _) (fun _ => rfl) (by simp [go_sem]) (by simp [go_sem, AV.ids]) rfl (fun e he => tRes_err (by unfold rSl; rw [he])) (fun x he => ?_)
  obtain ⟨n0, t0⟩ := x
  obtain ⟨hn0, hn1, -⟩ := rLen_ok he
  obtain ⟨n, rfl⟩ := Int.eq_ofNat_of_zero_le hn0
  have hsp : rSl p b at' = rN p t0 n := by unfold rSl; rw [he]; rfl
  simp only [go_sem]
  refine WpiT_loop hm (ι := {i : Nat × List ContactPoint × Int // i.1 ≤ n ∧ rN p t0 i.1 = .ok i.2}) (fun i => [(1, .share, .fn (.func f) [.ptr 1 0 0 1] []), (6, if i.1.1 = 0 then .adopt else .share, .sl 2 0 i.1.1 i.1.1), (9, .share, .sc (.int .i64 n)), (10, .share, .sc (.int .i64 i.1.1))])
    (fun i => [(1, .box [encD 1 encU8 0 b, .sc (.int .i64 i.1.2.2)]), (2, .arr 6 (encQ ContactPoint.enc default i.1.2.1))]) (fun i => n - i.1.1) ⟨(0, [], t0), by omega, rfl⟩ ?_ ?_
  · refine weakE_ [] [2] ?_
    simp only [List.length_nil, go_sem]
    try simp
  · rintro ⟨⟨i, l, t⟩, hi, hr⟩
    have hl : l.length = i := rN_len hr
    have hi : i ≤ n := hi
    have hr : rN p t0 i = .ok (l, t) := hr
    simp only [go_sem]
    by_cases hlt : i < n
    · rw [if_pos (by omega)]
      refine CallGiT_sub (O := dO b t) (hp t) rfl (okO_dO _ _) (fun _ => rfl) (by simp [go_sem]) (by simp [go_sem, AV.ids]) rfl (fun e he' => tRes_err ?_) (fun x he' => ?_)
      · rw [hsp]
        refine rN_err (i := i + 1) ?_ (by omega)
        simp only [rN]; rw [hr]; simp only [he']
      · have hr2 : rN p t0 (i + 1) = .ok (l ++ [x.1], x.2) := by simp only [rN]; rw [hr]; simp only [he']
        simp only [go_sem]
        refine ⟨⟨hl.symm, hl.symm, by omega, by simp only [maxLen]; omega⟩, ?_⟩
        refine loop_next ⟨(i + 1, l ++ [x.1], x.2), by omega, hr2⟩ (by show n - (i + 1) < n - i; omega) (weakE_ [] [] ?_)
        simp only [go_sem]
        refine ⟨by omega, (by rw [IntKind.wrap_i64]; omega), q_app1 x.1 rfl rfl⟩
    · rw [if_neg (by omega)]
      obtain rfl : i = n := by omega
      refine retT_ok (l, t) (hsp.trans hr) ?_
      simp only [retR, go_sem]
      refine retW_of [.thaw] [] [] rfl rfl (by simp [go_sem]) (by simp [assoc, go_sem]) (by simp [go_sem]) ?_
      simp only [go_sem]
      exact ⟨hl.symm, by rw [hl]; exact avle_refl _⟩
theorem s_dec_slice_Fixture (b : List Int) (at' : Int) (hb : b.length ≤ 549755813888) (hB : bytes b) (p : Int → Except Int (Fixture × Int)) (f : Nat)
    (hp : ∀ t, CallsT Tryz.prog evD f [.ptr 1 0 0 1] (dO b t) (tRes (fun x : Fixture × Int => [.agg (Fixture.enc x.1)]) (fun x => dO b x.2) (p t))) :
    CallsT Tryz.prog evD F_snapshot_slice_Fixture [.ptr 1 0 0 1, .fn (.func f) [.ptr 1 0 0 1] []] (dO b at') (tRes (fun x : List Fixture × Int => [encD 10 Fixture.enc default x.1]) (fun x => dO b x.2) (rSl p b at')) := by
  refine enD 19 [(4, none)] hm shOk Tryz.func117 rfl ?_
  simp only [go_sem]
  refine CallGiT_sub (s_dec_length b at' hb hB) rfl (okO_dO _ _) (fun _ => rfl) (by simp [go_sem]) (by simp [go_sem, AV.ids]) rfl (fun e he => tRes_err (by unfold rSl; rw [he])) (fun x he => ?_)
  obtain ⟨n0, t0⟩ := x
  obtain ⟨hn0, hn1, -⟩ := rLen_ok he
  obtain ⟨n, rfl⟩ := Int.eq_ofNat_of_zero_le hn0
  have hsp : rSl p b at' = rN p t0 n := by unfold rSl; rw [he]; rfl
  simp only [go_sem]
  refine WpiT_loop hm (ι := {i : Nat × List Fixture × Int // i.1 ≤ n ∧ rN p t0 i.1 = .ok i.2}) (fun i => [(1, .share, .fn (.func f) [.ptr 1 0 0 1] []), (6, if i.1.1 = 0 then .adopt else .share, .sl 2 0 i.1.1 i.1.1), (9, .share, .sc (.int .i64 n)), (10, .share, .sc (.int .i64 i.1.1))])
    (fun i => [(1, .box [encD 1 encU8 0 b, .sc (.int .i64 i.1.2.2)]), (2, .arr 10 (encQ Fixture.enc default i.1.2.1))]) (fun i => n - i.1.1) ⟨(0, [], t0), by omega, rfl⟩ ?_ ?_
  · refine weakE_ [] [2] ?_
    simp only [List.length_nil, go_sem]
    try simp
  · rintro ⟨⟨i, l, t⟩, hi, hr⟩
    have hl : l.length = i := rN_len hr
    have hi : i ≤ n := hi
    have hr : rN p t0 i = .ok (l, t) := hr
    simp only [go_sem]
    by_cases hlt : i < n
    · rw [if_pos (by omega)]
      refine CallGiT_sub (O := dO b t) (hp t) rfl (okO_dO _ _) (fun _ => rfl) (by simp [go_sem]) (by simp [go_sem, AV.ids]) rfl (fun e he' => tRes_err ?_) (fun x he' => ?_)
      · rw [hsp]
        refine rN_err (i := i + 1) ?_ (by omega)
        simp only [rN]; rw [hr]; simp only [he']
      · have hr2 : rN p t0 (i + 1) = .ok (l ++ [x.1], x.2) := by simp only [rN]; rw [hr]; simp only [he']
        simp only [go_sem]
        refine ⟨⟨hl.symm, hl.symm, by omega, by simp only [maxLen]; omega⟩, ?_⟩
        refine loop_next ⟨(i + 1, l ++ [x.1], x.2), by omega, hr2⟩ (by show n - (i + 1) < n - i; omega) (weakE_ [] [] ?_)
        simp only [go_sem]
        refine ⟨by omega, (by rw [IntKind.wrap_i64]; omega), q_app1 x.1 rfl rfl⟩
    · rw [if_neg (by omega)]
      obtain rfl : i = n := by omega
      refine retT_ok (l, t) (hsp.trans hr) ?_
      simp only [retR, go_sem]
      refine retW_of [.thaw] [] [] rfl rfl (by simp [go_sem]) (by simp [assoc, go_sem]) (by simp [go_sem]) ?_
      simp only [go_sem]
      exact ⟨hl.symm, by rw [hl]; exact avle_refl _⟩
theorem s_dec_slice_Body (b : List Int) (at' : Int) (hb : b.length ≤ 549755813888) (hB : bytes b) (p : Int → Except Int (Body × Int)) (f : Nat)
    (hp : ∀ t, CallsT Tryz.prog evD f [.ptr 1 0 0 1] (dO b t) (tRes (fun x : Body × Int => [.agg (Body.enc x.1)]) (fun x => dO b x.2) (p t))) :
    CallsT Tryz.prog evD F_snapshot_slice_Body [.ptr 1 0 0 1, .fn (.func f) [.ptr 1 0 0 1] []] (dO b at') (tRes (fun x : List Body × Int => [encD 20 Body.enc default x.1]) (fun x => dO b x.2) (rSl p b at')) := by
  refine enD 19 [(4, none)] hm shOk Tryz.func63 rfl ?_
  simp only [go_sem]
  refine CallGiT_sub (s_dec_length b at' hb hB) rfl (okO_dO _ _) (fun _ => rfl) (by simp [go_sem]) (by simp [go_sem, AV.ids]) rfl (fun e he => tRes_err (by unfold rSl; rw [he])) (fun x he => ?_)
  obtain ⟨n0, t0⟩ := x
  obtain ⟨hn0, hn1, -⟩ := rLen_ok he
  obtain ⟨n, rfl⟩ := Int.eq_ofNat_of_zero_le hn0
  have hsp : rSl p b at' = rN p t0 n := by unfold rSl; rw [he]; rfl
  simp only [go_sem]
  refine WpiT_loop hm (ι := {i : Nat × List Body × Int // i.1 ≤ n ∧ rN p t0 i.1 = .ok i.2}) (fun i => [(1, .share, .fn (.func f) [.ptr 1 0 0 1] []), (6, if i.1.1 = 0 then .adopt else .share, .sl 2 0 i.1.1 i.1.1), (9, .share, .sc (.int .i64 n)), (10, .share, .sc (.int .i64 i.1.1))])
    (fun i => [(1, .box [encD 1 encU8 0 b, .sc (.int .i64 i.1.2.2)]), (2, .arr 20 (encQ Body.enc default i.1.2.1))]) (fun i => n - i.1.1) ⟨(0, [], t0), by omega, rfl⟩ ?_ ?_
  · refine weakE_ [] [2] ?_
    simp only [List.length_nil, go_sem]
    try simp
  · rintro ⟨⟨i, l, t⟩, hi, hr⟩
    have hl : l.length = i := rN_len hr
    have hi : i ≤ n := hi
    have hr : rN p t0 i = .ok (l, t) := hr
    simp only [go_sem]
    by_cases hlt : i < n
    · rw [if_pos (by omega)]
      refine CallGiT_sub (O := dO b t) (hp t) rfl (okO_dO _ _) (fun _ => rfl) (by simp [go_sem]) (by simp [go_sem, AV.ids]) rfl (fun e he' => tRes_err ?_) (fun x he' => ?_)
      · rw [hsp]
        refine rN_err (i := i + 1) ?_ (by omega)
        simp only [rN]; rw [hr]; simp only [he']
      · have hr2 : rN p t0 (i + 1) = .ok (l ++ [x.1], x.2) := by simp only [rN]; rw [hr]; simp only [he']
        simp only [go_sem]
        refine ⟨⟨hl.symm, hl.symm, by omega, by simp only [maxLen]; omega⟩, ?_⟩
        refine loop_next ⟨(i + 1, l ++ [x.1], x.2), by omega, hr2⟩ (by show n - (i + 1) < n - i; omega) (weakE_ [] [] ?_)
        simp only [go_sem]
        refine ⟨by omega, (by rw [IntKind.wrap_i64]; omega), q_app1 x.1 rfl rfl⟩
    · rw [if_neg (by omega)]
      obtain rfl : i = n := by omega
      refine retT_ok (l, t) (hsp.trans hr) ?_
      simp only [retR, go_sem]
      refine retW_of [.thaw] [] [] rfl rfl (by simp [go_sem]) (by simp [assoc, go_sem]) (by simp [go_sem]) ?_
      simp only [go_sem]
      exact ⟨hl.symm, by rw [hl]; exact avle_refl _⟩
theorem s_dec_slice_Joint (b : List Int) (at' : Int) (hb : b.length ≤ 549755813888) (hB : bytes b) (p : Int → Except Int (Joint × Int)) (f : Nat)
    (hp : ∀ t, CallsT Tryz.prog evD f [.ptr 1 0 0 1] (dO b t) (tRes (fun x : Joint × Int => [.agg (Joint.enc x.1)]) (fun x => dO b x.2) (p t))) :
    CallsT Tryz.prog evD F_snapshot_slice_Joint [.ptr 1 0 0 1, .fn (.func f) [.ptr 1 0 0 1] []] (dO b at') (tRes (fun x : List Joint × Int => [encD 24 Joint.enc default x.1]) (fun x => dO b x.2) (rSl p b at')) := by
  refine enD 19 [(4, none)] hm shOk Tryz.func65 rfl ?_
  simp only [go_sem]
  refine CallGiT_sub (s_dec_length b at' hb hB) rfl (okO_dO _ _) (fun _ => rfl) (by simp [go_sem]) (by simp [go_sem, AV.ids]) rfl (fun e he => tRes_err (by unfold rSl; rw [he])) (fun x he => ?_)
  obtain ⟨n0, t0⟩ := x
  obtain ⟨hn0, hn1, -⟩ := rLen_ok he
  obtain ⟨n, rfl⟩ := Int.eq_ofNat_of_zero_le hn0
  have hsp : rSl p b at' = rN p t0 n := by unfold rSl; rw [he]; rfl
  simp only [go_sem]
  refine WpiT_loop hm (ι := {i : Nat × List Joint × Int // i.1 ≤ n ∧ rN p t0 i.1 = .ok i.2}) (fun i => [(1, .share, .fn (.func f) [.ptr 1 0 0 1] []), (6, if i.1.1 = 0 then .adopt else .share, .sl 2 0 i.1.1 i.1.1), (9, .share, .sc (.int .i64 n)), (10, .share, .sc (.int .i64 i.1.1))])
    (fun i => [(1, .box [encD 1 encU8 0 b, .sc (.int .i64 i.1.2.2)]), (2, .arr 24 (encQ Joint.enc default i.1.2.1))]) (fun i => n - i.1.1) ⟨(0, [], t0), by omega, rfl⟩ ?_ ?_
  · refine weakE_ [] [2] ?_
    simp only [List.length_nil, go_sem]
    try simp
  · rintro ⟨⟨i, l, t⟩, hi, hr⟩
    have hl : l.length = i := rN_len hr
    have hi : i ≤ n := hi
    have hr : rN p t0 i = .ok (l, t) := hr
    simp only [go_sem]
    by_cases hlt : i < n
    · rw [if_pos (by omega)]
      refine CallGiT_sub (O := dO b t) (hp t) rfl (okO_dO _ _) (fun _ => rfl) (by simp [go_sem]) (by simp [go_sem, AV.ids]) rfl (fun e he' => tRes_err ?_) (fun x he' => ?_)
      · rw [hsp]
        refine rN_err (i := i + 1) ?_ (by omega)
        simp only [rN]; rw [hr]; simp only [he']
      · have hr2 : rN p t0 (i + 1) = .ok (l ++ [x.1], x.2) := by simp only [rN]; rw [hr]; simp only [he']
        simp only [go_sem]
        refine ⟨⟨hl.symm, hl.symm, by omega, by simp only [maxLen]; omega⟩, ?_⟩
        refine loop_next ⟨(i + 1, l ++ [x.1], x.2), by omega, hr2⟩ (by show n - (i + 1) < n - i; omega) (weakE_ [] [] ?_)
        simp only [go_sem]
        refine ⟨by omega, (by rw [IntKind.wrap_i64]; omega), q_app1 x.1 rfl rfl⟩
    · rw [if_neg (by omega)]
      obtain rfl : i = n := by omega
      refine retT_ok (l, t) (hsp.trans hr) ?_
      simp only [retR, go_sem]
      refine retW_of [.thaw] [] [] rfl rfl (by simp [go_sem]) (by simp [assoc, go_sem]) (by simp [go_sem]) ?_
      simp only [go_sem]
      exact ⟨hl.symm, by rw [hl]; exact avle_refl _⟩
theorem s_dec_slice_Contact (b : List Int) (at' : Int) (hb : b.length ≤ 549755813888) (hB : bytes b) (p : Int → Except Int (Contact × Int)) (f : Nat)
    (hp : ∀ t, CallsT Tryz.prog evD f [.ptr 1 0 0 1] (dO b t) (tRes (fun x : Contact × Int => [.agg (Contact.enc x.1)]) (fun x => dO b x.2) (p t))) :
    CallsT Tryz.prog evD F_snapshot_slice_Contact [.ptr 1 0 0 1, .fn (.func f) [.ptr 1 0 0 1] []] (dO b at') (tRes (fun x : List Contact × Int => [encD 7 Contact.enc default x.1]) (fun x => dO b x.2) (rSl p b at')) := by
  refine enD 19 [(4, none)] hm shOk Tryz.func67 rfl ?_
  simp only [go_sem]
  refine CallGiT_sub (s_dec_length b at' hb hB) rfl (okO_dO _ _) (fun _ => rfl) (by simp [go_sem]) (by simp [go_sem, AV.ids]) rfl (fun e he => tRes_err (by unfold rSl; rw [he])) (fun x he => ?_)
  obtain ⟨n0, t0⟩ := x
  obtain ⟨hn0, hn1, -⟩ := rLen_ok he
  obtain ⟨n, rfl⟩ := Int.eq_ofNat_of_zero_le hn0
  have hsp : rSl p b at' = rN p t0 n := by unfold rSl; rw [he]; rfl
  simp only [go_sem]
  refine WpiT_loop hm (ι := {i : Nat × List Contact × Int // i.1 ≤ n ∧ rN p t0 i.1 = .ok i.2}) (fun i => [(1, .share, .fn (.func f) [.ptr 1 0 0 1] []), (6, if i.1.1 = 0 then .adopt else .share, .sl 2 0 i.1.1 i.1.1), (9, .share, .sc (.int .i64 n)), (10, .share, .sc (.int .i64 i.1.1))])
    (fun i => [(1, .box [encD 1 encU8 0 b, .sc (.int .i64 i.1.2.2)]), (2, .arr 7 (encQ Contact.enc default i.1.2.1))]) (fun i => n - i.1.1) ⟨(0, [], t0), by omega, rfl⟩ ?_ ?_
  · refine weakE_ [] [2] ?_
    simp only [List.length_nil, go_sem]
    try simp
  · rintro ⟨⟨i, l, t⟩, hi, hr⟩
    have hl : l.length = i := rN_len hr
    have hi : i ≤ n := hi
    have hr : rN p t0 i = .ok (l, t) := hr
    simp only [go_sem]
    by_cases hlt : i < n
    · rw [if_pos (by omega)]
      refine CallGiT_sub (O := dO b t) (hp t) rfl (okO_dO _ _) (fun _ => rfl) (by simp [go_sem]) (by simp [go_sem, AV.ids]) rfl (fun e he' => tRes_err ?_) (fun x he' => ?_)
      · rw [hsp]
        refine rN_err (i := i + 1) ?_ (by omega)
        simp only [rN]; rw [hr]; simp only [he']
      · have hr2 : rN p t0 (i + 1) = .ok (l ++ [x.1], x.2) := by simp only [rN]; rw [hr]; simp only [he']
        simp only [go_sem]
        refine ⟨⟨hl.symm, hl.symm, by omega, by simp only [maxLen]; omega⟩, ?_⟩
        refine loop_next ⟨(i + 1, l ++ [x.1], x.2), by omega, hr2⟩ (by show n - (i + 1) < n - i; omega) (weakE_ [] [] ?_)
        simp only [go_sem]
        refine ⟨by omega, (by rw [IntKind.wrap_i64]; omega), q_app1 x.1 rfl rfl⟩
    · rw [if_neg (by omega)]
      obtain rfl : i = n := by omega
      refine retT_ok (l, t) (hsp.trans hr) ?_
      simp only [retR, go_sem]
      refine retW_of [.thaw] [] [] rfl rfl (by simp [go_sem]) (by simp [assoc, go_sem]) (by simp [go_sem]) ?_
      simp only [go_sem]
      exact ⟨hl.symm, by rw [hl]; exact avle_refl _⟩
theorem s_dec_slice_PairKey (b : List Int) (at' : Int) (hb : b.length ≤ 549755813888) (hB : bytes b) (p : Int → Except Int (PairKey × Int)) (f : Nat)
    (hp : ∀ t, CallsT Tryz.prog evD f [.ptr 1 0 0 1] (dO b t) (tRes (fun x : PairKey × Int => [.agg (PairKey.enc x.1)]) (fun x => dO b x.2) (p t))) :
    CallsT Tryz.prog evD F_snapshot_slice_PairKey [.ptr 1 0 0 1, .fn (.func f) [.ptr 1 0 0 1] []] (dO b at') (tRes (fun x : List PairKey × Int => [encD 4 PairKey.enc default x.1]) (fun x => dO b x.2) (rSl p b at')) := by
  refine enD 19 [(4, none)] hm shOk Tryz.func68 rfl ?_
  simp only [go_sem]
  refine CallGiT_sub (s_dec_length b at' hb hB) rfl (okO_dO _ _) (fun _ => rfl) (by simp [go_sem]) (by simp [go_sem, AV.ids]) rfl (fun e he => tRes_err (by unfold rSl; rw [he])) (fun x he => ?_)
  obtain ⟨n0, t0⟩ := x
  obtain ⟨hn0, hn1, -⟩ := rLen_ok he
  obtain ⟨n, rfl⟩ := Int.eq_ofNat_of_zero_le hn0
  have hsp : rSl p b at' = rN p t0 n := by unfold rSl; rw [he]; rfl
  simp only [go_sem]
  refine WpiT_loop hm (ι := {i : Nat × List PairKey × Int // i.1 ≤ n ∧ rN p t0 i.1 = .ok i.2}) (fun i => [(1, .share, .fn (.func f) [.ptr 1 0 0 1] []), (6, if i.1.1 = 0 then .adopt else .share, .sl 2 0 i.1.1 i.1.1), (9, .share, .sc (.int .i64 n)), (10, .share, .sc (.int .i64 i.1.1))])
    (fun i => [(1, .box [encD 1 encU8 0 b, .sc (.int .i64 i.1.2.2)]), (2, .arr 4 (encQ PairKey.enc default i.1.2.1))]) (fun i => n - i.1.1) ⟨(0, [], t0), by omega, rfl⟩ ?_ ?_
  · refine weakE_ [] [2] ?_
    simp only [List.length_nil, go_sem]
    try simp
  · rintro ⟨⟨i, l, t⟩, hi, hr⟩
    have hl : l.length = i := rN_len hr
    have hi : i ≤ n := hi
    have hr : rN p t0 i = .ok (l, t) := hr
    simp only [go_sem]
    by_cases hlt : i < n
    · rw [if_pos (by omega)]
      refine CallGiT_sub (O := dO b t) (hp t) rfl (okO_dO _ _) (fun _ => rfl) (by simp [go_sem]) (by simp [go_sem, AV.ids]) rfl (fun e he' => tRes_err ?_) (fun x he' => ?_)
      · rw [hsp]
        refine rN_err (i := i + 1) ?_ (by omega)
        simp only [rN]; rw [hr]; simp only [he']
      · have hr2 : rN p t0 (i + 1) = .ok (l ++ [x.1], x.2) := by simp only [rN]; rw [hr]; simp only [he']
        simp only [go_sem]
        refine ⟨⟨hl.symm, hl.symm, by omega, by simp only [maxLen]; omega⟩, ?_⟩
        refine loop_next ⟨(i + 1, l ++ [x.1], x.2), by omega, hr2⟩ (by show n - (i + 1) < n - i; omega) (weakE_ [] [] ?_)
        simp only [go_sem]
        refine ⟨by omega, (by rw [IntKind.wrap_i64]; omega), q_app1 x.1 rfl rfl⟩
    · rw [if_neg (by omega)]
      obtain rfl : i = n := by omega
      refine retT_ok (l, t) (hsp.trans hr) ?_
      simp only [retR, go_sem]
      refine retW_of [.thaw] [] [] rfl rfl (by simp [go_sem]) (by simp [assoc, go_sem]) (by simp [go_sem]) ?_
      simp only [go_sem]
      exact ⟨hl.symm, by rw [hl]; exact avle_refl _⟩
end Go.Abs
end
section
namespace Go.Abs
open Go.Proofs
open Api
def RB {α β : Type} (r : Except Int (α × Int)) (f : α → Int → Except Int β) : Except Int β := match r with | .error e => .error e | .ok x => f x.1 x.2
def rKey (b : List Int) (t0 : Int) : Except Int (PairKey × Int) :=
  RB (rInt b t0) fun x0 t1 =>
  RB (rInt b t1) fun x1 t2 =>
  RB (rInt b t2) fun x2 t3 =>
  RB (rInt b t3) fun x3 t4 =>
  .ok (⟨x0, x1, x2, x3⟩, t4)
theorem s_dec_key (b : List Int) (t0 : Int) (hb : b.length ≤ 549755813888) (hB : bytes b) : CallsT Tryz.prog evD F_snapshot_decoder_key [.ptr 1 0 0 1] (dO b t0) (tRes (fun x : PairKey × Int => [.agg x.1.enc]) (fun x => dO b x.2) (rKey b t0)) := by
  refine enD 12 [(2, some (some 4))] hm shOk Tryz.func69 rfl ?_
  simp only [go_sem]
  refine CallGiT_sub (s_dec_int b t0 hb hB) rfl (okO_dO _ _) (fun _ => rfl) (by simp [go_sem]) (by simp [go_sem, AV.ids]) rfl (fun e he => tRes_err (by simp only [rKey, RB, he])) (fun y h0 => ?_)
  obtain ⟨x0, t1⟩ := y
  simp only [go_sem]
  refine CallGiT_sub (s_dec_int b t1 hb hB) rfl (okO_dO _ _) (fun _ => rfl) (by simp [go_sem]) (by simp [go_sem, AV.ids]) rfl (fun e he => tRes_err (by simp only [rKey, RB, h0, he])) (fun y h1 => ?_)
  obtain ⟨x1, t2⟩ := y
  simp only [go_sem]
  refine CallGiT_sub (s_dec_int b t2 hb hB) rfl (okO_dO _ _) (fun _ => rfl) (by simp [go_sem]) (by simp [go_sem, AV.ids]) rfl (fun e he => tRes_err (by simp only [rKey, RB, h0, h1, he])) (fun y h2 => ?_)
  obtain ⟨x2, t3⟩ := y
  simp only [go_sem]
  refine CallGiT_sub (s_dec_int b t3 hb hB) rfl (okO_dO _ _) (fun _ => rfl) (by simp [go_sem]) (by simp [go_sem, AV.ids]) rfl (fun e he => tRes_err (by simp only [rKey, RB, h0, h1, h2, he])) (fun y h3 => ?_)
  obtain ⟨x3, t4⟩ := y
  simp only [go_sem]
  refine retT_ok (⟨x0, x1, x2, x3⟩, t4) (by simp only [rKey, RB, h0, h1, h2, h3]) ?_
  simp only [retR, go_sem]
  refine retW_of [.share] [] [] rfl rfl (by simp [go_sem]) (by simp [assoc, go_sem]) (by simp [go_sem]) ?_
  simp only [go_sem]
def rContactPoint (b : List Int) (t0 : Int) : Except Int (ContactPoint × Int) :=
  RB (rVec b t0) fun x0 t1 =>
  RB (rInt b t1) fun x1 t2 =>
  RB (rInt b t2) fun x2 t3 =>
  RB (rInt b t3) fun x3 t4 =>
  RB (rInt b t4) fun x4 t5 =>
  .ok (⟨x0, x1, x2, x3, x4⟩, t5)
theorem s_dec_contactPoint (b : List Int) (t0 : Int) (hb : b.length ≤ 549755813888) (hB : bytes b) : CallsT Tryz.prog evD F_snapshot_decoder_contactPoint [.ptr 1 0 0 1] (dO b t0) (tRes (fun x : ContactPoint × Int => [.agg x.1.enc]) (fun x => dO b x.2) (rContactPoint b t0)) := by
  refine enD 14 [(2, some (some 6))] hm shOk Tryz.func92 rfl ?_
  simp only [go_sem]
  refine CallGiT_sub (s_dec_vec b t0 hb hB) rfl (okO_dO _ _) (fun _ => rfl) (by simp [go_sem]) (by simp [go_sem, AV.ids]) rfl (fun e he => tRes_err (by simp only [rContactPoint, RB, he])) (fun y h0 => ?_)
  obtain ⟨x0, t1⟩ := y
  simp only [go_sem]
  refine CallGiT_sub (s_dec_int b t1 hb hB) rfl (okO_dO _ _) (fun _ => rfl) (by simp [go_sem]) (by simp [go_sem, AV.ids]) rfl (fun e he => tRes_err (by simp only [rContactPoint, RB, h0, he])) (fun y h1 => ?_)
  obtain ⟨x1, t2⟩ := y
  simp only [go_sem]
  refine CallGiT_sub (s_dec_int b t2 hb hB) rfl (okO_dO _ _) (fun _ => rfl) (by simp [go_sem]) (by simp [go_sem, AV.ids]) rfl (fun e he => tRes_err (by simp only [rContactPoint, RB, h0, h1, he])) (fun y h2 => ?_)
  obtain ⟨x2, t3⟩ := y
  simp only [go_sem]
  refine CallGiT_sub (s_dec_int b t3 hb hB) rfl (okO_dO _ _) (fun _ => rfl) (by simp [go_sem]) (by simp [go_sem, AV.ids]) rfl (fun e he => tRes_err (by simp only [rContactPoint, RB, h0, h1, h2, he])) (fun y h3 => ?_)
  obtain ⟨x3, t4⟩ := y
  simp only [go_sem]
  refine CallGiT_sub (s_dec_int b t4 hb hB) rfl (okO_dO _ _) (fun _ => rfl) (by simp [go_sem]) (by simp [go_sem, AV.ids]) rfl (fun e he => tRes_err (by simp only [rContactPoint, RB, h0, h1, h2, h3, he])) (fun y h4 => ?_)
  obtain ⟨x4, t5⟩ := y
  simp only [go_sem]
  refine retT_ok (⟨x0, x1, x2, x3, x4⟩, t5) (by simp only [rContactPoint, RB, h0, h1, h2, h3, h4]) ?_
  simp only [retR, go_sem]
  refine retW_of [.share] [] [] rfl rfl (by simp [go_sem]) (by simp [assoc, go_sem]) (by simp [go_sem]) ?_
  simp only [go_sem]
def rContact (b : List Int) (t0 : Int) : Except Int (Contact × Int) :=
  RB (rKey b t0) fun x0 t1 =>
  RB (rVec b t1) fun x1 t2 =>
  RB (rSl (rContactPoint b) b t2) fun x2 t3 =>
  .ok ({ Key := x0, Manifold := { Normal := x1, Points := x2 } }, t3)
theorem s_dec_contact (b : List Int) (t0 : Int) (hb : b.length ≤ 549755813888) (hB : bytes b) : CallsT Tryz.prog evD F_snapshot_decoder_contact [.ptr 1 0 0 1] (dO b t0) (tRes (fun x : Contact × Int => [.agg x.1.enc]) (fun x => dO b x.2) (rContact b t0)) := by
  refine enD 18 [(2, some (some 7))] hm shOk Tryz.func43 rfl ?_
  simp only [go_sem]
  refine CallGiT_sub (s_dec_key b t0 hb hB) rfl (okO_dO _ _) (fun _ => rfl) (by simp [go_sem]) (by simp [go_sem, AV.ids]) rfl (fun e he => tRes_err (by simp only [rContact, RB, he])) (fun y h0 => ?_)
  obtain ⟨x0, t1⟩ := y
  simp only [go_sem]
  refine CallGiT_sub (s_dec_vec b t1 hb hB) rfl (okO_dO _ _) (fun _ => rfl) (by simp [go_sem]) (by simp [go_sem, AV.ids]) rfl (fun e he => tRes_err (by simp only [rContact, RB, h0, he])) (fun y h1 => ?_)
  obtain ⟨x1, t2⟩ := y
  simp only [go_sem]
  refine CallGiT_sub (s_dec_slice_ContactPoint b t2 hb hB (rContactPoint b) F_snapshot_decoder_contactPoint (fun t => s_dec_contactPoint b t hb hB)) rfl (okO_dO _ _) (fun _ => rfl) (by simp [go_sem]) (by simp [go_sem, AV.ids]) rfl (fun e he => tRes_err (by simp only [rContact, RB, h0, h1, he])) (fun y h2 => ?_)
  obtain ⟨x2, t3⟩ := y
  simp only [go_sem]
  refine retT_ok ({ Key := x0, Manifold := { Normal := x1, Points := x2 } }, t3) (by simp only [rContact, RB, h0, h1, h2]) ?_
  simp only [retR, go_sem]
  refine retW_of [.share] [] [] rfl rfl (by simp [go_sem]) (by simp [assoc, go_sem]) (by simp [go_sem]) ?_
  simp only [go_sem]
def rFixture (b : List Int) (t0 : Int) : Except Int (Fixture × Int) :=
  RB (rInt b t0) fun x0 t1 =>
  RB (rInt b t1) fun x1 t2 =>
  RB (rSl (rVec b) b t2) fun x2 t3 =>
  RB (rInt b t3) fun x3 t4 =>
  RB (rInt b t4) fun x4 t5 =>
  RB (rInt b t5) fun x5 t6 =>
  RB (rBool b t6) fun x6 t7 =>
  RB (rInt b t7) fun x7 t8 =>
  RB (rInt b t8) fun x8 t9 =>
  RB (rInt b t9) fun x9 t10 =>
  .ok ({ Shape := { Kind := x0, Radius := x1, Vertices := x2 }, Density := x3, Friction := x4, Restitution := x5, Sensor := x6, Category := x7, Mask := x8, Group := x9 }, t10)
theorem s_dec_fixture (b : List Int) (t0 : Int) (hb : b.length ≤ 549755813888) (hB : bytes b) : CallsT Tryz.prog evD F_snapshot_decoder_fixture [.ptr 1 0 0 1] (dO b t0) (tRes (fun x : Fixture × Int => [.agg x.1.enc]) (fun x => dO b x.2) (rFixture b t0)) := by
  refine enD 40 [(2, some (some 10))] hm shOk Tryz.func118 rfl ?_
  simp only [go_sem]
  refine CallGiT_sub (s_dec_int b t0 hb hB) rfl (okO_dO _ _) (fun _ => rfl) (by simp [go_sem]) (by simp [go_sem, AV.ids]) rfl (fun e he => tRes_err (by simp only [rFixture, RB, he])) (fun y h0 => ?_)
  obtain ⟨x0, t1⟩ := y
  simp only [go_sem]
  refine CallGiT_sub (s_dec_int b t1 hb hB) rfl (okO_dO _ _) (fun _ => rfl) (by simp [go_sem]) (by simp [go_sem, AV.ids]) rfl (fun e he => tRes_err (by simp only [rFixture, RB, h0, he])) (fun y h1 => ?_)
  obtain ⟨x1, t2⟩ := y
  simp only [go_sem]
  refine CallGiT_sub (s_dec_slice_Vec b t2 hb hB (rVec b) F_snapshot_decoder_vec (fun t => s_dec_vec b t hb hB)) rfl (okO_dO _ _) (fun _ => rfl) (by simp [go_sem]) (by simp [go_sem, AV.ids]) rfl (fun e he => tRes_err (by simp only [rFixture, RB, h0, h1, he])) (fun y h2 => ?_)
  obtain ⟨x2, t3⟩ := y
  simp only [go_sem]
  refine CallGiT_sub (s_dec_int b t3 hb hB) rfl (okO_dO _ _) (fun _ => rfl) (by simp [go_sem]) (by simp [go_sem, AV.ids]) rfl (fun e he => tRes_err (by simp only [rFixture, RB, h0, h1, h2, he])) (fun y h3 => ?_)
  obtain ⟨x3, t4⟩ := y
  simp only [go_sem]
  refine CallGiT_sub (s_dec_int b t4 hb hB) rfl (okO_dO _ _) (fun _ => rfl) (by simp [go_sem]) (by simp [go_sem, AV.ids]) rfl (fun e he => tRes_err (by simp only [rFixture, RB, h0, h1, h2, h3, he])) (fun y h4 => ?_)
  obtain ⟨x4, t5⟩ := y
  simp only [go_sem]
  refine CallGiT_sub (s_dec_int b t5 hb hB) rfl (okO_dO _ _) (fun _ => rfl) (by simp [go_sem]) (by simp [go_sem, AV.ids]) rfl (fun e he => tRes_err (by simp only [rFixture, RB, h0, h1, h2, h3, h4, he])) (fun y h5 => ?_)
  obtain ⟨x5, t6⟩ := y
  simp only [go_sem]
  refine CallGiT_sub (s_dec_bool b t6 hb) rfl (okO_dO _ _) (fun _ => rfl) (by simp [go_sem]) (by simp [go_sem, AV.ids]) rfl (fun e he => tRes_err (by simp only [rFixture, RB, h0, h1, h2, h3, h4, h5, he])) (fun y h6 => ?_)
  obtain ⟨x6, t7⟩ := y
  simp only [go_sem]
  refine CallGiT_sub (s_dec_int b t7 hb hB) rfl (okO_dO _ _) (fun _ => rfl) (by simp [go_sem]) (by simp [go_sem, AV.ids]) rfl (fun e he => tRes_err (by simp only [rFixture, RB, h0, h1, h2, h3, h4, h5, h6, he])) (fun y h7 => ?_)
  obtain ⟨x7, t8⟩ := y
  simp only [go_sem]
  refine CallGiT_sub (s_dec_int b t8 hb hB) rfl (okO_dO _ _) (fun _ => rfl) (by simp [go_sem]) (by simp [go_sem, AV.ids]) rfl (fun e he => tRes_err (by simp only [rFixture, RB, h0, h1, h2, h3, h4, h5, h6, h7, he])) (fun y h8 => ?_)
  obtain ⟨x8, t9⟩ := y
  simp only [go_sem]
  refine CallGiT_sub (s_dec_int b t9 hb hB) rfl (okO_dO _ _) (fun _ => rfl) (by simp [go_sem]) (by simp [go_sem, AV.ids]) rfl (fun e he => tRes_err (by simp only [rFixture, RB, h0, h1, h2, h3, h4, h5, h6, h7, h8, he])) (fun y h9 => ?_)
  obtain ⟨x9, t10⟩ := y
  simp only [go_sem]
  refine retT_ok ({ Shape := { Kind := x0, Radius := x1, Vertices := x2 }, Density := x3, Friction := x4, Restitution := x5, Sensor := x6, Category := x7, Mask := x8, Group := x9 }, t10) (by simp only [rFixture, RB, h0, h1, h2, h3, h4, h5, h6, h7, h8, h9]) ?_
  simp only [retR, go_sem]
  refine retW_of [.share] [] [] rfl rfl (by simp [go_sem]) (by simp [assoc, go_sem]) (by simp [go_sem]) ?_
  simp only [go_sem]
def rBody (b : List Int) (t0 : Int) : Except Int (Body × Int) :=
  RB (rInt b t0) fun x0 t1 =>
  RB (rInt b t1) fun x1 t2 =>
  RB (rVec b t2) fun x2 t3 =>
  RB (rInt b t3) fun x3 t4 =>
  RB (rVec b t4) fun x4 t5 =>
  RB (rInt b t5) fun x5 t6 =>
  RB (rVec b t6) fun x6 t7 =>
  RB (rInt b t7) fun x7 t8 =>
  RB (rInt b t8) fun x8 t9 =>
  RB (rInt b t9) fun x9 t10 =>
  RB (rInt b t10) fun x10 t11 =>
  RB (rBool b t11) fun x11 t12 =>
  RB (rBool b t12) fun x12 t13 =>
  RB (rBool b t13) fun x13 t14 =>
  RB (rBool b t14) fun x14 t15 =>
  RB (rInt b t15) fun x15 t16 =>
  RB (rSl (rFixture b) b t16) fun x16 t17 =>
  .ok ({ ID := x0, Kind := x1, Transform := { Position := x2, Angle := x3 }, Velocity := x4, AngularVelocity := x5, Force := x6, Torque := x7, LinearDamping := x8, AngularDamping := x9, GravityScale := x10, Bullet := x11, FixedRotation := x12, NoSleep := x13, Asleep := x14, IdleSteps := x15, Fixtures := x16 }, t17)
theorem s_dec_body (b : List Int) (t0 : Int) (hb : b.length ≤ 549755813888) (hB : bytes b) : CallsT Tryz.prog evD F_snapshot_decoder_body [.ptr 1 0 0 1] (dO b t0) (tRes (fun x : Body × Int => [.agg x.1.enc]) (fun x => dO b x.2) (rBody b t0)) := by
  refine enD 60 [(2, some (some 20))] hm shOk Tryz.func64 rfl ?_
  simp only [go_sem]
  refine CallGiT_sub (s_dec_int b t0 hb hB) rfl (okO_dO _ _) (fun _ => rfl) (by simp [go_sem]) (by simp [go_sem, AV.ids]) rfl (fun e he => tRes_err (by simp only [rBody, RB, he])) (fun y h0 => ?_)
  obtain ⟨x0, t1⟩ := y
  simp only [go_sem]
  refine CallGiT_sub (s_dec_int b t1 hb hB) rfl (okO_dO _ _) (fun _ => rfl) (by simp [go_sem]) (by simp [go_sem, AV.ids]) rfl (fun e he => tRes_err (by simp only [rBody, RB, h0, he])) (fun y h1 => ?_)
  obtain ⟨x1, t2⟩ := y
  simp only [go_sem]
  refine CallGiT_sub (s_dec_vec b t2 hb hB) rfl (okO_dO _ _) (fun _ => rfl) (by simp [go_sem]) (by simp [go_sem, AV.ids]) rfl (fun e he => tRes_err (by simp only [rBody, RB, h0, h1, he])) (fun y h2 => ?_)
  obtain ⟨x2, t3⟩ := y
  simp only [go_sem]
  refine CallGiT_sub (s_dec_int b t3 hb hB) rfl (okO_dO _ _) (fun _ => rfl) (by simp [go_sem]) (by simp [go_sem, AV.ids]) rfl (fun e he => tRes_err (by simp only [rBody, RB, h0, h1, h2, he])) (fun y h3 => ?_)
  obtain ⟨x3, t4⟩ := y
  simp only [go_sem]
  refine CallGiT_sub (s_dec_vec b t4 hb hB) rfl (okO_dO _ _) (fun _ => rfl) (by simp [go_sem]) (by simp [go_sem, AV.ids]) rfl (fun e he => tRes_err (by simp only [rBody, RB, h0, h1, h2, h3, he])) (fun y h4 => ?_)
  obtain ⟨x4, t5⟩ := y
  simp only [go_sem]
  refine CallGiT_sub (s_dec_int b t5 hb hB) rfl (okO_dO _ _) (fun _ => rfl) (by simp [go_sem]) (by simp [go_sem, AV.ids]) rfl (fun e he => tRes_err (by simp only [rBody, RB, h0, h1, h2, h3, h4, he])) (fun y h5 => ?_)
  obtain ⟨x5, t6⟩ := y
  simp only [go_sem]
  refine CallGiT_sub (s_dec_vec b t6 hb hB) rfl (okO_dO _ _) (fun _ => rfl) (by simp [go_sem]) (by simp [go_sem, AV.ids]) rfl (fun e he => tRes_err (by simp only [rBody, RB, h0, h1, h2, h3, h4, h5, he])) (fun y h6 => ?_)
  obtain ⟨x6, t7⟩ := y
  simp only [go_sem]
  refine CallGiT_sub (s_dec_int b t7 hb hB) rfl (okO_dO _ _) (fun _ => rfl) (by simp [go_sem]) (by simp [go_sem, AV.ids]) rfl (fun e he => tRes_err (by simp only [rBody, RB, h0, h1, h2, h3, h4, h5, h6, he])) (fun y h7 => ?_)
  obtain ⟨x7, t8⟩ := y
  simp only [go_sem]
  refine CallGiT_sub (s_dec_int b t8 hb hB) rfl (okO_dO _ _) (fun _ => rfl) (by simp [go_sem]) (by simp [go_sem, AV.ids]) rfl (fun e he => tRes_err (by simp only [rBody, RB, h0, h1, h2, h3, h4, h5, h6, h7, he])) (fun y h8 => ?_)
  obtain ⟨x8, t9⟩ := y
  simp only [go_sem]
  refine CallGiT_sub (s_dec_int b t9 hb hB) rfl (okO_dO _ _) (fun _ => rfl) (by simp [go_sem]) (by simp [go_sem, AV.ids]) rfl (fun e he => tRes_err (by simp only [rBody, RB, h0, h1, h2, h3, h4, h5, h6, h7, h8, he])) (fun y h9 => ?_)
  obtain ⟨x9, t10⟩ := y
  simp only [go_sem]
  refine CallGiT_sub (s_dec_int b t10 hb hB) rfl (okO_dO _ _) (fun _ => rfl) (by simp [go_sem]) (by simp [go_sem, AV.ids]) rfl (fun e he => tRes_err (by simp only [rBody, RB, h0, h1, h2, h3, h4, h5, h6, h7, h8, h9, he])) (fun y h10 => ?_)
  obtain ⟨x10, t11⟩ := y
  simp only [go_sem]
  refine CallGiT_sub (s_dec_bool b t11 hb) rfl (okO_dO _ _) (fun _ => rfl) (by simp [go_sem]) (by simp [go_sem, AV.ids]) rfl (fun e he => tRes_err (by simp only [rBody, RB, h0, h1, h2, h3, h4, h5, h6, h7, h8, h9, h10, he])) (fun y h11 => ?_)
  obtain ⟨x11, t12⟩ := y
  simp only [go_sem]
  refine CallGiT_sub (s_dec_bool b t12 hb) rfl (okO_dO _ _) (fun _ => rfl) (by simp [go_sem]) (by simp [go_sem, AV.ids]) rfl (fun e he => tRes_err (by simp only [rBody, RB, h0, h1, h2, h3, h4, h5, h6, h7, h8, h9, h10, h11, he])) (fun y h12 => ?_)
  obtain ⟨x12, t13⟩ := y
  simp only [go_sem]
  refine CallGiT_sub (s_dec_bool b t13 hb) rfl (okO_dO _ _) (fun _ => rfl) (by simp [go_sem]) (by simp [go_sem, AV.ids]) rfl (fun e he => tRes_err (by simp only [rBody, RB, h0, h1, h2, h3, h4, h5, h6, h7, h8, h9, h10, h11, h12, he])) (fun y h13 => ?_)
  obtain ⟨x13, t14⟩ := y
  simp only [go_sem]
  refine CallGiT_sub (s_dec_bool b t14 hb) rfl (okO_dO _ _) (fun _ => rfl) (by simp [go_sem]) (by simp [go_sem, AV.ids]) rfl (fun e he => tRes_err (by simp only [rBody, RB, h0, h1, h2, h3, h4, h5, h6, h7, h8, h9, h10, h11, h12, h13, he])) (fun y h14 => ?_)
  obtain ⟨x14, t15⟩ := y
  simp only [go_sem]
  refine CallGiT_sub (s_dec_int b t15 hb hB) rfl (okO_dO _ _) (fun _ => rfl) (by simp [go_sem]) (by simp [go_sem, AV.ids]) rfl (fun e he => tRes_err (by simp only [rBody, RB, h0, h1, h2, h3, h4, h5, h6, h7, h8, h9, h10, h11, h12, h13, h14, he])) (fun y h15 => ?_)
  obtain ⟨x15, t16⟩ := y
  simp only [go_sem]
  refine CallGiT_sub (s_dec_slice_Fixture b t16 hb hB (rFixture b) F_snapshot_decoder_fixture (fun t => s_dec_fixture b t hb hB)) rfl (okO_dO _ _) (fun _ => rfl) (by simp [go_sem]) (by simp [go_sem, AV.ids]) rfl (fun e he => tRes_err (by simp only [rBody, RB, h0, h1, h2, h3, h4, h5, h6, h7, h8, h9, h10, h11, h12, h13, h14, h15, he])) (fun y h16 => ?_)
  obtain ⟨x16, t17⟩ := y
  simp only [go_sem]
  refine retT_ok ({ ID := x0, Kind := x1, Transform := { Position := x2, Angle := x3 }, Velocity := x4, AngularVelocity := x5, Force := x6, Torque := x7, LinearDamping := x8, AngularDamping := x9, GravityScale := x10, Bullet := x11, FixedRotation := x12, NoSleep := x13, Asleep := x14, IdleSteps := x15, Fixtures := x16 }, t17) (by simp only [rBody, RB, h0, h1, h2, h3, h4, h5, h6, h7, h8, h9, h10, h11, h12, h13, h14, h15, h16]) ?_
  simp only [retR, go_sem]
  refine retW_of [.share] [] [] rfl rfl (by simp [go_sem]) (by simp [assoc, go_sem]) (by simp [go_sem]) ?_
  simp only [go_sem]
end Go.Abs
end
section
namespace Go.Abs
open Go.Proofs
open Api
def rJoint (b : List Int) (t0 : Int) : Except Int (Joint × Int) :=
  RB (rInt b t0) fun x0 t1 =>
  RB (rInt b t1) fun x1 t2 =>
  RB (rInt b t2) fun x2 t3 =>
  RB (rInt b t3) fun x3 t4 =>
  RB (rVec b t4) fun x4 t5 =>
  RB (rVec b t5) fun x5 t6 =>
  RB (rVec b t6) fun x6 t7 =>
  RB (rInt b t7) fun x7 t8 =>
  RB (rBool b t8) fun x8 t9 =>
  RB (rInt b t9) fun x9 t10 =>
  RB (rInt b t10) fun x10 t11 =>
  RB (rBool b t11) fun x11 t12 =>
  RB (rInt b t12) fun x12 t13 =>
  RB (rInt b t13) fun x13 t14 =>
  RB (rInt b t14) fun x14 t15 =>
  RB (rInt b t15) fun x15 t16 =>
  RB (rBool b t16) fun x16 t17 =>
  RB (rN (rInt b) t17 4) fun l t => .ok ({ ID := x0, Kind := x1, BodyA := x2, BodyB := x3, AnchorA := x4, AnchorB := x5, Axis := x6, ReferenceAngle := x7, EnableLimit := x8, Lower := x9, Upper := x10, EnableMotor := x11, MotorSpeed := x12, MaxForce := x13, Softness := x14, BreakForce := x15, CollideConnected := x16, Impulses := ⟨l.getD 0 0, l.getD 1 0, l.getD 2 0, l.getD 3 0⟩ }, t)
theorem s_dec_joint (b : List Int) (t0 : Int) (hb : b.length ≤ 549755813888) (hB : bytes b) : CallsT Tryz.prog evD F_snapshot_decoder_joint [.ptr 1 0 0 1] (dO b t0) (tRes (fun x : Joint × Int => [.agg x.1.enc]) (fun x => dO b x.2) (rJoint b t0)) := by
  refine enD 66 [(2, some (some 24))] hm shOk Tryz.func66 rfl ?_
  simp only [go_sem]
  refine CallGiT_sub (s_dec_int b t0 hb hB) rfl (okO_dO _ _) (fun _ => rfl) (by simp [go_sem]) (by simp [go_sem, AV.ids]) rfl (fun e he => tRes_err (by simp only [rJoint, RB, he])) (fun y h0 => ?_)
  obtain ⟨x0, t1⟩ := y
  simp only [go_sem]
  refine CallGiT_sub (s_dec_int b t1 hb hB) rfl (okO_dO _ _) (fun _ => rfl) (by simp [go_sem]) (by simp [go_sem, AV.ids]) rfl (fun e he => tRes_err (by simp only [rJoint, RB, h0, he])) (fun y h1 => ?_)
  obtain ⟨x1, t2⟩ := y
  simp only [go_sem]
  refine CallGiT_sub (s_dec_int b t2 hb hB) rfl (okO_dO _ _) (fun _ => rfl) (by simp [go_sem]) (by simp [go_sem, AV.ids]) rfl (fun e he => tRes_err (by simp only [rJoint, RB, h0, h1, he])) (fun y h2 => ?_)
  obtain ⟨x2, t3⟩ := y
  simp only [go_sem]
  refine CallGiT_sub (s_dec_int b t3 hb hB) rfl (okO_dO _ _) (fun _ => rfl) (by simp [go_sem]) (by simp [go_sem, AV.ids]) rfl (fun e he => tRes_err (by simp only [rJoint, RB, h0, h1, h2, he])) (fun y h3 => ?_)
  obtain ⟨x3, t4⟩ := y
  simp only [go_sem]
  refine CallGiT_sub (s_dec_vec b t4 hb hB) rfl (okO_dO _ _) (fun _ => rfl) (by simp [go_sem]) (by simp [go_sem, AV.ids]) rfl (fun e he => tRes_err (by simp only [rJoint, RB, h0, h1, h2, h3, he])) (fun y h4 => ?_)
  obtain ⟨x4, t5⟩ := y
  simp only [go_sem]
  refine CallGiT_sub (s_dec_vec b t5 hb hB) rfl (okO_dO _ _) (fun _ => rfl) (by simp [go_sem]) (by simp [go_sem, AV.ids]) rfl (fun e he => tRes_err (by simp only [rJoint, RB, h0, h1, h2, h3, h4, he])) (fun y h5 => ?_)
  obtain ⟨x5, t6⟩ := y
  simp only [go_sem]
  refine CallGiT_sub (s_dec_vec b t6 hb hB) rfl (okO_dO _ _) (fun _ => rfl) (by simp [go_sem]) (by simp [go_sem, AV.ids]) rfl (fun e he => tRes_err (by simp only [rJoint, RB, h0, h1, h2, h3, h4, h5, he])) (fun y h6 => ?_)
  obtain ⟨x6, t7⟩ := y
  simp only [go_sem]
  refine CallGiT_sub (s_dec_int b t7 hb hB) rfl (okO_dO _ _) (fun _ => rfl) (by simp [go_sem]) (by simp [go_sem, AV.ids]) rfl (fun e he => tRes_err (by simp only [rJoint, RB, h0, h1, h2, h3, h4, h5, h6, he])) (fun y h7 => ?_)
  obtain ⟨x7, t8⟩ := y
  simp only [go_sem]
  refine CallGiT_sub (s_dec_bool b t8 hb) rfl (okO_dO _ _) (fun _ => rfl) (by simp [go_sem]) (by simp [go_sem, AV.ids]) rfl (fun e he => tRes_err (by simp only [rJoint, RB, h0, h1, h2, h3, h4, h5, h6, h7, he])) (fun y h8 => ?_)
  obtain ⟨x8, t9⟩ := y
  simp only [go_sem]
  refine CallGiT_sub (s_dec_int b t9 hb hB) rfl (okO_dO _ _) (fun _ => rfl) (by simp [go_sem]) (by simp [go_sem, AV.ids]) rfl (fun e he => tRes_err (by simp only [rJoint, RB, h0, h1, h2, h3, h4, h5, h6, h7, h8, he])) (fun y h9 => ?_)
  obtain ⟨x9, t10⟩ := y
  simp only [go_sem]
  refine CallGiT_sub (s_dec_int b t10 hb hB) rfl (okO_dO _ _) (fun _ => rfl) (by simp [go_sem]) (by simp [go_sem, AV.ids]) rfl (fun e he => tRes_err (by simp only [rJoint, RB, h0, h1, h2, h3, h4, h5, h6, h7, h8, h9, he])) (fun y h10 => ?_)
  obtain ⟨x10, t11⟩ := y
  simp only [go_sem]
  refine CallGiT_sub (s_dec_bool b t11 hb) rfl (okO_dO _ _) (fun _ => rfl) (by simp [go_sem]) (by simp [go_sem, AV.ids]) rfl (fun e he => tRes_err (by simp only [rJoint, RB, h0, h1, h2, h3, h4, h5, h6, h7, h8, h9, h10, he])) (fun y h11 => ?_)
  obtain ⟨x11, t12⟩ := y
  simp only [go_sem]
  refine CallGiT_sub (s_dec_int b t12 hb hB) rfl (okO_dO _ _) (fun _ => rfl) (by simp [go_sem]) (by simp [go_sem, AV.ids]) rfl (fun e he => tRes_err (by simp only [rJoint, RB, h0, h1, h2, h3, h4, h5, h6, h7, h8, h9, h10, h11, he])) (fun y h12 => ?_)
  obtain ⟨x12, t13⟩ := y
  simp only [go_sem]
  refine CallGiT_sub (s_dec_int b t13 hb hB) rfl (okO_dO _ _) (fun _ => rfl) (by simp [go_sem]) (by simp [go_sem, AV.ids]) rfl (fun e he => tRes_err (by simp only [rJoint, RB, h0, h1, h2, h3, h4, h5, h6, h7, h8, h9, h10, h11, h12, he])) (fun y h13 => ?_)
  obtain ⟨x13, t14⟩ := y
  simp only [go_sem]
  refine CallGiT_sub (s_dec_int b t14 hb hB) rfl (okO_dO _ _) (fun _ => rfl) (by simp [go_sem]) (by simp [go_sem, AV.ids]) rfl (fun e he => tRes_err (by simp only [rJoint, RB, h0, h1, h2, h3, h4, h5, h6, h7, h8, h9, h10, h11, h12, h13, he])) (fun y h14 => ?_)
  obtain ⟨x14, t15⟩ := y
  simp only [go_sem]
  refine CallGiT_sub (s_dec_int b t15 hb hB) rfl (okO_dO _ _) (fun _ => rfl) (by simp [go_sem]) (by simp [go_sem, AV.ids]) rfl (fun e he => tRes_err (by simp only [rJoint, RB, h0, h1, h2, h3, h4, h5, h6, h7, h8, h9, h10, h11, h12, h13, h14, he])) (fun y h15 => ?_)
  obtain ⟨x15, t16⟩ := y
  simp only [go_sem]
  refine CallGiT_sub (s_dec_bool b t16 hb) rfl (okO_dO _ _) (fun _ => rfl) (by simp [go_sem]) (by simp [go_sem, AV.ids]) rfl (fun e he => tRes_err (by simp only [rJoint, RB, h0, h1, h2, h3, h4, h5, h6, h7, h8, h9, h10, h11, h12, h13, h14, h15, he])) (fun y h16 => ?_)
  obtain ⟨x16, t17⟩ := y
  simp only [go_sem]
  have hsp : rJoint b t0 = RB (rN (rInt b) t17 4) fun l t => .ok ({ ID := x0, Kind := x1, BodyA := x2, BodyB := x3, AnchorA := x4, AnchorB := x5, Axis := x6, ReferenceAngle := x7, EnableLimit := x8, Lower := x9, Upper := x10, EnableMotor := x11, MotorSpeed := x12, MaxForce := x13, Softness := x14, BreakForce := x15, CollideConnected := x16, Impulses := ⟨l.getD 0 0, l.getD 1 0, l.getD 2 0, l.getD 3 0⟩ }, t) := by simp only [rJoint, RB, h0, h1, h2, h3, h4, h5, h6, h7, h8, h9, h10, h11, h12, h13, h14, h15, h16]
  refine WpiT_loop hm (ι := {i : Nat × List Int × Int // i.1 ≤ 4 ∧ rN (rInt b) t17 i.1 = .ok i.2}) (fun i => [(0, .share, .ptr 1 0 0 1), (2, .share, .ptr 48 0 0 1), (3, .share, .ptr 64 0 0 1), (56, .share, .sc (.int .i64 i.1.1))])
    (fun i => [(1, .box [encD 1 encU8 0 b, .sc (.int .i64 i.1.2.2)]), (48, .box (Joint.zero)), (64, .box [.sc (.int .i64 x0), .sc (.int .i64 x1), .sc (.int .i64 x2), .sc (.int .i64 x3), .sc (.int .i64 x4.X), .sc (.int .i64 x4.Y), .sc (.int .i64 x5.X), .sc (.int .i64 x5.Y), .sc (.int .i64 x6.X), .sc (.int .i64 x6.Y), .sc (.int .i64 x7), .sc (.bool x8), .sc (.int .i64 x9), .sc (.int .i64 x10), .sc (.bool x11), .sc (.int .i64 x12), .sc (.int .i64 x13), .sc (.int .i64 x14), .sc (.int .i64 x15), .sc (.bool x16), .sc (.int .i64 (i.1.2.1.getD 0 0)), .sc (.int .i64 (i.1.2.1.getD 1 0)), .sc (.int .i64 (i.1.2.1.getD 2 0)), .sc (.int .i64 (i.1.2.1.getD 3 0))])]) (fun i => 4 - i.1.1) ⟨(0, [], t17), Nat.zero_le 4, rfl⟩ ?_ ?_
  · refine weakE_ [] [] ?_
    simp only [List.getD, List.getElem?_nil, Option.getD_none, Joint.zero, go_sem]
    try simp
  · rintro ⟨⟨i, l, t⟩, hi, hr⟩
    have hl : l.length = i := rN_len hr
    have hi : i ≤ 4 := hi
    have hr : rN (rInt b) t17 i = .ok (l, t) := hr
    have hc : i = 0 ∨ i = 1 ∨ i = 2 ∨ i = 3 ∨ i = 4 := by omega
    clear hi
    rcases hc with rfl | rfl | rfl | rfl | rfl
    · match l, hl, hr with
      | [], _, hr =>
        simp only [go_sem]
        rw [if_pos (by decide)]
        refine CallGiT_sub (s_dec_int b t hb hB) rfl (okO_dO _ _) (fun _ => rfl) (by simp [go_sem]) (by simp [go_sem, AV.ids]) rfl (fun e he => tRes_err ?_) (fun x he => ?_)
        · rw [hsp, rN_err (i := 1) (e := e) (by rw [rN, hr]; simp only [he]) (by decide)]; rfl
        · have hr2 : rN (rInt b) t17 1 = .ok ([] ++ [x.1], x.2) := by rw [rN, hr]; simp only [he]
          simp only [List.getD, List.getElem?_nil, List.getElem?_cons_zero, List.getElem?_cons_succ, Option.getD_none, Option.getD_some, Int.toNat_natCast, go_sem]
          refine ⟨ok_, ?_⟩
          refine loop_next ⟨(1, [] ++ [x.1], x.2), (by omega : 1 ≤ 4), hr2⟩ (by show 4 - 1 < 4 - 0; decide) (weakE_ [] [] ?_)
          simp only [List.getD, List.getElem?_nil, List.getElem?_cons_zero, List.getElem?_cons_succ, Option.getD_none, Option.getD_some, Int.toNat_natCast, List.cons_append, List.nil_append, go_sem]
          decide
    · match l, hl, hr with
      | [a0], _, hr =>
        simp only [go_sem]
        rw [if_pos (by decide)]
        refine CallGiT_sub (s_dec_int b t hb hB) rfl (okO_dO _ _) (fun _ => rfl) (by simp [go_sem]) (by simp [go_sem, AV.ids]) rfl (fun e he => tRes_err ?_) (fun x he => ?_)
        · rw [hsp, rN_err (i := 2) (e := e) (by rw [rN, hr]; simp only [he]) (by decide)]; rfl
        · have hr2 : rN (rInt b) t17 2 = .ok ([a0] ++ [x.1], x.2) := by rw [rN, hr]; simp only [he]
          simp only [List.getD, List.getElem?_nil, List.getElem?_cons_zero, List.getElem?_cons_succ, Option.getD_none, Option.getD_some, Int.toNat_natCast, go_sem]
          refine ⟨ok_, ?_⟩
          refine loop_next ⟨(2, [a0] ++ [x.1], x.2), (by omega : 2 ≤ 4), hr2⟩ (by show 4 - 2 < 4 - 1; decide) (weakE_ [] [] ?_)
          simp only [List.getD, List.getElem?_nil, List.getElem?_cons_zero, List.getElem?_cons_succ, Option.getD_none, Option.getD_some, Int.toNat_natCast, List.cons_append, List.nil_append, go_sem]
          decide
    · match l, hl, hr with
      | [a0, a1], _, hr =>
        simp only [go_sem]
        rw [if_pos (by decide)]
        refine CallGiT_sub (s_dec_int b t hb hB) rfl (okO_dO _ _) (fun _ => rfl) (by simp [go_sem]) (by simp [go_sem, AV.ids]) rfl (fun e he => tRes_err ?_) (fun x he => ?_)
        · rw [hsp, rN_err (i := 3) (e := e) (by rw [rN, hr]; simp only [he]) (by decide)]; rfl
        · have hr2 : rN (rInt b) t17 3 = .ok ([a0, a1] ++ [x.1], x.2) := by rw [rN, hr]; simp only [he]
          simp only [List.getD, List.getElem?_nil, List.getElem?_cons_zero, List.getElem?_cons_succ, Option.getD_none, Option.getD_some, Int.toNat_natCast, go_sem]
          refine ⟨ok_, ?_⟩
          refine loop_next ⟨(3, [a0, a1] ++ [x.1], x.2), (by omega : 3 ≤ 4), hr2⟩ (by show 4 - 3 < 4 - 2; decide) (weakE_ [] [] ?_)
          simp only [List.getD, List.getElem?_nil, List.getElem?_cons_zero, List.getElem?_cons_succ, Option.getD_none, Option.getD_some, Int.toNat_natCast, List.cons_append, List.nil_append, go_sem]
          decide
    · match l, hl, hr with
      | [a0, a1, a2], _, hr =>
        simp only [go_sem]
        rw [if_pos (by decide)]
        refine CallGiT_sub (s_dec_int b t hb hB) rfl (okO_dO _ _) (fun _ => rfl) (by simp [go_sem]) (by simp [go_sem, AV.ids]) rfl (fun e he => tRes_err ?_) (fun x he => ?_)
        · rw [hsp, rN_err (i := 4) (e := e) (by rw [rN, hr]; simp only [he]) (by decide)]; rfl
        · have hr2 : rN (rInt b) t17 4 = .ok ([a0, a1, a2] ++ [x.1], x.2) := by rw [rN, hr]; simp only [he]
          simp only [List.getD, List.getElem?_nil, List.getElem?_cons_zero, List.getElem?_cons_succ, Option.getD_none, Option.getD_some, Int.toNat_natCast, go_sem]
          refine ⟨ok_, ?_⟩
          refine loop_next ⟨(4, [a0, a1, a2] ++ [x.1], x.2), (by omega : 4 ≤ 4), hr2⟩ (by show 4 - 4 < 4 - 3; decide) (weakE_ [] [] ?_)
          simp only [List.getD, List.getElem?_nil, List.getElem?_cons_zero, List.getElem?_cons_succ, Option.getD_none, Option.getD_some, Int.toNat_natCast, List.cons_append, List.nil_append, go_sem]
          decide
    · match l, hl, hr with
      | [a0, a1, a2, a3], _, hr =>
        simp only [go_sem]
        rw [if_neg (by decide)]
        simp only [List.getD, List.getElem?_nil, List.getElem?_cons_zero, List.getElem?_cons_succ, Option.getD_none, Option.getD_some, Joint.zero, go_sem]
        refine retT_ok ({ ID := x0, Kind := x1, BodyA := x2, BodyB := x3, AnchorA := x4, AnchorB := x5, Axis := x6, ReferenceAngle := x7, EnableLimit := x8, Lower := x9, Upper := x10, EnableMotor := x11, MotorSpeed := x12, MaxForce := x13, Softness := x14, BreakForce := x15, CollideConnected := x16, Impulses := ⟨[a0, a1, a2, a3].getD 0 0, [a0, a1, a2, a3].getD 1 0, [a0, a1, a2, a3].getD 2 0, [a0, a1, a2, a3].getD 3 0⟩ }, t) (by rw [hsp, hr]; rfl) ?_
        simp only [retR, go_sem]
        refine retW_of [.share] [] [] rfl rfl (by simp [go_sem]) (by simp [assoc, go_sem]) (by simp [go_sem]) ?_
        simp only [List.getD, List.getElem?_nil, List.getElem?_cons_zero, List.getElem?_cons_succ, Option.getD_none, Option.getD_some, go_sem]
end Go.Abs
end
section
namespace Go.Abs
open Go.Proofs
open Api
def rWorld (b : List Int) (t0 : Int) : Except Int (Api.World × Int) :=
  RB (rInt b t0) fun x0 t1 =>
  RB (rVec b t1) fun x1 t2 =>
  RB (rInt b t2) fun x2 t3 =>
  RB (rInt b t3) fun x3 t4 =>
  RB (rSl (rBody b) b t4) fun x4 t5 =>
  RB (rSl (rJoint b) b t5) fun x5 t6 =>
  RB (rSl (rContact b) b t6) fun x6 t7 =>
  RB (rSl (rKey b) b t7) fun x7 t8 =>
  RB (rInt b t8) fun x8 t9 =>
  RB (rInt b t9) fun x9 t10 =>
  .ok ({ Settings := { TimeStep := x0, Gravity := x1, Iterations := x2, SleepSteps := x3 }, Bodies := x4, Joints := x5, Contacts := x6, Overlaps := x7, NextID := x8, Frame := x9 }, t10)
theorem s_dec_world (b : List Int) (t0 : Int) (hb : b.length ≤ 549755813888) (hB : bytes b) : CallsT Tryz.prog evD F_snapshot_decoder_world [.ptr 1 0 0 1] (dO b t0) (tRes (fun x : Api.World × Int => [.agg x.1.enc]) (fun x => dO b x.2) (rWorld b t0)) := by
  refine enD 47 [(2, some (some 11))] hm shOk Tryz.func32 rfl ?_
  simp only [go_sem]
  refine CallGiT_sub (s_dec_int b t0 hb hB) rfl (okO_dO _ _) (fun _ => rfl) (by simp [go_sem]) (by simp [go_sem, AV.ids]) rfl (fun e he => tRes_err (by simp only [rWorld, RB, he])) (fun y h0 => ?_)
  obtain ⟨x0, t1⟩ := y
  simp only [go_sem]
  refine CallGiT_sub (s_dec_vec b t1 hb hB) rfl (okO_dO _ _) (fun _ => rfl) (by simp [go_sem]) (by simp [go_sem, AV.ids]) rfl (fun e he => tRes_err (by simp only [rWorld, RB, h0, he])) (fun y h1 => ?_)
  obtain ⟨x1, t2⟩ := y
  simp only [go_sem]
  refine CallGiT_sub (s_dec_int b t2 hb hB) rfl (okO_dO _ _) (fun _ => rfl) (by simp [go_sem]) (by simp [go_sem, AV.ids]) rfl (fun e he => tRes_err (by simp only [rWorld, RB, h0, h1, he])) (fun y h2 => ?_)
  obtain ⟨x2, t3⟩ := y
  simp only [go_sem]
  refine CallGiT_sub (s_dec_int b t3 hb hB) rfl (okO_dO _ _) (fun _ => rfl) (by simp [go_sem]) (by simp [go_sem, AV.ids]) rfl (fun e he => tRes_err (by simp only [rWorld, RB, h0, h1, h2, he])) (fun y h3 => ?_)
  obtain ⟨x3, t4⟩ := y
  simp only [go_sem]
  refine CallGiT_sub (s_dec_slice_Body b t4 hb hB (rBody b) F_snapshot_decoder_body (fun t => s_dec_body b t hb hB)) rfl (okO_dO _ _) (fun _ => rfl) (by simp [go_sem]) (by simp [go_sem, AV.ids]) rfl (fun e he => tRes_err (by simp only [rWorld, RB, h0, h1, h2, h3, he])) (fun y h4 => ?_)
  obtain ⟨x4, t5⟩ := y
  simp only [go_sem]
  refine CallGiT_sub (s_dec_slice_Joint b t5 hb hB (rJoint b) F_snapshot_decoder_joint (fun t => s_dec_joint b t hb hB)) rfl (okO_dO _ _) (fun _ => rfl) (by simp [go_sem]) (by simp [go_sem, AV.ids]) rfl (fun e he => tRes_err (by simp only [rWorld, RB, h0, h1, h2, h3, h4, he])) (fun y h5 => ?_)
  obtain ⟨x5, t6⟩ := y
  simp only [go_sem]
  refine CallGiT_sub (s_dec_slice_Contact b t6 hb hB (rContact b) F_snapshot_decoder_contact (fun t => s_dec_contact b t hb hB)) rfl (okO_dO _ _) (fun _ => rfl) (by simp [go_sem]) (by simp [go_sem, AV.ids]) rfl (fun e he => tRes_err (by simp only [rWorld, RB, h0, h1, h2, h3, h4, h5, he])) (fun y h6 => ?_)
  obtain ⟨x6, t7⟩ := y
  simp only [go_sem]
  refine CallGiT_sub (s_dec_slice_PairKey b t7 hb hB (rKey b) F_snapshot_decoder_key (fun t => s_dec_key b t hb hB)) rfl (okO_dO _ _) (fun _ => rfl) (by simp [go_sem]) (by simp [go_sem, AV.ids]) rfl (fun e he => tRes_err (by simp only [rWorld, RB, h0, h1, h2, h3, h4, h5, h6, he])) (fun y h7 => ?_)
  obtain ⟨x7, t8⟩ := y
  simp only [go_sem]
  refine CallGiT_sub (s_dec_int b t8 hb hB) rfl (okO_dO _ _) (fun _ => rfl) (by simp [go_sem]) (by simp [go_sem, AV.ids]) rfl (fun e he => tRes_err (by simp only [rWorld, RB, h0, h1, h2, h3, h4, h5, h6, h7, he])) (fun y h8 => ?_)
  obtain ⟨x8, t9⟩ := y
  simp only [go_sem]
  refine CallGiT_sub (s_dec_int b t9 hb hB) rfl (okO_dO _ _) (fun _ => rfl) (by simp [go_sem]) (by simp [go_sem, AV.ids]) rfl (fun e he => tRes_err (by simp only [rWorld, RB, h0, h1, h2, h3, h4, h5, h6, h7, h8, he])) (fun y h9 => ?_)
  obtain ⟨x9, t10⟩ := y
  simp only [go_sem]
  refine retT_ok ({ Settings := { TimeStep := x0, Gravity := x1, Iterations := x2, SleepSteps := x3 }, Bodies := x4, Joints := x5, Contacts := x6, Overlaps := x7, NextID := x8, Frame := x9 }, t10) (by simp only [rWorld, RB, h0, h1, h2, h3, h4, h5, h6, h7, h8, h9]) ?_
  simp only [retR, go_sem]
  refine retW_of [.share] [] [] rfl rfl (by simp [go_sem]) (by simp [assoc, go_sem]) (by simp [go_sem]) ?_
  simp only [go_sem]
end Go.Abs
end
section
namespace Go.Abs
open Go.Proofs
open Api
def rd_snapshot_recoverError : RecD := ⟨5, 2, 6, 7, 10, 9, 181, [⟨(some 8), .mov (.t 10), none, []⟩, ⟨(some 11), .ext (.t 8) 0, none, []⟩, ⟨(some 12), .ext (.t 8) 1, none, []⟩, ⟨(some 3), .alloc [(.int .i64 0)], none, []⟩, ⟨none, .store 1 (.t 3) (.t 11), none, []⟩, ⟨(some 4), .mov (.t 12), none, []⟩], (.seq (.seq (.region false [⟨(some 13), .mov (.t 4), none, []⟩, ⟨(some 14), .un .not (.t 13), none, []⟩])
  (.cond (.t 14) (.region false [⟨(some 15), .mov (.t 2), none, []⟩, ⟨none, .bad, none, []⟩]) .skip))
  (.region false [⟨(some 16), .mov (.t 0), none, []⟩, ⟨(some 17), .faddr 0 (.t 3), none, []⟩, ⟨(some 18), .load none (.t 17), none, []⟩, ⟨(some 19), .nilck (.t 16), none, []⟩, ⟨none, .store 1 (.t 19) (.t 18), none, []⟩]))⟩
theorem rd_is : recog Tryz.prog Tryz.f60.ntmps 20 (Tryz.f60.body.getD .skip) = some rd_snapshot_recoverError := by kernel_rfl
def t3d {α : Type} [Inhabited α] (r : Except Int (α × Int)) : α × Int × Int := match r with | .ok x => (x.1, x.2, 0) | .error e => (default, 0, e)
def dd_snapshot_decodeAt_Contact : DecD where
  as0 := [⟨(some 6), .alloc [(.int .i64 0), (.int .i64 0), (.int .i64 0), (.int .i64 0), (.int .i64 0), (.int .i64 0), (.slice none 0 0)], none, []⟩, ⟨(some 7), .alloc [(.int .i64 0)], none, []⟩, ⟨(some 8), .alloc [(.int .i64 0)], none, []⟩]
  as1 := [⟨(some 10), .mov (.t 0), none, []⟩, ⟨(some 11), .mov (.t 1), none, []⟩, ⟨(some 12), .build [(.slice none 0 0), (.int .i64 0)] [(0, 1, (.t 10)), (1, 1, (.t 11))], none, []⟩, ⟨(some 13), .box (.t 12), none, []⟩, ⟨(some 9), .mov (.t 13), none, []⟩]
  mkf := [⟨(some 14), .mkfn (.func 90) [] [(.t 8), (.t 6), (.t 7)], none, []⟩]
  fv := 14
  g := 60
  tc := 8
  as4 := [⟨(some 15), .mov (.t 2), none, []⟩, ⟨(some 16), .mov (.t 9), none, []⟩, ⟨(some 17), .callv (.t 15) [(.t 16)], none, []⟩, ⟨none, .store 7 (.t 6) (.t 17), none, []⟩]
  as5 := [⟨(some 18), .load (some 7) (.t 6), none, []⟩, ⟨(some 19), .mov (.t 9), none, []⟩, ⟨(some 20), .nilck (.t 19), none, []⟩, ⟨(some 21), .faddr 1 (.t 20), none, []⟩, ⟨(some 22), .load none (.t 21), none, []⟩, ⟨none, .store 7 (.t 6) (.t 18), none, [4]⟩, ⟨none, .store 1 (.t 7) (.t 22), none, []⟩, ⟨none, .store 1 (.t 8) (.k (.sc (.int .i64 0))), none, []⟩]
theorem dd_Contact_is : recogA Tryz.prog Tryz.f42.ntmps (Tryz.f42.body.getD .skip) = some dd_snapshot_decodeAt_Contact := by kernel_rfl
def oA_Contact (x : Contact) (n e : Int) : List (Nat × AObj) := [(112, .box x.enc), (128, .box [.sc (.int .i64 n)]), (144, .box [.sc (.int .i64 e)])]
def oZ_Contact : List (Nat × AObj) := [(112, .box Contact.zero), (128, .box [.sc (.int .i64 0)]), (144, .box [.sc (.int .i64 0)])]
def oT_Contact : Slots := [(6, .share, .ptr 112 0 0 1), (7, .share, .ptr 128 0 0 1), (8, .share, .ptr 144 0 0 1)]
attribute [go_sem] oA_Contact oT_Contact oZ_Contact
theorem nt_Contact : Tryz.f42.ntmps = 23 := by kernel_rfl
theorem oRes_Contact (x : Contact) (n e : Int) : retR (stOf oT_Contact (oA_Contact x n e)) Tryz.f42.ntmps [(6, some (some 7)), (7, some none), (8, some none)] (fun σ2 => RetW [] σ2 (List.range' Tryz.f42.ntmps [(6, some (some 7)), (7, some none), (8, some none)].length) [.agg x.enc, .sc (.int .i64 n), .sc (.int .i64 e)] []) := by
  rw [nt_Contact]
  simp only [go_sem]
  refine retW_of [.share, .share, .share] [] [] rfl rfl (by simp [go_sem]) (by simp [assoc, go_sem]) (by simp [go_sem]) ?_
  simp only [go_sem]
theorem oCl_Contact (x : Contact) (n e : Int) : Wp Tryz.prog Tryz.f90.ntmps ((oA_Contact x n e).map (·.1)) c_snapshot_decodeAt_Contact_f1 (doneQ ((oA_Contact x n e).map (·.1)) (if e = 0 then oA_Contact x n e else oA_Contact default 0 e)) (start [.ptr 144 0 0 1, .ptr 112 0 0 1, .ptr 128 0 0 1] (oA_Contact x n e)) := by
  refine Wp.of_W hm _ ?_
  show @Wi Tryz.prog Tryz.f90.ntmps _ _ (doneC ((oA_Contact x n e).map (·.1)) (if e = 0 then oA_Contact x n e else oA_Contact default 0 e)) _
  simp only [c_snapshot_decodeAt_Contact_f1, go_sem]
  by_cases he : e = 0
  · subst he
    rw [if_neg (by decide)]
    simp only [if_true, go_sem]
    refine weakE_ [] [] ?_
    simp only [go_sem]
    try trivial
  · have hne : (e != 0) = true := by simpa using he
    rw [if_pos hne]
    simp only [he, go_sem]
    refine weakE_ [] [] ?_
    simp only [go_sem]
    (repeat' (with_reducible apply And.intro)) <;> first | rfl | exact avle_nilD rfl
theorem okO_oZ_Contact : okO oZ_Contact := by
  refine ⟨by simp [go_sem], ?_⟩
  simp [go_sem, Contact.zero, idsL, AV.ids]
theorem oTp_Contact : ∀ (t : Nat) (av : AV), envT oT_Contact t = some (true, av) → ∃ k, (ofL oZ_Contact k).isSome = true ∧ av = AV.ptr k 0 0 1 := by
  intro t av ht
  simp only [oT_Contact, envT] at ht
  (repeat' split at ht) <;> simp only [Option.some.injEq, Prod.mk.injEq, true_and, reduceCtorEq] at ht <;> subst ht <;> exact ⟨_, rfl, rfl⟩
theorem oDis_Contact (b : List Int) (at' : Int) : ∀ (i j : Nat), (ofL oZ_Contact i).isSome = true → (ofL (dO b at') j).isSome = true → i ≠ assoc [(1, 224)] j := by
  intro i j hi hj
  obtain ⟨o, ho⟩ := ofL_mem hi
  obtain ⟨o', ho'⟩ := ofL_mem hj
  simp only [oZ_Contact, dO, List.mem_cons, Prod.mk.injEq, List.not_mem_nil, or_false] at ho ho'
  obtain ⟨rfl, _⟩ := ho'
  rcases ho with ⟨rfl, _⟩ | ⟨rfl, _⟩ | ⟨rfl, _⟩ <;> decide
theorem oRec_Contact (n : Int) : wseq Tryz.prog rd_snapshot_recoverError.as (fun τ => Wp Tryz.prog Tryz.f60.ntmps (oZ_Contact.map (·.1)) rd_snapshot_recoverError.ac (doneQ (oZ_Contact.map (·.1)) (oA_Contact default 0 n)) τ)
    (stOf [(0, .share, .ptr 144 0 0 1), (rd_snapshot_recoverError.x, .share, .sc (evD n)), (rd_snapshot_recoverError.p, .share, .tup [.agg [.sc (.int .i64 n)], .sc (.bool true)])] oZ_Contact) := by
  refine to_rec ?_
  simp only [rd_snapshot_recoverError, Contact.zero, go_sem]
  refine Wpi_of hm ?_
  simp only [go_sem]
  refine weakE_ [] [] ?_
  simp only [go_sem]
  try ((repeat' (with_reducible apply And.intro)) <;> first | rfl | exact avle_self _ | exact avle_nilD rfl)
theorem s_decodeAt_Contact (b : List Int) (at' : Int) (f : Nat) (p : Int → Except Int (Contact × Int)) (hp : ∀ t, CallsT Tryz.prog evD f [.ptr 1 0 0 1] (dO b t) (tRes (fun x : Contact × Int => [.agg x.1.enc]) (fun x => dO b x.2) (p t))) (hpe : ∀ t e, p t = .error e → e ≠ 0) :
    CallsA Tryz.prog F_snapshot_decodeAt_Contact [encD 1 encU8 0 b, .sc (.int .i64 at'), .fn (.func f) [] []] [] (.tup [.agg (t3d (p at')).1.enc, .sc (.int .i64 (t3d (p at')).2.1), .sc (.int .i64 (t3d (p at')).2.2)]) [] := by
  have hc := hp at'
  have hne := hpe at'
  cases hr : p at' with
  | ok x =>
    rw [hr] at hc
    have hw := oCl_Contact x.1 x.2 0
    rw [if_pos rfl] at hw
    refine decA_normal hm Tryz.func42 (by kernel_rfl) (by kernel_rfl) dd_Contact_is (by kernel_rfl : rvOf Tryz.prog Tryz.f42.results.toList = some [(6, some (some 7)), (7, some none), (8, some none)]) (by kernel_rfl) (by kernel_rfl) Tryz.underlying20 Tryz.func60 (by kernel_rfl) (by kernel_rfl) (by kernel_rfl) rd_is
      Tryz.func90 (by kernel_rfl) (by kernel_rfl) (by kernel_rfl) is_snapshot_decodeAt_Contact_f1 (by decide +kernel) (KK := [112, 128, 144]) (by simp) hw (oRes_Contact x.1 x.2 0) ?_
    show @Wsi Tryz.prog dd_snapshot_decodeAt_Contact.as0 (thenS Tryz.prog dd_snapshot_decodeAt_Contact.as1 (thenS Tryz.prog dd_snapshot_decodeAt_Contact.mkf (midN Tryz.prog dd_snapshot_decodeAt_Contact.fv (.fn (.func F_snapshot_decodeAt_Contact_f1) [] [.ptr 144 0 0 1, .ptr 112 0 0 1, .ptr 128 0 0 1]) dd_snapshot_decodeAt_Contact.as4 (thenA Tryz.prog dd_snapshot_decodeAt_Contact.as5 (endN [112, 128, 144] oT_Contact (oA_Contact x.1 x.2 0)))))) _
    simp only [dd_snapshot_decodeAt_Contact, go_sem]
    refine CallGi_obj [true] [(1, 224)] (show CallsA Tryz.prog f [.ptr 1 0 0 1] (dO b at') (.agg x.1.enc) (dO b x.2) from hc) (by simp [go_sem]) (by simp [go_sem]) (by simp [go_sem]) (by simp [go_sem]) ?_
    simp only [argsOC, dd_snapshot_decodeAt_Contact, go_sem]
    refine weakE_ [] [] ?_
    simp only [t3d, go_sem]
    try ((repeat' (with_reducible apply And.intro)) <;> first | rfl | exact avle_self _)
  | error e =>
    rw [hr] at hc
    have hne := hne e hr
    have hw := oCl_Contact default 0 e
    rw [if_neg hne] at hw
    refine decA_dies hm Tryz.func42 (by kernel_rfl) (by kernel_rfl) dd_Contact_is (by kernel_rfl : rvOf Tryz.prog Tryz.f42.results.toList = some [(6, some (some 7)), (7, some none), (8, some none)]) (by kernel_rfl) (by kernel_rfl) Tryz.underlying20 Tryz.func60 (by kernel_rfl) (by kernel_rfl) (by kernel_rfl) rd_is
      rfl rfl evD_ty (ev := evD) (fun _ => rfl) Tryz.func90 (by kernel_rfl) (by kernel_rfl) (by kernel_rfl) is_snapshot_decodeAt_Contact_f1 (by decide +kernel) (ρ := assoc [(1, 224)]) (O := dO b at') (ic := 144) (OA0 := oZ_Contact) (T := oT_Contact) ?_ ?_ rfl ?_ ?_ (oRec_Contact e) hw (oRes_Contact default 0 e) ?_
    · simp [go_sem]
    · exact oTp_Contact
    · exact fun i cs hi j hj => (okO_oZ_Contact).2 _ (ofL_mem' (okO_oZ_Contact).1 hi) cs rfl j hj
    · exact oDis_Contact b at'
    show @Wsi Tryz.prog dd_snapshot_decodeAt_Contact.as0 (thenS Tryz.prog dd_snapshot_decodeAt_Contact.as1 (thenS Tryz.prog dd_snapshot_decodeAt_Contact.mkf (midD Tryz.prog dd_snapshot_decodeAt_Contact.fv (.fn (.func F_snapshot_decodeAt_Contact_f1) [] [.ptr 144 0 0 1, .ptr 112 0 0 1, .ptr 128 0 0 1]) dd_snapshot_decodeAt_Contact.tc (.ptr 144 0 0 1) evD e (assoc [(1, 224)]) (dO b at') (zC oZ_Contact oT_Contact) dd_snapshot_decodeAt_Contact.as4))) _
    simp only [dd_snapshot_decodeAt_Contact, go_sem]
    refine WdF_go ?_
    simp only [go_sem]
    refine WdF_go ?_
    simp only [go_sem]
    refine WdF_die ⟨rfl, f, [.ptr 224 0 0 1], [true], [.ptr 1 0 0 1], by simp only [go_sem], by simp only [go_sem], hc, ?_, ?_, ?_, ?_⟩ ⟨?_, ?_⟩
    · exact ⟨rfl, by intro i hi; simp only [AV.ids, List.mem_singleton] at hi; subst hi; rfl, rfl⟩
    · intro i o hi
      have hm1 := ofL_mem' (okO_dO b at').1 hi
      simp only [dO, List.mem_singleton, Prod.mk.injEq] at hm1
      obtain ⟨rfl, rfl⟩ := hm1
      simp only [go_sem]
    · exact fun i cs hi j hj => (okO_dO b at').2 _ (ofL_mem' (okO_dO b at').1 hi) cs rfl j hj
    · intro i j hi hj _
      obtain ⟨o, ho⟩ := ofL_mem hi
      obtain ⟨o', ho'⟩ := ofL_mem hj
      simp only [List.mem_singleton, Prod.mk.injEq] at ho ho'
      rw [ho.1, ho'.1]
    · intro i o hi
      have hm1 := ofL_mem' (okO_oZ_Contact).1 hi
      simp only [oZ_Contact, List.mem_cons, Prod.mk.injEq, List.not_mem_nil, or_false] at hm1
      rcases hm1 with ⟨rfl, rfl⟩ | ⟨rfl, rfl⟩ | ⟨rfl, rfl⟩
      · simp only [Contact.zero, go_sem]
      · simp only [go_sem]
      · simp only [go_sem]
    · intro t av ht
      simp only [oT_Contact, envT] at ht
      (repeat' split at ht) <;> simp only [Option.some.injEq, Prod.mk.injEq, true_and, reduceCtorEq] at ht <;> subst ht <;> (rename_i e1; subst e1; simp only [go_sem])
def dd_snapshot_decodeAt_World : DecD where
  as0 := [⟨(some 6), .alloc [(.int .i64 0), (.int .i64 0), (.int .i64 0), (.int .i64 0), (.int .i64 0), (.slice none 0 0), (.slice none 0 0), (.slice none 0 0), (.slice none 0 0), (.int .i64 0), (.int .i64 0)], none, []⟩, ⟨(some 7), .alloc [(.int .i64 0)], none, []⟩, ⟨(some 8), .alloc [(.int .i64 0)], none, []⟩]
  as1 := [⟨(some 10), .mov (.t 0), none, []⟩, ⟨(some 11), .mov (.t 1), none, []⟩, ⟨(some 12), .build [(.slice none 0 0), (.int .i64 0)] [(0, 1, (.t 10)), (1, 1, (.t 11))], none, []⟩, ⟨(some 13), .box (.t 12), none, []⟩, ⟨(some 9), .mov (.t 13), none, []⟩]
  mkf := [⟨(some 14), .mkfn (.func 59) [] [(.t 8), (.t 6), (.t 7)], none, []⟩]
  fv := 14
  g := 60
  tc := 8
  as4 := [⟨(some 15), .mov (.t 2), none, []⟩, ⟨(some 16), .mov (.t 9), none, []⟩, ⟨(some 17), .callv (.t 15) [(.t 16)], none, []⟩, ⟨none, .store 11 (.t 6) (.t 17), none, []⟩]
  as5 := [⟨(some 18), .load (some 11) (.t 6), none, []⟩, ⟨(some 19), .mov (.t 9), none, []⟩, ⟨(some 20), .nilck (.t 19), none, []⟩, ⟨(some 21), .faddr 1 (.t 20), none, []⟩, ⟨(some 22), .load none (.t 21), none, []⟩, ⟨none, .store 11 (.t 6) (.t 18), none, [4]⟩, ⟨none, .store 1 (.t 7) (.t 22), none, []⟩, ⟨none, .store 1 (.t 8) (.k (.sc (.int .i64 0))), none, []⟩]
theorem dd_World_is : recogA Tryz.prog Tryz.f31.ntmps (Tryz.f31.body.getD .skip) = some dd_snapshot_decodeAt_World := by kernel_rfl
def oA_World (x : Api.World) (n e : Int) : List (Nat × AObj) := [(112, .box x.enc), (128, .box [.sc (.int .i64 n)]), (144, .box [.sc (.int .i64 e)])]
def oZ_World : List (Nat × AObj) := [(112, .box Api.World.zero), (128, .box [.sc (.int .i64 0)]), (144, .box [.sc (.int .i64 0)])]
def oT_World : Slots := [(6, .share, .ptr 112 0 0 1), (7, .share, .ptr 128 0 0 1), (8, .share, .ptr 144 0 0 1)]
attribute [go_sem] oA_World oT_World oZ_World
theorem nt_World : Tryz.f31.ntmps = 23 := by kernel_rfl
theorem oRes_World (x : Api.World) (n e : Int) : retR (stOf oT_World (oA_World x n e)) Tryz.f31.ntmps [(6, some (some 11)), (7, some none), (8, some none)] (fun σ2 => RetW [] σ2 (List.range' Tryz.f31.ntmps [(6, some (some 11)), (7, some none), (8, some none)].length) [.agg x.enc, .sc (.int .i64 n), .sc (.int .i64 e)] []) := by
  rw [nt_World]
  simp only [go_sem]
  refine retW_of [.share, .share, .share] [] [] rfl rfl (by simp [go_sem]) (by simp [assoc, go_sem]) (by simp [go_sem]) ?_
  simp only [go_sem]
theorem oCl_World (x : Api.World) (n e : Int) : Wp Tryz.prog Tryz.f59.ntmps ((oA_World x n e).map (·.1)) c_snapshot_decodeAt_World_f1 (doneQ ((oA_World x n e).map (·.1)) (if e = 0 then oA_World x n e else oA_World default 0 e)) (start [.ptr 144 0 0 1, .ptr 112 0 0 1, .ptr 128 0 0 1] (oA_World x n e)) := by
  refine Wp.of_W hm _ ?_
  show @Wi Tryz.prog Tryz.f59.ntmps _ _ (doneC ((oA_World x n e).map (·.1)) (if e = 0 then oA_World x n e else oA_World default 0 e)) _
  simp only [c_snapshot_decodeAt_World_f1, go_sem]
  by_cases he : e = 0
  · subst he
    rw [if_neg (by decide)]
    simp only [if_true, go_sem]
    refine weakE_ [] [] ?_
    simp only [go_sem]
    try trivial
  · have hne : (e != 0) = true := by simpa using he
    rw [if_pos hne]
    simp only [he, go_sem]
    refine weakE_ [] [] ?_
    simp only [go_sem]
    (repeat' (with_reducible apply And.intro)) <;> first | rfl | exact avle_nilD rfl
theorem okO_oZ_World : okO oZ_World := by
  refine ⟨by simp [go_sem], ?_⟩
  simp [go_sem, Api.World.zero, idsL, AV.ids]
theorem oTp_World : ∀ (t : Nat) (av : AV), envT oT_World t = some (true, av) → ∃ k, (ofL oZ_World k).isSome = true ∧ av = AV.ptr k 0 0 1 := by
  intro t av ht
  simp only [oT_World, envT] at ht
  (repeat' split at ht) <;> simp only [Option.some.injEq, Prod.mk.injEq, true_and, reduceCtorEq] at ht <;> subst ht <;> exact ⟨_, rfl, rfl⟩
theorem oDis_World (b : List Int) (at' : Int) : ∀ (i j : Nat), (ofL oZ_World i).isSome = true → (ofL (dO b at') j).isSome = true → i ≠ assoc [(1, 224)] j := by
  intro i j hi hj
  obtain ⟨o, ho⟩ := ofL_mem hi
  obtain ⟨o', ho'⟩ := ofL_mem hj
  simp only [oZ_World, dO, List.mem_cons, Prod.mk.injEq, List.not_mem_nil, or_false] at ho ho'
  obtain ⟨rfl, _⟩ := ho'
  rcases ho with ⟨rfl, _⟩ | ⟨rfl, _⟩ | ⟨rfl, _⟩ <;> decide
theorem oRec_World (n : Int) : wseq Tryz.prog rd_snapshot_recoverError.as (fun τ => Wp Tryz.prog Tryz.f60.ntmps (oZ_World.map (·.1)) rd_snapshot_recoverError.ac (doneQ (oZ_World.map (·.1)) (oA_World default 0 n)) τ)
    (stOf [(0, .share, .ptr 144 0 0 1), (rd_snapshot_recoverError.x, .share, .sc (evD n)), (rd_snapshot_recoverError.p, .share, .tup [.agg [.sc (.int .i64 n)], .sc (.bool true)])] oZ_World) := by
  refine to_rec ?_
  simp only [rd_snapshot_recoverError, Api.World.zero, go_sem]
  refine Wpi_of hm ?_
  simp only [go_sem]
  refine weakE_ [] [] ?_
  simp only [go_sem]
  try ((repeat' (with_reducible apply And.intro)) <;> first | rfl | exact avle_self _ | exact avle_nilD rfl)
theorem s_decodeAt_World (b : List Int) (at' : Int) (f : Nat) (p : Int → Except Int (Api.World × Int)) (hp : ∀ t, CallsT Tryz.prog evD f [.ptr 1 0 0 1] (dO b t) (tRes (fun x : Api.World × Int => [.agg x.1.enc]) (fun x => dO b x.2) (p t))) (hpe : ∀ t e, p t = .error e → e ≠ 0) :
    CallsA Tryz.prog F_snapshot_decodeAt_World [encD 1 encU8 0 b, .sc (.int .i64 at'), .fn (.func f) [] []] [] (.tup [.agg (t3d (p at')).1.enc, .sc (.int .i64 (t3d (p at')).2.1), .sc (.int .i64 (t3d (p at')).2.2)]) [] := by
  have hc := hp at'
  have hne := hpe at'
  cases hr : p at' with
  | ok x =>
    rw [hr] at hc
    have hw := oCl_World x.1 x.2 0
    rw [if_pos rfl] at hw
    refine decA_normal hm Tryz.func31 (by kernel_rfl) (by kernel_rfl) dd_World_is (by kernel_rfl : rvOf Tryz.prog Tryz.f31.results.toList = some [(6, some (some 11)), (7, some none), (8, some none)]) (by kernel_rfl) (by kernel_rfl) Tryz.underlying20 Tryz.func60 (by kernel_rfl) (by kernel_rfl) (by kernel_rfl) rd_is
      Tryz.func59 (by kernel_rfl) (by kernel_rfl) (by kernel_rfl) is_snapshot_decodeAt_World_f1 (by decide +kernel) (KK := [112, 128, 144]) (by simp) hw (oRes_World x.1 x.2 0) ?_
    show @Wsi Tryz.prog dd_snapshot_decodeAt_World.as0 (thenS Tryz.prog dd_snapshot_decodeAt_World.as1 (thenS Tryz.prog dd_snapshot_decodeAt_World.mkf (midN Tryz.prog dd_snapshot_decodeAt_World.fv (.fn (.func F_snapshot_decodeAt_World_f1) [] [.ptr 144 0 0 1, .ptr 112 0 0 1, .ptr 128 0 0 1]) dd_snapshot_decodeAt_World.as4 (thenA Tryz.prog dd_snapshot_decodeAt_World.as5 (endN [112, 128, 144] oT_World (oA_World x.1 x.2 0)))))) _
    simp only [dd_snapshot_decodeAt_World, go_sem]
    refine CallGi_obj [true] [(1, 224)] (show CallsA Tryz.prog f [.ptr 1 0 0 1] (dO b at') (.agg x.1.enc) (dO b x.2) from hc) (by simp [go_sem]) (by simp [go_sem]) (by simp [go_sem]) (by simp [go_sem]) ?_
    simp only [argsOC, dd_snapshot_decodeAt_World, go_sem]
    refine weakE_ [] [] ?_
    simp only [t3d, go_sem]
    try ((repeat' (with_reducible apply And.intro)) <;> first | rfl | exact avle_self _)
  | error e =>
    rw [hr] at hc
    have hne := hne e hr
    have hw := oCl_World default 0 e
    rw [if_neg hne] at hw
    refine decA_dies hm Tryz.func31 (by kernel_rfl) (by kernel_rfl) dd_World_is (by kernel_rfl : rvOf Tryz.prog Tryz.f31.results.toList = some [(6, some (some 11)), (7, some none), (8, some none)]) (by kernel_rfl) (by kernel_rfl) Tryz.underlying20 Tryz.func60 (by kernel_rfl) (by kernel_rfl) (by kernel_rfl) rd_is
      rfl rfl evD_ty (ev := evD) (fun _ => rfl) Tryz.func59 (by kernel_rfl) (by kernel_rfl) (by kernel_rfl) is_snapshot_decodeAt_World_f1 (by decide +kernel) (ρ := assoc [(1, 224)]) (O := dO b at') (ic := 144) (OA0 := oZ_World) (T := oT_World) ?_ ?_ rfl ?_ ?_ (oRec_World e) hw (oRes_World default 0 e) ?_
    · simp [go_sem]
    · exact oTp_World
    · exact fun i cs hi j hj => (okO_oZ_World).2 _ (ofL_mem' (okO_oZ_World).1 hi) cs rfl j hj
    · exact oDis_World b at'
    show @Wsi Tryz.prog dd_snapshot_decodeAt_World.as0 (thenS Tryz.prog dd_snapshot_decodeAt_World.as1 (thenS Tryz.prog dd_snapshot_decodeAt_World.mkf (midD Tryz.prog dd_snapshot_decodeAt_World.fv (.fn (.func F_snapshot_decodeAt_World_f1) [] [.ptr 144 0 0 1, .ptr 112 0 0 1, .ptr 128 0 0 1]) dd_snapshot_decodeAt_World.tc (.ptr 144 0 0 1) evD e (assoc [(1, 224)]) (dO b at') (zC oZ_World oT_World) dd_snapshot_decodeAt_World.as4))) _
    simp only [dd_snapshot_decodeAt_World, go_sem]
    refine WdF_go ?_
    simp only [go_sem]
    refine WdF_go ?_
    simp only [go_sem]
    refine WdF_die ⟨rfl, f, [.ptr 224 0 0 1], [true], [.ptr 1 0 0 1], by simp only [go_sem], by simp only [go_sem], hc, ?_, ?_, ?_, ?_⟩ ⟨?_, ?_⟩
    · exact ⟨rfl, by intro i hi; simp only [AV.ids, List.mem_singleton] at hi; subst hi; rfl, rfl⟩
    · intro i o hi
      have hm1 := ofL_mem' (okO_dO b at').1 hi
      simp only [dO, List.mem_singleton, Prod.mk.injEq] at hm1
      obtain ⟨rfl, rfl⟩ := hm1
      simp only [go_sem]
    · exact fun i cs hi j hj => (okO_dO b at').2 _ (ofL_mem' (okO_dO b at').1 hi) cs rfl j hj
    · intro i j hi hj _
      obtain ⟨o, ho⟩ := ofL_mem hi
      obtain ⟨o', ho'⟩ := ofL_mem hj
      simp only [List.mem_singleton, Prod.mk.injEq] at ho ho'
      rw [ho.1, ho'.1]
    · intro i o hi
      have hm1 := ofL_mem' (okO_oZ_World).1 hi
      simp only [oZ_World, List.mem_cons, Prod.mk.injEq, List.not_mem_nil, or_false] at hm1
      rcases hm1 with ⟨rfl, rfl⟩ | ⟨rfl, rfl⟩ | ⟨rfl, rfl⟩
      · simp only [Api.World.zero, go_sem]
      · simp only [go_sem]
      · simp only [go_sem]
    · intro t av ht
      simp only [oT_World, envT] at ht
      (repeat' split at ht) <;> simp only [Option.some.injEq, Prod.mk.injEq, true_and, reduceCtorEq] at ht <;> subst ht <;> (rename_i e1; subst e1; simp only [go_sem])
end Go.Abs
end
section
namespace Go.Abs
open Go.Proofs
open Api
def NErr {α : Type} (p : Int → Except Int (α × Int)) : Prop := ∀ t e, p t = .error e → e ≠ 0
theorem nerr_int (b : List Int) : NErr (rInt b) := fun t e h => rInt_err h
theorem nerr_vec (b : List Int) : NErr (rVec b) := fun t e h => rVec_err h
theorem nerr_bool (b : List Int) : NErr (rBool b) := fun t e h => rBool_err h
theorem nerr_rN {α : Type} {p : Int → Except Int (α × Int)} (hp : NErr p) (t : Int) : ∀ n e, rN p t n = .error e → e ≠ 0
  | 0, e, h => by cases h
  | n + 1, e, h => by
    simp only [rN] at h
    split at h
    · rename_i hr; cases h; exact nerr_rN hp t n _ hr
    · split at h
      · rename_i hr; cases h; exact hp _ _ hr
      · cases h
theorem nerr_len (b : List Int) : NErr (rLen b) := by
  intro t e h
  unfold rLen at h
  split at h
  · rename_i hr; cases h; exact rInt_err hr
  · split at h
    · cases h; decide
    · split at h
      · cases h; decide
      · cases h
theorem nerr_sl {α : Type} {p : Int → Except Int (α × Int)} (hp : NErr p) (b : List Int) : NErr (rSl p b) := by
  intro t e h
  unfold rSl at h
  split at h
  · rename_i hr; cases h; exact nerr_len b _ _ hr
  · exact nerr_rN hp _ _ _ h
theorem nerr_RB {α β : Type} {r : Except Int (α × Int)} {f : α → Int → Except Int β} (hr : ∀ e, r = .error e → e ≠ 0) (hf : ∀ x t e, f x t = .error e → e ≠ 0) (e : Int) (h : RB r f = .error e) : e ≠ 0 := by
  cases r with
  | error e' => cases h; exact hr _ rfl
  | ok x => exact hf _ _ _ h
theorem nerr_Key (b : List Int) : NErr (rKey b) := by
  intro t e h
  exact nerr_RB (nerr_int b _) (fun _ _ => nerr_RB (nerr_int b _) (fun _ _ => nerr_RB (nerr_int b _) (fun _ _ => nerr_RB (nerr_int b _) (fun _ _ _ h => by cases h)))) e h
theorem nerr_ContactPoint (b : List Int) : NErr (rContactPoint b) := by
  intro t e h
  exact nerr_RB (nerr_vec b _) (fun _ _ => nerr_RB (nerr_int b _) (fun _ _ => nerr_RB (nerr_int b _) (fun _ _ => nerr_RB (nerr_int b _) (fun _ _ => nerr_RB (nerr_int b _) (fun _ _ _ h => by cases h))))) e h
theorem nerr_Contact (b : List Int) : NErr (rContact b) := by
  intro t e h
  exact nerr_RB (nerr_Key b _) (fun _ _ => nerr_RB (nerr_vec b _) (fun _ _ => nerr_RB (nerr_sl (nerr_ContactPoint b) b _) (fun _ _ _ h => by cases h))) e h
theorem nerr_Fixture (b : List Int) : NErr (rFixture b) := by
  intro t e h
  exact nerr_RB (nerr_int b _) (fun _ _ => nerr_RB (nerr_int b _) (fun _ _ => nerr_RB (nerr_sl (nerr_vec b) b _) (fun _ _ => nerr_RB (nerr_int b _) (fun _ _ => nerr_RB (nerr_int b _) (fun _ _ => nerr_RB (nerr_int b _) (fun _ _ => nerr_RB (nerr_bool b _) (fun _ _ => nerr_RB (nerr_int b _) (fun _ _ => nerr_RB (nerr_int b _) (fun _ _ => nerr_RB (nerr_int b _) (fun _ _ _ h => by cases h)))))))))) e h
theorem nerr_Body (b : List Int) : NErr (rBody b) := by
  intro t e h
  exact nerr_RB (nerr_int b _) (fun _ _ => nerr_RB (nerr_int b _) (fun _ _ => nerr_RB (nerr_vec b _) (fun _ _ => nerr_RB (nerr_int b _) (fun _ _ => nerr_RB (nerr_vec b _) (fun _ _ => nerr_RB (nerr_int b _) (fun _ _ => nerr_RB (nerr_vec b _) (fun _ _ => nerr_RB (nerr_int b _) (fun _ _ => nerr_RB (nerr_int b _) (fun _ _ => nerr_RB (nerr_int b _) (fun _ _ => nerr_RB (nerr_int b _) (fun _ _ => nerr_RB (nerr_bool b _) (fun _ _ => nerr_RB (nerr_bool b _) (fun _ _ => nerr_RB (nerr_bool b _) (fun _ _ => nerr_RB (nerr_bool b _) (fun _ _ => nerr_RB (nerr_int b _) (fun _ _ => nerr_RB (nerr_sl (nerr_Fixture b) b _) (fun _ _ _ h => by cases h))))))))))))))))) e h
theorem nerr_Joint (b : List Int) : NErr (rJoint b) := by
  intro t e h
  exact nerr_RB (nerr_int b _) (fun _ _ => nerr_RB (nerr_int b _) (fun _ _ => nerr_RB (nerr_int b _) (fun _ _ => nerr_RB (nerr_int b _) (fun _ _ => nerr_RB (nerr_vec b _) (fun _ _ => nerr_RB (nerr_vec b _) (fun _ _ => nerr_RB (nerr_vec b _) (fun _ _ => nerr_RB (nerr_int b _) (fun _ _ => nerr_RB (nerr_bool b _) (fun _ _ => nerr_RB (nerr_int b _) (fun _ _ => nerr_RB (nerr_int b _) (fun _ _ => nerr_RB (nerr_bool b _) (fun _ _ => nerr_RB (nerr_int b _) (fun _ _ => nerr_RB (nerr_int b _) (fun _ _ => nerr_RB (nerr_int b _) (fun _ _ => nerr_RB (nerr_int b _) (fun _ _ => nerr_RB (nerr_bool b _) (fun _ _ => nerr_RB (nerr_rN (nerr_int b) _ 4) (fun _ _ _ h => by cases h)))))))))))))))))) e h
theorem nerr_World (b : List Int) : NErr (rWorld b) := by
  intro t e h
  exact nerr_RB (nerr_int b _) (fun _ _ => nerr_RB (nerr_vec b _) (fun _ _ => nerr_RB (nerr_int b _) (fun _ _ => nerr_RB (nerr_int b _) (fun _ _ => nerr_RB (nerr_sl (nerr_Body b) b _) (fun _ _ => nerr_RB (nerr_sl (nerr_Joint b) b _) (fun _ _ => nerr_RB (nerr_sl (nerr_Contact b) b _) (fun _ _ => nerr_RB (nerr_sl (nerr_Key b) b _) (fun _ _ => nerr_RB (nerr_int b _) (fun _ _ => nerr_RB (nerr_int b _) (fun _ _ _ h => by cases h)))))))))) e h
theorem s_ReadContact (b : List Int) (at' : Int) (hb : b.length ≤ 549755813888) (hB : bytes b) : CallsA Tryz.prog F_snapshot_ReadContact [encD 1 encU8 0 b, .sc (.int .i64 at')] [] (.tup [.agg (t3d (rContact b at')).1.enc, .sc (.int .i64 (t3d (rContact b at')).2.1), .sc (.int .i64 (t3d (rContact b at')).2.2)]) [] := by
  refine enRT 13 [(4, some (some 7)), (5, none), (6, none)] hm shOk Tryz.func17 rfl ?_
  simp only [go_sem]
  refine CallGi_flat (s_decodeAt_Contact b at' F_snapshot_decoder_contact (rContact b) (fun t => s_dec_contact b t hb hB) (nerr_Contact b)) rfl ?_
  simp only [go_sem]
end Go.Abs
end
section
namespace Go.Abs
open Go.Proofs
open Api
def exC : Contact := { Key := ⟨1, 0, 2, 0⟩, Manifold := { Normal := ⟨0, 0⟩, Points := [] } }
def exL : List Int := [9, 1, 1, 0, 1, 2, 0, 0, 0, 0]
theorem exL_b : bytes exL := by unfold bytes exL; decide
theorem exC_bytes : ([9] : List Int) ++ ctcB exC = exL := by decide
theorem exC_read : rContact exL 1 = .ok (exC, 10) := by rfl
theorem s_law45_example : CallsA Tryz.prog F_law45_example [] [] (.sc (.bool true)) [] := by
  have h1 := s_AppendContact [9] exC (by decide) (by decide)
  have h2 := s_ReadContact exL 1 (by decide) exL_b
  rw [exC_bytes] at h1
  rw [exC_read] at h2
  refine en1 hm shOk Tryz.func7 rfl rfl ?_
  simp only [go_sem]
  refine CallGi_thaw h1 ?_
  simp only [argsC, go_sem]
  refine ⟨avle_lit2 (l := ([9] : List Int)) (fun _ _ => rfl) rfl rfl rfl, ⟨rfl, rfl, rfl, rfl, rfl, rfl, avle_nilD rfl⟩, ?_⟩
  refine CallGi_flat h2 rfl ?_
  have hl : exL.length = 10 := rfl
  have hs : strB { n := (7 - 0 : Int).toNat, g := fun i => [AV.sc (Value.int IntKind.u8 (exL.getD i 0))] } = ⟨#[9, 1, 1, 0, 1, 2, 0]⟩ := by rfl
  simp only [t3d, exC, hl, hs, Option.toList_some, Option.toList_none, Int.cast_ofNat_Int, Int.reduceLT, Int.reduceLE, List.nil_append, List.append_nil, beq_self_eq_true, go_sem]
  exact fun i _ => ⟨_, rfl⟩
end Go.Abs
end
section
namespace Go.Abs
open Go.Proofs
open Api
abbrev RS := Except Int Int
def q3 {α : Type} [Inhabited α] (r : α × RS) : α × Int × Int := match r.2 with | .ok t => (r.1, t, 0) | .error e => (default, 0, e)
end Go.Abs
end
section
namespace Go.Abs
open Go.Proofs
open Api
theorem RB_ok {α β : Type} {r : Except Int (α × Int)} {f : α → Int → Except Int β} {y : β} (h : RB r f = .ok y) : ∃ x t, r = .ok (x, t) ∧ f x t = .ok y := by
  cases r with
  | error e => cases h
  | ok x => exact ⟨x.1, x.2, rfl, h⟩
end Go.Abs
end
section
namespace Go.Abs
open Go.Proofs
open Api
def nz (e : Int) : Int := if e = 0 then 1 else e
def rdB (b : List Int) : RS → List Int
  | .ok _ => b
  | .error _ => []
def rdO : RS → Int
  | .ok t => t
  | .error _ => 0
def rdE : RS → Int
  | .ok _ => 0
  | .error e => nz e
def rdr (b : List Int) (s : RS) : List AV := [encD 1 encU8 0 (rdB b s), .sc (.int .i64 (rdO s)), .sc (.int .i64 (rdE s))]
attribute [go_sem] rdr
end Go.Abs
end
section
namespace Go.Abs
open Go.Proofs
open Api
def fewP (c : Contact) : Bool := decide (c.Manifold.Points.length ≤ 6)
def few (l : List Contact) : Bool := l.all fewP && decide (l.length ≤ 40)
theorem s_r27_FewPoints (l : List Contact) (hl : l.length ≤ 1048576) : CallsA Tryz.prog F_r27_FewPoints [encD 7 Contact.enc default l] [] (.sc (.bool (few l))) [] := by
  refine en1 hm shOk Tryz.func15 rfl rfl ?_
  simp only [go_sem]
  refine Wpi_loop hm (ι := {i : Nat // i ≤ l.length ∧ (l.take i).all fewP = true}) (fun i => [(0, .share, encD 7 Contact.enc default l), (3, .share, .sc (.int .i64 i.1))])
    (fun i => []) (fun i => l.length - i.1) ⟨0, by omega, rfl⟩ ?_ ?_
  · refine weakE_of [] [] (by simp) (by simp [assoc]) (by simp) ?_
    simp only [go_sem]
  · rintro ⟨i, hi, ht⟩
    simp only [go_sem]
    split
    · rename_i hlt
      have hlt : i < l.length := by omega
      refine ⟨ok_, ?_⟩
      by_cases he : (l.getD i default).Manifold.Points.length ≤ 6
      · rw [if_neg (by omega)]
        refine loop_next ⟨i + 1, by omega, l_all_succ default ht hlt (decide_eq_true he)⟩ (by show l.length - (i + 1) < l.length - i; omega) (weakE_of [] [] (by simp) (by simp [assoc]) (by simp) ?_)
        simp only [go_sem]
        exact (by rw [IntKind.wrap_i64]; omega)
      · rw [if_pos (by omega)]
        unfold few
        rw [l_all_false default hlt (decide_eq_false he)]; rfl
    · rename_i hge
      have hil : i = l.length := by omega
      subst hil
      unfold few
      rw [l_all_end ht, Bool.true_and]
      exact decide_eq_decide.2 (by omega)
def smallF (f : Fixture) : Bool := decide (f.Shape.Vertices.length ≤ 10)
def smallB (b : Body) : Bool := decide (b.Fixtures.length ≤ 4) && b.Fixtures.all smallF
def isSmall (w : Api.World) : Bool := decide (w.Bodies.length ≤ 8) && decide (w.Joints.length ≤ 8) && decide (w.Contacts.length ≤ 20) && decide (w.Overlaps.length ≤ 20) && decide (w.Settings.Iterations ≤ 16) && (w.Bodies.all smallB && few w.Contacts)
theorem isSmall_sm {w : Api.World} (h : isSmall w = true) : Wsm w := by
  simp only [isSmall, few, Bool.and_eq_true, decide_eq_true_eq] at h
  obtain ⟨⟨⟨⟨⟨h1, h2⟩, h3⟩, h4⟩, _⟩, h5, h6, _⟩ := h
  refine ⟨by omega, by omega, by omega, by omega, fun b hb => ?_, fun c hc => ?_⟩
  · have := List.all_eq_true.1 h5 b hb
    simp only [smallB, Bool.and_eq_true, decide_eq_true_eq] at this
    refine ⟨by omega, fun f hf => ?_⟩
    have := List.all_eq_true.1 this.2 f hf
    simp only [smallF, decide_eq_true_eq] at this
    unfold Fixture.sm Shape.sm; omega
  · have := List.all_eq_true.1 h6 c hc
    simp only [fewP, decide_eq_true_eq] at this
    unfold Manifold.sm; omega
theorem s_r27_IsSmall (w : Api.World) : CallsA Tryz.prog F_r27_IsSmall [.agg w.enc] [] (.sc (.bool (isSmall w))) [] := by
  refine en1 hm shOk Tryz.func6 rfl rfl ?_
  simp only [go_sem]
  by_cases hc : w.Bodies.length ≤ 8 ∧ w.Joints.length ≤ 8 ∧ w.Contacts.length ≤ 20 ∧ w.Overlaps.length ≤ 20 ∧ w.Settings.Iterations ≤ 16
  · obtain ⟨c1, c2, c3, c4, c5⟩ := hc
    have hsm : isSmall w = (w.Bodies.all smallB && few w.Contacts) := by simp [isSmall, c1, c2, c3, c4, c5]
    rw [hsm]
    rw [if_neg (by simp; omega)]
    refine Wpi_loop hm (ι := {i : Nat // i ≤ w.Bodies.length ∧ (w.Bodies.take i).all smallB = true}) (fun i => [(1, .share, .ptr 32 0 0 1), (3, .share, .sc (.int .i64 i.1))])
      (fun i => [(32, .box w.enc)]) (fun i => w.Bodies.length - i.1) ⟨0, by omega, rfl⟩ ?_ ?_
    · refine weakE_of [] [] (by simp) (by simp [assoc]) (by simp) ?_
      simp only [go_sem]
    · rintro ⟨i, hi, ht⟩
      simp only [go_sem]
      split
      · rename_i hlt
        have hlt : i < w.Bodies.length := by omega
        refine ⟨ok_, ?_⟩
        by_cases he : (w.Bodies.getD i default).Fixtures.length ≤ 4
        · rw [if_neg (by omega)]
          refine Wpi_loop hm (ι := {k : Nat // k ≤ (w.Bodies.getD i default).Fixtures.length ∧ ((w.Bodies.getD i default).Fixtures.take k).all smallF = true}) (fun k => [(1, .share, .ptr 32 0 0 1), (3, .share, .sc (.int .i64 i)), (4, .share, .sc (.int .i64 k.1))])
            (fun i => [(32, .box w.enc)]) (fun k => (w.Bodies.getD i default).Fixtures.length - k.1) ⟨0, by omega, rfl⟩ ?_ ?_
          · refine weakE_of [] [] (by simp) (by simp [assoc]) (by simp) ?_
            simp only [go_sem]
          · rintro ⟨k, hk, hkt⟩
            simp only [go_sem]
            refine ⟨ok_, ?_⟩
            split
            · rename_i hklt
              have hklt : k < (w.Bodies.getD i default).Fixtures.length := by omega
              refine ⟨ok_, ok_, ?_⟩
              by_cases hf : ((w.Bodies.getD i default).Fixtures.getD k default).Shape.Vertices.length ≤ 10
              · rw [if_neg (by omega)]
                refine loop_next ⟨k + 1, by omega, l_all_succ default hkt hklt (decide_eq_true hf)⟩ (by show (w.Bodies.getD i default).Fixtures.length - (k + 1) < (w.Bodies.getD i default).Fixtures.length - k; omega) (weakE_of [] [] (by simp) (by simp [assoc]) (by simp) ?_)
                simp only [go_sem]
                exact (by rw [IntKind.wrap_i64]; omega)
              · rw [if_pos (by omega)]
                have : smallB (w.Bodies.getD i default) = false := by unfold smallB; rw [l_all_false default hklt (decide_eq_false hf)]; simp
                rw [l_all_false default hlt this]; rfl
            · rename_i hge
              have hil : k = (w.Bodies.getD i default).Fixtures.length := by omega
              subst hil
              have hb : smallB (w.Bodies.getD i default) = true := by unfold smallB; rw [l_all_end hkt, decide_eq_true he]; rfl
              refine loop_next ⟨i + 1, by omega, l_all_succ default ht hlt hb⟩ (by show w.Bodies.length - (i + 1) < w.Bodies.length - i; omega) (weakE_of [] [] (by simp) (by simp [assoc]) (by simp) ?_)
              simp only [go_sem]
              exact (by rw [IntKind.wrap_i64]; omega)
        · rw [if_pos (by omega)]
          have : smallB (w.Bodies.getD i default) = false := by unfold smallB; rw [decide_eq_false he]; rfl
          rw [l_all_false default hlt this]; rfl
      · rename_i hge
        have hil : i = w.Bodies.length := by omega
        subst hil
        rw [l_all_end ht, Bool.true_and]
        refine CallGi_flat (s_r27_FewPoints w.Contacts (by omega)) rfl ?_
        simp only [go_sem]
  · have hsm : isSmall w = false := by
      rw [← Bool.not_eq_true]; intro h; apply hc
      simp only [isSmall, Bool.and_eq_true, decide_eq_true_eq] at h
      omega
    rw [hsm]
    rw [if_pos (by simp; omega)]
end Go.Abs
end
