/- A part of the walk: contracts of functions that the statement reaches. -/
import Derived.Test.YtlldeiikcfaegaaGreatAbsC
import Derived.Test.YtlldeiikcfaegaaGreatT3
set_option linter.unusedSimpArgs false
set_option linter.unusedVariables false
set_option linter.unnecessarySimpa false
set_option maxRecDepth 100000
set_option maxHeartbeats 2000000
set_option linter.unusedSimpArgs false
set_option linter.unusedVariables false
namespace Go.Abs
open Go.Proofs
open Api
def d_world_bodiesExist (w : Api.World) (j : Joint) : Bool := let v1 := (findB w j.BodyB); let v2 := (findB w j.BodyA); ((decide (0 ≤ v1)) && ((j.Kind == 5) || (decide (0 ≤ v2))))
set_option maxHeartbeats 200000 in
theorem s_world_bodiesExist (w : Api.World) (j : Joint) (hl : w.Bodies.length ≤ 1048576) : CallsA Tryz.prog F_world_bodiesExist [.agg w.enc, .agg j.enc] [] (.sc (.bool (d_world_bodiesExist w j))) [] := by
  refine callsI_of (rs := [_]) hm Tryz.func141 (by kernel_rfl) (by kernel_rfl) is_world_bodiesExist (by kernel_rfl : tmpsOf Tryz.f141.results.toList = some [4]) (by decide) (by kernel_rfl) ?_
  simp only [c_world_bodiesExist, go_sem, ite_andP, ite_orP, dec_true, dec_false]
  (repeat (with_reducible refine And.intro ?_ ?_; focus exact ob_))
  have p1 := findB_lt w j.BodyB
  refine CallGi_flat (s_world_FindBody w j.BodyB (by (first | assumption | omega | (simp_all; done)))) rfl ?_
  generalize hv1 : (findB w j.BodyB) = v1 at *
  simp only [go_sem, ite_andP, ite_orP, dec_true, dec_false]
  (repeat (with_reducible refine And.intro ?_ ?_; focus exact ob_))
  have p2 := findB_lt w j.BodyA
  refine CallGi_flat (s_world_FindBody w j.BodyA (by (first | assumption | omega | (simp_all; done)))) rfl ?_
  generalize hv2 : (findB w j.BodyA) = v2 at *
  simp only [go_sem, ite_andP, ite_orP, dec_true, dec_false]
  (repeat (with_reducible refine And.intro ?_ ?_; focus exact ob_))
  have hd : d_world_bodiesExist w j = ((decide (0 ≤ v1)) && ((j.Kind == 5) || (decide (0 ≤ v2)))) := by first | with_reducible rfl | (unfold d_world_bodiesExist; exact hd_)
  try rw [hd]
  try simp only [go_sem, ite_andP, ite_orP, dec_true, dec_false]
  all_goals exact fin_

def d_world_fixturesExist (w : Api.World) (k : PairKey) : Bool := let v1 := (findB w k.BodyA); let v2 := (findB w k.BodyB); ((((decide (0 ≤ v1)) && (decide (0 ≤ v2))) && (decide (k.FixtureA < ((w.Bodies.getD v1.toNat default).Fixtures.length : Int)))) && (decide (k.FixtureB < ((w.Bodies.getD v2.toNat default).Fixtures.length : Int))))
set_option maxHeartbeats 200000 in
theorem s_world_fixturesExist (w : Api.World) (k : PairKey) (hl : w.Bodies.length ≤ 1048576) : CallsA Tryz.prog F_world_fixturesExist [.agg w.enc, .agg k.enc] [] (.sc (.bool (d_world_fixturesExist w k))) [] := by
  refine callsI_of (rs := [_]) hm Tryz.func147 (by kernel_rfl) (by kernel_rfl) is_world_fixturesExist (by kernel_rfl : tmpsOf Tryz.f147.results.toList = some [4]) (by decide) (by kernel_rfl) ?_
  simp only [c_world_fixturesExist, go_sem, ite_andP, ite_orP, dec_true, dec_false]
  (repeat (with_reducible refine And.intro ?_ ?_; focus exact ob_))
  have p1 := findB_lt w k.BodyA
  refine CallGi_flat (s_world_FindBody w k.BodyA (by (first | assumption | omega | (simp_all; done)))) rfl ?_
  generalize hv1 : (findB w k.BodyA) = v1 at *
  simp only [go_sem, ite_andP, ite_orP, dec_true, dec_false]
  (repeat (with_reducible refine And.intro ?_ ?_; focus exact ob_))
  have p2 := findB_lt w k.BodyB
  refine CallGi_flat (s_world_FindBody w k.BodyB (by (first | assumption | omega | (simp_all; done)))) rfl ?_
  generalize hv2 : (findB w k.BodyB) = v2 at *
  simp only [go_sem, ite_andP, ite_orP, dec_true, dec_false]
  (repeat (with_reducible refine And.intro ?_ ?_; focus exact ob_))
  have hd : d_world_fixturesExist w k = ((((decide (0 ≤ v1)) && (decide (0 ≤ v2))) && (decide (k.FixtureA < ((w.Bodies.getD v1.toNat default).Fixtures.length : Int)))) && (decide (k.FixtureB < ((w.Bodies.getD v2.toNat default).Fixtures.length : Int)))) := by first | with_reducible rfl | (unfold d_world_fixturesExist; exact hd_)
  try rw [hd]
  try simp only [go_sem, ite_andP, ite_orP, dec_true, dec_false]
  all_goals exact fin_

def d_r25_exists (w : Api.World) (id : Int) (n : Int) : Bool := let v1 := (findB w id); (((decide (0 ≤ v1)) && (decide (0 ≤ n))) && (decide (n < ((w.Bodies.getD v1.toNat default).Fixtures.length : Int))))
set_option maxHeartbeats 200000 in
theorem s_r25_exists (w : Api.World) (id : Int) (n : Int) (hl : w.Bodies.length ≤ 1048576) : CallsA Tryz.prog F_r25_exists [.agg w.enc, .sc (.int .i64 id), .sc (.int .i64 n)] [] (.sc (.bool (d_r25_exists w id n))) [] := by
  refine callsI_of (rs := [_]) hm Tryz.func282 (by kernel_rfl) (by kernel_rfl) is_r25_exists (by kernel_rfl : tmpsOf Tryz.f282.results.toList = some [6]) (by decide) (by kernel_rfl) ?_
  simp only [c_r25_exists, go_sem, ite_andP, ite_orP, dec_true, dec_false]
  (repeat (with_reducible refine And.intro ?_ ?_; focus exact ob_))
  have p1 := findB_lt w id
  refine CallGi_flat (s_r25_FindBody w id (by (first | assumption | omega | (simp_all; done)))) rfl ?_
  generalize hv1 : (findB w id) = v1 at *
  simp only [go_sem, ite_andP, ite_orP, dec_true, dec_false]
  (repeat (with_reducible refine And.intro ?_ ?_; focus exact ob_))
  have hd : d_r25_exists w id n = (((decide (0 ≤ v1)) && (decide (0 ≤ n))) && (decide (n < ((w.Bodies.getD v1.toNat default).Fixtures.length : Int)))) := by first | with_reducible rfl | (unfold d_r25_exists; exact hd_)
  try rw [hd]
  try simp only [go_sem, ite_andP, ite_orP, dec_true, dec_false]
  all_goals exact fin_

def d_r25_resolved_L1 (w : Api.World) (l : List PairKey) (i1 : Nat) (s1 : Unit) : (Unit) ⊕ (Bool) := let v1 := (d_r25_exists w (l.getD i1 default).BodyA (l.getD i1 default).FixtureA); let v2 := (d_r25_exists w (l.getD i1 default).BodyB (l.getD i1 default).FixtureB); if ((!v1) || (!v2)) = true then (.inr false) else (.inl ())
def d_r25_resolved (w : Api.World) (l : List PairKey) : Bool := (match itrE (d_r25_resolved_L1 w l) l.length () with | .inr r => r | .inl s1 => true)
set_option maxHeartbeats 200000 in
theorem s_r25_resolved (w : Api.World) (l : List PairKey) (hl : w.Bodies.length ≤ 1048576) (hk : l.length ≤ 1048576) : CallsA Tryz.prog F_r25_resolved [.agg w.enc, encD 4 PairKey.enc default l] [] (.sc (.bool (d_r25_resolved w l))) [] := by
  refine callsI_of (rs := [_]) hm Tryz.func235 (by kernel_rfl) (by kernel_rfl) is_r25_resolved (by kernel_rfl : tmpsOf Tryz.f235.results.toList = some [4]) (by decide) (by kernel_rfl) ?_
  simp only [c_r25_resolved, go_sem, ite_andP, ite_orP, dec_true, dec_false]
  (repeat (with_reducible refine And.intro ?_ ?_; focus exact ob_))
  refine Wpi_loop hm (ι := {p : Nat × Unit // p.1 ≤ l.length ∧ itrE (d_r25_resolved_L1 w l) p.1 () = .inl p.2}) (fun i => [(1, .share, encD 4 PairKey.enc default l), (2, .share, .ptr 48 0 0 1), (5, .share, .sc (.int .i64 (i.1.1 : Int)))]) (fun i => [(48, .box [.sc (.int .i64 w.Settings.TimeStep), .sc (.int .i64 w.Settings.Gravity.X), .sc (.int .i64 w.Settings.Gravity.Y), .sc (.int .i64 w.Settings.Iterations), .sc (.int .i64 w.Settings.SleepSteps), encD 20 Body.enc default w.Bodies, encD 24 Joint.enc default w.Joints, encD 7 Contact.enc default w.Contacts, encD 4 PairKey.enc default w.Overlaps, .sc (.int .i64 w.NextID), .sc (.int .i64 w.Frame)])]) (fun i => l.length - i.1.1) ⟨(0, ()), by omega, rfl⟩ ?_ ?_
  · refine weakE_ [] [] ?_
    simp only [go_sem, ite_andP, ite_orP, dec_true, dec_false, itr_zero]
    all_goals exact fin_
  · rintro ⟨⟨i1, s1⟩, hi1, hs1⟩
    replace hi1 : i1 ≤ l.length := hi1
    replace hs1 : itrE (d_r25_resolved_L1 w l) i1 () = .inl s1 := hs1
    simp only [c_r25_resolvedb0, go_sem, ite_andP, ite_orP, dec_true, dec_false]
    (repeat (with_reducible refine And.intro ?_ ?_; focus exact ob_))
    by_cases h1 : (i1 : Int) < (l.length : Int)
    · first | rw [if_pos h1] | rw [if_pos (by simp_all)] | rw [if_pos (by omega)]
      have hlt1 : i1 < l.length := by first | omega | (simp only [IntKind.wrap_i64] at h1; omega)
      (repeat (with_reducible refine And.intro ?_ ?_; focus exact ob_))
      refine CallGi_flat (s_r25_exists w (l.getD i1 default).BodyA (l.getD i1 default).FixtureA (by (first | assumption | omega | (simp_all; done) | (simp_all; omega)))) rfl ?_
      generalize hv1 : (d_r25_exists w (l.getD i1 default).BodyA (l.getD i1 default).FixtureA) = v1
      simp only [go_sem, ite_andP, ite_orP, dec_true, dec_false]
      (repeat (with_reducible refine And.intro ?_ ?_; focus exact ob_))
      refine CallGi_flat (s_r25_exists w (l.getD i1 default).BodyB (l.getD i1 default).FixtureB (by (first | assumption | omega | (simp_all; done) | (simp_all; omega)))) rfl ?_
      generalize hv2 : (d_r25_exists w (l.getD i1 default).BodyB (l.getD i1 default).FixtureB) = v2
      simp only [go_sem, ite_andP, ite_orP, dec_true, dec_false]
      (repeat (with_reducible refine And.intro ?_ ?_; focus exact ob_))
      by_cases h2 : ((!v1) || (!v2)) = true
      · first | rw [if_pos h2] | rw [if_pos (by simp_all)] | rw [if_pos (by omega)]
        (repeat (with_reducible refine And.intro ?_ ?_; focus exact ob_))
        have e1 : itrE (d_r25_resolved_L1 w l) (i1 + 1) () = .inr false := itrE_inl hs1 (by first | with_reducible rfl | (unfold d_r25_resolved_L1; exact hd_))
        replace e1 := itrE_stop e1 (show i1 + 1 ≤ l.length by omega)
        have hd : d_r25_resolved w l = false := by first | with_reducible rfl | (unfold d_r25_resolved; exact hd_)
        try rw [hd]
        try simp only [go_sem, ite_andP, ite_orP, dec_true, dec_false]
        all_goals exact fin_
      · first | rw [if_neg h2] | rw [if_neg (by simp_all)] | rw [if_neg (by omega)]
        (repeat (with_reducible refine And.intro ?_ ?_; focus exact ob_))
        have hn : itrE (d_r25_resolved_L1 w l) (i1 + 1) () = .inl () := itrE_inl hs1 (by first | with_reducible rfl | (unfold d_r25_resolved_L1; exact hd_))
        refine loop_next ⟨(i1 + 1, ()), by omega, hn⟩ (by show l.length - (i1 + 1) < l.length - i1; omega) (weakE_ [] [] ?_)
        simp only [go_sem, ite_andP, ite_orP, dec_true, dec_false]
        all_goals exact fin_
    · first | rw [if_neg h1] | rw [if_neg (by simp_all)] | rw [if_neg (by omega)]
      (repeat (with_reducible refine And.intro ?_ ?_; focus exact ob_))
      have hge : i1 = l.length := by first | omega | (simp only [IntKind.wrap_i64] at h1; omega)
      subst hge
      have hd : d_r25_resolved w l = true := by first | with_reducible rfl | (unfold d_r25_resolved; exact hd_)
      try rw [hd]
      try simp only [go_sem, ite_andP, ite_orP, dec_true, dec_false]
      all_goals exact fin_

def d_r25_connected (w : Api.World) (j : Joint) : Bool := let v1 := (findB w j.BodyA); let v2 := (findB w j.BodyB); (((j.BodyA == 0) || (decide (0 ≤ v1))) && ((j.BodyB == 0) || (decide (0 ≤ v2))))
set_option maxHeartbeats 200000 in
theorem s_r25_connected (w : Api.World) (j : Joint) (hl : w.Bodies.length ≤ 1048576) : CallsA Tryz.prog F_r25_connected [.agg w.enc, .agg j.enc] [] (.sc (.bool (d_r25_connected w j))) [] := by
  refine callsI_of (rs := [_]) hm Tryz.func232 (by kernel_rfl) (by kernel_rfl) is_r25_connected (by kernel_rfl : tmpsOf Tryz.f232.results.toList = some [4]) (by decide) (by kernel_rfl) ?_
  simp only [c_r25_connected, go_sem, ite_andP, ite_orP, dec_true, dec_false]
  (repeat (with_reducible refine And.intro ?_ ?_; focus exact ob_))
  have p1 := findB_lt w j.BodyA
  refine CallGi_flat (s_r25_FindBody w j.BodyA (by (first | assumption | omega | (simp_all; done)))) rfl ?_
  generalize hv1 : (findB w j.BodyA) = v1 at *
  simp only [go_sem, ite_andP, ite_orP, dec_true, dec_false]
  (repeat (with_reducible refine And.intro ?_ ?_; focus exact ob_))
  have p2 := findB_lt w j.BodyB
  refine CallGi_flat (s_r25_FindBody w j.BodyB (by (first | assumption | omega | (simp_all; done)))) rfl ?_
  generalize hv2 : (findB w j.BodyB) = v2 at *
  simp only [go_sem, ite_andP, ite_orP, dec_true, dec_false]
  (repeat (with_reducible refine And.intro ?_ ?_; focus exact ob_))
  have hd : d_r25_connected w j = (((j.BodyA == 0) || (decide (0 ≤ v1))) && ((j.BodyB == 0) || (decide (0 ≤ v2)))) := by first | with_reducible rfl | (unfold d_r25_connected; exact hd_)
  try rw [hd]
  try simp only [go_sem, ite_andP, ite_orP, dec_true, dec_false]
  all_goals exact fin_

def d_body_Validate_L1 (b : Body) (i1 : Nat) (s1 : Unit) : (Unit) ⊕ (Int) := let v2 := (d_body_ValidateFixture (b.Fixtures.getD i1 default)); if (v2 != 0) = true then (.inr 13) else (.inl ())
def d_body_Validate (b : Body) : Int := if (((b.Kind != 1) && (b.Kind != 2)) && (b.Kind != 3)) = true then (10) else (let v1 := (d_body_inRange b); if v1 = false then (6) else (if 4 < (b.Fixtures.length : Int) then (11) else ((match itrE (d_body_Validate_L1 b) b.Fixtures.length () with | .inr r => r | .inl s1 => let v3 := (d_body_consistent b); if v3 = false then (14) else (0)))))
set_option maxHeartbeats 200000 in
theorem s_body_Validate (b : Body) (hb : Body.sm b) : CallsA Tryz.prog F_body_Validate [.agg b.enc] [] (.sc (.int .i64 (d_body_Validate b))) [] := by
  refine callsI_of (rs := [_]) hm Tryz.func139 (by kernel_rfl) (by kernel_rfl) is_body_Validate (by kernel_rfl : tmpsOf Tryz.f139.results.toList = some [2]) (by decide) (by kernel_rfl) ?_
  simp only [c_body_Validate, go_sem, ite_andP, ite_orP, dec_true, dec_false]
  (repeat (with_reducible refine And.intro ?_ ?_; focus exact ob_))
  by_cases h1 : (((b.Kind != 1) && (b.Kind != 2)) && (b.Kind != 3)) = true
  · first | rw [if_pos h1] | rw [if_pos (by simp_all)] | rw [if_pos (by omega)]
    (repeat (with_reducible refine And.intro ?_ ?_; focus exact ob_))
    have hd : d_body_Validate b = 10 := by first | with_reducible rfl | (unfold d_body_Validate; exact hd_)
    try rw [hd]
    try simp only [go_sem, ite_andP, ite_orP, dec_true, dec_false]
    all_goals exact fin_
  · first | rw [if_neg h1] | rw [if_neg (by simp_all)] | rw [if_neg (by omega)]
    (repeat (with_reducible refine And.intro ?_ ?_; focus exact ob_))
    refine CallGi_flat (s_body_inRange b ) rfl ?_
    generalize hv1 : (d_body_inRange b) = v1
    simp only [go_sem, ite_andP, ite_orP, dec_true, dec_false]
    (repeat (with_reducible refine And.intro ?_ ?_; focus exact ob_))
    by_cases h2 : v1 = false
    · first | rw [if_pos h2] | rw [if_pos (by simp_all)] | rw [if_pos (by omega)]
      (repeat (with_reducible refine And.intro ?_ ?_; focus exact ob_))
      have hd : d_body_Validate b = 6 := by first | with_reducible rfl | (unfold d_body_Validate; exact hd_)
      try rw [hd]
      try simp only [go_sem, ite_andP, ite_orP, dec_true, dec_false]
      all_goals exact fin_
    · first | rw [if_neg h2] | rw [if_neg (by simp_all)] | rw [if_neg (by omega)]
      (repeat (with_reducible refine And.intro ?_ ?_; focus exact ob_))
      by_cases h3 : 4 < (b.Fixtures.length : Int)
      · first | rw [if_pos h3] | rw [if_pos (by simp_all)] | rw [if_pos (by omega)]
        (repeat (with_reducible refine And.intro ?_ ?_; focus exact ob_))
        have hd : d_body_Validate b = 11 := by first | with_reducible rfl | (unfold d_body_Validate; exact hd_)
        try rw [hd]
        try simp only [go_sem, ite_andP, ite_orP, dec_true, dec_false]
        all_goals exact fin_
      · first | rw [if_neg h3] | rw [if_neg (by simp_all)] | rw [if_neg (by omega)]
        (repeat (with_reducible refine And.intro ?_ ?_; focus exact ob_))
        refine Wpi_loop hm (ι := {p : Nat × Unit // p.1 ≤ b.Fixtures.length ∧ itrE (d_body_Validate_L1 b) p.1 () = .inl p.2}) (fun i => [(1, .share, .ptr 32 0 0 1), (26, .share, encD 10 Fixture.enc default b.Fixtures), (27, .share, .sc (.int .i64 (b.Fixtures.length : Int))), (28, .share, .sc (.int .i64 (i.1.1 : Int)))]) (fun i => [(32, .box [.sc (.int .i64 b.ID), .sc (.int .i64 b.Kind), .sc (.int .i64 b.Transform.Position.X), .sc (.int .i64 b.Transform.Position.Y), .sc (.int .i64 b.Transform.Angle), .sc (.int .i64 b.Velocity.X), .sc (.int .i64 b.Velocity.Y), .sc (.int .i64 b.AngularVelocity), .sc (.int .i64 b.Force.X), .sc (.int .i64 b.Force.Y), .sc (.int .i64 b.Torque), .sc (.int .i64 b.LinearDamping), .sc (.int .i64 b.AngularDamping), .sc (.int .i64 b.GravityScale), .sc (.bool b.Bullet), .sc (.bool b.FixedRotation), .sc (.bool b.NoSleep), .sc (.bool b.Asleep), .sc (.int .i64 b.IdleSteps), encD 10 Fixture.enc default b.Fixtures])]) (fun i => b.Fixtures.length - i.1.1) ⟨(0, ()), by omega, rfl⟩ ?_ ?_
        · refine weakE_ [] [] ?_
          simp only [go_sem, ite_andP, ite_orP, dec_true, dec_false, itr_zero]
          all_goals exact fin_
        · rintro ⟨⟨i1, s1⟩, hi1, hs1⟩
          replace hi1 : i1 ≤ b.Fixtures.length := hi1
          replace hs1 : itrE (d_body_Validate_L1 b) i1 () = .inl s1 := hs1
          simp only [c_body_Validateb0, go_sem, ite_andP, ite_orP, dec_true, dec_false]
          (repeat (with_reducible refine And.intro ?_ ?_; focus exact ob_))
          by_cases h4 : (i1 : Int) < (b.Fixtures.length : Int)
          · first | rw [if_pos h4] | rw [if_pos (by simp_all)] | rw [if_pos (by omega)]
            have hlt1 : i1 < b.Fixtures.length := by first | omega | (simp only [IntKind.wrap_i64] at h4; omega)
            (repeat (with_reducible refine And.intro ?_ ?_; focus exact ob_))
            refine CallGi_flat (s_body_ValidateFixture (b.Fixtures.getD i1 default) (by (first | exact hb.2 _ (mem_getD _ (by omega)) | assumption | omega | (simp_all; done) | (simp_all; omega)))) rfl ?_
            generalize hv2 : (d_body_ValidateFixture (b.Fixtures.getD i1 default)) = v2
            simp only [go_sem, ite_andP, ite_orP, dec_true, dec_false]
            (repeat (with_reducible refine And.intro ?_ ?_; focus exact ob_))
            by_cases h5 : (v2 != 0) = true
            · first | rw [if_pos h5] | rw [if_pos (by simp_all)] | rw [if_pos (by omega)]
              (repeat (with_reducible refine And.intro ?_ ?_; focus exact ob_))
              have e1 : itrE (d_body_Validate_L1 b) (i1 + 1) () = .inr 13 := itrE_inl hs1 (by first | with_reducible rfl | (unfold d_body_Validate_L1; exact hd_))
              replace e1 := itrE_stop e1 (show i1 + 1 ≤ b.Fixtures.length by omega)
              have hd : d_body_Validate b = 13 := by first | with_reducible rfl | (unfold d_body_Validate; exact hd_)
              try rw [hd]
              try simp only [go_sem, ite_andP, ite_orP, dec_true, dec_false]
              all_goals exact fin_
            · first | rw [if_neg h5] | rw [if_neg (by simp_all)] | rw [if_neg (by omega)]
              (repeat (with_reducible refine And.intro ?_ ?_; focus exact ob_))
              have hn : itrE (d_body_Validate_L1 b) (i1 + 1) () = .inl () := itrE_inl hs1 (by first | with_reducible rfl | (unfold d_body_Validate_L1; exact hd_))
              refine loop_next ⟨(i1 + 1, ()), by omega, hn⟩ (by show b.Fixtures.length - (i1 + 1) < b.Fixtures.length - i1; omega) (weakE_ [] [] ?_)
              simp only [go_sem, ite_andP, ite_orP, dec_true, dec_false]
              all_goals exact fin_
          · first | rw [if_neg h4] | rw [if_neg (by simp_all)] | rw [if_neg (by omega)]
            (repeat (with_reducible refine And.intro ?_ ?_; focus exact ob_))
            have hge : i1 = b.Fixtures.length := by first | omega | (simp only [IntKind.wrap_i64] at h4; omega)
            subst hge
            refine CallGi_flat (s_body_consistent b ) rfl ?_
            generalize hv3 : (d_body_consistent b) = v3
            simp only [go_sem, ite_andP, ite_orP, dec_true, dec_false]
            (repeat (with_reducible refine And.intro ?_ ?_; focus exact ob_))
            by_cases h6 : v3 = false
            · first | rw [if_pos h6] | rw [if_pos (by simp_all)] | rw [if_pos (by omega)]
              (repeat (with_reducible refine And.intro ?_ ?_; focus exact ob_))
              have hd : d_body_Validate b = 14 := by first | with_reducible rfl | (unfold d_body_Validate; exact hd_)
              try rw [hd]
              try simp only [go_sem, ite_andP, ite_orP, dec_true, dec_false]
              all_goals exact fin_
            · first | rw [if_neg h6] | rw [if_neg (by simp_all)] | rw [if_neg (by omega)]
              (repeat (with_reducible refine And.intro ?_ ?_; focus exact ob_))
              have hd : d_body_Validate b = 0 := by first | with_reducible rfl | (unfold d_body_Validate; exact hd_)
              try rw [hd]
              try simp only [go_sem, ite_andP, ite_orP, dec_true, dec_false]
              all_goals exact fin_

def d_r23_Validate_L1 (b : Body) (i1 : Nat) (s1 : Unit) : (Unit) ⊕ (Int) := let v2 := (d_r23_ValidateFixture (b.Fixtures.getD i1 default)); if (v2 != 0) = true then (.inr 13) else (.inl ())
def d_r23_Validate (b : Body) : Int := if (((b.Kind != 1) && (b.Kind != 2)) && (b.Kind != 3)) = true then (10) else (let v1 := (d_r23_inRange b); if v1 = false then (6) else (if 4 < (b.Fixtures.length : Int) then (11) else ((match itrE (d_r23_Validate_L1 b) b.Fixtures.length () with | .inr r => r | .inl s1 => if ((((b.Kind == 1) && (((!((b.Velocity.X == 0) && (b.Velocity.Y == 0))) || (b.AngularVelocity != 0)) || ((!((b.Force.X == 0) && (b.Force.Y == 0))) || (b.Torque != 0)))) || ((b.Kind != 3) && (b.Asleep || b.Bullet))) || (b.Asleep && ((!((b.Velocity.X == 0) && (b.Velocity.Y == 0))) || (b.AngularVelocity != 0)))) = true then (14) else (0)))))
set_option maxHeartbeats 200000 in
theorem s_r23_Validate (b : Body) (hb : Body.sm b) : CallsA Tryz.prog F_r23_Validate [.agg b.enc] [] (.sc (.int .i64 (d_r23_Validate b))) [] := by
  refine callsI_of (rs := [_]) hm Tryz.func230 (by kernel_rfl) (by kernel_rfl) is_r23_Validate (by kernel_rfl : tmpsOf Tryz.f230.results.toList = some [2]) (by decide) (by kernel_rfl) ?_
  simp only [c_r23_Validate, go_sem, ite_andP, ite_orP, dec_true, dec_false]
  (repeat (with_reducible refine And.intro ?_ ?_; focus exact ob_))
  by_cases h1 : (((b.Kind != 1) && (b.Kind != 2)) && (b.Kind != 3)) = true
  · first | rw [if_pos h1] | rw [if_pos (by simp_all)] | rw [if_pos (by omega)]
    (repeat (with_reducible refine And.intro ?_ ?_; focus exact ob_))
    have hd : d_r23_Validate b = 10 := by first | with_reducible rfl | (unfold d_r23_Validate; exact hd_)
    try rw [hd]
    try simp only [go_sem, ite_andP, ite_orP, dec_true, dec_false]
    all_goals exact fin_
  · first | rw [if_neg h1] | rw [if_neg (by simp_all)] | rw [if_neg (by omega)]
    (repeat (with_reducible refine And.intro ?_ ?_; focus exact ob_))
    refine CallGi_flat (s_r23_inRange b ) rfl ?_
    generalize hv1 : (d_r23_inRange b) = v1
    simp only [go_sem, ite_andP, ite_orP, dec_true, dec_false]
    (repeat (with_reducible refine And.intro ?_ ?_; focus exact ob_))
    by_cases h2 : v1 = false
    · first | rw [if_pos h2] | rw [if_pos (by simp_all)] | rw [if_pos (by omega)]
      (repeat (with_reducible refine And.intro ?_ ?_; focus exact ob_))
      have hd : d_r23_Validate b = 6 := by first | with_reducible rfl | (unfold d_r23_Validate; exact hd_)
      try rw [hd]
      try simp only [go_sem, ite_andP, ite_orP, dec_true, dec_false]
      all_goals exact fin_
    · first | rw [if_neg h2] | rw [if_neg (by simp_all)] | rw [if_neg (by omega)]
      (repeat (with_reducible refine And.intro ?_ ?_; focus exact ob_))
      by_cases h3 : 4 < (b.Fixtures.length : Int)
      · first | rw [if_pos h3] | rw [if_pos (by simp_all)] | rw [if_pos (by omega)]
        (repeat (with_reducible refine And.intro ?_ ?_; focus exact ob_))
        have hd : d_r23_Validate b = 11 := by first | with_reducible rfl | (unfold d_r23_Validate; exact hd_)
        try rw [hd]
        try simp only [go_sem, ite_andP, ite_orP, dec_true, dec_false]
        all_goals exact fin_
      · first | rw [if_neg h3] | rw [if_neg (by simp_all)] | rw [if_neg (by omega)]
        (repeat (with_reducible refine And.intro ?_ ?_; focus exact ob_))
        refine Wpi_loop hm (ι := {p : Nat × Unit // p.1 ≤ b.Fixtures.length ∧ itrE (d_r23_Validate_L1 b) p.1 () = .inl p.2}) (fun i => [(1, .share, .ptr 32 0 0 1), (3, .share, .sc (.int .i64 (i.1.1 : Int)))]) (fun i => [(32, .box [.sc (.int .i64 b.ID), .sc (.int .i64 b.Kind), .sc (.int .i64 b.Transform.Position.X), .sc (.int .i64 b.Transform.Position.Y), .sc (.int .i64 b.Transform.Angle), .sc (.int .i64 b.Velocity.X), .sc (.int .i64 b.Velocity.Y), .sc (.int .i64 b.AngularVelocity), .sc (.int .i64 b.Force.X), .sc (.int .i64 b.Force.Y), .sc (.int .i64 b.Torque), .sc (.int .i64 b.LinearDamping), .sc (.int .i64 b.AngularDamping), .sc (.int .i64 b.GravityScale), .sc (.bool b.Bullet), .sc (.bool b.FixedRotation), .sc (.bool b.NoSleep), .sc (.bool b.Asleep), .sc (.int .i64 b.IdleSteps), encD 10 Fixture.enc default b.Fixtures])]) (fun i => b.Fixtures.length - i.1.1) ⟨(0, ()), by omega, rfl⟩ ?_ ?_
        · refine weakE_ [] [] ?_
          simp only [go_sem, ite_andP, ite_orP, dec_true, dec_false, itr_zero]
          all_goals exact fin_
        · rintro ⟨⟨i1, s1⟩, hi1, hs1⟩
          replace hi1 : i1 ≤ b.Fixtures.length := hi1
          replace hs1 : itrE (d_r23_Validate_L1 b) i1 () = .inl s1 := hs1
          simp only [c_r23_Validateb0, go_sem, ite_andP, ite_orP, dec_true, dec_false]
          (repeat (with_reducible refine And.intro ?_ ?_; focus exact ob_))
          by_cases h4 : (i1 : Int) < (b.Fixtures.length : Int)
          · first | rw [if_pos h4] | rw [if_pos (by simp_all)] | rw [if_pos (by omega)]
            have hlt1 : i1 < b.Fixtures.length := by first | omega | (simp only [IntKind.wrap_i64] at h4; omega)
            (repeat (with_reducible refine And.intro ?_ ?_; focus exact ob_))
            refine CallGi_flat (s_r23_ValidateFixture (b.Fixtures.getD i1 default) (by (first | exact hb.2 _ (mem_getD _ (by omega)) | assumption | omega | (simp_all; done) | (simp_all; omega)))) rfl ?_
            generalize hv2 : (d_r23_ValidateFixture (b.Fixtures.getD i1 default)) = v2
            simp only [go_sem, ite_andP, ite_orP, dec_true, dec_false]
            (repeat (with_reducible refine And.intro ?_ ?_; focus exact ob_))
            by_cases h5 : (v2 != 0) = true
            · first | rw [if_pos h5] | rw [if_pos (by simp_all)] | rw [if_pos (by omega)]
              (repeat (with_reducible refine And.intro ?_ ?_; focus exact ob_))
              have e1 : itrE (d_r23_Validate_L1 b) (i1 + 1) () = .inr 13 := itrE_inl hs1 (by first | with_reducible rfl | (unfold d_r23_Validate_L1; exact hd_))
              replace e1 := itrE_stop e1 (show i1 + 1 ≤ b.Fixtures.length by omega)
              have hd : d_r23_Validate b = 13 := by first | with_reducible rfl | (unfold d_r23_Validate; exact hd_)
              try rw [hd]
              try simp only [go_sem, ite_andP, ite_orP, dec_true, dec_false]
              all_goals exact fin_
            · first | rw [if_neg h5] | rw [if_neg (by simp_all)] | rw [if_neg (by omega)]
              (repeat (with_reducible refine And.intro ?_ ?_; focus exact ob_))
              have hn : itrE (d_r23_Validate_L1 b) (i1 + 1) () = .inl () := itrE_inl hs1 (by first | with_reducible rfl | (unfold d_r23_Validate_L1; exact hd_))
              refine loop_next ⟨(i1 + 1, ()), by omega, hn⟩ (by show b.Fixtures.length - (i1 + 1) < b.Fixtures.length - i1; omega) (weakE_ [] [] ?_)
              simp only [go_sem, ite_andP, ite_orP, dec_true, dec_false]
              all_goals exact fin_
          · first | rw [if_neg h4] | rw [if_neg (by simp_all)] | rw [if_neg (by omega)]
            (repeat (with_reducible refine And.intro ?_ ?_; focus exact ob_))
            have hge : i1 = b.Fixtures.length := by first | omega | (simp only [IntKind.wrap_i64] at h4; omega)
            subst hge
            by_cases h6 : ((((b.Kind == 1) && (((!((b.Velocity.X == 0) && (b.Velocity.Y == 0))) || (b.AngularVelocity != 0)) || ((!((b.Force.X == 0) && (b.Force.Y == 0))) || (b.Torque != 0)))) || ((b.Kind != 3) && (b.Asleep || b.Bullet))) || (b.Asleep && ((!((b.Velocity.X == 0) && (b.Velocity.Y == 0))) || (b.AngularVelocity != 0)))) = true
            · first | rw [if_pos h6] | rw [if_pos (by simp_all)] | rw [if_pos (by omega)]
              (repeat (with_reducible refine And.intro ?_ ?_; focus exact ob_))
              have hd : d_r23_Validate b = 14 := by first | with_reducible rfl | (unfold d_r23_Validate; exact hd_)
              try rw [hd]
              try simp only [go_sem, ite_andP, ite_orP, dec_true, dec_false]
              all_goals exact fin_
            · first | rw [if_neg h6] | rw [if_neg (by simp_all)] | rw [if_neg (by omega)]
              (repeat (with_reducible refine And.intro ?_ ?_; focus exact ob_))
              have hd : d_r23_Validate b = 0 := by first | with_reducible rfl | (unfold d_r23_Validate; exact hd_)
              try rw [hd]
              try simp only [go_sem, ite_andP, ite_orP, dec_true, dec_false]
              all_goals exact fin_

def d_joint_numbersInRange_L1 (j : Joint) (i1 : Nat) (s1 : Unit) : (Unit) ⊕ (Bool) := if (inR ([j.Impulses.I0, j.Impulses.I1, j.Impulses.I2, j.Impulses.I3].getD i1 0) (-536870911) 536870911) = false then (.inr false) else (.inl ())
def d_joint_numbersInRange_L2 (j : Joint) (i2 : Nat) (s2 : Unit) : (Unit) ⊕ (Bool) := if (inR ([j.Impulses.I0, j.Impulses.I1, j.Impulses.I2, j.Impulses.I3].getD i2 0) (-536870911) 536870911) = false then (.inr false) else (.inl ())
def d_joint_numbersInRange (j : Joint) : Bool := if (j.Kind == 5) = true then (let v1 := (d_joint_limitRange j.Kind); (match itrE (d_joint_numbersInRange_L1 j) 4 () with | .inr r => r | .inl s1 => let v4 := (d_joint_pointInRange j.AnchorA 268435456); let v5 := (d_joint_pointInRange j.AnchorB 1048576); (((((((((((inR j.ID 1 1099511627776) && v4) && v5) && (inR j.ReferenceAngle (-205888) 205887)) && (inR j.Lower v1.1 v1.2)) && (inR j.Upper v1.1 v1.2)) && (decide (j.Lower ≤ j.Upper))) && (inR j.MotorSpeed (-16777216) 16777216)) && (inR j.MaxForce 0 536870911)) && (inR j.Softness 0 536870911)) && (inR j.BreakForce 0 536870911)))) else (let v13 := (d_joint_limitRange j.Kind); (match itrE (d_joint_numbersInRange_L2 j) 4 () with | .inr r => r | .inl s2 => let v16 := (d_joint_pointInRange j.AnchorA 1048576); let v17 := (d_joint_pointInRange j.AnchorB 1048576); (((((((((((inR j.ID 1 1099511627776) && v16) && v17) && (inR j.ReferenceAngle (-205888) 205887)) && (inR j.Lower v13.1 v13.2)) && (inR j.Upper v13.1 v13.2)) && (decide (j.Lower ≤ j.Upper))) && (inR j.MotorSpeed (-16777216) 16777216)) && (inR j.MaxForce 0 536870911)) && (inR j.Softness 0 536870911)) && (inR j.BreakForce 0 536870911))))
set_option maxHeartbeats 200000 in
theorem s_joint_numbersInRange (j : Joint)  : CallsA Tryz.prog F_joint_numbersInRange [.agg j.enc] [] (.sc (.bool (d_joint_numbersInRange j))) [] := by
  refine callsI_of (rs := [_]) hm Tryz.func208 (by kernel_rfl) (by kernel_rfl) is_joint_numbersInRange (by kernel_rfl : tmpsOf Tryz.f208.results.toList = some [2]) (by decide) (by kernel_rfl) ?_
  simp only [c_joint_numbersInRange, go_sem, ite_andP, ite_orP, dec_true, dec_false]
  (repeat (with_reducible refine And.intro ?_ ?_; focus exact ob_))
  by_cases h1 : (j.Kind == 5) = true
  · first | rw [if_pos h1] | rw [if_pos (by simp_all)] | rw [if_pos (by omega)]
    (repeat (with_reducible refine And.intro ?_ ?_; focus exact ob_))
    refine CallGi_flat (s_joint_limitRange j.Kind ) rfl ?_
    generalize hv1 : (d_joint_limitRange j.Kind) = v1
    simp only [go_sem, ite_andP, ite_orP, dec_true, dec_false]
    (repeat (with_reducible refine And.intro ?_ ?_; focus exact ob_))
    refine Wpi_loop hm (ι := {p : Nat × Unit // p.1 ≤ 4 ∧ itrE (d_joint_numbersInRange_L1 j) p.1 () = .inl p.2}) (fun i => [(1, .share, .ptr 32 0 0 1), (3, .share, .sc (.int .i64 268435456)), (4, .share, .sc (.int .i64 v1.1)), (5, .share, .sc (.int .i64 v1.2)), (18, .share, .agg [.sc (.int .i64 j.Impulses.I0), .sc (.int .i64 j.Impulses.I1), .sc (.int .i64 j.Impulses.I2), .sc (.int .i64 j.Impulses.I3)]), (19, .share, .sc (.int .i64 (i.1.1 : Int)))]) (fun i => [(32, .box [.sc (.int .i64 j.ID), .sc (.int .i64 j.Kind), .sc (.int .i64 j.BodyA), .sc (.int .i64 j.BodyB), .sc (.int .i64 j.AnchorA.X), .sc (.int .i64 j.AnchorA.Y), .sc (.int .i64 j.AnchorB.X), .sc (.int .i64 j.AnchorB.Y), .sc (.int .i64 j.Axis.X), .sc (.int .i64 j.Axis.Y), .sc (.int .i64 j.ReferenceAngle), .sc (.bool j.EnableLimit), .sc (.int .i64 j.Lower), .sc (.int .i64 j.Upper), .sc (.bool j.EnableMotor), .sc (.int .i64 j.MotorSpeed), .sc (.int .i64 j.MaxForce), .sc (.int .i64 j.Softness), .sc (.int .i64 j.BreakForce), .sc (.bool j.CollideConnected), .sc (.int .i64 j.Impulses.I0), .sc (.int .i64 j.Impulses.I1), .sc (.int .i64 j.Impulses.I2), .sc (.int .i64 j.Impulses.I3)])]) (fun i => 4 - i.1.1) ⟨(0, ()), by omega, rfl⟩ ?_ ?_
    · refine weakE_ [] [] ?_
      simp only [go_sem, ite_andP, ite_orP, dec_true, dec_false, itr_zero]
      all_goals exact fin_
    · rintro ⟨⟨i1, s1⟩, hi1, hs1⟩
      replace hi1 : i1 ≤ 4 := hi1
      replace hs1 : itrE (d_joint_numbersInRange_L1 j) i1 () = .inl s1 := hs1
      simp only [c_joint_numbersInRangeb0, go_sem, ite_andP, ite_orP, dec_true, dec_false]
      (repeat (with_reducible refine And.intro ?_ ?_; focus exact ob_))
      by_cases h2 : (i1 : Int) < 4
      · first | rw [if_pos h2] | rw [if_pos (by simp_all)] | rw [if_pos (by omega)]
        have hlt1 : i1 < 4 := by first | omega | (simp only [IntKind.wrap_i64] at h2; omega)
        (repeat (with_reducible refine And.intro ?_ ?_; focus exact ob_))
        rw [getD4 (show i1 < 4 by omega)]
        refine CallGi_flat (s_joint_inRange ([j.Impulses.I0, j.Impulses.I1, j.Impulses.I2, j.Impulses.I3].getD i1 0) (-536870911) 536870911 ) rfl ?_
        simp only [go_sem, ite_andP, ite_orP, dec_true, dec_false]
        (repeat (with_reducible refine And.intro ?_ ?_; focus exact ob_))
        by_cases h3 : (inR ([j.Impulses.I0, j.Impulses.I1, j.Impulses.I2, j.Impulses.I3].getD i1 0) (-536870911) 536870911) = false
        · first | rw [if_pos h3] | rw [if_pos (by simp_all)] | rw [if_pos (by omega)]
          (repeat (with_reducible refine And.intro ?_ ?_; focus exact ob_))
          have e1 : itrE (d_joint_numbersInRange_L1 j) (i1 + 1) () = .inr false := itrE_inl hs1 (by first | with_reducible rfl | (unfold d_joint_numbersInRange_L1; exact hd_))
          replace e1 := itrE_stop e1 (show i1 + 1 ≤ 4 by omega)
          have hd : d_joint_numbersInRange j = false := by first | with_reducible rfl | (unfold d_joint_numbersInRange; exact hd_)
          try rw [hd]
          try simp only [go_sem, ite_andP, ite_orP, dec_true, dec_false]
          all_goals exact fin_
        · first | rw [if_neg h3] | rw [if_neg (by simp_all)] | rw [if_neg (by omega)]
          (repeat (with_reducible refine And.intro ?_ ?_; focus exact ob_))
          have hn : itrE (d_joint_numbersInRange_L1 j) (i1 + 1) () = .inl () := itrE_inl hs1 (by first | with_reducible rfl | (unfold d_joint_numbersInRange_L1; exact hd_))
          refine loop_next ⟨(i1 + 1, ()), by omega, hn⟩ (by show 4 - (i1 + 1) < 4 - i1; omega) (weakE_ [] [] ?_)
          simp only [go_sem, ite_andP, ite_orP, dec_true, dec_false]
          all_goals exact fin_
      · first | rw [if_neg h2] | rw [if_neg (by simp_all)] | rw [if_neg (by omega)]
        (repeat (with_reducible refine And.intro ?_ ?_; focus exact ob_))
        have hge : i1 = 4 := by first | omega | (simp only [IntKind.wrap_i64] at h2; omega)
        subst hge
        refine CallGi_flat (s_joint_inRange j.ID 1 1099511627776 ) rfl ?_
        simp only [go_sem, ite_andP, ite_orP, dec_true, dec_false]
        (repeat (with_reducible refine And.intro ?_ ?_; focus exact ob_))
        refine CallGi_flat (s_joint_pointInRange j.AnchorA 268435456 ) rfl ?_
        generalize hv4 : (d_joint_pointInRange j.AnchorA 268435456) = v4
        simp only [go_sem, ite_andP, ite_orP, dec_true, dec_false]
        (repeat (with_reducible refine And.intro ?_ ?_; focus exact ob_))
        refine CallGi_flat (s_joint_pointInRange j.AnchorB 1048576 ) rfl ?_
        generalize hv5 : (d_joint_pointInRange j.AnchorB 1048576) = v5
        simp only [go_sem, ite_andP, ite_orP, dec_true, dec_false]
        (repeat (with_reducible refine And.intro ?_ ?_; focus exact ob_))
        refine CallGi_flat (s_joint_inRange j.ReferenceAngle (-205888) 205887 ) rfl ?_
        simp only [go_sem, ite_andP, ite_orP, dec_true, dec_false]
        (repeat (with_reducible refine And.intro ?_ ?_; focus exact ob_))
        refine CallGi_flat (s_joint_inRange j.Lower v1.1 v1.2 ) rfl ?_
        simp only [go_sem, ite_andP, ite_orP, dec_true, dec_false]
        (repeat (with_reducible refine And.intro ?_ ?_; focus exact ob_))
        refine CallGi_flat (s_joint_inRange j.Upper v1.1 v1.2 ) rfl ?_
        simp only [go_sem, ite_andP, ite_orP, dec_true, dec_false]
        (repeat (with_reducible refine And.intro ?_ ?_; focus exact ob_))
        refine CallGi_flat (s_joint_inRange j.MotorSpeed (-16777216) 16777216 ) rfl ?_
        simp only [go_sem, ite_andP, ite_orP, dec_true, dec_false]
        (repeat (with_reducible refine And.intro ?_ ?_; focus exact ob_))
        refine CallGi_flat (s_joint_inRange j.MaxForce 0 536870911 ) rfl ?_
        simp only [go_sem, ite_andP, ite_orP, dec_true, dec_false]
        (repeat (with_reducible refine And.intro ?_ ?_; focus exact ob_))
        refine CallGi_flat (s_joint_inRange j.Softness 0 536870911 ) rfl ?_
        simp only [go_sem, ite_andP, ite_orP, dec_true, dec_false]
        (repeat (with_reducible refine And.intro ?_ ?_; focus exact ob_))
        refine CallGi_flat (s_joint_inRange j.BreakForce 0 536870911 ) rfl ?_
        simp only [go_sem, ite_andP, ite_orP, dec_true, dec_false]
        (repeat (with_reducible refine And.intro ?_ ?_; focus exact ob_))
        have hd : d_joint_numbersInRange j = (((((((((((inR j.ID 1 1099511627776) && v4) && v5) && (inR j.ReferenceAngle (-205888) 205887)) && (inR j.Lower v1.1 v1.2)) && (inR j.Upper v1.1 v1.2)) && (decide (j.Lower ≤ j.Upper))) && (inR j.MotorSpeed (-16777216) 16777216)) && (inR j.MaxForce 0 536870911)) && (inR j.Softness 0 536870911)) && (inR j.BreakForce 0 536870911)) := by first | with_reducible rfl | (unfold d_joint_numbersInRange; exact hd_)
        try rw [hd]
        try simp only [go_sem, ite_andP, ite_orP, dec_true, dec_false]
        all_goals exact fin_
  · first | rw [if_neg h1] | rw [if_neg (by simp_all)] | rw [if_neg (by omega)]
    (repeat (with_reducible refine And.intro ?_ ?_; focus exact ob_))
    refine CallGi_flat (s_joint_limitRange j.Kind ) rfl ?_
    generalize hv13 : (d_joint_limitRange j.Kind) = v13
    simp only [go_sem, ite_andP, ite_orP, dec_true, dec_false]
    (repeat (with_reducible refine And.intro ?_ ?_; focus exact ob_))
    refine Wpi_loop hm (ι := {p : Nat × Unit // p.1 ≤ 4 ∧ itrE (d_joint_numbersInRange_L2 j) p.1 () = .inl p.2}) (fun i => [(1, .share, .ptr 32 0 0 1), (3, .share, .sc (.int .i64 1048576)), (4, .share, .sc (.int .i64 v13.1)), (5, .share, .sc (.int .i64 v13.2)), (18, .share, .agg [.sc (.int .i64 j.Impulses.I0), .sc (.int .i64 j.Impulses.I1), .sc (.int .i64 j.Impulses.I2), .sc (.int .i64 j.Impulses.I3)]), (19, .share, .sc (.int .i64 (i.1.1 : Int)))]) (fun i => [(32, .box [.sc (.int .i64 j.ID), .sc (.int .i64 j.Kind), .sc (.int .i64 j.BodyA), .sc (.int .i64 j.BodyB), .sc (.int .i64 j.AnchorA.X), .sc (.int .i64 j.AnchorA.Y), .sc (.int .i64 j.AnchorB.X), .sc (.int .i64 j.AnchorB.Y), .sc (.int .i64 j.Axis.X), .sc (.int .i64 j.Axis.Y), .sc (.int .i64 j.ReferenceAngle), .sc (.bool j.EnableLimit), .sc (.int .i64 j.Lower), .sc (.int .i64 j.Upper), .sc (.bool j.EnableMotor), .sc (.int .i64 j.MotorSpeed), .sc (.int .i64 j.MaxForce), .sc (.int .i64 j.Softness), .sc (.int .i64 j.BreakForce), .sc (.bool j.CollideConnected), .sc (.int .i64 j.Impulses.I0), .sc (.int .i64 j.Impulses.I1), .sc (.int .i64 j.Impulses.I2), .sc (.int .i64 j.Impulses.I3)])]) (fun i => 4 - i.1.1) ⟨(0, ()), by omega, rfl⟩ ?_ ?_
    · refine weakE_ [] [] ?_
      simp only [go_sem, ite_andP, ite_orP, dec_true, dec_false, itr_zero]
      all_goals exact fin_
    · rintro ⟨⟨i2, s2⟩, hi2, hs2⟩
      replace hi2 : i2 ≤ 4 := hi2
      replace hs2 : itrE (d_joint_numbersInRange_L2 j) i2 () = .inl s2 := hs2
      simp only [c_joint_numbersInRangeb0, go_sem, ite_andP, ite_orP, dec_true, dec_false]
      (repeat (with_reducible refine And.intro ?_ ?_; focus exact ob_))
      by_cases h4 : (i2 : Int) < 4
      · first | rw [if_pos h4] | rw [if_pos (by simp_all)] | rw [if_pos (by omega)]
        have hlt2 : i2 < 4 := by first | omega | (simp only [IntKind.wrap_i64] at h4; omega)
        (repeat (with_reducible refine And.intro ?_ ?_; focus exact ob_))
        rw [getD4 (show i2 < 4 by omega)]
        refine CallGi_flat (s_joint_inRange ([j.Impulses.I0, j.Impulses.I1, j.Impulses.I2, j.Impulses.I3].getD i2 0) (-536870911) 536870911 ) rfl ?_
        simp only [go_sem, ite_andP, ite_orP, dec_true, dec_false]
        (repeat (with_reducible refine And.intro ?_ ?_; focus exact ob_))
        by_cases h5 : (inR ([j.Impulses.I0, j.Impulses.I1, j.Impulses.I2, j.Impulses.I3].getD i2 0) (-536870911) 536870911) = false
        · first | rw [if_pos h5] | rw [if_pos (by simp_all)] | rw [if_pos (by omega)]
          (repeat (with_reducible refine And.intro ?_ ?_; focus exact ob_))
          have e2 : itrE (d_joint_numbersInRange_L2 j) (i2 + 1) () = .inr false := itrE_inl hs2 (by first | with_reducible rfl | (unfold d_joint_numbersInRange_L2; exact hd_))
          replace e2 := itrE_stop e2 (show i2 + 1 ≤ 4 by omega)
          have hd : d_joint_numbersInRange j = false := by first | with_reducible rfl | (unfold d_joint_numbersInRange; exact hd_)
          try rw [hd]
          try simp only [go_sem, ite_andP, ite_orP, dec_true, dec_false]
          all_goals exact fin_
        · first | rw [if_neg h5] | rw [if_neg (by simp_all)] | rw [if_neg (by omega)]
          (repeat (with_reducible refine And.intro ?_ ?_; focus exact ob_))
          have hn : itrE (d_joint_numbersInRange_L2 j) (i2 + 1) () = .inl () := itrE_inl hs2 (by first | with_reducible rfl | (unfold d_joint_numbersInRange_L2; exact hd_))
          refine loop_next ⟨(i2 + 1, ()), by omega, hn⟩ (by show 4 - (i2 + 1) < 4 - i2; omega) (weakE_ [] [] ?_)
          simp only [go_sem, ite_andP, ite_orP, dec_true, dec_false]
          all_goals exact fin_
      · first | rw [if_neg h4] | rw [if_neg (by simp_all)] | rw [if_neg (by omega)]
        (repeat (with_reducible refine And.intro ?_ ?_; focus exact ob_))
        have hge : i2 = 4 := by first | omega | (simp only [IntKind.wrap_i64] at h4; omega)
        subst hge
        refine CallGi_flat (s_joint_inRange j.ID 1 1099511627776 ) rfl ?_
        simp only [go_sem, ite_andP, ite_orP, dec_true, dec_false]
        (repeat (with_reducible refine And.intro ?_ ?_; focus exact ob_))
        refine CallGi_flat (s_joint_pointInRange j.AnchorA 1048576 ) rfl ?_
        generalize hv16 : (d_joint_pointInRange j.AnchorA 1048576) = v16
        simp only [go_sem, ite_andP, ite_orP, dec_true, dec_false]
        (repeat (with_reducible refine And.intro ?_ ?_; focus exact ob_))
        refine CallGi_flat (s_joint_pointInRange j.AnchorB 1048576 ) rfl ?_
        generalize hv17 : (d_joint_pointInRange j.AnchorB 1048576) = v17
        simp only [go_sem, ite_andP, ite_orP, dec_true, dec_false]
        (repeat (with_reducible refine And.intro ?_ ?_; focus exact ob_))
        refine CallGi_flat (s_joint_inRange j.ReferenceAngle (-205888) 205887 ) rfl ?_
        simp only [go_sem, ite_andP, ite_orP, dec_true, dec_false]
        (repeat (with_reducible refine And.intro ?_ ?_; focus exact ob_))
        refine CallGi_flat (s_joint_inRange j.Lower v13.1 v13.2 ) rfl ?_
        simp only [go_sem, ite_andP, ite_orP, dec_true, dec_false]
        (repeat (with_reducible refine And.intro ?_ ?_; focus exact ob_))
        refine CallGi_flat (s_joint_inRange j.Upper v13.1 v13.2 ) rfl ?_
        simp only [go_sem, ite_andP, ite_orP, dec_true, dec_false]
        (repeat (with_reducible refine And.intro ?_ ?_; focus exact ob_))
        refine CallGi_flat (s_joint_inRange j.MotorSpeed (-16777216) 16777216 ) rfl ?_
        simp only [go_sem, ite_andP, ite_orP, dec_true, dec_false]
        (repeat (with_reducible refine And.intro ?_ ?_; focus exact ob_))
        refine CallGi_flat (s_joint_inRange j.MaxForce 0 536870911 ) rfl ?_
        simp only [go_sem, ite_andP, ite_orP, dec_true, dec_false]
        (repeat (with_reducible refine And.intro ?_ ?_; focus exact ob_))
        refine CallGi_flat (s_joint_inRange j.Softness 0 536870911 ) rfl ?_
        simp only [go_sem, ite_andP, ite_orP, dec_true, dec_false]
        (repeat (with_reducible refine And.intro ?_ ?_; focus exact ob_))
        refine CallGi_flat (s_joint_inRange j.BreakForce 0 536870911 ) rfl ?_
        simp only [go_sem, ite_andP, ite_orP, dec_true, dec_false]
        (repeat (with_reducible refine And.intro ?_ ?_; focus exact ob_))
        have hd : d_joint_numbersInRange j = (((((((((((inR j.ID 1 1099511627776) && v16) && v17) && (inR j.ReferenceAngle (-205888) 205887)) && (inR j.Lower v13.1 v13.2)) && (inR j.Upper v13.1 v13.2)) && (decide (j.Lower ≤ j.Upper))) && (inR j.MotorSpeed (-16777216) 16777216)) && (inR j.MaxForce 0 536870911)) && (inR j.Softness 0 536870911)) && (inR j.BreakForce 0 536870911)) := by first | with_reducible rfl | (unfold d_joint_numbersInRange; exact hd_)
        try rw [hd]
        try simp only [go_sem, ite_andP, ite_orP, dec_true, dec_false]
        all_goals exact fin_

def d_r24_rangesValid_L1 (j : Joint) (i1 : Nat) (s1 : Unit) : (Unit) ⊕ (Bool) := if (inR ([j.Impulses.I0, j.Impulses.I1, j.Impulses.I2, j.Impulses.I3].getD i1 0) (-536870911) 536870911) = false then (.inr false) else (.inl ())
def d_r24_rangesValid_L2 (j : Joint) (i2 : Nat) (s2 : Unit) : (Unit) ⊕ (Bool) := if (inR ([j.Impulses.I0, j.Impulses.I1, j.Impulses.I2, j.Impulses.I3].getD i2 0) (-536870911) 536870911) = false then (.inr false) else (.inl ())
def d_r24_rangesValid (j : Joint) : Bool := if (j.Kind == 5) = true then ((match itrE (d_r24_rangesValid_L1 j) 4 () with | .inr r => r | .inl s1 => let v3 := (d_r24_inSquare j.AnchorA 268435456); let v4 := (d_r24_inSquare j.AnchorB 1048576); let v6 := (d_r24_limitsValid j); if (((((!(inR j.ID 1 1099511627776)) || (!v3)) || (!v4)) || (!(inR j.ReferenceAngle (-205888) 205887))) || (!v6)) = true then (false) else (((((inR j.MotorSpeed (-16777216) 16777216) && (inR j.MaxForce 0 536870911)) && (inR j.Softness 0 536870911)) && (inR j.BreakForce 0 536870911))))) else ((match itrE (d_r24_rangesValid_L2 j) 4 () with | .inr r => r | .inl s2 => let v13 := (d_r24_inSquare j.AnchorA 1048576); let v14 := (d_r24_inSquare j.AnchorB 1048576); let v16 := (d_r24_limitsValid j); if (((((!(inR j.ID 1 1099511627776)) || (!v13)) || (!v14)) || (!(inR j.ReferenceAngle (-205888) 205887))) || (!v16)) = true then (false) else (((((inR j.MotorSpeed (-16777216) 16777216) && (inR j.MaxForce 0 536870911)) && (inR j.Softness 0 536870911)) && (inR j.BreakForce 0 536870911)))))
set_option maxHeartbeats 200000 in
theorem s_r24_rangesValid (j : Joint)  : CallsA Tryz.prog F_r24_rangesValid [.agg j.enc] [] (.sc (.bool (d_r24_rangesValid j))) [] := by
  refine callsI_of (rs := [_]) hm Tryz.func278 (by kernel_rfl) (by kernel_rfl) is_r24_rangesValid (by kernel_rfl : tmpsOf Tryz.f278.results.toList = some [2]) (by decide) (by kernel_rfl) ?_
  simp only [c_r24_rangesValid, go_sem, ite_andP, ite_orP, dec_true, dec_false]
  (repeat (with_reducible refine And.intro ?_ ?_; focus exact ob_))
  by_cases h1 : (j.Kind == 5) = true
  · first | rw [if_pos h1] | rw [if_pos (by simp_all)] | rw [if_pos (by omega)]
    (repeat (with_reducible refine And.intro ?_ ?_; focus exact ob_))
    refine Wpi_loop hm (ι := {p : Nat × Unit // p.1 ≤ 4 ∧ itrE (d_r24_rangesValid_L1 j) p.1 () = .inl p.2}) (fun i => [(1, .share, .ptr 32 0 0 1), (3, .share, .sc (.int .i64 268435456)), (4, .share, .sc (.int .i64 (i.1.1 : Int)))]) (fun i => [(32, .box [.sc (.int .i64 j.ID), .sc (.int .i64 j.Kind), .sc (.int .i64 j.BodyA), .sc (.int .i64 j.BodyB), .sc (.int .i64 j.AnchorA.X), .sc (.int .i64 j.AnchorA.Y), .sc (.int .i64 j.AnchorB.X), .sc (.int .i64 j.AnchorB.Y), .sc (.int .i64 j.Axis.X), .sc (.int .i64 j.Axis.Y), .sc (.int .i64 j.ReferenceAngle), .sc (.bool j.EnableLimit), .sc (.int .i64 j.Lower), .sc (.int .i64 j.Upper), .sc (.bool j.EnableMotor), .sc (.int .i64 j.MotorSpeed), .sc (.int .i64 j.MaxForce), .sc (.int .i64 j.Softness), .sc (.int .i64 j.BreakForce), .sc (.bool j.CollideConnected), .sc (.int .i64 j.Impulses.I0), .sc (.int .i64 j.Impulses.I1), .sc (.int .i64 j.Impulses.I2), .sc (.int .i64 j.Impulses.I3)])]) (fun i => 4 - i.1.1) ⟨(0, ()), by omega, rfl⟩ ?_ ?_
    · refine weakE_ [] [] ?_
      simp only [go_sem, ite_andP, ite_orP, dec_true, dec_false, itr_zero]
      all_goals exact fin_
    · rintro ⟨⟨i1, s1⟩, hi1, hs1⟩
      replace hi1 : i1 ≤ 4 := hi1
      replace hs1 : itrE (d_r24_rangesValid_L1 j) i1 () = .inl s1 := hs1
      simp only [c_r24_rangesValidb0, go_sem, ite_andP, ite_orP, dec_true, dec_false]
      (repeat (with_reducible refine And.intro ?_ ?_; focus exact ob_))
      by_cases h2 : (i1 : Int) < 4
      · first | rw [if_pos h2] | rw [if_pos (by simp_all)] | rw [if_pos (by omega)]
        have hlt1 : i1 < 4 := by first | omega | (simp only [IntKind.wrap_i64] at h2; omega)
        (repeat (with_reducible refine And.intro ?_ ?_; focus exact ob_))
        simp only [dropJ (show i1 < 4 by omega), go_sem, ite_andP, ite_orP, dec_true, dec_false]
        (repeat (with_reducible refine And.intro ?_ ?_; focus exact ob_))
        refine CallGi_flat (s_r24_inRange ([j.Impulses.I0, j.Impulses.I1, j.Impulses.I2, j.Impulses.I3].getD i1 0) (-536870911) 536870911 ) rfl ?_
        simp only [go_sem, ite_andP, ite_orP, dec_true, dec_false]
        (repeat (with_reducible refine And.intro ?_ ?_; focus exact ob_))
        by_cases h3 : (inR ([j.Impulses.I0, j.Impulses.I1, j.Impulses.I2, j.Impulses.I3].getD i1 0) (-536870911) 536870911) = false
        · first | rw [if_pos h3] | rw [if_pos (by simp_all)] | rw [if_pos (by omega)]
          (repeat (with_reducible refine And.intro ?_ ?_; focus exact ob_))
          have e1 : itrE (d_r24_rangesValid_L1 j) (i1 + 1) () = .inr false := itrE_inl hs1 (by first | with_reducible rfl | (unfold d_r24_rangesValid_L1; exact hd_))
          replace e1 := itrE_stop e1 (show i1 + 1 ≤ 4 by omega)
          have hd : d_r24_rangesValid j = false := by first | with_reducible rfl | (unfold d_r24_rangesValid; exact hd_)
          try rw [hd]
          try simp only [go_sem, ite_andP, ite_orP, dec_true, dec_false]
          all_goals exact fin_
        · first | rw [if_neg h3] | rw [if_neg (by simp_all)] | rw [if_neg (by omega)]
          (repeat (with_reducible refine And.intro ?_ ?_; focus exact ob_))
          have hn : itrE (d_r24_rangesValid_L1 j) (i1 + 1) () = .inl () := itrE_inl hs1 (by first | with_reducible rfl | (unfold d_r24_rangesValid_L1; exact hd_))
          refine loop_next ⟨(i1 + 1, ()), by omega, hn⟩ (by show 4 - (i1 + 1) < 4 - i1; omega) (weakE_ [] [] ?_)
          simp only [go_sem, ite_andP, ite_orP, dec_true, dec_false]
          all_goals exact fin_
      · first | rw [if_neg h2] | rw [if_neg (by simp_all)] | rw [if_neg (by omega)]
        (repeat (with_reducible refine And.intro ?_ ?_; focus exact ob_))
        have hge : i1 = 4 := by first | omega | (simp only [IntKind.wrap_i64] at h2; omega)
        subst hge
        refine CallGi_flat (s_r24_inRange j.ID 1 1099511627776 ) rfl ?_
        simp only [go_sem, ite_andP, ite_orP, dec_true, dec_false]
        (repeat (with_reducible refine And.intro ?_ ?_; focus exact ob_))
        refine CallGi_flat (s_r24_inSquare j.AnchorA 268435456 ) rfl ?_
        generalize hv3 : (d_r24_inSquare j.AnchorA 268435456) = v3
        simp only [go_sem, ite_andP, ite_orP, dec_true, dec_false]
        (repeat (with_reducible refine And.intro ?_ ?_; focus exact ob_))
        refine CallGi_flat (s_r24_inSquare j.AnchorB 1048576 ) rfl ?_
        generalize hv4 : (d_r24_inSquare j.AnchorB 1048576) = v4
        simp only [go_sem, ite_andP, ite_orP, dec_true, dec_false]
        (repeat (with_reducible refine And.intro ?_ ?_; focus exact ob_))
        refine CallGi_flat (s_r24_inRange j.ReferenceAngle (-205888) 205887 ) rfl ?_
        simp only [go_sem, ite_andP, ite_orP, dec_true, dec_false]
        (repeat (with_reducible refine And.intro ?_ ?_; focus exact ob_))
        refine CallGi_flat (s_r24_limitsValid j ) rfl ?_
        generalize hv6 : (d_r24_limitsValid j) = v6
        simp only [go_sem, ite_andP, ite_orP, dec_true, dec_false]
        (repeat (with_reducible refine And.intro ?_ ?_; focus exact ob_))
        by_cases h4 : (((((!(inR j.ID 1 1099511627776)) || (!v3)) || (!v4)) || (!(inR j.ReferenceAngle (-205888) 205887))) || (!v6)) = true
        · first | rw [if_pos h4] | rw [if_pos (by simp_all)] | rw [if_pos (by omega)]
          (repeat (with_reducible refine And.intro ?_ ?_; focus exact ob_))
          have hd : d_r24_rangesValid j = false := by first | with_reducible rfl | (unfold d_r24_rangesValid; exact hd_)
          try rw [hd]
          try simp only [go_sem, ite_andP, ite_orP, dec_true, dec_false]
          all_goals exact fin_
        · first | rw [if_neg h4] | rw [if_neg (by simp_all)] | rw [if_neg (by omega)]
          (repeat (with_reducible refine And.intro ?_ ?_; focus exact ob_))
          refine CallGi_flat (s_r24_inRange j.MotorSpeed (-16777216) 16777216 ) rfl ?_
          simp only [go_sem, ite_andP, ite_orP, dec_true, dec_false]
          (repeat (with_reducible refine And.intro ?_ ?_; focus exact ob_))
          refine CallGi_flat (s_r24_inRange j.MaxForce 0 536870911 ) rfl ?_
          simp only [go_sem, ite_andP, ite_orP, dec_true, dec_false]
          (repeat (with_reducible refine And.intro ?_ ?_; focus exact ob_))
          refine CallGi_flat (s_r24_inRange j.Softness 0 536870911 ) rfl ?_
          simp only [go_sem, ite_andP, ite_orP, dec_true, dec_false]
          (repeat (with_reducible refine And.intro ?_ ?_; focus exact ob_))
          refine CallGi_flat (s_r24_inRange j.BreakForce 0 536870911 ) rfl ?_
          simp only [go_sem, ite_andP, ite_orP, dec_true, dec_false]
          (repeat (with_reducible refine And.intro ?_ ?_; focus exact ob_))
          have hd : d_r24_rangesValid j = ((((inR j.MotorSpeed (-16777216) 16777216) && (inR j.MaxForce 0 536870911)) && (inR j.Softness 0 536870911)) && (inR j.BreakForce 0 536870911)) := by first | with_reducible rfl | (unfold d_r24_rangesValid; exact hd_)
          try rw [hd]
          try simp only [go_sem, ite_andP, ite_orP, dec_true, dec_false]
          all_goals exact fin_
  · first | rw [if_neg h1] | rw [if_neg (by simp_all)] | rw [if_neg (by omega)]
    (repeat (with_reducible refine And.intro ?_ ?_; focus exact ob_))
    refine Wpi_loop hm (ι := {p : Nat × Unit // p.1 ≤ 4 ∧ itrE (d_r24_rangesValid_L2 j) p.1 () = .inl p.2}) (fun i => [(1, .share, .ptr 32 0 0 1), (3, .share, .sc (.int .i64 1048576)), (4, .share, .sc (.int .i64 (i.1.1 : Int)))]) (fun i => [(32, .box [.sc (.int .i64 j.ID), .sc (.int .i64 j.Kind), .sc (.int .i64 j.BodyA), .sc (.int .i64 j.BodyB), .sc (.int .i64 j.AnchorA.X), .sc (.int .i64 j.AnchorA.Y), .sc (.int .i64 j.AnchorB.X), .sc (.int .i64 j.AnchorB.Y), .sc (.int .i64 j.Axis.X), .sc (.int .i64 j.Axis.Y), .sc (.int .i64 j.ReferenceAngle), .sc (.bool j.EnableLimit), .sc (.int .i64 j.Lower), .sc (.int .i64 j.Upper), .sc (.bool j.EnableMotor), .sc (.int .i64 j.MotorSpeed), .sc (.int .i64 j.MaxForce), .sc (.int .i64 j.Softness), .sc (.int .i64 j.BreakForce), .sc (.bool j.CollideConnected), .sc (.int .i64 j.Impulses.I0), .sc (.int .i64 j.Impulses.I1), .sc (.int .i64 j.Impulses.I2), .sc (.int .i64 j.Impulses.I3)])]) (fun i => 4 - i.1.1) ⟨(0, ()), by omega, rfl⟩ ?_ ?_
    · refine weakE_ [] [] ?_
      simp only [go_sem, ite_andP, ite_orP, dec_true, dec_false, itr_zero]
      all_goals exact fin_
    · rintro ⟨⟨i2, s2⟩, hi2, hs2⟩
      replace hi2 : i2 ≤ 4 := hi2
      replace hs2 : itrE (d_r24_rangesValid_L2 j) i2 () = .inl s2 := hs2
      simp only [c_r24_rangesValidb0, go_sem, ite_andP, ite_orP, dec_true, dec_false]
      (repeat (with_reducible refine And.intro ?_ ?_; focus exact ob_))
      by_cases h5 : (i2 : Int) < 4
      · first | rw [if_pos h5] | rw [if_pos (by simp_all)] | rw [if_pos (by omega)]
        have hlt2 : i2 < 4 := by first | omega | (simp only [IntKind.wrap_i64] at h5; omega)
        (repeat (with_reducible refine And.intro ?_ ?_; focus exact ob_))
        simp only [dropJ (show i2 < 4 by omega), go_sem, ite_andP, ite_orP, dec_true, dec_false]
        (repeat (with_reducible refine And.intro ?_ ?_; focus exact ob_))
        refine CallGi_flat (s_r24_inRange ([j.Impulses.I0, j.Impulses.I1, j.Impulses.I2, j.Impulses.I3].getD i2 0) (-536870911) 536870911 ) rfl ?_
        simp only [go_sem, ite_andP, ite_orP, dec_true, dec_false]
        (repeat (with_reducible refine And.intro ?_ ?_; focus exact ob_))
        by_cases h6 : (inR ([j.Impulses.I0, j.Impulses.I1, j.Impulses.I2, j.Impulses.I3].getD i2 0) (-536870911) 536870911) = false
        · first | rw [if_pos h6] | rw [if_pos (by simp_all)] | rw [if_pos (by omega)]
          (repeat (with_reducible refine And.intro ?_ ?_; focus exact ob_))
          have e2 : itrE (d_r24_rangesValid_L2 j) (i2 + 1) () = .inr false := itrE_inl hs2 (by first | with_reducible rfl | (unfold d_r24_rangesValid_L2; exact hd_))
          replace e2 := itrE_stop e2 (show i2 + 1 ≤ 4 by omega)
          have hd : d_r24_rangesValid j = false := by first | with_reducible rfl | (unfold d_r24_rangesValid; exact hd_)
          try rw [hd]
          try simp only [go_sem, ite_andP, ite_orP, dec_true, dec_false]
          all_goals exact fin_
        · first | rw [if_neg h6] | rw [if_neg (by simp_all)] | rw [if_neg (by omega)]
          (repeat (with_reducible refine And.intro ?_ ?_; focus exact ob_))
          have hn : itrE (d_r24_rangesValid_L2 j) (i2 + 1) () = .inl () := itrE_inl hs2 (by first | with_reducible rfl | (unfold d_r24_rangesValid_L2; exact hd_))
          refine loop_next ⟨(i2 + 1, ()), by omega, hn⟩ (by show 4 - (i2 + 1) < 4 - i2; omega) (weakE_ [] [] ?_)
          simp only [go_sem, ite_andP, ite_orP, dec_true, dec_false]
          all_goals exact fin_
      · first | rw [if_neg h5] | rw [if_neg (by simp_all)] | rw [if_neg (by omega)]
        (repeat (with_reducible refine And.intro ?_ ?_; focus exact ob_))
        have hge : i2 = 4 := by first | omega | (simp only [IntKind.wrap_i64] at h5; omega)
        subst hge
        refine CallGi_flat (s_r24_inRange j.ID 1 1099511627776 ) rfl ?_
        simp only [go_sem, ite_andP, ite_orP, dec_true, dec_false]
        (repeat (with_reducible refine And.intro ?_ ?_; focus exact ob_))
        refine CallGi_flat (s_r24_inSquare j.AnchorA 1048576 ) rfl ?_
        generalize hv13 : (d_r24_inSquare j.AnchorA 1048576) = v13
        simp only [go_sem, ite_andP, ite_orP, dec_true, dec_false]
        (repeat (with_reducible refine And.intro ?_ ?_; focus exact ob_))
        refine CallGi_flat (s_r24_inSquare j.AnchorB 1048576 ) rfl ?_
        generalize hv14 : (d_r24_inSquare j.AnchorB 1048576) = v14
        simp only [go_sem, ite_andP, ite_orP, dec_true, dec_false]
        (repeat (with_reducible refine And.intro ?_ ?_; focus exact ob_))
        refine CallGi_flat (s_r24_inRange j.ReferenceAngle (-205888) 205887 ) rfl ?_
        simp only [go_sem, ite_andP, ite_orP, dec_true, dec_false]
        (repeat (with_reducible refine And.intro ?_ ?_; focus exact ob_))
        refine CallGi_flat (s_r24_limitsValid j ) rfl ?_
        generalize hv16 : (d_r24_limitsValid j) = v16
        simp only [go_sem, ite_andP, ite_orP, dec_true, dec_false]
        (repeat (with_reducible refine And.intro ?_ ?_; focus exact ob_))
        by_cases h7 : (((((!(inR j.ID 1 1099511627776)) || (!v13)) || (!v14)) || (!(inR j.ReferenceAngle (-205888) 205887))) || (!v16)) = true
        · first | rw [if_pos h7] | rw [if_pos (by simp_all)] | rw [if_pos (by omega)]
          (repeat (with_reducible refine And.intro ?_ ?_; focus exact ob_))
          have hd : d_r24_rangesValid j = false := by first | with_reducible rfl | (unfold d_r24_rangesValid; exact hd_)
          try rw [hd]
          try simp only [go_sem, ite_andP, ite_orP, dec_true, dec_false]
          all_goals exact fin_
        · first | rw [if_neg h7] | rw [if_neg (by simp_all)] | rw [if_neg (by omega)]
          (repeat (with_reducible refine And.intro ?_ ?_; focus exact ob_))
          refine CallGi_flat (s_r24_inRange j.MotorSpeed (-16777216) 16777216 ) rfl ?_
          simp only [go_sem, ite_andP, ite_orP, dec_true, dec_false]
          (repeat (with_reducible refine And.intro ?_ ?_; focus exact ob_))
          refine CallGi_flat (s_r24_inRange j.MaxForce 0 536870911 ) rfl ?_
          simp only [go_sem, ite_andP, ite_orP, dec_true, dec_false]
          (repeat (with_reducible refine And.intro ?_ ?_; focus exact ob_))
          refine CallGi_flat (s_r24_inRange j.Softness 0 536870911 ) rfl ?_
          simp only [go_sem, ite_andP, ite_orP, dec_true, dec_false]
          (repeat (with_reducible refine And.intro ?_ ?_; focus exact ob_))
          refine CallGi_flat (s_r24_inRange j.BreakForce 0 536870911 ) rfl ?_
          simp only [go_sem, ite_andP, ite_orP, dec_true, dec_false]
          (repeat (with_reducible refine And.intro ?_ ?_; focus exact ob_))
          have hd : d_r24_rangesValid j = ((((inR j.MotorSpeed (-16777216) 16777216) && (inR j.MaxForce 0 536870911)) && (inR j.Softness 0 536870911)) && (inR j.BreakForce 0 536870911)) := by first | with_reducible rfl | (unfold d_r24_rangesValid; exact hd_)
          try rw [hd]
          try simp only [go_sem, ite_andP, ite_orP, dec_true, dec_false]
          all_goals exact fin_

def d_joint_Validate (j : Joint) : Int := if ((decide (j.Kind < 1)) || (decide (5 < j.Kind))) = true then (10) else (let v1 := (d_joint_numbersInRange j); if v1 = false then (6) else (let v2 := (d_joint_validBodies j); if v2 = false then (14) else (let v3 := (d_joint_inconsistent j); if v3 = true then (15) else (0))))
set_option maxHeartbeats 200000 in
theorem s_joint_Validate (j : Joint)  : CallsA Tryz.prog F_joint_Validate [.agg j.enc] [] (.sc (.int .i64 (d_joint_Validate j))) [] := by
  refine callsI_of (rs := [_]) hm Tryz.func140 (by kernel_rfl) (by kernel_rfl) is_joint_Validate (by kernel_rfl : tmpsOf Tryz.f140.results.toList = some [2]) (by decide) (by kernel_rfl) ?_
  simp only [c_joint_Validate, go_sem, ite_andP, ite_orP, dec_true, dec_false]
  (repeat (with_reducible refine And.intro ?_ ?_; focus exact ob_))
  by_cases h1 : ((decide (j.Kind < 1)) || (decide (5 < j.Kind))) = true
  · first | rw [if_pos h1] | rw [if_pos (by simp_all)] | rw [if_pos (by omega)]
    (repeat (with_reducible refine And.intro ?_ ?_; focus exact ob_))
    have hd : d_joint_Validate j = 10 := by first | with_reducible rfl | (unfold d_joint_Validate; exact hd_)
    try rw [hd]
    try simp only [go_sem, ite_andP, ite_orP, dec_true, dec_false]
    all_goals exact fin_
  · first | rw [if_neg h1] | rw [if_neg (by simp_all)] | rw [if_neg (by omega)]
    (repeat (with_reducible refine And.intro ?_ ?_; focus exact ob_))
    refine CallGi_flat (s_joint_numbersInRange j ) rfl ?_
    generalize hv1 : (d_joint_numbersInRange j) = v1
    simp only [go_sem, ite_andP, ite_orP, dec_true, dec_false]
    (repeat (with_reducible refine And.intro ?_ ?_; focus exact ob_))
    by_cases h2 : v1 = false
    · first | rw [if_pos h2] | rw [if_pos (by simp_all)] | rw [if_pos (by omega)]
      (repeat (with_reducible refine And.intro ?_ ?_; focus exact ob_))
      have hd : d_joint_Validate j = 6 := by first | with_reducible rfl | (unfold d_joint_Validate; exact hd_)
      try rw [hd]
      try simp only [go_sem, ite_andP, ite_orP, dec_true, dec_false]
      all_goals exact fin_
    · first | rw [if_neg h2] | rw [if_neg (by simp_all)] | rw [if_neg (by omega)]
      (repeat (with_reducible refine And.intro ?_ ?_; focus exact ob_))
      refine CallGi_flat (s_joint_validBodies j ) rfl ?_
      generalize hv2 : (d_joint_validBodies j) = v2
      simp only [go_sem, ite_andP, ite_orP, dec_true, dec_false]
      (repeat (with_reducible refine And.intro ?_ ?_; focus exact ob_))
      by_cases h3 : v2 = false
      · first | rw [if_pos h3] | rw [if_pos (by simp_all)] | rw [if_pos (by omega)]
        (repeat (with_reducible refine And.intro ?_ ?_; focus exact ob_))
        have hd : d_joint_Validate j = 14 := by first | with_reducible rfl | (unfold d_joint_Validate; exact hd_)
        try rw [hd]
        try simp only [go_sem, ite_andP, ite_orP, dec_true, dec_false]
        all_goals exact fin_
      · first | rw [if_neg h3] | rw [if_neg (by simp_all)] | rw [if_neg (by omega)]
        (repeat (with_reducible refine And.intro ?_ ?_; focus exact ob_))
        refine CallGi_flat (s_joint_inconsistent j ) rfl ?_
        generalize hv3 : (d_joint_inconsistent j) = v3
        simp only [go_sem, ite_andP, ite_orP, dec_true, dec_false]
        (repeat (with_reducible refine And.intro ?_ ?_; focus exact ob_))
        by_cases h4 : v3 = true
        · first | rw [if_pos h4] | rw [if_pos (by simp_all)] | rw [if_pos (by omega)]
          (repeat (with_reducible refine And.intro ?_ ?_; focus exact ob_))
          have hd : d_joint_Validate j = 15 := by first | with_reducible rfl | (unfold d_joint_Validate; exact hd_)
          try rw [hd]
          try simp only [go_sem, ite_andP, ite_orP, dec_true, dec_false]
          all_goals exact fin_
        · first | rw [if_neg h4] | rw [if_neg (by simp_all)] | rw [if_neg (by omega)]
          (repeat (with_reducible refine And.intro ?_ ?_; focus exact ob_))
          have hd : d_joint_Validate j = 0 := by first | with_reducible rfl | (unfold d_joint_Validate; exact hd_)
          try rw [hd]
          try simp only [go_sem, ite_andP, ite_orP, dec_true, dec_false]
          all_goals exact fin_

def d_r24_Validate (j : Joint) : Int := if ((decide (j.Kind < 1)) || (decide (5 < j.Kind))) = true then (10) else (let v1 := (d_r24_rangesValid j); if v1 = false then (6) else (if (((!(inR j.BodyB 1 1099511627776)) || ((j.Kind == 5) && (j.BodyA != 0))) || ((j.Kind != 5) && ((!(inR j.BodyA 1 1099511627776)) || (j.BodyA == j.BodyB)))) = true then (14) else (let v4 := (lenV j.Axis); if (((j.Kind == 3) && (!(inR v4 65520 65552))) || ((j.Kind != 3) && (!((j.Axis.X == 0) && (j.Axis.Y == 0))))) = true then (15) else (if (((((j.Kind == 1) || ((j.Kind == 4) || (j.Kind == 5))) && j.EnableMotor) || (((j.Kind == 4) || (j.Kind == 5)) && j.EnableLimit)) || ((j.Kind == 1) && (!j.EnableLimit))) = true then (15) else (0)))))
set_option maxHeartbeats 200000 in
theorem s_r24_Validate (j : Joint)  : CallsA Tryz.prog F_r24_Validate [.agg j.enc] [] (.sc (.int .i64 (d_r24_Validate j))) [] := by
  refine callsI_of (rs := [_]) hm Tryz.func231 (by kernel_rfl) (by kernel_rfl) is_r24_Validate (by kernel_rfl : tmpsOf Tryz.f231.results.toList = some [2]) (by decide) (by kernel_rfl) ?_
  simp only [c_r24_Validate, go_sem, ite_andP, ite_orP, dec_true, dec_false]
  (repeat (with_reducible refine And.intro ?_ ?_; focus exact ob_))
  by_cases h1 : ((decide (j.Kind < 1)) || (decide (5 < j.Kind))) = true
  · first | rw [if_pos h1] | rw [if_pos (by simp_all)] | rw [if_pos (by omega)]
    (repeat (with_reducible refine And.intro ?_ ?_; focus exact ob_))
    have hd : d_r24_Validate j = 10 := by first | with_reducible rfl | (unfold d_r24_Validate; exact hd_)
    try rw [hd]
    try simp only [go_sem, ite_andP, ite_orP, dec_true, dec_false]
    all_goals exact fin_
  · first | rw [if_neg h1] | rw [if_neg (by simp_all)] | rw [if_neg (by omega)]
    (repeat (with_reducible refine And.intro ?_ ?_; focus exact ob_))
    refine CallGi_flat (s_r24_rangesValid j ) rfl ?_
    generalize hv1 : (d_r24_rangesValid j) = v1
    simp only [go_sem, ite_andP, ite_orP, dec_true, dec_false]
    (repeat (with_reducible refine And.intro ?_ ?_; focus exact ob_))
    by_cases h2 : v1 = false
    · first | rw [if_pos h2] | rw [if_pos (by simp_all)] | rw [if_pos (by omega)]
      (repeat (with_reducible refine And.intro ?_ ?_; focus exact ob_))
      have hd : d_r24_Validate j = 6 := by first | with_reducible rfl | (unfold d_r24_Validate; exact hd_)
      try rw [hd]
      try simp only [go_sem, ite_andP, ite_orP, dec_true, dec_false]
      all_goals exact fin_
    · first | rw [if_neg h2] | rw [if_neg (by simp_all)] | rw [if_neg (by omega)]
      (repeat (with_reducible refine And.intro ?_ ?_; focus exact ob_))
      refine CallGi_flat (s_r24_inRange j.BodyB 1 1099511627776 ) rfl ?_
      simp only [go_sem, ite_andP, ite_orP, dec_true, dec_false]
      (repeat (with_reducible refine And.intro ?_ ?_; focus exact ob_))
      refine CallGi_flat (s_r24_inRange j.BodyA 1 1099511627776 ) rfl ?_
      simp only [go_sem, ite_andP, ite_orP, dec_true, dec_false]
      (repeat (with_reducible refine And.intro ?_ ?_; focus exact ob_))
      by_cases h3 : (((!(inR j.BodyB 1 1099511627776)) || ((j.Kind == 5) && (j.BodyA != 0))) || ((j.Kind != 5) && ((!(inR j.BodyA 1 1099511627776)) || (j.BodyA == j.BodyB)))) = true
      · first | rw [if_pos h3] | rw [if_pos (by simp_all)] | rw [if_pos (by omega)]
        (repeat (with_reducible refine And.intro ?_ ?_; focus exact ob_))
        have hd : d_r24_Validate j = 14 := by first | with_reducible rfl | (unfold d_r24_Validate; exact hd_)
        try rw [hd]
        try simp only [go_sem, ite_andP, ite_orP, dec_true, dec_false]
        all_goals exact fin_
      · first | rw [if_neg h3] | rw [if_neg (by simp_all)] | rw [if_neg (by omega)]
        (repeat (with_reducible refine And.intro ?_ ?_; focus exact ob_))
        refine CallGi_flat (s_r03_Length j.Axis ) rfl ?_
        generalize hv4 : (lenV j.Axis) = v4
        simp only [go_sem, ite_andP, ite_orP, dec_true, dec_false]
        (repeat (with_reducible refine And.intro ?_ ?_; focus exact ob_))
        refine CallGi_flat (s_r24_inRange v4 65520 65552 ) rfl ?_
        simp only [go_sem, ite_andP, ite_orP, dec_true, dec_false]
        (repeat (with_reducible refine And.intro ?_ ?_; focus exact ob_))
        by_cases h4 : (((j.Kind == 3) && (!(inR v4 65520 65552))) || ((j.Kind != 3) && (!((j.Axis.X == 0) && (j.Axis.Y == 0))))) = true
        · first | rw [if_pos h4] | rw [if_pos (by simp_all)] | rw [if_pos (by omega)]
          (repeat (with_reducible refine And.intro ?_ ?_; focus exact ob_))
          have hd : d_r24_Validate j = 15 := by first | with_reducible rfl | (unfold d_r24_Validate; exact hd_)
          try rw [hd]
          try simp only [go_sem, ite_andP, ite_orP, dec_true, dec_false]
          all_goals exact fin_
        · first | rw [if_neg h4] | rw [if_neg (by simp_all)] | rw [if_neg (by omega)]
          (repeat (with_reducible refine And.intro ?_ ?_; focus exact ob_))
          by_cases h5 : (((((j.Kind == 1) || ((j.Kind == 4) || (j.Kind == 5))) && j.EnableMotor) || (((j.Kind == 4) || (j.Kind == 5)) && j.EnableLimit)) || ((j.Kind == 1) && (!j.EnableLimit))) = true
          · first | rw [if_pos h5] | rw [if_pos (by simp_all)] | rw [if_pos (by omega)]
            (repeat (with_reducible refine And.intro ?_ ?_; focus exact ob_))
            have hd : d_r24_Validate j = 15 := by first | with_reducible rfl | (unfold d_r24_Validate; exact hd_)
            try rw [hd]
            try simp only [go_sem, ite_andP, ite_orP, dec_true, dec_false]
            all_goals exact fin_
          · first | rw [if_neg h5] | rw [if_neg (by simp_all)] | rw [if_neg (by omega)]
            (repeat (with_reducible refine And.intro ?_ ?_; focus exact ob_))
            have hd : d_r24_Validate j = 0 := by first | with_reducible rfl | (unfold d_r24_Validate; exact hd_)
            try rw [hd]
            try simp only [go_sem, ite_andP, ite_orP, dec_true, dec_false]
            all_goals exact fin_


end Go.Abs
