/- A part of the walk: contracts of functions that the statement reaches. -/
import Derived.Test.YtlldeiikcfaegaaGreatAbsC
import Derived.Test.YtlldeiikcfaegaaGreatT1
set_option linter.unusedSimpArgs false
set_option linter.unusedVariables false
set_option linter.unnecessarySimpa false
set_option maxRecDepth 100000
set_option maxHeartbeats 2000000
set_option linter.unusedSimpArgs false
set_option linter.unusedVariables false
namespace Go.Abs
open Go.Proofs
open Api
def d_body_inRange (b : Body) : Bool := let v1 := (d_body_bounded b.Velocity 16777216); let v3 := (d_body_bounded b.Force 536870911); let v9 := (d_transform_Valid b.Transform); (((((((inR b.ID 1 1099511627776) && v9) && (v1 && (inR b.AngularVelocity (-4194304) 4194304))) && (v3 && (inR b.Torque (-536870911) 536870911))) && ((inR b.LinearDamping 0 65536) && (inR b.AngularDamping 0 65536))) && (inR b.GravityScale (-262144) 262144)) && (inR b.IdleSteps 0 1048576))
set_option maxHeartbeats 200000 in
theorem s_body_inRange (b : Body)  : CallsA Tryz.prog F_body_inRange [.agg b.enc] [] (.sc (.bool (d_body_inRange b))) [] := by
  refine callsI_of (rs := [_]) hm Tryz.func205 (by kernel_rfl) (by kernel_rfl) is_body_inRange (by kernel_rfl : tmpsOf Tryz.f205.results.toList = some [2]) (by decide) (by kernel_rfl) ?_
  simp only [c_body_inRange, go_sem, ite_andP, ite_orP, dec_true, dec_false]
  (repeat (with_reducible refine And.intro ?_ ?_; focus exact ob_))
  refine CallGi_flat (s_body_bounded b.Velocity 16777216 ) rfl ?_
  generalize hv1 : (d_body_bounded b.Velocity 16777216) = v1
  simp only [go_sem, ite_andP, ite_orP, dec_true, dec_false]
  (repeat (with_reducible refine And.intro ?_ ?_; focus exact ob_))
  refine CallGi_flat (s_body_within b.AngularVelocity (-4194304) 4194304 ) rfl ?_
  simp only [go_sem, ite_andP, ite_orP, dec_true, dec_false]
  (repeat (with_reducible refine And.intro ?_ ?_; focus exact ob_))
  refine CallGi_flat (s_body_bounded b.Force 536870911 ) rfl ?_
  generalize hv3 : (d_body_bounded b.Force 536870911) = v3
  simp only [go_sem, ite_andP, ite_orP, dec_true, dec_false]
  (repeat (with_reducible refine And.intro ?_ ?_; focus exact ob_))
  refine CallGi_flat (s_body_within b.Torque (-536870911) 536870911 ) rfl ?_
  simp only [go_sem, ite_andP, ite_orP, dec_true, dec_false]
  (repeat (with_reducible refine And.intro ?_ ?_; focus exact ob_))
  refine CallGi_flat (s_body_within b.LinearDamping 0 65536 ) rfl ?_
  simp only [go_sem, ite_andP, ite_orP, dec_true, dec_false]
  (repeat (with_reducible refine And.intro ?_ ?_; focus exact ob_))
  refine CallGi_flat (s_body_within b.AngularDamping 0 65536 ) rfl ?_
  simp only [go_sem, ite_andP, ite_orP, dec_true, dec_false]
  (repeat (with_reducible refine And.intro ?_ ?_; focus exact ob_))
  refine CallGi_flat (s_body_within b.GravityScale (-262144) 262144 ) rfl ?_
  simp only [go_sem, ite_andP, ite_orP, dec_true, dec_false]
  (repeat (with_reducible refine And.intro ?_ ?_; focus exact ob_))
  refine CallGi_flat (s_body_within b.ID 1 1099511627776 ) rfl ?_
  simp only [go_sem, ite_andP, ite_orP, dec_true, dec_false]
  (repeat (with_reducible refine And.intro ?_ ?_; focus exact ob_))
  refine CallGi_flat (s_transform_Valid b.Transform ) rfl ?_
  generalize hv9 : (d_transform_Valid b.Transform) = v9
  simp only [go_sem, ite_andP, ite_orP, dec_true, dec_false]
  (repeat (with_reducible refine And.intro ?_ ?_; focus exact ob_))
  refine CallGi_flat (s_body_within b.IdleSteps 0 1048576 ) rfl ?_
  simp only [go_sem, ite_andP, ite_orP, dec_true, dec_false]
  (repeat (with_reducible refine And.intro ?_ ?_; focus exact ob_))
  have hd : d_body_inRange b = (((((((inR b.ID 1 1099511627776) && v9) && (v1 && (inR b.AngularVelocity (-4194304) 4194304))) && (v3 && (inR b.Torque (-536870911) 536870911))) && ((inR b.LinearDamping 0 65536) && (inR b.AngularDamping 0 65536))) && (inR b.GravityScale (-262144) 262144)) && (inR b.IdleSteps 0 1048576)) := by first | with_reducible rfl | (unfold d_body_inRange; exact hd_)
  try rw [hd]
  try simp only [go_sem, ite_andP, ite_orP, dec_true, dec_false]
  all_goals exact fin_

def d_r23_inRange (b : Body) : Bool := let v2 := (d_transform_Valid b.Transform); if (((((!(inR b.ID 1 1099511627776)) || (!v2)) || (!(inR b.Velocity.X (-16777216) 16777216))) || (!(inR b.Velocity.Y (-16777216) 16777216))) || (!(inR b.AngularVelocity (-4194304) 4194304))) = true then (false) else (if (((!(inR b.Force.X (-536870911) 536870911)) || (!(inR b.Force.Y (-536870911) 536870911))) || (!(inR b.Torque (-536870911) 536870911))) = true then (false) else (((((inR b.LinearDamping 0 65536) && (inR b.AngularDamping 0 65536)) && (inR b.GravityScale (-262144) 262144)) && (inR b.IdleSteps 0 1048576))))
set_option maxHeartbeats 200000 in
theorem s_r23_inRange (b : Body)  : CallsA Tryz.prog F_r23_inRange [.agg b.enc] [] (.sc (.bool (d_r23_inRange b))) [] := by
  refine callsI_of (rs := [_]) hm Tryz.func276 (by kernel_rfl) (by kernel_rfl) is_r23_inRange (by kernel_rfl : tmpsOf Tryz.f276.results.toList = some [2]) (by decide) (by kernel_rfl) ?_
  simp only [c_r23_inRange, go_sem, ite_andP, ite_orP, dec_true, dec_false]
  (repeat (with_reducible refine And.intro ?_ ?_; focus exact ob_))
  refine CallGi_flat (s_r23_in b.ID 1 1099511627776 ) rfl ?_
  simp only [go_sem, ite_andP, ite_orP, dec_true, dec_false]
  (repeat (with_reducible refine And.intro ?_ ?_; focus exact ob_))
  refine CallGi_flat (s_r04_Valid b.Transform ) rfl ?_
  generalize hv2 : (d_transform_Valid b.Transform) = v2
  simp only [go_sem, ite_andP, ite_orP, dec_true, dec_false]
  (repeat (with_reducible refine And.intro ?_ ?_; focus exact ob_))
  refine CallGi_flat (s_r23_in b.Velocity.X (-16777216) 16777216 ) rfl ?_
  simp only [go_sem, ite_andP, ite_orP, dec_true, dec_false]
  (repeat (with_reducible refine And.intro ?_ ?_; focus exact ob_))
  refine CallGi_flat (s_r23_in b.Velocity.Y (-16777216) 16777216 ) rfl ?_
  simp only [go_sem, ite_andP, ite_orP, dec_true, dec_false]
  (repeat (with_reducible refine And.intro ?_ ?_; focus exact ob_))
  refine CallGi_flat (s_r23_in b.AngularVelocity (-4194304) 4194304 ) rfl ?_
  simp only [go_sem, ite_andP, ite_orP, dec_true, dec_false]
  (repeat (with_reducible refine And.intro ?_ ?_; focus exact ob_))
  by_cases h1 : (((((!(inR b.ID 1 1099511627776)) || (!v2)) || (!(inR b.Velocity.X (-16777216) 16777216))) || (!(inR b.Velocity.Y (-16777216) 16777216))) || (!(inR b.AngularVelocity (-4194304) 4194304))) = true
  · first | rw [if_pos h1] | rw [if_pos (by simp_all)] | rw [if_pos (by omega)]
    (repeat (with_reducible refine And.intro ?_ ?_; focus exact ob_))
    have hd : d_r23_inRange b = false := by first | with_reducible rfl | (unfold d_r23_inRange; exact hd_)
    try rw [hd]
    try simp only [go_sem, ite_andP, ite_orP, dec_true, dec_false]
    all_goals exact fin_
  · first | rw [if_neg h1] | rw [if_neg (by simp_all)] | rw [if_neg (by omega)]
    (repeat (with_reducible refine And.intro ?_ ?_; focus exact ob_))
    refine CallGi_flat (s_r23_in b.Force.X (-536870911) 536870911 ) rfl ?_
    simp only [go_sem, ite_andP, ite_orP, dec_true, dec_false]
    (repeat (with_reducible refine And.intro ?_ ?_; focus exact ob_))
    refine CallGi_flat (s_r23_in b.Force.Y (-536870911) 536870911 ) rfl ?_
    simp only [go_sem, ite_andP, ite_orP, dec_true, dec_false]
    (repeat (with_reducible refine And.intro ?_ ?_; focus exact ob_))
    refine CallGi_flat (s_r23_in b.Torque (-536870911) 536870911 ) rfl ?_
    simp only [go_sem, ite_andP, ite_orP, dec_true, dec_false]
    (repeat (with_reducible refine And.intro ?_ ?_; focus exact ob_))
    by_cases h2 : (((!(inR b.Force.X (-536870911) 536870911)) || (!(inR b.Force.Y (-536870911) 536870911))) || (!(inR b.Torque (-536870911) 536870911))) = true
    · first | rw [if_pos h2] | rw [if_pos (by simp_all)] | rw [if_pos (by omega)]
      (repeat (with_reducible refine And.intro ?_ ?_; focus exact ob_))
      have hd : d_r23_inRange b = false := by first | with_reducible rfl | (unfold d_r23_inRange; exact hd_)
      try rw [hd]
      try simp only [go_sem, ite_andP, ite_orP, dec_true, dec_false]
      all_goals exact fin_
    · first | rw [if_neg h2] | rw [if_neg (by simp_all)] | rw [if_neg (by omega)]
      (repeat (with_reducible refine And.intro ?_ ?_; focus exact ob_))
      refine CallGi_flat (s_r23_in b.LinearDamping 0 65536 ) rfl ?_
      simp only [go_sem, ite_andP, ite_orP, dec_true, dec_false]
      (repeat (with_reducible refine And.intro ?_ ?_; focus exact ob_))
      refine CallGi_flat (s_r23_in b.AngularDamping 0 65536 ) rfl ?_
      simp only [go_sem, ite_andP, ite_orP, dec_true, dec_false]
      (repeat (with_reducible refine And.intro ?_ ?_; focus exact ob_))
      refine CallGi_flat (s_r23_in b.GravityScale (-262144) 262144 ) rfl ?_
      simp only [go_sem, ite_andP, ite_orP, dec_true, dec_false]
      (repeat (with_reducible refine And.intro ?_ ?_; focus exact ob_))
      refine CallGi_flat (s_r23_in b.IdleSteps 0 1048576 ) rfl ?_
      simp only [go_sem, ite_andP, ite_orP, dec_true, dec_false]
      (repeat (with_reducible refine And.intro ?_ ?_; focus exact ob_))
      have hd : d_r23_inRange b = ((((inR b.LinearDamping 0 65536) && (inR b.AngularDamping 0 65536)) && (inR b.GravityScale (-262144) 262144)) && (inR b.IdleSteps 0 1048576)) := by first | with_reducible rfl | (unfold d_r23_inRange; exact hd_)
      try rw [hd]
      try simp only [go_sem, ite_andP, ite_orP, dec_true, dec_false]
      all_goals exact fin_

def d_joint_limitRange (k : Int) : Int × Int := if (k == 1) = true then ((0, 268435456)) else (if (k == 2) = true then (((-205888), 205888)) else (((-268435456), 268435456)))
set_option maxHeartbeats 200000 in
theorem s_joint_limitRange (k : Int)  : CallsA Tryz.prog F_joint_limitRange [.sc (.int .i64 k)] [] (.tup [.sc (.int .i64 (d_joint_limitRange k).1), .sc (.int .i64 (d_joint_limitRange k).2)]) [] := by
  refine callsI_of (rs := [_, _]) hm Tryz.func264 (by kernel_rfl) (by kernel_rfl) is_joint_limitRange (by kernel_rfl : tmpsOf Tryz.f264.results.toList = some [2, 3]) (by decide) (by kernel_rfl) ?_
  simp only [c_joint_limitRange, go_sem, ite_andP, ite_orP, dec_true, dec_false]
  (repeat (with_reducible refine And.intro ?_ ?_; focus exact ob_))
  by_cases h1 : (k == 1) = true
  · first | rw [if_pos h1] | rw [if_pos (by simp_all)] | rw [if_pos (by omega)]
    (repeat (with_reducible refine And.intro ?_ ?_; focus exact ob_))
    have hd : d_joint_limitRange k = (0, 268435456) := by first | with_reducible rfl | (unfold d_joint_limitRange; exact hd_)
    try rw [hd]
    try simp only [go_sem, ite_andP, ite_orP, dec_true, dec_false]
    all_goals exact fin_
  · first | rw [if_neg h1] | rw [if_neg (by simp_all)] | rw [if_neg (by omega)]
    (repeat (with_reducible refine And.intro ?_ ?_; focus exact ob_))
    by_cases h2 : (k == 2) = true
    · first | rw [if_pos h2] | rw [if_pos (by simp_all)] | rw [if_pos (by omega)]
      (repeat (with_reducible refine And.intro ?_ ?_; focus exact ob_))
      have hd : d_joint_limitRange k = ((-205888), 205888) := by first | with_reducible rfl | (unfold d_joint_limitRange; exact hd_)
      try rw [hd]
      try simp only [go_sem, ite_andP, ite_orP, dec_true, dec_false]
      all_goals exact fin_
    · first | rw [if_neg h2] | rw [if_neg (by simp_all)] | rw [if_neg (by omega)]
      (repeat (with_reducible refine And.intro ?_ ?_; focus exact ob_))
      have hd : d_joint_limitRange k = ((-268435456), 268435456) := by first | with_reducible rfl | (unfold d_joint_limitRange; exact hd_)
      try rw [hd]
      try simp only [go_sem, ite_andP, ite_orP, dec_true, dec_false]
      all_goals exact fin_

def d_joint_pointInRange (v : Vec) (limit : Int) : Bool := ((inR v.X (IntKind.i64.wrap (0 - limit)) limit) && (inR v.Y (IntKind.i64.wrap (0 - limit)) limit))
set_option maxHeartbeats 200000 in
theorem s_joint_pointInRange (v : Vec) (limit : Int)  : CallsA Tryz.prog F_joint_pointInRange [.agg v.enc, .sc (.int .i64 limit)] [] (.sc (.bool (d_joint_pointInRange v limit))) [] := by
  refine callsI_of (rs := [_]) hm Tryz.func266 (by kernel_rfl) (by kernel_rfl) is_joint_pointInRange (by kernel_rfl : tmpsOf Tryz.f266.results.toList = some [4]) (by decide) (by kernel_rfl) ?_
  simp only [c_joint_pointInRange, go_sem, ite_andP, ite_orP, dec_true, dec_false]
  (repeat (with_reducible refine And.intro ?_ ?_; focus exact ob_))
  refine CallGi_flat (s_joint_inRange v.X (IntKind.i64.wrap (0 - limit)) limit ) rfl ?_
  simp only [go_sem, ite_andP, ite_orP, dec_true, dec_false]
  (repeat (with_reducible refine And.intro ?_ ?_; focus exact ob_))
  refine CallGi_flat (s_joint_inRange v.Y (IntKind.i64.wrap (0 - limit)) limit ) rfl ?_
  simp only [go_sem, ite_andP, ite_orP, dec_true, dec_false]
  (repeat (with_reducible refine And.intro ?_ ?_; focus exact ob_))
  have hd : d_joint_pointInRange v limit = ((inR v.X (IntKind.i64.wrap (0 - limit)) limit) && (inR v.Y (IntKind.i64.wrap (0 - limit)) limit)) := by first | with_reducible rfl | (unfold d_joint_pointInRange; exact hd_)
  try rw [hd]
  try simp only [go_sem, ite_andP, ite_orP, dec_true, dec_false]
  all_goals exact fin_

def d_joint_validBodies (j : Joint) : Bool := if (j.Kind == 5) = true then (((j.BodyA == 0) && (inR j.BodyB 1 1099511627776))) else ((((inR j.BodyA 1 1099511627776) && (inR j.BodyB 1 1099511627776)) && (j.BodyA != j.BodyB)))
set_option maxHeartbeats 200000 in
theorem s_joint_validBodies (j : Joint)  : CallsA Tryz.prog F_joint_validBodies [.agg j.enc] [] (.sc (.bool (d_joint_validBodies j))) [] := by
  refine callsI_of (rs := [_]) hm Tryz.func209 (by kernel_rfl) (by kernel_rfl) is_joint_validBodies (by kernel_rfl : tmpsOf Tryz.f209.results.toList = some [2]) (by decide) (by kernel_rfl) ?_
  simp only [c_joint_validBodies, go_sem, ite_andP, ite_orP, dec_true, dec_false]
  (repeat (with_reducible refine And.intro ?_ ?_; focus exact ob_))
  by_cases h1 : (j.Kind == 5) = true
  · first | rw [if_pos h1] | rw [if_pos (by simp_all)] | rw [if_pos (by omega)]
    (repeat (with_reducible refine And.intro ?_ ?_; focus exact ob_))
    refine CallGi_flat (s_joint_inRange j.BodyB 1 1099511627776 ) rfl ?_
    simp only [go_sem, ite_andP, ite_orP, dec_true, dec_false]
    (repeat (with_reducible refine And.intro ?_ ?_; focus exact ob_))
    have hd : d_joint_validBodies j = ((j.BodyA == 0) && (inR j.BodyB 1 1099511627776)) := by first | with_reducible rfl | (unfold d_joint_validBodies; exact hd_)
    try rw [hd]
    try simp only [go_sem, ite_andP, ite_orP, dec_true, dec_false]
    all_goals exact fin_
  · first | rw [if_neg h1] | rw [if_neg (by simp_all)] | rw [if_neg (by omega)]
    (repeat (with_reducible refine And.intro ?_ ?_; focus exact ob_))
    refine CallGi_flat (s_joint_inRange j.BodyA 1 1099511627776 ) rfl ?_
    simp only [go_sem, ite_andP, ite_orP, dec_true, dec_false]
    (repeat (with_reducible refine And.intro ?_ ?_; focus exact ob_))
    refine CallGi_flat (s_joint_inRange j.BodyB 1 1099511627776 ) rfl ?_
    simp only [go_sem, ite_andP, ite_orP, dec_true, dec_false]
    (repeat (with_reducible refine And.intro ?_ ?_; focus exact ob_))
    have hd : d_joint_validBodies j = (((inR j.BodyA 1 1099511627776) && (inR j.BodyB 1 1099511627776)) && (j.BodyA != j.BodyB)) := by first | with_reducible rfl | (unfold d_joint_validBodies; exact hd_)
    try rw [hd]
    try simp only [go_sem, ite_andP, ite_orP, dec_true, dec_false]
    all_goals exact fin_

def d_joint_inconsistent (j : Joint) : Bool := if (j.Kind == 3) = true then (let v1 := (lenV j.Axis); (!(inR v1 65520 65552))) else (if (j.Kind == 1) = true then ((((!((j.Axis.X == 0) && (j.Axis.Y == 0))) || j.EnableMotor) || (!j.EnableLimit))) else (if (j.Kind == 4) = true then ((((!((j.Axis.X == 0) && (j.Axis.Y == 0))) || j.EnableMotor) || j.EnableLimit)) else (if (j.Kind == 5) = true then ((((!((j.Axis.X == 0) && (j.Axis.Y == 0))) || j.EnableMotor) || j.EnableLimit)) else ((!((j.Axis.X == 0) && (j.Axis.Y == 0)))))))
set_option maxHeartbeats 200000 in
theorem s_joint_inconsistent (j : Joint)  : CallsA Tryz.prog F_joint_inconsistent [.agg j.enc] [] (.sc (.bool (d_joint_inconsistent j))) [] := by
  refine callsI_of (rs := [_]) hm Tryz.func210 (by kernel_rfl) (by kernel_rfl) is_joint_inconsistent (by kernel_rfl : tmpsOf Tryz.f210.results.toList = some [2]) (by decide) (by kernel_rfl) ?_
  simp only [c_joint_inconsistent, go_sem, ite_andP, ite_orP, dec_true, dec_false]
  (repeat (with_reducible refine And.intro ?_ ?_; focus exact ob_))
  by_cases h1 : (j.Kind == 3) = true
  · first | rw [if_pos h1] | rw [if_pos (by simp_all)] | rw [if_pos (by omega)]
    (repeat (with_reducible refine And.intro ?_ ?_; focus exact ob_))
    refine CallGi_flat (s_vec2_Length j.Axis ) rfl ?_
    generalize hv1 : (lenV j.Axis) = v1
    simp only [go_sem, ite_andP, ite_orP, dec_true, dec_false]
    (repeat (with_reducible refine And.intro ?_ ?_; focus exact ob_))
    refine CallGi_flat (s_joint_inRange v1 65520 65552 ) rfl ?_
    simp only [go_sem, ite_andP, ite_orP, dec_true, dec_false]
    (repeat (with_reducible refine And.intro ?_ ?_; focus exact ob_))
    have hd : d_joint_inconsistent j = (!(inR v1 65520 65552)) := by first | with_reducible rfl | (unfold d_joint_inconsistent; exact hd_)
    try rw [hd]
    try simp only [go_sem, ite_andP, ite_orP, dec_true, dec_false]
    all_goals exact fin_
  · first | rw [if_neg h1] | rw [if_neg (by simp_all)] | rw [if_neg (by omega)]
    (repeat (with_reducible refine And.intro ?_ ?_; focus exact ob_))
    by_cases h2 : (j.Kind == 1) = true
    · first | rw [if_pos h2] | rw [if_pos (by simp_all)] | rw [if_pos (by omega)]
      (repeat (with_reducible refine And.intro ?_ ?_; focus exact ob_))
      have hd : d_joint_inconsistent j = (((!((j.Axis.X == 0) && (j.Axis.Y == 0))) || j.EnableMotor) || (!j.EnableLimit)) := by first | with_reducible rfl | (unfold d_joint_inconsistent; exact hd_)
      try rw [hd]
      try simp only [go_sem, ite_andP, ite_orP, dec_true, dec_false]
      all_goals exact fin_
    · first | rw [if_neg h2] | rw [if_neg (by simp_all)] | rw [if_neg (by omega)]
      (repeat (with_reducible refine And.intro ?_ ?_; focus exact ob_))
      by_cases h3 : (j.Kind == 4) = true
      · first | rw [if_pos h3] | rw [if_pos (by simp_all)] | rw [if_pos (by omega)]
        (repeat (with_reducible refine And.intro ?_ ?_; focus exact ob_))
        have hd : d_joint_inconsistent j = (((!((j.Axis.X == 0) && (j.Axis.Y == 0))) || j.EnableMotor) || j.EnableLimit) := by first | with_reducible rfl | (unfold d_joint_inconsistent; exact hd_)
        try rw [hd]
        try simp only [go_sem, ite_andP, ite_orP, dec_true, dec_false]
        all_goals exact fin_
      · first | rw [if_neg h3] | rw [if_neg (by simp_all)] | rw [if_neg (by omega)]
        (repeat (with_reducible refine And.intro ?_ ?_; focus exact ob_))
        by_cases h4 : (j.Kind == 5) = true
        · first | rw [if_pos h4] | rw [if_pos (by simp_all)] | rw [if_pos (by omega)]
          (repeat (with_reducible refine And.intro ?_ ?_; focus exact ob_))
          have hd : d_joint_inconsistent j = (((!((j.Axis.X == 0) && (j.Axis.Y == 0))) || j.EnableMotor) || j.EnableLimit) := by first | with_reducible rfl | (unfold d_joint_inconsistent; exact hd_)
          try rw [hd]
          try simp only [go_sem, ite_andP, ite_orP, dec_true, dec_false]
          all_goals exact fin_
        · first | rw [if_neg h4] | rw [if_neg (by simp_all)] | rw [if_neg (by omega)]
          (repeat (with_reducible refine And.intro ?_ ?_; focus exact ob_))
          have hd : d_joint_inconsistent j = (!((j.Axis.X == 0) && (j.Axis.Y == 0))) := by first | with_reducible rfl | (unfold d_joint_inconsistent; exact hd_)
          try rw [hd]
          try simp only [go_sem, ite_andP, ite_orP, dec_true, dec_false]
          all_goals exact fin_

def d_r24_inSquare (v : Vec) (m : Int) : Bool := ((inR v.X (IntKind.i64.wrap (0 - m)) m) && (inR v.Y (IntKind.i64.wrap (0 - m)) m))
set_option maxHeartbeats 200000 in
theorem s_r24_inSquare (v : Vec) (m : Int)  : CallsA Tryz.prog F_r24_inSquare [.agg v.enc, .sc (.int .i64 m)] [] (.sc (.bool (d_r24_inSquare v m))) [] := by
  refine callsI_of (rs := [_]) hm Tryz.func309 (by kernel_rfl) (by kernel_rfl) is_r24_inSquare (by kernel_rfl : tmpsOf Tryz.f309.results.toList = some [4]) (by decide) (by kernel_rfl) ?_
  simp only [c_r24_inSquare, go_sem, ite_andP, ite_orP, dec_true, dec_false]
  (repeat (with_reducible refine And.intro ?_ ?_; focus exact ob_))
  refine CallGi_flat (s_r24_inRange v.X (IntKind.i64.wrap (0 - m)) m ) rfl ?_
  simp only [go_sem, ite_andP, ite_orP, dec_true, dec_false]
  (repeat (with_reducible refine And.intro ?_ ?_; focus exact ob_))
  refine CallGi_flat (s_r24_inRange v.Y (IntKind.i64.wrap (0 - m)) m ) rfl ?_
  simp only [go_sem, ite_andP, ite_orP, dec_true, dec_false]
  (repeat (with_reducible refine And.intro ?_ ?_; focus exact ob_))
  have hd : d_r24_inSquare v m = ((inR v.X (IntKind.i64.wrap (0 - m)) m) && (inR v.Y (IntKind.i64.wrap (0 - m)) m)) := by first | with_reducible rfl | (unfold d_r24_inSquare; exact hd_)
  try rw [hd]
  try simp only [go_sem, ite_andP, ite_orP, dec_true, dec_false]
  all_goals exact fin_

def d_r24_limitsValid (j : Joint) : Bool := if (((!(inR j.Lower (-268435456) 268435456)) || (!(inR j.Upper (-268435456) 268435456))) || (decide (j.Upper < j.Lower))) = true then (false) else (if (j.Kind == 1) = true then ((decide (0 ≤ j.Lower))) else (((j.Kind != 2) || ((decide ((-205888) ≤ j.Lower)) && (decide (j.Upper ≤ 205888))))))
set_option maxHeartbeats 200000 in
theorem s_r24_limitsValid (j : Joint)  : CallsA Tryz.prog F_r24_limitsValid [.agg j.enc] [] (.sc (.bool (d_r24_limitsValid j))) [] := by
  refine callsI_of (rs := [_]) hm Tryz.func310 (by kernel_rfl) (by kernel_rfl) is_r24_limitsValid (by kernel_rfl : tmpsOf Tryz.f310.results.toList = some [2]) (by decide) (by kernel_rfl) ?_
  simp only [c_r24_limitsValid, go_sem, ite_andP, ite_orP, dec_true, dec_false]
  (repeat (with_reducible refine And.intro ?_ ?_; focus exact ob_))
  refine CallGi_flat (s_r24_inRange j.Lower (-268435456) 268435456 ) rfl ?_
  simp only [go_sem, ite_andP, ite_orP, dec_true, dec_false]
  (repeat (with_reducible refine And.intro ?_ ?_; focus exact ob_))
  refine CallGi_flat (s_r24_inRange j.Upper (-268435456) 268435456 ) rfl ?_
  simp only [go_sem, ite_andP, ite_orP, dec_true, dec_false]
  (repeat (with_reducible refine And.intro ?_ ?_; focus exact ob_))
  by_cases h1 : (((!(inR j.Lower (-268435456) 268435456)) || (!(inR j.Upper (-268435456) 268435456))) || (decide (j.Upper < j.Lower))) = true
  · first | rw [if_pos h1] | rw [if_pos (by simp_all)] | rw [if_pos (by omega)]
    (repeat (with_reducible refine And.intro ?_ ?_; focus exact ob_))
    have hd : d_r24_limitsValid j = false := by first | with_reducible rfl | (unfold d_r24_limitsValid; exact hd_)
    try rw [hd]
    try simp only [go_sem, ite_andP, ite_orP, dec_true, dec_false]
    all_goals exact fin_
  · first | rw [if_neg h1] | rw [if_neg (by simp_all)] | rw [if_neg (by omega)]
    (repeat (with_reducible refine And.intro ?_ ?_; focus exact ob_))
    by_cases h2 : (j.Kind == 1) = true
    · first | rw [if_pos h2] | rw [if_pos (by simp_all)] | rw [if_pos (by omega)]
      (repeat (with_reducible refine And.intro ?_ ?_; focus exact ob_))
      have hd : d_r24_limitsValid j = (decide (0 ≤ j.Lower)) := by first | with_reducible rfl | (unfold d_r24_limitsValid; exact hd_)
      try rw [hd]
      try simp only [go_sem, ite_andP, ite_orP, dec_true, dec_false]
      all_goals exact fin_
    · first | rw [if_neg h2] | rw [if_neg (by simp_all)] | rw [if_neg (by omega)]
      (repeat (with_reducible refine And.intro ?_ ?_; focus exact ob_))
      have hd : d_r24_limitsValid j = ((j.Kind != 2) || ((decide ((-205888) ≤ j.Lower)) && (decide (j.Upper ≤ 205888)))) := by first | with_reducible rfl | (unfold d_r24_limitsValid; exact hd_)
      try rw [hd]
      try simp only [go_sem, ite_andP, ite_orP, dec_true, dec_false]
      all_goals exact fin_


def d_r22_Less (a : PairKey) (b : PairKey) : Bool := if (a.BodyA != b.BodyA) = true then ((decide (a.BodyA < b.BodyA))) else (if (a.FixtureA != b.FixtureA) = true then ((decide (a.FixtureA < b.FixtureA))) else (if (a.BodyB != b.BodyB) = true then ((decide (a.BodyB < b.BodyB))) else ((decide (a.FixtureB < b.FixtureB)))))
set_option maxHeartbeats 200000 in
theorem s_r22_Less (a : PairKey) (b : PairKey)  : CallsA Tryz.prog F_r22_Less [.agg a.enc, .agg b.enc] [] (.sc (.bool (d_r22_Less a b))) [] := by
  refine callsI_of (rs := [_]) hm Tryz.func281 (by kernel_rfl) (by kernel_rfl) is_r22_Less (by kernel_rfl : tmpsOf Tryz.f281.results.toList = some [4]) (by decide) (by kernel_rfl) ?_
  simp only [c_r22_Less, go_sem, ite_andP, ite_orP, dec_true, dec_false]
  (repeat (with_reducible refine And.intro ?_ ?_; focus exact ob_))
  by_cases h1 : (a.BodyA != b.BodyA) = true
  · first | rw [if_pos h1] | rw [if_pos (by simp_all)] | rw [if_pos (by omega)]
    (repeat (with_reducible refine And.intro ?_ ?_; focus exact ob_))
    have hd : d_r22_Less a b = (decide (a.BodyA < b.BodyA)) := by first | with_reducible rfl | (unfold d_r22_Less; exact hd_)
    try rw [hd]
    try simp only [go_sem, ite_andP, ite_orP, dec_true, dec_false]
    all_goals exact fin_
  · first | rw [if_neg h1] | rw [if_neg (by simp_all)] | rw [if_neg (by omega)]
    (repeat (with_reducible refine And.intro ?_ ?_; focus exact ob_))
    by_cases h2 : (a.FixtureA != b.FixtureA) = true
    · first | rw [if_pos h2] | rw [if_pos (by simp_all)] | rw [if_pos (by omega)]
      (repeat (with_reducible refine And.intro ?_ ?_; focus exact ob_))
      have hd : d_r22_Less a b = (decide (a.FixtureA < b.FixtureA)) := by first | with_reducible rfl | (unfold d_r22_Less; exact hd_)
      try rw [hd]
      try simp only [go_sem, ite_andP, ite_orP, dec_true, dec_false]
      all_goals exact fin_
    · first | rw [if_neg h2] | rw [if_neg (by simp_all)] | rw [if_neg (by omega)]
      (repeat (with_reducible refine And.intro ?_ ?_; focus exact ob_))
      by_cases h3 : (a.BodyB != b.BodyB) = true
      · first | rw [if_pos h3] | rw [if_pos (by simp_all)] | rw [if_pos (by omega)]
        (repeat (with_reducible refine And.intro ?_ ?_; focus exact ob_))
        have hd : d_r22_Less a b = (decide (a.BodyB < b.BodyB)) := by first | with_reducible rfl | (unfold d_r22_Less; exact hd_)
        try rw [hd]
        try simp only [go_sem, ite_andP, ite_orP, dec_true, dec_false]
        all_goals exact fin_
      · first | rw [if_neg h3] | rw [if_neg (by simp_all)] | rw [if_neg (by omega)]
        (repeat (with_reducible refine And.intro ?_ ?_; focus exact ob_))
        have hd : d_r22_Less a b = (decide (a.FixtureB < b.FixtureB)) := by first | with_reducible rfl | (unfold d_r22_Less; exact hd_)
        try rw [hd]
        try simp only [go_sem, ite_andP, ite_orP, dec_true, dec_false]
        all_goals exact fin_

def d_r25_saturated (v : Vec) : Bool := ((inR v.X (-536870911) 536870911) && (inR v.Y (-536870911) 536870911))
set_option maxHeartbeats 200000 in
theorem s_r25_saturated (v : Vec)  : CallsA Tryz.prog F_r25_saturated [.agg v.enc] [] (.sc (.bool (d_r25_saturated v))) [] := by
  refine callsI_of (rs := [_]) hm Tryz.func283 (by kernel_rfl) (by kernel_rfl) is_r25_saturated (by kernel_rfl : tmpsOf Tryz.f283.results.toList = some [2]) (by decide) (by kernel_rfl) ?_
  simp only [c_r25_saturated, go_sem, ite_andP, ite_orP, dec_true, dec_false]
  (repeat (with_reducible refine And.intro ?_ ?_; focus exact ob_))
  refine CallGi_flat (s_r25_in v.X (-536870911) 536870911 ) rfl ?_
  simp only [go_sem, ite_andP, ite_orP, dec_true, dec_false]
  (repeat (with_reducible refine And.intro ?_ ?_; focus exact ob_))
  refine CallGi_flat (s_r25_in v.Y (-536870911) 536870911 ) rfl ?_
  simp only [go_sem, ite_andP, ite_orP, dec_true, dec_false]
  (repeat (with_reducible refine And.intro ?_ ?_; focus exact ob_))
  have hd : d_r25_saturated v = ((inR v.X (-536870911) 536870911) && (inR v.Y (-536870911) 536870911)) := by first | with_reducible rfl | (unfold d_r25_saturated; exact hd_)
  try rw [hd]
  try simp only [go_sem, ite_andP, ite_orP, dec_true, dec_false]
  all_goals exact fin_


end Go.Abs
