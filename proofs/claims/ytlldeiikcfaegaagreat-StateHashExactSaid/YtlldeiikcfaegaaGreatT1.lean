/- A part of the walk: contracts of functions that the statement reaches. -/
import Derived.Test.YtlldeiikcfaegaaGreatAbsC
import Derived.Test.YtlldeiikcfaegaaGreatV1
set_option linter.unusedSimpArgs false
set_option linter.unusedVariables false
set_option linter.unnecessarySimpa false
set_option maxRecDepth 100000
set_option maxHeartbeats 2000000
set_option linter.unusedSimpArgs false
set_option linter.unusedVariables false
namespace Go.Abs
open Go.Proofs
open Api
def d_transform_inWorld (x : Int) : Bool := ((decide ((-268435456) ≤ x)) && (decide (x ≤ 268435456)))
set_option maxHeartbeats 200000 in
theorem s_transform_inWorld (x : Int)  : CallsA Tryz.prog F_transform_inWorld [.sc (.int .i64 x)] [] (.sc (.bool (d_transform_inWorld x))) [] := by
  refine callsI_of (rs := [_]) hm Tryz.func295 (by kernel_rfl) (by kernel_rfl) is_transform_inWorld (by kernel_rfl : tmpsOf Tryz.f295.results.toList = some [2]) (by decide) (by kernel_rfl) ?_
  simp only [c_transform_inWorld, go_sem, ite_andP, ite_orP, dec_true, dec_false]
  (repeat (with_reducible refine And.intro ?_ ?_; focus exact ob_))
  have hd : d_transform_inWorld x = ((decide ((-268435456) ≤ x)) && (decide (x ≤ 268435456))) := by first | with_reducible rfl | (unfold d_transform_inWorld; exact hd_)
  try rw [hd]
  try simp only [go_sem, ite_andP, ite_orP, dec_true, dec_false]
  all_goals exact fin_

def d_transform_Valid (t : Transform) : Bool := let v1 := (d_transform_inWorld t.Position.X); let v2 := (d_transform_inWorld t.Position.Y); (((v1 && v2) && (decide ((-205888) ≤ t.Angle))) && (decide (t.Angle < 205888)))
set_option maxHeartbeats 200000 in
theorem s_transform_Valid (t : Transform)  : CallsA Tryz.prog F_transform_Valid [.agg t.enc] [] (.sc (.bool (d_transform_Valid t))) [] := by
  refine callsI_of (rs := [_]) hm Tryz.func261 (by kernel_rfl) (by kernel_rfl) is_transform_Valid (by kernel_rfl : tmpsOf Tryz.f261.results.toList = some [2]) (by decide) (by kernel_rfl) ?_
  simp only [c_transform_Valid, go_sem, ite_andP, ite_orP, dec_true, dec_false]
  (repeat (with_reducible refine And.intro ?_ ?_; focus exact ob_))
  refine CallGi_flat (s_transform_inWorld t.Position.X ) rfl ?_
  generalize hv1 : (d_transform_inWorld t.Position.X) = v1
  simp only [go_sem, ite_andP, ite_orP, dec_true, dec_false]
  (repeat (with_reducible refine And.intro ?_ ?_; focus exact ob_))
  refine CallGi_flat (s_transform_inWorld t.Position.Y ) rfl ?_
  generalize hv2 : (d_transform_inWorld t.Position.Y) = v2
  simp only [go_sem, ite_andP, ite_orP, dec_true, dec_false]
  (repeat (with_reducible refine And.intro ?_ ?_; focus exact ob_))
  have hd : d_transform_Valid t = (((v1 && v2) && (decide ((-205888) ≤ t.Angle))) && (decide (t.Angle < 205888))) := by first | with_reducible rfl | (unfold d_transform_Valid; exact hd_)
  try rw [hd]
  try simp only [go_sem, ite_andP, ite_orP, dec_true, dec_false]
  all_goals exact fin_

def d_r04_outside (x : Int) : Bool := ((decide (x < (-268435456))) || (decide (268435456 < x)))
set_option maxHeartbeats 200000 in
theorem s_r04_outside (x : Int)  : CallsA Tryz.prog F_r04_outside [.sc (.int .i64 x)] [] (.sc (.bool (d_r04_outside x))) [] := by
  refine callsI_of (rs := [_]) hm Tryz.func322 (by kernel_rfl) (by kernel_rfl) is_r04_outside (by kernel_rfl : tmpsOf Tryz.f322.results.toList = some [2]) (by decide) (by kernel_rfl) ?_
  simp only [c_r04_outside, go_sem, ite_andP, ite_orP, dec_true, dec_false]
  (repeat (with_reducible refine And.intro ?_ ?_; focus exact ob_))
  have hd : d_r04_outside x = ((decide (x < (-268435456))) || (decide (268435456 < x))) := by first | with_reducible rfl | (unfold d_r04_outside; exact hd_)
  try rw [hd]
  try simp only [go_sem, ite_andP, ite_orP, dec_true, dec_false]
  all_goals exact fin_

set_option maxHeartbeats 200000 in
theorem s_r04_Valid (t : Transform)  : CallsA Tryz.prog F_r04_Valid [.agg t.enc] [] (.sc (.bool (d_transform_Valid t))) [] := by
  refine callsI_of (rs := [_]) hm Tryz.func307 (by kernel_rfl) (by kernel_rfl) is_r04_Valid (by kernel_rfl : tmpsOf Tryz.f307.results.toList = some [2]) (by decide) (by kernel_rfl) ?_
  simp only [c_r04_Valid, go_sem, ite_andP, ite_orP, dec_true, dec_false]
  (repeat (with_reducible refine And.intro ?_ ?_; focus exact ob_))
  refine CallGi_flat (s_r04_outside t.Position.X ) rfl ?_
  generalize hv1 : (d_r04_outside t.Position.X) = v1
  simp only [go_sem, ite_andP, ite_orP, dec_true, dec_false]
  (repeat (with_reducible refine And.intro ?_ ?_; focus exact ob_))
  refine CallGi_flat (s_r04_outside t.Position.Y ) rfl ?_
  generalize hv2 : (d_r04_outside t.Position.Y) = v2
  simp only [go_sem, ite_andP, ite_orP, dec_true, dec_false]
  (repeat (with_reducible refine And.intro ?_ ?_; focus exact ob_))
  have hd : d_transform_Valid t = ((((!v1) && (!v2)) && (decide ((-205888) ≤ t.Angle))) && (decide (t.Angle < 205888))) := by (subst hv2; subst hv1; simp only [d_transform_Valid, d_transform_inWorld, d_r04_outside] at *; first | with_reducible rfl | (rw [Bool.eq_iff_iff]; simp only [Bool.and_eq_true, Bool.or_eq_true, Bool.not_eq_true', Bool.not_eq_false', decide_eq_true_eq, decide_eq_false_iff_not, bne_iff_ne, beq_iff_eq, ne_eq, Bool.and_eq_false_iff, Bool.or_eq_false_iff, beq_eq_false_iff_ne, bne_eq_false_iff_eq, Bool.not_eq_true, Bool.false_eq_true, iff_false, iff_true] at *; omega) | ((repeat' split) <;> first | rfl | omega | (simp only [Bool.and_eq_true, Bool.or_eq_true, Bool.not_eq_true', Bool.not_eq_false', decide_eq_true_eq, decide_eq_false_iff_not, bne_iff_ne, beq_iff_eq, ne_eq, Bool.and_eq_false_iff, Bool.or_eq_false_iff, beq_eq_false_iff_ne, bne_eq_false_iff_eq, Bool.not_eq_true, Bool.false_eq_true, iff_false, iff_true] at *; omega) | (simp_all; done) | (simp_all; omega)))
  try rw [hd]
  try simp only [go_sem, ite_andP, ite_orP, dec_true, dec_false]
  all_goals exact fin_

def d_body_bounded (v : Vec) (limit : Int) : Bool := ((inR v.X (IntKind.i64.wrap (0 - limit)) limit) && (inR v.Y (IntKind.i64.wrap (0 - limit)) limit))
set_option maxHeartbeats 200000 in
theorem s_body_bounded (v : Vec) (limit : Int)  : CallsA Tryz.prog F_body_bounded [.agg v.enc, .sc (.int .i64 limit)] [] (.sc (.bool (d_body_bounded v limit))) [] := by
  refine callsI_of (rs := [_]) hm Tryz.func259 (by kernel_rfl) (by kernel_rfl) is_body_bounded (by kernel_rfl : tmpsOf Tryz.f259.results.toList = some [4]) (by decide) (by kernel_rfl) ?_
  simp only [c_body_bounded, go_sem, ite_andP, ite_orP, dec_true, dec_false]
  (repeat (with_reducible refine And.intro ?_ ?_; focus exact ob_))
  refine CallGi_flat (s_body_within v.X (IntKind.i64.wrap (0 - limit)) limit ) rfl ?_
  simp only [go_sem, ite_andP, ite_orP, dec_true, dec_false]
  (repeat (with_reducible refine And.intro ?_ ?_; focus exact ob_))
  refine CallGi_flat (s_body_within v.Y (IntKind.i64.wrap (0 - limit)) limit ) rfl ?_
  simp only [go_sem, ite_andP, ite_orP, dec_true, dec_false]
  (repeat (with_reducible refine And.intro ?_ ?_; focus exact ob_))
  have hd : d_body_bounded v limit = ((inR v.X (IntKind.i64.wrap (0 - limit)) limit) && (inR v.Y (IntKind.i64.wrap (0 - limit)) limit)) := by first | with_reducible rfl | (unfold d_body_bounded; exact hd_)
  try rw [hd]
  try simp only [go_sem, ite_andP, ite_orP, dec_true, dec_false]
  all_goals exact fin_

def d_body_moving (b : Body) : Bool := ((!((b.Velocity.X == 0) && (b.Velocity.Y == 0))) || (b.AngularVelocity != 0))
set_option maxHeartbeats 200000 in
theorem s_body_moving (b : Body)  : CallsA Tryz.prog F_body_moving [.agg b.enc] [] (.sc (.bool (d_body_moving b))) [] := by
  refine callsI_of (rs := [_]) hm Tryz.func263 (by kernel_rfl) (by kernel_rfl) is_body_moving (by kernel_rfl : tmpsOf Tryz.f263.results.toList = some [2]) (by decide) (by kernel_rfl) ?_
  simp only [c_body_moving, go_sem, ite_andP, ite_orP, dec_true, dec_false]
  (repeat (with_reducible refine And.intro ?_ ?_; focus exact ob_))
  have hd : d_body_moving b = ((!((b.Velocity.X == 0) && (b.Velocity.Y == 0))) || (b.AngularVelocity != 0)) := by first | with_reducible rfl | (unfold d_body_moving; exact hd_)
  try rw [hd]
  try simp only [go_sem, ite_andP, ite_orP, dec_true, dec_false]
  all_goals exact fin_

def d_body_consistent (b : Body) : Bool := let v1 := (d_body_moving b); if ((b.Kind == 1) && (v1 || ((!((b.Force.X == 0) && (b.Force.Y == 0))) || (b.Torque != 0)))) = true then (false) else (if ((b.Kind != 3) && (b.Asleep || b.Bullet)) = true then (false) else (((!b.Asleep) || (!v1))))
set_option maxHeartbeats 200000 in
theorem s_body_consistent (b : Body)  : CallsA Tryz.prog F_body_consistent [.agg b.enc] [] (.sc (.bool (d_body_consistent b))) [] := by
  refine callsI_of (rs := [_]) hm Tryz.func207 (by kernel_rfl) (by kernel_rfl) is_body_consistent (by kernel_rfl : tmpsOf Tryz.f207.results.toList = some [2]) (by decide) (by kernel_rfl) ?_
  simp only [c_body_consistent, go_sem, ite_andP, ite_orP, dec_true, dec_false]
  (repeat (with_reducible refine And.intro ?_ ?_; focus exact ob_))
  refine CallGi_flat (s_body_moving b ) rfl ?_
  generalize hv1 : (d_body_moving b) = v1
  simp only [go_sem, ite_andP, ite_orP, dec_true, dec_false]
  (repeat (with_reducible refine And.intro ?_ ?_; focus exact ob_))
  by_cases h1 : ((b.Kind == 1) && (v1 || ((!((b.Force.X == 0) && (b.Force.Y == 0))) || (b.Torque != 0)))) = true
  · first | rw [if_pos h1] | rw [if_pos (by simp_all)] | rw [if_pos (by omega)]
    (repeat (with_reducible refine And.intro ?_ ?_; focus exact ob_))
    have hd : d_body_consistent b = false := by first | with_reducible rfl | (unfold d_body_consistent; exact hd_)
    try rw [hd]
    try simp only [go_sem, ite_andP, ite_orP, dec_true, dec_false]
    all_goals exact fin_
  · first | rw [if_neg h1] | rw [if_neg (by simp_all)] | rw [if_neg (by omega)]
    (repeat (with_reducible refine And.intro ?_ ?_; focus exact ob_))
    by_cases h2 : ((b.Kind != 3) && (b.Asleep || b.Bullet)) = true
    · first | rw [if_pos h2] | rw [if_pos (by simp_all)] | rw [if_pos (by omega)]
      (repeat (with_reducible refine And.intro ?_ ?_; focus exact ob_))
      have hd : d_body_consistent b = false := by first | with_reducible rfl | (unfold d_body_consistent; exact hd_)
      try rw [hd]
      try simp only [go_sem, ite_andP, ite_orP, dec_true, dec_false]
      all_goals exact fin_
    · first | rw [if_neg h2] | rw [if_neg (by simp_all)] | rw [if_neg (by omega)]
      (repeat (with_reducible refine And.intro ?_ ?_; focus exact ob_))
      refine CallGi_flat (s_body_moving b ) rfl ?_
      rw [hv1]
      simp only [go_sem, ite_andP, ite_orP, dec_true, dec_false]
      (repeat (with_reducible refine And.intro ?_ ?_; focus exact ob_))
      have hd : d_body_consistent b = ((!b.Asleep) || (!v1)) := by first | with_reducible rfl | (unfold d_body_consistent; exact hd_)
      try rw [hd]
      try simp only [go_sem, ite_andP, ite_orP, dec_true, dec_false]
      all_goals exact fin_

def d_shape_validCount (s : Shape) : Bool := if (s.Kind == 1) = true then (((s.Vertices.length : Int) == 1)) else (if (s.Kind == 2) = true then (((s.Vertices.length : Int) == 2)) else (((decide (3 ≤ (s.Vertices.length : Int))) && (decide ((s.Vertices.length : Int) ≤ 8)))))
set_option maxHeartbeats 200000 in
theorem s_shape_validCount (s : Shape)  : CallsA Tryz.prog F_shape_validCount [.agg s.enc] [] (.sc (.bool (d_shape_validCount s))) [] := by
  refine callsI_of (rs := [_]) hm Tryz.func296 (by kernel_rfl) (by kernel_rfl) is_shape_validCount (by kernel_rfl : tmpsOf Tryz.f296.results.toList = some [2]) (by decide) (by kernel_rfl) ?_
  simp only [c_shape_validCount, go_sem, ite_andP, ite_orP, dec_true, dec_false]
  (repeat (with_reducible refine And.intro ?_ ?_; focus exact ob_))
  by_cases h1 : (s.Kind == 1) = true
  · first | rw [if_pos h1] | rw [if_pos (by simp_all)] | rw [if_pos (by omega)]
    (repeat (with_reducible refine And.intro ?_ ?_; focus exact ob_))
    have hd : d_shape_validCount s = ((s.Vertices.length : Int) == 1) := by first | with_reducible rfl | (unfold d_shape_validCount; exact hd_)
    try rw [hd]
    try simp only [go_sem, ite_andP, ite_orP, dec_true, dec_false]
    all_goals exact fin_
  · first | rw [if_neg h1] | rw [if_neg (by simp_all)] | rw [if_neg (by omega)]
    (repeat (with_reducible refine And.intro ?_ ?_; focus exact ob_))
    by_cases h2 : (s.Kind == 2) = true
    · first | rw [if_pos h2] | rw [if_pos (by simp_all)] | rw [if_pos (by omega)]
      (repeat (with_reducible refine And.intro ?_ ?_; focus exact ob_))
      have hd : d_shape_validCount s = ((s.Vertices.length : Int) == 2) := by first | with_reducible rfl | (unfold d_shape_validCount; exact hd_)
      try rw [hd]
      try simp only [go_sem, ite_andP, ite_orP, dec_true, dec_false]
      all_goals exact fin_
    · first | rw [if_neg h2] | rw [if_neg (by simp_all)] | rw [if_neg (by omega)]
      (repeat (with_reducible refine And.intro ?_ ?_; focus exact ob_))
      have hd : d_shape_validCount s = ((decide (3 ≤ (s.Vertices.length : Int))) && (decide ((s.Vertices.length : Int) ≤ 8))) := by first | with_reducible rfl | (unfold d_shape_validCount; exact hd_)
      try rw [hd]
      try simp only [go_sem, ite_andP, ite_orP, dec_true, dec_false]
      all_goals exact fin_

theorem vcount (s : Shape) : d_shape_validCount s = true → (s.Kind = 1 → s.Vertices.length = 1) ∧ (s.Kind = 2 → s.Vertices.length = 2) ∧ (s.Kind = 3 → 3 ≤ s.Vertices.length) := by
  intro h
  unfold d_shape_validCount at h
  (repeat' split at h) <;> simp only [Bool.and_eq_true, decide_eq_true_eq, beq_iff_eq, bne_iff_ne] at * <;> omega
def d_r12_countMatches (s : Shape) : Bool := if (s.Kind == 3) = true then (((decide (3 ≤ (s.Vertices.length : Int))) && (decide ((s.Vertices.length : Int) ≤ 8)))) else (((s.Vertices.length : Int) == s.Kind))
set_option maxHeartbeats 200000 in
theorem s_r12_countMatches (s : Shape)  : CallsA Tryz.prog F_r12_countMatches [.agg s.enc] [] (.sc (.bool (d_r12_countMatches s))) [] := by
  refine callsI_of (rs := [_]) hm Tryz.func323 (by kernel_rfl) (by kernel_rfl) is_r12_countMatches (by kernel_rfl : tmpsOf Tryz.f323.results.toList = some [2]) (by decide) (by kernel_rfl) ?_
  simp only [c_r12_countMatches, go_sem, ite_andP, ite_orP, dec_true, dec_false]
  (repeat (with_reducible refine And.intro ?_ ?_; focus exact ob_))
  by_cases h1 : (s.Kind == 3) = true
  · first | rw [if_pos h1] | rw [if_pos (by simp_all)] | rw [if_pos (by omega)]
    (repeat (with_reducible refine And.intro ?_ ?_; focus exact ob_))
    have hd : d_r12_countMatches s = ((decide (3 ≤ (s.Vertices.length : Int))) && (decide ((s.Vertices.length : Int) ≤ 8))) := by first | with_reducible rfl | (unfold d_r12_countMatches; exact hd_)
    try rw [hd]
    try simp only [go_sem, ite_andP, ite_orP, dec_true, dec_false]
    all_goals exact fin_
  · first | rw [if_neg h1] | rw [if_neg (by simp_all)] | rw [if_neg (by omega)]
    (repeat (with_reducible refine And.intro ?_ ?_; focus exact ob_))
    have hd : d_r12_countMatches s = ((s.Vertices.length : Int) == s.Kind) := by first | with_reducible rfl | (unfold d_r12_countMatches; exact hd_)
    try rw [hd]
    try simp only [go_sem, ite_andP, ite_orP, dec_true, dec_false]
    all_goals exact fin_

theorem rcount (s : Shape) : d_r12_countMatches s = true → (s.Kind = 1 → s.Vertices.length = 1) ∧ (s.Kind = 2 → s.Vertices.length = 2) ∧ (s.Kind = 3 → 3 ≤ s.Vertices.length) := by
  intro h
  unfold d_r12_countMatches at h
  (repeat' split at h) <;> simp only [Bool.and_eq_true, decide_eq_true_eq, beq_iff_eq, bne_iff_ne] at * <;> omega
def d_shape_outOfRange (n : Int) : Bool := ((decide (n < (-1048576))) || (decide (1048576 < n)))
set_option maxHeartbeats 200000 in
theorem s_shape_outOfRange (n : Int)  : CallsA Tryz.prog F_shape_outOfRange [.sc (.int .i64 n)] [] (.sc (.bool (d_shape_outOfRange n))) [] := by
  refine callsI_of (rs := [_]) hm Tryz.func299 (by kernel_rfl) (by kernel_rfl) is_shape_outOfRange (by kernel_rfl : tmpsOf Tryz.f299.results.toList = some [2]) (by decide) (by kernel_rfl) ?_
  simp only [c_shape_outOfRange, go_sem, ite_andP, ite_orP, dec_true, dec_false]
  (repeat (with_reducible refine And.intro ?_ ?_; focus exact ob_))
  have hd : d_shape_outOfRange n = ((decide (n < (-1048576))) || (decide (1048576 < n))) := by first | with_reducible rfl | (unfold d_shape_outOfRange; exact hd_)
  try rw [hd]
  try simp only [go_sem, ite_andP, ite_orP, dec_true, dec_false]
  all_goals exact fin_

def d_polygon_allInReach_L1 (l : List Vec) (i1 : Nat) (s1 : Unit) : (Unit) ⊕ (Bool) := let v1 := (reachB (l.getD i1 default)); if v1 = false then (.inr false) else (.inl ())
def d_polygon_allInReach (l : List Vec) : Bool := (match itrE (d_polygon_allInReach_L1 l) l.length () with | .inr r => r | .inl s1 => true)
set_option maxHeartbeats 200000 in
theorem s_polygon_allInReach (l : List Vec) (hl : l.length ≤ 1048576) : CallsA Tryz.prog F_polygon_allInReach [encD 2 Vec.enc default l] [] (.sc (.bool (d_polygon_allInReach l))) [] := by
  refine callsI_of (rs := [_]) hm Tryz.func318 (by kernel_rfl) (by kernel_rfl) is_polygon_allInReach (by kernel_rfl : tmpsOf Tryz.f318.results.toList = some [2]) (by decide) (by kernel_rfl) ?_
  simp only [c_polygon_allInReach, go_sem, ite_andP, ite_orP, dec_true, dec_false]
  (repeat (with_reducible refine And.intro ?_ ?_; focus exact ob_))
  refine Wpi_loop hm (ι := {p : Nat × Unit // p.1 ≤ l.length ∧ itrE (d_polygon_allInReach_L1 l) p.1 () = .inl p.2}) (fun i => [(5, .share, encD 2 Vec.enc default l), (6, .share, .sc (.int .i64 (l.length : Int))), (7, .share, .sc (.int .i64 (i.1.1 : Int)))]) (fun i => []) (fun i => l.length - i.1.1) ⟨(0, ()), by omega, rfl⟩ ?_ ?_
  · refine weakE_ [] [] ?_
    simp only [go_sem, ite_andP, ite_orP, dec_true, dec_false, itr_zero]
    all_goals exact fin_
  · rintro ⟨⟨i1, s1⟩, hi1, hs1⟩
    replace hi1 : i1 ≤ l.length := hi1
    replace hs1 : itrE (d_polygon_allInReach_L1 l) i1 () = .inl s1 := hs1
    simp only [c_polygon_allInReachb0, go_sem, ite_andP, ite_orP, dec_true, dec_false]
    (repeat (with_reducible refine And.intro ?_ ?_; focus exact ob_))
    by_cases h1 : (i1 : Int) < (l.length : Int)
    · first | rw [if_pos h1] | rw [if_pos (by simp_all)] | rw [if_pos (by omega)]
      have hlt1 : i1 < l.length := by first | omega | (simp only [IntKind.wrap_i64] at h1; omega)
      (repeat (with_reducible refine And.intro ?_ ?_; focus exact ob_))
      refine CallGi_flat (s_polygon_inReach (l.getD i1 default) ) rfl ?_
      generalize hv1 : (reachB (l.getD i1 default)) = v1
      simp only [go_sem, ite_andP, ite_orP, dec_true, dec_false]
      (repeat (with_reducible refine And.intro ?_ ?_; focus exact ob_))
      by_cases h2 : v1 = false
      · first | rw [if_pos h2] | rw [if_pos (by simp_all)] | rw [if_pos (by omega)]
        (repeat (with_reducible refine And.intro ?_ ?_; focus exact ob_))
        have e1 : itrE (d_polygon_allInReach_L1 l) (i1 + 1) () = .inr false := itrE_inl hs1 (by first | with_reducible rfl | (unfold d_polygon_allInReach_L1; exact hd_))
        replace e1 := itrE_stop e1 (show i1 + 1 ≤ l.length by omega)
        have hd : d_polygon_allInReach l = false := by first | with_reducible rfl | (unfold d_polygon_allInReach; exact hd_)
        try rw [hd]
        try simp only [go_sem, ite_andP, ite_orP, dec_true, dec_false]
        all_goals exact fin_
      · first | rw [if_neg h2] | rw [if_neg (by simp_all)] | rw [if_neg (by omega)]
        (repeat (with_reducible refine And.intro ?_ ?_; focus exact ob_))
        have hn : itrE (d_polygon_allInReach_L1 l) (i1 + 1) () = .inl () := itrE_inl hs1 (by first | with_reducible rfl | (unfold d_polygon_allInReach_L1; exact hd_))
        refine loop_next ⟨(i1 + 1, ()), by omega, hn⟩ (by show l.length - (i1 + 1) < l.length - i1; omega) (weakE_ [] [] ?_)
        simp only [go_sem, ite_andP, ite_orP, dec_true, dec_false]
        all_goals exact fin_
    · first | rw [if_neg h1] | rw [if_neg (by simp_all)] | rw [if_neg (by omega)]
      (repeat (with_reducible refine And.intro ?_ ?_; focus exact ob_))
      have hge : i1 = l.length := by first | omega | (simp only [IntKind.wrap_i64] at h1; omega)
      subst hge
      have hd : d_polygon_allInReach l = true := by first | with_reducible rfl | (unfold d_polygon_allInReach; exact hd_)
      try rw [hd]
      try simp only [go_sem, ite_andP, ite_orP, dec_true, dec_false]
      all_goals exact fin_

def d_broadphase_valid (k : PairKey) : Bool := (((((decide (k.BodyA < k.BodyB)) && (decide (0 ≤ k.FixtureA))) && (decide (k.FixtureA < 4))) && (decide (0 ≤ k.FixtureB))) && (decide (k.FixtureB < 4)))
set_option maxHeartbeats 200000 in
theorem s_broadphase_valid (k : PairKey)  : CallsA Tryz.prog F_broadphase_valid [.agg k.enc] [] (.sc (.bool (d_broadphase_valid k))) [] := by
  refine callsI_of (rs := [_]) hm Tryz.func214 (by kernel_rfl) (by kernel_rfl) is_broadphase_valid (by kernel_rfl : tmpsOf Tryz.f214.results.toList = some [2]) (by decide) (by kernel_rfl) ?_
  simp only [c_broadphase_valid, go_sem, ite_andP, ite_orP, dec_true, dec_false]
  (repeat (with_reducible refine And.intro ?_ ?_; focus exact ob_))
  have hd : d_broadphase_valid k = (((((decide (k.BodyA < k.BodyB)) && (decide (0 ≤ k.FixtureA))) && (decide (k.FixtureA < 4))) && (decide (0 ≤ k.FixtureB))) && (decide (k.FixtureB < 4))) := by first | with_reducible rfl | (unfold d_broadphase_valid; exact hd_)
  try rw [hd]
  try simp only [go_sem, ite_andP, ite_orP, dec_true, dec_false]
  all_goals exact fin_


end Go.Abs
