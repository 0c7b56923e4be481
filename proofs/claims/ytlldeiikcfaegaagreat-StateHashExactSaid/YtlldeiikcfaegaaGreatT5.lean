/- A part of the walk: contracts of functions that the statement reaches. -/
import Derived.Test.YtlldeiikcfaegaaGreatAbsC
import Derived.Test.YtlldeiikcfaegaaGreatT4
set_option linter.unusedSimpArgs false
set_option linter.unusedVariables false
set_option linter.unnecessarySimpa false
set_option maxRecDepth 100000
set_option maxHeartbeats 2000000
set_option linter.unusedSimpArgs false
set_option linter.unusedVariables false
namespace Go.Abs
open Go.Proofs
open Api
def d_world_validBodies_L1 (w : Api.World) (i1 : Nat) (s1 : Int) : (Int) ⊕ (Bool) := let v1 := (d_body_Validate (w.Bodies.getD i1 default)); if (((v1 != 0) || (decide (w.NextID ≤ (w.Bodies.getD i1 default).ID))) || (decide ((w.Bodies.getD i1 default).ID ≤ s1))) = true then (.inr false) else (.inl (w.Bodies.getD i1 default).ID)
def d_world_validBodies (w : Api.World) : Bool := (match itrE (d_world_validBodies_L1 w) w.Bodies.length 0 with | .inr r => r | .inl s1 => true)
set_option maxHeartbeats 200000 in
theorem s_world_validBodies (w : Api.World) (hw : Wsm w) : CallsA Tryz.prog F_world_validBodies [.agg w.enc] [] (.sc (.bool (d_world_validBodies w))) [] := by
  have hw1 := hw.1
  refine callsI_of (rs := [_]) hm Tryz.func73 (by kernel_rfl) (by kernel_rfl) is_world_validBodies (by kernel_rfl : tmpsOf Tryz.f73.results.toList = some [2]) (by decide) (by kernel_rfl) ?_
  simp only [c_world_validBodies, go_sem, ite_andP, ite_orP, dec_true, dec_false]
  (repeat (with_reducible refine And.intro ?_ ?_; focus exact ob_))
  refine Wpi_loop hm (ι := {p : Nat × Int // p.1 ≤ w.Bodies.length ∧ itrE (d_world_validBodies_L1 w) p.1 0 = .inl p.2}) (fun i => [(1, .share, .ptr 32 0 0 1), (3, .share, .sc (.int .i64 i.1.2)), (7, .share, encD 20 Body.enc default w.Bodies), (8, .share, .sc (.int .i64 (w.Bodies.length : Int))), (9, .share, .sc (.int .i64 (i.1.1 : Int)))]) (fun i => [(32, .box [.sc (.int .i64 w.Settings.TimeStep), .sc (.int .i64 w.Settings.Gravity.X), .sc (.int .i64 w.Settings.Gravity.Y), .sc (.int .i64 w.Settings.Iterations), .sc (.int .i64 w.Settings.SleepSteps), encD 20 Body.enc default w.Bodies, encD 24 Joint.enc default w.Joints, encD 7 Contact.enc default w.Contacts, encD 4 PairKey.enc default w.Overlaps, .sc (.int .i64 w.NextID), .sc (.int .i64 w.Frame)])]) (fun i => w.Bodies.length - i.1.1) ⟨(0, 0), by omega, rfl⟩ ?_ ?_
  · refine weakE_ [] [] ?_
    simp only [go_sem, ite_andP, ite_orP, dec_true, dec_false, itr_zero]
    all_goals exact fin_
  · rintro ⟨⟨i1, s1⟩, hi1, hs1⟩
    replace hi1 : i1 ≤ w.Bodies.length := hi1
    replace hs1 : itrE (d_world_validBodies_L1 w) i1 0 = .inl s1 := hs1
    simp only [c_world_validBodiesb0, go_sem, ite_andP, ite_orP, dec_true, dec_false]
    (repeat (with_reducible refine And.intro ?_ ?_; focus exact ob_))
    by_cases h1 : (i1 : Int) < (w.Bodies.length : Int)
    · first | rw [if_pos h1] | rw [if_pos (by simp_all)] | rw [if_pos (by omega)]
      have hlt1 : i1 < w.Bodies.length := by first | omega | (simp only [IntKind.wrap_i64] at h1; omega)
      (repeat (with_reducible refine And.intro ?_ ?_; focus exact ob_))
      refine CallGi_flat (s_body_Validate (w.Bodies.getD i1 default) (by (first | exact hw.2.2.2.2.1 _ (mem_getD _ (by omega)) | exact hw.1 | assumption | omega | (simp_all; done) | (simp_all; omega)))) rfl ?_
      generalize hv1 : (d_body_Validate (w.Bodies.getD i1 default)) = v1
      simp only [go_sem, ite_andP, ite_orP, dec_true, dec_false]
      (repeat (with_reducible refine And.intro ?_ ?_; focus exact ob_))
      by_cases h2 : (((v1 != 0) || (decide (w.NextID ≤ (w.Bodies.getD i1 default).ID))) || (decide ((w.Bodies.getD i1 default).ID ≤ s1))) = true
      · first | rw [if_pos h2] | rw [if_pos (by simp_all)] | rw [if_pos (by omega)]
        (repeat (with_reducible refine And.intro ?_ ?_; focus exact ob_))
        have e1 : itrE (d_world_validBodies_L1 w) (i1 + 1) 0 = .inr false := itrE_inl hs1 (by first | with_reducible rfl | (unfold d_world_validBodies_L1; exact hd_))
        replace e1 := itrE_stop e1 (show i1 + 1 ≤ w.Bodies.length by omega)
        have hd : d_world_validBodies w = false := by first | with_reducible rfl | (unfold d_world_validBodies; exact hd_)
        try rw [hd]
        try simp only [go_sem, ite_andP, ite_orP, dec_true, dec_false]
        all_goals exact fin_
      · first | rw [if_neg h2] | rw [if_neg (by simp_all)] | rw [if_neg (by omega)]
        (repeat (with_reducible refine And.intro ?_ ?_; focus exact ob_))
        have hn : itrE (d_world_validBodies_L1 w) (i1 + 1) 0 = .inl (w.Bodies.getD i1 default).ID := itrE_inl hs1 (by first | with_reducible rfl | (unfold d_world_validBodies_L1; exact hd_))
        refine loop_next ⟨(i1 + 1, (w.Bodies.getD i1 default).ID), by omega, hn⟩ (by show w.Bodies.length - (i1 + 1) < w.Bodies.length - i1; omega) (weakE_ [] [] ?_)
        simp only [go_sem, ite_andP, ite_orP, dec_true, dec_false]
        all_goals exact fin_
    · first | rw [if_neg h1] | rw [if_neg (by simp_all)] | rw [if_neg (by omega)]
      (repeat (with_reducible refine And.intro ?_ ?_; focus exact ob_))
      have hge : i1 = w.Bodies.length := by first | omega | (simp only [IntKind.wrap_i64] at h1; omega)
      subst hge
      have hd : d_world_validBodies w = true := by first | with_reducible rfl | (unfold d_world_validBodies; exact hd_)
      try rw [hd]
      try simp only [go_sem, ite_andP, ite_orP, dec_true, dec_false]
      all_goals exact fin_

def d_r25_validBodies_L1 (w : Api.World) (i1 : Nat) (s1 : Int) : (Int) ⊕ (Bool) := let v1 := (d_r23_Validate (w.Bodies.getD i1 default)); if (((v1 != 0) || (decide (w.NextID ≤ (w.Bodies.getD i1 default).ID))) || ((decide (0 < (i1 : Int))) && (decide ((w.Bodies.getD i1 default).ID ≤ s1)))) = true then (.inr false) else (.inl (w.Bodies.getD i1 default).ID)
def d_r25_validBodies (w : Api.World) : Bool := (match itrE (d_r25_validBodies_L1 w) w.Bodies.length 0 with | .inr r => r | .inl s1 => true)
set_option maxHeartbeats 200000 in
theorem s_r25_validBodies (w : Api.World) (hw : Wsm w) : CallsA Tryz.prog F_r25_validBodies [.agg w.enc] [] (.sc (.bool (d_r25_validBodies w))) [] := by
  have hw1 := hw.1
  refine callsI_of (rs := [_]) hm Tryz.func169 (by kernel_rfl) (by kernel_rfl) is_r25_validBodies (by kernel_rfl : tmpsOf Tryz.f169.results.toList = some [2]) (by decide) (by kernel_rfl) ?_
  simp only [c_r25_validBodies, go_sem, ite_andP, ite_orP, dec_true, dec_false]
  (repeat (with_reducible refine And.intro ?_ ?_; focus exact ob_))
  refine Wpi_loop hm (ι := {p : Nat × Int // p.1 ≤ w.Bodies.length ∧ itrE (d_r25_validBodies_L1 w) p.1 0 = .inl p.2}) (fun i => [(1, .share, .ptr 32 0 0 1), (3, .share, .sc (.int .i64 i.1.2)), (4, .share, .sc (.int .i64 (i.1.1 : Int)))]) (fun i => [(32, .box [.sc (.int .i64 w.Settings.TimeStep), .sc (.int .i64 w.Settings.Gravity.X), .sc (.int .i64 w.Settings.Gravity.Y), .sc (.int .i64 w.Settings.Iterations), .sc (.int .i64 w.Settings.SleepSteps), encD 20 Body.enc default w.Bodies, encD 24 Joint.enc default w.Joints, encD 7 Contact.enc default w.Contacts, encD 4 PairKey.enc default w.Overlaps, .sc (.int .i64 w.NextID), .sc (.int .i64 w.Frame)])]) (fun i => w.Bodies.length - i.1.1) ⟨(0, 0), by omega, rfl⟩ ?_ ?_
  · refine weakE_ [] [] ?_
    simp only [go_sem, ite_andP, ite_orP, dec_true, dec_false, itr_zero]
    all_goals exact fin_
  · rintro ⟨⟨i1, s1⟩, hi1, hs1⟩
    replace hi1 : i1 ≤ w.Bodies.length := hi1
    replace hs1 : itrE (d_r25_validBodies_L1 w) i1 0 = .inl s1 := hs1
    simp only [c_r25_validBodiesb0, go_sem, ite_andP, ite_orP, dec_true, dec_false]
    (repeat (with_reducible refine And.intro ?_ ?_; focus exact ob_))
    by_cases h1 : (i1 : Int) < (w.Bodies.length : Int)
    · first | rw [if_pos h1] | rw [if_pos (by simp_all)] | rw [if_pos (by omega)]
      have hlt1 : i1 < w.Bodies.length := by first | omega | (simp only [IntKind.wrap_i64] at h1; omega)
      (repeat (with_reducible refine And.intro ?_ ?_; focus exact ob_))
      refine CallGi_flat (s_r23_Validate (w.Bodies.getD i1 default) (by (first | exact hw.2.2.2.2.1 _ (mem_getD _ (by omega)) | exact hw.1 | assumption | omega | (simp_all; done) | (simp_all; omega)))) rfl ?_
      generalize hv1 : (d_r23_Validate (w.Bodies.getD i1 default)) = v1
      simp only [go_sem, ite_andP, ite_orP, dec_true, dec_false]
      (repeat (with_reducible refine And.intro ?_ ?_; focus exact ob_))
      by_cases h2 : (((v1 != 0) || (decide (w.NextID ≤ (w.Bodies.getD i1 default).ID))) || ((decide (0 < (i1 : Int))) && (decide ((w.Bodies.getD i1 default).ID ≤ s1)))) = true
      · first | rw [if_pos h2] | rw [if_pos (by simp_all)] | rw [if_pos (by omega)]
        (repeat (with_reducible refine And.intro ?_ ?_; focus exact ob_))
        have e1 : itrE (d_r25_validBodies_L1 w) (i1 + 1) 0 = .inr false := itrE_inl hs1 (by first | with_reducible rfl | (unfold d_r25_validBodies_L1; exact hd_))
        replace e1 := itrE_stop e1 (show i1 + 1 ≤ w.Bodies.length by omega)
        have hd : d_r25_validBodies w = false := by first | with_reducible rfl | (unfold d_r25_validBodies; exact hd_)
        try rw [hd]
        try simp only [go_sem, ite_andP, ite_orP, dec_true, dec_false]
        all_goals exact fin_
      · first | rw [if_neg h2] | rw [if_neg (by simp_all)] | rw [if_neg (by omega)]
        (repeat (with_reducible refine And.intro ?_ ?_; focus exact ob_))
        have hn : itrE (d_r25_validBodies_L1 w) (i1 + 1) 0 = .inl (w.Bodies.getD i1 default).ID := itrE_inl hs1 (by first | with_reducible rfl | (unfold d_r25_validBodies_L1; exact hd_))
        refine loop_next ⟨(i1 + 1, (w.Bodies.getD i1 default).ID), by omega, hn⟩ (by show w.Bodies.length - (i1 + 1) < w.Bodies.length - i1; omega) (weakE_ [] [] ?_)
        simp only [go_sem, ite_andP, ite_orP, dec_true, dec_false]
        all_goals exact fin_
    · first | rw [if_neg h1] | rw [if_neg (by simp_all)] | rw [if_neg (by omega)]
      (repeat (with_reducible refine And.intro ?_ ?_; focus exact ob_))
      have hge : i1 = w.Bodies.length := by first | omega | (simp only [IntKind.wrap_i64] at h1; omega)
      subst hge
      have hd : d_r25_validBodies w = true := by first | with_reducible rfl | (unfold d_r25_validBodies; exact hd_)
      try rw [hd]
      try simp only [go_sem, ite_andP, ite_orP, dec_true, dec_false]
      all_goals exact fin_

def d_world_validJoints_L1 (w : Api.World) (i1 : Nat) (s1 : Int) : (Int) ⊕ (Bool) := let v1 := (d_joint_Validate (w.Joints.getD i1 default)); let v2 := (d_world_bodiesExist w (w.Joints.getD i1 default)); let v3 := (findB w (w.Joints.getD i1 default).ID); if (((((v1 != 0) || (decide (w.NextID ≤ (w.Joints.getD i1 default).ID))) || (decide ((w.Joints.getD i1 default).ID ≤ s1))) || (!v2)) || (decide (0 ≤ v3))) = true then (.inr false) else (.inl (w.Joints.getD i1 default).ID)
def d_world_validJoints (w : Api.World) : Bool := (match itrE (d_world_validJoints_L1 w) w.Joints.length 0 with | .inr r => r | .inl s1 => true)
set_option maxHeartbeats 200000 in
theorem s_world_validJoints (w : Api.World) (hw : Wsm w) : CallsA Tryz.prog F_world_validJoints [.agg w.enc] [] (.sc (.bool (d_world_validJoints w))) [] := by
  have hw2 := hw.2.1; have hw1 := hw.1
  refine callsI_of (rs := [_]) hm Tryz.func74 (by kernel_rfl) (by kernel_rfl) is_world_validJoints (by kernel_rfl : tmpsOf Tryz.f74.results.toList = some [2]) (by decide) (by kernel_rfl) ?_
  simp only [c_world_validJoints, go_sem, ite_andP, ite_orP, dec_true, dec_false]
  (repeat (with_reducible refine And.intro ?_ ?_; focus exact ob_))
  refine Wpi_loop hm (ι := {p : Nat × Int // p.1 ≤ w.Joints.length ∧ itrE (d_world_validJoints_L1 w) p.1 0 = .inl p.2}) (fun i => [(1, .share, .ptr 32 0 0 1), (3, .share, .sc (.int .i64 i.1.2)), (7, .share, encD 24 Joint.enc default w.Joints), (8, .share, .sc (.int .i64 (w.Joints.length : Int))), (9, .share, .sc (.int .i64 (i.1.1 : Int)))]) (fun i => [(32, .box [.sc (.int .i64 w.Settings.TimeStep), .sc (.int .i64 w.Settings.Gravity.X), .sc (.int .i64 w.Settings.Gravity.Y), .sc (.int .i64 w.Settings.Iterations), .sc (.int .i64 w.Settings.SleepSteps), encD 20 Body.enc default w.Bodies, encD 24 Joint.enc default w.Joints, encD 7 Contact.enc default w.Contacts, encD 4 PairKey.enc default w.Overlaps, .sc (.int .i64 w.NextID), .sc (.int .i64 w.Frame)])]) (fun i => w.Joints.length - i.1.1) ⟨(0, 0), by omega, rfl⟩ ?_ ?_
  · refine weakE_ [] [] ?_
    simp only [go_sem, ite_andP, ite_orP, dec_true, dec_false, itr_zero]
    all_goals exact fin_
  · rintro ⟨⟨i1, s1⟩, hi1, hs1⟩
    replace hi1 : i1 ≤ w.Joints.length := hi1
    replace hs1 : itrE (d_world_validJoints_L1 w) i1 0 = .inl s1 := hs1
    simp only [c_world_validJointsb0, go_sem, ite_andP, ite_orP, dec_true, dec_false]
    (repeat (with_reducible refine And.intro ?_ ?_; focus exact ob_))
    by_cases h1 : (i1 : Int) < (w.Joints.length : Int)
    · first | rw [if_pos h1] | rw [if_pos (by simp_all)] | rw [if_pos (by omega)]
      have hlt1 : i1 < w.Joints.length := by first | omega | (simp only [IntKind.wrap_i64] at h1; omega)
      (repeat (with_reducible refine And.intro ?_ ?_; focus exact ob_))
      refine CallGi_flat (s_joint_Validate (w.Joints.getD i1 default) ) rfl ?_
      generalize hv1 : (d_joint_Validate (w.Joints.getD i1 default)) = v1
      simp only [go_sem, ite_andP, ite_orP, dec_true, dec_false]
      (repeat (with_reducible refine And.intro ?_ ?_; focus exact ob_))
      refine CallGi_flat (s_world_bodiesExist w (w.Joints.getD i1 default) (by (first | exact hw.1 | assumption | omega | (simp_all; done) | (simp_all; omega)))) rfl ?_
      generalize hv2 : (d_world_bodiesExist w (w.Joints.getD i1 default)) = v2
      simp only [go_sem, ite_andP, ite_orP, dec_true, dec_false]
      (repeat (with_reducible refine And.intro ?_ ?_; focus exact ob_))
      have p2 := findB_lt w (w.Joints.getD i1 default).ID
      refine CallGi_flat (s_world_FindBody w (w.Joints.getD i1 default).ID (by (first | exact hw.1 | assumption | omega | (simp_all; done)))) rfl ?_
      generalize hv3 : (findB w (w.Joints.getD i1 default).ID) = v3 at *
      simp only [go_sem, ite_andP, ite_orP, dec_true, dec_false]
      (repeat (with_reducible refine And.intro ?_ ?_; focus exact ob_))
      by_cases h3 : (((((v1 != 0) || (decide (w.NextID ≤ (w.Joints.getD i1 default).ID))) || (decide ((w.Joints.getD i1 default).ID ≤ s1))) || (!v2)) || (decide (0 ≤ v3))) = true
      · first | rw [if_pos h3] | rw [if_pos (by simp_all)] | rw [if_pos (by omega)]
        (repeat (with_reducible refine And.intro ?_ ?_; focus exact ob_))
        have e1 : itrE (d_world_validJoints_L1 w) (i1 + 1) 0 = .inr false := itrE_inl hs1 (by first | with_reducible rfl | (unfold d_world_validJoints_L1; exact hd_))
        replace e1 := itrE_stop e1 (show i1 + 1 ≤ w.Joints.length by omega)
        have hd : d_world_validJoints w = false := by first | with_reducible rfl | (unfold d_world_validJoints; exact hd_)
        try rw [hd]
        try simp only [go_sem, ite_andP, ite_orP, dec_true, dec_false]
        all_goals exact fin_
      · first | rw [if_neg h3] | rw [if_neg (by simp_all)] | rw [if_neg (by omega)]
        (repeat (with_reducible refine And.intro ?_ ?_; focus exact ob_))
        have hn : itrE (d_world_validJoints_L1 w) (i1 + 1) 0 = .inl (w.Joints.getD i1 default).ID := itrE_inl hs1 (by first | with_reducible rfl | (unfold d_world_validJoints_L1; exact hd_))
        refine loop_next ⟨(i1 + 1, (w.Joints.getD i1 default).ID), by omega, hn⟩ (by show w.Joints.length - (i1 + 1) < w.Joints.length - i1; omega) (weakE_ [] [] ?_)
        simp only [go_sem, ite_andP, ite_orP, dec_true, dec_false]
        all_goals exact fin_
    · first | rw [if_neg h1] | rw [if_neg (by simp_all)] | rw [if_neg (by omega)]
      (repeat (with_reducible refine And.intro ?_ ?_; focus exact ob_))
      have hge : i1 = w.Joints.length := by first | omega | (simp only [IntKind.wrap_i64] at h1; omega)
      subst hge
      have hd : d_world_validJoints w = true := by first | with_reducible rfl | (unfold d_world_validJoints; exact hd_)
      try rw [hd]
      try simp only [go_sem, ite_andP, ite_orP, dec_true, dec_false]
      all_goals exact fin_

def d_r25_validJoints_L1 (w : Api.World) (i1 : Nat) (s1 : Int) : (Int) ⊕ (Bool) := let v1 := (d_r24_Validate (w.Joints.getD i1 default)); let v2 := (d_r25_connected w (w.Joints.getD i1 default)); let v3 := (findB w (w.Joints.getD i1 default).ID); if (((((v1 != 0) || (decide (w.NextID ≤ (w.Joints.getD i1 default).ID))) || ((decide (0 < (i1 : Int))) && (decide ((w.Joints.getD i1 default).ID ≤ s1)))) || (!v2)) || (decide (0 ≤ v3))) = true then (.inr false) else (.inl (w.Joints.getD i1 default).ID)
def d_r25_validJoints (w : Api.World) : Bool := (match itrE (d_r25_validJoints_L1 w) w.Joints.length 0 with | .inr r => r | .inl s1 => true)
set_option maxHeartbeats 200000 in
theorem s_r25_validJoints (w : Api.World) (hw : Wsm w) : CallsA Tryz.prog F_r25_validJoints [.agg w.enc] [] (.sc (.bool (d_r25_validJoints w))) [] := by
  have hw2 := hw.2.1; have hw1 := hw.1
  refine callsI_of (rs := [_]) hm Tryz.func170 (by kernel_rfl) (by kernel_rfl) is_r25_validJoints (by kernel_rfl : tmpsOf Tryz.f170.results.toList = some [2]) (by decide) (by kernel_rfl) ?_
  simp only [c_r25_validJoints, go_sem, ite_andP, ite_orP, dec_true, dec_false]
  (repeat (with_reducible refine And.intro ?_ ?_; focus exact ob_))
  refine Wpi_loop hm (ι := {p : Nat × Int // p.1 ≤ w.Joints.length ∧ itrE (d_r25_validJoints_L1 w) p.1 0 = .inl p.2}) (fun i => [(1, .share, .ptr 32 0 0 1), (3, .share, .sc (.int .i64 i.1.2)), (4, .share, .sc (.int .i64 (i.1.1 : Int)))]) (fun i => [(32, .box [.sc (.int .i64 w.Settings.TimeStep), .sc (.int .i64 w.Settings.Gravity.X), .sc (.int .i64 w.Settings.Gravity.Y), .sc (.int .i64 w.Settings.Iterations), .sc (.int .i64 w.Settings.SleepSteps), encD 20 Body.enc default w.Bodies, encD 24 Joint.enc default w.Joints, encD 7 Contact.enc default w.Contacts, encD 4 PairKey.enc default w.Overlaps, .sc (.int .i64 w.NextID), .sc (.int .i64 w.Frame)])]) (fun i => w.Joints.length - i.1.1) ⟨(0, 0), by omega, rfl⟩ ?_ ?_
  · refine weakE_ [] [] ?_
    simp only [go_sem, ite_andP, ite_orP, dec_true, dec_false, itr_zero]
    all_goals exact fin_
  · rintro ⟨⟨i1, s1⟩, hi1, hs1⟩
    replace hi1 : i1 ≤ w.Joints.length := hi1
    replace hs1 : itrE (d_r25_validJoints_L1 w) i1 0 = .inl s1 := hs1
    simp only [c_r25_validJointsb0, go_sem, ite_andP, ite_orP, dec_true, dec_false]
    (repeat (with_reducible refine And.intro ?_ ?_; focus exact ob_))
    by_cases h1 : (i1 : Int) < (w.Joints.length : Int)
    · first | rw [if_pos h1] | rw [if_pos (by simp_all)] | rw [if_pos (by omega)]
      have hlt1 : i1 < w.Joints.length := by first | omega | (simp only [IntKind.wrap_i64] at h1; omega)
      (repeat (with_reducible refine And.intro ?_ ?_; focus exact ob_))
      refine CallGi_flat (s_r24_Validate (w.Joints.getD i1 default) ) rfl ?_
      generalize hv1 : (d_r24_Validate (w.Joints.getD i1 default)) = v1
      simp only [go_sem, ite_andP, ite_orP, dec_true, dec_false]
      (repeat (with_reducible refine And.intro ?_ ?_; focus exact ob_))
      refine CallGi_flat (s_r25_connected w (w.Joints.getD i1 default) (by (first | exact hw.1 | assumption | omega | (simp_all; done) | (simp_all; omega)))) rfl ?_
      generalize hv2 : (d_r25_connected w (w.Joints.getD i1 default)) = v2
      simp only [go_sem, ite_andP, ite_orP, dec_true, dec_false]
      (repeat (with_reducible refine And.intro ?_ ?_; focus exact ob_))
      have p2 := findB_lt w (w.Joints.getD i1 default).ID
      refine CallGi_flat (s_r25_FindBody w (w.Joints.getD i1 default).ID (by (first | exact hw.1 | assumption | omega | (simp_all; done)))) rfl ?_
      generalize hv3 : (findB w (w.Joints.getD i1 default).ID) = v3 at *
      simp only [go_sem, ite_andP, ite_orP, dec_true, dec_false]
      (repeat (with_reducible refine And.intro ?_ ?_; focus exact ob_))
      by_cases h3 : (((((v1 != 0) || (decide (w.NextID ≤ (w.Joints.getD i1 default).ID))) || ((decide (0 < (i1 : Int))) && (decide ((w.Joints.getD i1 default).ID ≤ s1)))) || (!v2)) || (decide (0 ≤ v3))) = true
      · first | rw [if_pos h3] | rw [if_pos (by simp_all)] | rw [if_pos (by omega)]
        (repeat (with_reducible refine And.intro ?_ ?_; focus exact ob_))
        have e1 : itrE (d_r25_validJoints_L1 w) (i1 + 1) 0 = .inr false := itrE_inl hs1 (by first | with_reducible rfl | (unfold d_r25_validJoints_L1; exact hd_))
        replace e1 := itrE_stop e1 (show i1 + 1 ≤ w.Joints.length by omega)
        have hd : d_r25_validJoints w = false := by first | with_reducible rfl | (unfold d_r25_validJoints; exact hd_)
        try rw [hd]
        try simp only [go_sem, ite_andP, ite_orP, dec_true, dec_false]
        all_goals exact fin_
      · first | rw [if_neg h3] | rw [if_neg (by simp_all)] | rw [if_neg (by omega)]
        (repeat (with_reducible refine And.intro ?_ ?_; focus exact ob_))
        have hn : itrE (d_r25_validJoints_L1 w) (i1 + 1) 0 = .inl (w.Joints.getD i1 default).ID := itrE_inl hs1 (by first | with_reducible rfl | (unfold d_r25_validJoints_L1; exact hd_))
        refine loop_next ⟨(i1 + 1, (w.Joints.getD i1 default).ID), by omega, hn⟩ (by show w.Joints.length - (i1 + 1) < w.Joints.length - i1; omega) (weakE_ [] [] ?_)
        simp only [go_sem, ite_andP, ite_orP, dec_true, dec_false]
        all_goals exact fin_
    · first | rw [if_neg h1] | rw [if_neg (by simp_all)] | rw [if_neg (by omega)]
      (repeat (with_reducible refine And.intro ?_ ?_; focus exact ob_))
      have hge : i1 = w.Joints.length := by first | omega | (simp only [IntKind.wrap_i64] at h1; omega)
      subst hge
      have hd : d_r25_validJoints w = true := by first | with_reducible rfl | (unfold d_r25_validJoints; exact hd_)
      try rw [hd]
      try simp only [go_sem, ite_andP, ite_orP, dec_true, dec_false]
      all_goals exact fin_


end Go.Abs
