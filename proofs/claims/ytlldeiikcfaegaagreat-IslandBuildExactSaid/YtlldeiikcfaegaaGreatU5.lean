/- A part of the walk: contracts of functions that the statement reaches. -/
import Derived.Test.YtlldeiikcfaegaaGreatAbsC
import Derived.Test.YtlldeiikcfaegaaGreatU4
import Derived.Test.YtlldeiikcfaegaaGreatI12
set_option linter.unusedSimpArgs false
set_option linter.unusedVariables false
set_option linter.unnecessarySimpa false
set_option maxRecDepth 100000
set_option maxHeartbeats 2000000
set_option linter.unusedSimpArgs false
set_option linter.unusedVariables false
namespace Go.Abs
open Go.Proofs
open Api
def d_r36_isDynamic (w : Api.World) (i : Int) : Bool := (((decide (0 ≤ i)) && (decide (i < (w.Bodies.length : Int)))) && ((w.Bodies.getD i.toNat default).Kind == 3))
set_option maxHeartbeats 200000 in
theorem s_r36_isDynamic (w : Api.World) (i : Int) (hw : w.Bodies.length ≤ 1048576) : CallsA Tryz.prog F_r36_isDynamic [.agg w.enc, .sc (.int .i64 i)] [] (.sc (.bool (d_r36_isDynamic w i))) [] := by
  refine callsI_of (rs := [_]) hm Tryz.func92 (by kernel_rfl) (by kernel_rfl) is_r36_isDynamic (by kernel_rfl : tmpsOf Tryz.f92.results.toList = some [4]) (by decide) (by kernel_rfl) ?_
  simp only [c_r36_isDynamic, go_sem, ite_andP, ite_orP, dec_true, dec_false]
  (repeat (with_reducible refine And.intro ?_ ?_; focus exact ob_))
  have hd : d_r36_isDynamic w i = (((decide (0 ≤ i)) && (decide (i < (w.Bodies.length : Int)))) && ((w.Bodies.getD i.toNat default).Kind == 3)) := by first | with_reducible rfl | (unfold d_r36_isDynamic; exact hd_)
  try rw [hd]
  try simp only [go_sem, ite_andP, ite_orP, dec_true, dec_false]
  all_goals exact fin_

def d_r36_connects (w : Api.World) (i : Int) (k : Int) (a : Int) (b : Int) : Bool := ((((w.Bodies.getD i.toNat default).ID == a) && ((w.Bodies.getD k.toNat default).ID == b)) || (((w.Bodies.getD i.toNat default).ID == b) && ((w.Bodies.getD k.toNat default).ID == a)))
set_option maxHeartbeats 200000 in
theorem s_r36_connects (w : Api.World) (i : Int) (k : Int) (a : Int) (b : Int) (hi : 0 ≤ i ∧ i < (w.Bodies.length : Int)) (hk : 0 ≤ k ∧ k < (w.Bodies.length : Int)) : CallsA Tryz.prog F_r36_connects [.agg w.enc, .sc (.int .i64 i), .sc (.int .i64 k), .sc (.int .i64 a), .sc (.int .i64 b)] [] (.sc (.bool (d_r36_connects w i k a b))) [] := by
  refine callsI_of (rs := [_]) hm Tryz.func238 (by kernel_rfl) (by kernel_rfl) is_r36_connects (by kernel_rfl : tmpsOf Tryz.f238.results.toList = some [10]) (by decide) (by kernel_rfl) ?_
  simp only [c_r36_connects, go_sem, ite_andP, ite_orP, dec_true, dec_false]
  (repeat (with_reducible refine And.intro ?_ ?_; focus exact ob_))
  have hd : d_r36_connects w i k a b = ((((w.Bodies.getD i.toNat default).ID == a) && ((w.Bodies.getD k.toNat default).ID == b)) || (((w.Bodies.getD i.toNat default).ID == b) && ((w.Bodies.getD k.toNat default).ID == a))) := by first | with_reducible rfl | (unfold d_r36_connects; exact hd_)
  try rw [hd]
  try simp only [go_sem, ite_andP, ite_orP, dec_true, dec_false]
  all_goals exact fin_

theorem isDyn_in {w : Api.World} {i : Int} (h : d_r36_isDynamic w i = true) : 0 ≤ i ∧ i < (w.Bodies.length : Int) := by
  unfold d_r36_isDynamic at h
  simp only [Bool.and_eq_true, decide_eq_true_eq] at h
  exact h.1
def d_r36_adjacent_L2 (w : Api.World) (x : Int) (y : Int) (i2 : Nat) (s2 : Unit) : (Unit) ⊕ (Bool) := let v4 := (d_r36_connects w x y (w.Joints.getD i2 default).BodyA (w.Joints.getD i2 default).BodyB); if v4 = true then (.inr true) else (.inl ())
def d_r36_adjacent_L1 (w : Api.World) (x : Int) (y : Int) (i1 : Nat) (s1 : Unit) : (Unit) ⊕ (Bool) := let v3 := (d_r36_connects w x y (w.Contacts.getD i1 default).Key.BodyA (w.Contacts.getD i1 default).Key.BodyB); if v3 = true then (.inr true) else (.inl ())
def d_r36_adjacent (w : Api.World) (x : Int) (y : Int) : Bool := let v1 := (d_r36_isDynamic w x); let v2 := (d_r36_isDynamic w y); if ((!v1) || (!v2)) = true then (false) else ((match itrE (d_r36_adjacent_L1 w x y) w.Contacts.length () with | .inr r => r | .inl s1 => (match itrE (d_r36_adjacent_L2 w x y) w.Joints.length () with | .inr r => r | .inl s2 => false)))
set_option maxHeartbeats 200000 in
theorem s_r36_adjacent (w : Api.World) (x : Int) (y : Int) (hw : Wsm w) : CallsA Tryz.prog F_r36_adjacent [.agg w.enc, .sc (.int .i64 x), .sc (.int .i64 y)] [] (.sc (.bool (d_r36_adjacent w x y))) [] := by
  have hw1 := hw.1; have hw2 := hw.2.1; have hw3 := hw.2.2.1
  refine callsI_of (rs := [_]) hm Tryz.func178 (by kernel_rfl) (by kernel_rfl) is_r36_adjacent (by kernel_rfl : tmpsOf Tryz.f178.results.toList = some [6]) (by decide) (by kernel_rfl) ?_
  simp only [c_r36_adjacent, go_sem, ite_andP, ite_orP, dec_true, dec_false]
  (repeat (with_reducible refine And.intro ?_ ?_; focus exact ob_))
  refine CallGi_flat (s_r36_isDynamic w x (by (first | exact hw.1 | exact isDyn_in (by simp_all) | assumption | omega | (simp_all; done) | (simp_all; omega)))) rfl ?_
  generalize hv1 : (d_r36_isDynamic w x) = v1
  simp only [go_sem, ite_andP, ite_orP, dec_true, dec_false]
  (repeat (with_reducible refine And.intro ?_ ?_; focus exact ob_))
  refine CallGi_flat (s_r36_isDynamic w y (by (first | exact hw.1 | exact isDyn_in (by simp_all) | assumption | omega | (simp_all; done) | (simp_all; omega)))) rfl ?_
  generalize hv2 : (d_r36_isDynamic w y) = v2
  simp only [go_sem, ite_andP, ite_orP, dec_true, dec_false]
  (repeat (with_reducible refine And.intro ?_ ?_; focus exact ob_))
  by_cases h1 : ((!v1) || (!v2)) = true
  · first | rw [if_pos h1] | rw [if_pos (by simp_all)] | rw [if_pos (by omega)]
    (repeat (with_reducible refine And.intro ?_ ?_; focus exact ob_))
    have hd : d_r36_adjacent w x y = false := by first | with_reducible rfl | (unfold d_r36_adjacent; exact hd_)
    try rw [hd]
    try simp only [go_sem, ite_andP, ite_orP, dec_true, dec_false]
    all_goals exact fin_
  · first | rw [if_neg h1] | rw [if_neg (by simp_all)] | rw [if_neg (by omega)]
    (repeat (with_reducible refine And.intro ?_ ?_; focus exact ob_))
    refine Wpi_loop hm (ι := {p : Nat × Unit // p.1 ≤ w.Contacts.length ∧ itrE (d_r36_adjacent_L1 w x y) p.1 () = .inl p.2}) (fun i => [(1, .share, .sc (.int .i64 x)), (2, .share, .sc (.int .i64 y)), (3, .share, .ptr 64 0 0 1), (7, .share, .sc (.int .i64 (i.1.1 : Int)))]) (fun i => [(64, .box [.sc (.int .i64 w.Settings.TimeStep), .sc (.int .i64 w.Settings.Gravity.X), .sc (.int .i64 w.Settings.Gravity.Y), .sc (.int .i64 w.Settings.Iterations), .sc (.int .i64 w.Settings.SleepSteps), encD 20 Body.enc default w.Bodies, encD 24 Joint.enc default w.Joints, encD 7 Contact.enc default w.Contacts, encD 4 PairKey.enc default w.Overlaps, .sc (.int .i64 w.NextID), .sc (.int .i64 w.Frame)])]) (fun i => w.Contacts.length - i.1.1) ⟨(0, ()), by omega, rfl⟩ ?_ ?_
    · refine weakE_ [] [] ?_
      simp only [go_sem, ite_andP, ite_orP, dec_true, dec_false, itr_zero]
      all_goals exact fin_
    · rintro ⟨⟨i1, s1⟩, hi1, hs1⟩
      replace hi1 : i1 ≤ w.Contacts.length := hi1
      replace hs1 : itrE (d_r36_adjacent_L1 w x y) i1 () = .inl s1 := hs1
      simp only [c_r36_adjacentb0, go_sem, ite_andP, ite_orP, dec_true, dec_false]
      (repeat (with_reducible refine And.intro ?_ ?_; focus exact ob_))
      by_cases h2 : (i1 : Int) < (w.Contacts.length : Int)
      · first | rw [if_pos h2] | rw [if_pos (by simp_all)] | rw [if_pos (by omega)]
        have hlt1 : i1 < w.Contacts.length := by first | omega | (simp only [IntKind.wrap_i64] at h2; omega)
        (repeat (with_reducible refine And.intro ?_ ?_; focus exact ob_))
        refine CallGi_flat (s_r36_connects w x y (w.Contacts.getD i1 default).Key.BodyA (w.Contacts.getD i1 default).Key.BodyB (by (first | exact hw.1 | exact isDyn_in (by simp_all) | assumption | omega | (simp_all; done) | (simp_all; omega))) (by (first | exact hw.1 | exact isDyn_in (by simp_all) | assumption | omega | (simp_all; done) | (simp_all; omega)))) rfl ?_
        generalize hv3 : (d_r36_connects w x y (w.Contacts.getD i1 default).Key.BodyA (w.Contacts.getD i1 default).Key.BodyB) = v3
        simp only [go_sem, ite_andP, ite_orP, dec_true, dec_false]
        (repeat (with_reducible refine And.intro ?_ ?_; focus exact ob_))
        by_cases h3 : v3 = true
        · first | rw [if_pos h3] | rw [if_pos (by simp_all)] | rw [if_pos (by omega)]
          (repeat (with_reducible refine And.intro ?_ ?_; focus exact ob_))
          have e1 : itrE (d_r36_adjacent_L1 w x y) (i1 + 1) () = .inr true := itrE_inl hs1 (by first | with_reducible rfl | (unfold d_r36_adjacent_L1; exact hd_))
          replace e1 := itrE_stop e1 (show i1 + 1 ≤ w.Contacts.length by omega)
          have hd : d_r36_adjacent w x y = true := by first | with_reducible rfl | (unfold d_r36_adjacent; exact hd_)
          try rw [hd]
          try simp only [go_sem, ite_andP, ite_orP, dec_true, dec_false]
          all_goals exact fin_
        · first | rw [if_neg h3] | rw [if_neg (by simp_all)] | rw [if_neg (by omega)]
          (repeat (with_reducible refine And.intro ?_ ?_; focus exact ob_))
          have hn : itrE (d_r36_adjacent_L1 w x y) (i1 + 1) () = .inl () := itrE_inl hs1 (by first | with_reducible rfl | (unfold d_r36_adjacent_L1; exact hd_))
          refine loop_next ⟨(i1 + 1, ()), by omega, hn⟩ (by show w.Contacts.length - (i1 + 1) < w.Contacts.length - i1; omega) (weakE_ [] [] ?_)
          simp only [go_sem, ite_andP, ite_orP, dec_true, dec_false]
          all_goals exact fin_
      · first | rw [if_neg h2] | rw [if_neg (by simp_all)] | rw [if_neg (by omega)]
        (repeat (with_reducible refine And.intro ?_ ?_; focus exact ob_))
        have hge : i1 = w.Contacts.length := by first | omega | (simp only [IntKind.wrap_i64] at h2; omega)
        subst hge
        refine Wpi_loop hm (ι := {p : Nat × Unit // p.1 ≤ w.Joints.length ∧ itrE (d_r36_adjacent_L2 w x y) p.1 () = .inl p.2}) (fun i => [(1, .share, .sc (.int .i64 x)), (2, .share, .sc (.int .i64 y)), (3, .share, .ptr 64 0 0 1), (8, .share, .sc (.int .i64 (i.1.1 : Int)))]) (fun i => [(64, .box [.sc (.int .i64 w.Settings.TimeStep), .sc (.int .i64 w.Settings.Gravity.X), .sc (.int .i64 w.Settings.Gravity.Y), .sc (.int .i64 w.Settings.Iterations), .sc (.int .i64 w.Settings.SleepSteps), encD 20 Body.enc default w.Bodies, encD 24 Joint.enc default w.Joints, encD 7 Contact.enc default w.Contacts, encD 4 PairKey.enc default w.Overlaps, .sc (.int .i64 w.NextID), .sc (.int .i64 w.Frame)])]) (fun i => w.Joints.length - i.1.1) ⟨(0, ()), by omega, rfl⟩ ?_ ?_
        · refine weakE_ [] [] ?_
          simp only [go_sem, ite_andP, ite_orP, dec_true, dec_false, itr_zero]
          all_goals exact fin_
        · rintro ⟨⟨i2, s2⟩, hi2, hs2⟩
          replace hi2 : i2 ≤ w.Joints.length := hi2
          replace hs2 : itrE (d_r36_adjacent_L2 w x y) i2 () = .inl s2 := hs2
          simp only [c_r36_adjacentb1, go_sem, ite_andP, ite_orP, dec_true, dec_false]
          (repeat (with_reducible refine And.intro ?_ ?_; focus exact ob_))
          by_cases h4 : (i2 : Int) < (w.Joints.length : Int)
          · first | rw [if_pos h4] | rw [if_pos (by simp_all)] | rw [if_pos (by omega)]
            have hlt2 : i2 < w.Joints.length := by first | omega | (simp only [IntKind.wrap_i64] at h4; omega)
            (repeat (with_reducible refine And.intro ?_ ?_; focus exact ob_))
            refine CallGi_flat (s_r36_connects w x y (w.Joints.getD i2 default).BodyA (w.Joints.getD i2 default).BodyB (by (first | exact hw.1 | exact isDyn_in (by simp_all) | assumption | omega | (simp_all; done) | (simp_all; omega))) (by (first | exact hw.1 | exact isDyn_in (by simp_all) | assumption | omega | (simp_all; done) | (simp_all; omega)))) rfl ?_
            generalize hv4 : (d_r36_connects w x y (w.Joints.getD i2 default).BodyA (w.Joints.getD i2 default).BodyB) = v4
            simp only [go_sem, ite_andP, ite_orP, dec_true, dec_false]
            (repeat (with_reducible refine And.intro ?_ ?_; focus exact ob_))
            by_cases h5 : v4 = true
            · first | rw [if_pos h5] | rw [if_pos (by simp_all)] | rw [if_pos (by omega)]
              (repeat (with_reducible refine And.intro ?_ ?_; focus exact ob_))
              have e2 : itrE (d_r36_adjacent_L2 w x y) (i2 + 1) () = .inr true := itrE_inl hs2 (by first | with_reducible rfl | (unfold d_r36_adjacent_L2; exact hd_))
              replace e2 := itrE_stop e2 (show i2 + 1 ≤ w.Joints.length by omega)
              have hd : d_r36_adjacent w x y = true := by first | with_reducible rfl | (unfold d_r36_adjacent; exact hd_)
              try rw [hd]
              try simp only [go_sem, ite_andP, ite_orP, dec_true, dec_false]
              all_goals exact fin_
            · first | rw [if_neg h5] | rw [if_neg (by simp_all)] | rw [if_neg (by omega)]
              (repeat (with_reducible refine And.intro ?_ ?_; focus exact ob_))
              have hn : itrE (d_r36_adjacent_L2 w x y) (i2 + 1) () = .inl () := itrE_inl hs2 (by first | with_reducible rfl | (unfold d_r36_adjacent_L2; exact hd_))
              refine loop_next ⟨(i2 + 1, ()), by omega, hn⟩ (by show w.Joints.length - (i2 + 1) < w.Joints.length - i2; omega) (weakE_ [] [] ?_)
              simp only [go_sem, ite_andP, ite_orP, dec_true, dec_false]
              all_goals exact fin_
          · first | rw [if_neg h4] | rw [if_neg (by simp_all)] | rw [if_neg (by omega)]
            (repeat (with_reducible refine And.intro ?_ ?_; focus exact ob_))
            have hge : i2 = w.Joints.length := by first | omega | (simp only [IntKind.wrap_i64] at h4; omega)
            subst hge
            have hd : d_r36_adjacent w x y = false := by first | with_reducible rfl | (unfold d_r36_adjacent; exact hd_)
            try rw [hd]
            try simp only [go_sem, ite_andP, ite_orP, dec_true, dec_false]
            all_goals exact fin_


end Go.Abs
