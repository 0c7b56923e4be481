/- A part of the walk: contracts of functions that the statement reaches. -/
import Derived.Test.YtlldeiikcfaegaaGreatAbsC
import Derived.Test.YtlldeiikcfaegaaGreatT6
set_option linter.unusedSimpArgs false
set_option linter.unusedVariables false
set_option linter.unnecessarySimpa false
set_option maxRecDepth 100000
set_option maxHeartbeats 2000000
set_option linter.unusedSimpArgs false
set_option linter.unusedVariables false
namespace Go.Abs
open Go.Proofs
open Api
def d_world_ValidateSettings (s : Settings) : Int := if ((((!(inR s.TimeStep 64 8192)) || (!((inR s.Gravity.X (-16777216) 16777216) && (inR s.Gravity.Y (-16777216) 16777216)))) || (!(inR s.Iterations 1 32))) || (!(inR s.SleepSteps 0 1048576))) = true then (6) else (0)
set_option maxHeartbeats 200000 in
theorem s_world_ValidateSettings (s : Settings)  : CallsA Tryz.prog F_world_ValidateSettings [.agg s.enc] [] (.sc (.int .i64 (d_world_ValidateSettings s))) [] := by
  refine callsI_of (rs := [_]) hm Tryz.func71 (by kernel_rfl) (by kernel_rfl) is_world_ValidateSettings (by kernel_rfl : tmpsOf Tryz.f71.results.toList = some [2]) (by decide) (by kernel_rfl) ?_
  simp only [c_world_ValidateSettings, go_sem, ite_andP, ite_orP, dec_true, dec_false]
  (repeat (with_reducible refine And.intro ?_ ?_; focus exact ob_))
  refine CallGi_flat (s_world_in s.Gravity.X (-16777216) 16777216 ) rfl ?_
  simp only [go_sem, ite_andP, ite_orP, dec_true, dec_false]
  (repeat (with_reducible refine And.intro ?_ ?_; focus exact ob_))
  refine CallGi_flat (s_world_in s.Gravity.Y (-16777216) 16777216 ) rfl ?_
  simp only [go_sem, ite_andP, ite_orP, dec_true, dec_false]
  (repeat (with_reducible refine And.intro ?_ ?_; focus exact ob_))
  refine CallGi_flat (s_world_in s.TimeStep 64 8192 ) rfl ?_
  simp only [go_sem, ite_andP, ite_orP, dec_true, dec_false]
  (repeat (with_reducible refine And.intro ?_ ?_; focus exact ob_))
  refine CallGi_flat (s_world_in s.Iterations 1 32 ) rfl ?_
  simp only [go_sem, ite_andP, ite_orP, dec_true, dec_false]
  (repeat (with_reducible refine And.intro ?_ ?_; focus exact ob_))
  refine CallGi_flat (s_world_in s.SleepSteps 0 1048576 ) rfl ?_
  simp only [go_sem, ite_andP, ite_orP, dec_true, dec_false]
  (repeat (with_reducible refine And.intro ?_ ?_; focus exact ob_))
  by_cases h1 : ((((!(inR s.TimeStep 64 8192)) || (!((inR s.Gravity.X (-16777216) 16777216) && (inR s.Gravity.Y (-16777216) 16777216)))) || (!(inR s.Iterations 1 32))) || (!(inR s.SleepSteps 0 1048576))) = true
  · first | rw [if_pos h1] | rw [if_pos (by simp_all)] | rw [if_pos (by omega)]
    (repeat (with_reducible refine And.intro ?_ ?_; focus exact ob_))
    have hd : d_world_ValidateSettings s = 6 := by first | with_reducible rfl | (unfold d_world_ValidateSettings; exact hd_)
    try rw [hd]
    try simp only [go_sem, ite_andP, ite_orP, dec_true, dec_false]
    all_goals exact fin_
  · first | rw [if_neg h1] | rw [if_neg (by simp_all)] | rw [if_neg (by omega)]
    (repeat (with_reducible refine And.intro ?_ ?_; focus exact ob_))
    have hd : d_world_ValidateSettings s = 0 := by first | with_reducible rfl | (unfold d_world_ValidateSettings; exact hd_)
    try rw [hd]
    try simp only [go_sem, ite_andP, ite_orP, dec_true, dec_false]
    all_goals exact fin_

def d_r25_ValidateSettings (s : Settings) : Int := if (((((!(inR s.TimeStep 64 8192)) || (!(inR s.Gravity.X (-16777216) 16777216))) || (!(inR s.Gravity.Y (-16777216) 16777216))) || (!(inR s.Iterations 1 32))) || (!(inR s.SleepSteps 0 1048576))) = true then (6) else (0)
set_option maxHeartbeats 200000 in
theorem s_r25_ValidateSettings (s : Settings)  : CallsA Tryz.prog F_r25_ValidateSettings [.agg s.enc] [] (.sc (.int .i64 (d_r25_ValidateSettings s))) [] := by
  refine callsI_of (rs := [_]) hm Tryz.func167 (by kernel_rfl) (by kernel_rfl) is_r25_ValidateSettings (by kernel_rfl : tmpsOf Tryz.f167.results.toList = some [2]) (by decide) (by kernel_rfl) ?_
  simp only [c_r25_ValidateSettings, go_sem, ite_andP, ite_orP, dec_true, dec_false]
  (repeat (with_reducible refine And.intro ?_ ?_; focus exact ob_))
  refine CallGi_flat (s_r25_in s.TimeStep 64 8192 ) rfl ?_
  simp only [go_sem, ite_andP, ite_orP, dec_true, dec_false]
  (repeat (with_reducible refine And.intro ?_ ?_; focus exact ob_))
  refine CallGi_flat (s_r25_in s.Gravity.X (-16777216) 16777216 ) rfl ?_
  simp only [go_sem, ite_andP, ite_orP, dec_true, dec_false]
  (repeat (with_reducible refine And.intro ?_ ?_; focus exact ob_))
  refine CallGi_flat (s_r25_in s.Gravity.Y (-16777216) 16777216 ) rfl ?_
  simp only [go_sem, ite_andP, ite_orP, dec_true, dec_false]
  (repeat (with_reducible refine And.intro ?_ ?_; focus exact ob_))
  refine CallGi_flat (s_r25_in s.Iterations 1 32 ) rfl ?_
  simp only [go_sem, ite_andP, ite_orP, dec_true, dec_false]
  (repeat (with_reducible refine And.intro ?_ ?_; focus exact ob_))
  refine CallGi_flat (s_r25_in s.SleepSteps 0 1048576 ) rfl ?_
  simp only [go_sem, ite_andP, ite_orP, dec_true, dec_false]
  (repeat (with_reducible refine And.intro ?_ ?_; focus exact ob_))
  by_cases h1 : (((((!(inR s.TimeStep 64 8192)) || (!(inR s.Gravity.X (-16777216) 16777216))) || (!(inR s.Gravity.Y (-16777216) 16777216))) || (!(inR s.Iterations 1 32))) || (!(inR s.SleepSteps 0 1048576))) = true
  · first | rw [if_pos h1] | rw [if_pos (by simp_all)] | rw [if_pos (by omega)]
    (repeat (with_reducible refine And.intro ?_ ?_; focus exact ob_))
    have hd : d_r25_ValidateSettings s = 6 := by first | with_reducible rfl | (unfold d_r25_ValidateSettings; exact hd_)
    try rw [hd]
    try simp only [go_sem, ite_andP, ite_orP, dec_true, dec_false]
    all_goals exact fin_
  · first | rw [if_neg h1] | rw [if_neg (by simp_all)] | rw [if_neg (by omega)]
    (repeat (with_reducible refine And.intro ?_ ?_; focus exact ob_))
    have hd : d_r25_ValidateSettings s = 0 := by first | with_reducible rfl | (unfold d_r25_ValidateSettings; exact hd_)
    try rw [hd]
    try simp only [go_sem, ite_andP, ite_orP, dec_true, dec_false]
    all_goals exact fin_

def d_world_Validate (w : Api.World) : Int := let v1 := (d_world_ValidateSettings w.Settings); if (v1 != 0) = true then (17) else (if ((((decide (32 < (w.Bodies.length : Int))) || (decide (32 < (w.Joints.length : Int)))) || (decide (8192 < (w.Contacts.length : Int)))) || (decide (8192 < (w.Overlaps.length : Int)))) = true then (11) else (if ((!(inR w.NextID 1 1099511627776)) || (!(inR w.Frame 0 1099511627776))) = true then (6) else (let v4 := (d_world_validBodies w); if v4 = false then (14) else (let v5 := (d_world_validJoints w); if v5 = false then (15) else (let v6 := (okContacts w); if v6 = false then (16) else (0))))))
set_option maxHeartbeats 200000 in
theorem s_world_Validate (w : Api.World) (hw : Wsm w) : CallsA Tryz.prog F_world_Validate [.agg w.enc] [] (.sc (.int .i64 (d_world_Validate w))) [] := by
  refine callsI_of (rs := [_]) hm Tryz.func26 (by kernel_rfl) (by kernel_rfl) is_world_Validate (by kernel_rfl : tmpsOf Tryz.f26.results.toList = some [2]) (by decide) (by kernel_rfl) ?_
  simp only [c_world_Validate, go_sem, ite_andP, ite_orP, dec_true, dec_false]
  (repeat (with_reducible refine And.intro ?_ ?_; focus exact ob_))
  refine CallGi_flat (s_world_ValidateSettings w.Settings ) rfl ?_
  generalize hv1 : (d_world_ValidateSettings w.Settings) = v1
  simp only [go_sem, ite_andP, ite_orP, dec_true, dec_false]
  (repeat (with_reducible refine And.intro ?_ ?_; focus exact ob_))
  by_cases h1 : (v1 != 0) = true
  · first | rw [if_pos h1] | rw [if_pos (by simp_all)] | rw [if_pos (by omega)]
    (repeat (with_reducible refine And.intro ?_ ?_; focus exact ob_))
    have hd : d_world_Validate w = 17 := by first | with_reducible rfl | (unfold d_world_Validate; exact hd_)
    try rw [hd]
    try simp only [go_sem, ite_andP, ite_orP, dec_true, dec_false]
    all_goals exact fin_
  · first | rw [if_neg h1] | rw [if_neg (by simp_all)] | rw [if_neg (by omega)]
    (repeat (with_reducible refine And.intro ?_ ?_; focus exact ob_))
    by_cases h2 : ((((decide (32 < (w.Bodies.length : Int))) || (decide (32 < (w.Joints.length : Int)))) || (decide (8192 < (w.Contacts.length : Int)))) || (decide (8192 < (w.Overlaps.length : Int)))) = true
    · first | rw [if_pos h2] | rw [if_pos (by simp_all)] | rw [if_pos (by omega)]
      (repeat (with_reducible refine And.intro ?_ ?_; focus exact ob_))
      have hd : d_world_Validate w = 11 := by first | with_reducible rfl | (unfold d_world_Validate; exact hd_)
      try rw [hd]
      try simp only [go_sem, ite_andP, ite_orP, dec_true, dec_false]
      all_goals exact fin_
    · first | rw [if_neg h2] | rw [if_neg (by simp_all)] | rw [if_neg (by omega)]
      (repeat (with_reducible refine And.intro ?_ ?_; focus exact ob_))
      refine CallGi_flat (s_world_in w.NextID 1 1099511627776 ) rfl ?_
      simp only [go_sem, ite_andP, ite_orP, dec_true, dec_false]
      (repeat (with_reducible refine And.intro ?_ ?_; focus exact ob_))
      refine CallGi_flat (s_world_in w.Frame 0 1099511627776 ) rfl ?_
      simp only [go_sem, ite_andP, ite_orP, dec_true, dec_false]
      (repeat (with_reducible refine And.intro ?_ ?_; focus exact ob_))
      by_cases h3 : ((!(inR w.NextID 1 1099511627776)) || (!(inR w.Frame 0 1099511627776))) = true
      · first | rw [if_pos h3] | rw [if_pos (by simp_all)] | rw [if_pos (by omega)]
        (repeat (with_reducible refine And.intro ?_ ?_; focus exact ob_))
        have hd : d_world_Validate w = 6 := by first | with_reducible rfl | (unfold d_world_Validate; exact hd_)
        try rw [hd]
        try simp only [go_sem, ite_andP, ite_orP, dec_true, dec_false]
        all_goals exact fin_
      · first | rw [if_neg h3] | rw [if_neg (by simp_all)] | rw [if_neg (by omega)]
        (repeat (with_reducible refine And.intro ?_ ?_; focus exact ob_))
        refine CallGi_flat (s_world_validBodies w (by (first | exact hw | assumption | omega | (simp_all; done) | (simp_all; omega)))) rfl ?_
        generalize hv4 : (d_world_validBodies w) = v4
        simp only [go_sem, ite_andP, ite_orP, dec_true, dec_false]
        (repeat (with_reducible refine And.intro ?_ ?_; focus exact ob_))
        by_cases h4 : v4 = false
        · first | rw [if_pos h4] | rw [if_pos (by simp_all)] | rw [if_pos (by omega)]
          (repeat (with_reducible refine And.intro ?_ ?_; focus exact ob_))
          have hd : d_world_Validate w = 14 := by first | with_reducible rfl | (unfold d_world_Validate; exact hd_)
          try rw [hd]
          try simp only [go_sem, ite_andP, ite_orP, dec_true, dec_false]
          all_goals exact fin_
        · first | rw [if_neg h4] | rw [if_neg (by simp_all)] | rw [if_neg (by omega)]
          (repeat (with_reducible refine And.intro ?_ ?_; focus exact ob_))
          refine CallGi_flat (s_world_validJoints w (by (first | exact hw | assumption | omega | (simp_all; done) | (simp_all; omega)))) rfl ?_
          generalize hv5 : (d_world_validJoints w) = v5
          simp only [go_sem, ite_andP, ite_orP, dec_true, dec_false]
          (repeat (with_reducible refine And.intro ?_ ?_; focus exact ob_))
          by_cases h5 : v5 = false
          · first | rw [if_pos h5] | rw [if_pos (by simp_all)] | rw [if_pos (by omega)]
            (repeat (with_reducible refine And.intro ?_ ?_; focus exact ob_))
            have hd : d_world_Validate w = 15 := by first | with_reducible rfl | (unfold d_world_Validate; exact hd_)
            try rw [hd]
            try simp only [go_sem, ite_andP, ite_orP, dec_true, dec_false]
            all_goals exact fin_
          · first | rw [if_neg h5] | rw [if_neg (by simp_all)] | rw [if_neg (by omega)]
            (repeat (with_reducible refine And.intro ?_ ?_; focus exact ob_))
            refine CallGi_flat (s_world_validContacts w (by (first | exact hw | assumption))) rfl ?_
            generalize hv6 : (okContacts w) = v6
            simp only [go_sem, ite_andP, ite_orP, dec_true, dec_false]
            (repeat (with_reducible refine And.intro ?_ ?_; focus exact ob_))
            by_cases h6 : v6 = false
            · first | rw [if_pos h6] | rw [if_pos (by simp_all)] | rw [if_pos (by omega)]
              (repeat (with_reducible refine And.intro ?_ ?_; focus exact ob_))
              have hd : d_world_Validate w = 16 := by first | with_reducible rfl | (unfold d_world_Validate; exact hd_)
              try rw [hd]
              try simp only [go_sem, ite_andP, ite_orP, dec_true, dec_false]
              all_goals exact fin_
            · first | rw [if_neg h6] | rw [if_neg (by simp_all)] | rw [if_neg (by omega)]
              (repeat (with_reducible refine And.intro ?_ ?_; focus exact ob_))
              have hd : d_world_Validate w = 0 := by first | with_reducible rfl | (unfold d_world_Validate; exact hd_)
              try rw [hd]
              try simp only [go_sem, ite_andP, ite_orP, dec_true, dec_false]
              all_goals exact fin_

def d_r25_Validate (w : Api.World) : Int := let v1 := (d_r25_ValidateSettings w.Settings); if (v1 != 0) = true then (17) else (if ((((decide (32 < (w.Bodies.length : Int))) || (decide (32 < (w.Joints.length : Int)))) || (decide (8192 < (w.Contacts.length : Int)))) || (decide (8192 < (w.Overlaps.length : Int)))) = true then (11) else (if ((!(inR w.NextID 1 1099511627776)) || (!(inR w.Frame 0 1099511627776))) = true then (6) else (let v4 := (d_r25_validBodies w); if v4 = false then (14) else (let v5 := (d_r25_validJoints w); if v5 = false then (15) else (let v6 := (d_r25_validContacts w); if v6 = false then (16) else (0))))))
set_option maxHeartbeats 200000 in
theorem s_r25_Validate (w : Api.World) (hw : Wsm w) : CallsA Tryz.prog F_r25_Validate [.agg w.enc] [] (.sc (.int .i64 (d_r25_Validate w))) [] := by
  refine callsI_of (rs := [_]) hm Tryz.func85 (by kernel_rfl) (by kernel_rfl) is_r25_Validate (by kernel_rfl : tmpsOf Tryz.f85.results.toList = some [2]) (by decide) (by kernel_rfl) ?_
  simp only [c_r25_Validate, go_sem, ite_andP, ite_orP, dec_true, dec_false]
  (repeat (with_reducible refine And.intro ?_ ?_; focus exact ob_))
  refine CallGi_flat (s_r25_ValidateSettings w.Settings ) rfl ?_
  generalize hv1 : (d_r25_ValidateSettings w.Settings) = v1
  simp only [go_sem, ite_andP, ite_orP, dec_true, dec_false]
  (repeat (with_reducible refine And.intro ?_ ?_; focus exact ob_))
  by_cases h1 : (v1 != 0) = true
  · first | rw [if_pos h1] | rw [if_pos (by simp_all)] | rw [if_pos (by omega)]
    (repeat (with_reducible refine And.intro ?_ ?_; focus exact ob_))
    have hd : d_r25_Validate w = 17 := by first | with_reducible rfl | (unfold d_r25_Validate; exact hd_)
    try rw [hd]
    try simp only [go_sem, ite_andP, ite_orP, dec_true, dec_false]
    all_goals exact fin_
  · first | rw [if_neg h1] | rw [if_neg (by simp_all)] | rw [if_neg (by omega)]
    (repeat (with_reducible refine And.intro ?_ ?_; focus exact ob_))
    by_cases h2 : ((((decide (32 < (w.Bodies.length : Int))) || (decide (32 < (w.Joints.length : Int)))) || (decide (8192 < (w.Contacts.length : Int)))) || (decide (8192 < (w.Overlaps.length : Int)))) = true
    · first | rw [if_pos h2] | rw [if_pos (by simp_all)] | rw [if_pos (by omega)]
      (repeat (with_reducible refine And.intro ?_ ?_; focus exact ob_))
      have hd : d_r25_Validate w = 11 := by first | with_reducible rfl | (unfold d_r25_Validate; exact hd_)
      try rw [hd]
      try simp only [go_sem, ite_andP, ite_orP, dec_true, dec_false]
      all_goals exact fin_
    · first | rw [if_neg h2] | rw [if_neg (by simp_all)] | rw [if_neg (by omega)]
      (repeat (with_reducible refine And.intro ?_ ?_; focus exact ob_))
      refine CallGi_flat (s_r25_in w.NextID 1 1099511627776 ) rfl ?_
      simp only [go_sem, ite_andP, ite_orP, dec_true, dec_false]
      (repeat (with_reducible refine And.intro ?_ ?_; focus exact ob_))
      refine CallGi_flat (s_r25_in w.Frame 0 1099511627776 ) rfl ?_
      simp only [go_sem, ite_andP, ite_orP, dec_true, dec_false]
      (repeat (with_reducible refine And.intro ?_ ?_; focus exact ob_))
      by_cases h3 : ((!(inR w.NextID 1 1099511627776)) || (!(inR w.Frame 0 1099511627776))) = true
      · first | rw [if_pos h3] | rw [if_pos (by simp_all)] | rw [if_pos (by omega)]
        (repeat (with_reducible refine And.intro ?_ ?_; focus exact ob_))
        have hd : d_r25_Validate w = 6 := by first | with_reducible rfl | (unfold d_r25_Validate; exact hd_)
        try rw [hd]
        try simp only [go_sem, ite_andP, ite_orP, dec_true, dec_false]
        all_goals exact fin_
      · first | rw [if_neg h3] | rw [if_neg (by simp_all)] | rw [if_neg (by omega)]
        (repeat (with_reducible refine And.intro ?_ ?_; focus exact ob_))
        refine CallGi_flat (s_r25_validBodies w (by (first | exact hw | assumption | omega | (simp_all; done) | (simp_all; omega)))) rfl ?_
        generalize hv4 : (d_r25_validBodies w) = v4
        simp only [go_sem, ite_andP, ite_orP, dec_true, dec_false]
        (repeat (with_reducible refine And.intro ?_ ?_; focus exact ob_))
        by_cases h4 : v4 = false
        · first | rw [if_pos h4] | rw [if_pos (by simp_all)] | rw [if_pos (by omega)]
          (repeat (with_reducible refine And.intro ?_ ?_; focus exact ob_))
          have hd : d_r25_Validate w = 14 := by first | with_reducible rfl | (unfold d_r25_Validate; exact hd_)
          try rw [hd]
          try simp only [go_sem, ite_andP, ite_orP, dec_true, dec_false]
          all_goals exact fin_
        · first | rw [if_neg h4] | rw [if_neg (by simp_all)] | rw [if_neg (by omega)]
          (repeat (with_reducible refine And.intro ?_ ?_; focus exact ob_))
          refine CallGi_flat (s_r25_validJoints w (by (first | exact hw | assumption | omega | (simp_all; done) | (simp_all; omega)))) rfl ?_
          generalize hv5 : (d_r25_validJoints w) = v5
          simp only [go_sem, ite_andP, ite_orP, dec_true, dec_false]
          (repeat (with_reducible refine And.intro ?_ ?_; focus exact ob_))
          by_cases h5 : v5 = false
          · first | rw [if_pos h5] | rw [if_pos (by simp_all)] | rw [if_pos (by omega)]
            (repeat (with_reducible refine And.intro ?_ ?_; focus exact ob_))
            have hd : d_r25_Validate w = 15 := by first | with_reducible rfl | (unfold d_r25_Validate; exact hd_)
            try rw [hd]
            try simp only [go_sem, ite_andP, ite_orP, dec_true, dec_false]
            all_goals exact fin_
          · first | rw [if_neg h5] | rw [if_neg (by simp_all)] | rw [if_neg (by omega)]
            (repeat (with_reducible refine And.intro ?_ ?_; focus exact ob_))
            refine CallGi_flat (s_r25_validContacts w (by (first | exact hw | assumption | omega | (simp_all; done) | (simp_all; omega)))) rfl ?_
            generalize hv6 : (d_r25_validContacts w) = v6
            simp only [go_sem, ite_andP, ite_orP, dec_true, dec_false]
            (repeat (with_reducible refine And.intro ?_ ?_; focus exact ob_))
            by_cases h6 : v6 = false
            · first | rw [if_pos h6] | rw [if_pos (by simp_all)] | rw [if_pos (by omega)]
              (repeat (with_reducible refine And.intro ?_ ?_; focus exact ob_))
              have hd : d_r25_Validate w = 16 := by first | with_reducible rfl | (unfold d_r25_Validate; exact hd_)
              try rw [hd]
              try simp only [go_sem, ite_andP, ite_orP, dec_true, dec_false]
              all_goals exact fin_
            · first | rw [if_neg h6] | rw [if_neg (by simp_all)] | rw [if_neg (by omega)]
              (repeat (with_reducible refine And.intro ?_ ?_; focus exact ob_))
              have hd : d_r25_Validate w = 0 := by first | with_reducible rfl | (unfold d_r25_Validate; exact hd_)
              try rw [hd]
              try simp only [go_sem, ite_andP, ite_orP, dec_true, dec_false]
              all_goals exact fin_


end Go.Abs
