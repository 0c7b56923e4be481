/- A part of the walk: contracts of functions that the statement reaches. -/
import Derived.Test.YtlldeiikcfaegaaGreatAbsC
import Derived.Test.YtlldeiikcfaegaaGreatT6
set_option linter.unusedSimpArgs false
set_option linter.unusedVariables false
set_option linter.unnecessarySimpa false
set_option maxRecDepth 100000
set_option maxHeartbeats 2000000
set_option linter.unusedSimpArgs false
set_option linter.unusedVariables false
namespace Go.Abs
open Go.Proofs
open Api
def d_world_ValidateSettings (s : Settings) : Int := if ((((!(inR s.TimeStep 64 8192)) || (!((inR s.Gravity.X (-16777216) 16777216) && (inR s.Gravity.Y (-16777216) 16777216)))) || (!(inR s.Iterations 1 32))) || (!(inR s.SleepSteps 0 1048576))) = true then (6) else (0)
set_option maxHeartbeats 200000 in
theorem s_world_ValidateSettings (s : Settings)  : CallsA Tryz.prog F_world_ValidateSettings [.agg s.enc] [] (.sc (.int .i64 (d_world_ValidateSettings s))) [] := by
  refine callsI_of (rs := [_]) hm Tryz.func71 (by kernel_rfl) (by kernel_rfl) is_world_ValidateSettings (by kernel_rfl : tmpsOf Tryz.f71.results.toList = some [2]) (by decide) (by kernel_rfl) ?_
  simp only [c_world_ValidateSettings, go_sem, ite_andP, ite_orP, dec_true, dec_false]
  (repeat (with_reducible refine And.intro ?_ ?_; focus exact ob_))
  refine CallGi_flat (s_world_in s.Gravity.X (-16777216) 16777216 ) rfl ?_
  simp only [go_sem, ite_andP, ite_orP, dec_true, dec_false]
  (repeat (with_reducible refine And.intro ?_ ?_; focus exact ob_))
  refine CallGi_flat (s_world_in s.Gravity.Y (-16777216) 16777216 ) rfl ?_
  simp only [go_sem, ite_andP, ite_orP, dec_true, dec_false]
  (repeat (with_reducible refine And.intro ?_ ?_; focus exact ob_))
  refine CallGi_flat (s_world_in s.TimeStep 64 8192 ) rfl ?_
  simp only [go_sem, ite_andP, ite_orP, dec_true, dec_false]
  (repeat (with_reducible refine And.intro ?_ ?_; focus exact ob_))
  refine CallGi_flat (s_world_in s.Iterations 1 32 ) rfl ?_
  simp only [go_sem, ite_andP, ite_orP, dec_true, dec_false]
  (repeat (with_reducible refine And.intro ?_ ?_; focus exact ob_))
  refine CallGi_flat (s_world_in s.SleepSteps 0 1048576 ) rfl ?_
  simp only [go_sem, ite_andP, ite_orP, dec_true, dec_false]
  (repeat (with_reducible refine And.intro ?_ ?_; focus exact ob_))
  by_cases h1 : ((((!(inR s.TimeStep 64 8192)) || (!((inR s.Gravity.X (-16777216) 16777216) && (inR s.Gravity.Y (-16777216) 16777216)))) || (!(inR s.Iterations 1 32))) || (!(inR s.SleepSteps 0 1048576))) = true
  · first | rw [if_pos h1] | rw [if_pos (by simp_all)] | rw [if_pos (by omega)]
    (repeat (with_reducible refine And.intro ?_ ?_; focus exact ob_))
    have hd : d_world_ValidateSettings s = 6 := by first | with_reducible rfl | (unfold d_world_ValidateSettings; exact hd_)
    try rw [hd]
    try simp only [go_sem, ite_andP, ite_orP, dec_true, dec_false]
    all_goals exact fin_
  · first | rw [if_neg h1] | rw [if_neg (by simp_all)] | rw [if_neg (by omega)]
    (repeat (with_reducible refine And.intro ?_ ?_; focus exact ob_))
    have hd : d_world_ValidateSettings s = 0 := by first | with_reducible rfl | (unfold d_world_ValidateSettings; exact hd_)
    try rw [hd]
    try simp only [go_sem, ite_andP, ite_orP, dec_true, dec_false]
    all_goals exact fin_

end Go.Abs
