/- A part of the walk: contracts of functions that the statement reaches. -/
import Derived.Test.YtlldeiikcfaegaaGreatAbsC
import Derived.Test.YtlldeiikcfaegaaGreatS2
import Derived.Test.YtlldeiikcfaegaaGreatHO
set_option linter.unusedSimpArgs false
set_option linter.unusedVariables false
set_option linter.unnecessarySimpa false
set_option maxRecDepth 100000
set_option maxHeartbeats 2000000
set_option linter.unusedSimpArgs false
set_option linter.unusedVariables false
namespace Go.Abs
open Go.Proofs
open Api
/-- x lies in [lo, hi] -/
def inR (x lo hi : Int) : Bool := decide (lo ≤ x ∧ x ≤ hi)
theorem s_world_in (x lo hi : Int) : CallsA Tryz.prog F_world_in [.sc (.int .i64 x), .sc (.int .i64 lo), .sc (.int .i64 hi)] [] (.sc (.bool (inR x lo hi))) [] := by
  refine callsI_of (rs := [_]) hm Tryz.func72 (by kernel_rfl) (by kernel_rfl) is_world_in (by kernel_rfl : tmpsOf Tryz.f72.results.toList = some [6]) (by decide) (by kernel_rfl) ?_
  simp only [c_world_in, go_sem]
  by_cases h : lo ≤ x
  · simp only [h, if_true, inR, true_and]
  · simp only [h, if_false, inR, false_and, decide_false]

theorem s_body_within (x lo hi : Int) : CallsA Tryz.prog F_body_within [.sc (.int .i64 x), .sc (.int .i64 lo), .sc (.int .i64 hi)] [] (.sc (.bool (inR x lo hi))) [] := by
  refine callsI_of (rs := [_]) hm Tryz.func260 (by kernel_rfl) (by kernel_rfl) is_body_within (by kernel_rfl : tmpsOf Tryz.f260.results.toList = some [6]) (by decide) (by kernel_rfl) ?_
  simp only [c_body_within, go_sem]
  by_cases h : lo ≤ x
  · simp only [h, if_true, inR, true_and]
  · simp only [h, if_false, inR, false_and, decide_false]

theorem s_joint_inRange (x lo hi : Int) : CallsA Tryz.prog F_joint_inRange [.sc (.int .i64 x), .sc (.int .i64 lo), .sc (.int .i64 hi)] [] (.sc (.bool (inR x lo hi))) [] := by
  refine callsI_of (rs := [_]) hm Tryz.func265 (by kernel_rfl) (by kernel_rfl) is_joint_inRange (by kernel_rfl : tmpsOf Tryz.f265.results.toList = some [6]) (by decide) (by kernel_rfl) ?_
  simp only [c_joint_inRange, go_sem]
  by_cases h : lo ≤ x
  · simp only [h, if_true, inR, true_and]
  · simp only [h, if_false, inR, false_and, decide_false]

theorem s_r25_in (x lo hi : Int) : CallsA Tryz.prog F_r25_in [.sc (.int .i64 x), .sc (.int .i64 lo), .sc (.int .i64 hi)] [] (.sc (.bool (inR x lo hi))) [] := by
  refine callsI_of (rs := [_]) hm Tryz.func168 (by kernel_rfl) (by kernel_rfl) is_r25_in (by kernel_rfl : tmpsOf Tryz.f168.results.toList = some [6]) (by decide) (by kernel_rfl) ?_
  simp only [c_r25_in, go_sem]
  by_cases h : lo ≤ x
  · simp only [h, if_true, inR, true_and]
  · simp only [h, if_false, inR, false_and, decide_false]

theorem s_r23_in (x lo hi : Int) : CallsA Tryz.prog F_r23_in [.sc (.int .i64 x), .sc (.int .i64 lo), .sc (.int .i64 hi)] [] (.sc (.bool (inR x lo hi))) [] := by
  refine callsI_of (rs := [_]) hm Tryz.func306 (by kernel_rfl) (by kernel_rfl) is_r23_in (by kernel_rfl : tmpsOf Tryz.f306.results.toList = some [6]) (by decide) (by kernel_rfl) ?_
  simp only [c_r23_in, go_sem]
  by_cases h : lo ≤ x
  · simp only [h, if_true, inR, true_and]
  · simp only [h, if_false, inR, false_and, decide_false]

theorem s_r24_inRange (x lo hi : Int) : CallsA Tryz.prog F_r24_inRange [.sc (.int .i64 x), .sc (.int .i64 lo), .sc (.int .i64 hi)] [] (.sc (.bool (inR x lo hi))) [] := by
  refine callsI_of (rs := [_]) hm Tryz.func279 (by kernel_rfl) (by kernel_rfl) is_r24_inRange (by kernel_rfl : tmpsOf Tryz.f279.results.toList = some [6]) (by decide) (by kernel_rfl) ?_
  simp only [c_r24_inRange, go_sem]
  by_cases h : lo ≤ x
  · simp only [h, if_true, inR, true_and]
  · simp only [h, if_false, inR, false_and, decide_false]
theorem s_r12_within (x m : Int) (h0 : 0 ≤ m) (h1 : m < 9223372036854775807) : CallsA Tryz.prog F_r12_within [.sc (.int .i64 x), .sc (.int .i64 m)] [] (.sc (.bool (inR x (-m) m))) [] := by
  refine callsI_of (rs := [_]) hm Tryz.func324 (by kernel_rfl) (by kernel_rfl) is_r12_within (by kernel_rfl : tmpsOf Tryz.f324.results.toList = some [4]) (by decide) (by kernel_rfl) ?_
  simp only [c_r12_within, go_sem]
  have e : IntKind.i64.wrap (0 - m) = -m := by rw [IntKind.wrap_i64]; omega
  rw [e]
  by_cases h : -m ≤ x
  · simp only [h, if_true, inR, true_and]
  · simp only [h, if_false, inR, false_and, decide_false]
theorem s_fixed_Sub (a b : Int) : CallsA Tryz.prog F_fixed_Sub [.sc (.int .i64 a), .sc (.int .i64 b)] [] (.sc (.int .i64 (sat (sat a - sat b)))) [] := by
  refine callsI_of (rs := [_]) hm Tryz.func317 (by kernel_rfl) (by kernel_rfl) is_fixed_Sub (by kernel_rfl : tmpsOf Tryz.f317.results.toList = some [4]) (by decide) (by kernel_rfl) ?_
  simp only [c_fixed_Sub, go_sem]
  refine CallGi_flat (s_fixed_Saturate a) rfl ?_
  simp only [go_sem]
  refine CallGi_flat (s_fixed_Saturate b) rfl ?_
  simp only [go_sem]
  refine CallGi_flat (s_fixed_Saturate _) rfl ?_
  simp only [go_sem]
  have := sat_range a; have := sat_range b
  rw [show IntKind.i64.wrap (sat a - sat b) = sat a - sat b by rw [IntKind.wrap_i64]; omega]
theorem s_r01_Sub (a b : Int) : CallsA Tryz.prog F_r01_Sub [.sc (.int .i64 a), .sc (.int .i64 b)] [] (.sc (.int .i64 (sat (sat a - sat b)))) [] := by
  refine callsI_of (rs := [_]) hm Tryz.func333 (by kernel_rfl) (by kernel_rfl) is_r01_Sub (by kernel_rfl : tmpsOf Tryz.f333.results.toList = some [4]) (by decide) (by kernel_rfl) ?_
  simp only [c_r01_Sub, go_sem]
  refine CallGi_flat (s_r01_Saturate a) rfl ?_
  simp only [go_sem]
  refine CallGi_flat (s_r01_Saturate b) rfl ?_
  simp only [go_sem]
  refine CallGi_flat (s_r01_Saturate _) rfl ?_
  simp only [go_sem]
  have := sat_range a; have := sat_range b
  rw [show IntKind.i64.wrap (sat a - sat b) = sat a - sat b by rw [IntKind.wrap_i64]; omega]
def subV (a b : Vec) : Vec := ⟨sat (sat a.X - sat b.X), sat (sat a.Y - sat b.Y)⟩
theorem s_vec2_Sub (a b : Vec) : CallsA Tryz.prog F_vec2_Sub [.agg a.enc, .agg b.enc] [] (.agg (subV a b).enc) [] := by
  refine callsIR'_of (rs := [_]) (N := 16) hm Tryz.func300 (by kernel_rfl) (by kernel_rfl) is_vec2_Sub (by kernel_rfl) (by kernel_rfl : rvOf Tryz.prog Tryz.f300.results.toList = some [(4, some (some 2))]) (by decide) (by kernel_rfl) ?_
  simp only [c_vec2_Sub, go_sem]
  refine CallGi_flat (s_fixed_Sub a.X b.X) rfl ?_
  simp only [go_sem]
  refine CallGi_flat (s_fixed_Sub a.Y b.Y) rfl ?_
  simp only [subV, go_sem]
theorem s_r03_Sub (a b : Vec) : CallsA Tryz.prog F_r03_Sub [.agg a.enc, .agg b.enc] [] (.agg (subV a b).enc) [] := by
  refine callsIR'_of (rs := [_]) (N := 16) hm Tryz.func325 (by kernel_rfl) (by kernel_rfl) is_r03_Sub (by kernel_rfl) (by kernel_rfl : rvOf Tryz.prog Tryz.f325.results.toList = some [(4, some (some 2))]) (by decide) (by kernel_rfl) ?_
  simp only [c_r03_Sub, go_sem]
  refine CallGi_flat (s_r01_Sub a.X b.X) rfl ?_
  simp only [go_sem]
  refine CallGi_flat (s_r01_Sub a.Y b.Y) rfl ?_
  simp only [subV, go_sem]
theorem mul_rng {x y m n : Int} (h1 : -m ≤ x) (h2 : x ≤ m) (h3 : -n ≤ y) (h4 : y ≤ n) : -(m * n) ≤ x * y ∧ x * y ≤ m * n := by
  have hm : 0 ≤ m := by omega
  have hn : 0 ≤ n := by omega
  rcases Int.le_total 0 x with hx | hx <;> rcases Int.le_total 0 y with hy | hy
  · have a := Int.mul_le_mul h2 h4 hy hm; have b := Int.mul_nonneg hx hy; omega
  · have a := Int.mul_le_mul h2 (show -y ≤ n by omega) (by omega) hm; have b := Int.mul_nonneg hx (show 0 ≤ -y by omega); rw [Int.mul_neg] at a b; omega
  · have a := Int.mul_le_mul (show -x ≤ m by omega) h4 hy hm; have b := Int.mul_nonneg (show 0 ≤ -x by omega) hy; rw [Int.neg_mul] at a b; omega
  · have a := Int.mul_le_mul (show -x ≤ m by omega) (show -y ≤ n by omega) (by omega) hm; have b := Int.mul_nonneg (show 0 ≤ -x by omega) (show 0 ≤ -y by omega); rw [Int.neg_mul_neg] at a b; omega
def crs (a b c : Vec) : Int := (sat b.X - sat a.X) * (sat c.Y - sat a.Y) - (sat b.Y - sat a.Y) * (sat c.X - sat a.X)
/-- on which side of the line from a to b the point c lies -/
def ori (a b c : Vec) : Int := if 0 < crs a b c then 1 else if crs a b c < 0 then -1 else 0
theorem crs_wrap (a b c : Vec) : IntKind.i64.wrap (IntKind.i64.wrap (IntKind.i64.wrap (sat b.X - sat a.X) * IntKind.i64.wrap (sat c.Y - sat a.Y)) - IntKind.i64.wrap (IntKind.i64.wrap (sat b.Y - sat a.Y) * IntKind.i64.wrap (sat c.X - sat a.X))) = crs a b c := by
  have h1 := sat_range a.X; have h2 := sat_range a.Y; have h3 := sat_range b.X; have h4 := sat_range b.Y; have h5 := sat_range c.X; have h6 := sat_range c.Y
  have w : ∀ x y, -536870911 ≤ x ∧ x ≤ 536870911 → -536870911 ≤ y ∧ y ≤ 536870911 → IntKind.i64.wrap (x - y) = x - y := fun x y _ _ => by rw [IntKind.wrap_i64]; omega
  rw [w _ _ h3 h1, w _ _ h6 h2, w _ _ h4 h2, w _ _ h5 h1]
  have p1 := mul_rng (x := sat b.X - sat a.X) (y := sat c.Y - sat a.Y) (m := 1073741822) (n := 1073741822) (by omega) (by omega) (by omega) (by omega)
  have p2 := mul_rng (x := sat b.Y - sat a.Y) (y := sat c.X - sat a.X) (m := 1073741822) (n := 1073741822) (by omega) (by omega) (by omega) (by omega)
  unfold crs
  generalize (sat b.X - sat a.X) * (sat c.Y - sat a.Y) = p at *
  generalize (sat b.Y - sat a.Y) * (sat c.X - sat a.X) = q at *
  simp only [IntKind.wrap_i64]; omega
theorem s_vec2_Orientation (a b c : Vec) : CallsA Tryz.prog F_vec2_Orientation [.agg a.enc, .agg b.enc, .agg c.enc] [] (.sc (.int .i64 (ori a b c))) [] := by
  refine callsI_of (rs := [_]) hm Tryz.func319 (by kernel_rfl) (by kernel_rfl) is_vec2_Orientation (by kernel_rfl : tmpsOf Tryz.f319.results.toList = some [6]) (by decide) (by kernel_rfl) ?_
  simp only [c_vec2_Orientation, go_sem]
  refine CallGi_flat (s_vec2_saturate a) rfl ?_
  simp only [go_sem]
  refine CallGi_flat (s_vec2_saturate b) rfl ?_
  simp only [go_sem]
  refine CallGi_flat (s_vec2_saturate c) rfl ?_
  simp only [satV, crs_wrap, go_sem]
  unfold ori
  (repeat' split) <;> omega
theorem s_r03_Orientation (a b c : Vec) : CallsA Tryz.prog F_r03_Orientation [.agg a.enc, .agg b.enc, .agg c.enc] [] (.sc (.int .i64 (ori a b c))) [] := by
  refine callsI_of (rs := [_]) hm Tryz.func335 (by kernel_rfl) (by kernel_rfl) is_r03_Orientation (by kernel_rfl : tmpsOf Tryz.f335.results.toList = some [6]) (by decide) (by kernel_rfl) ?_
  simp only [c_r03_Orientation, go_sem]
  refine CallGi_flat (s_r03_Saturated a) rfl ?_
  simp only [go_sem]
  refine CallGi_flat (s_r03_Saturated b) rfl ?_
  simp only [go_sem]
  refine CallGi_flat (s_r03_Saturated c) rfl ?_
  simp only [satV, crs_wrap, go_sem]
  unfold ori
  (repeat' split) <;> omega
/-- both coordinates of a corner lie in its range -/
def reachB (v : Vec) : Bool := decide (-1048576 ≤ v.X ∧ v.X ≤ 1048576 ∧ -1048576 ≤ v.Y ∧ v.Y ≤ 1048576)

theorem s_polygon_inReach (v : Vec) : CallsA Tryz.prog F_polygon_inReach [.agg v.enc] [] (.sc (.bool (reachB v))) [] := by
  refine callsI_of (rs := [_]) hm Tryz.func332 (by kernel_rfl) (by kernel_rfl) is_polygon_inReach (by kernel_rfl : tmpsOf Tryz.f332.results.toList = some [2]) (by decide) (by kernel_rfl) ?_
  simp only [c_polygon_inReach, go_sem]
  unfold reachB
  rw [Bool.eq_iff_iff]
  (repeat' split) <;> simp_all <;> omega

theorem s_r11_inRange (v : Vec) : CallsA Tryz.prog F_r11_inRange [.agg v.enc] [] (.sc (.bool (reachB v))) [] := by
  refine callsI_of (rs := [_]) hm Tryz.func334 (by kernel_rfl) (by kernel_rfl) is_r11_inRange (by kernel_rfl : tmpsOf Tryz.f334.results.toList = some [2]) (by decide) (by kernel_rfl) ?_
  simp only [c_r11_inRange, go_sem]
  unfold reachB
  rw [Bool.eq_iff_iff]
  (repeat' split) <;> simp_all <;> omega
/-- n/d, rounded to the nearest, halves away from zero -/
def rdiv (n d : Int) : Int := if d < 1 ∨ d > 4611686018427387904 ∨ n < -4611686018427387904 ∨ n > 4611686018427387904 then 0 else
  if n.tmod d ≥ d - n.tmod d then n.tdiv d + 1 else if -(n.tmod d) ≥ d + n.tmod d then n.tdiv d - 1 else n.tdiv d
theorem tq_range {n d : Int} (h1 : 1 ≤ d) (h2 : -4611686018427387904 ≤ n) (h3 : n ≤ 4611686018427387904) : -4611686018427387904 ≤ n.tdiv d ∧ n.tdiv d ≤ 4611686018427387904 ∧ -d < n.tmod d ∧ n.tmod d < d := by
  have a := Int.tmod_lt_of_pos n (show 0 < d by omega)
  have b := Int.lt_tmod_of_pos n (show 0 < d by omega)
  have e := Int.mul_tdiv_add_tmod n d
  have hd : (n.tdiv d).natAbs ≤ n.natAbs := by rw [Int.natAbs_tdiv]; exact Nat.div_le_self _ _
  omega
theorem s_fixed_RoundDiv (n d : Int) : CallsA Tryz.prog F_fixed_RoundDiv [.sc (.int .i64 n), .sc (.int .i64 d)] [] (.sc (.int .i64 (rdiv n d))) [] := by
  refine callsI_of (rs := [_]) hm Tryz.func321 (by kernel_rfl) (by kernel_rfl) is_fixed_RoundDiv (by kernel_rfl : tmpsOf Tryz.f321.results.toList = some [4]) (by decide) (by kernel_rfl) ?_
  simp only [c_fixed_RoundDiv, go_sem]
  unfold rdiv
  by_cases hc : d < 1 ∨ d > 4611686018427387904 ∨ n < -4611686018427387904 ∨ n > 4611686018427387904
  · rw [if_pos hc, if_pos (by (repeat' split) <;> simp <;> omega)]
  · rw [if_neg hc, if_neg (by (repeat' split) <;> simp <;> omega)]
    obtain ⟨h1, h2, h3, h4⟩ := tq_range (n := n) (d := d) (by omega) (by omega) (by omega)
    have e1 : IntKind.i64.wrap (n.tdiv d) = n.tdiv d := by rw [IntKind.wrap_i64]; omega
    rw [e1]
    have e2 : IntKind.i64.wrap (d - n.tmod d) = d - n.tmod d := by rw [IntKind.wrap_i64]; omega
    have e3 : IntKind.i64.wrap (d + n.tmod d) = d + n.tmod d := by rw [IntKind.wrap_i64]; omega
    have e4 : IntKind.i64.wrap (0 - n.tmod d) = -n.tmod d := by rw [IntKind.wrap_i64]; omega
    rw [e2, e3, e4]
    refine ⟨by omega, by omega, ?_⟩
    split
    · rw [IntKind.wrap_i64]; omega
    · split
      · rw [IntKind.wrap_i64]; omega
      · rfl
theorem rdiv_good {n d : Int} (h1 : 1 ≤ d) (h2 : d ≤ 4611686018427387904) (h3 : -4611686018427387904 ≤ n) (h4 : n ≤ 4611686018427387904) :
    rdiv n d = if n.tmod d ≥ d - n.tmod d then n.tdiv d + 1 else if -(n.tmod d) ≥ d + n.tmod d then n.tdiv d - 1 else n.tdiv d := if_neg (by omega)
theorem rdiv_abs {n d q r : Int} (h1 : 1 ≤ d) (h2 : d ≤ 4611686018427387904) (h3 : -4611686018427387904 ≤ n) (h4 : n ≤ 4611686018427387904) (hq : q = (if n < 0 then -n else n).tdiv d) (hr : r = (if n < 0 then -n else n).tmod d) :
    (if n < 0 then -(if r ≥ d - r then q + 1 else q) else (if r ≥ d - r then q + 1 else q)) = rdiv n d := by
  rw [rdiv_good h1 h2 h3 h4]
  by_cases h : n < 0
  · rw [if_pos h] at hq hr ⊢
    rw [Int.neg_tdiv] at hq
    rw [Int.neg_tmod] at hr
    have hs : n.tmod d ≤ 0 := by
      have := Int.tmod_nonneg d (show 0 ≤ -n by omega)
      rw [Int.neg_tmod] at this; omega
    rw [if_neg (c := n.tmod d ≥ d - n.tmod d) (by omega)]
    subst hq; subst hr
    split <;> split <;> omega
  · rw [if_neg h] at hq hr ⊢
    have hs := Int.tmod_nonneg d (show 0 ≤ n by omega)
    subst hq; subst hr
    rw [if_neg (c := -n.tmod d ≥ d + n.tmod d) (by omega)]
theorem mod_of {m d : Int} : m - m.tdiv d * d = m.tmod d := by
  have := Int.mul_tdiv_add_tmod m d
  rw [Int.mul_comm] at this; omega
theorem s_r01_RoundDiv (n d : Int) : CallsA Tryz.prog F_r01_RoundDiv [.sc (.int .i64 n), .sc (.int .i64 d)] [] (.sc (.int .i64 (rdiv n d))) [] := by
  refine callsI_of (rs := [_]) hm Tryz.func337 (by kernel_rfl) (by kernel_rfl) is_r01_RoundDiv (by kernel_rfl : tmpsOf Tryz.f337.results.toList = some [4]) (by decide) (by kernel_rfl) ?_
  simp only [c_r01_RoundDiv, go_sem]
  refine CallGi_flat (s_r01_outOfRange d) rfl ?_
  simp only [go_sem]
  refine CallGi_flat (s_r01_outOfRange n) rfl ?_
  simp only [go_sem]
  by_cases hc : d < 1 ∨ d > 4611686018427387904 ∨ n < -4611686018427387904 ∨ n > 4611686018427387904
  · rw [if_pos (by (repeat' split) <;> simp <;> omega)]
    unfold rdiv; rw [if_pos hc]
  · rw [if_neg (by (repeat' split) <;> simp <;> omega)]
    have hg := fun q r => rdiv_abs (n := n) (d := d) (q := q) (r := r) (by omega) (by omega) (by omega) (by omega)
    have key : ∀ m : Int, 0 ≤ m → m ≤ 4611686018427387904 → IntKind.i64.wrap (m.tdiv d) = m.tdiv d ∧ IntKind.i64.wrap (m - IntKind.i64.wrap (m.tdiv d * d)) = m.tmod d ∧ IntKind.i64.wrap (d - m.tmod d) = d - m.tmod d ∧ IntKind.i64.wrap (m.tdiv d + 1) = m.tdiv d + 1 ∧
        IntKind.i64.wrap (0 - (m.tdiv d + 1)) = -(m.tdiv d + 1) ∧ IntKind.i64.wrap (0 - m.tdiv d) = -m.tdiv d := fun m h0 h1 => by
      obtain ⟨a1, a2, a3, a4⟩ := tq_range (n := m) (d := d) (by omega) (by omega) (by omega)
      have e : m - m.tdiv d * d = m.tmod d := mod_of
      have e2 : IntKind.i64.wrap (m.tdiv d * d) = m.tdiv d * d := by
        have := Int.tmod_nonneg d h0
        generalize m.tdiv d * d = z at *
        rw [IntKind.wrap_i64]; omega
      rw [e2, e]
      simp only [IntKind.wrap_i64]
      refine ⟨?_, ?_, ?_, ?_, ?_, ?_⟩ <;> omega
    by_cases hn : n < 0
    · have hm : IntKind.i64.wrap (0 - n) = -n := by rw [IntKind.wrap_i64]; omega
      obtain ⟨k1, k2, k3, k4, k5, k6⟩ := key (-n) (by omega) (by omega)
      have h := hg _ _ rfl rfl
      simp only [hn, if_true] at h ⊢
      rw [← h]
      simp only [hm, k1, k2, k3, k4, k5, k6]
      refine ⟨by omega, ?_⟩
      split <;> rfl
    · obtain ⟨k1, k2, k3, k4, k5, k6⟩ := key n (by omega) (by omega)
      have h := hg _ _ rfl rfl
      simp only [hn, if_false] at h ⊢
      rw [← h]
      simp only [k1, k2, k3, k4]
      refine ⟨by omega, ?_⟩
      split <;> rfl

end Go.Abs
