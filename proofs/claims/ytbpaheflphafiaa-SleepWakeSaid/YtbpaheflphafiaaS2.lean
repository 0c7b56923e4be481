/- A part of the walk: contracts of functions that the statement reaches. -/
import Derived.Test.YtbpaheflphafiaaS1
set_option linter.unusedSimpArgs false
set_option linter.unusedVariables false
set_option linter.unnecessarySimpa false
set_option maxRecDepth 100000
set_option maxHeartbeats 2000000
set_option linter.unusedSimpArgs false
set_option linter.unusedVariables false
namespace Go.Abs
open Go.Proofs
open Api
theorem s_r01_outOfRange (n : Int) : CallsA Try.prog F_r01_outOfRange [.sc (.int .i64 n)] [] (.sc (.bool (decide (n > 4611686018427387904 ∨ n < -4611686018427387904)))) [] := by
  refine callsI_of (rs := [_]) hm Try.func75 (by kernel_rfl) (by kernel_rfl) is_r01_outOfRange (by kernel_rfl : tmpsOf Try.f75.results.toList = some [2]) (by decide) (by kernel_rfl) ?_
  simp only [c_r01_outOfRange, go_sem, reduceIte, Nat.reduceEqDiff, reduceCtorEq, Nat.reduceAdd, Nat.reduceLeDiff, Nat.reduceMul, Nat.reduceSub, Int.reduceToNat]
  by_cases h : 4611686018427387904 < n
  · rw [if_pos h]; exact (decide_eq_true (by omega)).symm
  · rw [if_neg h]; exact decide_eq_decide.2 (by omega)
theorem quo_half (k : Nat) : IntKind.i64.wrap (((2 ^ k : Nat) : Int).tdiv 2) = bitOf k ∨ 62 < k := by
  by_cases h : 62 < k
  · exact .inr h
  · left
    have hp2 : 2 ^ k ≤ 2 ^ 62 := Nat.pow_le_pow_right (by omega) (by omega)
    cases k with
    | zero => decide
    | succ k =>
      show IntKind.i64.wrap (((2 ^ (k + 1) : Nat) : Int).tdiv 2) = ((2 ^ k : Nat) : Int)
      rw [Nat.pow_succ] at *
      rw [Int.tdiv_eq_ediv_of_nonneg (by omega), IntKind.wrap_i64]; omega
theorem s_r01_Isqrt (n : Int) : CallsA Try.prog F_r01_Isqrt [.sc (.int .i64 n)] [] (.sc (.int .i64 (isq n))) [] := by
  refine callsI_of (rs := [_]) hm Try.func57 (by kernel_rfl) (by kernel_rfl) is_r01_Isqrt (by kernel_rfl : tmpsOf Try.f57.results.toList = some [2]) (by decide) (by kernel_rfl) ?_
  simp only [c_r01_Isqrt, go_sem, reduceIte, Nat.reduceEqDiff, reduceCtorEq, Nat.reduceAdd, Nat.reduceLeDiff, Nat.reduceMul, Nat.reduceSub, Int.reduceToNat]
  refine CallGi_flat (s_r01_outOfRange n) rfl ?_
  simp only [go_sem, reduceIte, Nat.reduceEqDiff, reduceCtorEq, Nat.reduceAdd, Nat.reduceLeDiff, Nat.reduceMul, Nat.reduceSub, Int.reduceToNat]
  by_cases hn : n < 0 ∨ n > 4611686018427387904
  · rw [if_pos (by by_cases h : n < 0; rw [if_pos h]; rw [if_neg h]; exact decide_eq_true (by omega)), isq_bad hn]
  · rw [if_neg (by rw [if_neg (by omega), decide_eq_false (by omega)]; simp), isq_good hn]
    refine Wpi_loop hm (ι := {p : Nat × Nat // p.1 ≤ 32 ∧ 2 ^ p.1 ∣ p.2 ∧ p.2 + 2 ^ p.1 ≤ 4294967296 ∧ isqB n.toNat p.1 p.2 = isqB n.toNat 32 0}) (fun p => [(0, .share, .sc (.int .i64 n)), (3, .share, .sc (.int .i64 p.1.2)), (4, .share, .sc (.int .i64 (bitOf p.1.1)))])
      (fun p => []) (fun p => p.1.1) ⟨(32, 0), by decide, by decide, by decide, rfl⟩ ?_ ?_
    · refine weakE_of [] [] (by simp) (by simp) (by simp) ?_
      simp only [go_sem, reduceIte, Nat.reduceEqDiff, reduceCtorEq, Nat.reduceAdd, Nat.reduceLeDiff, Nat.reduceMul, Nat.reduceSub, Int.reduceToNat]
      decide
    · rintro ⟨⟨k, r⟩, hk, hr, hlt, he⟩
      simp only at hk hr hlt he
      simp only [c_r01_Isqrtb0, go_sem, reduceIte, Nat.reduceEqDiff, reduceCtorEq, Nat.reduceAdd, Nat.reduceLeDiff, Nat.reduceMul, Nat.reduceSub, Int.reduceToNat]
      cases k with
      | zero =>
        rw [if_neg (by decide)]
        rw [← he]; rfl
      | succ k =>
        obtain ⟨a1, a2, a3, a4, a5⟩ := isq_next hr hlt
        rw [if_pos (by show (0 : Int) < ((2 ^ k : Nat) : Int); omega)]
        have hw : IntKind.i64.wrap ((r : Int) + ((2 ^ k : Nat) : Int)) = ((r + 2 ^ k : Nat) : Int) := by rw [IntKind.wrap_i64]; omega
        have hdiv : IntKind.i64.wrap (n.tdiv ((r + 2 ^ k : Nat) : Int)) = ((n.toNat / (r + 2 ^ k) : Nat) : Int) := by
          rw [Int.tdiv_eq_ediv_of_nonneg (by omega)]
          have e : n = (n.toNat : Int) := by omega
          rw [e, ← Int.natCast_ediv, Int.toNat_natCast]
          have : n.toNat / (r + 2 ^ k) ≤ n.toNat := Nat.div_le_self _ _
          generalize n.toNat / (r + 2 ^ k) = q at *
          rw [IntKind.wrap_i64]; omega
        have hhalf : IntKind.i64.wrap (((2 ^ k : Nat) : Int).tdiv 2) = bitOf k := (quo_half k).resolve_right (by omega)
        simp only [show bitOf (k + 1) = ((2 ^ k : Nat) : Int) from rfl, hw, hdiv, hhalf]
        refine ⟨by omega, ?_⟩
        have hiff : (r + 2 ^ k ≤ n.toNat / (r + 2 ^ k)) ↔ (r + 2 ^ k) * (r + 2 ^ k) ≤ n.toNat := Nat.le_div_iff_mul_le (by omega)
        by_cases hc : (r + 2 ^ k) * (r + 2 ^ k) ≤ n.toNat
        · rw [if_pos (Int.ofNat_le.2 (hiff.2 hc))]
          refine ⟨by decide, ?_⟩
          refine loop_next ⟨(k, r + 2 ^ k), by show k ≤ 32; omega, a3, a4, by rw [← he]; simp only [isqB, hc, if_true]⟩ (Nat.lt_succ_self k) (weakE_of [] [] (by simp) (by simp) (by simp) ?_)
          simp only [go_sem, reduceIte, Nat.reduceEqDiff, reduceCtorEq, Nat.reduceAdd, Nat.reduceLeDiff, Nat.reduceMul, Nat.reduceSub, Int.reduceToNat]
        · rw [if_neg (fun h => hc (hiff.1 (Int.ofNat_le.1 h)))]
          refine ⟨by decide, ?_⟩
          refine loop_next ⟨(k, r), by show k ≤ 32; omega, a1, a2, by rw [← he]; simp only [isqB, hc, if_false]⟩ (Nat.lt_succ_self k) (weakE_of [] [] (by simp) (by simp) (by simp) ?_)
          simp only [go_sem, reduceIte, Nat.reduceEqDiff, reduceCtorEq, Nat.reduceAdd, Nat.reduceLeDiff, Nat.reduceMul, Nat.reduceSub, Int.reduceToNat]
def lenV (v : Vec) : Int := isq (distSq ⟨0, 0⟩ v)
theorem s_vec2_Length (v : Vec) : CallsA Try.prog F_vec2_Length [.agg v.enc] [] (.sc (.int .i64 (lenV v))) [] := by
  refine callsI_of (rs := [_]) hm Try.func35 (by kernel_rfl) (by kernel_rfl) is_vec2_Length (by kernel_rfl : tmpsOf Try.f35.results.toList = some [2]) (by decide) (by kernel_rfl) ?_
  simp only [c_vec2_Length, go_sem, reduceIte, Nat.reduceEqDiff, reduceCtorEq, Nat.reduceAdd, Nat.reduceLeDiff, Nat.reduceMul, Nat.reduceSub, Int.reduceToNat]
  refine CallGi_flat (s_vec2_DistanceSquared ⟨0, 0⟩ v) rfl ?_
  simp only [go_sem, reduceIte, Nat.reduceEqDiff, reduceCtorEq, Nat.reduceAdd, Nat.reduceLeDiff, Nat.reduceMul, Nat.reduceSub, Int.reduceToNat]
  refine CallGi_flat (s_fixed_Isqrt _) rfl ?_
  simp only [lenV, go_sem, reduceIte, Nat.reduceEqDiff, reduceCtorEq, Nat.reduceAdd, Nat.reduceLeDiff, Nat.reduceMul, Nat.reduceSub, Int.reduceToNat]
theorem s_r03_Length (v : Vec) : CallsA Try.prog F_r03_Length [.agg v.enc] [] (.sc (.int .i64 (lenV v))) [] := by
  refine callsI_of (rs := [_]) hm Try.func36 (by kernel_rfl) (by kernel_rfl) is_r03_Length (by kernel_rfl : tmpsOf Try.f36.results.toList = some [2]) (by decide) (by kernel_rfl) ?_
  simp only [c_r03_Length, go_sem, reduceIte, Nat.reduceEqDiff, reduceCtorEq, Nat.reduceAdd, Nat.reduceLeDiff, Nat.reduceMul, Nat.reduceSub, Int.reduceToNat]
  refine CallGi_flat (s_r03_Saturated v) rfl ?_
  simp only [satV, go_sem, reduceIte, Nat.reduceEqDiff, reduceCtorEq, Nat.reduceAdd, Nat.reduceLeDiff, Nat.reduceMul, Nat.reduceSub, Int.reduceToNat]
  have e0 : sat 0 = 0 := by decide
  have h : IntKind.i64.wrap (IntKind.i64.wrap (sat v.X * sat v.X) + IntKind.i64.wrap (sat v.Y * sat v.Y)) = distSq ⟨0, 0⟩ v := by
    have b1 := sat_range v.X; have b2 := sat_range v.Y
    have h1 := sq_range b1.1 b1.2
    have h2 := sq_range b2.1 b2.2
    simp only [distSq, e0, Int.sub_zero]
    generalize sat v.X * sat v.X = p at *
    generalize sat v.Y * sat v.Y = q at *
    simp only [IntKind.wrap_i64]; omega
  rw [h]
  refine CallGi_flat (s_r01_Isqrt _) rfl ?_
  simp only [lenV, go_sem, reduceIte, Nat.reduceEqDiff, reduceCtorEq, Nat.reduceAdd, Nat.reduceLeDiff, Nat.reduceMul, Nat.reduceSub, Int.reduceToNat]
def isSlow (b : Body) : Bool := !b.NoSleep && decide (lenV b.Velocity ≤ 4096) && decide (-4096 ≤ b.AngularVelocity) && decide (b.AngularVelocity ≤ 4096)
theorem s_sleep_IsSlow (b : Body) : CallsA Try.prog F_sleep_IsSlow [.agg b.enc] [] (.sc (.bool (isSlow b))) [] := by
  refine callsI_of (rs := [_]) hm Try.func14 (by kernel_rfl) (by kernel_rfl) is_sleep_IsSlow (by kernel_rfl : tmpsOf Try.f14.results.toList = some [2]) (by decide) (by kernel_rfl) ?_
  simp only [c_sleep_IsSlow, go_sem, reduceIte, Nat.reduceEqDiff, reduceCtorEq, Nat.reduceAdd, Nat.reduceLeDiff, Nat.reduceMul, Nat.reduceSub, Int.reduceToNat]
  refine CallGi_flat (s_vec2_Length b.Velocity) rfl ?_
  simp only [go_sem, reduceIte, Nat.reduceEqDiff, reduceCtorEq, Nat.reduceAdd, Nat.reduceLeDiff, Nat.reduceMul, Nat.reduceSub, Int.reduceToNat]
  rfl

theorem s_r37_IsSlow (b : Body) : CallsA Try.prog F_r37_IsSlow [.agg b.enc] [] (.sc (.bool (isSlow b))) [] := by
  refine callsI_of (rs := [_]) hm Try.func16 (by kernel_rfl) (by kernel_rfl) is_r37_IsSlow (by kernel_rfl : tmpsOf Try.f16.results.toList = some [2]) (by decide) (by kernel_rfl) ?_
  simp only [c_r37_IsSlow, go_sem, reduceIte, Nat.reduceEqDiff, reduceCtorEq, Nat.reduceAdd, Nat.reduceLeDiff, Nat.reduceMul, Nat.reduceSub, Int.reduceToNat]
  refine CallGi_flat (s_r03_Length b.Velocity) rfl ?_
  simp only [go_sem, reduceIte, Nat.reduceEqDiff, reduceCtorEq, Nat.reduceAdd, Nat.reduceLeDiff, Nat.reduceMul, Nat.reduceSub, Int.reduceToNat]
  rfl
def updIdle (b : Body) : Body := { b with IdleSteps := if isSlow b then IntKind.i64.wrap ((if 1048575 < b.IdleSteps then 1048575 else b.IdleSteps) + 1) else 0 }
theorem s_sleep_UpdateIdle (b : Body) : CallsA Try.prog F_sleep_UpdateIdle [.agg b.enc] [] (.agg (updIdle b).enc) [] := by
  refine callsIR'_of (rs := [_]) (N := 12) hm Try.func13 (by kernel_rfl) (by kernel_rfl) is_sleep_UpdateIdle (by kernel_rfl) (by kernel_rfl : rvOf Try.prog Try.f13.results.toList = some [(2, some (some 20))]) (by decide) (by kernel_rfl) ?_
  simp only [c_sleep_UpdateIdle, go_sem, reduceIte, Nat.reduceEqDiff, reduceCtorEq, Nat.reduceAdd, Nat.reduceLeDiff, Nat.reduceMul, Nat.reduceSub, Int.reduceToNat]
  refine CallGi_flat (s_sleep_IsSlow b) rfl ?_
  simp only [go_sem, reduceIte, Nat.reduceEqDiff, reduceCtorEq, Nat.reduceAdd, Nat.reduceLeDiff, Nat.reduceMul, Nat.reduceSub, Int.reduceToNat]
  split
  · rename_i h
    simp only [updIdle, h, if_true, go_sem, reduceIte, Nat.reduceEqDiff, reduceCtorEq, Nat.reduceAdd, Nat.reduceLeDiff, Nat.reduceMul, Nat.reduceSub, Int.reduceToNat]
  · rename_i h
    simp only [updIdle, h, if_false, Bool.false_eq_true, go_sem, reduceIte, Nat.reduceEqDiff, reduceCtorEq, Nat.reduceAdd, Nat.reduceLeDiff, Nat.reduceMul, Nat.reduceSub, Int.reduceToNat]
theorem s_r37_UpdateIdle (b : Body) : CallsA Try.prog F_r37_UpdateIdle [.agg b.enc] [] (.agg (updIdle b).enc) [] := by
  refine callsIR'_of (rs := [_]) (N := 19) hm Try.func15 (by kernel_rfl) (by kernel_rfl) is_r37_UpdateIdle (by kernel_rfl) (by kernel_rfl : rvOf Try.prog Try.f15.results.toList = some [(2, some (some 20))]) (by decide) (by kernel_rfl) ?_
  simp only [c_r37_UpdateIdle, go_sem, reduceIte, Nat.reduceEqDiff, reduceCtorEq, Nat.reduceAdd, Nat.reduceLeDiff, Nat.reduceMul, Nat.reduceSub, Int.reduceToNat]
  refine CallGi_flat (s_r37_IsSlow b) rfl ?_
  simp only [go_sem, reduceIte, Nat.reduceEqDiff, reduceCtorEq, Nat.reduceAdd, Nat.reduceLeDiff, Nat.reduceMul, Nat.reduceSub, Int.reduceToNat]
  cases hs : isSlow b with
  | false =>
    simp only [hs, Bool.false_and, Bool.false_eq_true, if_false, go_sem, reduceIte, Nat.reduceEqDiff, reduceCtorEq, Nat.reduceAdd, Nat.reduceLeDiff, Nat.reduceMul, Nat.reduceSub, Int.reduceToNat]
    refine CallGi_flat (s_r37_IsSlow b) rfl ?_
    simp only [updIdle, hs, Bool.false_eq_true, if_false, go_sem, reduceIte, Nat.reduceEqDiff, reduceCtorEq, Nat.reduceAdd, Nat.reduceLeDiff, Nat.reduceMul, Nat.reduceSub, Int.reduceToNat]
  | true =>
    simp only [hs, Bool.true_and, if_true, decide_eq_true_eq, go_sem, reduceIte, Nat.reduceEqDiff, reduceCtorEq, Nat.reduceAdd, Nat.reduceLeDiff, Nat.reduceMul, Nat.reduceSub, Int.reduceToNat]
    by_cases hc : 1048576 ≤ b.IdleSteps
    · rw [if_pos hc]
      simp only [updIdle, hs, if_true, go_sem, reduceIte, Nat.reduceEqDiff, reduceCtorEq, Nat.reduceAdd, Nat.reduceLeDiff, Nat.reduceMul, Nat.reduceSub, Int.reduceToNat]
      rw [if_pos (by omega)]; decide
    · rw [if_neg hc]
      refine CallGi_flat (s_r37_IsSlow b) rfl ?_
      simp only [updIdle, hs, if_true, go_sem, reduceIte, Nat.reduceEqDiff, reduceCtorEq, Nat.reduceAdd, Nat.reduceLeDiff, Nat.reduceMul, Nat.reduceSub, Int.reduceToNat]
      rw [if_neg (by omega)]

end Go.Abs
