/- A part of the walk: contracts of functions that the statement reaches. -/
import Derived.Test.YtlldeiikcfaegaaGreatAbsC
import Derived.Test.YtlldeiikcfaegaaGreatS1
set_option linter.unusedSimpArgs false
set_option linter.unusedVariables false
set_option linter.unnecessarySimpa false
set_option maxRecDepth 100000
set_option maxHeartbeats 2000000
set_option linter.unusedSimpArgs false
set_option linter.unusedVariables false
namespace Go.Abs
open Go.Proofs
open Api
theorem s_r01_outOfRange (n : Int) : CallsA Tryz.prog F_r01_outOfRange [.sc (.int .i64 n)] [] (.sc (.bool (decide (n > 4611686018427387904 ∨ n < -4611686018427387904)))) [] := by
  refine callsI_of (rs := [_]) hm Tryz.func330 (by kernel_rfl) (by kernel_rfl) is_r01_outOfRange (by kernel_rfl : tmpsOf Tryz.f330.results.toList = some [2]) (by decide) (by kernel_rfl) ?_
  simp only [c_r01_outOfRange, go_sem]
  by_cases h : 4611686018427387904 < n
  · rw [if_pos h]; exact (decide_eq_true (by omega)).symm
  · rw [if_neg h]; exact decide_eq_decide.2 (by omega)
theorem quo_half (k : Nat) : IntKind.i64.wrap (((2 ^ k : Nat) : Int).tdiv 2) = bitOf k ∨ 62 < k := by
  by_cases h : 62 < k
  · exact .inr h
  · left
    have hp2 : 2 ^ k ≤ 2 ^ 62 := Nat.pow_le_pow_right (by omega) (by omega)
    cases k with
    | zero => decide
    | succ k =>
      show IntKind.i64.wrap (((2 ^ (k + 1) : Nat) : Int).tdiv 2) = ((2 ^ k : Nat) : Int)
      rw [Nat.pow_succ] at *
      rw [Int.tdiv_eq_ediv_of_nonneg (by omega), IntKind.wrap_i64]; omega
theorem s_r01_Isqrt (n : Int) : CallsA Tryz.prog F_r01_Isqrt [.sc (.int .i64 n)] [] (.sc (.int .i64 (isq n))) [] := by
  refine callsI_of (rs := [_]) hm Tryz.func312 (by kernel_rfl) (by kernel_rfl) is_r01_Isqrt (by kernel_rfl : tmpsOf Tryz.f312.results.toList = some [2]) (by decide) (by kernel_rfl) ?_
  simp only [c_r01_Isqrt, go_sem]
  refine CallGi_flat (s_r01_outOfRange n) rfl ?_
  simp only [go_sem]
  by_cases hn : n < 0 ∨ n > 4611686018427387904
  · rw [if_pos (by by_cases h : n < 0; rw [if_pos h]; rw [if_neg h]; exact decide_eq_true (by omega)), isq_bad hn]
  · rw [if_neg (by rw [if_neg (by omega), decide_eq_false (by omega)]; simp), isq_good hn]
    refine Wpi_loop hm (ι := {p : Nat × Nat // p.1 ≤ 32 ∧ 2 ^ p.1 ∣ p.2 ∧ p.2 + 2 ^ p.1 ≤ 4294967296 ∧ isqB n.toNat p.1 p.2 = isqB n.toNat 32 0}) (fun p => [(0, .share, .sc (.int .i64 n)), (3, .share, .sc (.int .i64 p.1.2)), (4, .share, .sc (.int .i64 (bitOf p.1.1)))])
      (fun p => []) (fun p => p.1.1) ⟨(32, 0), by decide, by decide, by decide, rfl⟩ ?_ ?_
    · refine weakE_ [] [] ?_
      simp only [go_sem]
      decide
    · rintro ⟨⟨k, r⟩, hk, hr, hlt, he⟩
      simp only at hk hr hlt he
      simp only [c_r01_Isqrtb0, go_sem]
      cases k with
      | zero =>
        rw [if_neg (by decide)]
        rw [← he]; rfl
      | succ k =>
        obtain ⟨a1, a2, a3, a4, a5⟩ := isq_next hr hlt
        rw [if_pos (by show (0 : Int) < ((2 ^ k : Nat) : Int); omega)]
        have hw : IntKind.i64.wrap ((r : Int) + ((2 ^ k : Nat) : Int)) = ((r + 2 ^ k : Nat) : Int) := by rw [IntKind.wrap_i64]; omega
        have hdiv : IntKind.i64.wrap (n.tdiv ((r + 2 ^ k : Nat) : Int)) = ((n.toNat / (r + 2 ^ k) : Nat) : Int) := by
          rw [Int.tdiv_eq_ediv_of_nonneg (by omega)]
          have e : n = (n.toNat : Int) := by omega
          rw [e, ← Int.natCast_ediv, Int.toNat_natCast]
          have : n.toNat / (r + 2 ^ k) ≤ n.toNat := Nat.div_le_self _ _
          generalize n.toNat / (r + 2 ^ k) = q at *
          rw [IntKind.wrap_i64]; omega
        have hhalf : IntKind.i64.wrap (((2 ^ k : Nat) : Int).tdiv 2) = bitOf k := (quo_half k).resolve_right (by omega)
        simp only [show bitOf (k + 1) = ((2 ^ k : Nat) : Int) from rfl, hw, hdiv, hhalf]
        refine ⟨by omega, ?_⟩
        have hiff : (r + 2 ^ k ≤ n.toNat / (r + 2 ^ k)) ↔ (r + 2 ^ k) * (r + 2 ^ k) ≤ n.toNat := Nat.le_div_iff_mul_le (by omega)
        by_cases hc : (r + 2 ^ k) * (r + 2 ^ k) ≤ n.toNat
        · rw [if_pos (Int.ofNat_le.2 (hiff.2 hc))]
          refine ⟨by decide, ?_⟩
          refine loop_next ⟨(k, r + 2 ^ k), by show k ≤ 32; omega, a3, a4, by rw [← he]; simp only [isqB, hc, if_true]⟩ (Nat.lt_succ_self k) (weakE_ [] [] ?_)
          simp only [go_sem]
        · rw [if_neg (fun h => hc (hiff.1 (Int.ofNat_le.1 h)))]
          refine ⟨by decide, ?_⟩
          refine loop_next ⟨(k, r), by show k ≤ 32; omega, a1, a2, by rw [← he]; simp only [isqB, hc, if_false]⟩ (Nat.lt_succ_self k) (weakE_ [] [] ?_)
          simp only [go_sem]
def lenV (v : Vec) : Int := isq (distSq ⟨0, 0⟩ v)
theorem s_vec2_Length (v : Vec) : CallsA Tryz.prog F_vec2_Length [.agg v.enc] [] (.sc (.int .i64 (lenV v))) [] := by
  refine callsI_of (rs := [_]) hm Tryz.func256 (by kernel_rfl) (by kernel_rfl) is_vec2_Length (by kernel_rfl : tmpsOf Tryz.f256.results.toList = some [2]) (by decide) (by kernel_rfl) ?_
  simp only [c_vec2_Length, go_sem]
  refine CallGi_flat (s_vec2_DistanceSquared ⟨0, 0⟩ v) rfl ?_
  simp only [go_sem]
  refine CallGi_flat (s_fixed_Isqrt _) rfl ?_
  simp only [lenV, go_sem]
theorem s_r03_Length (v : Vec) : CallsA Tryz.prog F_r03_Length [.agg v.enc] [] (.sc (.int .i64 (lenV v))) [] := by
  refine callsI_of (rs := [_]) hm Tryz.func280 (by kernel_rfl) (by kernel_rfl) is_r03_Length (by kernel_rfl : tmpsOf Tryz.f280.results.toList = some [2]) (by decide) (by kernel_rfl) ?_
  simp only [c_r03_Length, go_sem]
  refine CallGi_flat (s_r03_Saturated v) rfl ?_
  simp only [satV, go_sem]
  have e0 : sat 0 = 0 := by decide
  have h : IntKind.i64.wrap (IntKind.i64.wrap (sat v.X * sat v.X) + IntKind.i64.wrap (sat v.Y * sat v.Y)) = distSq ⟨0, 0⟩ v := by
    have b1 := sat_range v.X; have b2 := sat_range v.Y
    have h1 := sq_range b1.1 b1.2
    have h2 := sq_range b2.1 b2.2
    simp only [distSq, e0, Int.sub_zero]
    generalize sat v.X * sat v.X = p at *
    generalize sat v.Y * sat v.Y = q at *
    simp only [IntKind.wrap_i64]; omega
  rw [h]
  refine CallGi_flat (s_r01_Isqrt _) rfl ?_
  simp only [lenV, go_sem]
end Go.Abs
