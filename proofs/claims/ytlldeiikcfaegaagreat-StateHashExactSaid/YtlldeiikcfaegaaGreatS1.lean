/- A part of the walk: contracts of functions that the statement reaches. -/
import Derived.Test.YtlldeiikcfaegaaGreatAbsC
import Derived.Test.YtlldeiikcfaegaaGreatX3
set_option linter.unusedSimpArgs false
set_option linter.unusedVariables false
set_option linter.unnecessarySimpa false
set_option maxRecDepth 100000
set_option maxHeartbeats 2000000
set_option linter.unusedSimpArgs false
set_option linter.unusedVariables false
namespace Go.Abs
open Go.Proofs
open Api
/-- saturation -/
def sat (x : Int) : Int := if x > 536870911 then 536870911 else if x < -536870911 then -536870911 else x
theorem sat_range (x : Int) : -536870911 ≤ sat x ∧ sat x ≤ 536870911 := by unfold sat; split <;> (try split) <;> omega
def satV (v : Vec) : Vec := ⟨sat v.X, sat v.Y⟩
theorem s_fixed_Saturate (x : Int) : CallsA Tryz.prog F_fixed_Saturate [.sc (.int .i64 x)] [] (.sc (.int .i64 (sat x))) [] := by
  refine callsI_of (rs := [_]) hm Tryz.func331 (by kernel_rfl) (by kernel_rfl) is_fixed_Saturate (by kernel_rfl : tmpsOf Tryz.f331.results.toList = some [2]) (by decide) (by kernel_rfl) ?_
  simp only [c_fixed_Saturate, go_sem]
  unfold sat
  (repeat' split) <;> omega
theorem s_r01_Saturate (x : Int) : CallsA Tryz.prog F_r01_Saturate [.sc (.int .i64 x)] [] (.sc (.int .i64 (sat x))) [] := by
  refine callsI_of (rs := [_]) hm Tryz.func329 (by kernel_rfl) (by kernel_rfl) is_r01_Saturate (by kernel_rfl : tmpsOf Tryz.f329.results.toList = some [2]) (by decide) (by kernel_rfl) ?_
  simp only [c_r01_Saturate, go_sem]
  unfold sat
  (repeat' split) <;> omega
theorem s_vec2_saturate (v : Vec) : CallsA Tryz.prog F_vec2_saturate [.agg v.enc] [] (.agg (satV v).enc) [] := by
  refine callsIR'_of (rs := [_]) (N := 10) hm Tryz.func315 (by kernel_rfl) (by kernel_rfl) is_vec2_saturate (by kernel_rfl) (by kernel_rfl : rvOf Tryz.prog Tryz.f315.results.toList = some [(2, some (some 2))]) (by decide) (by kernel_rfl) ?_
  simp only [c_vec2_saturate, go_sem]
  refine CallGi_flat (s_fixed_Saturate v.X) rfl ?_
  simp only [go_sem]
  refine CallGi_flat (s_fixed_Saturate v.Y) rfl ?_
  simp only [satV, go_sem]
theorem s_r03_Saturated (v : Vec) : CallsA Tryz.prog F_r03_Saturated [.agg v.enc] [] (.agg (satV v).enc) [] := by
  refine callsIR'_of (rs := [_]) (N := 10) hm Tryz.func311 (by kernel_rfl) (by kernel_rfl) is_r03_Saturated (by kernel_rfl) (by kernel_rfl : rvOf Tryz.prog Tryz.f311.results.toList = some [(2, some (some 2))]) (by decide) (by kernel_rfl) ?_
  simp only [c_r03_Saturated, go_sem]
  refine CallGi_flat (s_r01_Saturate v.X) rfl ?_
  simp only [go_sem]
  refine CallGi_flat (s_r01_Saturate v.Y) rfl ?_
  simp only [satV, go_sem]
def distSq (a b : Vec) : Int := (sat b.X - sat a.X) * (sat b.X - sat a.X) + (sat b.Y - sat a.Y) * (sat b.Y - sat a.Y)
theorem sq_range {x m : Int} (h1 : -m ≤ x) (h2 : x ≤ m) : 0 ≤ x * x ∧ x * x ≤ m * m := by
  have h0 : 0 ≤ m := by omega
  constructor
  · rcases Int.le_total 0 x with h | h
    · exact Int.mul_nonneg h h
    · exact Int.mul_nonneg_of_nonpos_of_nonpos h h
  · rcases Int.le_total 0 x with h | h
    · exact Int.mul_le_mul h2 h2 h h0
    · have := Int.mul_le_mul (show -x ≤ m by omega) (show -x ≤ m by omega) (show 0 ≤ -x by omega) h0
      rwa [Int.neg_mul_neg] at this
theorem s_vec2_DistanceSquared (a b : Vec) : CallsA Tryz.prog F_vec2_DistanceSquared [.agg a.enc, .agg b.enc] [] (.sc (.int .i64 (distSq a b))) [] := by
  refine callsI_of (rs := [_]) hm Tryz.func293 (by kernel_rfl) (by kernel_rfl) is_vec2_DistanceSquared (by kernel_rfl : tmpsOf Tryz.f293.results.toList = some [4]) (by decide) (by kernel_rfl) ?_
  simp only [c_vec2_DistanceSquared, go_sem]
  refine CallGi_flat (s_vec2_saturate a) rfl ?_
  simp only [go_sem]
  refine CallGi_flat (s_vec2_saturate b) rfl ?_
  simp only [satV, go_sem]
  have a1 := sat_range a.X; have a2 := sat_range a.Y; have b1 := sat_range b.X; have b2 := sat_range b.Y
  have w1 : IntKind.i64.wrap (sat b.X - sat a.X) = sat b.X - sat a.X := by rw [IntKind.wrap_i64]; omega
  have w2 : IntKind.i64.wrap (sat b.Y - sat a.Y) = sat b.Y - sat a.Y := by rw [IntKind.wrap_i64]; omega
  have h1 := sq_range (x := sat b.X - sat a.X) (m := 1073741822) (by omega) (by omega)
  have h2 := sq_range (x := sat b.Y - sat a.Y) (m := 1073741822) (by omega) (by omega)
  rw [w1, w2]
  unfold distSq
  generalize (sat b.X - sat a.X) * (sat b.X - sat a.X) = p at *
  generalize (sat b.Y - sat a.Y) * (sat b.Y - sat a.Y) = q at *
  simp only [IntKind.wrap_i64]; omega

/-- the root, bit by bit: k bits remain -/
def isqB (n : Nat) : Nat → Nat → Nat
  | 0, r => r
  | k + 1, r => isqB n k (if (r + 2 ^ k) * (r + 2 ^ k) ≤ n then r + 2 ^ k else r)
def isq (n : Int) : Int := if n < 0 ∨ n > 4611686018427387904 then 0 else isqB n.toNat 32 0
def bitOf : Nat → Int
  | 0 => 0
  | k + 1 => ((2 ^ k : Nat) : Int)
theorem or_add {r k : Nat} (hr : 2 ^ (k + 1) ∣ r) (hlt : r < 4294967296) (hk : k < 32) : IntKind.i64.wrap (((BitVec.ofInt 64 (r : Int) ||| BitVec.ofInt 64 ((2 ^ k : Nat) : Int)).toNat : Nat) : Int) = ((r + 2 ^ k : Nat) : Int) := by
  obtain ⟨q, rfl⟩ := hr
  have hp : 2 ^ k < 2 ^ (k + 1) := Nat.pow_lt_pow_right (by omega) (by omega)
  have hp2 : 2 ^ k ≤ 2 ^ 31 := Nat.pow_le_pow_right (by omega) (by omega)
  have e : (BitVec.ofInt 64 ((2 ^ (k + 1) * q : Nat) : Int) ||| BitVec.ofInt 64 ((2 ^ k : Nat) : Int)).toNat = 2 ^ (k + 1) * q + 2 ^ k := by
    rw [BitVec.toNat_or, BitVec.ofInt_natCast, BitVec.ofInt_natCast, BitVec.toNat_ofNat, BitVec.toNat_ofNat, Nat.mod_eq_of_lt (by omega), Nat.mod_eq_of_lt (by omega), Nat.two_pow_add_eq_or_of_lt hp]
  rw [e, IntKind.wrap_i64]; omega
theorem isq_bad {n : Int} (h : n < 0 ∨ n > 4611686018427387904) : isq n = 0 := by unfold isq; rw [if_pos h]
theorem isq_good {n : Int} (h : ¬ (n < 0 ∨ n > 4611686018427387904)) : isq n = isqB n.toNat 32 0 := by unfold isq; rw [if_neg h]
theorem bit_half (k : Nat) : ((2 ^ k : Nat) : Int).fdiv (2 ^ min 1 64) = bitOf k := by
  rw [Int.fdiv_eq_ediv_of_nonneg _ (by decide)]
  cases k with
  | zero => decide
  | succ k =>
    show ((2 ^ (k + 1) : Nat) : Int) / 2 = ((2 ^ k : Nat) : Int)
    rw [Nat.pow_succ]; omega
theorem isq_next {r k : Nat} (hr : 2 ^ (k + 1) ∣ r) (hlt : r + 2 ^ (k + 1) ≤ 4294967296) : 2 ^ k ∣ r ∧ r + 2 ^ k ≤ 4294967296 ∧ 2 ^ k ∣ r + 2 ^ k ∧ r + 2 ^ k + 2 ^ k ≤ 4294967296 ∧ 0 < 2 ^ k := by
  have hp : 2 ^ (k + 1) = 2 ^ k * 2 := Nat.pow_succ 2 k
  have h1 : 2 ^ k ∣ r := Nat.dvd_trans ⟨2, hp⟩ hr
  have h0 : 0 < 2 ^ k := Nat.two_pow_pos k
  exact ⟨h1, by omega, Nat.dvd_add h1 (Nat.dvd_refl _), by omega, h0⟩
theorem s_fixed_Isqrt (n : Int) : CallsA Tryz.prog F_fixed_Isqrt [.sc (.int .i64 n)] [] (.sc (.int .i64 (isq n))) [] := by
  refine callsI_of (rs := [_]) hm Tryz.func292 (by kernel_rfl) (by kernel_rfl) is_fixed_Isqrt (by kernel_rfl : tmpsOf Tryz.f292.results.toList = some [2]) (by decide) (by kernel_rfl) ?_
  simp only [c_fixed_Isqrt, go_sem]
  by_cases hn : n < 0 ∨ n > 4611686018427387904
  · rw [if_pos (by by_cases h : n < 0; rw [if_pos h]; rw [if_neg h]; exact decide_eq_true (by omega)), isq_bad hn]
  · rw [if_neg (by rw [if_neg (by omega), decide_eq_false (by omega)]; simp), isq_good hn]
    refine Wpi_loop hm (ι := {p : Nat × Nat // p.1 ≤ 32 ∧ 2 ^ p.1 ∣ p.2 ∧ p.2 + 2 ^ p.1 ≤ 4294967296 ∧ isqB n.toNat p.1 p.2 = isqB n.toNat 32 0}) (fun p => [(0, .share, .sc (.int .i64 n)), (3, .share, .sc (.int .i64 p.1.2)), (4, .share, .sc (.int .i64 (bitOf p.1.1)))])
      (fun p => []) (fun p => p.1.1) ⟨(32, 0), by decide, by decide, by decide, rfl⟩ ?_ ?_
    · refine weakE_ [] [] ?_
      simp only [go_sem]
      decide
    · rintro ⟨⟨k, r⟩, hk, hr, hlt, he⟩
      simp only at hk hr hlt he
      simp only [c_fixed_Isqrtb0, go_sem]
      cases k with
      | zero =>
        rw [if_neg (by decide)]
        rw [← he]; rfl
      | succ k =>
        obtain ⟨a1, a2, a3, a4, a5⟩ := isq_next hr hlt
        rw [if_pos (by show (0 : Int) < ((2 ^ k : Nat) : Int); omega)]
        have hor := or_add hr (by omega) (show k < 32 by omega)
        have hu : ∀ m : Nat, m < 18446744073709551616 → IntKind.u64.wrap (m : Int) = m := fun m hm' => by rw [IntKind.wrap_u64]; omega
        have hun : IntKind.u64.wrap n = n := by rw [IntKind.wrap_u64]; omega
        have hsq : (r + 2 ^ k) * (r + 2 ^ k) < 18446744073709551616 := by
          have h1 : r + 2 ^ k ≤ 4294967295 := by omega
          have := Nat.mul_le_mul h1 h1
          omega
        simp only [show bitOf (k + 1) = ((2 ^ k : Nat) : Int) from rfl, hun, bit_half]
        have key : ∀ X : Int, X = ((r + 2 ^ k : Nat) : Int) → IntKind.u64.wrap (IntKind.u64.wrap X * IntKind.u64.wrap X) = (((r + 2 ^ k) * (r + 2 ^ k) : Nat) : Int) := fun X hX => by
          rw [hX, hu (r + 2 ^ k) (by omega), ← Int.natCast_mul, hu _ hsq]
        generalize hX : IntKind.i64.wrap _ = X
        have hX2 : X = ((r + 2 ^ k : Nat) : Int) := hX.symm.trans hor
        rw [key X hX2]
        clear hX
        subst hX2
        by_cases hc : (r + 2 ^ k) * (r + 2 ^ k) ≤ n.toNat
        · rw [if_pos (by omega)]
          refine ⟨by decide, ?_⟩
          refine loop_next ⟨(k, r + 2 ^ k), by show k ≤ 32; omega, a3, a4, by rw [← he]; simp only [isqB, hc, if_true]⟩ (Nat.lt_succ_self k) (weakE_ [] [] ?_)
          simp only [go_sem]
        · rw [if_neg (by omega)]
          refine ⟨by decide, ?_⟩
          refine loop_next ⟨(k, r), by show k ≤ 32; omega, a1, a2, by rw [← he]; simp only [isqB, hc, if_false]⟩ (Nat.lt_succ_self k) (weakE_ [] [] ?_)
          simp only [go_sem]

end Go.Abs
