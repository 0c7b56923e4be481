/- A part of the walk: contracts of functions that the statement reaches. -/
import Derived.Test.YtbpaheflphafiaaH2
set_option linter.unusedSimpArgs false
set_option linter.unusedVariables false
set_option linter.unnecessarySimpa false
set_option maxRecDepth 100000
set_option maxHeartbeats 400000
set_option linter.unusedSimpArgs false
set_option linter.unusedVariables false
namespace Go.Abs
open Go.Proofs
open Api
theorem s_world_in (n lo hi : Int) : CallsA Try.prog F_world_in [.sc (.int .i64 n), .sc (.int .i64 lo), .sc (.int .i64 hi)] [] (.sc (.bool (decide (lo ≤ n ∧ n ≤ hi)))) [] := by
  refine callsI_of (rs := [_]) hm Try.func111 (by kernel_rfl) (by kernel_rfl) is_world_in (by kernel_rfl : tmpsOf Try.f111.results.toList = some [6]) (by decide) (by kernel_rfl) ?_
  simp only [c_world_in, go_sem, reduceIte, Nat.reduceEqDiff, reduceCtorEq, Nat.reduceAdd, Nat.reduceLeDiff, Nat.reduceMul, Nat.reduceSub, Int.reduceToNat]
  by_cases h1 : lo ≤ n <;> by_cases h2 : n ≤ hi <;> simp [h1, h2]
def settingsOk (s : Settings) : Bool := decide (64 ≤ s.TimeStep ∧ s.TimeStep ≤ 8192) && (decide (-16777216 ≤ s.Gravity.X ∧ s.Gravity.X ≤ 16777216) && decide (-16777216 ≤ s.Gravity.Y ∧ s.Gravity.Y ≤ 16777216)) && decide (1 ≤ s.Iterations ∧ s.Iterations ≤ 32) && decide (0 ≤ s.SleepSteps ∧ s.SleepSteps ≤ 1048576)
theorem s_world_ValidateSettings (s : Settings) : CallsA Try.prog F_world_ValidateSettings [.agg s.enc] [] (.sc (.int .i64 (if settingsOk s then 0 else 6))) [] := by
  refine callsI_of (rs := [_]) hm Try.func110 (by kernel_rfl) (by kernel_rfl) is_world_ValidateSettings (by kernel_rfl : tmpsOf Try.f110.results.toList = some [2]) (by decide) (by kernel_rfl) ?_
  simp only [c_world_ValidateSettings, go_sem, reduceIte, Nat.reduceEqDiff, reduceCtorEq, Nat.reduceAdd, Nat.reduceLeDiff, Nat.reduceMul, Nat.reduceSub, Int.reduceToNat]
  iterate 5 (refine CallGi_flat (s_world_in _ _ _) rfl ?_; simp only [go_sem, reduceIte, Nat.reduceEqDiff, reduceCtorEq, Nat.reduceAdd, Nat.reduceLeDiff, Nat.reduceMul, Nat.reduceSub, Int.reduceToNat])
  unfold settingsOk
  by_cases g1 : 64 ≤ s.TimeStep ∧ s.TimeStep ≤ 8192 <;> by_cases g2 : -16777216 ≤ s.Gravity.X ∧ s.Gravity.X ≤ 16777216 <;> by_cases g3 : -16777216 ≤ s.Gravity.Y ∧ s.Gravity.Y ≤ 16777216 <;>
    by_cases g4 : 1 ≤ s.Iterations ∧ s.Iterations ≤ 32 <;> by_cases g5 : 0 ≤ s.SleepSteps ∧ s.SleepSteps ≤ 1048576 <;> simp [g1, g2, g3, g4, g5]
theorem s_Validate_zero : CallsA Try.prog F_world_Validate [.agg World.zero] [] (.sc (.int .i64 17)) [] := by
  refine callsI_of (rs := [_]) hm Try.func93 (by kernel_rfl) (by kernel_rfl) is_world_Validate (by kernel_rfl : tmpsOf Try.f93.results.toList = some [2]) (by decide) (by kernel_rfl) ?_
  simp only [c_world_Validate, go_sem, reduceIte, Nat.reduceEqDiff, reduceCtorEq, Nat.reduceAdd, Nat.reduceLeDiff, Nat.reduceMul, Nat.reduceSub, Int.reduceToNat]
  refine CallGi_flat (s_world_ValidateSettings ⟨0, ⟨0, 0⟩, 0, 0⟩) rfl ?_
  simp only [show ((if settingsOk ⟨0, ⟨0, 0⟩, 0, 0⟩ = true then (0 : Int) else 6) != 0) = true from by decide, go_sem, reduceIte, Nat.reduceEqDiff, reduceCtorEq, Nat.reduceAdd, Nat.reduceLeDiff, Nat.reduceMul, Nat.reduceSub, Int.reduceToNat]
theorem s_Encode_zero : CallsA Try.prog F_snapshot_Encode [.agg World.zero] [] (.tup [.sc (.slice none 0 0), .sc (.int .i64 18)]) [] := by
  refine callsI_of (rs := [_, _]) hm Try.func72 (by kernel_rfl) (by kernel_rfl) is_snapshot_Encode (by kernel_rfl : tmpsOf Try.f72.results.toList = some [2, 3]) (by decide) (by kernel_rfl) ?_
  simp only [c_snapshot_Encode, go_sem, reduceIte, Nat.reduceEqDiff, reduceCtorEq, Nat.reduceAdd, Nat.reduceLeDiff, Nat.reduceMul, Nat.reduceSub, Int.reduceToNat]
  refine CallGi_flat s_Validate_zero rfl ?_
  simp only [show ((17 : Int) != 0) = true from by decide, go_sem, reduceIte, Nat.reduceEqDiff, reduceCtorEq, Nat.reduceAdd, Nat.reduceLeDiff, Nat.reduceMul, Nat.reduceSub, Int.reduceToNat]
theorem s_OfWorld_zero : CallsA Try.prog F_statehash_OfWorld [.agg World.zero] [] (.sc (.int .u64 0)) [] := by
  refine callsI_of (rs := [_]) hm Try.func50 (by kernel_rfl) (by kernel_rfl) is_statehash_OfWorld (by kernel_rfl : tmpsOf Try.f50.results.toList = some [2]) (by decide) (by kernel_rfl) ?_
  simp only [c_statehash_OfWorld, go_sem, reduceIte, Nat.reduceEqDiff, reduceCtorEq, Nat.reduceAdd, Nat.reduceLeDiff, Nat.reduceMul, Nat.reduceSub, Int.reduceToNat]
  refine CallGi_flat s_Encode_zero rfl ?_
  simp only [show ((18 : Int) != 0) = true from by decide, go_sem, reduceIte, Nat.reduceEqDiff, reduceCtorEq, Nat.reduceAdd, Nat.reduceLeDiff, Nat.reduceMul, Nat.reduceSub, Int.reduceToNat]

theorem avle_lit {α : Type} {enc : α → List AV} {d : α} {l : List α} {z n : Nat} {g : Nat → List AV} (hn : n = l.length) (h : ∀ i, i < l.length → g i = enc (l.getD i d)) : avle (.dsl z n g) (.dsl z l.length (encAt enc d l)) := by
  subst hn
  simp only [avle, true_and]
  intro i hi; rw [h i hi]; exact avleL_refl _

theorem s_law46_example : CallsA Try.prog F_law46_example [] [] (.sc (.bool true)) [] := by
  refine callsI_of (rs := [_]) hm Try.func28 (by kernel_rfl) (by kernel_rfl) is_law46_example (by kernel_rfl : tmpsOf Try.f28.results.toList = some [0]) (by decide) (by kernel_rfl) ?_
  simp only [c_law46_example, go_sem, reduceIte, Nat.reduceEqDiff, reduceCtorEq, Nat.reduceAdd, Nat.reduceLeDiff, Nat.reduceMul, Nat.reduceSub, Int.reduceToNat]
  refine CallGi_obj [false, false] [] (s_statehash_FirstDifference [1, 2, 3] [1, 5, 3] (by simp) (by simp)) (by simp) (by simp) (by simp) (by simp) ?_
  simp only [go_sem, reduceIte, Nat.reduceEqDiff, reduceCtorEq, Nat.reduceAdd, Nat.reduceLeDiff, Nat.reduceMul, Nat.reduceSub, Int.reduceToNat]
  refine ⟨avle_lit (l := ([1, 2, 3] : List Int)) rfl (fun i hi => by match i, hi with | 0, _ => rfl | 1, _ => rfl | 2, _ => rfl), avle_lit (l := ([1, 5, 3] : List Int)) rfl (fun i hi => by match i, hi with | 0, _ => rfl | 1, _ => rfl | 2, _ => rfl), ?_⟩
  have e1 : firstDiff [1, 2, 3] [1, 5, 3] = 1 := by decide
  have e2 : firstDiff [] [] = -1 := by decide
  simp only [e1, beq_self_eq_true, go_sem, reduceIte, Nat.reduceEqDiff, reduceCtorEq, Nat.reduceAdd, Nat.reduceLeDiff, Nat.reduceMul, Nat.reduceSub, Int.reduceToNat]
  refine CallGi_obj [false, false] [] (s_statehash_FirstDifference [] [] (by simp) (by simp)) (by simp) (by simp) (by simp) (by simp) ?_
  simp only [e1, e2, beq_self_eq_true, avle_sc_dsl, List.length_nil, go_sem, reduceIte, Nat.reduceEqDiff, reduceCtorEq, Nat.reduceAdd, Nat.reduceLeDiff, Nat.reduceMul, Nat.reduceSub, Int.reduceToNat]
  refine CallGi_flat s_OfWorld_zero rfl ?_
  simp only [show ((0 : Int) == 0) = true from by decide, go_sem, reduceIte, Nat.reduceEqDiff, reduceCtorEq, Nat.reduceAdd, Nat.reduceLeDiff, Nat.reduceMul, Nat.reduceSub, Int.reduceToNat]
  refine CallGi_obj [false] [] (s_statehash_OfBytes [] (by simp)) (by simp) (by simp) (by simp) (by simp) ?_
  simp only [avle_sc_dsl, List.length_nil, List.map_nil, show ((hashL ((0 : Nat) : Int) []) == 0) = true from by decide, go_sem, reduceIte, Nat.reduceEqDiff, reduceCtorEq, Nat.reduceAdd, Nat.reduceLeDiff, Nat.reduceMul, Nat.reduceSub, Int.reduceToNat]
  refine CallGi_obj [false] [] (s_statehash_Chain [] (by simp)) (by simp) (by simp) (by simp) (by simp) ?_
  simp only [avle_sc_dsl, List.length_nil, List.map_nil, show ((hashL (0 : Int) []) == 0) = true from by decide, go_sem, reduceIte, Nat.reduceEqDiff, reduceCtorEq, Nat.reduceAdd, Nat.reduceLeDiff, Nat.reduceMul, Nat.reduceSub, Int.reduceToNat]
  refine CallGi_obj [false] [] (s_statehash_OfBytes [7] (by simp)) (by simp) (by simp) (by simp) (by simp) ?_
  simp only [show ((hashL (0 : Int) []) == 0) = true from by decide, go_sem, reduceIte, Nat.reduceEqDiff, reduceCtorEq, Nat.reduceAdd, Nat.reduceLeDiff, Nat.reduceMul, Nat.reduceSub, Int.reduceToNat]
  refine ⟨avle_lit (l := ([7] : List Int)) rfl (fun i hi => by match i, hi with | 0, _ => rfl), ?_⟩
  refine CallGi_obj [false] [] (s_checksum_HashInts [7] (by simp)) (by simp) (by simp) (by simp) (by simp) ?_
  simp only [go_sem, reduceIte, Nat.reduceEqDiff, reduceCtorEq, Nat.reduceAdd, Nat.reduceLeDiff, Nat.reduceMul, Nat.reduceSub, Int.reduceToNat]
  refine ⟨avle_lit (l := ([7] : List Int)) rfl (fun i hi => by match i, hi with | 0, _ => rfl), ?_⟩
  rw [show w64 7 = 7 from by decide]
  exact beq_self_eq_true _

theorem s_law46_StateHashBytes (l : List Int) : CallsA Try.prog F_law46_StateHashBytes [encD 1 encU8 0 l] [] (.sc (.bool true)) [] := by
  refine callsI_of (rs := [_]) hm Try.func8 (by kernel_rfl) (by kernel_rfl) is_law46_StateHashBytes (by kernel_rfl : tmpsOf Try.f8.results.toList = some [2]) (by decide) (by kernel_rfl) ?_
  simp only [c_law46_StateHashBytes, go_sem, reduceIte, Nat.reduceEqDiff, reduceCtorEq, Nat.reduceAdd, Nat.reduceLeDiff, Nat.reduceMul, Nat.reduceSub, Int.reduceToNat]
  split
  · refine CallGi_flat s_law46_example rfl ?_
    simp only [go_sem, reduceIte, Nat.reduceEqDiff, reduceCtorEq, Nat.reduceAdd, Nat.reduceLeDiff, Nat.reduceMul, Nat.reduceSub, Int.reduceToNat]
  · rename_i hc
    refine CallGi_flat (s_statehash_OfBytes l (by omega)) rfl ?_
    simp only [go_sem, reduceIte, Nat.reduceEqDiff, reduceCtorEq, Nat.reduceAdd, Nat.reduceLeDiff, Nat.reduceMul, Nat.reduceSub, Int.reduceToNat]
    refine CallGi_flat (s_r46_OfBytes l (by omega)) rfl ?_
    simp only [beq_self_eq_true, go_sem, reduceIte, Nat.reduceEqDiff, reduceCtorEq, Nat.reduceAdd, Nat.reduceLeDiff, Nat.reduceMul, Nat.reduceSub, Int.reduceToNat]
    refine CallGi_flat s_law46_example rfl ?_
    simp only [go_sem, reduceIte, Nat.reduceEqDiff, reduceCtorEq, Nat.reduceAdd, Nat.reduceLeDiff, Nat.reduceMul, Nat.reduceSub, Int.reduceToNat]

theorem sameAt_comm (a b : List Int) (i : Nat) : sameAt a b i = sameAt b a i := by
  unfold sameAt; rw [Bool.and_comm (decide (i < a.length)), BEq.comm]
theorem firstDiff_comm (a b : List Int) : firstDiff a b = firstDiff b a := by
  unfold firstDiff; simp only [sameAt_comm a b, Nat.max_comm a.length]
theorem firstDiff_self (a : List Int) : firstDiff a a = -1 := firstDiff_none fun j hj => by simp only [Nat.max_self] at hj; simp [sameAt, hj]

theorem s_law46_StateHashChain (a b : List Int) : CallsA Try.prog F_law46_StateHashChain [encD 1 encU64 0 a, encD 1 encU64 0 b] [] (.sc (.bool true)) [] := by
  refine callsI_of (rs := [_]) hm Try.func9 (by kernel_rfl) (by kernel_rfl) is_law46_StateHashChain (by kernel_rfl : tmpsOf Try.f9.results.toList = some [4]) (by decide) (by kernel_rfl) ?_
  simp only [c_law46_StateHashChain, go_sem, reduceIte, Nat.reduceEqDiff, reduceCtorEq, Nat.reduceAdd, Nat.reduceLeDiff, Nat.reduceMul, Nat.reduceSub, Int.reduceToNat]
  by_cases hc : a.length ≤ 2000 ∧ b.length ≤ 2000
  · obtain ⟨ha, hb⟩ := hc
    rw [if_neg (by rw [if_neg (by omega), decide_eq_false (by omega)]; simp)]
    refine CallGi_flat (s_statehash_Chain a (by omega)) rfl ?_
    simp only [go_sem, reduceIte, Nat.reduceEqDiff, reduceCtorEq, Nat.reduceAdd, Nat.reduceLeDiff, Nat.reduceMul, Nat.reduceSub, Int.reduceToNat]
    refine CallGi_flat (s_r46_Chain a (by omega)) rfl ?_
    simp only [beq_self_eq_true, go_sem, reduceIte, Nat.reduceEqDiff, reduceCtorEq, Nat.reduceAdd, Nat.reduceLeDiff, Nat.reduceMul, Nat.reduceSub, Int.reduceToNat]
    refine CallGi_flat (s_statehash_FirstDifference a b (by omega) (by omega)) rfl ?_
    simp only [go_sem, reduceIte, Nat.reduceEqDiff, reduceCtorEq, Nat.reduceAdd, Nat.reduceLeDiff, Nat.reduceMul, Nat.reduceSub, Int.reduceToNat]
    refine CallGi_flat (s_r46_FirstDifference a b (by omega) (by omega)) rfl ?_
    simp only [beq_self_eq_true, go_sem, reduceIte, Nat.reduceEqDiff, reduceCtorEq, Nat.reduceAdd, Nat.reduceLeDiff, Nat.reduceMul, Nat.reduceSub, Int.reduceToNat]
    refine CallGi_flat (s_statehash_FirstDifference b a (by omega) (by omega)) rfl ?_
    simp only [firstDiff_comm b a, go_sem, reduceIte, Nat.reduceEqDiff, reduceCtorEq, Nat.reduceAdd, Nat.reduceLeDiff, Nat.reduceMul, Nat.reduceSub, Int.reduceToNat]
    refine CallGi_flat (s_statehash_FirstDifference a b (by omega) (by omega)) rfl ?_
    simp only [beq_self_eq_true, go_sem, reduceIte, Nat.reduceEqDiff, reduceCtorEq, Nat.reduceAdd, Nat.reduceLeDiff, Nat.reduceMul, Nat.reduceSub, Int.reduceToNat]
    refine CallGi_flat (s_statehash_FirstDifference a a (by omega) (by omega)) rfl ?_
    simp only [firstDiff_self, beq_self_eq_true, go_sem, reduceIte, Nat.reduceEqDiff, reduceCtorEq, Nat.reduceAdd, Nat.reduceLeDiff, Nat.reduceMul, Nat.reduceSub, Int.reduceToNat]
    refine CallGi_flat s_law46_example rfl ?_
    simp only [go_sem, reduceIte, Nat.reduceEqDiff, reduceCtorEq, Nat.reduceAdd, Nat.reduceLeDiff, Nat.reduceMul, Nat.reduceSub, Int.reduceToNat]
  · rw [if_pos (by by_cases h : 2000 < (a.length : Int); rw [if_pos h]; rw [if_neg h]; exact decide_eq_true (by omega))]
    refine CallGi_flat s_law46_example rfl ?_
    simp only [go_sem, reduceIte, Nat.reduceEqDiff, reduceCtorEq, Nat.reduceAdd, Nat.reduceLeDiff, Nat.reduceMul, Nat.reduceSub, Int.reduceToNat]

end Go.Abs
