/- A part of the walk: contracts of functions that the statement reaches. -/
import Derived.Test.YtlldeiikcfaegaaGreatAbsC
import Derived.Test.YtlldeiikcfaegaaGreatE2
import Derived.Test.YtlldeiikcfaegaaGreatT7
set_option linter.unusedSimpArgs false
set_option linter.unusedVariables false
set_option linter.unnecessarySimpa false
set_option maxRecDepth 100000
set_option maxHeartbeats 2000000
set_option linter.unusedSimpArgs false
set_option linter.unusedVariables false
namespace Go.Abs
open Go.Proofs
open Api
theorem s_Validate_zero : CallsA Tryz.prog F_world_Validate [.agg World.zero] [] (.sc (.int .i64 17)) [] := by
  refine callsI_of (rs := [_]) hm Tryz.func26 (by kernel_rfl) (by kernel_rfl) is_world_Validate (by kernel_rfl : tmpsOf Tryz.f26.results.toList = some [2]) (by decide) (by kernel_rfl) ?_
  simp only [c_world_Validate, go_sem]
  refine CallGi_flat (s_world_ValidateSettings ⟨0, ⟨0, 0⟩, 0, 0⟩) rfl ?_
  simp only [show (d_world_ValidateSettings ⟨0, ⟨0, 0⟩, 0, 0⟩ != 0) = true from by decide, go_sem]
theorem s_Encode_zero : CallsA Tryz.prog F_snapshot_Encode [.agg World.zero] [] (.tup [.sc (.slice none 0 0), .sc (.int .i64 18)]) [] := by
  refine callsI_of (rs := [_, _]) hm Tryz.func25 (by kernel_rfl) (by kernel_rfl) is_snapshot_Encode (by kernel_rfl : tmpsOf Tryz.f25.results.toList = some [2, 3]) (by decide) (by kernel_rfl) ?_
  simp only [c_snapshot_Encode, go_sem]
  refine CallGi_flat s_Validate_zero rfl ?_
  simp only [show ((17 : Int) != 0) = true from by decide, go_sem]
theorem s_OfWorld_zero : CallsA Tryz.prog F_statehash_OfWorld [.agg World.zero] [] (.sc (.int .u64 0)) [] := by
  refine callsI_of (rs := [_]) hm Tryz.func19 (by kernel_rfl) (by kernel_rfl) is_statehash_OfWorld (by kernel_rfl : tmpsOf Tryz.f19.results.toList = some [2]) (by decide) (by kernel_rfl) ?_
  simp only [c_statehash_OfWorld, go_sem]
  refine CallGi_flat s_Encode_zero rfl ?_
  simp only [show ((18 : Int) != 0) = true from by decide, go_sem]

theorem avle_litz {α : Type} {enc : α → List AV} {d : α} {l : List α} {z n : Nat} {g : Nat → List AV} (hn : n = l.length) (h : ∀ i, i < l.length → g i = enc (l.getD i d)) : avle (.dsl z n g) (.dsl z l.length (encAt enc d l)) := by
  subst hn
  simp only [avle, true_and]
  intro i hi; rw [h i hi]; exact avleL_refl _

theorem s_law46_example : CallsA Tryz.prog F_law46_example [] [] (.sc (.bool true)) [] := by
  refine callsI_of (rs := [_]) hm Tryz.func16 (by kernel_rfl) (by kernel_rfl) is_law46_example (by kernel_rfl : tmpsOf Tryz.f16.results.toList = some [0]) (by decide) (by kernel_rfl) ?_
  simp only [c_law46_example, go_sem]
  refine CallGi_obj [false, false] [] (s_statehash_FirstDifference [1, 2, 3] [1, 5, 3] (by simp) (by simp)) (by simp) (by simp) (by simp) (by simp) ?_
  simp only [go_sem]
  refine ⟨avle_litz (l := ([1, 2, 3] : List Int)) rfl (fun i hi => by match i, hi with | 0, _ => rfl | 1, _ => rfl | 2, _ => rfl), avle_litz (l := ([1, 5, 3] : List Int)) rfl (fun i hi => by match i, hi with | 0, _ => rfl | 1, _ => rfl | 2, _ => rfl), ?_⟩
  have e1 : firstDiff [1, 2, 3] [1, 5, 3] = 1 := by decide
  have e2 : firstDiff [] [] = -1 := by decide
  simp only [e1, beq_self_eq_true, go_sem]
  refine CallGi_obj [false, false] [] (s_statehash_FirstDifference [] [] (by simp) (by simp)) (by simp) (by simp) (by simp) (by simp) ?_
  simp only [e1, e2, beq_self_eq_true, avle_sc_dsl, List.length_nil, go_sem]
  refine CallGi_flat s_OfWorld_zero rfl ?_
  simp only [show ((0 : Int) == 0) = true from by decide, go_sem]
  refine CallGi_obj [false] [] (s_statehash_OfBytes [] (by simp)) (by simp) (by simp) (by simp) (by simp) ?_
  simp only [avle_sc_dsl, List.length_nil, List.map_nil, show ((hashL ((0 : Nat) : Int) []) == 0) = true from by decide, go_sem]
  refine CallGi_obj [false] [] (s_statehash_Chain [] (by simp)) (by simp) (by simp) (by simp) (by simp) ?_
  simp only [avle_sc_dsl, List.length_nil, List.map_nil, show ((hashL (0 : Int) []) == 0) = true from by decide, go_sem]
  refine CallGi_obj [false] [] (s_statehash_OfBytes [7] (by simp)) (by simp) (by simp) (by simp) (by simp) ?_
  simp only [show ((hashL (0 : Int) []) == 0) = true from by decide, go_sem]
  refine ⟨avle_litz (l := ([7] : List Int)) rfl (fun i hi => by match i, hi with | 0, _ => rfl), ?_⟩
  refine CallGi_obj [false] [] (s_checksum_HashInts [7] (by simp)) (by simp) (by simp) (by simp) (by simp) ?_
  simp only [go_sem]
  refine ⟨avle_litz (l := ([7] : List Int)) rfl (fun i hi => by match i, hi with | 0, _ => rfl), ?_⟩
  rw [show w64 7 = 7 from by decide]
  exact beq_self_eq_true _


end Go.Abs
