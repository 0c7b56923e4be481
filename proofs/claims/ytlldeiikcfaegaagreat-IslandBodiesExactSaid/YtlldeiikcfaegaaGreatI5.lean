/- A part of the walk: contracts of functions that the statement reaches. -/
import Derived.Test.YtlldeiikcfaegaaGreatAbsC
import Derived.Test.YtlldeiikcfaegaaGreatI4
set_option linter.unusedSimpArgs false
set_option linter.unusedVariables false
set_option linter.unnecessarySimpa false
set_option maxRecDepth 100000
set_option maxHeartbeats 2000000
set_option linter.unusedSimpArgs false
set_option linter.unusedVariables false
namespace Go.Abs
open Go.Proofs
open Api
def z2 : Vec := ⟨0, 0⟩
def dynBd (id : Int) : Body := ⟨id, 3, ⟨z2, 0⟩, z2, 0, z2, 0, 0, 0, 0, false, false, false, false, 0, []⟩
def exBs : List Body := [dynBd 1, ⟨2, 1, ⟨z2, 0⟩, z2, 0, z2, 0, 0, 0, 0, false, false, false, false, 0, []⟩, dynBd 3]
def exJ (id a b : Int) : Joint := ⟨id, 2, a, b, z2, z2, z2, 0, false, 0, 0, false, 0, 0, 0, 0, false, ⟨0, 0, 0, 0⟩⟩
def exJs : List Joint := [exJ 4 1 2, exJ 5 2 3]
def ex36 : Api.World := ⟨⟨8192, z2, 1, 0⟩, exBs, exJs, [], [], 6, 0⟩
theorem ex36_build : buildL ex36 = [⟨[0], [], [0]⟩, ⟨[2], [], [1]⟩] := by decide +kernel
theorem ex36_bod3 : bod3 ex36 ⟨[0], [], [0]⟩ = [0, 0, 1] := by decide +kernel
theorem ex36_bod : bodL ex36 ⟨[0], [], [0]⟩ = [0, 1] := by
  unfold bodL
  rw [ex36_bod3]
  have : msort [0, 0, 1] = [0, 0, 1] := by
    unfold msort
    first | exact List.mergeSort_of_pairwise (by decide) | exact List.mergeSort_of_sorted (by decide)
  rw [this]
  decide +kernel
theorem ex36_sm : Wsm ex36 := isSmall_sm (by decide +kernel)
theorem ex36_c02 : conB ex36 0 2 = false := by unfold conB; rw [ex36_build]; decide +kernel
theorem ex36_f2 : findI [⟨[0], [], [0]⟩, ⟨[2], [], [1]⟩] 2 = 1 := by decide +kernel
theorem ex36_f1 : findI [⟨[0], [], [0]⟩, ⟨[2], [], [1]⟩] 1 = -1 := by decide +kernel
theorem s_law36_dynamicBody (id : Int) : CallsA Tryz.prog F_law36_dynamicBody [.sc (.int .i64 id)] [] (.agg (dynBd id).enc) [] := by
  refine callsIR'_of (rs := [_]) (N := 5) hm Tryz.func87 (by kernel_rfl) (by kernel_rfl) is_law36_dynamicBody (by kernel_rfl) (by kernel_rfl : rvOf Tryz.prog Tryz.f87.results.toList = some [(2, some (some 20))]) (by decide) (by kernel_rfl) ?_
  simp only [c_law36_dynamicBody, go_sem, dynBd, z2]
  exact avle_nilD rfl
theorem body_le (x : Body) (h : x.Fixtures = []) : avleL (x.enc.set 19 (.sc (.slice none 0 0))) x.enc := by
  simp only [Body.enc, h, encD, List.set_cons_succ, List.set_cons_zero, avleL, true_and, avle, and_true]
  exact rfl
def exL : List Island := [⟨[0], [], [0]⟩, ⟨[2], [], [1]⟩]
theorem exL_B : CallsA Tryz.prog F_island_Build [.agg ex36.enc] [] (encD 3 Island.enc default exL) [] := by
  have h := s_Build ex36 ex36_sm
  rw [ex36_build] at h; exact h
theorem exL_f (a : Int) : CallsA Tryz.prog F_island_Find [encD 3 Island.enc default exL, .sc (.int .i64 a)] [] (.sc (.int .i64 (findI exL a))) [] := s_island_Find exL a (by decide) (by decide)
theorem exL_2 : CallsA Tryz.prog F_island_Find [encD 3 Island.enc default exL, .sc (.int .i64 2)] [] (.sc (.int .i64 1)) [] := ex36_f2 ▸ exL_f 2
theorem exL_1 : CallsA Tryz.prog F_island_Find [encD 3 Island.enc default exL, .sc (.int .i64 1)] [] (.sc (.int .i64 (-1))) [] := ex36_f1 ▸ exL_f 1
theorem exL_c : CallsA Tryz.prog F_island_Connected [.agg ex36.enc, .sc (.int .i64 0), .sc (.int .i64 2)] [] (.sc (.bool false)) [] := ex36_c02 ▸ s_island_Connected ex36 0 2 ex36_sm
theorem exL_b : CallsA Tryz.prog F_island_Bodies [.agg ex36.enc, .agg (Island.enc ⟨[0], [], [0]⟩)] [] (.sl 1 0 2 3) [(1, .arr 1 (encQ encInt 0 [0, 1, 0]))] := by
  have h := s_island_Bodies ex36 ⟨[0], [], [0]⟩ ex36_sm ⟨by decide, by decide, by decide⟩
  rw [ex36_bod, ex36_bod3] at h; exact h
theorem s_law36_example : CallsA Tryz.prog F_law36_example [] [] (.sc (.bool true)) [] := by
  refine callsI_of (rs := [_]) hm Tryz.func32 (by kernel_rfl) (by kernel_rfl) is_law36_example (by kernel_rfl : tmpsOf Tryz.f32.results.toList = some [0]) (by decide) (by kernel_rfl) ?_
  simp only [c_law36_example, go_sem]
  refine CallGi_flat (s_law36_dynamicBody 1) rfl ?_
  simp only [go_sem]
  refine CallGi_flat (s_law36_dynamicBody 3) rfl ?_
  simp only [go_sem, dynBd, z2]
  refine CallGi_thaw exL_B ?_
  simp only [argsC, go_sem]
  refine ⟨by (refine ⟨rfl, rfl, rfl, rfl, rfl, ⟨rfl, rfl, fun i hi => ?_⟩, avle_lit2 (fun _ _ => rfl) rfl rfl rfl, avle_nilD rfl, avle_nilD rfl, rfl, rfl⟩; (match i, hi with | 0, _ => exact avleL_refl _ | 1, _ => exact body_le ⟨2, 1, ⟨z2, 0⟩, z2, 0, z2, 0, 0, 0, 0, false, false, false, false, 0, []⟩ rfl | 2, _ => exact avleL_refl _)), ?_⟩
  simp only [exL, go_sem]
  refine ⟨fun _ => by decide, fun _ => by decide, fun _ => by decide, fun _ => by decide, fun _ => by decide, fun _ => by decide, ?_⟩
  refine CallGi_thaw exL_c ?_
  simp only [argsC, go_sem]
  refine ⟨by (refine ⟨rfl, rfl, rfl, rfl, rfl, ⟨rfl, rfl, fun i hi => ?_⟩, avle_lit2 (fun _ _ => rfl) rfl rfl rfl, avle_nilD rfl, avle_nilD rfl, rfl, rfl⟩; (match i, hi with | 0, _ => exact avleL_refl _ | 1, _ => exact body_le ⟨2, 1, ⟨z2, 0⟩, z2, 0, z2, 0, 0, 0, 0, false, false, false, false, 0, []⟩ rfl | 2, _ => exact avleL_refl _)), ?_⟩
  refine ⟨fun _ => by decide, ?_⟩
  refine CallGi_flat exL_2 rfl ?_
  simp only [exL, go_sem]
  refine CallGi_flat exL_1 rfl ?_
  simp only [exL, go_sem]
  refine ⟨fun _ => by decide, ?_⟩
  refine CallGi_obj [false, false] [] exL_b (by simp) (by simp) (by simp) (by simp) ?_
  simp only [argsOC, go_sem]
  refine ⟨by (refine ⟨rfl, rfl, rfl, rfl, rfl, ⟨rfl, rfl, fun i hi => ?_⟩, avle_lit2 (fun _ _ => rfl) rfl rfl rfl, avle_nilD rfl, avle_nilD rfl, rfl, rfl⟩; (match i, hi with | 0, _ => exact avleL_refl _ | 1, _ => exact body_le ⟨2, 1, ⟨z2, 0⟩, z2, 0, z2, 0, 0, 0, 0, false, false, false, false, 0, []⟩ rfl | 2, _ => exact avleL_refl _)), ⟨avle_refl _, avle_refl _, avle_refl _⟩, ?_⟩
  exact ⟨by decide, by decide⟩

end Go.Abs
