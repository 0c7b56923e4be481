/- A part of the walk: contracts of functions that the statement reaches. -/
import Derived.Test.YtlldeiikcfaegaaGreatAbsC
import Derived.Test.YtlldeiikcfaegaaGreatU13
import Derived.Test.YtlldeiikcfaegaaGreatI10
set_option linter.unusedSimpArgs false
set_option linter.unusedVariables false
set_option linter.unnecessarySimpa false
set_option maxRecDepth 100000
set_option maxHeartbeats 2000000
set_option linter.unusedSimpArgs false
set_option linter.unusedVariables false
namespace Go.Abs
open Go.Proofs
open Api
theorem s_r36_Build (w : Api.World) (hw : Wsm w) (h8 : w.Bodies.length ≤ 8) : CallsA Tryz.prog F_r36_Build [.agg w.enc] [] (encD 3 Island.enc default (buildL w)) [] := by
  by_cases hv : d_world_Validate w = 0
  · have h := s_r36_Build_valid w hw h8 (by rw [← validate_eq]; exact hv)
    rw [outR_build hv] at h
    exact CallsA.dataRes (s := encQ Island.enc default (buildL w)) h
  · have hl : buildL w = [] := by unfold buildL; rw [if_neg hv]
    rw [hl]
    refine callsI_of (rs := [_]) hm Tryz.func36 (by kernel_rfl) (by kernel_rfl) is_r36_Build (by kernel_rfl : tmpsOf Tryz.f36.results.toList = some [2]) (by decide) (by kernel_rfl) ?_
    simp only [c_r36_Build, go_sem]
    refine CallGi_flat (s_r25_Validate w hw) rfl ?_
    simp only [go_sem]
    rw [if_pos (by rw [← validate_eq]; simpa using hv)]
    first | exact ⟨rfl, rfl⟩ | simp [avle]
theorem s_EqualIslands (l : List Island) (hl : l.length ≤ 1048576) (hx : ∀ x ∈ l, Isx x) : CallsA Tryz.prog F_r36_EqualIslands [encD 3 Island.enc default l, encD 3 Island.enc default l] [] (.sc (.bool true)) [] := by
  refine callsI_of (rs := [_]) hm Tryz.func35 (by kernel_rfl) (by kernel_rfl) is_r36_EqualIslands (by kernel_rfl : tmpsOf Tryz.f35.results.toList = some [4]) (by decide) (by kernel_rfl) ?_
  simp only [c_r36_EqualIslands, go_sem]
  rw [if_neg (by simp)]
  refine Wpi_loop hm (ι := {i : Nat // i ≤ l.length}) (fun i => [(0, .share, encD 3 Island.enc default l), (1, .share, encD 3 Island.enc default l), (5, .share, .sc (.int .i64 i.1))])
    (fun _ => []) (fun i => l.length - i.1) ⟨0, by omega⟩ ?_ ?_
  · refine weakE_ [] [] ?_
    simp only [go_sem]
  · rintro ⟨i, hi⟩
    simp only [c_r36_EqualIslandsb0, go_sem]
    by_cases hlt : (i : Int) < l.length
    · rw [if_pos hlt]
      have hlt : i < l.length := by omega
      have hX := hx _ (mem_getD default hlt)
      refine ⟨ok_, ok_, ?_⟩
      refine CallGi_flat (s_r36_Equal (l.getD i default) (l.getD i default) hX hX) rfl ?_
      simp only [go_sem]
      rw [if_neg (by rw [eqIs_self]; simp)]
      refine loop_next ⟨i + 1, by omega⟩ (by show l.length - (i + 1) < l.length - i; omega) (weakE_ [] [] ?_)
      simp only [go_sem]
      exact (by rw [IntKind.wrap_i64]; omega)
    · rw [if_neg hlt]
      trivial
theorem s_law36_IslandBuildExact (w : Api.World) : CallsA Tryz.prog F_law36_IslandBuildExact [.agg w.enc] [] (.sc (.bool true)) [] := by
  refine callsI_of (rs := [_]) hm Tryz.func8 (by kernel_rfl) (by kernel_rfl) is_law36_IslandBuildExact (by kernel_rfl : tmpsOf Tryz.f8.results.toList = some [2]) (by decide) (by kernel_rfl) ?_
  simp only [c_law36_IslandBuildExact, go_sem]
  refine CallGi_flat (s_r27_IsSmall w) rfl ?_
  simp only [go_sem]
  cases hs : isSmall w with
  | false =>
    rw [if_pos rfl]
    refine CallGi_flat s_law36_example rfl ?_
    simp only [go_sem]
  | true =>
    rw [if_neg (by simp)]
    have hw := isSmall_sm hs
    obtain ⟨h8, hj, hc⟩ := small_le hs
    have hbl := buildL_len w
    refine CallGi_flat (s_Build w hw) rfl ?_
    simp only [go_sem]
    refine CallGi_flat (s_r36_Build w hw h8) rfl ?_
    simp only [go_sem]
    refine CallGi_flat (s_EqualIslands (buildL w) (by omega) fun x hx => by
      obtain ⟨a, b, c⟩ := buildL_mem hx
      exact ⟨by omega, by omega, by omega⟩) rfl ?_
    simp only [go_sem]
    refine CallGi_flat s_law36_example rfl ?_
    simp only [go_sem]

end Go.Abs
