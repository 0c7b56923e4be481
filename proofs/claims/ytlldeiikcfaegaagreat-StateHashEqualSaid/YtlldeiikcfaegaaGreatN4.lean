/- A part of the walk: contracts of functions that the statement reaches. -/
import Derived.Test.YtlldeiikcfaegaaGreatAbsC
import Derived.Test.YtlldeiikcfaegaaGreatN3
import Derived.Test.YtlldeiikcfaegaaGreatE8
import Derived.Test.YtlldeiikcfaegaaGreatY5
set_option linter.unusedSimpArgs false
set_option linter.unusedVariables false
set_option linter.unnecessarySimpa false
set_option maxRecDepth 100000
set_option maxHeartbeats 2000000
set_option linter.unusedSimpArgs false
set_option linter.unusedVariables false
namespace Go.Abs
open Go.Proofs
open Api
/-- the hash of a world -/
def ofW (w : Api.World) : Int := if d_world_Validate w = 0 then hashL ((encR w).length : Nat) ((encR w).map w64) else 0
theorem s_statehash_OfWorld (w : Api.World) (hw : Wsm w) (hf : Wfew w) : CallsA Tryz.prog F_statehash_OfWorld [.agg w.enc] [] (.sc (.int .u64 (ofW w))) [] := by
  have hl := encR_len hf
  refine callsI_of (rs := [_]) hm Tryz.func19 (by kernel_rfl) (by kernel_rfl) is_statehash_OfWorld (by kernel_rfl : tmpsOf Tryz.f19.results.toList = some [2]) (by decide) (by kernel_rfl) ?_
  simp only [c_statehash_OfWorld, go_sem]
  refine CallGi_flat (s_snapshot_Encode w hw hf) rfl ?_
  simp only [go_sem]
  unfold ofW encE
  by_cases hv : d_world_Validate w = 0
  · rw [if_pos hv, if_pos hv, if_neg (by simp)]
    refine CallGi_flat (s_statehash_OfBytes (encR w) (by omega)) rfl ?_
    simp only [go_sem]
  · rw [if_neg hv, if_neg hv, if_pos (by simp)]
theorem eq_guard (a b : Api.World) : ((!decide (a = b) || ofW a == ofW b && ((chgL a b).length : Int) == 0) && ofW a == ofW a) = true := by
  by_cases h : a = b
  · subst h; rw [chg_self]; simp
  · simp [h]
theorem s_law46_StateHashEqual (a b : Api.World) : CallsA Tryz.prog F_law46_StateHashEqual [.agg a.enc, .agg b.enc] [] (.sc (.bool true)) [] := by
  refine callsI_of (rs := [_]) hm Tryz.func14 (by kernel_rfl) (by kernel_rfl) is_law46_StateHashEqual (by kernel_rfl : tmpsOf Tryz.f14.results.toList = some [4]) (by decide) (by kernel_rfl) ?_
  simp only [c_law46_StateHashEqual, go_sem]
  refine CallGi_flat (s_r25_Few a) rfl ?_
  simp only [go_sem]
  cases hfa : few25 a with
  | false =>
    refine CallGi_skip (by simp) (.sc (.bool true)) ?_
    simp only [go_sem]
    refine CallGi_flat s_law46_example rfl ?_
    simp only [go_sem]
  | true =>
    refine CallGi_flat (s_r25_Few b) rfl ?_
    simp only [go_sem]
    cases hfb : few25 b with
    | false =>
      simp only [go_sem]
      refine CallGi_flat s_law46_example rfl ?_
      simp only [go_sem]
    | true =>
      have ha := few25_sm hfa
      have hb := few25_sm hfb
      have fa := few25_few hfa
      have fb := few25_few hfb
      have la := encR_len fa
      have hA := s_statehash_OfWorld a ha fa
      have hB := s_statehash_OfWorld b hb fb
      simp only [go_sem]
      refine CallGi_flat (s_world_Equal a b ha) rfl ?_
      simp only [go_sem]
      refine CallGi_flat (s_snapshot_Encode a ha fa) rfl ?_
      simp only [go_sem]
      refine CallGi_flat (s_statehash_OfBytes (encR a) (by omega)) rfl ?_
      simp only [go_sem]
      by_cases hv : d_world_Validate a = 0
      · have he : encE a = 0 := if_pos hv
        have ho : hashL ((encR a).length : Nat) ((encR a).map w64) = ofW a := by unfold ofW; rw [if_pos hv]
        rw [if_neg (by rw [he]; simp), ho]
        refine CallGi_flat hA rfl ?_
        simp only [go_sem]
        refine CallGi_flat hB rfl ?_
        simp only [go_sem]
        refine CallGi_flat (s_ChangedBodies a b ha hb) rfl ?_
        simp only [go_sem]
        refine ⟨fun h => ⟨h, fun h2 => by rw [decide_eq_true h, h2]; rfl⟩, ?_⟩
        refine CallGi_flat hA rfl ?_
        simp only [go_sem]
        have hg := eq_guard a b
        rw [hg]
        refine CallGi_obj [true] [] (s_r25_Clone a ha) (by simp) (by simp [go_sem]) (by simp [go_sem]) (by simp) ?_
        simp only [go_sem]
        refine CallGi_keep hA rfl (by simp only [argsC, go_sem]) ?_
        simp only [beq_self_eq_true, go_sem]
        refine CallGi_flat s_law46_example rfl ?_
        simp only [go_sem]
      · have he : encE a = 18 := if_neg hv
        have ho : ofW a = 0 := by unfold ofW; rw [if_neg hv]
        rw [if_pos (by rw [he]; simp)]
        refine CallGi_flat hA rfl ?_
        simp only [go_sem]
        refine CallGi_flat hB rfl ?_
        simp only [go_sem]
        refine CallGi_flat (s_ChangedBodies a b ha hb) rfl ?_
        simp only [go_sem]
        refine ⟨fun h => ⟨h, fun h2 => by rw [decide_eq_true h, h2]; rfl⟩, ?_⟩
        refine CallGi_flat hA rfl ?_
        simp only [go_sem]
        have hg : ((!decide (a = b) || ofW a == ofW b && ((chgL a b).length : Int) == 0) && ofW a == 0) = true := by
          have := eq_guard a b
          rw [Bool.and_eq_true] at this ⊢
          exact ⟨this.1, by rw [ho]; rfl⟩
        rw [hg]
        refine CallGi_obj [true] [] (s_r25_Clone a ha) (by simp) (by simp [go_sem]) (by simp [go_sem]) (by simp) ?_
        simp only [go_sem]
        refine CallGi_keep hA rfl (by simp only [argsC, go_sem]) ?_
        simp only [ho, beq_self_eq_true, go_sem]
        refine CallGi_flat s_law46_example rfl ?_
        simp only [go_sem]

end Go.Abs
