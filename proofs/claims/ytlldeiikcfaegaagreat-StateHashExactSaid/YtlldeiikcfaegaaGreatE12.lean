/- A part of the walk: contracts of functions that the statement reaches. -/
import Derived.Test.YtlldeiikcfaegaaGreatAbsC
import Derived.Test.YtlldeiikcfaegaaGreatE11
import Derived.Test.YtlldeiikcfaegaaGreatN4
set_option linter.unusedSimpArgs false
set_option linter.unusedVariables false
set_option linter.unnecessarySimpa false
set_option maxRecDepth 100000
set_option maxHeartbeats 2000000
set_option linter.unusedSimpArgs false
set_option linter.unusedVariables false
namespace Go.Abs
open Go.Proofs
open Api
theorem s_r45_Encode (w : Api.World) (hw : Wsm w) (hf : Wfew w) : CallsA Tryz.prog F_r45_Encode [.agg w.enc] [] (.tup [encD 1 encU8 0 (encR w), .sc (.int .i64 (encE w))]) [] := by
  have hl := encW_len hf
  refine callsI_of (rs := [_, _]) hm Tryz.func31 (by kernel_rfl) (by kernel_rfl) is_r45_Encode (by kernel_rfl : tmpsOf Tryz.f31.results.toList = some [2, 3]) (by decide) (by kernel_rfl) ?_
  simp only [c_r45_Encode, go_sem]
  refine CallGi_flat (s_r25_Validate w hw) rfl ?_
  simp only [go_sem]
  unfold encR encE
  by_cases hv : d_world_Validate w = 0
  · rw [if_neg (by rw [← validate_eq, hv]; simp), if_pos hv, if_pos hv]
    refine CallGi_flat (s_r45_appendWorld w hw hf) rfl ?_
    simp only [go_sem]
    refine CallGi_flat (s_r09_Seal (encW w) (by omega)) rfl ?_
    simp only [go_sem]
  · rw [if_pos (by rw [← validate_eq]; simpa using hv), if_neg hv, if_neg hv]
    exact ⟨avle_nilD rfl, rfl⟩
theorem s_r46_OfWorld (w : Api.World) (hw : Wsm w) (hf : Wfew w) : CallsA Tryz.prog F_r46_OfWorld [.agg w.enc] [] (.sc (.int .u64 (ofW w))) [] := by
  have hl := encR_len hf
  refine callsI_of (rs := [_]) hm Tryz.func20 (by kernel_rfl) (by kernel_rfl) is_r46_OfWorld (by kernel_rfl : tmpsOf Tryz.f20.results.toList = some [2]) (by decide) (by kernel_rfl) ?_
  simp only [c_r46_OfWorld, go_sem]
  refine CallGi_flat (s_r45_Encode w hw hf) rfl ?_
  simp only [go_sem]
  unfold ofW encE
  by_cases hv : d_world_Validate w = 0
  · rw [if_pos hv, if_pos hv, if_neg (by simp)]
    refine CallGi_flat (s_r46_OfBytes (encR w) (by omega)) rfl ?_
    simp only [go_sem]
  · rw [if_neg hv, if_neg hv, if_pos (by simp)]
theorem s_newEncoder_own (b : List Int) (hb : b.length ≤ 400000000000) : CallsA Tryz.prog F_snapshot_newEncoder [encD 1 encU8 0 b] [] (.ptr 1 0 0 1) [(1, .box [.sl 2 0 b.length b.length]), (2, .arr 1 (encQ encU8 0 b))] := by
  refine callsIO_of (rs := [_]) hm Tryz.func126 (by kernel_rfl) (by kernel_rfl) is_snapshot_newEncoder (by kernel_rfl : tmpsOf Tryz.f126.results.toList = some [2]) (by decide) (by kernel_rfl) ?_
  simp only [c_snapshot_newEncoder, go_sem]
  refine ⟨⟨by omega, (by simp only [maxLen]; omega)⟩, ?_⟩
  refine retW_of [.share] [(1, 112), (2, 80)] [] rfl rfl (by simp [go_sem]) (by simp [assoc, go_sem]) (by simp [go_sem]) ?_
  simp only [go_sem]
theorem s_newEncoder (b : List Int) (hb : b.length ≤ 400000000000) : CallsA Tryz.prog F_snapshot_newEncoder [encD 1 encU8 0 b] [] (.ptr 1 0 0 1) [(1, .box [encD 1 encU8 0 b]), (2, .frz 1 (encQ encU8 0 b))] := by
  refine CallsA.thawBox (s_newEncoder_own b hb) (id := 1) (k := 2) (z := 1) (s := encQ encU8 0 b) (cs := [.sl 2 0 b.length b.length]) rfl rfl (by decide) ?_ ?_
  · exact ⟨fun _ => rfl, trivial⟩
  · have e : (fun i => (encQ encU8 0 b).g (0 + i)) = encAt encU8 0 b := by funext i; rw [Nat.zero_add]; rfl
    have e2 : thawCells 2 1 (encQ encU8 0 b) [.sl 2 0 b.length b.length] = [encD 1 encU8 0 b] := by
      show [if 2 = 2 then AV.dsl 1 b.length (fun i => (encQ encU8 0 b).g (0 + i)) else AV.sl 2 0 b.length b.length] = _
      rw [if_pos rfl, e]; rfl
    rw [e2]
    funext x
    by_cases h1 : x = 1
    · subst h1; simp [ofL, wrm, upd]
    · by_cases h2 : x = 2
      · subst h2; simp [ofL, wrm, upd]
      · simp [ofL, wrm, upd, h1, h2]
theorem s_AppendBody (b : List Int) (x : Body) (hb : b.length ≤ 100000000000) (hx : Bfew x) : CallsA Tryz.prog F_snapshot_AppendBody [encD 1 encU8 0 b, .agg x.enc] [] (encD 1 encU8 0 (b ++ bodB x)) [] := by
  refine callsI_of (rs := [_]) hm Tryz.func58 (by kernel_rfl) (by kernel_rfl) is_snapshot_AppendBody (by kernel_rfl : tmpsOf Tryz.f58.results.toList = some [4]) (by decide) (by kernel_rfl) ?_
  simp only [c_snapshot_AppendBody, go_sem]
  refine CallGi_obj [true] [] (s_newEncoder b (by omega)) (by simp) (by simp [go_sem]) (by simp [go_sem]) (by simp) ?_
  simp only [argsOC, go_sem]
  refine CallGi_subw (s_enc_body b x hb hx) (okO_eO _) rfl (by simp [go_sem]) (by simp [go_sem, AV.ids]) rfl ?_
  simp only [go_sem]
theorem s_r45_AppendBody0 (x : Body) (hx : Bfew x) : CallsA Tryz.prog F_r45_AppendBody [.sc (.slice none 0 0), .agg x.enc] [] (encD 1 encU8 0 (bodB x)) [] := by
  have h := s_r45_AppendBody [] x (by simp) hx
  exact h.args_le ⟨avle_ok _ _ (avle_nilD rfl), AVleL.refl _⟩
theorem s_AppendBody0 (x : Body) (hx : Bfew x) : CallsA Tryz.prog F_snapshot_AppendBody [.sc (.slice none 0 0), .agg x.enc] [] (encD 1 encU8 0 (bodB x)) [] := by
  have h := s_AppendBody [] x (by simp) hx
  exact h.args_le ⟨avle_ok _ _ (avle_nilD rfl), AVleL.refl _⟩

end Go.Abs
