/- A part of the walk: contracts of functions that the statement reaches. -/
import Derived.Test.YtlldeiikcfaegaaGreatAbsC
import Derived.Test.YtlldeiikcfaegaaGreatE12
set_option linter.unusedSimpArgs false
set_option linter.unusedVariables false
set_option linter.unnecessarySimpa false
set_option maxRecDepth 100000
set_option maxHeartbeats 2000000
set_option linter.unusedSimpArgs false
set_option linter.unusedVariables false
namespace Go.Abs
open Go.Proofs
open Api
def hB (x : Body) : Int := hashL ((bodB x).length : Nat) ((bodB x).map w64)
def ofB (w : Api.World) : List Int := w.Bodies.map hB

theorem s_statehash_OfBodies (w : Api.World) (hw : Wsm w) (hf : Wfew w) : CallsA Tryz.prog F_statehash_OfBodies [.agg w.enc] [] (encD 1 encU64 0 (ofB w)) [] := by
  obtain ⟨f1, f2, f3, f4, f5, f6⟩ := hf
  refine callsI_of (rs := [_]) hm Tryz.func17 (by kernel_rfl) (by kernel_rfl) is_statehash_OfBodies (by kernel_rfl : tmpsOf Tryz.f17.results.toList = some [2]) (by decide) (by kernel_rfl) ?_
  simp only [c_statehash_OfBodies, go_sem]
  refine Wpi_loop hm (ι := {i : Nat // i ≤ w.Bodies.length}) (fun i => [(3, if i.1 = 0 then .adopt else .share, .sl 1 0 i.1 i.1), (7, .share, encD 20 Body.enc default w.Bodies), (8, .share, .sc (.int .i64 w.Bodies.length)), (9, .share, .sc (.int .i64 i.1))])
    (fun i => [(1, .arr 1 (encQ encU64 0 ((w.Bodies.take i.1).map hB)))]) (fun i => w.Bodies.length - i.1) ⟨0, by omega⟩ ?_ ?_
  · refine weakE_ [] [1] ?_
    simp only [List.take_zero, List.map_nil, List.length_nil, go_sem]
    try simp
  · rintro ⟨i, hi⟩
    simp only [c_statehash_OfBodiesb0, go_sem]
    by_cases hlt : i < w.Bodies.length
    · rw [if_pos (by omega)]
      have hx := f2 _ (mem_getD default hlt)
      have hbl := bodB_len hx
      have hlen : (List.map hB (List.take i w.Bodies)).length = i := by simp; omega
      refine ⟨ok_, ?_⟩
      refine CallGi_flat (s_AppendBody0 (w.Bodies.getD i default) hx) rfl ?_
      simp only [go_sem]
      refine CallGi_flat (s_statehash_OfBytes (bodB (w.Bodies.getD i default)) (by omega)) rfl ?_
      simp only [go_sem]
      refine ⟨⟨hlen.symm, hlen.symm, by omega, by simp only [maxLen]; omega⟩, ?_⟩
      refine loop_next ⟨i + 1, by omega⟩ (by show w.Bodies.length - (i + 1) < w.Bodies.length - i; omega) (weakE_ [] [] ?_)
      have hst : (List.map hB (List.take (i + 1) w.Bodies)) = (List.map hB (List.take i w.Bodies)) ++ [hB (w.Bodies.getD i default)] := by rw [take_snoc default hlt, List.map_append]; rfl
      simp only [hst, go_sem]
      refine ⟨by omega, (by rw [IntKind.wrap_i64]; omega), q_app1 (hB (w.Bodies.getD i default)) rfl rfl⟩
    · rw [if_neg (by omega)]
      obtain rfl : i = w.Bodies.length := by omega
      have hl : (ofB w).length = w.Bodies.length := by unfold ofB; rw [List.length_map]
      have he : List.map hB w.Bodies = ofB w := rfl
      rw [List.take_length, he, hl]
      exact ⟨rfl, avle_refl _⟩

theorem s_r46_OfBodies (w : Api.World) (hw : Wsm w) (hf : Wfew w) : CallsA Tryz.prog F_r46_OfBodies [.agg w.enc] [] (encD 1 encU64 0 (ofB w)) [] := by
  obtain ⟨f1, f2, f3, f4, f5, f6⟩ := hf
  refine callsI_of (rs := [_]) hm Tryz.func18 (by kernel_rfl) (by kernel_rfl) is_r46_OfBodies (by kernel_rfl : tmpsOf Tryz.f18.results.toList = some [2]) (by decide) (by kernel_rfl) ?_
  simp only [c_r46_OfBodies, go_sem]
  refine Wpi_loop hm (ι := {i : Nat // i ≤ w.Bodies.length}) (fun i => [(3, if i.1 = 0 then .adopt else .share, .sl 1 0 i.1 i.1), (1, .share, .ptr 32 0 0 1), (4, .share, .sc (.int .i64 i.1))])
    (fun i => [(32, .box w.enc), (1, .arr 1 (encQ encU64 0 ((w.Bodies.take i.1).map hB)))]) (fun i => w.Bodies.length - i.1) ⟨0, by omega⟩ ?_ ?_
  · refine weakE_ [] [1] ?_
    simp only [List.take_zero, List.map_nil, List.length_nil, go_sem]
    try simp
  · rintro ⟨i, hi⟩
    simp only [c_r46_OfBodiesb0, go_sem]
    by_cases hlt : i < w.Bodies.length
    · rw [if_pos (by omega)]
      have hx := f2 _ (mem_getD default hlt)
      have hbl := bodB_len hx
      have hlen : (List.map hB (List.take i w.Bodies)).length = i := by simp; omega
      refine ⟨ok_, ?_⟩
      refine CallGi_flat (s_r45_AppendBody0 (w.Bodies.getD i default) hx) rfl ?_
      simp only [go_sem]
      refine CallGi_flat (s_r46_OfBytes (bodB (w.Bodies.getD i default)) (by omega)) rfl ?_
      simp only [go_sem]
      refine ⟨⟨hlen.symm, hlen.symm, by omega, by simp only [maxLen]; omega⟩, ?_⟩
      refine loop_next ⟨i + 1, by omega⟩ (by show w.Bodies.length - (i + 1) < w.Bodies.length - i; omega) (weakE_ [] [] ?_)
      have hst : (List.map hB (List.take (i + 1) w.Bodies)) = (List.map hB (List.take i w.Bodies)) ++ [hB (w.Bodies.getD i default)] := by rw [take_snoc default hlt, List.map_append]; rfl
      simp only [hst, go_sem]
      refine ⟨by omega, (by rw [IntKind.wrap_i64]; omega), q_app1 (hB (w.Bodies.getD i default)) rfl rfl⟩
    · rw [if_neg (by omega)]
      obtain rfl : i = w.Bodies.length := by omega
      have hl : (ofB w).length = w.Bodies.length := by unfold ofB; rw [List.length_map]
      have he : List.map hB w.Bodies = ofB w := rfl
      rw [List.take_length, he, hl]
      exact ⟨rfl, avle_refl _⟩
theorem firstDiff_self (l : List Int) : firstDiff l l = -1 := by
  unfold firstDiff
  cases hf : (List.range (max l.length l.length)).find? (fun i => !sameAt l l i) with
  | none => rfl
  | some i =>
    exfalso
    have h1 := List.mem_of_find?_eq_some hf
    have h2 := List.find?_some hf
    rw [List.mem_range, Nat.max_self] at h1
    unfold sameAt at h2
    rw [decide_eq_true h1] at h2
    simp at h2
theorem s_law46_StateHashExact (w : Api.World) : CallsA Tryz.prog F_law46_StateHashExact [.agg w.enc] [] (.sc (.bool true)) [] := by
  refine callsI_of (rs := [_]) hm Tryz.func3 (by kernel_rfl) (by kernel_rfl) is_law46_StateHashExact (by kernel_rfl : tmpsOf Tryz.f3.results.toList = some [2]) (by decide) (by kernel_rfl) ?_
  simp only [c_law46_StateHashExact, go_sem]
  refine CallGi_flat (s_r25_Few w) rfl ?_
  simp only [go_sem]
  cases hfw : few25 w with
  | false =>
    rw [if_pos rfl]
    refine CallGi_flat s_law46_example rfl ?_
    simp only [go_sem]
  | true =>
    rw [if_neg (by simp)]
    have hw := few25_sm hfw
    have hf := few25_few hfw
    have hl : (ofB w).length ≤ 1048576 := by unfold ofB; rw [List.length_map]; exact hw.1
    refine CallGi_flat (s_statehash_OfBodies w hw hf) rfl ?_
    simp only [go_sem]
    refine CallGi_flat (s_r46_OfBodies w hw hf) rfl ?_
    simp only [go_sem]
    refine CallGi_flat (s_statehash_OfWorld w hw hf) rfl ?_
    simp only [go_sem]
    refine CallGi_flat (s_r46_OfWorld w hw hf) rfl ?_
    simp only [beq_self_eq_true, go_sem]
    have hd := s_statehash_FirstDifference (ofB w) (ofB w) hl hl
    rw [firstDiff_self] at hd
    have hr := s_r46_FirstDifference (ofB w) (ofB w) hl hl
    rw [firstDiff_self] at hr
    refine CallGi_flat hd rfl ?_
    simp only [beq_self_eq_true, go_sem]
    refine CallGi_flat hr rfl ?_
    simp only [beq_self_eq_true, go_sem]
    refine CallGi_flat s_law46_example rfl ?_
    simp only [go_sem]

end Go.Abs
