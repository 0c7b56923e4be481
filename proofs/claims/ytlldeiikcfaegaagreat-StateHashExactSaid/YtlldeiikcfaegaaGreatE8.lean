/- A part of the walk: contracts of functions that the statement reaches. -/
import Derived.Test.YtlldeiikcfaegaaGreatAbsC
import Derived.Test.YtlldeiikcfaegaaGreatE7
import Derived.Test.YtlldeiikcfaegaaGreatT7
import Derived.Test.YtlldeiikcfaegaaGreatS9
set_option linter.unusedSimpArgs false
set_option linter.unusedVariables false
set_option linter.unnecessarySimpa false
set_option maxRecDepth 100000
set_option maxHeartbeats 2000000
set_option linter.unusedSimpArgs false
set_option linter.unusedVariables false
namespace Go.Abs
open Go.Proofs
open Api
def Wfew (w : Api.World) : Prop := w.Bodies.length ≤ 40 ∧ (∀ b ∈ w.Bodies, Bfew b) ∧ w.Joints.length ≤ 40 ∧ w.Contacts.length ≤ 80 ∧ (∀ c ∈ w.Contacts, c.Manifold.Points.length ≤ 8) ∧ w.Overlaps.length ≤ 80
theorem few25_few {w : Api.World} (h : few25 w = true) : Wfew w := by
  unfold few25 at h
  simp only [Bool.and_eq_true, decide_eq_true_eq] at h
  obtain ⟨⟨⟨⟨h1, h2⟩, h3⟩, h4⟩, h5⟩ := h
  unfold few22 at h4
  rw [Bool.and_eq_true, decide_eq_true_eq, List.all_eq_true] at h4
  rw [List.all_eq_true] at h5
  refine ⟨h4.1, fun b hb => ?_, h1, h2, fun c hc => ?_, h3⟩
  · have := h4.2 b hb
    unfold fewB at this
    rw [Bool.and_eq_true, decide_eq_true_eq, List.all_eq_true] at this
    refine ⟨this.1, fun f hf => ?_⟩
    have := this.2 f hf
    unfold fewF at this
    simpa using this
  · have := h5 c hc
    unfold fewC at this
    simpa using this
def encH (w : Api.World) : List Int := intsB [w.Settings.TimeStep] ++ vecsB [w.Settings.Gravity] ++ intsB [w.Settings.Iterations, w.Settings.SleepSteps, (w.Bodies.length : Int)]
def enc1 (w : Api.World) : List Int := encH w ++ w.Bodies.flatMap bodB ++ intsB [(w.Joints.length : Int)]
def enc2 (w : Api.World) : List Int := enc1 w ++ w.Joints.flatMap jntB ++ intsB [(w.Contacts.length : Int)]
def enc3 (w : Api.World) : List Int := enc2 w ++ w.Contacts.flatMap ctcB ++ intsB [(w.Overlaps.length : Int)]
def encW (w : Api.World) : List Int := enc3 w ++ w.Overlaps.flatMap keyB ++ intsB [w.NextID, w.Frame]
theorem encH_len (w : Api.World) : (encH w).length ≤ 60 := by
  have q0 : (intsB [w.Settings.TimeStep]).length ≤ 10 := intsB_len _
  have q1 : (vecsB [w.Settings.Gravity]).length ≤ 20 := vecsB_len _
  have q2 : (intsB [w.Settings.Iterations, w.Settings.SleepSteps, (w.Bodies.length : Int)]).length ≤ 30 := intsB_len _
  unfold encH; simp only [List.length_append]; omega
theorem ctc_few {w : Api.World} (h : Wfew w) : ∀ c ∈ w.Contacts, (ctcB c).length ≤ 600 := fun c hc => by
  have := ctcB_len c; have := h.2.2.2.2.1 c hc; omega
theorem enc1_len {w : Api.World} (h : Wfew w) : (enc1 w).length ≤ 180000 := by
  have h1 := encH_len w
  have h2 := fm_lenP (f := bodB) (c := 4300) (l := w.Bodies) fun b hb => bodB_len (h.2.1 b hb)
  have h3 : (intsB [(w.Joints.length : Int)]).length ≤ 10 := intsB_len _
  have := h.1
  unfold enc1; simp only [List.length_append]; omega
theorem enc2_len {w : Api.World} (h : Wfew w) : (enc2 w).length ≤ 200000 := by
  have h1 := enc1_len h
  have h2 := fm_lenP (f := jntB) (c := 300) (l := w.Joints) fun b _ => jntB_len b
  have h3 : (intsB [(w.Contacts.length : Int)]).length ≤ 10 := intsB_len _
  have := h.2.2.1
  unfold enc2; simp only [List.length_append]; omega
theorem enc3_len {w : Api.World} (h : Wfew w) : (enc3 w).length ≤ 260000 := by
  have h1 := enc2_len h
  have h2 := fm_lenP (f := ctcB) (c := 600) (l := w.Contacts) (ctc_few h)
  have h3 : (intsB [(w.Overlaps.length : Int)]).length ≤ 10 := intsB_len _
  have := h.2.2.2.1
  unfold enc3; simp only [List.length_append]; omega
theorem encW_len {w : Api.World} (h : Wfew w) : (encW w).length ≤ 280000 := by
  have h1 := enc3_len h
  have h2 := fm_lenP (f := keyB) (c := 40) (l := w.Overlaps) fun b _ => keyB_len b
  have h3 : (intsB [w.NextID, w.Frame]).length ≤ 20 := intsB_len _
  have := h.2.2.2.2.2
  unfold encW; simp only [List.length_append]; omega
theorem s_enc_ints0 (l : List Int) (hb : 10 * l.length ≤ 400000000000) : CallsA Tryz.prog F_snapshot_encoder_ints [.ptr 1 0 0 1, encD 1 encInt 0 l] [(1, .box [.sc (.slice none 0 0)])] (.tup []) (eO (intsB l)) := by
  refine callsIO_of (rs := []) hm Tryz.func64 (by kernel_rfl) (by kernel_rfl) is_snapshot_encoder_ints (by kernel_rfl : tmpsOf Tryz.f64.results.toList = some []) (by decide) (by kernel_rfl) ?_
  simp only [c_snapshot_encoder_ints, go_sem]
  refine Wpi_loop hm (ι := {i : Nat // i ≤ l.length}) (fun i => [(0, .share, .ptr 1 0 0 1), (6, .share, encD 1 encInt 0 l), (7, .share, .sc (.int .i64 l.length)), (8, .share, .sc (.int .i64 i.1))])
    (fun i => eO ((l.take i.1).flatMap intB)) (fun i => l.length - i.1) ⟨0, by omega⟩ ?_ ?_
  · refine weakE_ [] [] ?_
    simp only [List.take_zero, List.flatMap_nil, List.append_nil, go_sem]
    exact avle_nilD rfl
  · rintro ⟨i, hi⟩
    simp only [c_snapshot_encoder_intsb0, go_sem]
    by_cases hlt : i < l.length
    · rw [if_pos (by omega)]
      have hl := fm_len (f := intB) intB_len (l.take i)
      rw [List.length_take] at hl
      have hs := fm_snoc (f := intB) (l := l) 0 hlt
      refine ⟨ok_, ?_⟩
      refine CallGi_flat (s_codec_AppendInt ((l.take i).flatMap intB) (l.getD i 0) (by omega)) rfl ?_
      simp only [go_sem]
      refine loop_next ⟨i + 1, by omega⟩ (by show l.length - (i + 1) < l.length - i; omega) (weakE_ [] [] ?_)
      simp only [hs, go_sem]
      exact (by rw [IntKind.wrap_i64]; omega)
    · rw [if_neg (by omega)]
      obtain rfl : i = l.length := by omega
      refine retW_of [] [] [] rfl rfl (by simp [go_sem]) (by simp [assoc, go_sem]) (by simp [go_sem]) ?_
      simp only [List.take_length, intsB, go_sem]
theorem s_snapshot_Encode_valid (w : Api.World) (hw : Wsm w) (hf : Wfew w) (hv : d_world_Validate w = 0) : CallsA Tryz.prog F_snapshot_Encode [.agg w.enc] [] (.tup [encD 1 encU8 0 (sealB (encW w)), .sc (.int .i64 0)]) [] := by
  refine callsI_of (rs := [_, _]) hm Tryz.func25 (by kernel_rfl) (by kernel_rfl) is_snapshot_Encode (by kernel_rfl : tmpsOf Tryz.f25.results.toList = some [2, 3]) (by decide) (by kernel_rfl) ?_
  simp only [c_snapshot_Encode, go_sem]
  refine CallGi_flat (s_world_Validate w hw) rfl ?_
  simp only [go_sem]
  rw [if_neg (by simp [hv])]
  refine CallGi_obj [true, false] [(1, 288)] (s_enc_ints0 [w.Settings.TimeStep] (by simp)) (by simp [go_sem]) (by simp [go_sem]) (by simp [go_sem]) (by simp [go_sem]) ?_
  simp only [argsOC, go_sem]
  refine ⟨avle_lit2 (l := [w.Settings.TimeStep]) (fun _ _ => rfl) rfl rfl rfl, ?_⟩
  have q0 : (intsB [w.Settings.TimeStep]).length ≤ 10 := intsB_len _
  have q1 : (vecsB [w.Settings.Gravity]).length ≤ 20 := vecsB_len _
  have m0 := encH_len w
  have m1 := enc1_len hf
  have m2 := enc2_len hf
  have m3 := enc3_len hf
  have m4 := encW_len hf
  obtain ⟨f1, f2, f3, f4, f5, f6⟩ := hf
  refine CallGi_obj [true, false] [(1, 288)] (s_enc_vecs (intsB [w.Settings.TimeStep]) [w.Settings.Gravity] (by simp only [List.length_append, List.length_cons, List.length_nil]; omega)) (by simp [go_sem]) (by simp [go_sem]) (by simp [go_sem]) (by simp [go_sem]) ?_
  simp only [argsOC, go_sem]
  refine ⟨avle_lit2 (l := [w.Settings.Gravity]) (fun _ _ => rfl) rfl rfl rfl, ?_⟩
  refine CallGi_obj [true, false] [(1, 288)] (s_enc_ints (intsB [w.Settings.TimeStep] ++ vecsB [w.Settings.Gravity]) [w.Settings.Iterations, w.Settings.SleepSteps, (w.Bodies.length : Int)] (by simp only [List.length_append, List.length_cons, List.length_nil]; omega)) (by simp [go_sem]) (by simp [go_sem]) (by simp [go_sem]) (by simp [go_sem]) ?_
  simp only [argsOC, go_sem]
  refine ⟨avle_lit2 (l := [w.Settings.Iterations, w.Settings.SleepSteps, (w.Bodies.length : Int)]) (fun _ _ => rfl) rfl rfl rfl, ?_⟩
  have eH : intsB [w.Settings.TimeStep] ++ (vecsB [w.Settings.Gravity] ++ intsB [w.Settings.Iterations, w.Settings.SleepSteps, (w.Bodies.length : Int)]) = encH w := by unfold encH; rw [List.append_assoc]
  refine Wpi_loop hm (ι := {i : Nat // i ≤ w.Bodies.length}) (fun i => [(1, .share, .ptr 32 0 0 1), (4, .share, .ptr 1 0 0 1), (43, .share, encD 20 Body.enc default w.Bodies), (44, .share, .sc (.int .i64 w.Bodies.length)), (45, .share, .sc (.int .i64 i.1))])
    (fun i => (32, .box w.enc) :: eO (encH w ++ (w.Bodies.take i.1).flatMap bodB)) (fun i => w.Bodies.length - i.1) ⟨0, by omega⟩ ?_ ?_
  · refine weakE_ [(1, 288)] [] ?_
    simp only [List.take_zero, List.flatMap_nil, List.append_nil, eH, go_sem]
    try trivial
  · rintro ⟨i, hi⟩
    simp only [c_snapshot_Encodeb0, go_sem]
    have hl := fm_lenP (f := bodB) (c := 4300) (l := w.Bodies.take i) (fun b hb => bodB_len (f2 b (List.mem_of_mem_take hb)))
    rw [List.length_take] at hl
    by_cases hlt : i < w.Bodies.length
    · rw [if_pos (by omega)]
      have hs := fm_snoc (f := bodB) (l := w.Bodies) default hlt
      refine ⟨ok_, ?_⟩
      refine CallGi_subw (s_enc_body (encH w ++ (w.Bodies.take i).flatMap bodB) (w.Bodies.getD i default) (by simp only [List.length_append]; omega) (f2 _ (mem_getD default hlt))) (okO_eO _) rfl (by simp [go_sem]) (by simp [go_sem, AV.ids]) rfl ?_
      simp only [go_sem]
      refine loop_next ⟨i + 1, by omega⟩ (by show w.Bodies.length - (i + 1) < w.Bodies.length - i; omega) (weakE_ [] [] ?_)
      simp only [hs, go_sem]
      exact (by rw [IntKind.wrap_i64]; omega)
    · rw [if_neg (by omega)]
      obtain rfl : i = w.Bodies.length := by omega
      rw [List.take_length] at hl
      have e1 : encH w ++ (w.Bodies.flatMap bodB ++ intsB [(w.Joints.length : Int)]) = enc1 w := by unfold enc1; rw [List.append_assoc]
      simp only [List.take_length, go_sem]
      refine CallGi_obj [true, false] [] (s_enc_ints (encH w ++ w.Bodies.flatMap bodB) [(w.Joints.length : Int)] (by simp only [List.length_append, List.length_cons, List.length_nil]; omega)) (by simp [go_sem]) (by simp [go_sem]) (by simp [go_sem]) (by simp [go_sem]) ?_
      simp only [argsOC, go_sem]
      refine ⟨avle_lit2 (l := [(w.Joints.length : Int)]) (fun _ _ => rfl) rfl rfl rfl, ?_⟩
      refine Wpi_loop hm (ι := {i : Nat // i ≤ w.Joints.length}) (fun i => [(1, .share, .ptr 32 0 0 1), (4, .share, .ptr 1 0 0 1), (60, .share, encD 24 Joint.enc default w.Joints), (61, .share, .sc (.int .i64 w.Joints.length)), (62, .share, .sc (.int .i64 i.1))])
        (fun i => (32, .box w.enc) :: eO (enc1 w ++ (w.Joints.take i.1).flatMap jntB)) (fun i => w.Joints.length - i.1) ⟨0, by omega⟩ ?_ ?_
      · refine weakE_ [] [] ?_
        simp only [List.take_zero, List.flatMap_nil, List.append_nil, e1, go_sem]
        try trivial
      · rintro ⟨i, hi⟩
        simp only [c_snapshot_Encodeb1, go_sem]
        have hl := fm_lenP (f := jntB) (c := 300) (l := w.Joints.take i) (fun b _ => jntB_len b)
        rw [List.length_take] at hl
        by_cases hlt : i < w.Joints.length
        · rw [if_pos (by omega)]
          have hs := fm_snoc (f := jntB) (l := w.Joints) default hlt
          refine ⟨ok_, ?_⟩
          refine CallGi_subw (s_enc_joint (enc1 w ++ (w.Joints.take i).flatMap jntB) (w.Joints.getD i default) (by simp only [List.length_append]; omega) ) (okO_eO _) rfl (by simp [go_sem]) (by simp [go_sem, AV.ids]) rfl ?_
          simp only [go_sem]
          refine loop_next ⟨i + 1, by omega⟩ (by show w.Joints.length - (i + 1) < w.Joints.length - i; omega) (weakE_ [] [] ?_)
          simp only [hs, go_sem]
          exact (by rw [IntKind.wrap_i64]; omega)
        · rw [if_neg (by omega)]
          obtain rfl : i = w.Joints.length := by omega
          rw [List.take_length] at hl
          have e2 : enc1 w ++ (w.Joints.flatMap jntB ++ intsB [(w.Contacts.length : Int)]) = enc2 w := by unfold enc2; rw [List.append_assoc]
          simp only [List.take_length, go_sem]
          refine CallGi_obj [true, false] [] (s_enc_ints (enc1 w ++ w.Joints.flatMap jntB) [(w.Contacts.length : Int)] (by simp only [List.length_append, List.length_cons, List.length_nil]; omega)) (by simp [go_sem]) (by simp [go_sem]) (by simp [go_sem]) (by simp [go_sem]) ?_
          simp only [argsOC, go_sem]
          refine ⟨avle_lit2 (l := [(w.Contacts.length : Int)]) (fun _ _ => rfl) rfl rfl rfl, ?_⟩
          refine Wpi_loop hm (ι := {i : Nat // i ≤ w.Contacts.length}) (fun i => [(1, .share, .ptr 32 0 0 1), (4, .share, .ptr 1 0 0 1), (77, .share, encD 7 Contact.enc default w.Contacts), (78, .share, .sc (.int .i64 w.Contacts.length)), (79, .share, .sc (.int .i64 i.1))])
            (fun i => (32, .box w.enc) :: eO (enc2 w ++ (w.Contacts.take i.1).flatMap ctcB)) (fun i => w.Contacts.length - i.1) ⟨0, by omega⟩ ?_ ?_
          · refine weakE_ [] [] ?_
            simp only [List.take_zero, List.flatMap_nil, List.append_nil, e2, go_sem]
            try trivial
          · rintro ⟨i, hi⟩
            simp only [c_snapshot_Encodeb2, go_sem]
            have hl := fm_lenP (f := ctcB) (c := 600) (l := w.Contacts.take i) (fun c hc => ctc_few ⟨f1, f2, f3, f4, f5, f6⟩ c (List.mem_of_mem_take hc))
            rw [List.length_take] at hl
            by_cases hlt : i < w.Contacts.length
            · rw [if_pos (by omega)]
              have hs := fm_snoc (f := ctcB) (l := w.Contacts) default hlt
              refine ⟨ok_, ?_⟩
              refine CallGi_subw (s_enc_contact (enc2 w ++ (w.Contacts.take i).flatMap ctcB) (w.Contacts.getD i default) (by simp only [List.length_append]; omega) (by have := f5 _ (mem_getD default hlt); omega)) (okO_eO _) rfl (by simp [go_sem]) (by simp [go_sem, AV.ids]) rfl ?_
              simp only [go_sem]
              refine loop_next ⟨i + 1, by omega⟩ (by show w.Contacts.length - (i + 1) < w.Contacts.length - i; omega) (weakE_ [] [] ?_)
              simp only [hs, go_sem]
              exact (by rw [IntKind.wrap_i64]; omega)
            · rw [if_neg (by omega)]
              obtain rfl : i = w.Contacts.length := by omega
              rw [List.take_length] at hl
              have e3 : enc2 w ++ (w.Contacts.flatMap ctcB ++ intsB [(w.Overlaps.length : Int)]) = enc3 w := by unfold enc3; rw [List.append_assoc]
              simp only [List.take_length, go_sem]
              refine CallGi_obj [true, false] [] (s_enc_ints (enc2 w ++ w.Contacts.flatMap ctcB) [(w.Overlaps.length : Int)] (by simp only [List.length_append, List.length_cons, List.length_nil]; omega)) (by simp [go_sem]) (by simp [go_sem]) (by simp [go_sem]) (by simp [go_sem]) ?_
              simp only [argsOC, go_sem]
              refine ⟨avle_lit2 (l := [(w.Overlaps.length : Int)]) (fun _ _ => rfl) rfl rfl rfl, ?_⟩
              refine Wpi_loop hm (ι := {i : Nat // i ≤ w.Overlaps.length}) (fun i => [(1, .share, .ptr 32 0 0 1), (4, .share, .ptr 1 0 0 1), (94, .share, encD 4 PairKey.enc default w.Overlaps), (95, .share, .sc (.int .i64 w.Overlaps.length)), (96, .share, .sc (.int .i64 i.1))])
                (fun i => (32, .box w.enc) :: eO (enc3 w ++ (w.Overlaps.take i.1).flatMap keyB)) (fun i => w.Overlaps.length - i.1) ⟨0, by omega⟩ ?_ ?_
              · refine weakE_ [] [] ?_
                simp only [List.take_zero, List.flatMap_nil, List.append_nil, e3, go_sem]
                try trivial
              · rintro ⟨i, hi⟩
                simp only [c_snapshot_Encodeb3, go_sem]
                have hl := fm_lenP (f := keyB) (c := 40) (l := w.Overlaps.take i) (fun b _ => keyB_len b)
                rw [List.length_take] at hl
                by_cases hlt : i < w.Overlaps.length
                · rw [if_pos (by omega)]
                  have hs := fm_snoc (f := keyB) (l := w.Overlaps) default hlt
                  refine ⟨ok_, ?_⟩
                  refine CallGi_subw (s_enc_key (enc3 w ++ (w.Overlaps.take i).flatMap keyB) (w.Overlaps.getD i default) (by simp only [List.length_append]; omega) ) (okO_eO _) rfl (by simp [go_sem]) (by simp [go_sem, AV.ids]) rfl ?_
                  simp only [go_sem]
                  refine loop_next ⟨i + 1, by omega⟩ (by show w.Overlaps.length - (i + 1) < w.Overlaps.length - i; omega) (weakE_ [] [] ?_)
                  simp only [hs, go_sem]
                  exact (by rw [IntKind.wrap_i64]; omega)
                · rw [if_neg (by omega)]
                  obtain rfl : i = w.Overlaps.length := by omega
                  rw [List.take_length] at hl
                  have e4 : enc3 w ++ (w.Overlaps.flatMap keyB ++ intsB [w.NextID, w.Frame]) = encW w := by unfold encW; rw [List.append_assoc]
                  simp only [List.take_length, go_sem]
                  refine CallGi_obj [true, false] [] (s_enc_ints (enc3 w ++ w.Overlaps.flatMap keyB) [w.NextID, w.Frame] (by simp only [List.length_append, List.length_cons, List.length_nil]; omega)) (by simp [go_sem]) (by simp [go_sem]) (by simp [go_sem]) (by simp [go_sem]) ?_
                  simp only [argsOC, go_sem]
                  refine ⟨avle_lit2 (l := [w.NextID, w.Frame]) (fun _ _ => rfl) rfl rfl rfl, ?_⟩
                  simp only [e4, go_sem]
                  refine CallGi_flat (s_checksum_Seal (encW w) (by omega)) rfl ?_
                  simp only [go_sem]
def encR (w : Api.World) : List Int := if d_world_Validate w = 0 then sealB (encW w) else []
def encE (w : Api.World) : Int := if d_world_Validate w = 0 then 0 else 18
theorem s_snapshot_Encode (w : Api.World) (hw : Wsm w) (hf : Wfew w) : CallsA Tryz.prog F_snapshot_Encode [.agg w.enc] [] (.tup [encD 1 encU8 0 (encR w), .sc (.int .i64 (encE w))]) [] := by
  unfold encR encE
  by_cases hv : d_world_Validate w = 0
  · rw [if_pos hv, if_pos hv]; exact s_snapshot_Encode_valid w hw hf hv
  · rw [if_neg hv, if_neg hv]
    refine callsI_of (rs := [_, _]) hm Tryz.func25 (by kernel_rfl) (by kernel_rfl) is_snapshot_Encode (by kernel_rfl : tmpsOf Tryz.f25.results.toList = some [2, 3]) (by decide) (by kernel_rfl) ?_
    simp only [c_snapshot_Encode, go_sem]
    refine CallGi_flat (s_world_Validate w hw) rfl ?_
    simp only [go_sem]
    rw [if_pos (by simpa using hv)]
    exact avle_nilD rfl
theorem encR_len {w : Api.World} (hf : Wfew w) : (encR w).length ≤ 280004 := by
  have := encW_len hf
  unfold encR; split
  · unfold sealB; rw [List.length_append]
    show _ + 4 ≤ _
    omega
  · simp

end Go.Abs
