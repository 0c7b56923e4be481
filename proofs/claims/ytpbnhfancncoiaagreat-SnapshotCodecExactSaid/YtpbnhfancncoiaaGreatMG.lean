/- A part of the proof: contracts of functions that the statement reaches. -/
import Derived.Test.YtpbnhfancncoiaaGreatMF
set_option linter.unusedSimpArgs false
set_option linter.unusedVariables false
set_option linter.unnecessarySimpa false
set_option maxRecDepth 100000
set_option maxHeartbeats 2000000
section
namespace Go.Abs
open Go.Proofs
open Api
def Wfew (w : Api.World) : Prop := w.Bodies.length ≤ 8192 ∧ (∀ b ∈ w.Bodies, Bfew b) ∧ w.Joints.length ≤ 8192 ∧ w.Contacts.length ≤ 8192 ∧ (∀ c ∈ w.Contacts, c.Manifold.Points.length ≤ 8) ∧ w.Overlaps.length ≤ 8192
def encH (w : Api.World) : List Int := intsB [w.Settings.TimeStep] ++ vecsB [w.Settings.Gravity] ++ intsB [w.Settings.Iterations, w.Settings.SleepSteps, (w.Bodies.length : Int)]
def enc1 (w : Api.World) : List Int := encH w ++ w.Bodies.flatMap bodB ++ intsB [(w.Joints.length : Int)]
def enc2 (w : Api.World) : List Int := enc1 w ++ w.Joints.flatMap jntB ++ intsB [(w.Contacts.length : Int)]
def enc3 (w : Api.World) : List Int := enc2 w ++ w.Contacts.flatMap ctcB ++ intsB [(w.Overlaps.length : Int)]
def encW (w : Api.World) : List Int := enc3 w ++ w.Overlaps.flatMap keyB ++ intsB [w.NextID, w.Frame]
theorem encH_len (w : Api.World) : (encH w).length ≤ 60 := by
  have q0 : (intsB [w.Settings.TimeStep]).length ≤ 10 := intsB_len _
  have q1 : (vecsB [w.Settings.Gravity]).length ≤ 20 := vecsB_len _
  have q2 : (intsB [w.Settings.Iterations, w.Settings.SleepSteps, (w.Bodies.length : Int)]).length ≤ 30 := intsB_len _
  unfold encH; simp only [List.length_append]; omega
theorem ctc_few {w : Api.World} (h : Wfew w) : ∀ c ∈ w.Contacts, (ctcB c).length ≤ 600 := fun c hc => by
  have := ctcB_len c; have := h.2.2.2.2.1 c hc; omega
theorem enc1_len {w : Api.World} (h : Wfew w) : (enc1 w).length ≤ 737300000 := by
  have h1 := encH_len w
  have h2 := fm_lenP (f := bodB) (c := 90000) (l := w.Bodies) fun b hb => bodB_len (h.2.1 b hb)
  have h3 : (intsB [(w.Joints.length : Int)]).length ≤ 10 := intsB_len _
  have := h.1
  unfold enc1; simp only [List.length_append]; omega
theorem enc2_len {w : Api.World} (h : Wfew w) : (enc2 w).length ≤ 739800000 := by
  have h1 := enc1_len h
  have h2 := fm_lenP (f := jntB) (c := 300) (l := w.Joints) fun b _ => jntB_len b
  have h3 : (intsB [(w.Contacts.length : Int)]).length ≤ 10 := intsB_len _
  have := h.2.2.1
  unfold enc2; simp only [List.length_append]; omega
theorem enc3_len {w : Api.World} (h : Wfew w) : (enc3 w).length ≤ 744800000 := by
  have h1 := enc2_len h
  have h2 := fm_lenP (f := ctcB) (c := 600) (l := w.Contacts) (ctc_few h)
  have h3 : (intsB [(w.Overlaps.length : Int)]).length ≤ 10 := intsB_len _
  have := h.2.2.2.1
  unfold enc3; simp only [List.length_append]; omega
theorem encW_len {w : Api.World} (h : Wfew w) : (encW w).length ≤ 745200000 := by
  have h1 := enc3_len h
  have h2 := fm_lenP (f := keyB) (c := 40) (l := w.Overlaps) fun b _ => keyB_len b
  have h3 : (intsB [w.NextID, w.Frame]).length ≤ 20 := intsB_len _
  have := h.2.2.2.2.2
  unfold encW; simp only [List.length_append]; omega
theorem s_enc_ints0 (l : List Int) (hb : 10 * l.length ≤ 400000000000) : CallsA Tryz.prog F_snapshot_encoder_ints [.ptr 1 0 0 1, encD 1 encInt 0 l] [(1, .box [.sc (.slice none 0 0)])] (.tup []) (eO (intsB l)) := by
  refine enOT hm shOk Tryz.func18 rfl rfl ?_
  simp only [go_sem]
  refine Wpi_loop hm (ι := {i : Nat // i ≤ l.length}) (fun i => [(0, .share, .ptr 1 0 0 1), (6, .share, encD 1 encInt 0 l), (7, .share, .sc (.int .i64 l.length)), (8, .share, .sc (.int .i64 i.1))])
    (fun i => eO ((l.take i.1).flatMap intB)) (fun i => l.length - i.1) ⟨0, by omega⟩ ?_ ?_
  · refine weakE_ [] [] ?_
    simp only [List.take_zero, List.flatMap_nil, List.append_nil, go_sem]
    exact avle_nilD rfl
  · rintro ⟨i, hi⟩
    simp only [go_sem]
    by_cases hlt : i < l.length
    · rw [if_pos (by omega)]
      have hl := fm_len (f := intB) intB_len (l.take i)
      rw [List.length_take] at hl
      have hs := fm_snoc (f := intB) (l := l) 0 hlt
      refine ⟨ok_, ?_⟩
      refine CallGi_flat (s_codec_AppendInt ((l.take i).flatMap intB) (l.getD i 0) (by omega)) rfl ?_
      simp only [go_sem]
      refine loop_next ⟨i + 1, by omega⟩ (by show l.length - (i + 1) < l.length - i; omega) (weakE_ [] [] ?_)
      simp only [hs, go_sem]
      exact (by rw [IntKind.wrap_i64]; omega)
    · rw [if_neg (by omega)]
      obtain rfl : i = l.length := by omega
      refine retW_of [] [] [] rfl rfl (by simp [go_sem]) (by simp [assoc, go_sem]) (by simp [go_sem]) ?_
      simp only [List.take_length, intsB, go_sem]
theorem s_snapshot_Encode_valid (w : Api.World) (hw : Wsm w) (hf : Wfew w) (hv : d_world_Validate w = 0) : CallsA Tryz.prog F_snapshot_Encode [.agg w.enc] [] (.tup [encD 1 encU8 0 (sealB (encW w)), .sc (.int .i64 0)]) [] := by
  refine enT hm shOk Tryz.func8 rfl rfl ?_
  simp only [go_sem]
  refine CallGi_flat (s_world_Validate w hw) rfl ?_
  simp only [go_sem]
  rw [if_neg (by simp [hv])]
  refine CallGi_obj [true, false] [(1, 288)] (s_enc_ints0 [w.Settings.TimeStep] (by simp)) (by simp [go_sem]) (by simp [go_sem]) (by simp [go_sem]) (by simp [go_sem]) ?_
  simp only [argsOC, go_sem]
  refine ⟨avle_lit2 (l := [w.Settings.TimeStep]) (fun _ _ => rfl) rfl rfl rfl, ?_⟩
  have q0 : (intsB [w.Settings.TimeStep]).length ≤ 10 := intsB_len _
  have q1 : (vecsB [w.Settings.Gravity]).length ≤ 20 := vecsB_len _
  have m0 := encH_len w
  have m1 := enc1_len hf
  have m2 := enc2_len hf
  have m3 := enc3_len hf
  have m4 := encW_len hf
  obtain ⟨f1, f2, f3, f4, f5, f6⟩ := hf
  refine CallGi_obj [true, false] [(1, 288)] (s_enc_vecs (intsB [w.Settings.TimeStep]) [w.Settings.Gravity] (by simp only [List.length_append, List.length_cons, List.length_nil]; omega)) (by simp [go_sem]) (by simp [go_sem]) (by simp [go_sem]) (by simp [go_sem]) ?_
  simp only [argsOC, go_sem]
  refine ⟨avle_lit2 (l := [w.Settings.Gravity]) (fun _ _ => rfl) rfl rfl rfl, ?_⟩
  refine CallGi_obj [true, false] [(1, 288)] (s_enc_ints (intsB [w.Settings.TimeStep] ++ vecsB [w.Settings.Gravity]) [w.Settings.Iterations, w.Settings.SleepSteps, (w.Bodies.length : Int)] (by simp only [List.length_append, List.length_cons, List.length_nil]; omega)) (by simp [go_sem]) (by simp [go_sem]) (by simp [go_sem]) (by simp [go_sem]) ?_
  simp only [argsOC, go_sem]
  refine ⟨avle_lit2 (l := [w.Settings.Iterations, w.Settings.SleepSteps, (w.Bodies.length : Int)]) (fun _ _ => rfl) rfl rfl rfl, ?_⟩
  have eH : intsB [w.Settings.TimeStep] ++ (vecsB [w.Settings.Gravity] ++ intsB [w.Settings.Iterations, w.Settings.SleepSteps, (w.Bodies.length : Int)]) = encH w := by unfold encH; rw [List.append_assoc]
  refine Wpi_loop hm (ι := {i : Nat // i ≤ w.Bodies.length}) (fun i => [(1, .share, .ptr 32 0 0 1), (4, .share, .ptr 1 0 0 1), (43, .share, encD 20 Body.enc default w.Bodies), (44, .share, .sc (.int .i64 w.Bodies.length)), (45, .share, .sc (.int .i64 i.1))])
    (fun i => (32, .box w.enc) :: eO (encH w ++ (w.Bodies.take i.1).flatMap bodB)) (fun i => w.Bodies.length - i.1) ⟨0, by omega⟩ ?_ ?_
  · refine weakE_ [(1, 288)] [] ?_
    simp only [List.take_zero, List.flatMap_nil, List.append_nil, eH, go_sem]
    try trivial
  · rintro ⟨i, hi⟩
    simp only [go_sem]
    have hl := fm_lenP (f := bodB) (c := 90000) (l := w.Bodies.take i) (fun b hb => bodB_len (f2 b (List.mem_of_mem_take hb)))
    rw [List.length_take] at hl
    by_cases hlt : i < w.Bodies.length
    · rw [if_pos (by omega)]
      have hs := fm_snoc (f := bodB) (l := w.Bodies) default hlt
      refine ⟨ok_, ?_⟩
      refine CallGi_subw (s_enc_body (encH w ++ (w.Bodies.take i).flatMap bodB) (w.Bodies.getD i default) (by simp only [List.length_append]; omega) (f2 _ (mem_getD default hlt))) (okO_eO _) rfl (by simp [go_sem]) (by simp [go_sem, AV.ids]) rfl ?_
      simp only [go_sem]
      refine loop_next ⟨i + 1, by omega⟩ (by show w.Bodies.length - (i + 1) < w.Bodies.length - i; omega) (weakE_ [] [] ?_)
      simp only [hs, go_sem]
      exact (by rw [IntKind.wrap_i64]; omega)
    · rw [if_neg (by omega)]
      obtain rfl : i = w.Bodies.length := by omega
      rw [List.take_length] at hl
      have e1 : encH w ++ (w.Bodies.flatMap bodB ++ intsB [(w.Joints.length : Int)]) = enc1 w := by unfold enc1; rw [List.append_assoc]
      simp only [List.take_length, go_sem]
      refine CallGi_obj [true, false] [] (s_enc_ints (encH w ++ w.Bodies.flatMap bodB) [(w.Joints.length : Int)] (by simp only [List.length_append, List.length_cons, List.length_nil]; omega)) (by simp [go_sem]) (by simp [go_sem]) (by simp [go_sem]) (by simp [go_sem]) ?_
      simp only [argsOC, go_sem]
      refine ⟨avle_lit2 (l := [(w.Joints.length : Int)]) (fun _ _ => rfl) rfl rfl rfl, ?_⟩
      refine Wpi_loop hm (ι := {i : Nat // i ≤ w.Joints.length}) (fun i => [(1, .share, .ptr 32 0 0 1), (4, .share, .ptr 1 0 0 1), (60, .share, encD 24 Joint.enc default w.Joints), (61, .share, .sc (.int .i64 w.Joints.length)), (62, .share, .sc (.int .i64 i.1))])
        (fun i => (32, .box w.enc) :: eO (enc1 w ++ (w.Joints.take i.1).flatMap jntB)) (fun i => w.Joints.length - i.1) ⟨0, by omega⟩ ?_ ?_
      · refine weakE_ [] [] ?_
        simp only [List.take_zero, List.flatMap_nil, List.append_nil, e1, go_sem]
        try trivial
      · rintro ⟨i, hi⟩
        simp only [go_sem]
        have hl := fm_lenP (f := jntB) (c := 300) (l := w.Joints.take i) (fun b _ => jntB_len b)
        rw [List.length_take] at hl
        by_cases hlt : i < w.Joints.length
        · rw [if_pos (by omega)]
          have hs := fm_snoc (f := jntB) (l := w.Joints) default hlt
          refine ⟨ok_, ?_⟩
          refine CallGi_subw (s_enc_joint (enc1 w ++ (w.Joints.take i).flatMap jntB) (w.Joints.getD i default) (by simp only [List.length_append]; omega) ) (okO_eO _) rfl (by simp [go_sem]) (by simp [go_sem, AV.ids]) rfl ?_
          simp only [go_sem]
          refine loop_next ⟨i + 1, by omega⟩ (by show w.Joints.length - (i + 1) < w.Joints.length - i; omega) (weakE_ [] [] ?_)
          simp only [hs, go_sem]
          exact (by rw [IntKind.wrap_i64]; omega)
        · rw [if_neg (by omega)]
          obtain rfl : i = w.Joints.length := by omega
          rw [List.take_length] at hl
          have e2 : enc1 w ++ (w.Joints.flatMap jntB ++ intsB [(w.Contacts.length : Int)]) = enc2 w := by unfold enc2; rw [List.append_assoc]
          simp only [List.take_length, go_sem]
          refine CallGi_obj [true, false] [] (s_enc_ints (enc1 w ++ w.Joints.flatMap jntB) [(w.Contacts.length : Int)] (by simp only [List.length_append, List.length_cons, List.length_nil]; omega)) (by simp [go_sem]) (by simp [go_sem]) (by simp [go_sem]) (by simp [go_sem]) ?_
          simp only [argsOC, go_sem]
          refine ⟨avle_lit2 (l := [(w.Contacts.length : Int)]) (fun _ _ => rfl) rfl rfl rfl, ?_⟩
          refine Wpi_loop hm (ι := {i : Nat // i ≤ w.Contacts.length}) (fun i => [(1, .share, .ptr 32 0 0 1), (4, .share, .ptr 1 0 0 1), (77, .share, encD 7 Contact.enc default w.Contacts), (78, .share, .sc (.int .i64 w.Contacts.length)), (79, .share, .sc (.int .i64 i.1))])
            (fun i => (32, .box w.enc) :: eO (enc2 w ++ (w.Contacts.take i.1).flatMap ctcB)) (fun i => w.Contacts.length - i.1) ⟨0, by omega⟩ ?_ ?_
          · refine weakE_ [] [] ?_
            simp only [List.take_zero, List.flatMap_nil, List.append_nil, e2, go_sem]
            try trivial
          · rintro ⟨i, hi⟩
            simp only [go_sem]
            have hl := fm_lenP (f := ctcB) (c := 600) (l := w.Contacts.take i) (fun c hc => ctc_few ⟨f1, f2, f3, f4, f5, f6⟩ c (List.mem_of_mem_take hc))
            rw [List.length_take] at hl
            by_cases hlt : i < w.Contacts.length
            · rw [if_pos (by omega)]
              have hs := fm_snoc (f := ctcB) (l := w.Contacts) default hlt
              refine ⟨ok_, ?_⟩
              refine CallGi_subw (s_enc_contact (enc2 w ++ (w.Contacts.take i).flatMap ctcB) (w.Contacts.getD i default) (by simp only [List.length_append]; omega) (by have := f5 _ (mem_getD default hlt); omega)) (okO_eO _) rfl (by simp [go_sem]) (by simp [go_sem, AV.ids]) rfl ?_
              simp only [go_sem]
              refine loop_next ⟨i + 1, by omega⟩ (by show w.Contacts.length - (i + 1) < w.Contacts.length - i; omega) (weakE_ [] [] ?_)
              simp only [hs, go_sem]
              exact (by rw [IntKind.wrap_i64]; omega)
            · rw [if_neg (by omega)]
              obtain rfl : i = w.Contacts.length := by omega
              rw [List.take_length] at hl
              have e3 : enc2 w ++ (w.Contacts.flatMap ctcB ++ intsB [(w.Overlaps.length : Int)]) = enc3 w := by unfold enc3; rw [List.append_assoc]
              simp only [List.take_length, go_sem]
              refine CallGi_obj [true, false] [] (s_enc_ints (enc2 w ++ w.Contacts.flatMap ctcB) [(w.Overlaps.length : Int)] (by simp only [List.length_append, List.length_cons, List.length_nil]; omega)) (by simp [go_sem]) (by simp [go_sem]) (by simp [go_sem]) (by simp [go_sem]) ?_
              simp only [argsOC, go_sem]
              refine ⟨avle_lit2 (l := [(w.Overlaps.length : Int)]) (fun _ _ => rfl) rfl rfl rfl, ?_⟩
              refine Wpi_loop hm (ι := {i : Nat // i ≤ w.Overlaps.length}) (fun i => [(1, .share, .ptr 32 0 0 1), (4, .share, .ptr 1 0 0 1), (94, .share, encD 4 PairKey.enc default w.Overlaps), (95, .share, .sc (.int .i64 w.Overlaps.length)), (96, .share, .sc (.int .i64 i.1))])
                (fun i => (32, .box w.enc) :: eO (enc3 w ++ (w.Overlaps.take i.1).flatMap keyB)) (fun i => w.Overlaps.length - i.1) ⟨0, by omega⟩ ?_ ?_
              · refine weakE_ [] [] ?_
                simp only [List.take_zero, List.flatMap_nil, List.append_nil, e3, go_sem]
                try trivial
              · rintro ⟨i, hi⟩
                simp only [go_sem]
                have hl := fm_lenP (f := keyB) (c := 40) (l := w.Overlaps.take i) (fun b _ => keyB_len b)
                rw [List.length_take] at hl
                by_cases hlt : i < w.Overlaps.length
                · rw [if_pos (by omega)]
                  have hs := fm_snoc (f := keyB) (l := w.Overlaps) default hlt
                  refine ⟨ok_, ?_⟩
                  refine CallGi_subw (s_enc_key (enc3 w ++ (w.Overlaps.take i).flatMap keyB) (w.Overlaps.getD i default) (by simp only [List.length_append]; omega) ) (okO_eO _) rfl (by simp [go_sem]) (by simp [go_sem, AV.ids]) rfl ?_
                  simp only [go_sem]
                  refine loop_next ⟨i + 1, by omega⟩ (by show w.Overlaps.length - (i + 1) < w.Overlaps.length - i; omega) (weakE_ [] [] ?_)
                  simp only [hs, go_sem]
                  exact (by rw [IntKind.wrap_i64]; omega)
                · rw [if_neg (by omega)]
                  obtain rfl : i = w.Overlaps.length := by omega
                  rw [List.take_length] at hl
                  have e4 : enc3 w ++ (w.Overlaps.flatMap keyB ++ intsB [w.NextID, w.Frame]) = encW w := by unfold encW; rw [List.append_assoc]
                  simp only [List.take_length, go_sem]
                  refine CallGi_obj [true, false] [] (s_enc_ints (enc3 w ++ w.Overlaps.flatMap keyB) [w.NextID, w.Frame] (by simp only [List.length_append, List.length_cons, List.length_nil]; omega)) (by simp [go_sem]) (by simp [go_sem]) (by simp [go_sem]) (by simp [go_sem]) ?_
                  simp only [argsOC, go_sem]
                  refine ⟨avle_lit2 (l := [w.NextID, w.Frame]) (fun _ _ => rfl) rfl rfl rfl, ?_⟩
                  simp only [e4, go_sem]
                  refine CallGi_flat (s_checksum_Seal (encW w) (by omega)) rfl ?_
                  simp only [go_sem]
def encR (w : Api.World) : List Int := if d_world_Validate w = 0 then sealB (encW w) else []
def encE (w : Api.World) : Int := if d_world_Validate w = 0 then 0 else 18
theorem s_snapshot_Encode (w : Api.World) (hw : Wsm w) (hf : Wfew w) : CallsA Tryz.prog F_snapshot_Encode [.agg w.enc] [] (.tup [encD 1 encU8 0 (encR w), .sc (.int .i64 (encE w))]) [] := by
  unfold encR encE
  by_cases hv : d_world_Validate w = 0
  · rw [if_pos hv, if_pos hv]; exact s_snapshot_Encode_valid w hw hf hv
  · rw [if_neg hv, if_neg hv]
    refine enT hm shOk Tryz.func8 rfl rfl ?_
    simp only [go_sem]
    refine CallGi_flat (s_world_Validate w hw) rfl ?_
    simp only [go_sem]
    rw [if_pos (by simpa using hv)]
    exact avle_nilD rfl
end Go.Abs
end
section
namespace Go.Abs
open Go.Proofs
open Api
theorem settings_eq (s : Settings) : d_world_ValidateSettings s = d_r25_ValidateSettings s := by
  unfold d_world_ValidateSettings d_r25_ValidateSettings
  cases inR s.TimeStep 64 8192 <;> cases inR s.Gravity.X (-16777216) 16777216 <;> cases inR s.Gravity.Y (-16777216) 16777216 <;> cases inR s.Iterations 1 32 <;> cases inR s.SleepSteps 0 1048576 <;> rfl
theorem bounded_16 (v : Vec) : d_body_bounded v 16777216 = (inR v.X (-16777216) 16777216 && inR v.Y (-16777216) 16777216) := rfl
theorem bounded_29 (v : Vec) : d_body_bounded v 536870911 = (inR v.X (-536870911) 536870911 && inR v.Y (-536870911) 536870911) := rfl
theorem inRange_eq (b : Body) : d_body_inRange b = d_r23_inRange b := by
  unfold d_body_inRange d_r23_inRange
  simp only [bounded_16, bounded_29]
  generalize d_transform_Valid b.Transform = t
  cases t <;> simp <;> grind
theorem count_eq (s : Shape) (h : ¬ (s.Kind < 1 ∨ 3 < s.Kind)) : d_shape_validCount s = d_r12_countMatches s := by
  unfold d_shape_validCount d_r12_countMatches
  rw [Bool.eq_iff_iff]
  simp
  try grind
theorem limits_eq (s : Shape) : (s.Vertices.any fun x => d_shape_Validate_f1 x) = s.Vertices.any fun v => (!(inR v.X (-1048576) 1048576)) || (!(inR v.Y (-1048576) 1048576)) := by
  congr 1
  funext v
  unfold d_shape_Validate_f1 d_shape_outOfRange inR
  rw [Bool.eq_iff_iff]
  simp
  try grind
theorem reach_all (vs : List Vec) : itrE (d_polygon_allInReach_L1 vs) vs.length () = if vs.any (fun v => !(reachB v)) = true then .inr false else .inl () := by
  rw [itrE_all (r := false) (p := fun i => !(reachB (vs.getD i default))) (fun i => by simp only [d_polygon_allInReach_L1]; cases reachB (vs.getD i default) <;> rfl), range_any (p := fun v : Vec => !(reachB v))]
theorem reach_all' (vs : List Vec) : itrE (d_r11_IsConvex_L1 vs) vs.length () = if vs.any (fun v => !(reachB v)) = true then .inr false else .inl () := reach_all vs
theorem convex_eq (vs : List Vec) : d_polygon_IsConvex vs = d_r11_IsConvex vs := by
  unfold d_polygon_IsConvex d_r11_IsConvex d_polygon_allInReach
  rw [reach_all, reach_all']
  have hL : d_polygon_IsConvex_L1 vs = d_r11_IsConvex_L2 vs := rfl
  rw [hL]
  cases (vs.any fun v => !(reachB v)) <;> cases (decide ((vs.length : Int) < 3)) <;> cases (decide (8 < (vs.length : Int))) <;> rfl
theorem lenV_nonneg (v : Vec) : 0 ≤ lenV v := by
  unfold lenV isq
  split
  · exact Int.le_refl _
  · exact Int.natCast_nonneg _
theorem fan_snd (vs : List Vec) : ∀ n, (itr (d_polygon_fan_L1 vs) n ([], 0)).2 = itr (d_r11_Area_L1 vs) n 0
  | 0 => rfl
  | n + 1 => by
    rw [itr_succ, itr_succ, ← fan_snd vs n]
    simp only [d_polygon_fan_L1, d_r11_Area_L1, d_r11_cross, Int.toNat_natCast]
theorem area_eq (vs : List Vec) : d_polygon_Area vs = d_r11_Area vs := by
  unfold d_polygon_Area d_r11_Area
  simp only [convex_eq, d_polygon_fan, fan_snd]
theorem edge_rel (vs : List Vec) : ∀ n, itr (d_polygon_ShortestEdge_L1 vs) (n + 1) 536870911 = min 536870911 (itr (d_r11_ShortestEdge_L1 vs) (n + 1) (-1)) ∧ 0 ≤ itr (d_r11_ShortestEdge_L1 vs) (n + 1) (-1)
  | 0 => by
    have h := lenV_nonneg (subV (vs.getD (((IntKind.i64.wrap (((0 : Nat) : Int) + 1)).tmod (vs.length : Int)).toNat) default) (vs.getD 0 default))
    simp only [itr_succ, itr_zero, d_polygon_ShortestEdge_L1, d_r11_ShortestEdge_L1]
    generalize lenV (subV (vs.getD (((IntKind.i64.wrap (((0 : Nat) : Int) + 1)).tmod (vs.length : Int)).toNat) default) (vs.getD 0 default)) = e at h ⊢
    simp
    refine ⟨?_, h⟩
    grind
  | n + 1 => by
    obtain ⟨h1, h2⟩ := edge_rel vs n
    rw [itr_succ, itr_succ (d_r11_ShortestEdge_L1 vs), h1]
    generalize itr (d_r11_ShortestEdge_L1 vs) (n + 1) (-1) = r at h2 ⊢
    have h := lenV_nonneg (subV (vs.getD (((IntKind.i64.wrap (((n + 1 : Nat) : Int) + 1)).tmod (vs.length : Int)).toNat) default) (vs.getD (n + 1) default))
    simp only [d_polygon_ShortestEdge_L1, d_r11_ShortestEdge_L1]
    generalize lenV (subV (vs.getD (((IntKind.i64.wrap (((n + 1 : Nat) : Int) + 1)).tmod (vs.length : Int)).toNat) default) (vs.getD (n + 1) default)) = e at h ⊢
    have hr : ¬ r < 0 := by omega
    simp [hr]
    constructor
    · grind
    · grind
theorem edge_lt (vs : List Vec) : decide (d_polygon_ShortestEdge vs < 4096) = decide (d_r11_ShortestEdge vs < 4096) := by
  unfold d_polygon_ShortestEdge d_r11_ShortestEdge
  simp only [convex_eq]
  by_cases hc : d_r11_IsConvex vs = false
  · rw [if_pos hc, if_pos hc]
  · rw [if_neg hc, if_neg hc]
    cases hn : vs.length with
    | zero =>
      exfalso; apply hc
      unfold d_r11_IsConvex; rw [hn]; rfl
    | succ n =>
      obtain ⟨h1, h2⟩ := edge_rel vs n
      rw [h1, decide_eq_decide]; omega
theorem limits_loop (s : Shape) : itrE (d_r12_Validate_L1 s) s.Vertices.length () = if (s.Vertices.any fun v => (!(inR v.X (-1048576) 1048576)) || (!(inR v.Y (-1048576) 1048576))) = true then .inr 6 else .inl () := by
  rw [itrE_all (r := (6 : Int)) (p := fun i => (!(inR (s.Vertices.getD i default).X (-1048576) 1048576)) || (!(inR (s.Vertices.getD i default).Y (-1048576) 1048576))) (fun i => rfl), range_any (p := fun v : Vec => (!(inR v.X (-1048576) 1048576)) || (!(inR v.Y (-1048576) 1048576)))]
theorem shape_eq (s : Shape) : d_shape_Validate s = d_r12_Validate s := by
  unfold d_shape_Validate d_r12_Validate
  simp only [limits_eq, limits_loop, convex_eq, area_eq, edge_lt]
  by_cases hk : ((decide (s.Kind < 1)) || (decide (3 < s.Kind))) = true
  · rw [if_pos hk, if_pos hk]
  · rw [if_neg hk, if_neg hk, count_eq s (by simpa using hk)]
    split
    · rfl
    · by_cases ha : (s.Vertices.any fun v => (!(inR v.X (-1048576) 1048576)) || (!(inR v.Y (-1048576) 1048576))) = true
      · rw [if_pos ha, if_pos ha]
      · rw [if_neg ha, if_neg ha]
        simp only []
        cases (s.Kind == 3) <;> cases (s.Radius != 0) <;> simp
theorem fixture_eq (f : Fixture) : d_body_ValidateFixture f = d_r23_ValidateFixture f := by
  unfold d_body_ValidateFixture d_r23_ValidateFixture
  simp only [shape_eq]
  split
  · rfl
  · generalize inR f.Density 0 262144 = a
    generalize inR f.Friction 0 131072 = b
    generalize inR f.Restitution 0 65536 = c
    generalize inR f.Category 0 65535 = d
    generalize inR f.Mask 0 65535 = e
    generalize inR f.Group (-32) 32 = g
    cases a <;> cases b <;> cases c <;> cases d <;> cases e <;> cases g <;> rfl
theorem body_eq (b : Body) : d_body_Validate b = d_r23_Validate b := by
  unfold d_body_Validate d_r23_Validate
  have hL : d_body_Validate_L1 b = d_r23_Validate_L1 b := by funext i s; simp only [d_body_Validate_L1, d_r23_Validate_L1, fixture_eq]
  simp only [inRange_eq, hL]
  split
  · rfl
  split
  · rfl
  split
  · rfl
  cases itrE (d_r23_Validate_L1 b) b.Fixtures.length () with
  | inr r => rfl
  | inl s =>
    simp only [d_body_consistent, d_body_moving]
    grind
end Go.Abs
end
section
namespace Go.Abs
open Go.Proofs
open Api
theorem point_eq (v : Vec) (m : Int) : d_joint_pointInRange v m = d_r24_inSquare v m := rfl
theorem limitsR_eq (j : Joint) : ((inR j.Lower (d_joint_limitRange j.Kind).1 (d_joint_limitRange j.Kind).2) && (inR j.Upper (d_joint_limitRange j.Kind).1 (d_joint_limitRange j.Kind).2) && (decide (j.Lower ≤ j.Upper))) = d_r24_limitsValid j := by
  unfold d_joint_limitRange d_r24_limitsValid inR
  by_cases h1 : j.Kind = 1 <;> by_cases h2 : j.Kind = 2 <;> simp [h1, h2] <;> grind
theorem numbers_eq (j : Joint) : d_joint_numbersInRange j = d_r24_rangesValid j := by
  unfold d_joint_numbersInRange d_r24_rangesValid
  have hL : d_joint_numbersInRange_L1 j = d_r24_rangesValid_L1 j := rfl
  have hL2 : d_joint_numbersInRange_L2 j = d_r24_rangesValid_L2 j := rfl
  rw [hL, hL2]
  simp only [point_eq, ← limitsR_eq]
  cases itrE (d_r24_rangesValid_L1 j) 4 () <;> cases itrE (d_r24_rangesValid_L2 j) 4 () <;> grind
theorem joint_eq (j : Joint) : d_joint_Validate j = d_r24_Validate j := by
  unfold d_joint_Validate d_r24_Validate
  simp only [numbers_eq]
  split
  · rfl
  rename_i hk
  split
  · rfl
  unfold d_joint_validBodies d_joint_inconsistent
  have hk : j.Kind = 1 ∨ j.Kind = 2 ∨ j.Kind = 3 ∨ j.Kind = 4 ∨ j.Kind = 5 := by simp at hk; omega
  rcases hk with hk | hk | hk | hk | hk <;> simp [hk] <;> grind
theorem rng_1 (j : Joint) : itrE (d_r24_rangesValid_L1 j) 4 () = if ((List.range 4).any (fun i => !(inR ([j.Impulses.I0, j.Impulses.I1, j.Impulses.I2, j.Impulses.I3].getD i 0) (-536870911) 536870911))) = true then .inr false else .inl () :=
  itrE_all (r := false) (p := fun i => !(inR ([j.Impulses.I0, j.Impulses.I1, j.Impulses.I2, j.Impulses.I3].getD i 0) (-536870911) 536870911)) (fun i => by simp only [d_r24_rangesValid_L1]; cases inR ([j.Impulses.I0, j.Impulses.I1, j.Impulses.I2, j.Impulses.I3].getD i 0) (-536870911) 536870911 <;> rfl) 4
theorem rng_2 (j : Joint) : itrE (d_r24_rangesValid_L2 j) 4 () = if ((List.range 4).any (fun i => !(inR ([j.Impulses.I0, j.Impulses.I1, j.Impulses.I2, j.Impulses.I3].getD i 0) (-536870911) 536870911))) = true then .inr false else .inl () := rng_1 j
theorem joint_ids {j : Joint} (h : d_r24_Validate j = 0) : 1 ≤ j.ID ∧ 1 ≤ j.BodyB ∧ (j.Kind = 5 → j.BodyA = 0) ∧ (j.Kind ≠ 5 → 1 ≤ j.BodyA) := by
  unfold d_r24_Validate at h
  split at h
  · cases h
  simp only [] at h
  split at h
  · cases h
  rename_i hr
  split at h
  · cases h
  rename_i hb
  have hid : 1 ≤ j.ID := by
    unfold d_r24_rangesValid at hr
    rw [rng_1, rng_2] at hr
    revert hr
    generalize (List.range 4).any (fun i => !(inR ([j.Impulses.I0, j.Impulses.I1, j.Impulses.I2, j.Impulses.I3].getD i 0) (-536870911) 536870911)) = q
    cases q <;> simp [inR] <;> grind
  unfold inR at hb
  refine ⟨hid, ?_⟩
  grind
theorem conn_eq (w : Api.World) {j : Joint} (hj : d_r24_Validate j = 0) : d_world_bodiesExist w j = d_r25_connected w j := by
  obtain ⟨_, h1, h2, h3⟩ := joint_ids hj
  unfold d_world_bodiesExist d_r25_connected
  simp only []
  have hb : (j.BodyB == 0) = false := by simp; omega
  rw [hb]
  by_cases hk : j.Kind = 5
  · simp [hk, h2 hk]
  · have ha : (j.BodyA == 0) = false := by have := h3 hk; simp; omega
    have hk' : (j.Kind == 5) = false := by simpa using hk
    rw [ha, hk']
    cases decide (0 ≤ findB w j.BodyA) <;> cases decide (0 ≤ findB w j.BodyB) <;> rfl
theorem itrE_congr0 {S R : Type} {f g : Nat → S → S ⊕ R} {s0 : S} (h : ∀ i s, (i = 0 → s = s0) → f i s = g i s) : ∀ n, itrE f n s0 = itrE g n s0
  | 0 => rfl
  | n + 1 => by
    have ih := itrE_congr0 h n
    simp only [itrE, ih]
    cases hn : itrE g n s0 with
    | inr r => rfl
    | inl s =>
      refine h n s fun h0 => ?_
      subst h0
      simp only [itrE] at hn
      injection hn with hn; exact hn.symm
theorem body_id {b : Body} (h : d_r23_Validate b = 0) : 1 ≤ b.ID := by
  unfold d_r23_Validate at h
  split at h
  · cases h
  simp only [] at h
  split at h
  · cases h
  rename_i hr
  unfold d_r23_inRange inR at hr
  grind
theorem bodies_eq (w : Api.World) : d_world_validBodies w = d_r25_validBodies w := by
  unfold d_world_validBodies d_r25_validBodies
  rw [itrE_congr0 (f := d_world_validBodies_L1 w) (g := d_r25_validBodies_L1 w)]
  intro i s hi
  simp only [d_world_validBodies_L1, d_r25_validBodies_L1, body_eq]
  by_cases hv : d_r23_Validate (w.Bodies.getD i default) = 0
  · have hid := body_id hv
    by_cases h0 : i = 0
    · have := hi h0
      subst this
      have e : decide ((w.Bodies.getD i default).ID ≤ 0) = false := by rw [decide_eq_false_iff_not]; omega
      rw [e, Bool.and_false]
    · have e : decide (0 < (i : Int)) = true := by rw [decide_eq_true_iff]; omega
      rw [e, Bool.true_and]
  · have e : (d_r23_Validate (w.Bodies.getD i default) != 0) = true := by simpa using hv
    rw [e]; simp
theorem joints_eq (w : Api.World) : d_world_validJoints w = d_r25_validJoints w := by
  unfold d_world_validJoints d_r25_validJoints
  rw [itrE_congr0 (f := d_world_validJoints_L1 w) (g := d_r25_validJoints_L1 w)]
  intro i s hi
  simp only [d_world_validJoints_L1, d_r25_validJoints_L1, joint_eq]
  by_cases hv : d_r24_Validate (w.Joints.getD i default) = 0
  · have hid := (joint_ids hv).1
    rw [conn_eq w hv]
    by_cases h0 : i = 0
    · have := hi h0
      subst this
      have e : decide ((w.Joints.getD i default).ID ≤ 0) = false := by rw [decide_eq_false_iff_not]; omega
      rw [e, Bool.and_false]
    · have e : decide (0 < (i : Int)) = true := by rw [decide_eq_true_iff]; omega
      rw [e, Bool.true_and]
  · have e : (d_r24_Validate (w.Joints.getD i default) != 0) = true := by simpa using hv
    rw [e]; simp
end Go.Abs
end
section
namespace Go.Abs
open Go.Proofs
open Api
theorem cmp_int (x y : Int) : d_cmp_Compare_int x y = if x < y then -1 else if y < x then 1 else 0 := by
  unfold d_cmp_Compare_int d_cmp_isNaN_int
  simp
theorem or_int (a b c d : Int) : d_cmp_Or_int [a, b, c, d] = if a ≠ 0 then a else if b ≠ 0 then b else if c ≠ 0 then c else d := by
  unfold d_cmp_Or_int
  show (match itrE (d_cmp_Or_int_L1 [a, b, c, d]) 4 () with | .inr r => r | .inl s1 => 0) = _
  simp only [itrE, d_cmp_Or_int_L1]
  by_cases ha : a = 0 <;> by_cases hb : b = 0 <;> by_cases hc : c = 0 <;> by_cases hd : d = 0 <;> simp [ha, hb, hc, hd]
theorem less_eq (a b : PairKey) : d_broadphase_Less a b = d_r22_Less a b := by
  unfold d_broadphase_Less d_broadphase_compare d_r22_Less
  simp only [or_int, cmp_int]
  grind
theorem valid_not (k : PairKey) : (!(d_broadphase_valid k)) = (((((decide (k.BodyB ≤ k.BodyA)) || (decide (k.FixtureA < 0))) || (decide (3 < k.FixtureA))) || (decide (k.FixtureB < 0))) || (decide (3 < k.FixtureB))) := by
  unfold d_broadphase_valid
  rw [Bool.eq_iff_iff]
  simp
  grind
theorem less_same (p k : PairKey) : (((k.BodyA == p.BodyA) && ((k.FixtureA == p.FixtureA) && ((k.BodyB == p.BodyB) && (k.FixtureB == p.FixtureB)))) || !(d_r22_Less p k)) = !(d_r22_Less p k) := by
  unfold d_r22_Less
  grind
def tupK (k : PairKey) : Int × Int × Int × Int := (k.BodyA, k.FixtureA, k.BodyB, k.FixtureB)
theorem keys_loop (l : List PairKey) : ∀ n, n ≤ 4194304 → match itrE (d_broadphase_ValidKeys_L1 l) n (0, 0, 0, 0) with
    | .inl s => itrE (d_r22_ValidKeys_L1 l) n () = .inl () ∧ (0 < n → s = tupK (l.getD (n - 1) default))
    | .inr r => itrE (d_r22_ValidKeys_L1 l) n () = .inr r
  | 0, _ => ⟨rfl, fun h => absurd h (by omega)⟩
  | n + 1, hb => by
    have ih := keys_loop l n (by omega)
    simp only [itrE]
    cases hn : itrE (d_broadphase_ValidKeys_L1 l) n (0, 0, 0, 0) with
    | inr r => rw [hn] at ih; simp only [ih]
    | inl s =>
      rw [hn] at ih
      obtain ⟨h1, h2⟩ := ih
      simp only [h1]
      have hwr : (IntKind.i64.wrap ((n : Int) - 1)).toNat = n - 1 := by rw [IntKind.wrap_i64]; omega
      simp only [d_broadphase_ValidKeys_L1, d_r22_ValidKeys_L1, hwr, less_eq, valid_not]
      by_cases h0 : 0 < n
      · have hs := h2 h0
        subst hs
        have e : decide (0 < (n : Int)) = true := by rw [decide_eq_true_iff]; omega
        have := less_same (l.getD (n - 1) default) (l.getD n default)
        simp only [tupK, e, Bool.true_and, this]
        split <;> rename_i heq <;> split at heq <;> simp_all [tupK]
      · have e : decide (0 < (n : Int)) = false := by rw [decide_eq_false_iff_not]; omega
        simp only [e, Bool.false_and]
        split <;> rename_i heq <;> split at heq <;> simp_all [tupK]
theorem keysV_eq (l : List PairKey) (h : l.length ≤ 4194304) : d_broadphase_ValidKeys l = d_r22_ValidKeys l := by
  have := keys_loop l l.length h
  unfold d_broadphase_ValidKeys d_r22_ValidKeys
  cases hn : itrE (d_broadphase_ValidKeys_L1 l) l.length (0, 0, 0, 0) with
  | inr r => rw [hn] at this; rw [this]
  | inl s => rw [hn] at this; rw [this.1]
theorem sat_eq (l : List Int) : d_world_saturated l = l.all fun n => inR n (-536870911) 536870911 := by
  unfold d_world_saturated d_world_saturated_f1
  induction l with
  | nil => rfl
  | cons a l ih => simp only [List.any_cons, List.all_cons, ← ih]; cases inR a (-536870911) 536870911 <;> simp
theorem points_loop (m : Manifold) : itrE (d_r25_validPoints_L1 m) m.Points.length () = if (m.Points.any fun p => d_world_validManifold_f1 p) = true then .inr false else .inl () := by
  rw [itrE_all (r := false) (p := fun i => d_world_validManifold_f1 (m.Points.getD i default)), range_any (p := fun p : ContactPoint => d_world_validManifold_f1 p)]
  intro i
  simp only [d_r25_validPoints_L1, d_world_validManifold_f1, sat_eq, d_r25_saturated, List.all_cons, List.all_nil, Bool.and_true]
  generalize m.Points.getD i default = p
  have e : inR p.NormalImpulse 0 536870911 = (!(decide (p.NormalImpulse < 0)) && inR p.NormalImpulse (-536870911) 536870911) := by
    unfold inR; rw [Bool.eq_iff_iff]; simp; grind
  rw [e]
  grind
theorem manifold_eq (m : Manifold) : d_world_validManifold m = d_r25_validPoints m := by
  unfold d_world_validManifold d_r25_validPoints
  rw [points_loop]
  simp only [sat_eq, d_r25_saturated, List.all_cons, List.all_nil, Bool.and_true]
  grind
end Go.Abs
end
section
namespace Go.Abs
open Go.Proofs
open Api
theorem keysR_eq (l : List Contact) : d_r25_Keys l = l.map fun c => c.Key := by
  have h : ∀ n, n ≤ l.length → itr (d_r25_Keys_L1 l) n [] = (l.take n).map fun c => c.Key := by
    intro n
    induction n with
    | zero => intro _; rfl
    | succ n ih =>
      intro hn
      rw [itr_succ, ih (by omega), take_snoc default (by omega), List.map_append]; rfl
  unfold d_r25_Keys
  simp only [h l.length (Nat.le_refl _), List.take_length]
theorem keys_pos {l : List PairKey} (h : d_r22_ValidKeys l = true) : ∀ k ∈ l, 0 ≤ k.FixtureA ∧ 0 ≤ k.FixtureB := by
  unfold d_r22_ValidKeys at h
  rw [itrE_all (r := false) (p := fun i => ((((((decide ((l.getD i default).BodyB ≤ (l.getD i default).BodyA)) || (decide ((l.getD i default).FixtureA < 0))) || (decide (3 < (l.getD i default).FixtureA))) || (decide ((l.getD i default).FixtureB < 0))) || (decide (3 < (l.getD i default).FixtureB))) || ((decide (0 < (i : Int))) && (!(d_r22_Less (l.getD (IntKind.i64.wrap ((i : Int) - 1)).toNat default) (l.getD i default)))))) (fun i => rfl)] at h
  intro k hk
  obtain ⟨i, hi, rfl⟩ := List.getElem_of_mem hk
  generalize hx : (List.range l.length).any _ = A at h
  cases A with
  | true => cases h
  | false =>
    rw [List.any_eq_false] at hx
    have := hx i (List.mem_range.2 hi)
    have hg : l.getD i default = l[i] := by simp [List.getD, hi]
    rw [hg] at this
    grind
theorem resolved_eq (w : Api.World) (l : List PairKey) (h : ∀ k ∈ l, 0 ≤ k.FixtureA ∧ 0 ≤ k.FixtureB) : d_r25_resolved w l = !(l.any (fixOut w)) := by
  unfold d_r25_resolved
  rw [itrE_all (r := false) (p := fun i => (!(d_r25_exists w (l.getD i default).BodyA (l.getD i default).FixtureA)) || (!(d_r25_exists w (l.getD i default).BodyB (l.getD i default).FixtureB))) (fun i => rfl),
    range_any (p := fun k : PairKey => (!(d_r25_exists w k.BodyA k.FixtureA)) || (!(d_r25_exists w k.BodyB k.FixtureB)))]
  have e : (l.any fun k : PairKey => (!(d_r25_exists w k.BodyA k.FixtureA)) || (!(d_r25_exists w k.BodyB k.FixtureB))) = l.any (fixOut w) := by
    induction l with
    | nil => rfl
    | cons k l ih =>
      rw [List.any_cons, List.any_cons, ih fun k hk => h k (List.mem_cons_of_mem _ hk)]
      obtain ⟨h1, h2⟩ := h k (List.mem_cons_self ..)
      congr 1
      unfold fixOut d_world_fixturesExist d_r25_exists
      simp only []
      have e1 : decide (0 ≤ k.FixtureA) = true := decide_eq_true h1
      have e2 : decide (0 ≤ k.FixtureB) = true := decide_eq_true h2
      rw [e1, e2]
      cases decide (0 ≤ findB w k.BodyA) <;> cases decide (0 ≤ findB w k.BodyB) <;> simp
  rw [e]
  cases l.any (fixOut w) <;> rfl
theorem cont_loop (w : Api.World) : itrE (d_r25_validContacts_L1 w) w.Contacts.length () = if (w.Contacts.any fun c => !(d_world_validManifold c.Manifold)) = true then .inr false else .inl () := by
  rw [itrE_all (r := false) (p := fun i => !(d_world_validManifold (w.Contacts.getD i default).Manifold)), range_any (p := fun c : Contact => !(d_world_validManifold c.Manifold))]
  intro i
  simp only [d_r25_validContacts_L1, manifold_eq]
  cases d_r25_validPoints (w.Contacts.getD i default).Manifold <;> rfl
theorem contacts_eq (w : Api.World) (hc : w.Contacts.length ≤ 4194304) (ho : w.Overlaps.length ≤ 4194304) : okContacts w = d_r25_validContacts w := by
  unfold okContacts d_r25_validContacts
  rw [cont_loop]
  have hk : d_r25_Keys w.Contacts = keysC w := keysR_eq _
  simp only [hk]
  rw [keysV_eq (keysC w) (by simp [keysC]; omega), keysV_eq w.Overlaps ho, List.any_append]
  have ha : (w.Contacts.all fun c => d_world_validManifold c.Manifold) = !(w.Contacts.any fun c => !(d_world_validManifold c.Manifold)) := by
    rw [List.all_eq_not_any_not]
  rw [ha]
  cases h1 : d_r22_ValidKeys (keysC w) with
  | false => simp
  | true =>
    cases h2 : d_r22_ValidKeys w.Overlaps with
    | false => simp
    | true =>
      rw [resolved_eq w _ (keys_pos h1), resolved_eq w _ (keys_pos h2)]
      generalize (keysC w).any (fixOut w) = a
      generalize w.Overlaps.any (fixOut w) = b
      generalize (w.Contacts.any fun c => !(d_world_validManifold c.Manifold)) = c
      cases a <;> cases b <;> cases c <;> rfl
theorem validate_eq (w : Api.World) : d_world_Validate w = d_r25_Validate w := by
  unfold d_world_Validate d_r25_Validate
  simp only [settings_eq, bodies_eq, joints_eq]
  split
  · rfl
  · split
    · rfl
    · rename_i h
      have h1 : w.Contacts.length ≤ 4194304 := by simp at h; omega
      have h2 : w.Overlaps.length ≤ 4194304 := by simp at h; omega
      rw [contacts_eq w h1 h2]
end Go.Abs
end
section
namespace Go.Abs
open Go.Proofs
open Api
theorem ints1 (a : Int) : intsB [a] = intB a := by simp [intsB]
theorem c32_x2 (d : BitVec 32) : IntKind.u32.wrap (((BitVec.ofInt 32 (IntKind.u32.wrap ((d.toNat : Int).tdiv 2))) ^^^ BitVec.ofInt 32 2197175160).toNat : Int) = (d >>> 1 ^^^ BitVec.ofInt 32 2197175160).toNat := by
  rw [c32_half, c32_ofInt, c32_toNat]
theorem c32_fin (d : BitVec 32) : IntKind.u32.wrap (((BitVec.ofInt 32 (d.toNat : Int)) ^^^ BitVec.ofInt 32 4294967295).toNat : Int) = (d ^^^ BitVec.ofInt 32 4294967295).toNat := by
  rw [c32_ofInt, c32_toNat]
theorem s_r09_CRC32C (l : List Int) (hl : l.length ≤ 1000000000) : CallsA Tryz.prog F_r09_CRC32C [encD 1 encU8 0 l] [] (.sc (.int .u32 (crcF l).toNat)) [] := by
  refine en1 hm shOk Tryz.func36 rfl rfl ?_
  simp only [go_sem]
  refine Wpi_loop hm (ι := {i : Nat // i ≤ l.length}) (fun i => [(0, .share, encD 1 encU8 0 l), (3, .share, .sc (.int .u32 (crcL (l.take i.1)).toNat)), (4, .share, .sc (.int .i64 i.1))])
    (fun _ => []) (fun i => l.length - i.1) ⟨0, by omega⟩ ?_ ?_
  · refine weakE_ [] [] ?_
    simp only [go_sem]
    decide
  · rintro ⟨i, hi⟩
    simp only [go_sem]
    by_cases hlt : i < l.length
    · rw [if_pos (by omega)]
      have hs := crcL_snoc hlt
      generalize crcL (l.take i) = d at *
      refine ⟨ok_, ?_⟩
      have hX : crcX d (l.getD i 0) = crcK (d ^^^ BitVec.ofInt 32 (l.getD i 0)) 8 := rfl
      have hx := c32_xor d (l.getD i 0)
      obtain ⟨e, he⟩ : ∃ e, d ^^^ BitVec.ofInt 32 (l.getD i 0) = e := ⟨_, rfl⟩
      rw [he] at hX hx
      refine Wpi_loop hm (ι := {k : Nat // k ≤ 8}) (fun k => [(0, .share, encD 1 encU8 0 l), (3, .share, .sc (.int .u32 (crcK e k.1).toNat)), (4, .share, .sc (.int .i64 i)), (5, .share, .sc (.int .i64 k.1))])
        (fun _ => []) (fun k => 8 - k.1) ⟨0, by omega⟩ ?_ ?_
      · refine weakE_ [] [] ?_
        simp only [go_sem]
        exact hx
      · rintro ⟨k, hk⟩
        have hS : crcK e (k + 1) = crcS (crcK e k) := rfl
        simp only [go_sem]
        by_cases hkl : k < 8
        · rw [if_pos (by omega)]
          generalize crcK e k = d at *
          refine ⟨by decide, by decide, ?_⟩
          rw [c32_odd]
          by_cases ho : d.toNat % 2 = 1
          · have hS2 : crcS d = (d >>> 1) ^^^ BitVec.ofInt 32 2197175160 := if_pos ho
            rw [if_pos (by rw [ho]; rfl)]
            refine loop_next ⟨k + 1, by omega⟩ (by show 8 - (k + 1) < 8 - k; omega) (weakE_ [] [] ?_)
            simp only [hS, hS2, go_sem]
            exact ⟨c32_x2 d, (by rw [IntKind.wrap_i64]; omega)⟩
          · have hS2 : crcS d = d >>> 1 := if_neg ho
            rw [if_neg (by rw [beq_iff_eq]; omega)]
            refine loop_next ⟨k + 1, by omega⟩ (by show 8 - (k + 1) < 8 - k; omega) (weakE_ [] [] ?_)
            simp only [hS, hS2, go_sem]
            exact ⟨c32_half d, (by rw [IntKind.wrap_i64]; omega)⟩
        · rw [if_neg (by omega)]
          obtain rfl : k = 8 := by omega
          refine loop_next ⟨i + 1, by omega⟩ (by show l.length - (i + 1) < l.length - i; omega) (weakE_ [] [] ?_)
          simp only [hs, hX, go_sem]
          exact (by rw [IntKind.wrap_i64]; omega)
    · rw [if_neg (by omega)]
      obtain rfl : i = l.length := by omega
      simp only [List.take_length, go_sem]
      exact c32_fin (crcL l)
def byK (c k : Nat) : Int := ((c / 256 ^ k % 256 : Nat) : Int)
theorem crcBytes_snoc (c k : Nat) (h : k < 4) : (crcBytes c).take (k + 1) = (crcBytes c).take k ++ [byK c k] := by
  match k, h with
  | 0, _ => simp [crcBytes, byK]
  | 1, _ => simp [crcBytes, byK]
  | 2, _ => simp [crcBytes, byK]
  | 3, _ => simp [crcBytes, byK]
theorem quo32 (u : Nat) (h : u < 4294967296) : IntKind.u32.wrap ((u : Int).tdiv 256) = ((u / 256 : Nat) : Int) := by
  rw [Int.tdiv_eq_ediv_of_nonneg (by omega), IntKind.wrap_u32]; omega
theorem s_r09_Seal (l : List Int) (hl : l.length ≤ 1000000000) : CallsA Tryz.prog F_r09_Seal [encD 1 encU8 0 l] [] (encD 1 encU8 0 (sealB l)) [] := by
  refine en1 hm shOk Tryz.func12 rfl rfl ?_
  simp only [go_sem]
  refine ⟨⟨by omega, (by simp only [maxLen]; omega)⟩, ?_⟩
  refine CallGi_flat (s_r09_CRC32C l hl) rfl ?_
  simp only [go_sem]
  have hsl : sealB l = l ++ crcBytes (crcF l).toNat := rfl
  have hc4 : (crcBytes (crcF l).toNat).length = 4 := rfl
  have hclt := (crcF l).isLt
  generalize (crcF l).toNat = c at *
  refine Wpi_loop hm (ι := {k : Nat // k ≤ 4}) (fun k => [(3, .share, .sl 1 0 (l ++ (crcBytes c).take k.1).length (l ++ (crcBytes c).take k.1).length), (4, .share, .sc (.int .u32 ((c / 256 ^ k.1 : Nat) : Int))), (5, .share, .sc (.int .i64 k.1))])
    (fun k => [(1, .arr 1 (encQ encU8 0 (l ++ (crcBytes c).take k.1)))]) (fun k => 4 - k.1) ⟨0, by omega⟩ ?_ ?_
  · refine weakE_ [(1, 112)] [] ?_
    simp only [List.take_zero, List.append_nil, Nat.pow_zero, Nat.div_one, go_sem]
  · rintro ⟨k, hk⟩
    simp only [go_sem]
    by_cases hkl : k < 4
    · rw [if_pos (by omega)]
      have hsn := crcBytes_snoc c k hkl
      have hbk : byK c k = ((c / 256 ^ k % 256 : Nat) : Int) := rfl
      have hpw : c / 256 ^ (k + 1) = c / 256 ^ k / 256 := by rw [Nat.pow_succ, Nat.div_div_eq_div_mul]
      have hu : c / 256 ^ k < 4294967296 := Nat.lt_of_le_of_lt (Nat.div_le_self _ _) hclt
      have hl2 : (l ++ (crcBytes c).take k).length ≤ 1000000004 := by rw [List.length_append, List.length_take]; omega
      refine ⟨by decide, ⟨by omega, (by simp only [maxLen]; omega)⟩, by decide, ?_⟩
      refine loop_next ⟨k + 1, by omega⟩ (by show 4 - (k + 1) < 4 - k; omega) (weakE_ [] [] ?_)
      have hap : l ++ (crcBytes c).take (k + 1) = (l ++ (crcBytes c).take k) ++ [byK c k] := by rw [hsn, List.append_assoc]
      simp only [hap, hpw, go_sem]
      generalize c / 256 ^ k = u at *
      rw [rem256 u, ← hbk]
      refine ⟨by simp only [List.length_append, List.length_singleton]; omega, quo32 u hu, (by rw [IntKind.wrap_i64]; omega), q_app1 (byK c k) rfl (List.append_assoc _ _ _).symm⟩
    · rw [if_neg (by omega)]
      obtain rfl : k = 4 := by omega
      have h4 : (crcBytes c).take 4 = crcBytes c := rfl
      rw [h4, ← hsl]
      exact avle_refl _
theorem s_r45_appendWorld (w : Api.World) (hw : Wsm w) (hf : Wfew w) : CallsA Tryz.prog F_r45_appendWorld [.agg w.enc] [] (encD 1 encU8 0 (encW w)) [] := by
  have m0 := encH_len w
  have m1 := enc1_len hf
  have m2 := enc2_len hf
  have m3 := enc3_len hf
  have m4 := encW_len hf
  have h1 := intB_len w.Settings.TimeStep
  have h2 := vecB_len w.Settings.Gravity
  obtain ⟨f1, f2, f3, f4, f5, f6⟩ := hf
  refine en1 hm shOk Tryz.func40 rfl rfl ?_
  simp only [go_sem]
  refine CallGi_thaw (s_r07_AppendInt [] w.Settings.TimeStep (by simp)) ?_
  simp only [argsC, go_sem]
  refine ⟨avle_nilD rfl, ?_⟩
  refine CallGi_flat (s_r07_AppendVec (intB w.Settings.TimeStep) w.Settings.Gravity (by omega)) rfl ?_
  simp only [go_sem]
  refine CallGi_thaw (s_r45_appendInts (intB w.Settings.TimeStep ++ vecB w.Settings.Gravity) [w.Settings.Iterations, w.Settings.SleepSteps, (w.Bodies.length : Int)] (by simp only [List.length_append, List.length_cons, List.length_nil]; omega)) ?_
  simp only [argsC, go_sem]
  refine ⟨avle_lit2 (l := [w.Settings.Iterations, w.Settings.SleepSteps, (w.Bodies.length : Int)]) (fun _ _ => rfl) rfl rfl rfl, ?_⟩
  have eH : intB w.Settings.TimeStep ++ (vecB w.Settings.Gravity ++ intsB [w.Settings.Iterations, w.Settings.SleepSteps, (w.Bodies.length : Int)]) = encH w := by unfold encH; rw [ints1, vecs1, List.append_assoc]
  refine Wpi_loop hm (ι := {i : Nat // i ≤ w.Bodies.length}) (fun i => [(1, .share, .ptr 32 0 0 1), (3, .share, encD 1 encU8 0 (encH w ++ (w.Bodies.take i.1).flatMap bodB)), (4, .share, .sc (.int .i64 i.1))])
    (fun i => [(32, .box w.enc)]) (fun i => w.Bodies.length - i.1) ⟨0, by omega⟩ ?_ ?_
  · refine weakE_ [] [] ?_
    simp only [List.take_zero, List.flatMap_nil, List.append_nil, eH, go_sem]
    try trivial
  · rintro ⟨i, hi⟩
    simp only [go_sem]
    have hl := fm_lenP (f := bodB) (c := 90000) (l := w.Bodies.take i) (fun b hb => bodB_len (f2 b (List.mem_of_mem_take hb)))
    rw [List.length_take] at hl
    by_cases hlt : i < w.Bodies.length
    · rw [if_pos (by omega)]
      have hs := fm_snoc (f := bodB) (l := w.Bodies) default hlt
      refine ⟨ok_, ?_⟩
      refine CallGi_flat (s_r45_AppendBody (encH w ++ (w.Bodies.take i).flatMap bodB) (w.Bodies.getD i default) (by simp only [List.length_append]; omega) (f2 _ (mem_getD default hlt))) rfl ?_
      simp only [go_sem]
      refine loop_next ⟨i + 1, by omega⟩ (by show w.Bodies.length - (i + 1) < w.Bodies.length - i; omega) (weakE_ [] [] ?_)
      simp only [hs, go_sem]
      exact (by rw [IntKind.wrap_i64]; omega)
    · rw [if_neg (by omega)]
      obtain rfl : i = w.Bodies.length := by omega
      rw [List.take_length] at hl
      have e1 : encH w ++ (w.Bodies.flatMap bodB ++ intsB [(w.Joints.length : Int)]) = enc1 w := by unfold enc1; rw [List.append_assoc]
      simp only [List.take_length, go_sem]
      refine CallGi_thaw (s_r45_appendInts (encH w ++ w.Bodies.flatMap bodB) [(w.Joints.length : Int)] (by simp only [List.length_append, List.length_cons, List.length_nil]; omega)) ?_
      simp only [argsC, go_sem]
      refine ⟨avle_lit2 (l := [(w.Joints.length : Int)]) (fun _ _ => rfl) rfl rfl rfl, ?_⟩
      refine Wpi_loop hm (ι := {i : Nat // i ≤ w.Joints.length}) (fun i => [(1, .share, .ptr 32 0 0 1), (3, .share, encD 1 encU8 0 (enc1 w ++ (w.Joints.take i.1).flatMap jntB)), (5, .share, .sc (.int .i64 i.1))])
        (fun i => [(32, .box w.enc)]) (fun i => w.Joints.length - i.1) ⟨0, by omega⟩ ?_ ?_
      · refine weakE_ [] [] ?_
        simp only [List.take_zero, List.flatMap_nil, List.append_nil, e1, go_sem]
        try trivial
      · rintro ⟨i, hi⟩
        simp only [go_sem]
        have hl := fm_lenP (f := jntB) (c := 300) (l := w.Joints.take i) (fun b _ => jntB_len b)
        rw [List.length_take] at hl
        by_cases hlt : i < w.Joints.length
        · rw [if_pos (by omega)]
          have hs := fm_snoc (f := jntB) (l := w.Joints) default hlt
          refine ⟨ok_, ?_⟩
          refine CallGi_flat (s_r45_AppendJoint (enc1 w ++ (w.Joints.take i).flatMap jntB) (w.Joints.getD i default) (by simp only [List.length_append]; omega) ) rfl ?_
          simp only [go_sem]
          refine loop_next ⟨i + 1, by omega⟩ (by show w.Joints.length - (i + 1) < w.Joints.length - i; omega) (weakE_ [] [] ?_)
          simp only [hs, go_sem]
          exact (by rw [IntKind.wrap_i64]; omega)
        · rw [if_neg (by omega)]
          obtain rfl : i = w.Joints.length := by omega
          rw [List.take_length] at hl
          have e2 : enc1 w ++ (w.Joints.flatMap jntB ++ intsB [(w.Contacts.length : Int)]) = enc2 w := by unfold enc2; rw [List.append_assoc]
          simp only [List.take_length, go_sem]
          refine CallGi_thaw (s_r45_appendInts (enc1 w ++ w.Joints.flatMap jntB) [(w.Contacts.length : Int)] (by simp only [List.length_append, List.length_cons, List.length_nil]; omega)) ?_
          simp only [argsC, go_sem]
          refine ⟨avle_lit2 (l := [(w.Contacts.length : Int)]) (fun _ _ => rfl) rfl rfl rfl, ?_⟩
          refine Wpi_loop hm (ι := {i : Nat // i ≤ w.Contacts.length}) (fun i => [(1, .share, .ptr 32 0 0 1), (3, .share, encD 1 encU8 0 (enc2 w ++ (w.Contacts.take i.1).flatMap ctcB)), (6, .share, .sc (.int .i64 i.1))])
            (fun i => [(32, .box w.enc)]) (fun i => w.Contacts.length - i.1) ⟨0, by omega⟩ ?_ ?_
          · refine weakE_ [] [] ?_
            simp only [List.take_zero, List.flatMap_nil, List.append_nil, e2, go_sem]
            try trivial
          · rintro ⟨i, hi⟩
            simp only [go_sem]
            have hl := fm_lenP (f := ctcB) (c := 600) (l := w.Contacts.take i) (fun c hc => ctc_few ⟨f1, f2, f3, f4, f5, f6⟩ c (List.mem_of_mem_take hc))
            rw [List.length_take] at hl
            by_cases hlt : i < w.Contacts.length
            · rw [if_pos (by omega)]
              have hs := fm_snoc (f := ctcB) (l := w.Contacts) default hlt
              refine ⟨ok_, ?_⟩
              refine CallGi_flat (s_r45_AppendContact (enc2 w ++ (w.Contacts.take i).flatMap ctcB) (w.Contacts.getD i default) (by simp only [List.length_append]; omega) (by have := f5 _ (mem_getD default hlt); omega)) rfl ?_
              simp only [go_sem]
              refine loop_next ⟨i + 1, by omega⟩ (by show w.Contacts.length - (i + 1) < w.Contacts.length - i; omega) (weakE_ [] [] ?_)
              simp only [hs, go_sem]
              exact (by rw [IntKind.wrap_i64]; omega)
            · rw [if_neg (by omega)]
              obtain rfl : i = w.Contacts.length := by omega
              rw [List.take_length] at hl
              have e3 : enc2 w ++ (w.Contacts.flatMap ctcB ++ intsB [(w.Overlaps.length : Int)]) = enc3 w := by unfold enc3; rw [List.append_assoc]
              simp only [List.take_length, go_sem]
              refine CallGi_thaw (s_r45_appendInts (enc2 w ++ w.Contacts.flatMap ctcB) [(w.Overlaps.length : Int)] (by simp only [List.length_append, List.length_cons, List.length_nil]; omega)) ?_
              simp only [argsC, go_sem]
              refine ⟨avle_lit2 (l := [(w.Overlaps.length : Int)]) (fun _ _ => rfl) rfl rfl rfl, ?_⟩
              refine Wpi_loop hm (ι := {i : Nat // i ≤ w.Overlaps.length}) (fun i => [(1, .share, .ptr 32 0 0 1), (3, .share, encD 1 encU8 0 (enc3 w ++ (w.Overlaps.take i.1).flatMap keyB)), (7, .share, .sc (.int .i64 i.1))])
                (fun i => [(32, .box w.enc)]) (fun i => w.Overlaps.length - i.1) ⟨0, by omega⟩ ?_ ?_
              · refine weakE_ [] [] ?_
                simp only [List.take_zero, List.flatMap_nil, List.append_nil, e3, go_sem]
                try trivial
              · rintro ⟨i, hi⟩
                simp only [go_sem]
                have hl := fm_lenP (f := keyB) (c := 40) (l := w.Overlaps.take i) (fun b _ => keyB_len b)
                rw [List.length_take] at hl
                by_cases hlt : i < w.Overlaps.length
                · rw [if_pos (by omega)]
                  have hs := fm_snoc (f := keyB) (l := w.Overlaps) default hlt
                  refine ⟨ok_, ?_⟩
                  refine CallGi_flat (s_r45_appendKey (enc3 w ++ (w.Overlaps.take i).flatMap keyB) (w.Overlaps.getD i default) (by simp only [List.length_append]; omega) ) rfl ?_
                  simp only [go_sem]
                  refine loop_next ⟨i + 1, by omega⟩ (by show w.Overlaps.length - (i + 1) < w.Overlaps.length - i; omega) (weakE_ [] [] ?_)
                  simp only [hs, go_sem]
                  exact (by rw [IntKind.wrap_i64]; omega)
                · rw [if_neg (by omega)]
                  obtain rfl : i = w.Overlaps.length := by omega
                  rw [List.take_length] at hl
                  have e4 : enc3 w ++ (w.Overlaps.flatMap keyB ++ intsB [w.NextID, w.Frame]) = encW w := by unfold encW; rw [List.append_assoc]
                  simp only [List.take_length, go_sem]
                  refine CallGi_thaw (s_r45_appendInts (enc3 w ++ w.Overlaps.flatMap keyB) [w.NextID, w.Frame] (by simp only [List.length_append, List.length_cons, List.length_nil]; omega)) ?_
                  simp only [argsC, go_sem]
                  refine ⟨avle_lit2 (l := [w.NextID, w.Frame]) (fun _ _ => rfl) rfl rfl rfl, ?_⟩
                  simp only [e4, go_sem]
end Go.Abs
end
section
namespace Go.Abs
open Go.Proofs
open Api
theorem s_newEncoder_own (b : List Int) (hb : b.length ≤ 400000000000) : CallsA Tryz.prog F_snapshot_newEncoder [encD 1 encU8 0 b] [] (.ptr 1 0 0 1) [(1, .box [.sl 2 0 b.length b.length]), (2, .arr 1 (encQ encU8 0 b))] := by
  refine enO1 hm shOk Tryz.func41 rfl rfl ?_
  simp only [go_sem]
  refine ⟨⟨by omega, (by simp only [maxLen]; omega)⟩, ?_⟩
  refine retW_of [.share] [(1, 112), (2, 80)] [] rfl rfl (by simp [go_sem]) (by simp [assoc, go_sem]) (by simp [go_sem]) ?_
  simp only [go_sem]
theorem s_newEncoder (b : List Int) (hb : b.length ≤ 400000000000) : CallsA Tryz.prog F_snapshot_newEncoder [encD 1 encU8 0 b] [] (.ptr 1 0 0 1) [(1, .box [encD 1 encU8 0 b]), (2, .frz 1 (encQ encU8 0 b))] := by
  refine CallsA.thawBox (s_newEncoder_own b hb) (id := 1) (k := 2) (z := 1) (s := encQ encU8 0 b) (cs := [.sl 2 0 b.length b.length]) rfl rfl (by decide) ?_ ?_
  · exact ⟨fun _ => rfl, trivial⟩
  · have e : (fun i => (encQ encU8 0 b).g (0 + i)) = encAt encU8 0 b := by funext i; rw [Nat.zero_add]; rfl
    have e2 : thawCells 2 1 (encQ encU8 0 b) [.sl 2 0 b.length b.length] = [encD 1 encU8 0 b] := by
      show [if 2 = 2 then AV.dsl 1 b.length (fun i => (encQ encU8 0 b).g (0 + i)) else AV.sl 2 0 b.length b.length] = _
      rw [if_pos rfl, e]; rfl
    rw [e2]
    funext x
    by_cases h1 : x = 1
    · subst h1; simp [ofL, wrm, upd]
    · by_cases h2 : x = 2
      · subst h2; simp [ofL, wrm, upd]
      · simp [ofL, wrm, upd, h1, h2]
theorem s_AppendContact (b : List Int) (x : Contact) (hb : b.length ≤ 100000000000) (hx : x.Manifold.Points.length ≤ 1048576) : CallsA Tryz.prog F_snapshot_AppendContact [encD 1 encU8 0 b, .agg x.enc] [] (encD 1 encU8 0 (b ++ ctcB x)) [] := by
  refine en1 hm shOk Tryz.func16 rfl rfl ?_
  simp only [go_sem]
  refine CallGi_obj [true] [] (s_newEncoder b (by omega)) (by simp) (by simp [go_sem]) (by simp [go_sem]) (by simp) ?_
  simp only [argsOC, go_sem]
  refine CallGi_subw (s_enc_contact b x (by omega) hx) (okO_eO _) rfl (by simp [go_sem]) (by simp [go_sem, AV.ids]) rfl ?_
  simp only [go_sem]
end Go.Abs
end
section
namespace Go.Abs
open Go.Proofs
open Api
theorem s_r45_Encode (w : Api.World) (hw : Wsm w) (hf : Wfew w) : CallsA Tryz.prog F_r45_Encode [.agg w.enc] [] (.tup [encD 1 encU8 0 (encR w), .sc (.int .i64 (encE w))]) [] := by
  have hl := encW_len hf
  refine enT hm shOk Tryz.func14 rfl rfl ?_
  simp only [go_sem]
  refine CallGi_flat (s_r25_Validate w hw) rfl ?_
  simp only [go_sem]
  unfold encR encE
  by_cases hv : d_world_Validate w = 0
  · rw [if_neg (by rw [← validate_eq, hv]; simp), if_pos hv, if_pos hv]
    refine CallGi_flat (s_r45_appendWorld w hw hf) rfl ?_
    simp only [go_sem]
    refine CallGi_flat (s_r09_Seal (encW w) (by omega)) rfl ?_
    simp only [go_sem]
  · rw [if_pos (by rw [← validate_eq]; simpa using hv), if_neg hv, if_neg hv]
    exact ⟨avle_nilD rfl, rfl⟩
end Go.Abs
end
section
namespace Go.Abs
open Go.Proofs
open Api
def bytes (b : List Int) : Prop := ∀ x ∈ b, 0 ≤ x ∧ x < 256
theorem bytes_getD {b : List Int} (h : bytes b) (i : Nat) : 0 ≤ b.getD i 0 ∧ b.getD i 0 < 256 := by
  by_cases hi : i < b.length
  · have : b.getD i 0 = b[i] := by simp [List.getD, hi]
    rw [this]; exact h _ (List.getElem_mem hi)
  · have : b.getD i 0 = 0 := by simp only [List.getD]; rw [List.getElem?_eq_none (by omega)]; rfl
    rw [this]; omega
def t2 (r : Except Int Int) : Int × Int := match r with | .ok x => (x, 0) | .error e => (0, e)
def rByte (b : List Int) (at' : Int) : Except Int Int :=
  if at' < 0 ∨ (b.length : Int) < at' then .error 2 else if at' = b.length then .error 4 else .ok (b.getD at'.toNat 0)
theorem rByte_ok {b : List Int} {at' x : Int} (h : rByte b at' = .ok x) : 0 ≤ at' ∧ at' < b.length ∧ x = b.getD at'.toNat 0 := by
  unfold rByte at h
  split at h
  · cases h
  · split at h
    · cases h
    · cases h; refine ⟨by omega, by omega, rfl⟩
theorem s_codec_readByte (b : List Int) (at' : Int) (hb : b.length ≤ 549755813888) : CallsA Tryz.prog F_codec_readByte [encD 1 encU8 0 b, .sc (.int .i64 at')] [] (.tup [.sc (.int .u8 (t2 (rByte b at')).1), .sc (.int .i64 (t2 (rByte b at')).2)]) [] := by
  refine enT hm shOk Tryz.func148 rfl rfl ?_
  simp only [go_sem]
  by_cases h0 : at' < 0
  · have hr : rByte b at' = .error 2 := by unfold rByte; rw [if_pos (.inl h0)]
    simp only [h0, hr, t2, decide_true, go_sem]
  · by_cases h1 : (b.length : Int) < at'
    · have hr : rByte b at' = .error 2 := by unfold rByte; rw [if_pos (.inr h1)]
      simp only [h0, h1, hr, t2, decide_true, decide_false, go_sem]
    · by_cases h2 : at' = b.length
      · have hr : rByte b at' = .error 4 := by unfold rByte; rw [if_neg (by omega), if_pos h2]
        simp only [h0, h1, hr, t2, decide_true, decide_false, go_sem]
        simp only [h2, beq_self_eq_true, go_sem]
      · have hr : rByte b at' = .ok (b.getD at'.toNat 0) := by unfold rByte; rw [if_neg (by omega), if_neg h2]
        simp only [h0, h1, h2, hr, t2, decide_true, decide_false, go_sem]
        first | exact ⟨by omega, rfl, rfl⟩ | (rw [if_neg (by simpa using h2)]; omega)
def beU (l : List Int) : Int := l.foldl (fun u c => u * 256 + c) 0
theorem beU_snoc {l : List Int} {i : Nat} (hi : i < l.length) : beU (l.take (i + 1)) = beU (l.take i) * 256 + l.getD i 0 := by
  unfold beU; rw [take_snoc 0 hi, List.foldl_append]; rfl
theorem beU_range {l : List Int} (h : bytes l) : ∀ i, i ≤ l.length → 0 ≤ beU (l.take i) ∧ beU (l.take i) < 256 ^ i
  | 0, _ => by simp [beU]
  | i + 1, hi => by
    have ih := beU_range h i (by omega)
    rw [beU_snoc (by omega)]
    have hc := bytes_getD h i
    have : (256 : Int) ^ (i + 1) = 256 ^ i * 256 := Int.pow_succ _ _
    rw [this]
    omega
def t3 (r : Except Int (Int × Int)) : Int × Int × Int := match r with | .ok x => (x.1, x.2, 0) | .error e => (0, 0, e)
def rBig (b : List Int) (at' : Int) (m : Bool) (k : Int) : Except Int (Int × Int) :=
  if 8 < k then .error 3 else if (b.length : Int) - at' - 1 < k then .error 4 else
  if (0 < k ∧ b.getD (at'.toNat + 1) 0 = 0) ∨ (m = false ∧ 9223372036854775808 ≤ beU ((b.drop (at'.toNat + 1)).take k.toNat)) ∨ (m = true ∧ 9223372036854775808 < beU ((b.drop (at'.toNat + 1)).take k.toNat)) then .error 3
  else .ok (if m = true then - beU ((b.drop (at'.toNat + 1)).take k.toNat) else beU ((b.drop (at'.toNat + 1)).take k.toNat), at' + 1 + k)
def rInt (b : List Int) (at' : Int) : Except Int (Int × Int) :=
  if at' < 0 ∨ (b.length : Int) < at' then .error 2 else if at' = b.length then .error 4 else
  rBig b at' (decide (16 < b.getD at'.toNat 0)) (if 16 < b.getD at'.toNat 0 then b.getD at'.toNat 0 - 16 else b.getD at'.toNat 0)
theorem take_drop_len {b : List Int} {i k : Nat} (h : i + k ≤ b.length) : ((b.drop i).take k).length = k := by simp; omega
theorem take_drop_get {b : List Int} {i k j : Nat} (h : j < k) : ((b.drop i).take k).getD j 0 = b.getD (i + j) 0 := by
  simp only [List.getD, List.getElem?_take, h, if_true, List.getElem?_drop]
theorem dslv {n m : Nat} {l : List Int} {f : Nat → Int} (hn : n = l.length) (hm' : m = n) (hf : ∀ i, i < n → f i = l.getD i 0) : avle (.dsl 1 n fun i => [AV.sc (.int .u8 (f i))]) (.dsl 1 m (encAt encU8 0 l)) := by
  subst hm'
  exact ⟨rfl, rfl, fun i hi => by show avleL [AV.sc (.int .u8 (f i))] _; rw [hf i hi]; exact avleL_refl _⟩
theorem drop_get {b : List Int} {i j : Nat} : (b.drop i).getD j 0 = b.getD (i + j) 0 := by simp [List.getD]
theorem or256 (u c : Int) (hu : 0 ≤ u) (hu2 : u < 72057594037927936) (hc : 0 ≤ c ∧ c < 256) :
    IntKind.u64.wrap ↑(BitVec.ofInt 64 (IntKind.u64.wrap (u * 2 ^ min 8 64)) ||| BitVec.ofInt 64 (IntKind.u64.wrap c)).toNat = u * 256 + c := by
  obtain ⟨a, rfl⟩ := Int.eq_ofNat_of_zero_le hu
  obtain ⟨d, rfl⟩ := Int.eq_ofNat_of_zero_le hc.1
  have e1 : IntKind.u64.wrap ((a : Int) * 2 ^ min 8 64) = ((a * 256 : Nat) : Int) := by
    have e8 : (2 : Int) ^ min 8 64 = 256 := by decide
    rw [e8, IntKind.wrap_u64]; omega
  have e2 : IntKind.u64.wrap (d : Int) = (d : Int) := by rw [IntKind.wrap_u64]; omega
  rw [e1, e2]
  have e3 : (BitVec.ofInt 64 ((a * 256 : Nat) : Int) ||| BitVec.ofInt 64 (d : Int)).toNat = a * 256 + d := by
    have hd : d < 2 ^ 8 := by omega
    have h := Nat.shiftLeft_add_eq_or_of_lt hd a
    rw [BitVec.ofInt_natCast, BitVec.ofInt_natCast, BitVec.toNat_or, BitVec.toNat_ofNat, BitVec.toNat_ofNat, Nat.mod_eq_of_lt (by omega), Nat.mod_eq_of_lt (by omega)]
    rw [Nat.shiftLeft_eq] at h
    exact h.symm
  rw [e3, IntKind.wrap_u64]; omega
theorem pow256_le {i : Nat} (h : i ≤ 7) : (256 : Int) ^ i ≤ 72057594037927936 := by
  have := Nat.pow_le_pow_right (show 0 < 256 by decide) h
  have e : (256 : Int) ^ i = ((256 ^ i : Nat) : Int) := by simp
  rw [e]; exact Int.ofNat_le.2 this
theorem pow256_le8 {i : Nat} (h : i ≤ 8) : (256 : Int) ^ i ≤ 18446744073709551616 := by
  have := Nat.pow_le_pow_right (show 0 < 256 by decide) h
  have e : (256 : Int) ^ i = ((256 ^ i : Nat) : Int) := by simp
  rw [e]; exact Int.ofNat_le.2 this
theorem rd_true {u : Int} (h : 0 ≤ u ∧ u < 18446744073709551616) {z : Bool} (hz : u = 0 → z = true) :
    (z || ((mag (IntKind.i64.wrap (0 - IntKind.i64.wrap u)) : Nat) : Int) != u || !(decide (IntKind.i64.wrap (0 - IntKind.i64.wrap u) < 0) == true)) = (z || decide (9223372036854775808 < u)) := by
  by_cases h1 : 9223372036854775808 < u
  · have : ¬ IntKind.i64.wrap (0 - IntKind.i64.wrap u) < 0 := by simp only [IntKind.wrap_i64]; omega
    simp only [h1, this]; simp
  · by_cases h0 : u = 0
    · simp [hz h0]
    · have e : IntKind.i64.wrap (0 - IntKind.i64.wrap u) = -u := by simp only [IntKind.wrap_i64]; omega
      have e2 : ((mag (-u) : Nat) : Int) = u := by unfold mag; omega
      have e3 : -u < 0 := by omega
      simp only [e, e2, e3, h1]
      simp
theorem rd_false {u : Int} (h : 0 ≤ u ∧ u < 18446744073709551616) {z : Bool} :
    (z || ((mag (IntKind.i64.wrap u) : Nat) : Int) != u || !(decide (IntKind.i64.wrap u < 0) == false)) = (z || decide (9223372036854775808 ≤ u)) := by
  by_cases h1 : 9223372036854775808 ≤ u
  · have : IntKind.i64.wrap u < 0 := by simp only [IntKind.wrap_i64]; omega
    simp [h1, this]
  · have e : IntKind.i64.wrap u = u := by simp only [IntKind.wrap_i64]; omega
    have e2 : ((mag u : Nat) : Int) = u := by unfold mag; omega
    have e3 : ¬ u < 0 := by omega
    simp only [e, e2, e3, h1]
    simp
theorem foldl_ge {l : List Int} (h : bytes l) : ∀ u, 0 ≤ u → u ≤ l.foldl (fun u c => u * 256 + c) u := by
  induction l with
  | nil => intro u _; exact Int.le_refl _
  | cons c l ih =>
    intro u hu
    have hc := h c (List.mem_cons_self ..)
    have := ih (fun x hx => h x (List.mem_cons_of_mem _ hx)) (u * 256 + c) (by omega)
    simp only [List.foldl_cons]; omega
theorem beU_zero {l : List Int} (h : bytes l) (hu : beU l = 0) : l.getD 0 0 = 0 := by
  cases l with
  | nil => rfl
  | cons c l =>
    have hc := h c (List.mem_cons_self ..)
    have := foldl_ge (l := l) (fun x hx => h x (List.mem_cons_of_mem _ hx)) (0 * 256 + c) (by omega)
    unfold beU at hu
    simp only [List.foldl_cons] at hu
    show c = 0
    omega
theorem s_codec_ReadInt (b : List Int) (at' : Int) (hb : b.length ≤ 549755813888) (hB : bytes b) :
    CallsA Tryz.prog F_codec_ReadInt [encD 1 encU8 0 b, .sc (.int .i64 at')] [] (.tup [.sc (.int .i64 (t3 (rInt b at')).1), .sc (.int .i64 (t3 (rInt b at')).2.1), .sc (.int .i64 (t3 (rInt b at')).2.2)]) [] := by
  refine enT hm shOk Tryz.func112 rfl rfl ?_
  simp only [go_sem]
  refine CallGi_flat (s_codec_readByte b at' hb) rfl ?_
  simp only [go_sem]
  by_cases h0 : at' < 0 ∨ (b.length : Int) < at'
  · have h1 : rByte b at' = .error 2 := by unfold rByte; rw [if_pos h0]
    have h2 : rInt b at' = .error 2 := by unfold rInt; rw [if_pos h0]
    simp only [h1, h2, t2, t3, go_sem]
    first | done | simp
  by_cases h0' : at' = b.length
  · have h1 : rByte b at' = .error 4 := by unfold rByte; rw [if_neg h0, if_pos h0']
    have h2 : rInt b at' = .error 4 := by unfold rInt; rw [if_neg h0, if_pos h0']
    simp only [h1, h2, t2, t3, go_sem]
    first | done | simp
  have h1 : rByte b at' = .ok (b.getD at'.toNat 0) := by unfold rByte; rw [if_neg h0, if_neg h0']
  have hh := bytes_getD hB at'.toNat
  have hr : rInt b at' = rBig b at' (decide (16 < b.getD at'.toNat 0)) (if 16 < b.getD at'.toNat 0 then b.getD at'.toNat 0 - 16 else b.getD at'.toNat 0) := by unfold rInt; rw [if_neg h0, if_neg h0']
  rw [hr]
  simp only [h1, t2, go_sem]
  generalize hH : b.getD at'.toNat 0 = H at *
  clear h1 hr
  rw [if_neg (by decide)]
  have w0 : IntKind.i64.wrap H = H := by rw [IntKind.wrap_i64]; omega
  have w1 : IntKind.i64.wrap (at' + 1) = at' + 1 := by rw [IntKind.wrap_i64]; omega
  by_cases hm16 : 16 < H
  · have w2 : IntKind.i64.wrap (H - 16) = H - 16 := by rw [IntKind.wrap_i64]; omega
    have hk0 : 0 ≤ (H - 16) := by omega
    simp only [hm16, w0, w1, w2, decide_true, decide_false, go_sem]
    generalize hk : (H - 16) = k at *
    by_cases h8 : 8 < k
    · have h3 : rBig b at' true k = .error 3 := by unfold rBig; rw [if_pos h8]
      simp only [h8, h3, t3, go_sem]
    by_cases h9 : (b.length : Int) - at' - 1 < k
    · have h3 : rBig b at' true k = .error 4 := by unfold rBig; rw [if_neg h8, if_pos h9]
      simp only [h8, h3, t3, Option.toList_some, Option.toList_none, Int.sub_zero, Int.toNat_natCast, go_sem]
      refine ⟨by omega, ?_⟩
      rw [if_pos (by omega)]
      trivial
    simp only [h8, Option.toList_some, Option.toList_none, Int.sub_zero, Int.toNat_natCast, go_sem]
    refine ⟨by omega, ?_⟩
    rw [if_neg (by omega)]
    refine ⟨by omega, ?_⟩
    obtain ⟨p, rfl⟩ := Int.eq_ofNat_of_zero_le (show 0 ≤ at' by omega)
    obtain ⟨q, rfl⟩ := Int.eq_ofNat_of_zero_le hk0
    have hLl : ((b.drop (p + 1)).take q).length = q := take_drop_len (by omega)
    refine Wpi_loop hm (ι := {i : Nat // i ≤ q}) (fun i => [(1, .share, .sc (.int .i64 p)), (9, .share, .sc (.int .i64 q)), (10, .share, .sc (.bool true)), (11, .thaw, encD 1 encU8 0 (b.drop (p + 1))), (12, .share, .sc (.int .u64 (beU (((b.drop (p + 1)).take q).take i.1)))), (44, .thaw, encD 1 encU8 0 ((b.drop (p + 1)).take q)), (45, .share, .sc (.int .i64 q)), (46, .share, .sc (.int .i64 i.1))])
      (fun i => []) (fun i => q - i.1) ⟨0, by omega⟩ ?_ ?_
    · refine weakE_ [] [] ?_
      simp only [List.take_zero, go_sem]
      exact ⟨dslv (by rw [List.length_drop]; omega) (by rw [List.length_drop]; omega) (fun i hi => by rw [drop_get, show ((p : Int) + 1).toNat + i = p + 1 + i by omega]), rfl, dslv hLl.symm (by rw [List.length_drop]; omega) (fun i hi => by rw [take_drop_get hi, show ((p : Int) + 1).toNat + i = p + 1 + i by omega])⟩
    · rintro ⟨i, hi⟩
      have hsn := beU_snoc (l := (b.drop (p + 1)).take q) (i := i)
      have hrg := beU_range (l := (b.drop (p + 1)).take q) (fun x hx => hB x (List.mem_of_mem_drop (List.mem_of_mem_take hx))) i (by omega)
      have hcc := bytes_getD (b := (b.drop (p + 1)).take q) (fun x hx => hB x (List.mem_of_mem_drop (List.mem_of_mem_take hx))) i
      have hld : (b.drop (p + 1)).length = b.length - (p + 1) := List.length_drop
      simp only [go_sem]
      by_cases hlt : i < q
      · rw [if_pos (by omega)]
        refine ⟨by omega, by omega, ?_⟩
        refine loop_next ⟨i + 1, by omega⟩ (by show q - (i + 1) < q - i; omega) (weakE_ [] [] ?_)
        simp only [go_sem]
        have h7 := pow256_le (show i ≤ 7 by omega)
        exact ⟨(or256 _ _ hrg.1 (by omega) hcc).trans (hsn (by omega)).symm, by rw [IntKind.wrap_i64]; omega⟩
      · rw [if_neg (by omega)]
        obtain rfl : i = q := by omega
        clear hsn
        rw [List.take_of_length_le (by omega)] at hrg
        have h8' := pow256_le8 (show i ≤ 8 by omega)
        simp only [List.take_of_length_le (show ((b.drop (p + 1)).take i).length ≤ i by omega)]
        refine ⟨by omega, ?_⟩
        refine CallGi_flat (s_codec_magnitude _) rfl ?_
        have hd0 : (b.drop (p + 1)).getD 0 0 = b.getD (p + 1) 0 := drop_get
        generalize hu : beU ((b.drop (p + 1)).take i) = u at *
        simp only [hd0, List.take_take, Nat.min_self, hu, go_sem]
        have hb3 : 0 ≤ u ∧ u < 18446744073709551616 := by omega
        have hz0 : 0 < i → u = 0 → b.getD (p + 1) 0 = 0 := fun hi0 hu0 => by
          have := beU_zero (l := (b.drop (p + 1)).take i) (fun x hx => hB x (List.mem_of_mem_drop (List.mem_of_mem_take hx))) (by rw [hu]; exact hu0)
          rwa [take_drop_get hi0] at this
        have hpos : 0 < i := by omega
        simp only [hm16, if_true, decide_true]
        rw [rd_true hb3 (fun h => by rw [if_pos (show (0 : Int) < i by omega), hz0 hpos h]; rfl)]
        have hrB : rBig b p true i = if (0 < (i : Int) ∧ b.getD (p + 1) 0 = 0) ∨ (true = false ∧ 9223372036854775808 ≤ u) ∨ (true = true ∧ 9223372036854775808 < u) then .error 3 else .ok (if true = true then -u else u, (p : Int) + 1 + i) := by
          unfold rBig; rw [if_neg h8, if_neg h9]; simp only [Int.toNat_natCast, hu]
        rw [hrB]
        by_cases hc : (0 < (i : Int) ∧ b.getD (p + 1) 0 = 0) ∨ (true = false ∧ 9223372036854775808 ≤ u) ∨ (true = true ∧ 9223372036854775808 < u)
        · rw [if_pos hc, if_pos]
          · exact ⟨rfl, rfl, rfl⟩
          · rcases hc with ⟨hc1, hc2⟩ | ⟨_, hc1⟩ | ⟨_, hc1⟩
            · rw [if_pos hc1, hc2]; rfl
            · simp_all
            · simp_all
        · rw [if_neg hc, if_neg]
          · simp only [t3, w1]
            have hle : ¬ 9223372036854775808 < u := fun h => hc (.inr (.inr ⟨rfl, h⟩))
            refine ⟨?_, ?_, trivial⟩
            · simp only [IntKind.wrap_i64]; simp; omega
            · rw [IntKind.wrap_i64]; omega
          · intro hb4
            refine hc ?_
            simp only [Bool.or_eq_true, decide_eq_true_eq] at hb4
            rcases hb4 with hb4 | hb4
            · split at hb4
              · rename_i h0i; exact .inl ⟨h0i, by simpa using hb4⟩
              · cases hb4
            · simp_all
  · have w2 : IntKind.i64.wrap (H - 16) = H - 16 := by rw [IntKind.wrap_i64]; omega
    have hk0 : 0 ≤ H := by omega
    simp only [hm16, w0, w1, w2, decide_true, decide_false, go_sem]
    generalize hk : H = k at *
    by_cases h8 : 8 < k
    · have h3 : rBig b at' false k = .error 3 := by unfold rBig; rw [if_pos h8]
      simp only [h8, h3, t3, go_sem]
    by_cases h9 : (b.length : Int) - at' - 1 < k
    · have h3 : rBig b at' false k = .error 4 := by unfold rBig; rw [if_neg h8, if_pos h9]
      simp only [h8, h3, t3, Option.toList_some, Option.toList_none, Int.sub_zero, Int.toNat_natCast, go_sem]
      refine ⟨by omega, ?_⟩
      rw [if_pos (by omega)]
      trivial
    simp only [h8, Option.toList_some, Option.toList_none, Int.sub_zero, Int.toNat_natCast, go_sem]
    refine ⟨by omega, ?_⟩
    rw [if_neg (by omega)]
    refine ⟨by omega, ?_⟩
    obtain ⟨p, rfl⟩ := Int.eq_ofNat_of_zero_le (show 0 ≤ at' by omega)
    obtain ⟨q, rfl⟩ := Int.eq_ofNat_of_zero_le hk0
    have hLl : ((b.drop (p + 1)).take q).length = q := take_drop_len (by omega)
    refine Wpi_loop hm (ι := {i : Nat // i ≤ q}) (fun i => [(1, .share, .sc (.int .i64 p)), (9, .share, .sc (.int .i64 q)), (10, .share, .sc (.bool false)), (11, .thaw, encD 1 encU8 0 (b.drop (p + 1))), (12, .share, .sc (.int .u64 (beU (((b.drop (p + 1)).take q).take i.1)))), (44, .thaw, encD 1 encU8 0 ((b.drop (p + 1)).take q)), (45, .share, .sc (.int .i64 q)), (46, .share, .sc (.int .i64 i.1))])
      (fun i => []) (fun i => q - i.1) ⟨0, by omega⟩ ?_ ?_
    · refine weakE_ [] [] ?_
      simp only [List.take_zero, go_sem]
      exact ⟨dslv (by rw [List.length_drop]; omega) (by rw [List.length_drop]; omega) (fun i hi => by rw [drop_get, show ((p : Int) + 1).toNat + i = p + 1 + i by omega]), rfl, dslv hLl.symm (by rw [List.length_drop]; omega) (fun i hi => by rw [take_drop_get hi, show ((p : Int) + 1).toNat + i = p + 1 + i by omega])⟩
    · rintro ⟨i, hi⟩
      have hsn := beU_snoc (l := (b.drop (p + 1)).take q) (i := i)
      have hrg := beU_range (l := (b.drop (p + 1)).take q) (fun x hx => hB x (List.mem_of_mem_drop (List.mem_of_mem_take hx))) i (by omega)
      have hcc := bytes_getD (b := (b.drop (p + 1)).take q) (fun x hx => hB x (List.mem_of_mem_drop (List.mem_of_mem_take hx))) i
      have hld : (b.drop (p + 1)).length = b.length - (p + 1) := List.length_drop
      simp only [go_sem]
      by_cases hlt : i < q
      · rw [if_pos (by omega)]
        refine ⟨by omega, by omega, ?_⟩
        refine loop_next ⟨i + 1, by omega⟩ (by show q - (i + 1) < q - i; omega) (weakE_ [] [] ?_)
        simp only [go_sem]
        have h7 := pow256_le (show i ≤ 7 by omega)
        exact ⟨(or256 _ _ hrg.1 (by omega) hcc).trans (hsn (by omega)).symm, by rw [IntKind.wrap_i64]; omega⟩
      · rw [if_neg (by omega)]
        obtain rfl : i = q := by omega
        clear hsn
        rw [List.take_of_length_le (by omega)] at hrg
        have h8' := pow256_le8 (show i ≤ 8 by omega)
        simp only [List.take_of_length_le (show ((b.drop (p + 1)).take i).length ≤ i by omega)]
        refine ⟨by omega, ?_⟩
        refine CallGi_flat (s_codec_magnitude _) rfl ?_
        have hd0 : (b.drop (p + 1)).getD 0 0 = b.getD (p + 1) 0 := drop_get
        generalize hu : beU ((b.drop (p + 1)).take i) = u at *
        simp only [hd0, List.take_take, Nat.min_self, hu, go_sem]
        have hb3 : 0 ≤ u ∧ u < 18446744073709551616 := by omega
        have hz0 : 0 < i → u = 0 → b.getD (p + 1) 0 = 0 := fun hi0 hu0 => by
          have := beU_zero (l := (b.drop (p + 1)).take i) (fun x hx => hB x (List.mem_of_mem_drop (List.mem_of_mem_take hx))) (by rw [hu]; exact hu0)
          rwa [take_drop_get hi0] at this
        simp only [hm16, if_false, decide_false]
        rw [rd_false hb3]
        have hrB : rBig b p false i = if (0 < (i : Int) ∧ b.getD (p + 1) 0 = 0) ∨ (false = false ∧ 9223372036854775808 ≤ u) ∨ (false = true ∧ 9223372036854775808 < u) then .error 3 else .ok (if false = true then -u else u, (p : Int) + 1 + i) := by
          unfold rBig; rw [if_neg h8, if_neg h9]; simp only [Int.toNat_natCast, hu]
        rw [hrB]
        by_cases hc : (0 < (i : Int) ∧ b.getD (p + 1) 0 = 0) ∨ (false = false ∧ 9223372036854775808 ≤ u) ∨ (false = true ∧ 9223372036854775808 < u)
        · rw [if_pos hc, if_pos]
          · exact ⟨rfl, rfl, rfl⟩
          · rcases hc with ⟨hc1, hc2⟩ | ⟨_, hc1⟩ | ⟨_, hc1⟩
            · rw [if_pos hc1, hc2]; rfl
            · simp_all
            · simp_all
        · rw [if_neg hc, if_neg]
          · simp only [t3, w1]
            have hle : ¬ 9223372036854775808 ≤ u := fun h => hc (.inr (.inl ⟨rfl, h⟩))
            refine ⟨?_, ?_, trivial⟩
            · simp only [IntKind.wrap_i64]; simp; omega
            · rw [IntKind.wrap_i64]; omega
          · intro hb4
            refine hc ?_
            simp only [Bool.or_eq_true, decide_eq_true_eq] at hb4
            rcases hb4 with hb4 | hb4
            · split at hb4
              · rename_i h0i; exact .inl ⟨h0i, by simpa using hb4⟩
              · cases hb4
            · simp_all
theorem n00 : ((0 : Int) != 0) = false := by decide
def t3b (r : Except Int (Bool × Int)) : Bool × Int × Int := match r with | .ok x => (x.1, x.2, 0) | .error e => (false, 0, e)
def rBool (b : List Int) (at' : Int) : Except Int (Bool × Int) :=
  match rByte b at' with
  | .error e => .error e
  | .ok c => if 1 < c then .error 3 else .ok (c == 1, at' + 1)
theorem rByte_err {b : List Int} {at' e : Int} (h : rByte b at' = .error e) : e ≠ 0 := by
  unfold rByte at h
  split at h
  · cases h; decide
  · split at h
    · cases h; decide
    · cases h
theorem s_codec_ReadBool (b : List Int) (at' : Int) (hb : b.length ≤ 549755813888) :
    CallsA Tryz.prog F_codec_ReadBool [encD 1 encU8 0 b, .sc (.int .i64 at')] [] (.tup [.sc (.bool (t3b (rBool b at')).1), .sc (.int .i64 (t3b (rBool b at')).2.1), .sc (.int .i64 (t3b (rBool b at')).2.2)]) [] := by
  refine enT hm shOk Tryz.func149 rfl rfl ?_
  simp only [go_sem]
  refine CallGi_flat (s_codec_readByte b at' hb) rfl ?_
  simp only [go_sem]
  cases hr : rByte b at' with
  | error e =>
    have he := rByte_err hr
    have h2 : rBool b at' = .error e := by unfold rBool; rw [hr]
    have hne : (e != 0) = true := by simpa using he
    simp only [h2, t2, t3b, hne, go_sem]
  | ok c =>
    obtain ⟨h0, h1, rfl⟩ := rByte_ok hr
    have h2 : rBool b at' = if 1 < b.getD at'.toNat 0 then .error 3 else .ok (b.getD at'.toNat 0 == 1, at' + 1) := by unfold rBool; rw [hr]
    rw [h2]
    by_cases hc : 1 < b.getD at'.toNat 0
    · simp only [hc, t2, t3b, n00, decide_true, go_sem]
    · simp only [hc, t2, t3b, n00, decide_false, go_sem]
      rw [IntKind.wrap_i64]; omega
def t3v (r : Except Int (Vec × Int)) : Vec × Int × Int := match r with | .ok x => (x.1, x.2, 0) | .error e => (default, 0, e)
def rVec (b : List Int) (at' : Int) : Except Int (Vec × Int) :=
  match rInt b at' with
  | .error e => .error e
  | .ok (x, at1) => match rInt b at1 with
    | .error e => .error e
    | .ok (y, at2) => .ok (⟨x, y⟩, at2)
theorem rInt_err {b : List Int} {at' e : Int} (h : rInt b at' = .error e) : e ≠ 0 := by
  unfold rInt rBig at h
  (repeat' split at h) <;> cases h <;> decide
theorem s_codec_ReadVec (b : List Int) (at' : Int) (hb : b.length ≤ 549755813888) (hB : bytes b) :
    CallsA Tryz.prog F_codec_ReadVec [encD 1 encU8 0 b, .sc (.int .i64 at')] [] (.tup [.agg (t3v (rVec b at')).1.enc, .sc (.int .i64 (t3v (rVec b at')).2.1), .sc (.int .i64 (t3v (rVec b at')).2.2)]) [] := by
  refine enRT 36 [(4, some (some 2)), (5, none), (6, none)] hm shOk Tryz.func114 rfl ?_
  simp only [go_sem]
  refine CallGi_flat (s_codec_ReadInt b at' hb hB) rfl ?_
  simp only [go_sem]
  cases hr : rInt b at' with
  | error e =>
    have he := rInt_err hr
    have h2 : rVec b at' = .error e := by unfold rVec; rw [hr]
    have hne : (e != 0) = true := by simpa using he
    simp only [h2, t3, t3v, hne, go_sem]
    exact ⟨rfl, rfl⟩
  | ok p =>
    obtain ⟨x, at1⟩ := p
    simp only [t3, n00, go_sem]
    refine CallGi_flat (s_codec_ReadInt b at1 hb hB) rfl ?_
    simp only [go_sem]
    cases hr2 : rInt b at1 with
    | error e =>
      have he := rInt_err hr2
      have h2 : rVec b at' = .error e := by unfold rVec; rw [hr]; simp only [hr2]
      have hne : (e != 0) = true := by simpa using he
      simp only [h2, t3, t3v, hne, go_sem]
      exact ⟨rfl, rfl⟩
    | ok p =>
      obtain ⟨y, at2⟩ := p
      have h2 : rVec b at' = .ok (⟨x, y⟩, at2) := by unfold rVec; rw [hr]; simp only [hr2]
      simp only [h2, t3, t3v, n00, go_sem]
end Go.Abs
end
section
namespace Go.Abs
open Go.Proofs
open Api
def evD (n : Int) : Value := .iface 181 (.agg #[.int .i64 n])
theorem evD_ty : ∃ fs, Tryz.prog.underlying 181 = some (.struct fs) := ⟨_, Tryz.underlying181⟩
def tRes {α : Type} (enc : α → List AV) (st : α → List (Nat × AObj)) : Except Int α → Except Int (List AV × List (Nat × AObj))
  | .ok x => .ok (enc x, st x)
  | .error e => .error e
theorem CallGi_subx {P : Program} {m : Nat → Option AObj} {f : FuncId} {avs : List AV} {b : Bool} {Q : ContR} {O O' : List (Nat × AObj)} {r : AV} (hc : CallsA P f avs O r O') (h : okO O) (hk : O'.map (·.1) = O.map (·.1)) (hm : ∀ p ∈ O, m p.1 = some p.2)
    (ha : ∀ a ∈ avs, ∀ i ∈ a.ids, (ofL O i).isSome) (hb : b = true) (hK : @Ri Q b ⟨some r, O'⟩) : @CallGi P m f avs b Q := by
  rw [← renO_id O'] at hK
  have hiff : ∀ i, (ofL O' i).isSome ↔ (ofL O i).isSome := fun i => by
    have key : ∀ (l : List (Nat × AObj)), (l.map (·.1)).Nodup → ((ofL l i).isSome ↔ i ∈ l.map (·.1)) := fun l hl => by
      constructor
      · intro hs
        obtain ⟨o, ho⟩ := Option.isSome_iff_exists.1 hs
        exact List.mem_map_of_mem (f := (·.1)) (ofL_mem' hl ho)
      · intro hs
        rw [List.mem_map] at hs
        obtain ⟨p, hp, rfl⟩ := hs
        rw [ofL_mem_eq hl hp]; rfl
    rw [key O' (by rw [hk]; exact h.1), key O h.1, hk]
  refine ⟨⟨some r, renO id O'⟩, fun _ => ?_, fun _ => hb, hK⟩
  have := CallDoes.mk (P := P) (m := m) (avs.map fun _ => true) avs O r O' id [] false hc (argsOk_same ha)
    (fun i o hi => by rw [aobj_ren_id]; exact hm _ (ofL_mem' h.1 hi))
    (fun i cs hi j hj => h.2 _ (ofL_mem' h.1 hi) cs rfl j hj) (fun i hi => (hiff i).2 hi) (fun i hi => .inl ((hiff i).1 hi)) (by show (O'.map (·.1)).Nodup; rw [hk]; exact h.1) (fun e => by cases e)
  simpa [AV.ren_id] using this
theorem CallGiT_sub {P : Program} {m : Nat → Option AObj} {f : FuncId} {avs : List AV} {b : Bool} {Q : ContR} {D : ContD} {O : List (Nat × AObj)} {α : Type} {r : Except Int α} {enc : α → List AV} {st : α → List (Nat × AObj)} {ev : Int → Value}
    (hc : CallsT P ev f avs O (tRes enc st r)) (hev : D.ev = ev) (h : okO O) (hk : ∀ x, (st x).map (·.1) = O.map (·.1)) (hm : ∀ p ∈ O, m p.1 = some p.2)
    (ha : ∀ a ∈ avs, ∀ i ∈ a.ids, (ofL O i).isSome) (hb : b = true) (hD : ∀ e, r = .error e → D.d e) (hK : ∀ x, r = .ok x → @Ri Q b ⟨some (pack (enc x)), st x⟩) : @CallGiT P m f avs b Q D := by
  cases r with
  | ok x => exact .inl (CallGi_subx hc h (hk x) hm ha hb (hK x rfl))
  | error e =>
    subst hev
    exact .inr ⟨hb, avs.map (fun _ => true), avs, O, id, [], e, hD e rfl, hc, argsOk_same ha, fun i o hi => by rw [aobj_ren_id]; exact hm _ (ofL_mem' h.1 hi),
      fun i cs hi j hj => h.2 _ (ofL_mem' h.1 hi) cs rfl j hj, fun i j _ _ e => e⟩
def dO (b : List Int) (at' : Int) : List (Nat × AObj) := [(1, .box [encD 1 encU8 0 b, .sc (.int .i64 at')])]
attribute [go_sem] dO
theorem okO_dO (b : List Int) (at' : Int) : okO (dO b at') := by
  refine ⟨by simp [go_sem], ?_⟩
  simp [go_sem, idsL, AV.ids]
theorem retT_ok {α : Type} {enc : α → List AV} {st : α → List (Nat × AObj)} {r : Except Int α} (x : α) (h : r = .ok x) {Q : List AV → List (Nat × AObj) → Prop} (hq : Q (enc x) (st x)) : ∃ rs O', tRes enc st r = .ok (rs, O') ∧ Q rs O' :=
  ⟨enc x, st x, by rw [h]; rfl, hq⟩
theorem tRes_err {α : Type} {enc : α → List AV} {st : α → List (Nat × AObj)} {r : Except Int α} {e : Int} (h : r = .error e) : tRes enc st r = .error e := by rw [h]; rfl
def advR (code : Int) : Except Int Unit := if code = 0 then .ok () else .error code
theorem advR_ok {c : Int} {u : Unit} (h : advR c = .ok u) : c = 0 := by
  unfold advR at h; split at h
  · assumption
  · cases h
theorem advR_err {c e : Int} (h : advR c = .error e) : c ≠ 0 ∧ c = e := by
  unfold advR at h; split at h
  · cases h
  · cases h; exact ⟨by assumption, rfl⟩
def tc_snapshot_decoder_advance : TCode := (.seq (.seq (.plain (.region false [⟨(some 6), .mov (.t 2), none, []⟩, ⟨(some 7), .bin .neq (.t 6) (.k (.sc (.int .i64 0))), none, []⟩])) (.cond (.t 7) (.die [⟨(some 8), .mov (.t 2), none, []⟩, ⟨(some 9), .build [(.int .i64 0)] [(0, 1, (.t 8))], none, []⟩] (.t 9)) (.plain .skip))) (.plain (.region false [⟨(some 11), .mov (.t 0), none, []⟩, ⟨(some 12), .mov (.t 1), none, []⟩, ⟨(some 13), .nilck (.t 11), none, []⟩, ⟨(some 14), .faddr 1 (.t 13), none, []⟩, ⟨none, .store 1 (.t 14) (.t 12), none, []⟩])))
theorem s_dec_advance (b : List Int) (at' off code : Int) : CallsT Tryz.prog evD F_snapshot_decoder_advance [.ptr 1 0 0 1, .sc (.int .i64 off), .sc (.int .i64 code)] (dO b at') (tRes (fun _ : Unit => []) (fun _ => dO b off) (advR code)) := by
  unfold advR
  refine callsTC_of (N := 15) hm evD_ty (fun _ => rfl) Tryz.func113 (by kernel_rfl) (by kernel_rfl) (by kernel_rfl) (by kernel_rfl : tcompile _ _ _ _ = some tc_snapshot_decoder_advance) (by kernel_rfl : rvOf Tryz.prog Tryz.f113.results.toList = some []) (by decide) (by kernel_rfl) ?_
  simp only [tc_snapshot_decoder_advance, go_sem]
  by_cases hc : code = 0
  · subst hc
    rw [if_neg (by decide)]
    refine retT_ok () rfl ?_
    simp only [retR]
    exact retW_of [] [] [] rfl rfl (by simp [go_sem]) (by simp [assoc, go_sem]) (by simp [go_sem]) (by simp only [go_sem])
  · have hne : (code != 0) = true := by simpa using hc
    rw [if_pos hne, if_neg hc]
    exact ⟨code, rfl, rfl⟩
theorem rBool_err {b : List Int} {at' e : Int} (h : rBool b at' = .error e) : e ≠ 0 := by
  unfold rBool at h
  split at h
  · rename_i hr; cases h; exact rByte_err hr
  · split at h
    · cases h; decide
    · cases h
theorem rVec_err {b : List Int} {at' e : Int} (h : rVec b at' = .error e) : e ≠ 0 := by
  unfold rVec at h
  split at h
  · rename_i hr; cases h; exact rInt_err hr
  · split at h
    · rename_i hr; cases h; exact rInt_err hr
    · cases h
theorem s_dec_int (b : List Int) (at' : Int) (hb : b.length ≤ 549755813888) (hB : bytes b) : CallsT Tryz.prog evD F_snapshot_decoder_int [.ptr 1 0 0 1] (dO b at') (tRes (fun x : Int × Int => [.sc (.int .i64 x.1)]) (fun x => dO b x.2) (rInt b at')) := by
  refine enD 24 [(2, none)] hm shOk Tryz.func61 rfl ?_
  simp only [go_sem]
  refine CallGi_flat (s_codec_ReadInt b at' hb hB) rfl ?_
  simp only [go_sem]
  refine CallGiT_sub (s_dec_advance b at' _ _) rfl (okO_dO _ _) (fun _ => rfl) (by simp [go_sem]) (by simp [go_sem, AV.ids]) rfl (fun e he => ?_) (fun _ he => ?_)
  · cases hr : rInt b at' with
    | ok x => exact absurd (by rw [hr]; rfl) (advR_err he).1
    | error e' =>
      have h := (advR_err he).2

      rw [hr] at h
      obtain rfl : e' = e := h
      exact tRes_err rfl
  · cases hr : rInt b at' with
    | error e' => have h := advR_ok he; rw [hr] at h; exact absurd h (rInt_err hr)
    | ok x =>
      simp only [t3, go_sem]
      refine retT_ok x rfl ?_
      simp only [retR, go_sem]
      refine retW_of [.share] [] [] rfl rfl (by simp [go_sem]) (by simp [assoc, go_sem]) (by simp [go_sem]) ?_
      simp only [go_sem]
theorem s_dec_bool (b : List Int) (at' : Int) (hb : b.length ≤ 549755813888) : CallsT Tryz.prog evD F_snapshot_decoder_bool [.ptr 1 0 0 1] (dO b at') (tRes (fun x : Bool × Int => [.sc (.bool x.1)]) (fun x => dO b x.2) (rBool b at')) := by
  refine enD 24 [(2, none)] hm shOk Tryz.func116 rfl ?_
  simp only [go_sem]
  refine CallGi_flat (s_codec_ReadBool b at' hb) rfl ?_
  simp only [go_sem]
  refine CallGiT_sub (s_dec_advance b at' _ _) rfl (okO_dO _ _) (fun _ => rfl) (by simp [go_sem]) (by simp [go_sem, AV.ids]) rfl (fun e he => ?_) (fun _ he => ?_)
  · cases hr : rBool b at' with
    | ok x => exact absurd (by rw [hr]; rfl) (advR_err he).1
    | error e' =>
      have h := (advR_err he).2

      rw [hr] at h
      obtain rfl : e' = e := h
      exact tRes_err rfl
  · cases hr : rBool b at' with
    | error e' => have h := advR_ok he; rw [hr] at h; exact absurd h (rBool_err hr)
    | ok x =>
      simp only [t3b, go_sem]
      refine retT_ok x rfl ?_
      simp only [retR, go_sem]
      refine retW_of [.share] [] [] rfl rfl (by simp [go_sem]) (by simp [assoc, go_sem]) (by simp [go_sem]) ?_
      simp only [go_sem]
theorem s_dec_vec (b : List Int) (at' : Int) (hb : b.length ≤ 549755813888) (hB : bytes b) : CallsT Tryz.prog evD F_snapshot_decoder_vec [.ptr 1 0 0 1] (dO b at') (tRes (fun x : Vec × Int => [.agg x.1.enc]) (fun x => dO b x.2) (rVec b at')) := by
  refine enD 24 [(2, some (some 2))] hm shOk Tryz.func62 rfl ?_
  simp only [go_sem]
  refine CallGi_flat (s_codec_ReadVec b at' hb hB) rfl ?_
  simp only [go_sem]
  refine CallGiT_sub (s_dec_advance b at' _ _) rfl (okO_dO _ _) (fun _ => rfl) (by simp [go_sem]) (by simp [go_sem, AV.ids]) rfl (fun e he => ?_) (fun _ he => ?_)
  · cases hr : rVec b at' with
    | ok x => exact absurd (by rw [hr]; rfl) (advR_err he).1
    | error e' =>
      have h := (advR_err he).2

      rw [hr] at h
      obtain rfl : e' = e := h
      exact tRes_err rfl
  · cases hr : rVec b at' with
    | error e' => have h := advR_ok he; rw [hr] at h; exact absurd h (rVec_err hr)
    | ok x =>
      simp only [t3v, go_sem]
      refine retT_ok x rfl ?_
      simp only [retR, go_sem]
      refine retW_of [.share] [] [] rfl rfl (by simp [go_sem]) (by simp [assoc, go_sem]) (by simp [go_sem]) ?_
      simp only [go_sem]
def tc_snapshot_decoder_length : TCode := (.seq (.plain (.region false [⟨(some 2), .mov (.k (.sc (.int .i64 0))), none, []⟩])) (.seq (.plain (.region false [⟨(some 4), .mov (.t 0), none, []⟩, ⟨(some 5), .call 61 [(.t 4)], none, []⟩, ⟨(some 3), .mov (.t 5), none, []⟩])) (.seq (.block 0 (.seq (.plain (.region false [⟨(some 7), .mov (.t 3), none, []⟩, ⟨(some 8), .bin .lss (.t 7) (.k (.sc (.int .i64 0))), none, []⟩, ⟨(some 6), .mov (.t 8), none, []⟩])) (.cond (.t 6) (.die [⟨(some 9), .build [(.int .i64 0)] [(0, 1, (.k (.sc (.int .i64 3))))], none, []⟩] (.t 9)) (.seq (.plain (.region false [⟨(some 12), .mov (.t 3), none, []⟩, ⟨(some 13), .bin .gtr (.t 12) (.k (.sc (.int .i64 8192))), none, []⟩, ⟨(some 11), .mov (.t 13), none, []⟩])) (.cond (.t 11) (.die [⟨(some 14), .build [(.int .i64 0)] [(0, 1, (.k (.sc (.int .i64 5))))], none, []⟩] (.t 14)) (.plain .skip)))))) (.seq (.plain (.region false [⟨(some 16), .mov (.t 3), none, []⟩, ⟨(some 2), .mov (.t 16), none, []⟩])) (.plain .ret)))))
def rLen (b : List Int) (at' : Int) : Except Int (Int × Int) :=
  match rInt b at' with
  | .error e => .error e
  | .ok x => if x.1 < 0 then .error 3 else if 8192 < x.1 then .error 5 else .ok x
theorem rLen_ok {b : List Int} {at' : Int} {x : Int × Int} (h : rLen b at' = .ok x) : 0 ≤ x.1 ∧ x.1 ≤ 8192 ∧ rInt b at' = .ok x := by
  unfold rLen at h
  split at h
  · cases h
  · split at h
    · cases h
    · split at h
      · cases h
      · rename_i hr _ _; cases h; exact ⟨by omega, by omega, hr⟩
theorem s_dec_length (b : List Int) (at' : Int) (hb : b.length ≤ 549755813888) (hB : bytes b) : CallsT Tryz.prog evD F_snapshot_decoder_length [.ptr 1 0 0 1] (dO b at') (tRes (fun x : Int × Int => [.sc (.int .i64 x.1)]) (fun x => dO b x.2) (rLen b at')) := by
  refine callsTC_of (N := 17) hm evD_ty (fun _ => rfl) Tryz.func115 (by kernel_rfl) (by kernel_rfl) (by kernel_rfl) (by kernel_rfl : tcompile _ _ _ _ = some tc_snapshot_decoder_length) (by kernel_rfl : rvOf Tryz.prog Tryz.f115.results.toList = some [(2, none)]) (by decide) (by kernel_rfl) ?_
  simp only [tc_snapshot_decoder_length, go_sem]
  refine CallGiT_sub (s_dec_int b at' hb hB) rfl (okO_dO _ _) (fun _ => rfl) (by simp [go_sem]) (by simp [go_sem, AV.ids]) rfl (fun e he => ?_) (fun x he => ?_)
  · have : rLen b at' = .error e := by unfold rLen; rw [he]
    exact tRes_err this
  · simp only [go_sem]
    by_cases h1 : x.1 < 0
    · have h2 : rLen b at' = .error 3 := by unfold rLen; rw [he]; simp only [h1, if_true]
      simp only [h1, decide_true, go_sem]
      exact ⟨3, tRes_err h2, rfl⟩
    · by_cases h3 : 8192 < x.1
      · have h2 : rLen b at' = .error 5 := by unfold rLen; rw [he]; simp only [h1, h3, if_true, if_false]
        simp only [h1, h3, decide_true, decide_false, go_sem]
        exact ⟨5, tRes_err h2, rfl⟩
      · have h2 : rLen b at' = .ok x := by unfold rLen; rw [he]; simp only [h1, h3, if_false]
        simp only [h1, h3, decide_false, go_sem]
        refine retT_ok x h2 ?_
        simp only [retR, go_sem]
        refine retW_of [.share] [] [] rfl rfl (by simp [go_sem]) (by simp [assoc, go_sem]) (by simp [go_sem]) ?_
        simp only [go_sem]
end Go.Abs
end
section
namespace Go.Abs
open Go.Proofs
open Api
def rN {α : Type} (p : Int → Except Int (α × Int)) (t : Int) : Nat → Except Int (List α × Int)
  | 0 => .ok ([], t)
  | n + 1 => match rN p t n with
    | .error e => .error e
    | .ok x => match p x.2 with
      | .error e => .error e
      | .ok y => .ok (x.1 ++ [y.1], y.2)
theorem rN_len {α : Type} {p : Int → Except Int (α × Int)} {t : Int} : ∀ {n : Nat} {x : List α × Int}, rN p t n = .ok x → x.1.length = n
  | 0, x, h => by cases h; rfl
  | n + 1, x, h => by
    simp only [rN] at h
    split at h
    · cases h
    · rename_i y hy
      split at h
      · cases h
      · cases h
        have := rN_len hy
        simp [this]
theorem rN_err {α : Type} {p : Int → Except Int (α × Int)} {t : Int} {i : Nat} {e : Int} (h : rN p t i = .error e) : ∀ {n : Nat}, i ≤ n → rN p t n = .error e
  | 0, hn => by obtain rfl : i = 0 := by omega
                exact h
  | n + 1, hn => by
    by_cases hi : i = n + 1
    · subst hi; exact h
    · simp only [rN]; rw [rN_err h (by omega)]
def rSl {α : Type} (p : Int → Except Int (α × Int)) (b : List Int) (at' : Int) : Except Int (List α × Int) :=
  match rLen b at' with
  | .error e => .error e
  | .ok x => rN p x.2 x.1.toNat
theorem s_dec_slice_Vec (b : List Int) (at' : Int) (hb : b.length ≤ 549755813888) (hB : bytes b) (p : Int → Except Int (Vec × Int)) (f : Nat)
    (hp : ∀ t, CallsT Tryz.prog evD f [.ptr 1 0 0 1] (dO b t) (tRes (fun x : Vec × Int => [.agg (Vec.enc x.1)]) (fun x => dO b x.2) (p t))) :
    CallsT Tryz.prog evD F_snapshot_slice_Vec [.ptr 1 0 0 1, .fn (.func f) [.ptr 1 0 0 1] []] (dO b at') (tRes (fun x : List Vec × Int => [encD 2 Vec.enc default x.1]) (fun x => dO b x.2) (rSl p b at')) := by
  refine enD 19 [(4, none)] hm shOk Tryz.func150 rfl ?_
  simp only [go_sem]
  refine CallGiT_sub (s_dec_length b at' hb hB) rfl (okO_dO _ _) (fun _ => rfl) (by simp [go_sem]) (by simp [go_sem, AV.ids]) rfl (fun e he => tRes_err (by unfold rSl; rw [he])) (fun x he => ?_)
  obtain ⟨n0, t0⟩ := x
  obtain ⟨hn0, hn1, -⟩ := rLen_ok he
  obtain ⟨n, rfl⟩ := Int.eq_ofNat_of_zero_le hn0
  have hsp : rSl p b at' = rN p t0 n := by unfold rSl; rw [he]; rfl
  simp only [go_sem]
  refine WpiT_loop hm (ι := {i : Nat × List Vec × Int // i.1 ≤ n ∧ rN p t0 i.1 = .ok i.2}) (fun i => [(1, .share, .fn (.func f) [.ptr 1 0 0 1] []), (6, if i.1.1 = 0 then .adopt else .share, .sl 2 0 i.1.1 i.1.1), (9, .share, .sc (.int .i64 n)), (10, .share, .sc (.int .i64 i.1.1))])
    (fun i => [(1, .box [encD 1 encU8 0 b, .sc (.int .i64 i.1.2.2)]), (2, .arr 2 (encQ Vec.enc default i.1.2.1))]) (fun i => n - i.1.1) ⟨(0, [], t0), by omega, rfl⟩ ?_ ?_
  · refine weakE_ [] [2] ?_
    simp only [List.length_nil, go_sem]
    try simp
  · rintro ⟨⟨i, l, t⟩, hi, hr⟩
    have hl : l.length = i := rN_len hr
    have hi : i ≤ n := hi
    have hr : rN p t0 i = .ok (l, t) := hr
    simp only [go_sem]
    by_cases hlt : i < n
    · rw [if_pos (by omega)]
      refine CallGiT_sub (O := dO b t) (hp t) rfl (okO_dO _ _) (fun _ => rfl) (by simp [go_sem]) (by simp [go_sem, AV.ids]) rfl (fun e he' => tRes_err ?_) (fun x he' => ?_)
      · rw [hsp]
        refine rN_err (i := i + 1) ?_ (by omega)
        simp only [rN]; rw [hr]; simp only [he']
      · have hr2 : rN p t0 (i + 1) = .ok (l ++ [x.1], x.2) := by simp only [rN]; rw [hr]; simp only [he']
        simp only [go_sem]
        refine ⟨⟨hl.symm, hl.symm, by omega, by simp only [maxLen]; omega⟩, ?_⟩
        refine loop_next ⟨(i + 1, l ++ [x.1], x.2), by omega, hr2⟩ (by show n - (i + 1) < n - i; omega) (weakE_ [] [] ?_)
        simp only [go_sem]
        refine ⟨by omega, (by rw [IntKind.wrap_i64]; omega), q_app1 x.1 rfl rfl⟩
    · rw [if_neg (by omega)]
      obtain rfl : i = n := by omega
      refine retT_ok (l, t) (hsp.trans hr) ?_
      simp only [retR, go_sem]
      refine retW_of [.thaw] [] [] rfl rfl (by simp [go_sem]) (by simp [assoc, go_sem]) (by simp [go_sem]) ?_
      simp only [go_sem]
      exact ⟨hl.symm, by rw [hl]; exact avle_refl _⟩
theorem s_dec_slice_ContactPoint (b : List Int) (at' : Int) (hb : b.length ≤ 549755813888) (hB : bytes b) (p : Int → Except Int (ContactPoint × Int)) (f : Nat)
    (hp : ∀ t, CallsT Tryz.prog evD f [.ptr 1 0 0 1] (dO b t) (tRes (fun x : ContactPoint × Int => [.agg (ContactPoint.enc x.1)]) (fun x => dO b x.2) (p t))) :
    CallsT Tryz.prog evD F_snapshot_slice_ContactPoint [.ptr 1 0 0 1, .fn (.func f) [.ptr 1 0 0 1] []] (dO b at') (tRes (fun x : List ContactPoint × Int => [encD 6 ContactPoint.enc default x.1]) (fun x => dO b x.2) (rSl p b at')) := by
  refine enD 19 [(4, none)] hm shOk Tryz.func91 rfl ?_
  simp only [go_sem]
  refine CallGiT_sub (s_dec_length b at' hb hB) rfl (okO_dO _ _) (fun _ => rfl) (by simp [go_sem]) (by simp [go_sem, AV.ids]) rfl (fun e he => tRes_err (by unfold rSl; rw [he])) (fun x he => ?_)
  obtain ⟨n0, t0⟩ := x
  obtain ⟨hn0, hn1, -⟩ := rLen_ok he
  obtain ⟨n, rfl⟩ := Int.eq_ofNat_of_zero_le hn0
  have hsp : rSl p b at' = rN p t0 n := by unfold rSl; rw [he]; rfl
  simp only [go_sem]
  refine WpiT_loop hm (ι := {i : Nat × List ContactPoint × Int // i.1 ≤ n ∧ rN p t0 i.1 = .ok i.2}) (fun i => [(1, .share, .fn (.func f) [.ptr 1 0 0 1] []), (6, if i.1.1 = 0 then .adopt else .share, .sl 2 0 i.1.1 i.1.1), (9, .share, .sc (.int .i64 n)), (10, .share, .sc (.int .i64 i.1.1))])
    (fun i => [(1, .box [encD 1 encU8 0 b, .sc (.int .i64 i.1.2.2)]), (2, .arr 6 (encQ ContactPoint.enc default i.1.2.1))]) (fun i => n - i.1.1) ⟨(0, [], t0), by omega, rfl⟩ ?_ ?_
  · refine weakE_ [] [2] ?_
    simp only [List.length_nil, go_sem]
    try simp
  · rintro ⟨⟨i, l, t⟩, hi, hr⟩
    have hl : l.length = i := rN_len hr
    have hi : i ≤ n := hi
    have hr : rN p t0 i = .ok (l, t) := hr
    simp only [go_sem]
    by_cases hlt : i < n
    · rw [if_pos (by omega)]
      refine CallGiT_sub (O := dO b t) (hp t) rfl (okO_dO _ _) (fun _ => rfl) (by simp [go_sem]) (by simp [go_sem, AV.ids]) rfl (fun e he' => tRes_err ?_) (fun x he' => ?_)
      · rw [hsp]
        refine rN_err (i := i + 1) ?_ (by omega)
        simp only [rN]; rw [hr]; simp only [he']
      · have hr2 : rN p t0 (i + 1) = .ok (l ++ [x.1], x.2) := by simp only [rN]; rw [hr]; simp only [he']
        simp only [go_sem]
        refine ⟨⟨hl.symm, hl.symm, by omega, by simp only [maxLen]; omega⟩, ?_⟩
        refine loop_next ⟨(i + 1, l ++ [x.1], x.2), by omega, hr2⟩ (by show n - (i + 1) < n - i; omega) (weakE_ [] [] ?_)
        simp only [go_sem]
        refine ⟨by omega, (by rw [IntKind.wrap_i64]; omega), q_app1 x.1 rfl rfl⟩
    · rw [if_neg (by omega)]
      obtain rfl : i = n := by omega
      refine retT_ok (l, t) (hsp.trans hr) ?_
      simp only [retR, go_sem]
      refine retW_of [.thaw] [] [] rfl rfl (by simp [go_sem]) (by simp [assoc, go_sem]) (by simp [go_sem]) ?_
      simp only [go_sem]
      exact ⟨hl.symm, by rw [hl]; exact avle_refl _⟩
theorem s_dec_slice_Fixture (b : List Int) (at' : Int) (hb : b.length ≤ 549755813888) (hB : bytes b) (p : Int → Except Int (Fixture × Int)) (f : Nat)
    (hp : ∀ t, CallsT Tryz.prog evD f [.ptr 1 0 0 1] (dO b t) (tRes (fun x : Fixture × Int => [.agg (Fixture.enc x.1)]) (fun x => dO b x.2) (p t))) :
    CallsT Tryz.prog evD F_snapshot_slice_Fixture [.ptr 1 0 0 1, .fn (.func f) [.ptr 1 0 0 1] []] (dO b at') (tRes (fun x : List Fixture × Int => [encD 10 Fixture.enc default x.1]) (fun x => dO b x.2) (rSl p b at')) := by
  refine enD 19 [(4, none)] hm shOk Tryz.func117 rfl ?_
  simp only [go_sem]
  refine CallGiT_sub (s_dec_length b at' hb hB) rfl (okO_dO _ _) (fun _ => rfl) (by simp [go_sem]) (by simp [go_sem, AV.ids]) rfl (fun e he => tRes_err (by unfold rSl; rw [he])) (fun x he => ?_)
  obtain ⟨n0, t0⟩ := x
  obtain ⟨hn0, hn1, -⟩ := rLen_ok he
  obtain ⟨n, rfl⟩ := Int.eq_ofNat_of_zero_le hn0
  have hsp : rSl p b at' = rN p t0 n := by unfold rSl; rw [he]; rfl
  simp only [go_sem]
  refine WpiT_loop hm (ι := {i : Nat × List Fixture × Int // i.1 ≤ n ∧ rN p t0 i.1 = .ok i.2}) (fun i => [(1, .share, .fn (.func f) [.ptr 1 0 0 1] []), (6, if i.1.1 = 0 then .adopt else .share, .sl 2 0 i.1.1 i.1.1), (9, .share, .sc (.int .i64 n)), (10, .share, .sc (.int .i64 i.1.1))])
    (fun i => [(1, .box [encD 1 encU8 0 b, .sc (.int .i64 i.1.2.2)]), (2, .arr 10 (encQ Fixture.enc default i.1.2.1))]) (fun i => n - i.1.1) ⟨(0, [], t0), by omega, rfl⟩ ?_ ?_
  · refine weakE_ [] [2] ?_
    simp only [List.length_nil, go_sem]
    try simp
  · rintro ⟨⟨i, l, t⟩, hi, hr⟩
    have hl : l.length = i := rN_len hr
    have hi : i ≤ n := hi
    have hr : rN p t0 i = .ok (l, t) := hr
    simp only [go_sem]
    by_cases hlt : i < n
    · rw [if_pos (by omega)]
      refine CallGiT_sub (O := dO b t) (hp t) rfl (okO_dO _ _) (fun _ => rfl) (by simp [go_sem]) (by simp [go_sem, AV.ids]) rfl (fun e he' => tRes_err ?_) (fun x he' => ?_)
      · rw [hsp]
        refine rN_err (i := i + 1) ?_ (by omega)
        simp only [rN]; rw [hr]; simp only [he']
      · have hr2 : rN p t0 (i + 1) = .ok (l ++ [x.1], x.2) := by simp only [rN]; rw [hr]; simp only [he']
        simp only [go_sem]
        refine ⟨⟨hl.symm, hl.symm, by omega, by simp only [maxLen]; omega⟩, ?_⟩
        refine loop_next ⟨(i + 1, l ++ [x.1], x.2), by omega, hr2⟩ (by show n - (i + 1) < n - i; omega) (weakE_ [] [] ?_)
        simp only [go_sem]
        refine ⟨by omega, (by rw [IntKind.wrap_i64]; omega), q_app1 x.1 rfl rfl⟩
    · rw [if_neg (by omega)]
      obtain rfl : i = n := by omega
      refine retT_ok (l, t) (hsp.trans hr) ?_
      simp only [retR, go_sem]
      refine retW_of [.thaw] [] [] rfl rfl (by simp [go_sem]) (by simp [assoc, go_sem]) (by simp [go_sem]) ?_
      simp only [go_sem]
      exact ⟨hl.symm, by rw [hl]; exact avle_refl _⟩
theorem s_dec_slice_Body (b : List Int) (at' : Int) (hb : b.length ≤ 549755813888) (hB : bytes b) (p : Int → Except Int (Body × Int)) (f : Nat)
    (hp : ∀ t, CallsT Tryz.prog evD f [.ptr 1 0 0 1] (dO b t) (tRes (fun x : Body × Int => [.agg (Body.enc x.1)]) (fun x => dO b x.2) (p t))) :
    CallsT Tryz.prog evD F_snapshot_slice_Body [.ptr 1 0 0 1, .fn (.func f) [.ptr 1 0 0 1] []] (dO b at') (tRes (fun x : List Body × Int => [encD 20 Body.enc default x.1]) (fun x => dO b x.2) (rSl p b at')) := by
  refine enD 19 [(4, none)] hm shOk Tryz.func63 rfl ?_
  simp only [go_sem]
  refine CallGiT_sub (s_dec_length b at' hb hB) rfl (okO_dO _ _) (fun _ => rfl) (by simp [go_sem]) (by simp [go_sem, AV.ids]) rfl (fun e he => tRes_err (by unfold rSl; rw [he])) (fun x he => ?_)
  obtain ⟨n0, t0⟩ := x
  obtain ⟨hn0, hn1, -⟩ := rLen_ok he
  obtain ⟨n, rfl⟩ := Int.eq_ofNat_of_zero_le hn0
  have hsp : rSl p b at' = rN p t0 n := by unfold rSl; rw [he]; rfl
  simp only [go_sem]
  refine WpiT_loop hm (ι := {i : Nat × List Body × Int // i.1 ≤ n ∧ rN p t0 i.1 = .ok i.2}) (fun i => [(1, .share, .fn (.func f) [.ptr 1 0 0 1] []), (6, if i.1.1 = 0 then .adopt else .share, .sl 2 0 i.1.1 i.1.1), (9, .share, .sc (.int .i64 n)), (10, .share, .sc (.int .i64 i.1.1))])
    (fun i => [(1, .box [encD 1 encU8 0 b, .sc (.int .i64 i.1.2.2)]), (2, .arr 20 (encQ Body.enc default i.1.2.1))]) (fun i => n - i.1.1) ⟨(0, [], t0), by omega, rfl⟩ ?_ ?_
  · refine weakE_ [] [2] ?_
    simp only [List.length_nil, go_sem]
    try simp
  · rintro ⟨⟨i, l, t⟩, hi, hr⟩
    have hl : l.length = i := rN_len hr
    have hi : i ≤ n := hi
    have hr : rN p t0 i = .ok (l, t) := hr
    simp only [go_sem]
    by_cases hlt : i < n
    · rw [if_pos (by omega)]
      refine CallGiT_sub (O := dO b t) (hp t) rfl (okO_dO _ _) (fun _ => rfl) (by simp [go_sem]) (by simp [go_sem, AV.ids]) rfl (fun e he' => tRes_err ?_) (fun x he' => ?_)
      · rw [hsp]
        refine rN_err (i := i + 1) ?_ (by omega)
        simp only [rN]; rw [hr]; simp only [he']
      · have hr2 : rN p t0 (i + 1) = .ok (l ++ [x.1], x.2) := by simp only [rN]; rw [hr]; simp only [he']
        simp only [go_sem]
        refine ⟨⟨hl.symm, hl.symm, by omega, by simp only [maxLen]; omega⟩, ?_⟩
        refine loop_next ⟨(i + 1, l ++ [x.1], x.2), by omega, hr2⟩ (by show n - (i + 1) < n - i; omega) (weakE_ [] [] ?_)
        simp only [go_sem]
        refine ⟨by omega, (by rw [IntKind.wrap_i64]; omega), q_app1 x.1 rfl rfl⟩
    · rw [if_neg (by omega)]
      obtain rfl : i = n := by omega
      refine retT_ok (l, t) (hsp.trans hr) ?_
      simp only [retR, go_sem]
      refine retW_of [.thaw] [] [] rfl rfl (by simp [go_sem]) (by simp [assoc, go_sem]) (by simp [go_sem]) ?_
      simp only [go_sem]
      exact ⟨hl.symm, by rw [hl]; exact avle_refl _⟩
theorem s_dec_slice_Joint (b : List Int) (at' : Int) (hb : b.length ≤ 549755813888) (hB : bytes b) (p : Int → Except Int (Joint × Int)) (f : Nat)
    (hp : ∀ t, CallsT Tryz.prog evD f [.ptr 1 0 0 1] (dO b t) (tRes (fun x : Joint × Int => [.agg (Joint.enc x.1)]) (fun x => dO b x.2) (p t))) :
    CallsT Tryz.prog evD F_snapshot_slice_Joint [.ptr 1 0 0 1, .fn (.func f) [.ptr 1 0 0 1] []] (dO b at') (tRes (fun x : List Joint × Int => [encD 24 Joint.enc default x.1]) (fun x => dO b x.2) (rSl p b at')) := by
  refine enD 19 [(4, none)] hm shOk Tryz.func65 rfl ?_
  simp only [go_sem]
  refine CallGiT_sub (s_dec_length b at' hb hB) rfl (okO_dO _ _) (fun _ => rfl) (by simp [go_sem]) (by simp [go_sem, AV.ids]) rfl (fun e he => tRes_err (by unfold rSl; rw [he])) (fun x he => ?_)
  obtain ⟨n0, t0⟩ := x
  obtain ⟨hn0, hn1, -⟩ := rLen_ok he
  obtain ⟨n, rfl⟩ := Int.eq_ofNat_of_zero_le hn0
  have hsp : rSl p b at' = rN p t0 n := by unfold rSl; rw [he]; rfl
  simp only [go_sem]
  refine WpiT_loop hm (ι := {i : Nat × List Joint × Int // i.1 ≤ n ∧ rN p t0 i.1 = .ok i.2}) (fun i => [(1, .share, .fn (.func f) [.ptr 1 0 0 1] []), (6, if i.1.1 = 0 then .adopt else .share, .sl 2 0 i.1.1 i.1.1), (9, .share, .sc (.int .i64 n)), (10, .share, .sc (.int .i64 i.1.1))])
    (fun i => [(1, .box [encD 1 encU8 0 b, .sc (.int .i64 i.1.2.2)]), (2, .arr 24 (encQ Joint.enc default i.1.2.1))]) (fun i => n - i.1.1) ⟨(0, [], t0), by omega, rfl⟩ ?_ ?_
  · refine weakE_ [] [2] ?_
    simp only [List.length_nil, go_sem]
    try simp
  · rintro ⟨⟨i, l, t⟩, hi, hr⟩
    have hl : l.length = i := rN_len hr
    have hi : i ≤ n := hi
    have hr : rN p t0 i = .ok (l, t) := hr
    simp only [go_sem]
    by_cases hlt : i < n
    · rw [if_pos (by omega)]
      refine CallGiT_sub (O := dO b t) (hp t) rfl (okO_dO _ _) (fun _ => rfl) (by simp [go_sem]) (by simp [go_sem, AV.ids]) rfl (fun e he' => tRes_err ?_) (fun x he' => ?_)
      · rw [hsp]
        refine rN_err (i := i + 1) ?_ (by omega)
        simp only [rN]; rw [hr]; simp only [he']
      · have hr2 : rN p t0 (i + 1) = .ok (l ++ [x.1], x.2) := by simp only [rN]; rw [hr]; simp only [he']
        simp only [go_sem]
        refine ⟨⟨hl.symm, hl.symm, by omega, by simp only [maxLen]; omega⟩, ?_⟩
        refine loop_next ⟨(i + 1, l ++ [x.1], x.2), by omega, hr2⟩ (by show n - (i + 1) < n - i; omega) (weakE_ [] [] ?_)
        simp only [go_sem]
        refine ⟨by omega, (by rw [IntKind.wrap_i64]; omega), q_app1 x.1 rfl rfl⟩
    · rw [if_neg (by omega)]
      obtain rfl : i = n := by omega
      refine retT_ok (l, t) (hsp.trans hr) ?_
      simp only [retR, go_sem]
      refine retW_of [.thaw] [] [] rfl rfl (by simp [go_sem]) (by simp [assoc, go_sem]) (by simp [go_sem]) ?_
      simp only [go_sem]
      exact ⟨hl.symm, by rw [hl]; exact avle_refl _⟩
theorem s_dec_slice_Contact (b : List Int) (at' : Int) (hb : b.length ≤ 549755813888) (hB : bytes b) (p : Int → Except Int (Contact × Int)) (f : Nat)
    (hp : ∀ t, CallsT Tryz.prog evD f [.ptr 1 0 0 1] (dO b t) (tRes (fun x : Contact × Int => [.agg (Contact.enc x.1)]) (fun x => dO b x.2) (p t))) :
    CallsT Tryz.prog evD F_snapshot_slice_Contact [.ptr 1 0 0 1, .fn (.func f) [.ptr 1 0 0 1] []] (dO b at') (tRes (fun x : List Contact × Int => [encD 7 Contact.enc default x.1]) (fun x => dO b x.2) (rSl p b at')) := by
  refine enD 19 [(4, none)] hm shOk Tryz.func67 rfl ?_
  simp only [go_sem]
  refine CallGiT_sub (s_dec_length b at' hb hB) rfl (okO_dO _ _) (fun _ => rfl) (by simp [go_sem]) (by simp [go_sem, AV.ids]) rfl (fun e he => tRes_err (by unfold rSl; rw [he])) (fun x he => ?_)
  obtain ⟨n0, t0⟩ := x
  obtain ⟨hn0, hn1, -⟩ := rLen_ok he
  obtain ⟨n, rfl⟩ := Int.eq_ofNat_of_zero_le hn0
  have hsp : rSl p b at' = rN p t0 n := by unfold rSl; rw [he]; rfl
  simp only [go_sem]
  refine WpiT_loop hm (ι := {i : Nat × List Contact × Int // i.1 ≤ n ∧ rN p t0 i.1 = .ok i.2}) (fun i => [(1, .share, .fn (.func f) [.ptr 1 0 0 1] []), (6, if i.1.1 = 0 then .adopt else .share, .sl 2 0 i.1.1 i.1.1), (9, .share, .sc (.int .i64 n)), (10, .share, .sc (.int .i64 i.1.1))])
    (fun i => [(1, .box [encD 1 encU8 0 b, .sc (.int .i64 i.1.2.2)]), (2, .arr 7 (encQ Contact.enc default i.1.2.1))]) (fun i => n - i.1.1) ⟨(0, [], t0), by omega, rfl⟩ ?_ ?_
  · refine weakE_ [] [2] ?_
    simp only [List.length_nil, go_sem]
    try simp
  · rintro ⟨⟨i, l, t⟩, hi, hr⟩
    have hl : l.length = i := rN_len hr
    have hi : i ≤ n := hi
    have hr : rN p t0 i = .ok (l, t) := hr
    simp only [go_sem]
    by_cases hlt : i < n
    · rw [if_pos (by omega)]
      refine CallGiT_sub (O := dO b t) (hp t) rfl (okO_dO _ _) (fun _ => rfl) (by simp [go_sem]) (by simp [go_sem, AV.ids]) rfl (fun e he' => tRes_err ?_) (fun x he' => ?_)
      · rw [hsp]
        refine rN_err (i := i + 1) ?_ (by omega)
        simp only [rN]; rw [hr]; simp only [he']
      · have hr2 : rN p t0 (i + 1) = .ok (l ++ [x.1], x.2) := by simp only [rN]; rw [hr]; simp only [he']
        simp only [go_sem]
        refine ⟨⟨hl.symm, hl.symm, by omega, by simp only [maxLen]; omega⟩, ?_⟩
        refine loop_next ⟨(i + 1, l ++ [x.1], x.2), by omega, hr2⟩ (by show n - (i + 1) < n - i; omega) (weakE_ [] [] ?_)
        simp only [go_sem]
        refine ⟨by omega, (by rw [IntKind.wrap_i64]; omega), q_app1 x.1 rfl rfl⟩
    · rw [if_neg (by omega)]
      obtain rfl : i = n := by omega
      refine retT_ok (l, t) (hsp.trans hr) ?_
      simp only [retR, go_sem]
      refine retW_of [.thaw] [] [] rfl rfl (by simp [go_sem]) (by simp [assoc, go_sem]) (by simp [go_sem]) ?_
      simp only [go_sem]
      exact ⟨hl.symm, by rw [hl]; exact avle_refl _⟩
theorem s_dec_slice_PairKey (b : List Int) (at' : Int) (hb : b.length ≤ 549755813888) (hB : bytes b) (p : Int → Except Int (PairKey × Int)) (f : Nat)
    (hp : ∀ t, CallsT Tryz.prog evD f [.ptr 1 0 0 1] (dO b t) (tRes (fun x : PairKey × Int => [.agg (PairKey.enc x.1)]) (fun x => dO b x.2) (p t))) :
    CallsT Tryz.prog evD F_snapshot_slice_PairKey [.ptr 1 0 0 1, .fn (.func f) [.ptr 1 0 0 1] []] (dO b at') (tRes (fun x : List PairKey × Int => [encD 4 PairKey.enc default x.1]) (fun x => dO b x.2) (rSl p b at')) := by
  refine enD 19 [(4, none)] hm shOk Tryz.func68 rfl ?_
  simp only [go_sem]
  refine CallGiT_sub (s_dec_length b at' hb hB) rfl (okO_dO _ _) (fun _ => rfl) (by simp [go_sem]) (by simp [go_sem, AV.ids]) rfl (fun e he => tRes_err (by unfold rSl; rw [he])) (fun x he => ?_)
  obtain ⟨n0, t0⟩ := x
  obtain ⟨hn0, hn1, -⟩ := rLen_ok he
  obtain ⟨n, rfl⟩ := Int.eq_ofNat_of_zero_le hn0
  have hsp : rSl p b at' = rN p t0 n := by unfold rSl; rw [he]; rfl
  simp only [go_sem]
  refine WpiT_loop hm (ι := {i : Nat × List PairKey × Int // i.1 ≤ n ∧ rN p t0 i.1 = .ok i.2}) (fun i => [(1, .share, .fn (.func f) [.ptr 1 0 0 1] []), (6, if i.1.1 = 0 then .adopt else .share, .sl 2 0 i.1.1 i.1.1), (9, .share, .sc (.int .i64 n)), (10, .share, .sc (.int .i64 i.1.1))])
    (fun i => [(1, .box [encD 1 encU8 0 b, .sc (.int .i64 i.1.2.2)]), (2, .arr 4 (encQ PairKey.enc default i.1.2.1))]) (fun i => n - i.1.1) ⟨(0, [], t0), by omega, rfl⟩ ?_ ?_
  · refine weakE_ [] [2] ?_
    simp only [List.length_nil, go_sem]
    try simp
  · rintro ⟨⟨i, l, t⟩, hi, hr⟩
    have hl : l.length = i := rN_len hr
    have hi : i ≤ n := hi
    have hr : rN p t0 i = .ok (l, t) := hr
    simp only [go_sem]
    by_cases hlt : i < n
    · rw [if_pos (by omega)]
      refine CallGiT_sub (O := dO b t) (hp t) rfl (okO_dO _ _) (fun _ => rfl) (by simp [go_sem]) (by simp [go_sem, AV.ids]) rfl (fun e he' => tRes_err ?_) (fun x he' => ?_)
      · rw [hsp]
        refine rN_err (i := i + 1) ?_ (by omega)
        simp only [rN]; rw [hr]; simp only [he']
      · have hr2 : rN p t0 (i + 1) = .ok (l ++ [x.1], x.2) := by simp only [rN]; rw [hr]; simp only [he']
        simp only [go_sem]
        refine ⟨⟨hl.symm, hl.symm, by omega, by simp only [maxLen]; omega⟩, ?_⟩
        refine loop_next ⟨(i + 1, l ++ [x.1], x.2), by omega, hr2⟩ (by show n - (i + 1) < n - i; omega) (weakE_ [] [] ?_)
        simp only [go_sem]
        refine ⟨by omega, (by rw [IntKind.wrap_i64]; omega), q_app1 x.1 rfl rfl⟩
    · rw [if_neg (by omega)]
      obtain rfl : i = n := by omega
      refine retT_ok (l, t) (hsp.trans hr) ?_
      simp only [retR, go_sem]
      refine retW_of [.thaw] [] [] rfl rfl (by simp [go_sem]) (by simp [assoc, go_sem]) (by simp [go_sem]) ?_
      simp only [go_sem]
      exact ⟨hl.symm, by rw [hl]; exact avle_refl _⟩
end Go.Abs
end
section
namespace Go.Abs
open Go.Proofs
open Api
def RB {α β : Type} (r : Except Int (α × Int)) (f : α → Int → Except Int β) : Except Int β := match r with | .error e => .error e | .ok x => f x.1 x.2
def rKey (b : List Int) (t0 : Int) : Except Int (PairKey × Int) :=
  RB (rInt b t0) fun x0 t1 =>
  RB (rInt b t1) fun x1 t2 =>
  RB (rInt b t2) fun x2 t3 =>
  RB (rInt b t3) fun x3 t4 =>
  .ok (⟨x0, x1, x2, x3⟩, t4)
theorem s_dec_key (b : List Int) (t0 : Int) (hb : b.length ≤ 549755813888) (hB : bytes b) : CallsT Tryz.prog evD F_snapshot_decoder_key [.ptr 1 0 0 1] (dO b t0) (tRes (fun x : PairKey × Int => [.agg x.1.enc]) (fun x => dO b x.2) (rKey b t0)) := by
  refine enD 12 [(2, some (some 4))] hm shOk Tryz.func69 rfl ?_
  simp only [go_sem]
  refine CallGiT_sub (s_dec_int b t0 hb hB) rfl (okO_dO _ _) (fun _ => rfl) (by simp [go_sem]) (by simp [go_sem, AV.ids]) rfl (fun e he => tRes_err (by simp only [rKey, RB, he])) (fun y h0 => ?_)
  obtain ⟨x0, t1⟩ := y
  simp only [go_sem]
  refine CallGiT_sub (s_dec_int b t1 hb hB) rfl (okO_dO _ _) (fun _ => rfl) (by simp [go_sem]) (by simp [go_sem, AV.ids]) rfl (fun e he => tRes_err (by simp only [rKey, RB, h0, he])) (fun y h1 => ?_)
  obtain ⟨x1, t2⟩ := y
  simp only [go_sem]
  refine CallGiT_sub (s_dec_int b t2 hb hB) rfl (okO_dO _ _) (fun _ => rfl) (by simp [go_sem]) (by simp [go_sem, AV.ids]) rfl (fun e he => tRes_err (by simp only [rKey, RB, h0, h1, he])) (fun y h2 => ?_)
  obtain ⟨x2, t3⟩ := y
  simp only [go_sem]
  refine CallGiT_sub (s_dec_int b t3 hb hB) rfl (okO_dO _ _) (fun _ => rfl) (by simp [go_sem]) (by simp [go_sem, AV.ids]) rfl (fun e he => tRes_err (by simp only [rKey, RB, h0, h1, h2, he])) (fun y h3 => ?_)
  obtain ⟨x3, t4⟩ := y
  simp only [go_sem]
  refine retT_ok (⟨x0, x1, x2, x3⟩, t4) (by simp only [rKey, RB, h0, h1, h2, h3]) ?_
  simp only [retR, go_sem]
  refine retW_of [.share] [] [] rfl rfl (by simp [go_sem]) (by simp [assoc, go_sem]) (by simp [go_sem]) ?_
  simp only [go_sem]
def rContactPoint (b : List Int) (t0 : Int) : Except Int (ContactPoint × Int) :=
  RB (rVec b t0) fun x0 t1 =>
  RB (rInt b t1) fun x1 t2 =>
  RB (rInt b t2) fun x2 t3 =>
  RB (rInt b t3) fun x3 t4 =>
  RB (rInt b t4) fun x4 t5 =>
  .ok (⟨x0, x1, x2, x3, x4⟩, t5)
theorem s_dec_contactPoint (b : List Int) (t0 : Int) (hb : b.length ≤ 549755813888) (hB : bytes b) : CallsT Tryz.prog evD F_snapshot_decoder_contactPoint [.ptr 1 0 0 1] (dO b t0) (tRes (fun x : ContactPoint × Int => [.agg x.1.enc]) (fun x => dO b x.2) (rContactPoint b t0)) := by
  refine enD 14 [(2, some (some 6))] hm shOk Tryz.func92 rfl ?_
  simp only [go_sem]
  refine CallGiT_sub (s_dec_vec b t0 hb hB) rfl (okO_dO _ _) (fun _ => rfl) (by simp [go_sem]) (by simp [go_sem, AV.ids]) rfl (fun e he => tRes_err (by simp only [rContactPoint, RB, he])) (fun y h0 => ?_)
  obtain ⟨x0, t1⟩ := y
  simp only [go_sem]
  refine CallGiT_sub (s_dec_int b t1 hb hB) rfl (okO_dO _ _) (fun _ => rfl) (by simp [go_sem]) (by simp [go_sem, AV.ids]) rfl (fun e he => tRes_err (by simp only [rContactPoint, RB, h0, he])) (fun y h1 => ?_)
  obtain ⟨x1, t2⟩ := y
  simp only [go_sem]
  refine CallGiT_sub (s_dec_int b t2 hb hB) rfl (okO_dO _ _) (fun _ => rfl) (by simp [go_sem]) (by simp [go_sem, AV.ids]) rfl (fun e he => tRes_err (by simp only [rContactPoint, RB, h0, h1, he])) (fun y h2 => ?_)
  obtain ⟨x2, t3⟩ := y
  simp only [go_sem]
  refine CallGiT_sub (s_dec_int b t3 hb hB) rfl (okO_dO _ _) (fun _ => rfl) (by simp [go_sem]) (by simp [go_sem, AV.ids]) rfl (fun e he => tRes_err (by simp only [rContactPoint, RB, h0, h1, h2, he])) (fun y h3 => ?_)
  obtain ⟨x3, t4⟩ := y
  simp only [go_sem]
  refine CallGiT_sub (s_dec_int b t4 hb hB) rfl (okO_dO _ _) (fun _ => rfl) (by simp [go_sem]) (by simp [go_sem, AV.ids]) rfl (fun e he => tRes_err (by simp only [rContactPoint, RB, h0, h1, h2, h3, he])) (fun y h4 => ?_)
  obtain ⟨x4, t5⟩ := y
  simp only [go_sem]
  refine retT_ok (⟨x0, x1, x2, x3, x4⟩, t5) (by simp only [rContactPoint, RB, h0, h1, h2, h3, h4]) ?_
  simp only [retR, go_sem]
  refine retW_of [.share] [] [] rfl rfl (by simp [go_sem]) (by simp [assoc, go_sem]) (by simp [go_sem]) ?_
  simp only [go_sem]
def rContact (b : List Int) (t0 : Int) : Except Int (Contact × Int) :=
  RB (rKey b t0) fun x0 t1 =>
  RB (rVec b t1) fun x1 t2 =>
  RB (rSl (rContactPoint b) b t2) fun x2 t3 =>
  .ok ({ Key := x0, Manifold := { Normal := x1, Points := x2 } }, t3)
theorem s_dec_contact (b : List Int) (t0 : Int) (hb : b.length ≤ 549755813888) (hB : bytes b) : CallsT Tryz.prog evD F_snapshot_decoder_contact [.ptr 1 0 0 1] (dO b t0) (tRes (fun x : Contact × Int => [.agg x.1.enc]) (fun x => dO b x.2) (rContact b t0)) := by
  refine enD 18 [(2, some (some 7))] hm shOk Tryz.func43 rfl ?_
  simp only [go_sem]
  refine CallGiT_sub (s_dec_key b t0 hb hB) rfl (okO_dO _ _) (fun _ => rfl) (by simp [go_sem]) (by simp [go_sem, AV.ids]) rfl (fun e he => tRes_err (by simp only [rContact, RB, he])) (fun y h0 => ?_)
  obtain ⟨x0, t1⟩ := y
  simp only [go_sem]
  refine CallGiT_sub (s_dec_vec b t1 hb hB) rfl (okO_dO _ _) (fun _ => rfl) (by simp [go_sem]) (by simp [go_sem, AV.ids]) rfl (fun e he => tRes_err (by simp only [rContact, RB, h0, he])) (fun y h1 => ?_)
  obtain ⟨x1, t2⟩ := y
  simp only [go_sem]
  refine CallGiT_sub (s_dec_slice_ContactPoint b t2 hb hB (rContactPoint b) F_snapshot_decoder_contactPoint (fun t => s_dec_contactPoint b t hb hB)) rfl (okO_dO _ _) (fun _ => rfl) (by simp [go_sem]) (by simp [go_sem, AV.ids]) rfl (fun e he => tRes_err (by simp only [rContact, RB, h0, h1, he])) (fun y h2 => ?_)
  obtain ⟨x2, t3⟩ := y
  simp only [go_sem]
  refine retT_ok ({ Key := x0, Manifold := { Normal := x1, Points := x2 } }, t3) (by simp only [rContact, RB, h0, h1, h2]) ?_
  simp only [retR, go_sem]
  refine retW_of [.share] [] [] rfl rfl (by simp [go_sem]) (by simp [assoc, go_sem]) (by simp [go_sem]) ?_
  simp only [go_sem]
def rFixture (b : List Int) (t0 : Int) : Except Int (Fixture × Int) :=
  RB (rInt b t0) fun x0 t1 =>
  RB (rInt b t1) fun x1 t2 =>
  RB (rSl (rVec b) b t2) fun x2 t3 =>
  RB (rInt b t3) fun x3 t4 =>
  RB (rInt b t4) fun x4 t5 =>
  RB (rInt b t5) fun x5 t6 =>
  RB (rBool b t6) fun x6 t7 =>
  RB (rInt b t7) fun x7 t8 =>
  RB (rInt b t8) fun x8 t9 =>
  RB (rInt b t9) fun x9 t10 =>
  .ok ({ Shape := { Kind := x0, Radius := x1, Vertices := x2 }, Density := x3, Friction := x4, Restitution := x5, Sensor := x6, Category := x7, Mask := x8, Group := x9 }, t10)
theorem s_dec_fixture (b : List Int) (t0 : Int) (hb : b.length ≤ 549755813888) (hB : bytes b) : CallsT Tryz.prog evD F_snapshot_decoder_fixture [.ptr 1 0 0 1] (dO b t0) (tRes (fun x : Fixture × Int => [.agg x.1.enc]) (fun x => dO b x.2) (rFixture b t0)) := by
  refine enD 40 [(2, some (some 10))] hm shOk Tryz.func118 rfl ?_
  simp only [go_sem]
  refine CallGiT_sub (s_dec_int b t0 hb hB) rfl (okO_dO _ _) (fun _ => rfl) (by simp [go_sem]) (by simp [go_sem, AV.ids]) rfl (fun e he => tRes_err (by simp only [rFixture, RB, he])) (fun y h0 => ?_)
  obtain ⟨x0, t1⟩ := y
  simp only [go_sem]
  refine CallGiT_sub (s_dec_int b t1 hb hB) rfl (okO_dO _ _) (fun _ => rfl) (by simp [go_sem]) (by simp [go_sem, AV.ids]) rfl (fun e he => tRes_err (by simp only [rFixture, RB, h0, he])) (fun y h1 => ?_)
  obtain ⟨x1, t2⟩ := y
  simp only [go_sem]
  refine CallGiT_sub (s_dec_slice_Vec b t2 hb hB (rVec b) F_snapshot_decoder_vec (fun t => s_dec_vec b t hb hB)) rfl (okO_dO _ _) (fun _ => rfl) (by simp [go_sem]) (by simp [go_sem, AV.ids]) rfl (fun e he => tRes_err (by simp only [rFixture, RB, h0, h1, he])) (fun y h2 => ?_)
  obtain ⟨x2, t3⟩ := y
  simp only [go_sem]
  refine CallGiT_sub (s_dec_int b t3 hb hB) rfl (okO_dO _ _) (fun _ => rfl) (by simp [go_sem]) (by simp [go_sem, AV.ids]) rfl (fun e he => tRes_err (by simp only [rFixture, RB, h0, h1, h2, he])) (fun y h3 => ?_)
  obtain ⟨x3, t4⟩ := y
  simp only [go_sem]
  refine CallGiT_sub (s_dec_int b t4 hb hB) rfl (okO_dO _ _) (fun _ => rfl) (by simp [go_sem]) (by simp [go_sem, AV.ids]) rfl (fun e he => tRes_err (by simp only [rFixture, RB, h0, h1, h2, h3, he])) (fun y h4 => ?_)
  obtain ⟨x4, t5⟩ := y
  simp only [go_sem]
  refine CallGiT_sub (s_dec_int b t5 hb hB) rfl (okO_dO _ _) (fun _ => rfl) (by simp [go_sem]) (by simp [go_sem, AV.ids]) rfl (fun e he => tRes_err (by simp only [rFixture, RB, h0, h1, h2, h3, h4, he])) (fun y h5 => ?_)
  obtain ⟨x5, t6⟩ := y
  simp only [go_sem]
  refine CallGiT_sub (s_dec_bool b t6 hb) rfl (okO_dO _ _) (fun _ => rfl) (by simp [go_sem]) (by simp [go_sem, AV.ids]) rfl (fun e he => tRes_err (by simp only [rFixture, RB, h0, h1, h2, h3, h4, h5, he])) (fun y h6 => ?_)
  obtain ⟨x6, t7⟩ := y
  simp only [go_sem]
  refine CallGiT_sub (s_dec_int b t7 hb hB) rfl (okO_dO _ _) (fun _ => rfl) (by simp [go_sem]) (by simp [go_sem, AV.ids]) rfl (fun e he => tRes_err (by simp only [rFixture, RB, h0, h1, h2, h3, h4, h5, h6, he])) (fun y h7 => ?_)
  obtain ⟨x7, t8⟩ := y
  simp only [go_sem]
  refine CallGiT_sub (s_dec_int b t8 hb hB) rfl (okO_dO _ _) (fun _ => rfl) (by simp [go_sem]) (by simp [go_sem, AV.ids]) rfl (fun e he => tRes_err (by simp only [rFixture, RB, h0, h1, h2, h3, h4, h5, h6, h7, he])) (fun y h8 => ?_)
  obtain ⟨x8, t9⟩ := y
  simp only [go_sem]
  refine CallGiT_sub (s_dec_int b t9 hb hB) rfl (okO_dO _ _) (fun _ => rfl) (by simp [go_sem]) (by simp [go_sem, AV.ids]) rfl (fun e he => tRes_err (by simp only [rFixture, RB, h0, h1, h2, h3, h4, h5, h6, h7, h8, he])) (fun y h9 => ?_)
  obtain ⟨x9, t10⟩ := y
  simp only [go_sem]
  refine retT_ok ({ Shape := { Kind := x0, Radius := x1, Vertices := x2 }, Density := x3, Friction := x4, Restitution := x5, Sensor := x6, Category := x7, Mask := x8, Group := x9 }, t10) (by simp only [rFixture, RB, h0, h1, h2, h3, h4, h5, h6, h7, h8, h9]) ?_
  simp only [retR, go_sem]
  refine retW_of [.share] [] [] rfl rfl (by simp [go_sem]) (by simp [assoc, go_sem]) (by simp [go_sem]) ?_
  simp only [go_sem]
def rBody (b : List Int) (t0 : Int) : Except Int (Body × Int) :=
  RB (rInt b t0) fun x0 t1 =>
  RB (rInt b t1) fun x1 t2 =>
  RB (rVec b t2) fun x2 t3 =>
  RB (rInt b t3) fun x3 t4 =>
  RB (rVec b t4) fun x4 t5 =>
  RB (rInt b t5) fun x5 t6 =>
  RB (rVec b t6) fun x6 t7 =>
  RB (rInt b t7) fun x7 t8 =>
  RB (rInt b t8) fun x8 t9 =>
  RB (rInt b t9) fun x9 t10 =>
  RB (rInt b t10) fun x10 t11 =>
  RB (rBool b t11) fun x11 t12 =>
  RB (rBool b t12) fun x12 t13 =>
  RB (rBool b t13) fun x13 t14 =>
  RB (rBool b t14) fun x14 t15 =>
  RB (rInt b t15) fun x15 t16 =>
  RB (rSl (rFixture b) b t16) fun x16 t17 =>
  .ok ({ ID := x0, Kind := x1, Transform := { Position := x2, Angle := x3 }, Velocity := x4, AngularVelocity := x5, Force := x6, Torque := x7, LinearDamping := x8, AngularDamping := x9, GravityScale := x10, Bullet := x11, FixedRotation := x12, NoSleep := x13, Asleep := x14, IdleSteps := x15, Fixtures := x16 }, t17)
theorem s_dec_body (b : List Int) (t0 : Int) (hb : b.length ≤ 549755813888) (hB : bytes b) : CallsT Tryz.prog evD F_snapshot_decoder_body [.ptr 1 0 0 1] (dO b t0) (tRes (fun x : Body × Int => [.agg x.1.enc]) (fun x => dO b x.2) (rBody b t0)) := by
  refine enD 60 [(2, some (some 20))] hm shOk Tryz.func64 rfl ?_
  simp only [go_sem]
  refine CallGiT_sub (s_dec_int b t0 hb hB) rfl (okO_dO _ _) (fun _ => rfl) (by simp [go_sem]) (by simp [go_sem, AV.ids]) rfl (fun e he => tRes_err (by simp only [rBody, RB, he])) (fun y h0 => ?_)
  obtain ⟨x0, t1⟩ := y
  simp only [go_sem]
  refine CallGiT_sub (s_dec_int b t1 hb hB) rfl (okO_dO _ _) (fun _ => rfl) (by simp [go_sem]) (by simp [go_sem, AV.ids]) rfl (fun e he => tRes_err (by simp only [rBody, RB, h0, he])) (fun y h1 => ?_)
  obtain ⟨x1, t2⟩ := y
  simp only [go_sem]
  refine CallGiT_sub (s_dec_vec b t2 hb hB) rfl (okO_dO _ _) (fun _ => rfl) (by simp [go_sem]) (by simp [go_sem, AV.ids]) rfl (fun e he => tRes_err (by simp only [rBody, RB, h0, h1, he])) (fun y h2 => ?_)
  obtain ⟨x2, t3⟩ := y
  simp only [go_sem]
  refine CallGiT_sub (s_dec_int b t3 hb hB) rfl (okO_dO _ _) (fun _ => rfl) (by simp [go_sem]) (by simp [go_sem, AV.ids]) rfl (fun e he => tRes_err (by simp only [rBody, RB, h0, h1, h2, he])) (fun y h3 => ?_)
  obtain ⟨x3, t4⟩ := y
  simp only [go_sem]
  refine CallGiT_sub (s_dec_vec b t4 hb hB) rfl (okO_dO _ _) (fun _ => rfl) (by simp [go_sem]) (by simp [go_sem, AV.ids]) rfl (fun e he => tRes_err (by simp only [rBody, RB, h0, h1, h2, h3, he])) (fun y h4 => ?_)
  obtain ⟨x4, t5⟩ := y
  simp only [go_sem]
  refine CallGiT_sub (s_dec_int b t5 hb hB) rfl (okO_dO _ _) (fun _ => rfl) (by simp [go_sem]) (by simp [go_sem, AV.ids]) rfl (fun e he => tRes_err (by simp only [rBody, RB, h0, h1, h2, h3, h4, he])) (fun y h5 => ?_)
  obtain ⟨x5, t6⟩ := y
  simp only [go_sem]
  refine CallGiT_sub (s_dec_vec b t6 hb hB) rfl (okO_dO _ _) (fun _ => rfl) (by simp [go_sem]) (by simp [go_sem, AV.ids]) rfl (fun e he => tRes_err (by simp only [rBody, RB, h0, h1, h2, h3, h4, h5, he])) (fun y h6 => ?_)
  obtain ⟨x6, t7⟩ := y
  simp only [go_sem]
  refine CallGiT_sub (s_dec_int b t7 hb hB) rfl (okO_dO _ _) (fun _ => rfl) (by simp [go_sem]) (by simp [go_sem, AV.ids]) rfl (fun e he => tRes_err (by simp only [rBody, RB, h0, h1, h2, h3, h4, h5, h6, he])) (fun y h7 => ?_)
  obtain ⟨x7, t8⟩ := y
  simp only [go_sem]
  refine CallGiT_sub (s_dec_int b t8 hb hB) rfl (okO_dO _ _) (fun _ => rfl) (by simp [go_sem]) (by simp [go_sem, AV.ids]) rfl (fun e he => tRes_err (by simp only [rBody, RB, h0, h1, h2, h3, h4, h5, h6, h7, he])) (fun y h8 => ?_)
  obtain ⟨x8, t9⟩ := y
  simp only [go_sem]
  refine CallGiT_sub (s_dec_int b t9 hb hB) rfl (okO_dO _ _) (fun _ => rfl) (by simp [go_sem]) (by simp [go_sem, AV.ids]) rfl (fun e he => tRes_err (by simp only [rBody, RB, h0, h1, h2, h3, h4, h5, h6, h7, h8, he])) (fun y h9 => ?_)
  obtain ⟨x9, t10⟩ := y
  simp only [go_sem]
  refine CallGiT_sub (s_dec_int b t10 hb hB) rfl (okO_dO _ _) (fun _ => rfl) (by simp [go_sem]) (by simp [go_sem, AV.ids]) rfl (fun e he => tRes_err (by simp only [rBody, RB, h0, h1, h2, h3, h4, h5, h6, h7, h8, h9, he])) (fun y h10 => ?_)
  obtain ⟨x10, t11⟩ := y
  simp only [go_sem]
  refine CallGiT_sub (s_dec_bool b t11 hb) rfl (okO_dO _ _) (fun _ => rfl) (by simp [go_sem]) (by simp [go_sem, AV.ids]) rfl (fun e he => tRes_err (by simp only [rBody, RB, h0, h1, h2, h3, h4, h5, h6, h7, h8, h9, h10, he])) (fun y h11 => ?_)
  obtain ⟨x11, t12⟩ := y
  simp only [go_sem]
  refine CallGiT_sub (s_dec_bool b t12 hb) rfl (okO_dO _ _) (fun _ => rfl) (by simp [go_sem]) (by simp [go_sem, AV.ids]) rfl (fun e he => tRes_err (by simp only [rBody, RB, h0, h1, h2, h3, h4, h5, h6, h7, h8, h9, h10, h11, he])) (fun y h12 => ?_)
  obtain ⟨x12, t13⟩ := y
  simp only [go_sem]
  refine CallGiT_sub (s_dec_bool b t13 hb) rfl (okO_dO _ _) (fun _ => rfl) (by simp [go_sem]) (by simp [go_sem, AV.ids]) rfl (fun e he => tRes_err (by simp only [rBody, RB, h0, h1, h2, h3, h4, h5, h6, h7, h8, h9, h10, h11, h12, he])) (fun y h13 => ?_)
  obtain ⟨x13, t14⟩ := y
  simp only [go_sem]
  refine CallGiT_sub (s_dec_bool b t14 hb) rfl (okO_dO _ _) (fun _ => rfl) (by simp [go_sem]) (by simp [go_sem, AV.ids]) rfl (fun e he => tRes_err (by simp only [rBody, RB, h0, h1, h2, h3, h4, h5, h6, h7, h8, h9, h10, h11, h12, h13, he])) (fun y h14 => ?_)
  obtain ⟨x14, t15⟩ := y
  simp only [go_sem]
  refine CallGiT_sub (s_dec_int b t15 hb hB) rfl (okO_dO _ _) (fun _ => rfl) (by simp [go_sem]) (by simp [go_sem, AV.ids]) rfl (fun e he => tRes_err (by simp only [rBody, RB, h0, h1, h2, h3, h4, h5, h6, h7, h8, h9, h10, h11, h12, h13, h14, he])) (fun y h15 => ?_)
  obtain ⟨x15, t16⟩ := y
  simp only [go_sem]
  refine CallGiT_sub (s_dec_slice_Fixture b t16 hb hB (rFixture b) F_snapshot_decoder_fixture (fun t => s_dec_fixture b t hb hB)) rfl (okO_dO _ _) (fun _ => rfl) (by simp [go_sem]) (by simp [go_sem, AV.ids]) rfl (fun e he => tRes_err (by simp only [rBody, RB, h0, h1, h2, h3, h4, h5, h6, h7, h8, h9, h10, h11, h12, h13, h14, h15, he])) (fun y h16 => ?_)
  obtain ⟨x16, t17⟩ := y
  simp only [go_sem]
  refine retT_ok ({ ID := x0, Kind := x1, Transform := { Position := x2, Angle := x3 }, Velocity := x4, AngularVelocity := x5, Force := x6, Torque := x7, LinearDamping := x8, AngularDamping := x9, GravityScale := x10, Bullet := x11, FixedRotation := x12, NoSleep := x13, Asleep := x14, IdleSteps := x15, Fixtures := x16 }, t17) (by simp only [rBody, RB, h0, h1, h2, h3, h4, h5, h6, h7, h8, h9, h10, h11, h12, h13, h14, h15, h16]) ?_
  simp only [retR, go_sem]
  refine retW_of [.share] [] [] rfl rfl (by simp [go_sem]) (by simp [assoc, go_sem]) (by simp [go_sem]) ?_
  simp only [go_sem]
end Go.Abs
end
section
namespace Go.Abs
open Go.Proofs
open Api
def rJoint (b : List Int) (t0 : Int) : Except Int (Joint × Int) :=
  RB (rInt b t0) fun x0 t1 =>
  RB (rInt b t1) fun x1 t2 =>
  RB (rInt b t2) fun x2 t3 =>
  RB (rInt b t3) fun x3 t4 =>
  RB (rVec b t4) fun x4 t5 =>
  RB (rVec b t5) fun x5 t6 =>
  RB (rVec b t6) fun x6 t7 =>
  RB (rInt b t7) fun x7 t8 =>
  RB (rBool b t8) fun x8 t9 =>
  RB (rInt b t9) fun x9 t10 =>
  RB (rInt b t10) fun x10 t11 =>
  RB (rBool b t11) fun x11 t12 =>
  RB (rInt b t12) fun x12 t13 =>
  RB (rInt b t13) fun x13 t14 =>
  RB (rInt b t14) fun x14 t15 =>
  RB (rInt b t15) fun x15 t16 =>
  RB (rBool b t16) fun x16 t17 =>
  RB (rN (rInt b) t17 4) fun l t => .ok ({ ID := x0, Kind := x1, BodyA := x2, BodyB := x3, AnchorA := x4, AnchorB := x5, Axis := x6, ReferenceAngle := x7, EnableLimit := x8, Lower := x9, Upper := x10, EnableMotor := x11, MotorSpeed := x12, MaxForce := x13, Softness := x14, BreakForce := x15, CollideConnected := x16, Impulses := ⟨l.getD 0 0, l.getD 1 0, l.getD 2 0, l.getD 3 0⟩ }, t)
theorem s_dec_joint (b : List Int) (t0 : Int) (hb : b.length ≤ 549755813888) (hB : bytes b) : CallsT Tryz.prog evD F_snapshot_decoder_joint [.ptr 1 0 0 1] (dO b t0) (tRes (fun x : Joint × Int => [.agg x.1.enc]) (fun x => dO b x.2) (rJoint b t0)) := by
  refine enD 66 [(2, some (some 24))] hm shOk Tryz.func66 rfl ?_
  simp only [go_sem]
  refine CallGiT_sub (s_dec_int b t0 hb hB) rfl (okO_dO _ _) (fun _ => rfl) (by simp [go_sem]) (by simp [go_sem, AV.ids]) rfl (fun e he => tRes_err (by simp only [rJoint, RB, he])) (fun y h0 => ?_)
  obtain ⟨x0, t1⟩ := y
  simp only [go_sem]
  refine CallGiT_sub (s_dec_int b t1 hb hB) rfl (okO_dO _ _) (fun _ => rfl) (by simp [go_sem]) (by simp [go_sem, AV.ids]) rfl (fun e he => tRes_err (by simp only [rJoint, RB, h0, he])) (fun y h1 => ?_)
  obtain ⟨x1, t2⟩ := y
  simp only [go_sem]
  refine CallGiT_sub (s_dec_int b t2 hb hB) rfl (okO_dO _ _) (fun _ => rfl) (by simp [go_sem]) (by simp [go_sem, AV.ids]) rfl (fun e he => tRes_err (by simp only [rJoint, RB, h0, h1, he])) (fun y h2 => ?_)
  obtain ⟨x2, t3⟩ := y
  simp only [go_sem]
  refine CallGiT_sub (s_dec_int b t3 hb hB) rfl (okO_dO _ _) (fun _ => rfl) (by simp [go_sem]) (by simp [go_sem, AV.ids]) rfl (fun e he => tRes_err (by simp only [rJoint, RB, h0, h1, h2, he])) (fun y h3 => ?_)
  obtain ⟨x3, t4⟩ := y
  simp only [go_sem]
  refine CallGiT_sub (s_dec_vec b t4 hb hB) rfl (okO_dO _ _) (fun _ => rfl) (by simp [go_sem]) (by simp [go_sem, AV.ids]) rfl (fun e he => tRes_err (by simp only [rJoint, RB, h0, h1, h2, h3, he])) (fun y h4 => ?_)
  obtain ⟨x4, t5⟩ := y
  simp only [go_sem]
  refine CallGiT_sub (s_dec_vec b t5 hb hB) rfl (okO_dO _ _) (fun _ => rfl) (by simp [go_sem]) (by simp [go_sem, AV.ids]) rfl (fun e he => tRes_err (by simp only [rJoint, RB, h0, h1, h2, h3, h4, he])) (fun y h5 => ?_)
  obtain ⟨x5, t6⟩ := y
  simp only [go_sem]
  refine CallGiT_sub (s_dec_vec b t6 hb hB) rfl (okO_dO _ _) (fun _ => rfl) (by simp [go_sem]) (by simp [go_sem, AV.ids]) rfl (fun e he => tRes_err (by simp only [rJoint, RB, h0, h1, h2, h3, h4, h5, he])) (fun y h6 => ?_)
  obtain ⟨x6, t7⟩ := y
  simp only [go_sem]
  refine CallGiT_sub (s_dec_int b t7 hb hB) rfl (okO_dO _ _) (fun _ => rfl) (by simp [go_sem]) (by simp [go_sem, AV.ids]) rfl (fun e he => tRes_err (by simp only [rJoint, RB, h0, h1, h2, h3, h4, h5, h6, he])) (fun y h7 => ?_)
  obtain ⟨x7, t8⟩ := y
  simp only [go_sem]
  refine CallGiT_sub (s_dec_bool b t8 hb) rfl (okO_dO _ _) (fun _ => rfl) (by simp [go_sem]) (by simp [go_sem, AV.ids]) rfl (fun e he => tRes_err (by simp only [rJoint, RB, h0, h1, h2, h3, h4, h5, h6, h7, he])) (fun y h8 => ?_)
  obtain ⟨x8, t9⟩ := y
  simp only [go_sem]
  refine CallGiT_sub (s_dec_int b t9 hb hB) rfl (okO_dO _ _) (fun _ => rfl) (by simp [go_sem]) (by simp [go_sem, AV.ids]) rfl (fun e he => tRes_err (by simp only [rJoint, RB, h0, h1, h2, h3, h4, h5, h6, h7, h8, he])) (fun y h9 => ?_)
  obtain ⟨x9, t10⟩ := y
  simp only [go_sem]
  refine CallGiT_sub (s_dec_int b t10 hb hB) rfl (okO_dO _ _) (fun _ => rfl) (by simp [go_sem]) (by simp [go_sem, AV.ids]) rfl (fun e he => tRes_err (by simp only [rJoint, RB, h0, h1, h2, h3, h4, h5, h6, h7, h8, h9, he])) (fun y h10 => ?_)
  obtain ⟨x10, t11⟩ := y
  simp only [go_sem]
  refine CallGiT_sub (s_dec_bool b t11 hb) rfl (okO_dO _ _) (fun _ => rfl) (by simp [go_sem]) (by simp [go_sem, AV.ids]) rfl (fun e he => tRes_err (by simp only [rJoint, RB, h0, h1, h2, h3, h4, h5, h6, h7, h8, h9, h10, he])) (fun y h11 => ?_)
  obtain ⟨x11, t12⟩ := y
  simp only [go_sem]
  refine CallGiT_sub (s_dec_int b t12 hb hB) rfl (okO_dO _ _) (fun _ => rfl) (by simp [go_sem]) (by simp [go_sem, AV.ids]) rfl (fun e he => tRes_err (by simp only [rJoint, RB, h0, h1, h2, h3, h4, h5, h6, h7, h8, h9, h10, h11, he])) (fun y h12 => ?_)
  obtain ⟨x12, t13⟩ := y
  simp only [go_sem]
  refine CallGiT_sub (s_dec_int b t13 hb hB) rfl (okO_dO _ _) (fun _ => rfl) (by simp [go_sem]) (by simp [go_sem, AV.ids]) rfl (fun e he => tRes_err (by simp only [rJoint, RB, h0, h1, h2, h3, h4, h5, h6, h7, h8, h9, h10, h11, h12, he])) (fun y h13 => ?_)
  obtain ⟨x13, t14⟩ := y
  simp only [go_sem]
  refine CallGiT_sub (s_dec_int b t14 hb hB) rfl (okO_dO _ _) (fun _ => rfl) (by simp [go_sem]) (by simp [go_sem, AV.ids]) rfl (fun e he => tRes_err (by simp only [rJoint, RB, h0, h1, h2, h3, h4, h5, h6, h7, h8, h9, h10, h11, h12, h13, he])) (fun y h14 => ?_)
  obtain ⟨x14, t15⟩ := y
  simp only [go_sem]
  refine CallGiT_sub (s_dec_int b t15 hb hB) rfl (okO_dO _ _) (fun _ => rfl) (by simp [go_sem]) (by simp [go_sem, AV.ids]) rfl (fun e he => tRes_err (by simp only [rJoint, RB, h0, h1, h2, h3, h4, h5, h6, h7, h8, h9, h10, h11, h12, h13, h14, he])) (fun y h15 => ?_)
  obtain ⟨x15, t16⟩ := y
  simp only [go_sem]
  refine CallGiT_sub (s_dec_bool b t16 hb) rfl (okO_dO _ _) (fun _ => rfl) (by simp [go_sem]) (by simp [go_sem, AV.ids]) rfl (fun e he => tRes_err (by simp only [rJoint, RB, h0, h1, h2, h3, h4, h5, h6, h7, h8, h9, h10, h11, h12, h13, h14, h15, he])) (fun y h16 => ?_)
  obtain ⟨x16, t17⟩ := y
  simp only [go_sem]
  have hsp : rJoint b t0 = RB (rN (rInt b) t17 4) fun l t => .ok ({ ID := x0, Kind := x1, BodyA := x2, BodyB := x3, AnchorA := x4, AnchorB := x5, Axis := x6, ReferenceAngle := x7, EnableLimit := x8, Lower := x9, Upper := x10, EnableMotor := x11, MotorSpeed := x12, MaxForce := x13, Softness := x14, BreakForce := x15, CollideConnected := x16, Impulses := ⟨l.getD 0 0, l.getD 1 0, l.getD 2 0, l.getD 3 0⟩ }, t) := by simp only [rJoint, RB, h0, h1, h2, h3, h4, h5, h6, h7, h8, h9, h10, h11, h12, h13, h14, h15, h16]
  refine WpiT_loop hm (ι := {i : Nat × List Int × Int // i.1 ≤ 4 ∧ rN (rInt b) t17 i.1 = .ok i.2}) (fun i => [(0, .share, .ptr 1 0 0 1), (2, .share, .ptr 48 0 0 1), (3, .share, .ptr 64 0 0 1), (56, .share, .sc (.int .i64 i.1.1))])
    (fun i => [(1, .box [encD 1 encU8 0 b, .sc (.int .i64 i.1.2.2)]), (48, .box (Joint.zero)), (64, .box [.sc (.int .i64 x0), .sc (.int .i64 x1), .sc (.int .i64 x2), .sc (.int .i64 x3), .sc (.int .i64 x4.X), .sc (.int .i64 x4.Y), .sc (.int .i64 x5.X), .sc (.int .i64 x5.Y), .sc (.int .i64 x6.X), .sc (.int .i64 x6.Y), .sc (.int .i64 x7), .sc (.bool x8), .sc (.int .i64 x9), .sc (.int .i64 x10), .sc (.bool x11), .sc (.int .i64 x12), .sc (.int .i64 x13), .sc (.int .i64 x14), .sc (.int .i64 x15), .sc (.bool x16), .sc (.int .i64 (i.1.2.1.getD 0 0)), .sc (.int .i64 (i.1.2.1.getD 1 0)), .sc (.int .i64 (i.1.2.1.getD 2 0)), .sc (.int .i64 (i.1.2.1.getD 3 0))])]) (fun i => 4 - i.1.1) ⟨(0, [], t17), Nat.zero_le 4, rfl⟩ ?_ ?_
  · refine weakE_ [] [] ?_
    simp only [List.getD, List.getElem?_nil, Option.getD_none, Joint.zero, go_sem]
    try simp
  · rintro ⟨⟨i, l, t⟩, hi, hr⟩
    have hl : l.length = i := rN_len hr
    have hi : i ≤ 4 := hi
    have hr : rN (rInt b) t17 i = .ok (l, t) := hr
    have hc : i = 0 ∨ i = 1 ∨ i = 2 ∨ i = 3 ∨ i = 4 := by omega
    clear hi
    rcases hc with rfl | rfl | rfl | rfl | rfl
    · match l, hl, hr with
      | [], _, hr =>
        simp only [go_sem]
        rw [if_pos (by decide)]
        refine CallGiT_sub (s_dec_int b t hb hB) rfl (okO_dO _ _) (fun _ => rfl) (by simp [go_sem]) (by simp [go_sem, AV.ids]) rfl (fun e he => tRes_err ?_) (fun x he => ?_)
        · rw [hsp, rN_err (i := 1) (e := e) (by rw [rN, hr]; simp only [he]) (by decide)]; rfl
        · have hr2 : rN (rInt b) t17 1 = .ok ([] ++ [x.1], x.2) := by rw [rN, hr]; simp only [he]
          simp only [List.getD, List.getElem?_nil, List.getElem?_cons_zero, List.getElem?_cons_succ, Option.getD_none, Option.getD_some, Int.toNat_natCast, go_sem]
          refine ⟨ok_, ?_⟩
          refine loop_next ⟨(1, [] ++ [x.1], x.2), (by omega : 1 ≤ 4), hr2⟩ (by show 4 - 1 < 4 - 0; decide) (weakE_ [] [] ?_)
          simp only [List.getD, List.getElem?_nil, List.getElem?_cons_zero, List.getElem?_cons_succ, Option.getD_none, Option.getD_some, Int.toNat_natCast, List.cons_append, List.nil_append, go_sem]
          decide
    · match l, hl, hr with
      | [a0], _, hr =>
        simp only [go_sem]
        rw [if_pos (by decide)]
        refine CallGiT_sub (s_dec_int b t hb hB) rfl (okO_dO _ _) (fun _ => rfl) (by simp [go_sem]) (by simp [go_sem, AV.ids]) rfl (fun e he => tRes_err ?_) (fun x he => ?_)
        · rw [hsp, rN_err (i := 2) (e := e) (by rw [rN, hr]; simp only [he]) (by decide)]; rfl
        · have hr2 : rN (rInt b) t17 2 = .ok ([a0] ++ [x.1], x.2) := by rw [rN, hr]; simp only [he]
          simp only [List.getD, List.getElem?_nil, List.getElem?_cons_zero, List.getElem?_cons_succ, Option.getD_none, Option.getD_some, Int.toNat_natCast, go_sem]
          refine ⟨ok_, ?_⟩
          refine loop_next ⟨(2, [a0] ++ [x.1], x.2), (by omega : 2 ≤ 4), hr2⟩ (by show 4 - 2 < 4 - 1; decide) (weakE_ [] [] ?_)
          simp only [List.getD, List.getElem?_nil, List.getElem?_cons_zero, List.getElem?_cons_succ, Option.getD_none, Option.getD_some, Int.toNat_natCast, List.cons_append, List.nil_append, go_sem]
          decide
    · match l, hl, hr with
      | [a0, a1], _, hr =>
        simp only [go_sem]
        rw [if_pos (by decide)]
        refine CallGiT_sub (s_dec_int b t hb hB) rfl (okO_dO _ _) (fun _ => rfl) (by simp [go_sem]) (by simp [go_sem, AV.ids]) rfl (fun e he => tRes_err ?_) (fun x he => ?_)
        · rw [hsp, rN_err (i := 3) (e := e) (by rw [rN, hr]; simp only [he]) (by decide)]; rfl
        · have hr2 : rN (rInt b) t17 3 = .ok ([a0, a1] ++ [x.1], x.2) := by rw [rN, hr]; simp only [he]
          simp only [List.getD, List.getElem?_nil, List.getElem?_cons_zero, List.getElem?_cons_succ, Option.getD_none, Option.getD_some, Int.toNat_natCast, go_sem]
          refine ⟨ok_, ?_⟩
          refine loop_next ⟨(3, [a0, a1] ++ [x.1], x.2), (by omega : 3 ≤ 4), hr2⟩ (by show 4 - 3 < 4 - 2; decide) (weakE_ [] [] ?_)
          simp only [List.getD, List.getElem?_nil, List.getElem?_cons_zero, List.getElem?_cons_succ, Option.getD_none, Option.getD_some, Int.toNat_natCast, List.cons_append, List.nil_append, go_sem]
          decide
    · match l, hl, hr with
      | [a0, a1, a2], _, hr =>
        simp only [go_sem]
        rw [if_pos (by decide)]
        refine CallGiT_sub (s_dec_int b t hb hB) rfl (okO_dO _ _) (fun _ => rfl) (by simp [go_sem]) (by simp [go_sem, AV.ids]) rfl (fun e he => tRes_err ?_) (fun x he => ?_)
        · rw [hsp, rN_err (i := 4) (e := e) (by rw [rN, hr]; simp only [he]) (by decide)]; rfl
        · have hr2 : rN (rInt b) t17 4 = .ok ([a0, a1, a2] ++ [x.1], x.2) := by rw [rN, hr]; simp only [he]
          simp only [List.getD, List.getElem?_nil, List.getElem?_cons_zero, List.getElem?_cons_succ, Option.getD_none, Option.getD_some, Int.toNat_natCast, go_sem]
          refine ⟨ok_, ?_⟩
          refine loop_next ⟨(4, [a0, a1, a2] ++ [x.1], x.2), (by omega : 4 ≤ 4), hr2⟩ (by show 4 - 4 < 4 - 3; decide) (weakE_ [] [] ?_)
          simp only [List.getD, List.getElem?_nil, List.getElem?_cons_zero, List.getElem?_cons_succ, Option.getD_none, Option.getD_some, Int.toNat_natCast, List.cons_append, List.nil_append, go_sem]
          decide
    · match l, hl, hr with
      | [a0, a1, a2, a3], _, hr =>
        simp only [go_sem]
        rw [if_neg (by decide)]
        simp only [List.getD, List.getElem?_nil, List.getElem?_cons_zero, List.getElem?_cons_succ, Option.getD_none, Option.getD_some, Joint.zero, go_sem]
        refine retT_ok ({ ID := x0, Kind := x1, BodyA := x2, BodyB := x3, AnchorA := x4, AnchorB := x5, Axis := x6, ReferenceAngle := x7, EnableLimit := x8, Lower := x9, Upper := x10, EnableMotor := x11, MotorSpeed := x12, MaxForce := x13, Softness := x14, BreakForce := x15, CollideConnected := x16, Impulses := ⟨[a0, a1, a2, a3].getD 0 0, [a0, a1, a2, a3].getD 1 0, [a0, a1, a2, a3].getD 2 0, [a0, a1, a2, a3].getD 3 0⟩ }, t) (by rw [hsp, hr]; rfl) ?_
        simp only [retR, go_sem]
        refine retW_of [.share] [] [] rfl rfl (by simp [go_sem]) (by simp [assoc, go_sem]) (by simp [go_sem]) ?_
        simp only [List.getD, List.getElem?_nil, List.getElem?_cons_zero, List.getElem?_cons_succ, Option.getD_none, Option.getD_some, go_sem]
end Go.Abs
end
section
namespace Go.Abs
open Go.Proofs
open Api
def rWorld (b : List Int) (t0 : Int) : Except Int (Api.World × Int) :=
  RB (rInt b t0) fun x0 t1 =>
  RB (rVec b t1) fun x1 t2 =>
  RB (rInt b t2) fun x2 t3 =>
  RB (rInt b t3) fun x3 t4 =>
  RB (rSl (rBody b) b t4) fun x4 t5 =>
  RB (rSl (rJoint b) b t5) fun x5 t6 =>
  RB (rSl (rContact b) b t6) fun x6 t7 =>
  RB (rSl (rKey b) b t7) fun x7 t8 =>
  RB (rInt b t8) fun x8 t9 =>
  RB (rInt b t9) fun x9 t10 =>
  .ok ({ Settings := { TimeStep := x0, Gravity := x1, Iterations := x2, SleepSteps := x3 }, Bodies := x4, Joints := x5, Contacts := x6, Overlaps := x7, NextID := x8, Frame := x9 }, t10)
theorem s_dec_world (b : List Int) (t0 : Int) (hb : b.length ≤ 549755813888) (hB : bytes b) : CallsT Tryz.prog evD F_snapshot_decoder_world [.ptr 1 0 0 1] (dO b t0) (tRes (fun x : Api.World × Int => [.agg x.1.enc]) (fun x => dO b x.2) (rWorld b t0)) := by
  refine enD 47 [(2, some (some 11))] hm shOk Tryz.func32 rfl ?_
  simp only [go_sem]
  refine CallGiT_sub (s_dec_int b t0 hb hB) rfl (okO_dO _ _) (fun _ => rfl) (by simp [go_sem]) (by simp [go_sem, AV.ids]) rfl (fun e he => tRes_err (by simp only [rWorld, RB, he])) (fun y h0 => ?_)
  obtain ⟨x0, t1⟩ := y
  simp only [go_sem]
  refine CallGiT_sub (s_dec_vec b t1 hb hB) rfl (okO_dO _ _) (fun _ => rfl) (by simp [go_sem]) (by simp [go_sem, AV.ids]) rfl (fun e he => tRes_err (by simp only [rWorld, RB, h0, he])) (fun y h1 => ?_)
  obtain ⟨x1, t2⟩ := y
  simp only [go_sem]
  refine CallGiT_sub (s_dec_int b t2 hb hB) rfl (okO_dO _ _) (fun _ => rfl) (by simp [go_sem]) (by simp [go_sem, AV.ids]) rfl (fun e he => tRes_err (by simp only [rWorld, RB, h0, h1, he])) (fun y h2 => ?_)
  obtain ⟨x2, t3⟩ := y
  simp only [go_sem]
  refine CallGiT_sub (s_dec_int b t3 hb hB) rfl (okO_dO _ _) (fun _ => rfl) (by simp [go_sem]) (by simp [go_sem, AV.ids]) rfl (fun e he => tRes_err (by simp only [rWorld, RB, h0, h1, h2, he])) (fun y h3 => ?_)
  obtain ⟨x3, t4⟩ := y
  simp only [go_sem]
  refine CallGiT_sub (s_dec_slice_Body b t4 hb hB (rBody b) F_snapshot_decoder_body (fun t => s_dec_body b t hb hB)) rfl (okO_dO _ _) (fun _ => rfl) (by simp [go_sem]) (by simp [go_sem, AV.ids]) rfl (fun e he => tRes_err (by simp only [rWorld, RB, h0, h1, h2, h3, he])) (fun y h4 => ?_)
  obtain ⟨x4, t5⟩ := y
  simp only [go_sem]
  refine CallGiT_sub (s_dec_slice_Joint b t5 hb hB (rJoint b) F_snapshot_decoder_joint (fun t => s_dec_joint b t hb hB)) rfl (okO_dO _ _) (fun _ => rfl) (by simp [go_sem]) (by simp [go_sem, AV.ids]) rfl (fun e he => tRes_err (by simp only [rWorld, RB, h0, h1, h2, h3, h4, he])) (fun y h5 => ?_)
  obtain ⟨x5, t6⟩ := y
  simp only [go_sem]
  refine CallGiT_sub (s_dec_slice_Contact b t6 hb hB (rContact b) F_snapshot_decoder_contact (fun t => s_dec_contact b t hb hB)) rfl (okO_dO _ _) (fun _ => rfl) (by simp [go_sem]) (by simp [go_sem, AV.ids]) rfl (fun e he => tRes_err (by simp only [rWorld, RB, h0, h1, h2, h3, h4, h5, he])) (fun y h6 => ?_)
  obtain ⟨x6, t7⟩ := y
  simp only [go_sem]
  refine CallGiT_sub (s_dec_slice_PairKey b t7 hb hB (rKey b) F_snapshot_decoder_key (fun t => s_dec_key b t hb hB)) rfl (okO_dO _ _) (fun _ => rfl) (by simp [go_sem]) (by simp [go_sem, AV.ids]) rfl (fun e he => tRes_err (by simp only [rWorld, RB, h0, h1, h2, h3, h4, h5, h6, he])) (fun y h7 => ?_)
  obtain ⟨x7, t8⟩ := y
  simp only [go_sem]
  refine CallGiT_sub (s_dec_int b t8 hb hB) rfl (okO_dO _ _) (fun _ => rfl) (by simp [go_sem]) (by simp [go_sem, AV.ids]) rfl (fun e he => tRes_err (by simp only [rWorld, RB, h0, h1, h2, h3, h4, h5, h6, h7, he])) (fun y h8 => ?_)
  obtain ⟨x8, t9⟩ := y
  simp only [go_sem]
  refine CallGiT_sub (s_dec_int b t9 hb hB) rfl (okO_dO _ _) (fun _ => rfl) (by simp [go_sem]) (by simp [go_sem, AV.ids]) rfl (fun e he => tRes_err (by simp only [rWorld, RB, h0, h1, h2, h3, h4, h5, h6, h7, h8, he])) (fun y h9 => ?_)
  obtain ⟨x9, t10⟩ := y
  simp only [go_sem]
  refine retT_ok ({ Settings := { TimeStep := x0, Gravity := x1, Iterations := x2, SleepSteps := x3 }, Bodies := x4, Joints := x5, Contacts := x6, Overlaps := x7, NextID := x8, Frame := x9 }, t10) (by simp only [rWorld, RB, h0, h1, h2, h3, h4, h5, h6, h7, h8, h9]) ?_
  simp only [retR, go_sem]
  refine retW_of [.share] [] [] rfl rfl (by simp [go_sem]) (by simp [assoc, go_sem]) (by simp [go_sem]) ?_
  simp only [go_sem]
end Go.Abs
end
section
namespace Go.Abs
open Go.Proofs
open Api
def rd_snapshot_recoverError : RecD := ⟨5, 2, 6, 7, 10, 9, 181, [⟨(some 8), .mov (.t 10), none, []⟩, ⟨(some 11), .ext (.t 8) 0, none, []⟩, ⟨(some 12), .ext (.t 8) 1, none, []⟩, ⟨(some 3), .alloc [(.int .i64 0)], none, []⟩, ⟨none, .store 1 (.t 3) (.t 11), none, []⟩, ⟨(some 4), .mov (.t 12), none, []⟩], (.seq (.seq (.region false [⟨(some 13), .mov (.t 4), none, []⟩, ⟨(some 14), .un .not (.t 13), none, []⟩])
  (.cond (.t 14) (.region false [⟨(some 15), .mov (.t 2), none, []⟩, ⟨none, .bad, none, []⟩]) .skip))
  (.region false [⟨(some 16), .mov (.t 0), none, []⟩, ⟨(some 17), .faddr 0 (.t 3), none, []⟩, ⟨(some 18), .load none (.t 17), none, []⟩, ⟨(some 19), .nilck (.t 16), none, []⟩, ⟨none, .store 1 (.t 19) (.t 18), none, []⟩]))⟩
theorem rd_is : recog Tryz.prog Tryz.f60.ntmps 20 (Tryz.f60.body.getD .skip) = some rd_snapshot_recoverError := by kernel_rfl
def t3d {α : Type} [Inhabited α] (r : Except Int (α × Int)) : α × Int × Int := match r with | .ok x => (x.1, x.2, 0) | .error e => (default, 0, e)
def dd_snapshot_decodeAt_Contact : DecD where
  as0 := [⟨(some 6), .alloc [(.int .i64 0), (.int .i64 0), (.int .i64 0), (.int .i64 0), (.int .i64 0), (.int .i64 0), (.slice none 0 0)], none, []⟩, ⟨(some 7), .alloc [(.int .i64 0)], none, []⟩, ⟨(some 8), .alloc [(.int .i64 0)], none, []⟩]
  as1 := [⟨(some 10), .mov (.t 0), none, []⟩, ⟨(some 11), .mov (.t 1), none, []⟩, ⟨(some 12), .build [(.slice none 0 0), (.int .i64 0)] [(0, 1, (.t 10)), (1, 1, (.t 11))], none, []⟩, ⟨(some 13), .box (.t 12), none, []⟩, ⟨(some 9), .mov (.t 13), none, []⟩]
  mkf := [⟨(some 14), .mkfn (.func 90) [] [(.t 8), (.t 6), (.t 7)], none, []⟩]
  fv := 14
  g := 60
  tc := 8
  as4 := [⟨(some 15), .mov (.t 2), none, []⟩, ⟨(some 16), .mov (.t 9), none, []⟩, ⟨(some 17), .callv (.t 15) [(.t 16)], none, []⟩, ⟨none, .store 7 (.t 6) (.t 17), none, []⟩]
  as5 := [⟨(some 18), .load (some 7) (.t 6), none, []⟩, ⟨(some 19), .mov (.t 9), none, []⟩, ⟨(some 20), .nilck (.t 19), none, []⟩, ⟨(some 21), .faddr 1 (.t 20), none, []⟩, ⟨(some 22), .load none (.t 21), none, []⟩, ⟨none, .store 7 (.t 6) (.t 18), none, [4]⟩, ⟨none, .store 1 (.t 7) (.t 22), none, []⟩, ⟨none, .store 1 (.t 8) (.k (.sc (.int .i64 0))), none, []⟩]
theorem dd_Contact_is : recogA Tryz.prog Tryz.f42.ntmps (Tryz.f42.body.getD .skip) = some dd_snapshot_decodeAt_Contact := by kernel_rfl
def oA_Contact (x : Contact) (n e : Int) : List (Nat × AObj) := [(112, .box x.enc), (128, .box [.sc (.int .i64 n)]), (144, .box [.sc (.int .i64 e)])]
def oZ_Contact : List (Nat × AObj) := [(112, .box Contact.zero), (128, .box [.sc (.int .i64 0)]), (144, .box [.sc (.int .i64 0)])]
def oT_Contact : Slots := [(6, .share, .ptr 112 0 0 1), (7, .share, .ptr 128 0 0 1), (8, .share, .ptr 144 0 0 1)]
attribute [go_sem] oA_Contact oT_Contact oZ_Contact
theorem nt_Contact : Tryz.f42.ntmps = 23 := by kernel_rfl
theorem oRes_Contact (x : Contact) (n e : Int) : retR (stOf oT_Contact (oA_Contact x n e)) Tryz.f42.ntmps [(6, some (some 7)), (7, some none), (8, some none)] (fun σ2 => RetW [] σ2 (List.range' Tryz.f42.ntmps [(6, some (some 7)), (7, some none), (8, some none)].length) [.agg x.enc, .sc (.int .i64 n), .sc (.int .i64 e)] []) := by
  rw [nt_Contact]
  simp only [go_sem]
  refine retW_of [.share, .share, .share] [] [] rfl rfl (by simp [go_sem]) (by simp [assoc, go_sem]) (by simp [go_sem]) ?_
  simp only [go_sem]
theorem oCl_Contact (x : Contact) (n e : Int) : Wp Tryz.prog Tryz.f90.ntmps ((oA_Contact x n e).map (·.1)) c_snapshot_decodeAt_Contact_f1 (doneQ ((oA_Contact x n e).map (·.1)) (if e = 0 then oA_Contact x n e else oA_Contact default 0 e)) (start [.ptr 144 0 0 1, .ptr 112 0 0 1, .ptr 128 0 0 1] (oA_Contact x n e)) := by
  refine Wp.of_W hm _ ?_
  show @Wi Tryz.prog Tryz.f90.ntmps _ _ (doneC ((oA_Contact x n e).map (·.1)) (if e = 0 then oA_Contact x n e else oA_Contact default 0 e)) _
  simp only [c_snapshot_decodeAt_Contact_f1, go_sem]
  by_cases he : e = 0
  · subst he
    rw [if_neg (by decide)]
    simp only [if_true, go_sem]
    refine weakE_ [] [] ?_
    simp only [go_sem]
    try trivial
  · have hne : (e != 0) = true := by simpa using he
    rw [if_pos hne]
    simp only [he, go_sem]
    refine weakE_ [] [] ?_
    simp only [go_sem]
    (repeat' (with_reducible apply And.intro)) <;> first | rfl | exact avle_nilD rfl
theorem okO_oZ_Contact : okO oZ_Contact := by
  refine ⟨by simp [go_sem], ?_⟩
  simp [go_sem, Contact.zero, idsL, AV.ids]
theorem oTp_Contact : ∀ (t : Nat) (av : AV), envT oT_Contact t = some (true, av) → ∃ k, (ofL oZ_Contact k).isSome = true ∧ av = AV.ptr k 0 0 1 := by
  intro t av ht
  simp only [oT_Contact, envT] at ht
  (repeat' split at ht) <;> simp only [Option.some.injEq, Prod.mk.injEq, true_and, reduceCtorEq] at ht <;> subst ht <;> exact ⟨_, rfl, rfl⟩
theorem oDis_Contact (b : List Int) (at' : Int) : ∀ (i j : Nat), (ofL oZ_Contact i).isSome = true → (ofL (dO b at') j).isSome = true → i ≠ assoc [(1, 224)] j := by
  intro i j hi hj
  obtain ⟨o, ho⟩ := ofL_mem hi
  obtain ⟨o', ho'⟩ := ofL_mem hj
  simp only [oZ_Contact, dO, List.mem_cons, Prod.mk.injEq, List.not_mem_nil, or_false] at ho ho'
  obtain ⟨rfl, _⟩ := ho'
  rcases ho with ⟨rfl, _⟩ | ⟨rfl, _⟩ | ⟨rfl, _⟩ <;> decide
theorem oRec_Contact (n : Int) : wseq Tryz.prog rd_snapshot_recoverError.as (fun τ => Wp Tryz.prog Tryz.f60.ntmps (oZ_Contact.map (·.1)) rd_snapshot_recoverError.ac (doneQ (oZ_Contact.map (·.1)) (oA_Contact default 0 n)) τ)
    (stOf [(0, .share, .ptr 144 0 0 1), (rd_snapshot_recoverError.x, .share, .sc (evD n)), (rd_snapshot_recoverError.p, .share, .tup [.agg [.sc (.int .i64 n)], .sc (.bool true)])] oZ_Contact) := by
  refine to_rec ?_
  simp only [rd_snapshot_recoverError, Contact.zero, go_sem]
  refine Wpi_of hm ?_
  simp only [go_sem]
  refine weakE_ [] [] ?_
  simp only [go_sem]
  try ((repeat' (with_reducible apply And.intro)) <;> first | rfl | exact avle_self _ | exact avle_nilD rfl)
theorem s_decodeAt_Contact (b : List Int) (at' : Int) (f : Nat) (p : Int → Except Int (Contact × Int)) (hp : ∀ t, CallsT Tryz.prog evD f [.ptr 1 0 0 1] (dO b t) (tRes (fun x : Contact × Int => [.agg x.1.enc]) (fun x => dO b x.2) (p t))) (hpe : ∀ t e, p t = .error e → e ≠ 0) :
    CallsA Tryz.prog F_snapshot_decodeAt_Contact [encD 1 encU8 0 b, .sc (.int .i64 at'), .fn (.func f) [] []] [] (.tup [.agg (t3d (p at')).1.enc, .sc (.int .i64 (t3d (p at')).2.1), .sc (.int .i64 (t3d (p at')).2.2)]) [] := by
  have hc := hp at'
  have hne := hpe at'
  cases hr : p at' with
  | ok x =>
    rw [hr] at hc
    have hw := oCl_Contact x.1 x.2 0
    rw [if_pos rfl] at hw
    refine decA_normal hm Tryz.func42 (by kernel_rfl) (by kernel_rfl) dd_Contact_is (by kernel_rfl : rvOf Tryz.prog Tryz.f42.results.toList = some [(6, some (some 7)), (7, some none), (8, some none)]) (by kernel_rfl) (by kernel_rfl) Tryz.underlying20 Tryz.func60 (by kernel_rfl) (by kernel_rfl) (by kernel_rfl) rd_is
      Tryz.func90 (by kernel_rfl) (by kernel_rfl) (by kernel_rfl) is_snapshot_decodeAt_Contact_f1 (by decide +kernel) (KK := [112, 128, 144]) (by simp) hw (oRes_Contact x.1 x.2 0) ?_
    show @Wsi Tryz.prog dd_snapshot_decodeAt_Contact.as0 (thenS Tryz.prog dd_snapshot_decodeAt_Contact.as1 (thenS Tryz.prog dd_snapshot_decodeAt_Contact.mkf (midN Tryz.prog dd_snapshot_decodeAt_Contact.fv (.fn (.func F_snapshot_decodeAt_Contact_f1) [] [.ptr 144 0 0 1, .ptr 112 0 0 1, .ptr 128 0 0 1]) dd_snapshot_decodeAt_Contact.as4 (thenA Tryz.prog dd_snapshot_decodeAt_Contact.as5 (endN [112, 128, 144] oT_Contact (oA_Contact x.1 x.2 0)))))) _
    simp only [dd_snapshot_decodeAt_Contact, go_sem]
    refine CallGi_obj [true] [(1, 224)] (show CallsA Tryz.prog f [.ptr 1 0 0 1] (dO b at') (.agg x.1.enc) (dO b x.2) from hc) (by simp [go_sem]) (by simp [go_sem]) (by simp [go_sem]) (by simp [go_sem]) ?_
    simp only [argsOC, dd_snapshot_decodeAt_Contact, go_sem]
    refine weakE_ [] [] ?_
    simp only [t3d, go_sem]
    try ((repeat' (with_reducible apply And.intro)) <;> first | rfl | exact avle_self _)
  | error e =>
    rw [hr] at hc
    have hne := hne e hr
    have hw := oCl_Contact default 0 e
    rw [if_neg hne] at hw
    refine decA_dies hm Tryz.func42 (by kernel_rfl) (by kernel_rfl) dd_Contact_is (by kernel_rfl : rvOf Tryz.prog Tryz.f42.results.toList = some [(6, some (some 7)), (7, some none), (8, some none)]) (by kernel_rfl) (by kernel_rfl) Tryz.underlying20 Tryz.func60 (by kernel_rfl) (by kernel_rfl) (by kernel_rfl) rd_is
      rfl rfl evD_ty (ev := evD) (fun _ => rfl) Tryz.func90 (by kernel_rfl) (by kernel_rfl) (by kernel_rfl) is_snapshot_decodeAt_Contact_f1 (by decide +kernel) (ρ := assoc [(1, 224)]) (O := dO b at') (ic := 144) (OA0 := oZ_Contact) (T := oT_Contact) ?_ ?_ rfl ?_ ?_ (oRec_Contact e) hw (oRes_Contact default 0 e) ?_
    · simp [go_sem]
    · exact oTp_Contact
    · exact fun i cs hi j hj => (okO_oZ_Contact).2 _ (ofL_mem' (okO_oZ_Contact).1 hi) cs rfl j hj
    · exact oDis_Contact b at'
    show @Wsi Tryz.prog dd_snapshot_decodeAt_Contact.as0 (thenS Tryz.prog dd_snapshot_decodeAt_Contact.as1 (thenS Tryz.prog dd_snapshot_decodeAt_Contact.mkf (midD Tryz.prog dd_snapshot_decodeAt_Contact.fv (.fn (.func F_snapshot_decodeAt_Contact_f1) [] [.ptr 144 0 0 1, .ptr 112 0 0 1, .ptr 128 0 0 1]) dd_snapshot_decodeAt_Contact.tc (.ptr 144 0 0 1) evD e (assoc [(1, 224)]) (dO b at') (zC oZ_Contact oT_Contact) dd_snapshot_decodeAt_Contact.as4))) _
    simp only [dd_snapshot_decodeAt_Contact, go_sem]
    refine WdF_go ?_
    simp only [go_sem]
    refine WdF_go ?_
    simp only [go_sem]
    refine WdF_die ⟨rfl, f, [.ptr 224 0 0 1], [true], [.ptr 1 0 0 1], by simp only [go_sem], by simp only [go_sem], hc, ?_, ?_, ?_, ?_⟩ ⟨?_, ?_⟩
    · exact ⟨rfl, by intro i hi; simp only [AV.ids, List.mem_singleton] at hi; subst hi; rfl, rfl⟩
    · intro i o hi
      have hm1 := ofL_mem' (okO_dO b at').1 hi
      simp only [dO, List.mem_singleton, Prod.mk.injEq] at hm1
      obtain ⟨rfl, rfl⟩ := hm1
      simp only [go_sem]
    · exact fun i cs hi j hj => (okO_dO b at').2 _ (ofL_mem' (okO_dO b at').1 hi) cs rfl j hj
    · intro i j hi hj _
      obtain ⟨o, ho⟩ := ofL_mem hi
      obtain ⟨o', ho'⟩ := ofL_mem hj
      simp only [List.mem_singleton, Prod.mk.injEq] at ho ho'
      rw [ho.1, ho'.1]
    · intro i o hi
      have hm1 := ofL_mem' (okO_oZ_Contact).1 hi
      simp only [oZ_Contact, List.mem_cons, Prod.mk.injEq, List.not_mem_nil, or_false] at hm1
      rcases hm1 with ⟨rfl, rfl⟩ | ⟨rfl, rfl⟩ | ⟨rfl, rfl⟩
      · simp only [Contact.zero, go_sem]
      · simp only [go_sem]
      · simp only [go_sem]
    · intro t av ht
      simp only [oT_Contact, envT] at ht
      (repeat' split at ht) <;> simp only [Option.some.injEq, Prod.mk.injEq, true_and, reduceCtorEq] at ht <;> subst ht <;> (rename_i e1; subst e1; simp only [go_sem])
def dd_snapshot_decodeAt_World : DecD where
  as0 := [⟨(some 6), .alloc [(.int .i64 0), (.int .i64 0), (.int .i64 0), (.int .i64 0), (.int .i64 0), (.slice none 0 0), (.slice none 0 0), (.slice none 0 0), (.slice none 0 0), (.int .i64 0), (.int .i64 0)], none, []⟩, ⟨(some 7), .alloc [(.int .i64 0)], none, []⟩, ⟨(some 8), .alloc [(.int .i64 0)], none, []⟩]
  as1 := [⟨(some 10), .mov (.t 0), none, []⟩, ⟨(some 11), .mov (.t 1), none, []⟩, ⟨(some 12), .build [(.slice none 0 0), (.int .i64 0)] [(0, 1, (.t 10)), (1, 1, (.t 11))], none, []⟩, ⟨(some 13), .box (.t 12), none, []⟩, ⟨(some 9), .mov (.t 13), none, []⟩]
  mkf := [⟨(some 14), .mkfn (.func 59) [] [(.t 8), (.t 6), (.t 7)], none, []⟩]
  fv := 14
  g := 60
  tc := 8
  as4 := [⟨(some 15), .mov (.t 2), none, []⟩, ⟨(some 16), .mov (.t 9), none, []⟩, ⟨(some 17), .callv (.t 15) [(.t 16)], none, []⟩, ⟨none, .store 11 (.t 6) (.t 17), none, []⟩]
  as5 := [⟨(some 18), .load (some 11) (.t 6), none, []⟩, ⟨(some 19), .mov (.t 9), none, []⟩, ⟨(some 20), .nilck (.t 19), none, []⟩, ⟨(some 21), .faddr 1 (.t 20), none, []⟩, ⟨(some 22), .load none (.t 21), none, []⟩, ⟨none, .store 11 (.t 6) (.t 18), none, [4]⟩, ⟨none, .store 1 (.t 7) (.t 22), none, []⟩, ⟨none, .store 1 (.t 8) (.k (.sc (.int .i64 0))), none, []⟩]
theorem dd_World_is : recogA Tryz.prog Tryz.f31.ntmps (Tryz.f31.body.getD .skip) = some dd_snapshot_decodeAt_World := by kernel_rfl
def oA_World (x : Api.World) (n e : Int) : List (Nat × AObj) := [(112, .box x.enc), (128, .box [.sc (.int .i64 n)]), (144, .box [.sc (.int .i64 e)])]
def oZ_World : List (Nat × AObj) := [(112, .box Api.World.zero), (128, .box [.sc (.int .i64 0)]), (144, .box [.sc (.int .i64 0)])]
def oT_World : Slots := [(6, .share, .ptr 112 0 0 1), (7, .share, .ptr 128 0 0 1), (8, .share, .ptr 144 0 0 1)]
attribute [go_sem] oA_World oT_World oZ_World
theorem nt_World : Tryz.f31.ntmps = 23 := by kernel_rfl
theorem oRes_World (x : Api.World) (n e : Int) : retR (stOf oT_World (oA_World x n e)) Tryz.f31.ntmps [(6, some (some 11)), (7, some none), (8, some none)] (fun σ2 => RetW [] σ2 (List.range' Tryz.f31.ntmps [(6, some (some 11)), (7, some none), (8, some none)].length) [.agg x.enc, .sc (.int .i64 n), .sc (.int .i64 e)] []) := by
  rw [nt_World]
  simp only [go_sem]
  refine retW_of [.share, .share, .share] [] [] rfl rfl (by simp [go_sem]) (by simp [assoc, go_sem]) (by simp [go_sem]) ?_
  simp only [go_sem]
theorem oCl_World (x : Api.World) (n e : Int) : Wp Tryz.prog Tryz.f59.ntmps ((oA_World x n e).map (·.1)) c_snapshot_decodeAt_World_f1 (doneQ ((oA_World x n e).map (·.1)) (if e = 0 then oA_World x n e else oA_World default 0 e)) (start [.ptr 144 0 0 1, .ptr 112 0 0 1, .ptr 128 0 0 1] (oA_World x n e)) := by
  refine Wp.of_W hm _ ?_
  show @Wi Tryz.prog Tryz.f59.ntmps _ _ (doneC ((oA_World x n e).map (·.1)) (if e = 0 then oA_World x n e else oA_World default 0 e)) _
  simp only [c_snapshot_decodeAt_World_f1, go_sem]
  by_cases he : e = 0
  · subst he
    rw [if_neg (by decide)]
    simp only [if_true, go_sem]
    refine weakE_ [] [] ?_
    simp only [go_sem]
    try trivial
  · have hne : (e != 0) = true := by simpa using he
    rw [if_pos hne]
    simp only [he, go_sem]
    refine weakE_ [] [] ?_
    simp only [go_sem]
    (repeat' (with_reducible apply And.intro)) <;> first | rfl | exact avle_nilD rfl
theorem okO_oZ_World : okO oZ_World := by
  refine ⟨by simp [go_sem], ?_⟩
  simp [go_sem, Api.World.zero, idsL, AV.ids]
theorem oTp_World : ∀ (t : Nat) (av : AV), envT oT_World t = some (true, av) → ∃ k, (ofL oZ_World k).isSome = true ∧ av = AV.ptr k 0 0 1 := by
  intro t av ht
  simp only [oT_World, envT] at ht
  (repeat' split at ht) <;> simp only [Option.some.injEq, Prod.mk.injEq, true_and, reduceCtorEq] at ht <;> subst ht <;> exact ⟨_, rfl, rfl⟩
theorem oDis_World (b : List Int) (at' : Int) : ∀ (i j : Nat), (ofL oZ_World i).isSome = true → (ofL (dO b at') j).isSome = true → i ≠ assoc [(1, 224)] j := by
  intro i j hi hj
  obtain ⟨o, ho⟩ := ofL_mem hi
  obtain ⟨o', ho'⟩ := ofL_mem hj
  simp only [oZ_World, dO, List.mem_cons, Prod.mk.injEq, List.not_mem_nil, or_false] at ho ho'
  obtain ⟨rfl, _⟩ := ho'
  rcases ho with ⟨rfl, _⟩ | ⟨rfl, _⟩ | ⟨rfl, _⟩ <;> decide
theorem oRec_World (n : Int) : wseq Tryz.prog rd_snapshot_recoverError.as (fun τ => Wp Tryz.prog Tryz.f60.ntmps (oZ_World.map (·.1)) rd_snapshot_recoverError.ac (doneQ (oZ_World.map (·.1)) (oA_World default 0 n)) τ)
    (stOf [(0, .share, .ptr 144 0 0 1), (rd_snapshot_recoverError.x, .share, .sc (evD n)), (rd_snapshot_recoverError.p, .share, .tup [.agg [.sc (.int .i64 n)], .sc (.bool true)])] oZ_World) := by
  refine to_rec ?_
  simp only [rd_snapshot_recoverError, Api.World.zero, go_sem]
  refine Wpi_of hm ?_
  simp only [go_sem]
  refine weakE_ [] [] ?_
  simp only [go_sem]
  try ((repeat' (with_reducible apply And.intro)) <;> first | rfl | exact avle_self _ | exact avle_nilD rfl)
theorem s_decodeAt_World (b : List Int) (at' : Int) (f : Nat) (p : Int → Except Int (Api.World × Int)) (hp : ∀ t, CallsT Tryz.prog evD f [.ptr 1 0 0 1] (dO b t) (tRes (fun x : Api.World × Int => [.agg x.1.enc]) (fun x => dO b x.2) (p t))) (hpe : ∀ t e, p t = .error e → e ≠ 0) :
    CallsA Tryz.prog F_snapshot_decodeAt_World [encD 1 encU8 0 b, .sc (.int .i64 at'), .fn (.func f) [] []] [] (.tup [.agg (t3d (p at')).1.enc, .sc (.int .i64 (t3d (p at')).2.1), .sc (.int .i64 (t3d (p at')).2.2)]) [] := by
  have hc := hp at'
  have hne := hpe at'
  cases hr : p at' with
  | ok x =>
    rw [hr] at hc
    have hw := oCl_World x.1 x.2 0
    rw [if_pos rfl] at hw
    refine decA_normal hm Tryz.func31 (by kernel_rfl) (by kernel_rfl) dd_World_is (by kernel_rfl : rvOf Tryz.prog Tryz.f31.results.toList = some [(6, some (some 11)), (7, some none), (8, some none)]) (by kernel_rfl) (by kernel_rfl) Tryz.underlying20 Tryz.func60 (by kernel_rfl) (by kernel_rfl) (by kernel_rfl) rd_is
      Tryz.func59 (by kernel_rfl) (by kernel_rfl) (by kernel_rfl) is_snapshot_decodeAt_World_f1 (by decide +kernel) (KK := [112, 128, 144]) (by simp) hw (oRes_World x.1 x.2 0) ?_
    show @Wsi Tryz.prog dd_snapshot_decodeAt_World.as0 (thenS Tryz.prog dd_snapshot_decodeAt_World.as1 (thenS Tryz.prog dd_snapshot_decodeAt_World.mkf (midN Tryz.prog dd_snapshot_decodeAt_World.fv (.fn (.func F_snapshot_decodeAt_World_f1) [] [.ptr 144 0 0 1, .ptr 112 0 0 1, .ptr 128 0 0 1]) dd_snapshot_decodeAt_World.as4 (thenA Tryz.prog dd_snapshot_decodeAt_World.as5 (endN [112, 128, 144] oT_World (oA_World x.1 x.2 0)))))) _
    simp only [dd_snapshot_decodeAt_World, go_sem]
    refine CallGi_obj [true] [(1, 224)] (show CallsA Tryz.prog f [.ptr 1 0 0 1] (dO b at') (.agg x.1.enc) (dO b x.2) from hc) (by simp [go_sem]) (by simp [go_sem]) (by simp [go_sem]) (by simp [go_sem]) ?_
    simp only [argsOC, dd_snapshot_decodeAt_World, go_sem]
    refine weakE_ [] [] ?_
    simp only [t3d, go_sem]
    try ((repeat' (with_reducible apply And.intro)) <;> first | rfl | exact avle_self _)
  | error e =>
    rw [hr] at hc
    have hne := hne e hr
    have hw := oCl_World default 0 e
    rw [if_neg hne] at hw
    refine decA_dies hm Tryz.func31 (by kernel_rfl) (by kernel_rfl) dd_World_is (by kernel_rfl : rvOf Tryz.prog Tryz.f31.results.toList = some [(6, some (some 11)), (7, some none), (8, some none)]) (by kernel_rfl) (by kernel_rfl) Tryz.underlying20 Tryz.func60 (by kernel_rfl) (by kernel_rfl) (by kernel_rfl) rd_is
      rfl rfl evD_ty (ev := evD) (fun _ => rfl) Tryz.func59 (by kernel_rfl) (by kernel_rfl) (by kernel_rfl) is_snapshot_decodeAt_World_f1 (by decide +kernel) (ρ := assoc [(1, 224)]) (O := dO b at') (ic := 144) (OA0 := oZ_World) (T := oT_World) ?_ ?_ rfl ?_ ?_ (oRec_World e) hw (oRes_World default 0 e) ?_
    · simp [go_sem]
    · exact oTp_World
    · exact fun i cs hi j hj => (okO_oZ_World).2 _ (ofL_mem' (okO_oZ_World).1 hi) cs rfl j hj
    · exact oDis_World b at'
    show @Wsi Tryz.prog dd_snapshot_decodeAt_World.as0 (thenS Tryz.prog dd_snapshot_decodeAt_World.as1 (thenS Tryz.prog dd_snapshot_decodeAt_World.mkf (midD Tryz.prog dd_snapshot_decodeAt_World.fv (.fn (.func F_snapshot_decodeAt_World_f1) [] [.ptr 144 0 0 1, .ptr 112 0 0 1, .ptr 128 0 0 1]) dd_snapshot_decodeAt_World.tc (.ptr 144 0 0 1) evD e (assoc [(1, 224)]) (dO b at') (zC oZ_World oT_World) dd_snapshot_decodeAt_World.as4))) _
    simp only [dd_snapshot_decodeAt_World, go_sem]
    refine WdF_go ?_
    simp only [go_sem]
    refine WdF_go ?_
    simp only [go_sem]
    refine WdF_die ⟨rfl, f, [.ptr 224 0 0 1], [true], [.ptr 1 0 0 1], by simp only [go_sem], by simp only [go_sem], hc, ?_, ?_, ?_, ?_⟩ ⟨?_, ?_⟩
    · exact ⟨rfl, by intro i hi; simp only [AV.ids, List.mem_singleton] at hi; subst hi; rfl, rfl⟩
    · intro i o hi
      have hm1 := ofL_mem' (okO_dO b at').1 hi
      simp only [dO, List.mem_singleton, Prod.mk.injEq] at hm1
      obtain ⟨rfl, rfl⟩ := hm1
      simp only [go_sem]
    · exact fun i cs hi j hj => (okO_dO b at').2 _ (ofL_mem' (okO_dO b at').1 hi) cs rfl j hj
    · intro i j hi hj _
      obtain ⟨o, ho⟩ := ofL_mem hi
      obtain ⟨o', ho'⟩ := ofL_mem hj
      simp only [List.mem_singleton, Prod.mk.injEq] at ho ho'
      rw [ho.1, ho'.1]
    · intro i o hi
      have hm1 := ofL_mem' (okO_oZ_World).1 hi
      simp only [oZ_World, List.mem_cons, Prod.mk.injEq, List.not_mem_nil, or_false] at hm1
      rcases hm1 with ⟨rfl, rfl⟩ | ⟨rfl, rfl⟩ | ⟨rfl, rfl⟩
      · simp only [Api.World.zero, go_sem]
      · simp only [go_sem]
      · simp only [go_sem]
    · intro t av ht
      simp only [oT_World, envT] at ht
      (repeat' split at ht) <;> simp only [Option.some.injEq, Prod.mk.injEq, true_and, reduceCtorEq] at ht <;> subst ht <;> (rename_i e1; subst e1; simp only [go_sem])
end Go.Abs
end
section
namespace Go.Abs
open Go.Proofs
open Api
def NErr {α : Type} (p : Int → Except Int (α × Int)) : Prop := ∀ t e, p t = .error e → e ≠ 0
theorem nerr_int (b : List Int) : NErr (rInt b) := fun t e h => rInt_err h
theorem nerr_vec (b : List Int) : NErr (rVec b) := fun t e h => rVec_err h
theorem nerr_bool (b : List Int) : NErr (rBool b) := fun t e h => rBool_err h
theorem nerr_rN {α : Type} {p : Int → Except Int (α × Int)} (hp : NErr p) (t : Int) : ∀ n e, rN p t n = .error e → e ≠ 0
  | 0, e, h => by cases h
  | n + 1, e, h => by
    simp only [rN] at h
    split at h
    · rename_i hr; cases h; exact nerr_rN hp t n _ hr
    · split at h
      · rename_i hr; cases h; exact hp _ _ hr
      · cases h
theorem nerr_len (b : List Int) : NErr (rLen b) := by
  intro t e h
  unfold rLen at h
  split at h
  · rename_i hr; cases h; exact rInt_err hr
  · split at h
    · cases h; decide
    · split at h
      · cases h; decide
      · cases h
theorem nerr_sl {α : Type} {p : Int → Except Int (α × Int)} (hp : NErr p) (b : List Int) : NErr (rSl p b) := by
  intro t e h
  unfold rSl at h
  split at h
  · rename_i hr; cases h; exact nerr_len b _ _ hr
  · exact nerr_rN hp _ _ _ h
theorem nerr_RB {α β : Type} {r : Except Int (α × Int)} {f : α → Int → Except Int β} (hr : ∀ e, r = .error e → e ≠ 0) (hf : ∀ x t e, f x t = .error e → e ≠ 0) (e : Int) (h : RB r f = .error e) : e ≠ 0 := by
  cases r with
  | error e' => cases h; exact hr _ rfl
  | ok x => exact hf _ _ _ h
theorem nerr_Key (b : List Int) : NErr (rKey b) := by
  intro t e h
  exact nerr_RB (nerr_int b _) (fun _ _ => nerr_RB (nerr_int b _) (fun _ _ => nerr_RB (nerr_int b _) (fun _ _ => nerr_RB (nerr_int b _) (fun _ _ _ h => by cases h)))) e h
theorem nerr_ContactPoint (b : List Int) : NErr (rContactPoint b) := by
  intro t e h
  exact nerr_RB (nerr_vec b _) (fun _ _ => nerr_RB (nerr_int b _) (fun _ _ => nerr_RB (nerr_int b _) (fun _ _ => nerr_RB (nerr_int b _) (fun _ _ => nerr_RB (nerr_int b _) (fun _ _ _ h => by cases h))))) e h
theorem nerr_Contact (b : List Int) : NErr (rContact b) := by
  intro t e h
  exact nerr_RB (nerr_Key b _) (fun _ _ => nerr_RB (nerr_vec b _) (fun _ _ => nerr_RB (nerr_sl (nerr_ContactPoint b) b _) (fun _ _ _ h => by cases h))) e h
theorem nerr_Fixture (b : List Int) : NErr (rFixture b) := by
  intro t e h
  exact nerr_RB (nerr_int b _) (fun _ _ => nerr_RB (nerr_int b _) (fun _ _ => nerr_RB (nerr_sl (nerr_vec b) b _) (fun _ _ => nerr_RB (nerr_int b _) (fun _ _ => nerr_RB (nerr_int b _) (fun _ _ => nerr_RB (nerr_int b _) (fun _ _ => nerr_RB (nerr_bool b _) (fun _ _ => nerr_RB (nerr_int b _) (fun _ _ => nerr_RB (nerr_int b _) (fun _ _ => nerr_RB (nerr_int b _) (fun _ _ _ h => by cases h)))))))))) e h
theorem nerr_Body (b : List Int) : NErr (rBody b) := by
  intro t e h
  exact nerr_RB (nerr_int b _) (fun _ _ => nerr_RB (nerr_int b _) (fun _ _ => nerr_RB (nerr_vec b _) (fun _ _ => nerr_RB (nerr_int b _) (fun _ _ => nerr_RB (nerr_vec b _) (fun _ _ => nerr_RB (nerr_int b _) (fun _ _ => nerr_RB (nerr_vec b _) (fun _ _ => nerr_RB (nerr_int b _) (fun _ _ => nerr_RB (nerr_int b _) (fun _ _ => nerr_RB (nerr_int b _) (fun _ _ => nerr_RB (nerr_int b _) (fun _ _ => nerr_RB (nerr_bool b _) (fun _ _ => nerr_RB (nerr_bool b _) (fun _ _ => nerr_RB (nerr_bool b _) (fun _ _ => nerr_RB (nerr_bool b _) (fun _ _ => nerr_RB (nerr_int b _) (fun _ _ => nerr_RB (nerr_sl (nerr_Fixture b) b _) (fun _ _ _ h => by cases h))))))))))))))))) e h
theorem nerr_Joint (b : List Int) : NErr (rJoint b) := by
  intro t e h
  exact nerr_RB (nerr_int b _) (fun _ _ => nerr_RB (nerr_int b _) (fun _ _ => nerr_RB (nerr_int b _) (fun _ _ => nerr_RB (nerr_int b _) (fun _ _ => nerr_RB (nerr_vec b _) (fun _ _ => nerr_RB (nerr_vec b _) (fun _ _ => nerr_RB (nerr_vec b _) (fun _ _ => nerr_RB (nerr_int b _) (fun _ _ => nerr_RB (nerr_bool b _) (fun _ _ => nerr_RB (nerr_int b _) (fun _ _ => nerr_RB (nerr_int b _) (fun _ _ => nerr_RB (nerr_bool b _) (fun _ _ => nerr_RB (nerr_int b _) (fun _ _ => nerr_RB (nerr_int b _) (fun _ _ => nerr_RB (nerr_int b _) (fun _ _ => nerr_RB (nerr_int b _) (fun _ _ => nerr_RB (nerr_bool b _) (fun _ _ => nerr_RB (nerr_rN (nerr_int b) _ 4) (fun _ _ _ h => by cases h)))))))))))))))))) e h
theorem nerr_World (b : List Int) : NErr (rWorld b) := by
  intro t e h
  exact nerr_RB (nerr_int b _) (fun _ _ => nerr_RB (nerr_vec b _) (fun _ _ => nerr_RB (nerr_int b _) (fun _ _ => nerr_RB (nerr_int b _) (fun _ _ => nerr_RB (nerr_sl (nerr_Body b) b _) (fun _ _ => nerr_RB (nerr_sl (nerr_Joint b) b _) (fun _ _ => nerr_RB (nerr_sl (nerr_Contact b) b _) (fun _ _ => nerr_RB (nerr_sl (nerr_Key b) b _) (fun _ _ => nerr_RB (nerr_int b _) (fun _ _ => nerr_RB (nerr_int b _) (fun _ _ _ h => by cases h)))))))))) e h
theorem s_ReadContact (b : List Int) (at' : Int) (hb : b.length ≤ 549755813888) (hB : bytes b) : CallsA Tryz.prog F_snapshot_ReadContact [encD 1 encU8 0 b, .sc (.int .i64 at')] [] (.tup [.agg (t3d (rContact b at')).1.enc, .sc (.int .i64 (t3d (rContact b at')).2.1), .sc (.int .i64 (t3d (rContact b at')).2.2)]) [] := by
  refine enRT 13 [(4, some (some 7)), (5, none), (6, none)] hm shOk Tryz.func17 rfl ?_
  simp only [go_sem]
  refine CallGi_flat (s_decodeAt_Contact b at' F_snapshot_decoder_contact (rContact b) (fun t => s_dec_contact b t hb hB) (nerr_Contact b)) rfl ?_
  simp only [go_sem]
end Go.Abs
end
section
namespace Go.Abs
open Go.Proofs
open Api
def exC : Contact := { Key := ⟨1, 0, 2, 0⟩, Manifold := { Normal := ⟨0, 0⟩, Points := [] } }
def exL : List Int := [9, 1, 1, 0, 1, 2, 0, 0, 0, 0]
theorem exL_b : bytes exL := by unfold bytes exL; decide
theorem exC_bytes : ([9] : List Int) ++ ctcB exC = exL := by decide
theorem exC_read : rContact exL 1 = .ok (exC, 10) := by rfl
theorem s_law45_example : CallsA Tryz.prog F_law45_example [] [] (.sc (.bool true)) [] := by
  have h1 := s_AppendContact [9] exC (by decide) (by decide)
  have h2 := s_ReadContact exL 1 (by decide) exL_b
  rw [exC_bytes] at h1
  rw [exC_read] at h2
  refine en1 hm shOk Tryz.func7 rfl rfl ?_
  simp only [go_sem]
  refine CallGi_thaw h1 ?_
  simp only [argsC, go_sem]
  refine ⟨avle_lit2 (l := ([9] : List Int)) (fun _ _ => rfl) rfl rfl rfl, ⟨rfl, rfl, rfl, rfl, rfl, rfl, avle_nilD rfl⟩, ?_⟩
  refine CallGi_flat h2 rfl ?_
  have hl : exL.length = 10 := rfl
  have hs : strB { n := (7 - 0 : Int).toNat, g := fun i => [AV.sc (Value.int IntKind.u8 (exL.getD i 0))] } = ⟨#[9, 1, 1, 0, 1, 2, 0]⟩ := by rfl
  simp only [t3d, exC, hl, hs, Option.toList_some, Option.toList_none, Int.cast_ofNat_Int, Int.reduceLT, Int.reduceLE, List.nil_append, List.append_nil, beq_self_eq_true, go_sem]
  exact fun i _ => ⟨_, rfl⟩
end Go.Abs
end
section
namespace Go.Abs
open Go.Proofs
open Api
abbrev RS := Except Int Int
def qInt (b : List Int) : RS → Int × RS
  | .error e => (0, .error e)
  | .ok t => match rInt b t with
    | .error e => (0, .error e)
    | .ok x => (x.1, .ok x.2)
def qBool (b : List Int) : RS → Bool × RS
  | .error e => (false, .error e)
  | .ok t => match rBool b t with
    | .error e => (false, .error e)
    | .ok x => (x.1, .ok x.2)
def qVec (b : List Int) (s : RS) : Vec × RS := (⟨(qInt b s).1, (qInt b (qInt b s).2).1⟩, (qInt b (qInt b s).2).2)
def qInts (b : List Int) (s : RS) : Nat → List Int × RS
  | 0 => ([], s)
  | n + 1 => ((qInts b s n).1 ++ [(qInt b (qInts b s n).2).1], (qInt b (qInts b s n).2).2)
theorem qInts_len (b : List Int) (s : RS) : ∀ n, (qInts b s n).1.length = n
  | 0 => rfl
  | n + 1 => by simp [qInts, qInts_len b s n]
def qCount (b : List Int) (s : RS) : Int × RS := match (qInt b s).2 with
  | .error e => (0, .error e)
  | .ok t => if (qInt b s).1 < 0 then (0, .error 3) else if 8192 < (qInt b s).1 then (0, .error 5) else ((qInt b s).1, .ok t)
def qN {α : Type} (q : RS → α × RS) (s : RS) : Nat → List α × RS
  | 0 => ([], s)
  | n + 1 => match (qN q s n).2 with
    | .error e => ((qN q s n).1, .error e)
    | .ok t => ((qN q s n).1 ++ [(q (.ok t)).1], (q (.ok t)).2)
def qSl {α : Type} (q : RS → α × RS) (b : List Int) (s : RS) : List α × RS := qN q (qCount b s).2 (qCount b s).1.toNat
def Agr {α : Type} (q : RS → α × RS) (p : Int → Except Int (α × Int)) : Prop :=
  (∀ e, (q (.error e)).2 = .error e) ∧ (∀ t x, p t = .ok x → q (.ok t) = (x.1, .ok x.2)) ∧ ∀ t e, p t = .error e → (q (.ok t)).2 = .error e
theorem agr_int (b : List Int) : Agr (qInt b) (rInt b) :=
  ⟨fun _ => rfl, fun t x h => by simp only [qInt, h], fun t e h => by simp only [qInt, h]⟩
theorem agr_bool (b : List Int) : Agr (qBool b) (rBool b) :=
  ⟨fun _ => rfl, fun t x h => by simp only [qBool, h], fun t e h => by simp only [qBool, h]⟩
theorem agr_vec (b : List Int) : Agr (qVec b) (rVec b) := by
  refine ⟨fun _ => rfl, fun t x h => ?_, fun t e h => ?_⟩
  · unfold rVec at h
    split at h
    · cases h
    · rename_i x0 t0 h0
      split at h
      · cases h
      · rename_i x1 t1 h1
        cases h
        simp only [qVec, (agr_int b).2.1 _ _ h0, (agr_int b).2.1 _ _ h1]
  · unfold rVec at h
    split at h
    · rename_i e0 h0
      cases h
      show (qInt b (qInt b (.ok t)).2).2 = _
      rw [(agr_int b).2.2 _ _ h0]; rfl
    · rename_i x0 t0 h0
      split at h
      · rename_i e1 h1
        cases h
        simp only [qVec, (agr_int b).2.1 _ _ h0, (agr_int b).2.2 _ _ h1]
      · cases h
theorem qN_err {α : Type} (q : RS → α × RS) (e : Int) : ∀ n, qN q (.error e) n = ([], .error e)
  | 0 => rfl
  | n + 1 => by simp only [qN, qN_err q e n]
theorem agr_N {α : Type} {q : RS → α × RS} {p : Int → Except Int (α × Int)} (h : Agr q p) (t : Int) : ∀ n, (∀ x, rN p t n = .ok x → qN q (.ok t) n = (x.1, .ok x.2)) ∧ ∀ e, rN p t n = .error e → (qN q (.ok t) n).2 = .error e
  | 0 => ⟨fun x hx => by cases hx; rfl, fun e he => by cases he⟩
  | n + 1 => by
    obtain ⟨i1, i2⟩ := agr_N h t n
    refine ⟨fun x hx => ?_, fun e he => ?_⟩
    · simp only [rN] at hx
      split at hx
      · cases hx
      · rename_i y hy
        split at hx
        · cases hx
        · rename_i z hz
          cases hx
          simp only [qN, i1 _ hy, h.2.1 _ _ hz]
    · simp only [rN] at he
      split at he
      · rename_i e1 hy
        cases he
        simp only [qN, i2 _ hy]
      · rename_i y hy
        split at he
        · rename_i e1 hz
          cases he
          simp only [qN, i1 _ hy, h.2.2 _ _ hz]
        · cases he
theorem agr_count (b : List Int) : Agr (qCount b) (rLen b) := by
  refine ⟨fun _ => rfl, fun t x h => ?_, fun t e h => ?_⟩
  · obtain ⟨h1, h2, h3⟩ := rLen_ok h
    simp only [qCount, (agr_int b).2.1 _ _ h3]
    rw [if_neg (by omega), if_neg (by omega)]
  · unfold rLen at h
    split at h
    · rename_i e0 h0
      cases h
      simp only [qCount, (agr_int b).2.2 _ _ h0]
    · rename_i x h0
      simp only [qCount, (agr_int b).2.1 _ _ h0]
      split at h
      · rename_i h1
        cases h
        rw [if_pos h1]
      · rename_i h1
        split at h
        · rename_i h2
          cases h
          rw [if_neg h1, if_pos h2]
        · cases h
theorem agr_Sl {α : Type} {q : RS → α × RS} {p : Int → Except Int (α × Int)} (h : Agr q p) (b : List Int) : Agr (qSl q b) (rSl p b) := by
  refine ⟨fun e => ?_, fun t x hx => ?_, fun t e he => ?_⟩
  · have : qCount b (.error e) = (0, .error e) := rfl
    simp only [qSl, this, qN_err]
  · unfold rSl at hx
    split at hx
    · cases hx
    · rename_i y hy
      simp only [qSl, (agr_count b).2.1 _ _ hy]
      exact (agr_N h _ _).1 _ hx
  · unfold rSl at he
    split at he
    · rename_i e0 hy
      cases he
      simp only [qSl, (agr_count b).2.2 _ _ hy, qN_err]
    · rename_i y hy
      simp only [qSl, (agr_count b).2.1 _ _ hy]
      exact (agr_N h _ _).2 _ he
theorem agr_ints (b : List Int) : ∀ n, Agr (fun s => qInts b s n) (fun t => rN (rInt b) t n)
  | 0 => ⟨fun _ => rfl, fun t x h => by cases h; rfl, fun t e h => by cases h⟩
  | n + 1 => by
    obtain ⟨i0, i1, i2⟩ := agr_ints b n
    refine ⟨fun e => ?_, fun t x hx => ?_, fun t e he => ?_⟩
    · simp only [qInts, i0]; rfl
    · simp only [rN] at hx
      split at hx
      · cases hx
      · rename_i y hy
        split at hx
        · cases hx
        · rename_i z hz
          cases hx
          have := i1 _ _ hy
          simp only [qInts, this, (agr_int b).2.1 _ _ hz]
    · simp only [rN] at he
      split at he
      · rename_i e1 hy
        cases he
        have := i2 _ _ hy
        simp only [qInts, this]; rfl
      · rename_i y hy
        split at he
        · rename_i e1 hz
          cases he
          have := i1 _ _ hy
          simp only [qInts, this, (agr_int b).2.2 _ _ hz]
        · cases he
def q3 {α : Type} [Inhabited α] (r : α × RS) : α × Int × Int := match r.2 with | .ok t => (r.1, t, 0) | .error e => (default, 0, e)
end Go.Abs
end
