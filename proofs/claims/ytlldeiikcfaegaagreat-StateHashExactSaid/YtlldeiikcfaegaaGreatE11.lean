/- A part of the walk: contracts of functions that the statement reaches. -/
import Derived.Test.YtlldeiikcfaegaaGreatAbsC
import Derived.Test.YtlldeiikcfaegaaGreatE10
import Derived.Test.YtlldeiikcfaegaaGreatU4
set_option linter.unusedSimpArgs false
set_option linter.unusedVariables false
set_option linter.unnecessarySimpa false
set_option maxRecDepth 100000
set_option maxHeartbeats 2000000
set_option linter.unusedSimpArgs false
set_option linter.unusedVariables false
namespace Go.Abs
open Go.Proofs
open Api
theorem ints1 (a : Int) : intsB [a] = intB a := by simp [intsB]
theorem c32_x2 (d : BitVec 32) : IntKind.u32.wrap (((BitVec.ofInt 32 (IntKind.u32.wrap ((d.toNat : Int).tdiv 2))) ^^^ BitVec.ofInt 32 2197175160).toNat : Int) = (d >>> 1 ^^^ BitVec.ofInt 32 2197175160).toNat := by
  rw [c32_half, c32_ofInt, c32_toNat]
theorem c32_fin (d : BitVec 32) : IntKind.u32.wrap (((BitVec.ofInt 32 (d.toNat : Int)) ^^^ BitVec.ofInt 32 4294967295).toNat : Int) = (d ^^^ BitVec.ofInt 32 4294967295).toNat := by
  rw [c32_ofInt, c32_toNat]
theorem s_r09_CRC32C (l : List Int) (hl : l.length ≤ 1000000000) : CallsA Tryz.prog F_r09_CRC32C [encD 1 encU8 0 l] [] (.sc (.int .u32 (crcF l).toNat)) [] := by
  refine callsI_of (rs := [_]) hm Tryz.func82 (by kernel_rfl) (by kernel_rfl) is_r09_CRC32C (by kernel_rfl : tmpsOf Tryz.f82.results.toList = some [2]) (by decide) (by kernel_rfl) ?_
  simp only [c_r09_CRC32C, go_sem]
  refine Wpi_loop hm (ι := {i : Nat // i ≤ l.length}) (fun i => [(0, .share, encD 1 encU8 0 l), (3, .share, .sc (.int .u32 (crcL (l.take i.1)).toNat)), (4, .share, .sc (.int .i64 i.1))])
    (fun _ => []) (fun i => l.length - i.1) ⟨0, by omega⟩ ?_ ?_
  · refine weakE_ [] [] ?_
    simp only [go_sem]
    decide
  · rintro ⟨i, hi⟩
    simp only [c_r09_CRC32Cb1, go_sem]
    by_cases hlt : i < l.length
    · rw [if_pos (by omega)]
      have hs := crcL_snoc hlt
      generalize crcL (l.take i) = d at *
      refine ⟨ok_, ?_⟩
      have hX : crcX d (l.getD i 0) = crcK (d ^^^ BitVec.ofInt 32 (l.getD i 0)) 8 := rfl
      have hx := c32_xor d (l.getD i 0)
      obtain ⟨e, he⟩ : ∃ e, d ^^^ BitVec.ofInt 32 (l.getD i 0) = e := ⟨_, rfl⟩
      rw [he] at hX hx
      refine Wpi_loop hm (ι := {k : Nat // k ≤ 8}) (fun k => [(0, .share, encD 1 encU8 0 l), (3, .share, .sc (.int .u32 (crcK e k.1).toNat)), (4, .share, .sc (.int .i64 i)), (5, .share, .sc (.int .i64 k.1))])
        (fun _ => []) (fun k => 8 - k.1) ⟨0, by omega⟩ ?_ ?_
      · refine weakE_ [] [] ?_
        simp only [go_sem]
        exact hx
      · rintro ⟨k, hk⟩
        have hS : crcK e (k + 1) = crcS (crcK e k) := rfl
        simp only [c_r09_CRC32Cb0, go_sem]
        by_cases hkl : k < 8
        · rw [if_pos (by omega)]
          generalize crcK e k = d at *
          refine ⟨by decide, by decide, ?_⟩
          rw [c32_odd]
          by_cases ho : d.toNat % 2 = 1
          · have hS2 : crcS d = (d >>> 1) ^^^ BitVec.ofInt 32 2197175160 := if_pos ho
            rw [if_pos (by rw [ho]; rfl)]
            refine loop_next ⟨k + 1, by omega⟩ (by show 8 - (k + 1) < 8 - k; omega) (weakE_ [] [] ?_)
            simp only [hS, hS2, go_sem]
            exact ⟨c32_x2 d, (by rw [IntKind.wrap_i64]; omega)⟩
          · have hS2 : crcS d = d >>> 1 := if_neg ho
            rw [if_neg (by rw [beq_iff_eq]; omega)]
            refine loop_next ⟨k + 1, by omega⟩ (by show 8 - (k + 1) < 8 - k; omega) (weakE_ [] [] ?_)
            simp only [hS, hS2, go_sem]
            exact ⟨c32_half d, (by rw [IntKind.wrap_i64]; omega)⟩
        · rw [if_neg (by omega)]
          obtain rfl : k = 8 := by omega
          refine loop_next ⟨i + 1, by omega⟩ (by show l.length - (i + 1) < l.length - i; omega) (weakE_ [] [] ?_)
          simp only [hs, hX, go_sem]
          exact (by rw [IntKind.wrap_i64]; omega)
    · rw [if_neg (by omega)]
      obtain rfl : i = l.length := by omega
      simp only [List.take_length, go_sem]
      exact c32_fin (crcL l)
def byK (c k : Nat) : Int := ((c / 256 ^ k % 256 : Nat) : Int)
theorem crcBytes_snoc (c k : Nat) (h : k < 4) : (crcBytes c).take (k + 1) = (crcBytes c).take k ++ [byK c k] := by
  match k, h with
  | 0, _ => simp [crcBytes, byK]
  | 1, _ => simp [crcBytes, byK]
  | 2, _ => simp [crcBytes, byK]
  | 3, _ => simp [crcBytes, byK]
theorem quo32 (u : Nat) (h : u < 4294967296) : IntKind.u32.wrap ((u : Int).tdiv 256) = ((u / 256 : Nat) : Int) := by
  rw [Int.tdiv_eq_ediv_of_nonneg (by omega), IntKind.wrap_u32]; omega
theorem s_r09_Seal (l : List Int) (hl : l.length ≤ 1000000000) : CallsA Tryz.prog F_r09_Seal [encD 1 encU8 0 l] [] (encD 1 encU8 0 (sealB l)) [] := by
  refine callsI_of (rs := [_]) hm Tryz.func29 (by kernel_rfl) (by kernel_rfl) is_r09_Seal (by kernel_rfl : tmpsOf Tryz.f29.results.toList = some [2]) (by decide) (by kernel_rfl) ?_
  simp only [c_r09_Seal, go_sem]
  refine ⟨⟨by omega, (by simp only [maxLen]; omega)⟩, ?_⟩
  refine CallGi_flat (s_r09_CRC32C l hl) rfl ?_
  simp only [go_sem]
  have hsl : sealB l = l ++ crcBytes (crcF l).toNat := rfl
  have hc4 : (crcBytes (crcF l).toNat).length = 4 := rfl
  have hclt := (crcF l).isLt
  generalize (crcF l).toNat = c at *
  refine Wpi_loop hm (ι := {k : Nat // k ≤ 4}) (fun k => [(3, .share, .sl 1 0 (l ++ (crcBytes c).take k.1).length (l ++ (crcBytes c).take k.1).length), (4, .share, .sc (.int .u32 ((c / 256 ^ k.1 : Nat) : Int))), (5, .share, .sc (.int .i64 k.1))])
    (fun k => [(1, .arr 1 (encQ encU8 0 (l ++ (crcBytes c).take k.1)))]) (fun k => 4 - k.1) ⟨0, by omega⟩ ?_ ?_
  · refine weakE_ [(1, 112)] [] ?_
    simp only [List.take_zero, List.append_nil, Nat.pow_zero, Nat.div_one, go_sem]
  · rintro ⟨k, hk⟩
    simp only [c_r09_Sealb0, go_sem]
    by_cases hkl : k < 4
    · rw [if_pos (by omega)]
      have hsn := crcBytes_snoc c k hkl
      have hbk : byK c k = ((c / 256 ^ k % 256 : Nat) : Int) := rfl
      have hpw : c / 256 ^ (k + 1) = c / 256 ^ k / 256 := by rw [Nat.pow_succ, Nat.div_div_eq_div_mul]
      have hu : c / 256 ^ k < 4294967296 := Nat.lt_of_le_of_lt (Nat.div_le_self _ _) hclt
      have hl2 : (l ++ (crcBytes c).take k).length ≤ 1000000004 := by rw [List.length_append, List.length_take]; omega
      refine ⟨by decide, ⟨by omega, (by simp only [maxLen]; omega)⟩, by decide, ?_⟩
      refine loop_next ⟨k + 1, by omega⟩ (by show 4 - (k + 1) < 4 - k; omega) (weakE_ [] [] ?_)
      have hap : l ++ (crcBytes c).take (k + 1) = (l ++ (crcBytes c).take k) ++ [byK c k] := by rw [hsn, List.append_assoc]
      simp only [hap, hpw, go_sem]
      generalize c / 256 ^ k = u at *
      rw [rem256 u, ← hbk]
      refine ⟨by simp only [List.length_append, List.length_singleton]; omega, quo32 u hu, (by rw [IntKind.wrap_i64]; omega), q_app1 (byK c k) rfl (List.append_assoc _ _ _).symm⟩
    · rw [if_neg (by omega)]
      obtain rfl : k = 4 := by omega
      have h4 : (crcBytes c).take 4 = crcBytes c := rfl
      rw [h4, ← hsl]
      exact avle_refl _
theorem s_r45_appendWorld (w : Api.World) (hw : Wsm w) (hf : Wfew w) : CallsA Tryz.prog F_r45_appendWorld [.agg w.enc] [] (encD 1 encU8 0 (encW w)) [] := by
  have m0 := encH_len w
  have m1 := enc1_len hf
  have m2 := enc2_len hf
  have m3 := enc3_len hf
  have m4 := encW_len hf
  have h1 := intB_len w.Settings.TimeStep
  have h2 := vecB_len w.Settings.Gravity
  obtain ⟨f1, f2, f3, f4, f5, f6⟩ := hf
  refine callsI_of (rs := [_]) hm Tryz.func86 (by kernel_rfl) (by kernel_rfl) is_r45_appendWorld (by kernel_rfl : tmpsOf Tryz.f86.results.toList = some [2]) (by decide) (by kernel_rfl) ?_
  simp only [c_r45_appendWorld, go_sem]
  refine CallGi_thaw (s_r07_AppendInt [] w.Settings.TimeStep (by simp)) ?_
  simp only [argsC, go_sem]
  refine ⟨avle_nilD rfl, ?_⟩
  refine CallGi_flat (s_r07_AppendVec (intB w.Settings.TimeStep) w.Settings.Gravity (by omega)) rfl ?_
  simp only [go_sem]
  refine CallGi_thaw (s_r45_appendInts (intB w.Settings.TimeStep ++ vecB w.Settings.Gravity) [w.Settings.Iterations, w.Settings.SleepSteps, (w.Bodies.length : Int)] (by simp only [List.length_append, List.length_cons, List.length_nil]; omega)) ?_
  simp only [argsC, go_sem]
  refine ⟨avle_lit2 (l := [w.Settings.Iterations, w.Settings.SleepSteps, (w.Bodies.length : Int)]) (fun _ _ => rfl) rfl rfl rfl, ?_⟩
  have eH : intB w.Settings.TimeStep ++ (vecB w.Settings.Gravity ++ intsB [w.Settings.Iterations, w.Settings.SleepSteps, (w.Bodies.length : Int)]) = encH w := by unfold encH; rw [ints1, vecs1, List.append_assoc]
  refine Wpi_loop hm (ι := {i : Nat // i ≤ w.Bodies.length}) (fun i => [(1, .share, .ptr 32 0 0 1), (3, .share, encD 1 encU8 0 (encH w ++ (w.Bodies.take i.1).flatMap bodB)), (4, .share, .sc (.int .i64 i.1))])
    (fun i => [(32, .box w.enc)]) (fun i => w.Bodies.length - i.1) ⟨0, by omega⟩ ?_ ?_
  · refine weakE_ [] [] ?_
    simp only [List.take_zero, List.flatMap_nil, List.append_nil, eH, go_sem]
    try trivial
  · rintro ⟨i, hi⟩
    simp only [c_r45_appendWorldb0, go_sem]
    have hl := fm_lenP (f := bodB) (c := 4300) (l := w.Bodies.take i) (fun b hb => bodB_len (f2 b (List.mem_of_mem_take hb)))
    rw [List.length_take] at hl
    by_cases hlt : i < w.Bodies.length
    · rw [if_pos (by omega)]
      have hs := fm_snoc (f := bodB) (l := w.Bodies) default hlt
      refine ⟨ok_, ?_⟩
      refine CallGi_flat (s_r45_AppendBody (encH w ++ (w.Bodies.take i).flatMap bodB) (w.Bodies.getD i default) (by simp only [List.length_append]; omega) (f2 _ (mem_getD default hlt))) rfl ?_
      simp only [go_sem]
      refine loop_next ⟨i + 1, by omega⟩ (by show w.Bodies.length - (i + 1) < w.Bodies.length - i; omega) (weakE_ [] [] ?_)
      simp only [hs, go_sem]
      exact (by rw [IntKind.wrap_i64]; omega)
    · rw [if_neg (by omega)]
      obtain rfl : i = w.Bodies.length := by omega
      rw [List.take_length] at hl
      have e1 : encH w ++ (w.Bodies.flatMap bodB ++ intsB [(w.Joints.length : Int)]) = enc1 w := by unfold enc1; rw [List.append_assoc]
      simp only [List.take_length, go_sem]
      refine CallGi_thaw (s_r45_appendInts (encH w ++ w.Bodies.flatMap bodB) [(w.Joints.length : Int)] (by simp only [List.length_append, List.length_cons, List.length_nil]; omega)) ?_
      simp only [argsC, go_sem]
      refine ⟨avle_lit2 (l := [(w.Joints.length : Int)]) (fun _ _ => rfl) rfl rfl rfl, ?_⟩
      refine Wpi_loop hm (ι := {i : Nat // i ≤ w.Joints.length}) (fun i => [(1, .share, .ptr 32 0 0 1), (3, .share, encD 1 encU8 0 (enc1 w ++ (w.Joints.take i.1).flatMap jntB)), (5, .share, .sc (.int .i64 i.1))])
        (fun i => [(32, .box w.enc)]) (fun i => w.Joints.length - i.1) ⟨0, by omega⟩ ?_ ?_
      · refine weakE_ [] [] ?_
        simp only [List.take_zero, List.flatMap_nil, List.append_nil, e1, go_sem]
        try trivial
      · rintro ⟨i, hi⟩
        simp only [c_r45_appendWorldb1, go_sem]
        have hl := fm_lenP (f := jntB) (c := 300) (l := w.Joints.take i) (fun b _ => jntB_len b)
        rw [List.length_take] at hl
        by_cases hlt : i < w.Joints.length
        · rw [if_pos (by omega)]
          have hs := fm_snoc (f := jntB) (l := w.Joints) default hlt
          refine ⟨ok_, ?_⟩
          refine CallGi_flat (s_r45_AppendJoint (enc1 w ++ (w.Joints.take i).flatMap jntB) (w.Joints.getD i default) (by simp only [List.length_append]; omega) ) rfl ?_
          simp only [go_sem]
          refine loop_next ⟨i + 1, by omega⟩ (by show w.Joints.length - (i + 1) < w.Joints.length - i; omega) (weakE_ [] [] ?_)
          simp only [hs, go_sem]
          exact (by rw [IntKind.wrap_i64]; omega)
        · rw [if_neg (by omega)]
          obtain rfl : i = w.Joints.length := by omega
          rw [List.take_length] at hl
          have e2 : enc1 w ++ (w.Joints.flatMap jntB ++ intsB [(w.Contacts.length : Int)]) = enc2 w := by unfold enc2; rw [List.append_assoc]
          simp only [List.take_length, go_sem]
          refine CallGi_thaw (s_r45_appendInts (enc1 w ++ w.Joints.flatMap jntB) [(w.Contacts.length : Int)] (by simp only [List.length_append, List.length_cons, List.length_nil]; omega)) ?_
          simp only [argsC, go_sem]
          refine ⟨avle_lit2 (l := [(w.Contacts.length : Int)]) (fun _ _ => rfl) rfl rfl rfl, ?_⟩
          refine Wpi_loop hm (ι := {i : Nat // i ≤ w.Contacts.length}) (fun i => [(1, .share, .ptr 32 0 0 1), (3, .share, encD 1 encU8 0 (enc2 w ++ (w.Contacts.take i.1).flatMap ctcB)), (6, .share, .sc (.int .i64 i.1))])
            (fun i => [(32, .box w.enc)]) (fun i => w.Contacts.length - i.1) ⟨0, by omega⟩ ?_ ?_
          · refine weakE_ [] [] ?_
            simp only [List.take_zero, List.flatMap_nil, List.append_nil, e2, go_sem]
            try trivial
          · rintro ⟨i, hi⟩
            simp only [c_r45_appendWorldb2, go_sem]
            have hl := fm_lenP (f := ctcB) (c := 600) (l := w.Contacts.take i) (fun c hc => ctc_few ⟨f1, f2, f3, f4, f5, f6⟩ c (List.mem_of_mem_take hc))
            rw [List.length_take] at hl
            by_cases hlt : i < w.Contacts.length
            · rw [if_pos (by omega)]
              have hs := fm_snoc (f := ctcB) (l := w.Contacts) default hlt
              refine ⟨ok_, ?_⟩
              refine CallGi_flat (s_r45_AppendContact (enc2 w ++ (w.Contacts.take i).flatMap ctcB) (w.Contacts.getD i default) (by simp only [List.length_append]; omega) (by have := f5 _ (mem_getD default hlt); omega)) rfl ?_
              simp only [go_sem]
              refine loop_next ⟨i + 1, by omega⟩ (by show w.Contacts.length - (i + 1) < w.Contacts.length - i; omega) (weakE_ [] [] ?_)
              simp only [hs, go_sem]
              exact (by rw [IntKind.wrap_i64]; omega)
            · rw [if_neg (by omega)]
              obtain rfl : i = w.Contacts.length := by omega
              rw [List.take_length] at hl
              have e3 : enc2 w ++ (w.Contacts.flatMap ctcB ++ intsB [(w.Overlaps.length : Int)]) = enc3 w := by unfold enc3; rw [List.append_assoc]
              simp only [List.take_length, go_sem]
              refine CallGi_thaw (s_r45_appendInts (enc2 w ++ w.Contacts.flatMap ctcB) [(w.Overlaps.length : Int)] (by simp only [List.length_append, List.length_cons, List.length_nil]; omega)) ?_
              simp only [argsC, go_sem]
              refine ⟨avle_lit2 (l := [(w.Overlaps.length : Int)]) (fun _ _ => rfl) rfl rfl rfl, ?_⟩
              refine Wpi_loop hm (ι := {i : Nat // i ≤ w.Overlaps.length}) (fun i => [(1, .share, .ptr 32 0 0 1), (3, .share, encD 1 encU8 0 (enc3 w ++ (w.Overlaps.take i.1).flatMap keyB)), (7, .share, .sc (.int .i64 i.1))])
                (fun i => [(32, .box w.enc)]) (fun i => w.Overlaps.length - i.1) ⟨0, by omega⟩ ?_ ?_
              · refine weakE_ [] [] ?_
                simp only [List.take_zero, List.flatMap_nil, List.append_nil, e3, go_sem]
                try trivial
              · rintro ⟨i, hi⟩
                simp only [c_r45_appendWorldb3, go_sem]
                have hl := fm_lenP (f := keyB) (c := 40) (l := w.Overlaps.take i) (fun b _ => keyB_len b)
                rw [List.length_take] at hl
                by_cases hlt : i < w.Overlaps.length
                · rw [if_pos (by omega)]
                  have hs := fm_snoc (f := keyB) (l := w.Overlaps) default hlt
                  refine ⟨ok_, ?_⟩
                  refine CallGi_flat (s_r45_appendKey (enc3 w ++ (w.Overlaps.take i).flatMap keyB) (w.Overlaps.getD i default) (by simp only [List.length_append]; omega) ) rfl ?_
                  simp only [go_sem]
                  refine loop_next ⟨i + 1, by omega⟩ (by show w.Overlaps.length - (i + 1) < w.Overlaps.length - i; omega) (weakE_ [] [] ?_)
                  simp only [hs, go_sem]
                  exact (by rw [IntKind.wrap_i64]; omega)
                · rw [if_neg (by omega)]
                  obtain rfl : i = w.Overlaps.length := by omega
                  rw [List.take_length] at hl
                  have e4 : enc3 w ++ (w.Overlaps.flatMap keyB ++ intsB [w.NextID, w.Frame]) = encW w := by unfold encW; rw [List.append_assoc]
                  simp only [List.take_length, go_sem]
                  refine CallGi_thaw (s_r45_appendInts (enc3 w ++ w.Overlaps.flatMap keyB) [w.NextID, w.Frame] (by simp only [List.length_append, List.length_cons, List.length_nil]; omega)) ?_
                  simp only [argsC, go_sem]
                  refine ⟨avle_lit2 (l := [w.NextID, w.Frame]) (fun _ _ => rfl) rfl rfl rfl, ?_⟩
                  simp only [e4, go_sem]

end Go.Abs
