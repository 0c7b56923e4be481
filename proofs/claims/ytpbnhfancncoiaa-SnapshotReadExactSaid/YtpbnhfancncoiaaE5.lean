/- A part of the walk: contracts of functions that the statement reaches. -/
import Derived.Test.YtpbnhfancncoiaaAbsD
import Derived.Test.YtpbnhfancncoiaaE4
set_option linter.unusedSimpArgs false
set_option linter.unusedVariables false
set_option linter.unnecessarySimpa false
set_option maxRecDepth 100000
set_option maxHeartbeats 2000000
set_option linter.unusedSimpArgs false
set_option linter.unusedVariables false
namespace Go.Abs
open Go.Proofs
open Api
def encB1 (x : Bool) : List AV := [.sc (.bool x)]
def eO (b : List Int) : List (Nat × AObj) := [(1, .box [encD 1 encU8 0 b])]
attribute [go_sem] encB1 eO
theorem okO_eO (b : List Int) : okO (eO b) := by
  refine ⟨by simp [go_sem], ?_⟩
  simp [go_sem, idsL, AV.ids]

theorem s_enc_ints (b : List Int) (l : List Int) (hb : b.length + 10 * l.length ≤ 400000000000) : CallsA Try.prog F_snapshot_encoder_ints [.ptr 1 0 0 1, encD 1 encInt 0 l] (eO b) (.tup []) (eO (b ++ intsB l)) := by
  refine callsIO_of (rs := []) hm Try.func41 (by kernel_rfl) (by kernel_rfl) is_snapshot_encoder_ints (by kernel_rfl : tmpsOf Try.f41.results.toList = some []) (by decide) (by kernel_rfl) ?_
  simp only [c_snapshot_encoder_ints, go_sem]
  refine Wpi_loop hm (ι := {i : Nat // i ≤ l.length}) (fun i => [(0, .share, .ptr 1 0 0 1), (6, .share, encD 1 encInt 0 l), (7, .share, .sc (.int .i64 l.length)), (8, .share, .sc (.int .i64 i.1))])
    (fun i => eO (b ++ (l.take i.1).flatMap intB)) (fun i => l.length - i.1) ⟨0, by omega⟩ ?_ ?_
  · refine weakE_ [] [] ?_
    simp only [List.take_zero, List.flatMap_nil, List.append_nil, go_sem]
    try rfl
  · rintro ⟨i, hi⟩
    simp only [c_snapshot_encoder_intsb0, go_sem]
    by_cases hlt : i < l.length
    · rw [if_pos (by omega)]
      have hl := fm_len (f := intB) intB_len (l.take i)
      rw [List.length_take] at hl
      have hs := fm_snoc (f := intB) (l := l) 0 hlt
      refine ⟨ok_, ?_⟩
      refine CallGi_flat (s_codec_AppendInt (b ++ (l.take i).flatMap intB) (l.getD i 0) (by rw [List.length_append]; omega)) rfl ?_
      simp only [go_sem]
      refine loop_next ⟨i + 1, by omega⟩ (by show l.length - (i + 1) < l.length - i; omega) (weakE_ [] [] ?_)
      simp only [hs, go_sem]
      exact (by rw [IntKind.wrap_i64]; omega)
    · rw [if_neg (by omega)]
      obtain rfl : i = l.length := by omega
      refine retW_of [] [] [] rfl rfl (by simp [go_sem]) (by simp [assoc, go_sem]) (by simp [go_sem]) ?_
      simp only [List.take_length, intsB, go_sem]

theorem s_enc_vecs (b : List Int) (l : List Vec) (hb : b.length + 20 * l.length ≤ 400000000000) : CallsA Try.prog F_snapshot_encoder_vecs [.ptr 1 0 0 1, encD 2 Vec.enc default l] (eO b) (.tup []) (eO (b ++ vecsB l)) := by
  refine callsIO_of (rs := []) hm Try.func42 (by kernel_rfl) (by kernel_rfl) is_snapshot_encoder_vecs (by kernel_rfl : tmpsOf Try.f42.results.toList = some []) (by decide) (by kernel_rfl) ?_
  simp only [c_snapshot_encoder_vecs, go_sem]
  refine Wpi_loop hm (ι := {i : Nat // i ≤ l.length}) (fun i => [(0, .share, .ptr 1 0 0 1), (6, .share, encD 2 Vec.enc default l), (7, .share, .sc (.int .i64 l.length)), (8, .share, .sc (.int .i64 i.1))])
    (fun i => eO (b ++ (l.take i.1).flatMap vecB)) (fun i => l.length - i.1) ⟨0, by omega⟩ ?_ ?_
  · refine weakE_ [] [] ?_
    simp only [List.take_zero, List.flatMap_nil, List.append_nil, go_sem]
    try rfl
  · rintro ⟨i, hi⟩
    simp only [c_snapshot_encoder_vecsb0, go_sem]
    by_cases hlt : i < l.length
    · rw [if_pos (by omega)]
      have hl := fm_len (f := vecB) vecB_len (l.take i)
      rw [List.length_take] at hl
      have hs := fm_snoc (f := vecB) (l := l) default hlt
      refine ⟨ok_, ?_⟩
      refine CallGi_flat (s_codec_AppendVec (b ++ (l.take i).flatMap vecB) (l.getD i default) (by rw [List.length_append]; omega)) rfl ?_
      simp only [go_sem]
      refine loop_next ⟨i + 1, by omega⟩ (by show l.length - (i + 1) < l.length - i; omega) (weakE_ [] [] ?_)
      simp only [hs, go_sem]
      exact (by rw [IntKind.wrap_i64]; omega)
    · rw [if_neg (by omega)]
      obtain rfl : i = l.length := by omega
      refine retW_of [] [] [] rfl rfl (by simp [go_sem]) (by simp [assoc, go_sem]) (by simp [go_sem]) ?_
      simp only [List.take_length, vecsB, go_sem]

end Go.Abs
