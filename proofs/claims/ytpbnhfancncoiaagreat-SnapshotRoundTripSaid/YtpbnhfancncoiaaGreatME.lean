/- A part of the proof: contracts of functions that the statement reaches. -/
import Derived.Test.YtpbnhfancncoiaaGreatLD
import Derived.KernelRfl
import Derived.Eval
import Derived.Test.YtpbnhfancncoiaaGreatChecked
set_option linter.unusedSimpArgs false
set_option linter.unusedVariables false
set_option linter.unnecessarySimpa false
set_option maxRecDepth 100000
set_option maxHeartbeats 2000000
section
namespace Go.Abs
open Go.Proofs
abbrev zD1_0 : List Value := [(.int .i64 0), (.int .i64 0), (.int .i64 0), (.int .i64 0), (.int .i64 0), (.slice none 0 0), (.slice none 0 0), (.slice none 0 0), (.slice none 0 0), (.int .i64 0), (.int .i64 0)]
abbrev zD1_1 : List Value := [(.int .i64 0), (.int .i64 0), (.int .i64 0), (.int .i64 0), (.int .i64 0), (.int .i64 0), (.slice none 0 0)]
attribute [go_sem] zD1_0 zD1_1
theorem hm : Tryz.prog.follows .mixedOrders = true := Tryz.checked.mixed
def shL : List (Nat × List Bool) := [(22, [true, true]), (23, [true, true]), (24, [true, true, true, true, true]), (25, [true, true, true, true, true]), (52, [true, true, true]), (53, [true, true, true]), (65, [true, true, true, true]), (66, [true, true, true, true]), (81, [true, true, true, true]), (82, [true, true, true, true, true, true, true, true, true, true, true, false, true, true, false, true, true, true, true, false, true, true, true, true]), (83, [true, true, true, true, true, true, true, true, true, true, true, false, true, true, false, true, true, true, true, false, true, true, true, true]), (116, [true, true, true, true, true, true]), (117, [true, true, true, true, true, true]), (244, [true, true, true, true, true]), (245, [true, true, true, true, true])]
theorem shOk : okE Tryz.prog shL = true := by kernel_rfl
abbrev F_law45_SnapshotRoundTrip : Nat := 3
abbrev F_r27_IsSmall : Nat := 6
abbrev F_law45_example : Nat := 7
abbrev F_snapshot_Encode : Nat := 8
abbrev F_world_Validate : Nat := 9
abbrev F_snapshot_Decode : Nat := 10
abbrev F_r25_Equal : Nat := 11
abbrev F_r27_FewPoints : Nat := 15
abbrev F_snapshot_AppendContact : Nat := 16
abbrev F_snapshot_ReadContact : Nat := 17
abbrev F_snapshot_encoder_ints : Nat := 18
abbrev F_snapshot_encoder_vecs : Nat := 19
abbrev F_snapshot_encoder_body : Nat := 20
abbrev F_snapshot_encoder_joint : Nat := 21
abbrev F_snapshot_encoder_contact : Nat := 22
abbrev F_snapshot_encoder_key : Nat := 23
abbrev F_checksum_Seal : Nat := 24
abbrev F_world_ValidateSettings : Nat := 25
abbrev F_world_in : Nat := 26
abbrev F_world_validBodies : Nat := 27
abbrev F_world_validJoints : Nat := 28
abbrev F_world_validContacts : Nat := 29
abbrev F_checksum_Open : Nat := 30
abbrev F_snapshot_decodeAt_World : Nat := 31
abbrev F_snapshot_decoder_world : Nat := 32
abbrev F_r22_Keys : Nat := 33
abbrev F_r23_Equal : Nat := 34
abbrev F_r16_Equal : Nat := 35
abbrev F_snapshot_newEncoder : Nat := 41
abbrev F_snapshot_decodeAt_Contact : Nat := 42
abbrev F_snapshot_decoder_contact : Nat := 43
abbrev F_codec_AppendInt : Nat := 44
abbrev F_codec_AppendVec : Nat := 45
abbrev F_snapshot_encoder_bools : Nat := 46
abbrev F_snapshot_encoder_fixture : Nat := 47
abbrev F_checksum_CRC32C : Nat := 48
abbrev F_body_Validate : Nat := 49
abbrev F_joint_Validate : Nat := 50
abbrev F_world_bodiesExist : Nat := 51
abbrev F_world_FindBody : Nat := 52
abbrev F_world_validManifold : Nat := 53
abbrev F_broadphase_ValidKeys : Nat := 54
abbrev F_slices_ContainsFunc_PairKey : Nat := 55
abbrev F_slices_Concat_PairKey : Nat := 56
abbrev F_world_validContacts_f1 : Nat := 57
abbrev F_world_fixturesExist : Nat := 58
abbrev F_snapshot_decodeAt_World_f1 : Nat := 59
def c_snapshot_decodeAt_World_f1 : ACode := (.seq (r0 [oL 4 0, oC .neq 5 4 0])
  (.cond (.t 5) (.seq (r0 [oA 3 zD1_0])
  (r0 [oR 11 6 3, oS 11 1 6, oD 1 2 (vi 0)])) .skip))
theorem is_snapshot_decodeAt_World_f1 : compile Tryz.prog Tryz.f59.ntmps (Tryz.f59.body.getD .skip) = some c_snapshot_decodeAt_World_f1.strip := by kernel_rfl
abbrev F_snapshot_decoder_int : Nat := 61
abbrev F_snapshot_decoder_vec : Nat := 62
abbrev F_snapshot_slice_Body : Nat := 63
abbrev F_snapshot_decoder_body : Nat := 64
abbrev F_snapshot_slice_Joint : Nat := 65
abbrev F_snapshot_decoder_joint : Nat := 66
abbrev F_snapshot_slice_Contact : Nat := 67
abbrev F_snapshot_slice_PairKey : Nat := 68
abbrev F_snapshot_decoder_key : Nat := 69
abbrev F_r23_EqualFixture : Nat := 70
abbrev F_snapshot_decodeAt_Contact_f1 : Nat := 90
def c_snapshot_decodeAt_Contact_f1 : ACode := (.seq (r0 [oL 4 0, oC .neq 5 4 0])
  (.cond (.t 5) (.seq (r0 [oA 3 zD1_1])
  (r0 [oR 7 6 3, oS 7 1 6, oD 1 2 (vi 0)])) .skip))
theorem is_snapshot_decodeAt_Contact_f1 : compile Tryz.prog Tryz.f90.ntmps (Tryz.f90.body.getD .skip) = some c_snapshot_decodeAt_Contact_f1.strip := by kernel_rfl
abbrev F_snapshot_slice_ContactPoint : Nat := 91
abbrev F_snapshot_decoder_contactPoint : Nat := 92
abbrev F_codec_magnitude : Nat := 93
abbrev F_codec_extend : Nat := 94
abbrev F_codec_AppendBool : Nat := 95
abbrev F_checksum_update : Nat := 96
abbrev F_body_inRange : Nat := 97
abbrev F_body_ValidateFixture : Nat := 98
abbrev F_body_consistent : Nat := 99
abbrev F_joint_numbersInRange : Nat := 100
abbrev F_joint_validBodies : Nat := 101
abbrev F_joint_inconsistent : Nat := 102
abbrev F_slices_IndexFunc_Body : Nat := 103
abbrev F_world_FindBody_f1 : Nat := 104
abbrev F_world_saturated : Nat := 105
abbrev F_slices_ContainsFunc_ContactPoint : Nat := 106
abbrev F_world_validManifold_f1 : Nat := 107
abbrev F_broadphase_valid : Nat := 108
abbrev F_broadphase_Less : Nat := 109
abbrev F_slices_IndexFunc_PairKey : Nat := 110
abbrev F_slices_Grow_PairKey : Nat := 111
abbrev F_codec_ReadInt : Nat := 112
abbrev F_snapshot_decoder_advance : Nat := 113
abbrev F_codec_ReadVec : Nat := 114
abbrev F_snapshot_decoder_length : Nat := 115
abbrev F_snapshot_decoder_bool : Nat := 116
abbrev F_snapshot_slice_Fixture : Nat := 117
abbrev F_snapshot_decoder_fixture : Nat := 118
abbrev F_r12_Equal : Nat := 119
abbrev F_body_bounded : Nat := 135
abbrev F_body_within : Nat := 136
abbrev F_transform_Valid : Nat := 137
abbrev F_shape_Validate : Nat := 138
abbrev F_body_moving : Nat := 139
abbrev F_joint_limitRange : Nat := 140
abbrev F_joint_inRange : Nat := 141
abbrev F_joint_pointInRange : Nat := 142
abbrev F_vec2_Length : Nat := 143
abbrev F_slices_ContainsFunc_int : Nat := 144
abbrev F_world_saturated_f1 : Nat := 145
abbrev F_slices_IndexFunc_ContactPoint : Nat := 146
abbrev F_broadphase_compare : Nat := 147
abbrev F_codec_readByte : Nat := 148
abbrev F_codec_ReadBool : Nat := 149
abbrev F_snapshot_slice_Vec : Nat := 150
abbrev F_r12_EqualVecs : Nat := 151
abbrev F_transform_inWorld : Nat := 163
abbrev F_shape_validCount : Nat := 164
abbrev F_slices_ContainsFunc_Vec : Nat := 165
abbrev F_shape_Validate_f1 : Nat := 166
abbrev F_shape_outOfRange : Nat := 167
abbrev F_vec2_Sub : Nat := 168
abbrev F_polygon_IsConvex : Nat := 169
abbrev F_polygon_ShortestEdge : Nat := 170
abbrev F_polygon_Area : Nat := 171
abbrev F_fixed_Isqrt : Nat := 172
abbrev F_vec2_DistanceSquared : Nat := 173
abbrev F_slices_IndexFunc_int : Nat := 174
abbrev F_cmp_Or_int : Nat := 175
abbrev F_cmp_Compare_int : Nat := 176
abbrev F_slices_IndexFunc_Vec : Nat := 184
abbrev F_fixed_Sub : Nat := 185
abbrev F_polygon_allInReach : Nat := 186
abbrev F_vec2_Orientation : Nat := 187
abbrev F_polygon_fan : Nat := 188
abbrev F_fixed_RoundDiv : Nat := 189
abbrev F_vec2_saturate : Nat := 190
abbrev F_cmp_isNaN_int : Nat := 191
abbrev F_fixed_Saturate : Nat := 201
abbrev F_polygon_inReach : Nat := 202
end Go.Abs
end
section
namespace Go.Abs
open Go.Proofs
open Api
def encU8 (x : Int) : List AV := [.sc (.int .u8 x)]
def encU64 (x : Int) : List AV := [.sc (.int .u64 x)]
attribute [go_sem] encU8 encU64
end Go.Abs
end
section
namespace Go.Abs
open Go.Proofs
open Api
def Shape.sm (s : Shape) : Prop := s.Vertices.length ≤ 1048576
def Fixture.sm (f : Fixture) : Prop := Shape.sm f.Shape
def Body.sm (b : Body) : Prop := b.Fixtures.length ≤ 1048576 ∧ ∀ f ∈ b.Fixtures, Fixture.sm f
def Manifold.sm (m : Manifold) : Prop := m.Points.length ≤ 1048576
def Wsm (w : Api.World) : Prop := w.Bodies.length ≤ 1048576 ∧ w.Joints.length ≤ 1048576 ∧ w.Contacts.length ≤ 1048576 ∧ w.Overlaps.length ≤ 1048576 ∧ (∀ b ∈ w.Bodies, Body.sm b) ∧ ∀ c ∈ w.Contacts, Manifold.sm c.Manifold
end Go.Abs
end
section
namespace Go.Abs
open Go.Proofs
open Api
def Wown (w : Api.World) (a b c d : Nat) : AV := .agg [.sc (.int .i64 w.Settings.TimeStep), .sc (.int .i64 w.Settings.Gravity.X), .sc (.int .i64 w.Settings.Gravity.Y), .sc (.int .i64 w.Settings.Iterations), .sc (.int .i64 w.Settings.SleepSteps),
  .sl a 0 w.Bodies.length w.Bodies.length, .sl b 0 w.Joints.length w.Joints.length, .sl c 0 w.Contacts.length w.Contacts.length, .sl d 0 w.Overlaps.length w.Overlaps.length, .sc (.int .i64 w.NextID), .sc (.int .i64 w.Frame)]
def Wobj (w : Api.World) (a b c d : Nat) : List (Nat × AObj) := [(a, .arr 20 (encQ Body.enc default w.Bodies)), (b, .arr 24 (encQ Joint.enc default w.Joints)), (c, .arr 7 (encQ Contact.enc default w.Contacts)), (d, .arr 4 (encQ PairKey.enc default w.Overlaps))]
attribute [go_sem] Wown Wobj
end Go.Abs
end
section
namespace Go.Abs
open Go.Proofs
open Api
theorem l_take_succ {α : Type} {l m : List α} {i : Nat} (d : α) (h : l.take i = m.take i) (hl : i < l.length) (hm : i < m.length) (he : l.getD i d = m.getD i d) : l.take (i + 1) = m.take (i + 1) := by
  rw [take_snoc d hl, take_snoc d hm, h, he]
theorem l_eq_of {α : Type} {l m : List α} (hlen : l.length = m.length) (h : l.take l.length = m.take l.length) : l = m := by
  rw [List.take_length] at h; rw [hlen, List.take_length] at h; exact h
theorem l_ne_of {α : Type} {l m : List α} {i : Nat} (d : α) (h : l.getD i d ≠ m.getD i d) : l ≠ m := fun e => h (by rw [e])
theorem l_ne_len {α : Type} {l m : List α} (h : l.length ≠ m.length) : l ≠ m := fun e => h (by rw [e])
theorem Vec.beq (x y : Vec) : (x.X == y.X && x.Y == y.Y) = decide (x = y) := by
  cases x; cases y; rw [Bool.eq_iff_iff]; simp
theorem PairKey.beq (x y : PairKey) : (x.BodyA == y.BodyA && (x.FixtureA == y.FixtureA && (x.BodyB == y.BodyB && x.FixtureB == y.FixtureB))) = decide (x = y) := by
  cases x; cases y; rw [Bool.eq_iff_iff]; simp
theorem ContactPoint.beq (x y : ContactPoint) : (x.Point.X == y.Point.X && (x.Point.Y == y.Point.Y && (x.Separation == y.Separation && (x.ID == y.ID && (x.NormalImpulse == y.NormalImpulse && x.TangentImpulse == y.TangentImpulse))))) = decide (x = y) := by
  obtain ⟨⟨a, b⟩, c, d, e, f⟩ := x; obtain ⟨⟨a', b'⟩, c', d', e', f'⟩ := y; rw [Bool.eq_iff_iff]; simp [and_assoc]
theorem s_r12_EqualVecs (l m : List Vec) (hl : l.length ≤ 1048576) : CallsA Tryz.prog F_r12_EqualVecs [encD 2 Vec.enc default l, encD 2 Vec.enc default m] [] (.sc (.bool (decide (l = m)))) [] := by
  refine en1 hm shOk Tryz.func151 rfl rfl ?_
  simp only [go_sem]
  split
  · rename_i hne
    exact (decide_eq_false (l_ne_len fun e => by rw [e] at hne; simp at hne)).symm
  · rename_i hne
    have hlen : l.length = m.length := by simp at hne; omega
    refine Wpi_loop hm (ι := {i : Nat // i ≤ l.length ∧ l.take i = m.take i}) (fun i => [(0, .share, encD 2 Vec.enc default l), (1, .share, encD 2 Vec.enc default m), (5, .share, .sc (.int .i64 i.1))])
      (fun i => []) (fun i => l.length - i.1) ⟨0, by omega, rfl⟩ ?_ ?_
    · refine weakE_of [] [] (by simp) (by simp [assoc]) (by simp) ?_
      simp only [go_sem]
    · rintro ⟨i, hi, ht⟩
      simp only [Vec.beq, go_sem]
      split
      · rename_i hlt
        have hlt : i < l.length := by omega
        have hltm : i < m.length := by omega
        refine ⟨ok_, ok_, ?_⟩
        by_cases he : l.getD i default = m.getD i default
        · rw [if_neg (by rw [decide_eq_true he]; simp)]
          refine loop_next ⟨i + 1, by omega, l_take_succ default ht hlt hltm he⟩ (by show l.length - (i + 1) < l.length - i; omega) (weakE_ [] [] ?_)
          simp only [go_sem]
          exact (by rw [IntKind.wrap_i64]; omega)
        · rw [if_pos (decide_eq_false he)]
          exact (decide_eq_false (l_ne_of default he)).symm
      · rename_i hge
        have hil : i = l.length := by omega
        subst hil
        exact (decide_eq_true (l_eq_of hlen ht)).symm
theorem s_r22_Keys (l m : List PairKey) (hl : l.length ≤ 1048576) : CallsA Tryz.prog F_r22_Keys [encD 4 PairKey.enc default l, encD 4 PairKey.enc default m] [] (.sc (.bool (decide (l = m)))) [] := by
  refine en1 hm shOk Tryz.func33 rfl rfl ?_
  simp only [go_sem]
  split
  · rename_i hne
    exact (decide_eq_false (l_ne_len fun e => by rw [e] at hne; simp at hne)).symm
  · rename_i hne
    have hlen : l.length = m.length := by simp at hne; omega
    refine Wpi_loop hm (ι := {i : Nat // i ≤ l.length ∧ l.take i = m.take i}) (fun i => [(0, .share, encD 4 PairKey.enc default l), (1, .share, encD 4 PairKey.enc default m), (5, .share, .sc (.int .i64 i.1))])
      (fun i => []) (fun i => l.length - i.1) ⟨0, by omega, rfl⟩ ?_ ?_
    · refine weakE_of [] [] (by simp) (by simp [assoc]) (by simp) ?_
      simp only [go_sem]
    · rintro ⟨i, hi, ht⟩
      simp only [PairKey.beq, go_sem]
      split
      · rename_i hlt
        have hlt : i < l.length := by omega
        have hltm : i < m.length := by omega
        refine ⟨ok_, ok_, ?_⟩
        by_cases he : l.getD i default = m.getD i default
        · rw [if_neg (by rw [decide_eq_true he]; simp)]
          refine loop_next ⟨i + 1, by omega, l_take_succ default ht hlt hltm he⟩ (by show l.length - (i + 1) < l.length - i; omega) (weakE_ [] [] ?_)
          simp only [go_sem]
          exact (by rw [IntKind.wrap_i64]; omega)
        · rw [if_pos (decide_eq_false he)]
          exact (decide_eq_false (l_ne_of default he)).symm
      · rename_i hge
        have hil : i = l.length := by omega
        subst hil
        exact (decide_eq_true (l_eq_of hlen ht)).symm
theorem s_r12_Equal (x y : Shape) (h : Shape.sm x) : CallsA Tryz.prog F_r12_Equal [.agg x.enc, .agg y.enc] [] (.sc (.bool (decide (x = y)))) [] := by
  refine en1 hm shOk Tryz.func119 rfl rfl ?_
  simp only [go_sem]
  refine CallGi_flat (s_r12_EqualVecs x.Vertices y.Vertices h) rfl ?_
  simp only [go_sem]
  cases x; cases y; rw [Bool.eq_iff_iff]; simp [and_assoc]
theorem s_r23_EqualFixture (x y : Fixture) (h : Fixture.sm x) : CallsA Tryz.prog F_r23_EqualFixture [.agg x.enc, .agg y.enc] [] (.sc (.bool (decide (x = y)))) [] := by
  refine en1 hm shOk Tryz.func70 rfl rfl ?_
  simp only [go_sem]
  refine CallGi_flat (s_r12_Equal x.Shape y.Shape h) rfl ?_
  simp only [go_sem]
  cases x; cases y; rw [Bool.eq_iff_iff]; simp [and_assoc]
theorem s_r16_Equal (x y : Manifold) (h : Manifold.sm x) : CallsA Tryz.prog F_r16_Equal [.agg x.enc, .agg y.enc] [] (.sc (.bool (decide (x = y)))) [] := by
  unfold Manifold.sm at h
  refine en1 hm shOk Tryz.func35 rfl rfl ?_
  simp only [Vec.beq, go_sem]
  split
  · rename_i hc
    exact (decide_eq_false fun e => by subst e; simp at hc).symm
  · rename_i hc
    simp at hc
    obtain ⟨hn, hlen⟩ := hc
    have hlen : x.Points.length = y.Points.length := by omega
    refine Wpi_loop hm (ι := {i : Nat // i ≤ x.Points.length ∧ x.Points.take i = y.Points.take i}) (fun i => [(2, .share, .ptr 48 0 0 1), (3, .share, .ptr 64 0 0 1), (5, .share, .sc (.int .i64 i.1))])
      (fun i => [(48, .box x.enc), (64, .box y.enc)]) (fun i => x.Points.length - i.1) ⟨0, by omega, rfl⟩ ?_ ?_
    · refine weakE_of [] [] (by simp) (by simp [assoc]) (by simp) ?_
      simp only [go_sem]
    · rintro ⟨i, hi, ht⟩
      simp only [ContactPoint.beq, go_sem]
      split
      · rename_i hlt
        have hlt : i < x.Points.length := by omega
        have hltm : i < y.Points.length := by omega
        refine ⟨ok_, ok_, ?_⟩
        by_cases he : x.Points.getD i default = y.Points.getD i default
        · rw [if_neg (by rw [decide_eq_true he]; simp)]
          refine loop_next ⟨i + 1, by omega, l_take_succ default ht hlt hltm he⟩ (by show x.Points.length - (i + 1) < x.Points.length - i; omega) (weakE_of [] [] (by simp) (by simp [assoc]) (by simp) ?_)
          simp only [go_sem]
          exact (by rw [IntKind.wrap_i64]; omega)
        · rw [if_pos (decide_eq_false he)]
          exact (decide_eq_false fun e => he (by rw [e])).symm
      · rename_i hge
        have hil : i = x.Points.length := by omega
        subst hil
        have hp := l_eq_of hlen ht
        exact (decide_eq_true (by obtain ⟨a, b⟩ := x; obtain ⟨c, d⟩ := y; simp only at hn hp; rw [hn, hp])).symm
theorem s_r23_Equal (x y : Body) (h : Body.sm x) : CallsA Tryz.prog F_r23_Equal [.agg x.enc, .agg y.enc] [] (.sc (.bool (decide (x = y)))) [] := by
  have hb := h.1
  refine en1 hm shOk Tryz.func34 rfl rfl ?_
  simp only [go_sem]
  split
  · rename_i hc
    exact (decide_eq_false fun e => by subst e; simp at hc).symm
  · rename_i hc
    simp at hc
    have hlen : x.Fixtures.length = y.Fixtures.length := by omega
    refine Wpi_loop hm (ι := {i : Nat // i ≤ x.Fixtures.length ∧ x.Fixtures.take i = y.Fixtures.take i}) (fun i => [(2, .share, .ptr 48 0 0 1), (3, .share, .ptr 64 0 0 1), (5, .share, .sc (.int .i64 i.1))])
      (fun i => [(48, .box x.enc), (64, .box y.enc)]) (fun i => x.Fixtures.length - i.1) ⟨0, by omega, rfl⟩ ?_ ?_
    · refine weakE_of [] [] (by simp) (by simp [assoc]) (by simp) ?_
      simp only [go_sem]
    · rintro ⟨i, hi, ht⟩
      simp only [go_sem]
      by_cases hlt : i < x.Fixtures.length
      · have hltm : i < y.Fixtures.length := by omega
        rw [if_pos (by rw [if_pos (by omega)]; exact decide_eq_true (by omega))]
        refine ⟨ok_, ok_, ?_⟩
        refine CallGi_flat (s_r23_EqualFixture (x.Fixtures.getD i default) (y.Fixtures.getD i default) (h.2 _ (mem_getD _ hlt))) rfl ?_
        simp only [go_sem]
        by_cases he : x.Fixtures.getD i default = y.Fixtures.getD i default
        · rw [if_neg (by rw [decide_eq_true he]; simp)]
          refine loop_next ⟨i + 1, by omega, l_take_succ default ht hlt hltm he⟩ (by show x.Fixtures.length - (i + 1) < x.Fixtures.length - i; omega) (weakE_of [] [] (by simp) (by simp [assoc]) (by simp) ?_)
          simp only [go_sem]
          exact (by rw [IntKind.wrap_i64]; omega)
        · rw [if_pos (decide_eq_false he)]
          exact (decide_eq_false fun e => he (by rw [e])).symm
      · rw [if_neg (by rw [if_neg (by omega)]; simp)]
        have hil : i = x.Fixtures.length := by omega
        subst hil
        have hp := l_eq_of hlen ht
        split
        · rename_i hc
          exact (decide_eq_false fun e => by subst e; simp at hc).symm
        · rename_i hc2
          clear hc hlen ht hi hlt hb h
          obtain ⟨x0, x1, ⟨⟨x2, x3⟩, x4⟩, ⟨x5, x6⟩, x7, ⟨x8, x9⟩, x10, x11, x12, x13, x14, x15, x16, x17, x18, x19⟩ := x
          obtain ⟨y0, y1, ⟨⟨y2, y3⟩, y4⟩, ⟨y5, y6⟩, y7, ⟨y8, y9⟩, y10, y11, y12, y13, y14, y15, y16, y17, y18, y19⟩ := y
          simp only at hp
          subst hp
          simp at hc2
          rw [Bool.eq_iff_iff]
          simp [hc2, and_assoc]
end Go.Abs
end
section
namespace Go.Abs
open Go.Proofs
open Api
theorem Joint.beq (x y : Joint) : ((x.ID == y.ID) && ((x.Kind == y.Kind) && ((x.BodyA == y.BodyA) && ((x.BodyB == y.BodyB) && ((x.AnchorA.X == y.AnchorA.X) && ((x.AnchorA.Y == y.AnchorA.Y) && ((x.AnchorB.X == y.AnchorB.X) && ((x.AnchorB.Y == y.AnchorB.Y) && ((x.Axis.X == y.Axis.X) && ((x.Axis.Y == y.Axis.Y) && ((x.ReferenceAngle == y.ReferenceAngle) && ((x.EnableLimit == y.EnableLimit) && ((x.Lower == y.Lower) && ((x.Upper == y.Upper) && ((x.EnableMotor == y.EnableMotor) && ((x.MotorSpeed == y.MotorSpeed) && ((x.MaxForce == y.MaxForce) && ((x.Softness == y.Softness) && ((x.BreakForce == y.BreakForce) && ((x.CollideConnected == y.CollideConnected) && ((x.Impulses.I0 == y.Impulses.I0) && ((x.Impulses.I1 == y.Impulses.I1) && ((x.Impulses.I2 == y.Impulses.I2) && (x.Impulses.I3 == y.Impulses.I3)))))))))))))))))))))))) = decide (x = y) := by
  obtain ⟨a0, a1, a2, a3, ⟨a4, a5⟩, ⟨a6, a7⟩, ⟨a8, a9⟩, a10, a11, a12, a13, a14, a15, a16, a17, a18, a19, ⟨a20, a21, a22, a23⟩⟩ := x
  obtain ⟨b0, b1, b2, b3, ⟨b4, b5⟩, ⟨b6, b7⟩, ⟨b8, b9⟩, b10, b11, b12, b13, b14, b15, b16, b17, b18, b19, ⟨b20, b21, b22, b23⟩⟩ := y
  rw [Bool.eq_iff_iff]; simp [and_assoc]
theorem Settings.beq (x y : Settings) : ((x.TimeStep == y.TimeStep) && ((x.Gravity.X == y.Gravity.X) && ((x.Gravity.Y == y.Gravity.Y) && ((x.Iterations == y.Iterations) && (x.SleepSteps == y.SleepSteps))))) = decide (x = y) := by
  obtain ⟨a0, ⟨a1, a2⟩, a3, a4⟩ := x
  obtain ⟨b0, ⟨b1, b2⟩, b3, b4⟩ := y
  rw [Bool.eq_iff_iff]; simp [and_assoc]
theorem s_r25_Equal (x y : Api.World) (h : Wsm x) : CallsA Tryz.prog F_r25_Equal [.agg x.enc, .agg y.enc] [] (.sc (.bool (decide (x = y)))) [] := by
  obtain ⟨h1, h2, h3, h4, h5, h6⟩ := h
  refine en1 hm shOk Tryz.func11 rfl rfl ?_
  simp only [Settings.beq, go_sem]
  refine CallGi_flat (s_r22_Keys x.Overlaps y.Overlaps h4) rfl ?_
  simp only [go_sem]
  split
  · rename_i hc
    exact (decide_eq_false fun e => by subst e; simp at hc).symm
  · rename_i hc
    simp at hc
    obtain ⟨⟨⟨⟨⟨⟨e1, e2⟩, e3⟩, e4⟩, e5⟩, e6⟩, e7⟩ := hc
    have l0 : x.Bodies.length = y.Bodies.length := by omega
    refine Wpi_loop hm (ι := {i : Nat // i ≤ x.Bodies.length ∧ x.Bodies.take i = y.Bodies.take i}) (fun i => [(2, .share, .ptr 48 0 0 1), (3, .share, .ptr 64 0 0 1), (5, .share, .sc (.int .i64 i.1))])
      (fun i => [(48, .box x.enc), (64, .box y.enc)]) (fun i => x.Bodies.length - i.1) ⟨0, by omega, rfl⟩ ?_ ?_
    · refine weakE_of [] [] (by simp) (by simp [assoc]) (by simp) ?_
      simp only [go_sem]
    · rintro ⟨i, hi, ht⟩
      simp only [Joint.beq, PairKey.beq, go_sem]
      split
      · rename_i hlt
        have hlt : i < x.Bodies.length := by omega
        have hltm : i < y.Bodies.length := by omega
        refine ⟨ok_, ok_, ?_⟩
        refine CallGi_flat (s_r23_Equal (x.Bodies.getD i default) (y.Bodies.getD i default) (h5 _ (mem_getD _ hlt))) rfl ?_
        simp only [go_sem]
        by_cases he : x.Bodies.getD i default = y.Bodies.getD i default
        · rw [if_neg (by rw [he]; simp)]
          refine loop_next ⟨i + 1, by omega, l_take_succ default ht hlt hltm he⟩ (by show x.Bodies.length - (i + 1) < x.Bodies.length - i; omega) (weakE_of [] [] (by simp) (by simp [assoc]) (by simp) ?_)
          simp only [go_sem]
          exact (by rw [IntKind.wrap_i64]; omega)
        · rw [if_pos (decide_eq_false he)]
          exact (decide_eq_false fun e => he (by rw [e])).symm
      · rename_i hge
        have hil : i = x.Bodies.length := by omega
        subst hil
        have p0 := l_eq_of l0 ht
        clear ht hi hge
        have l1 : x.Joints.length = y.Joints.length := by omega
        refine Wpi_loop hm (ι := {i : Nat // i ≤ x.Joints.length ∧ x.Joints.take i = y.Joints.take i}) (fun i => [(2, .share, .ptr 48 0 0 1), (3, .share, .ptr 64 0 0 1), (6, .share, .sc (.int .i64 i.1))])
          (fun i => [(48, .box x.enc), (64, .box y.enc)]) (fun i => x.Joints.length - i.1) ⟨0, by omega, rfl⟩ ?_ ?_
        · refine weakE_of [] [] (by simp) (by simp [assoc]) (by simp) ?_
          simp only [go_sem]
        · rintro ⟨i, hi, ht⟩
          simp only [Joint.beq, PairKey.beq, go_sem]
          split
          · rename_i hlt
            have hlt : i < x.Joints.length := by omega
            have hltm : i < y.Joints.length := by omega
            refine ⟨ok_, ok_, ?_⟩
            by_cases he : x.Joints.getD i default = y.Joints.getD i default
            · rw [if_neg (by rw [he]; simp)]
              refine loop_next ⟨i + 1, by omega, l_take_succ default ht hlt hltm he⟩ (by show x.Joints.length - (i + 1) < x.Joints.length - i; omega) (weakE_of [] [] (by simp) (by simp [assoc]) (by simp) ?_)
              simp only [go_sem]
              exact (by rw [IntKind.wrap_i64]; omega)
            · rw [if_pos (decide_eq_false he)]
              exact (decide_eq_false fun e => he (by rw [e])).symm
          · rename_i hge
            have hil : i = x.Joints.length := by omega
            subst hil
            have p1 := l_eq_of l1 ht
            clear ht hi hge
            have l2 : x.Contacts.length = y.Contacts.length := by omega
            refine Wpi_loop hm (ι := {i : Nat // i ≤ x.Contacts.length ∧ x.Contacts.take i = y.Contacts.take i}) (fun i => [(2, .share, .ptr 48 0 0 1), (3, .share, .ptr 64 0 0 1), (7, .share, .sc (.int .i64 i.1))])
              (fun i => [(48, .box x.enc), (64, .box y.enc)]) (fun i => x.Contacts.length - i.1) ⟨0, by omega, rfl⟩ ?_ ?_
            · refine weakE_of [] [] (by simp) (by simp [assoc]) (by simp) ?_
              simp only [go_sem]
            · rintro ⟨i, hi, ht⟩
              simp only [Joint.beq, PairKey.beq, go_sem]
              split
              · rename_i hlt
                have hlt : i < x.Contacts.length := by omega
                have hltm : i < y.Contacts.length := by omega
                refine ⟨ok_, ok_, ?_⟩
                refine ⟨ok_, ok_, ?_⟩
                refine CallGi_flat (s_r16_Equal (x.Contacts.getD i default).Manifold (y.Contacts.getD i default).Manifold (h6 _ (mem_getD _ hlt))) rfl ?_
                simp only [go_sem]
                by_cases he : x.Contacts.getD i default = y.Contacts.getD i default
                · rw [if_neg (by rw [he]; simp)]
                  refine loop_next ⟨i + 1, by omega, l_take_succ default ht hlt hltm he⟩ (by show x.Contacts.length - (i + 1) < x.Contacts.length - i; omega) (weakE_of [] [] (by simp) (by simp [assoc]) (by simp) ?_)
                  simp only [go_sem]
                  exact (by rw [IntKind.wrap_i64]; omega)
                · rw [if_pos (by
                    by_cases hk : (x.Contacts.getD i default).Key = (y.Contacts.getD i default).Key
                    · by_cases hm2 : (x.Contacts.getD i default).Manifold = (y.Contacts.getD i default).Manifold
                      · exact absurd (by generalize x.Contacts.getD i default = a at *; generalize y.Contacts.getD i default = b at *; cases a; cases b; simp only at hk hm2; rw [hk, hm2]) he
                      · simp only [hm2, decide_false, Bool.not_false, Bool.or_true]
                    · simp only [hk, decide_false, Bool.not_false, Bool.true_or])]
                  exact (decide_eq_false fun e => he (by rw [e])).symm
              · rename_i hge
                have hil : i = x.Contacts.length := by omega
                subst hil
                have p2 := l_eq_of l2 ht
                clear ht hi hge
                exact (decide_eq_true (by obtain ⟨a1, a2, a3, a4, a5, a6, a7⟩ := x; obtain ⟨b1, b2, b3, b4, b5, b6, b7⟩ := y; simp only at e1 e2 e3 e7 p0 p1 p2; subst e1 e2 e3 e7 p0 p1 p2; rfl)).symm
end Go.Abs
end
section
namespace Go.Abs
open Go.Proofs
open Api
def sat (x : Int) : Int := if x > 536870911 then 536870911 else if x < -536870911 then -536870911 else x
theorem sat_range (x : Int) : -536870911 ≤ sat x ∧ sat x ≤ 536870911 := by unfold sat; split <;> (try split) <;> omega
def satV (v : Vec) : Vec := ⟨sat v.X, sat v.Y⟩
theorem s_fixed_Saturate (x : Int) : CallsA Tryz.prog F_fixed_Saturate [.sc (.int .i64 x)] [] (.sc (.int .i64 (sat x))) [] := by
  refine en1 hm shOk Tryz.func201 rfl rfl ?_
  simp only [go_sem]
  unfold sat
  (repeat' split) <;> omega
theorem s_vec2_saturate (v : Vec) : CallsA Tryz.prog F_vec2_saturate [.agg v.enc] [] (.agg (satV v).enc) [] := by
  refine enR1 10 [(2, some (some 2))] hm shOk Tryz.func190 rfl ?_
  simp only [go_sem]
  refine CallGi_flat (s_fixed_Saturate v.X) rfl ?_
  simp only [go_sem]
  refine CallGi_flat (s_fixed_Saturate v.Y) rfl ?_
  simp only [satV, go_sem]
def distSq (a b : Vec) : Int := (sat b.X - sat a.X) * (sat b.X - sat a.X) + (sat b.Y - sat a.Y) * (sat b.Y - sat a.Y)
theorem sq_range {x m : Int} (h1 : -m ≤ x) (h2 : x ≤ m) : 0 ≤ x * x ∧ x * x ≤ m * m := by
  have h0 : 0 ≤ m := by omega
  constructor
  · rcases Int.le_total 0 x with h | h
    · exact Int.mul_nonneg h h
    · exact Int.mul_nonneg_of_nonpos_of_nonpos h h
  · rcases Int.le_total 0 x with h | h
    · exact Int.mul_le_mul h2 h2 h h0
    · have := Int.mul_le_mul (show -x ≤ m by omega) (show -x ≤ m by omega) (show 0 ≤ -x by omega) h0
      rwa [Int.neg_mul_neg] at this
theorem s_vec2_DistanceSquared (a b : Vec) : CallsA Tryz.prog F_vec2_DistanceSquared [.agg a.enc, .agg b.enc] [] (.sc (.int .i64 (distSq a b))) [] := by
  refine en1 hm shOk Tryz.func173 rfl rfl ?_
  simp only [go_sem]
  refine CallGi_flat (s_vec2_saturate a) rfl ?_
  simp only [go_sem]
  refine CallGi_flat (s_vec2_saturate b) rfl ?_
  simp only [satV, go_sem]
  have a1 := sat_range a.X; have a2 := sat_range a.Y; have b1 := sat_range b.X; have b2 := sat_range b.Y
  have w1 : IntKind.i64.wrap (sat b.X - sat a.X) = sat b.X - sat a.X := by rw [IntKind.wrap_i64]; omega
  have w2 : IntKind.i64.wrap (sat b.Y - sat a.Y) = sat b.Y - sat a.Y := by rw [IntKind.wrap_i64]; omega
  have h1 := sq_range (x := sat b.X - sat a.X) (m := 1073741822) (by omega) (by omega)
  have h2 := sq_range (x := sat b.Y - sat a.Y) (m := 1073741822) (by omega) (by omega)
  rw [w1, w2]
  unfold distSq
  generalize (sat b.X - sat a.X) * (sat b.X - sat a.X) = p at *
  generalize (sat b.Y - sat a.Y) * (sat b.Y - sat a.Y) = q at *
  simp only [IntKind.wrap_i64]; omega
def isqB (n : Nat) : Nat → Nat → Nat
  | 0, r => r
  | k + 1, r => isqB n k (if (r + 2 ^ k) * (r + 2 ^ k) ≤ n then r + 2 ^ k else r)
def isq (n : Int) : Int := if n < 0 ∨ n > 4611686018427387904 then 0 else isqB n.toNat 32 0
def bitOf : Nat → Int
  | 0 => 0
  | k + 1 => ((2 ^ k : Nat) : Int)
theorem or_add {r k : Nat} (hr : 2 ^ (k + 1) ∣ r) (hlt : r < 4294967296) (hk : k < 32) : IntKind.i64.wrap (((BitVec.ofInt 64 (r : Int) ||| BitVec.ofInt 64 ((2 ^ k : Nat) : Int)).toNat : Nat) : Int) = ((r + 2 ^ k : Nat) : Int) := by
  obtain ⟨q, rfl⟩ := hr
  have hp : 2 ^ k < 2 ^ (k + 1) := Nat.pow_lt_pow_right (by omega) (by omega)
  have hp2 : 2 ^ k ≤ 2 ^ 31 := Nat.pow_le_pow_right (by omega) (by omega)
  have e : (BitVec.ofInt 64 ((2 ^ (k + 1) * q : Nat) : Int) ||| BitVec.ofInt 64 ((2 ^ k : Nat) : Int)).toNat = 2 ^ (k + 1) * q + 2 ^ k := by
    rw [BitVec.toNat_or, BitVec.ofInt_natCast, BitVec.ofInt_natCast, BitVec.toNat_ofNat, BitVec.toNat_ofNat, Nat.mod_eq_of_lt (by omega), Nat.mod_eq_of_lt (by omega), Nat.two_pow_add_eq_or_of_lt hp]
  rw [e, IntKind.wrap_i64]; omega
theorem isq_bad {n : Int} (h : n < 0 ∨ n > 4611686018427387904) : isq n = 0 := by unfold isq; rw [if_pos h]
theorem isq_good {n : Int} (h : ¬ (n < 0 ∨ n > 4611686018427387904)) : isq n = isqB n.toNat 32 0 := by unfold isq; rw [if_neg h]
theorem bit_half (k : Nat) : ((2 ^ k : Nat) : Int).fdiv (2 ^ min 1 64) = bitOf k := by
  rw [Int.fdiv_eq_ediv_of_nonneg _ (by decide)]
  cases k with
  | zero => decide
  | succ k =>
    show ((2 ^ (k + 1) : Nat) : Int) / 2 = ((2 ^ k : Nat) : Int)
    rw [Nat.pow_succ]; omega
theorem isq_next {r k : Nat} (hr : 2 ^ (k + 1) ∣ r) (hlt : r + 2 ^ (k + 1) ≤ 4294967296) : 2 ^ k ∣ r ∧ r + 2 ^ k ≤ 4294967296 ∧ 2 ^ k ∣ r + 2 ^ k ∧ r + 2 ^ k + 2 ^ k ≤ 4294967296 ∧ 0 < 2 ^ k := by
  have hp : 2 ^ (k + 1) = 2 ^ k * 2 := Nat.pow_succ 2 k
  have h1 : 2 ^ k ∣ r := Nat.dvd_trans ⟨2, hp⟩ hr
  have h0 : 0 < 2 ^ k := Nat.two_pow_pos k
  exact ⟨h1, by omega, Nat.dvd_add h1 (Nat.dvd_refl _), by omega, h0⟩
theorem s_fixed_Isqrt (n : Int) : CallsA Tryz.prog F_fixed_Isqrt [.sc (.int .i64 n)] [] (.sc (.int .i64 (isq n))) [] := by
  refine en1 hm shOk Tryz.func172 rfl rfl ?_
  simp only [go_sem]
  by_cases hn : n < 0 ∨ n > 4611686018427387904
  · rw [if_pos (by by_cases h : n < 0; rw [if_pos h]; rw [if_neg h]; exact decide_eq_true (by omega)), isq_bad hn]
  · rw [if_neg (by rw [if_neg (by omega), decide_eq_false (by omega)]; simp), isq_good hn]
    refine Wpi_loop hm (ι := {p : Nat × Nat // p.1 ≤ 32 ∧ 2 ^ p.1 ∣ p.2 ∧ p.2 + 2 ^ p.1 ≤ 4294967296 ∧ isqB n.toNat p.1 p.2 = isqB n.toNat 32 0}) (fun p => [(0, .share, .sc (.int .i64 n)), (3, .share, .sc (.int .i64 p.1.2)), (4, .share, .sc (.int .i64 (bitOf p.1.1)))])
      (fun p => []) (fun p => p.1.1) ⟨(32, 0), by decide, by decide, by decide, rfl⟩ ?_ ?_
    · refine weakE_ [] [] ?_
      simp only [go_sem]
      decide
    · rintro ⟨⟨k, r⟩, hk, hr, hlt, he⟩
      simp only at hk hr hlt he
      simp only [go_sem]
      cases k with
      | zero =>
        rw [if_neg (by decide)]
        rw [← he]; rfl
      | succ k =>
        obtain ⟨a1, a2, a3, a4, a5⟩ := isq_next hr hlt
        rw [if_pos (by show (0 : Int) < ((2 ^ k : Nat) : Int); omega)]
        have hor := or_add hr (by omega) (show k < 32 by omega)
        have hu : ∀ m : Nat, m < 18446744073709551616 → IntKind.u64.wrap (m : Int) = m := fun m hm' => by rw [IntKind.wrap_u64]; omega
        have hun : IntKind.u64.wrap n = n := by rw [IntKind.wrap_u64]; omega
        have hsq : (r + 2 ^ k) * (r + 2 ^ k) < 18446744073709551616 := by
          have h1 : r + 2 ^ k ≤ 4294967295 := by omega
          have := Nat.mul_le_mul h1 h1
          omega
        simp only [show bitOf (k + 1) = ((2 ^ k : Nat) : Int) from rfl, hun, bit_half]
        have key : ∀ X : Int, X = ((r + 2 ^ k : Nat) : Int) → IntKind.u64.wrap (IntKind.u64.wrap X * IntKind.u64.wrap X) = (((r + 2 ^ k) * (r + 2 ^ k) : Nat) : Int) := fun X hX => by
          rw [hX, hu (r + 2 ^ k) (by omega), ← Int.natCast_mul, hu _ hsq]
        generalize hX : IntKind.i64.wrap _ = X
        have hX2 : X = ((r + 2 ^ k : Nat) : Int) := hX.symm.trans hor
        rw [key X hX2]
        clear hX
        subst hX2
        by_cases hc : (r + 2 ^ k) * (r + 2 ^ k) ≤ n.toNat
        · rw [if_pos (by omega)]
          refine ⟨by decide, ?_⟩
          refine loop_next ⟨(k, r + 2 ^ k), by show k ≤ 32; omega, a3, a4, by rw [← he]; simp only [isqB, hc, if_true]⟩ (Nat.lt_succ_self k) (weakE_ [] [] ?_)
          simp only [go_sem]
        · rw [if_neg (by omega)]
          refine ⟨by decide, ?_⟩
          refine loop_next ⟨(k, r), by show k ≤ 32; omega, a1, a2, by rw [← he]; simp only [isqB, hc, if_false]⟩ (Nat.lt_succ_self k) (weakE_ [] [] ?_)
          simp only [go_sem]
end Go.Abs
end
section
namespace Go.Abs
open Go.Proofs
open Api
def lenV (v : Vec) : Int := isq (distSq ⟨0, 0⟩ v)
theorem s_vec2_Length (v : Vec) : CallsA Tryz.prog F_vec2_Length [.agg v.enc] [] (.sc (.int .i64 (lenV v))) [] := by
  refine en1 hm shOk Tryz.func143 rfl rfl ?_
  simp only [go_sem]
  refine CallGi_flat (s_vec2_DistanceSquared ⟨0, 0⟩ v) rfl ?_
  simp only [go_sem]
  refine CallGi_flat (s_fixed_Isqrt _) rfl ?_
  simp only [lenV, go_sem]
end Go.Abs
end
section
namespace Go.Abs
open Go.Proofs
open Api
def okO (O : List (Nat × AObj)) : Prop := (O.map (·.1)).Nodup ∧ ∀ p ∈ O, ∀ cs, p.2 = .box cs → ∀ j ∈ idsL cs, (ofL O j).isSome
theorem ofL_mem_eq {O : List (Nat × AObj)} (hn : (O.map (·.1)).Nodup) {i : Nat} {o : AObj} (h : (i, o) ∈ O) : ofL O i = some o := by
  rw [ofL_get O hn]
  have : O.find? (fun p => p.1 == i) = some (i, o) := by
    induction O with
    | nil => cases h
    | cons p O ih =>
      simp only [List.map_cons, List.nodup_cons] at hn
      rcases List.mem_cons.1 h with e | h'
      · subst e; simp
      · have hne : p.1 ≠ i := fun e => hn.1 (e ▸ List.mem_map_of_mem (f := (·.1)) h')
        simp only [List.find?_cons, beq_eq_false_iff_ne.2 hne]
        exact ih hn.2 h'
  rw [this]; rfl
theorem boxLe_refl {O : List (Nat × AObj)} : ∀ {cs : List AV}, (∀ j ∈ idsL cs, (ofL O j).isSome) → BoxLe id [] O cs cs
  | [], _ => .nil
  | c :: cs, h => by
    refine .cons ?_ (boxLe_refl fun j hj => h j (by simp [idsL, hj]))
    have : CellLe id [] O (c.ren id) c := .share fun j hj => ⟨h j (by simp [idsL, hj]), by simp⟩
    rwa [AV.ren_id] at this
theorem objsOk_refl {O : List (Nat × AObj)} (h : okO O) : ∀ (l : List (Nat × AObj)), (∀ p ∈ l, p ∈ O) → objsOk (ofL O) id [] O l
  | [], _ => trivial
  | (i, o) :: l, hl => by
    refine ⟨?_, objsOk_refl h l fun p hp => hl p (List.mem_cons_of_mem _ hp)⟩
    have hio := hl (i, o) (List.mem_cons_self ..)
    rw [if_neg (by simp)]
    simp only [id, ofL_mem_eq h.1 hio]
    cases o with
    | box cs => exact .inl ⟨cs, cs, rfl, rfl, boxLe_refl (h.2 _ hio cs rfl)⟩
    | _ => exact .inr ⟨(fun cs e => by cases e), (fun cs e => by cases e), .inl rfl⟩
theorem weakE_same {σ : St} {T : Slots} {O : List (Nat × AObj)} (h : okO O) (hobj : σ.objs = ofL O) (hs : slotsC σ id [] O T [] fun wr => wr = []) : WeakE (O.map (·.1)) σ T O := by
  refine ⟨id, [], h.1, (by have e : (List.map (fun x => x.fst) O).filter (fun i => !([] : List Nat).contains i) = List.map (fun x => x.fst) O := List.filter_eq_self.2 (fun a _ => by simp); simp only [e, List.map_id]; exact h.1), fun k hk => ⟨by simp, rfl, ?_⟩, slotsC_ok (fun wr hwr => ?_) T [] hs⟩
  · rw [List.mem_map] at hk
    obtain ⟨p, hp, rfl⟩ := hk
    rw [ofL_mem_eq h.1 hp]; rfl
  · subst hwr
    have : wrm σ.objs [] = ofL O := hobj
    rw [this]
    exact objsOk_refl h O fun _ hp => hp
theorem retW_same {σ : St} {ts : List Nat} {rs : List AV} {O : List (Nat × AObj)} (md : List Mode) (hm : md.length = ts.length) (hr : rs.length = ts.length) (h : okO O) (hobj : σ.objs = ofL O) (hs : slotsC σ id [] O (zip3 ts md rs) [] fun wr => wr = []) :
    RetW (O.map (·.1)) σ ts rs O := ⟨md, hm, hr, weakE_same h hobj hs⟩
theorem aobj_ren_id (o : AObj) : o.ren id = o := by
  cases o <;> simp only [AObj.ren]
  rw [renL_id]
theorem renO_id (O : List (Nat × AObj)) : renO id O = O := by
  induction O with
  | nil => rfl
  | cons p O ih =>
    show (id p.1, p.2.ren id) :: renO id O = p :: O
    rw [ih, aobj_ren_id]; rfl
theorem wrm_self {O : List (Nat × AObj)} (h : okO O) : wrm (ofL O) (renO id O) = ofL O := by
  rw [renO_id]
  funext x
  rw [wrm_get O _ h.1]
  cases hf : O.find? (fun p => p.1 == x) with
  | none => rfl
  | some p =>
    have h1 := List.find?_some hf
    simp only [beq_iff_eq] at h1
    subst h1
    exact (ofL_mem_eq h.1 (List.mem_of_find?_eq_some hf)).symm
theorem argsOk_same {m : Nat → Option AObj} {O : List (Nat × AObj)} : ∀ {avs : List AV}, (∀ a ∈ avs, ∀ i ∈ a.ids, (ofL O i).isSome) → ArgsOk m id O (avs.map fun _ => true) avs avs []
  | [], _ => rfl
  | a :: avs, h => ⟨AV.ren_id a, h a (List.mem_cons_self ..), argsOk_same fun b hb => h b (List.mem_cons_of_mem _ hb)⟩
theorem CallGi_same {P : Program} {m : Nat → Option AObj} {f : FuncId} {avs : List AV} {b : Bool} {Q : ContR} {O : List (Nat × AObj)} {r : AV} (hc : CallsA P f avs O r O) (h : okO O) (hm : m = ofL O)
    (ha : ∀ a ∈ avs, ∀ i ∈ a.ids, (ofL O i).isSome) (hb : b = true) (hK : @Ri Q b ⟨some r, renO id O⟩) : @CallGi P m f avs b Q := by
  refine ⟨⟨some r, renO id O⟩, fun _ => ?_, fun _ => hb, hK⟩
  have := CallDoes.mk (P := P) (m := m) (avs.map fun _ => true) avs O r O id [] false hc (argsOk_same ha)
    (fun i o hi => by rw [aobj_ren_id]; subst hm; exact hi)
    (fun i cs hi j hj => h.2 _ (ofL_mem' h.1 hi) cs rfl j hj) (fun i hi => hi) (fun i hi => .inl hi) (by simpa using h.1) (fun e => by cases e)
  simpa [AV.ren_id] using this
def idxF (p : Int → Bool) (l : List Int) : Int := match (List.range l.length).find? (fun i => p (l.getD i 0)) with | some i => i | none => -1
theorem idxF_at {p : Int → Bool} {l : List Int} {i : Nat} (hi : i < l.length) (h : ∀ j, j < i → p (l.getD j 0) = false) (hp : p (l.getD i 0) = true) : idxF p l = i := by
  have : (List.range l.length).find? (fun i => p (l.getD i 0)) = some i := by
    rw [List.find?_range_eq_some]
    exact ⟨hp, by simpa using hi, fun j hj => by simp only [h j hj, Bool.not_false]⟩
  unfold idxF; rw [this]
theorem idxF_none {p : Int → Bool} {l : List Int} (h : ∀ j, j < l.length → p (l.getD j 0) = false) : idxF p l = -1 := by
  have : (List.range l.length).find? (fun i => p (l.getD i 0)) = none := by
    rw [List.find?_range_eq_none]
    exact fun j hj => by simp only [h j hj, Bool.not_false]
  unfold idxF; rw [this]
theorem idxF_any (p : Int → Bool) (l : List Int) : decide (0 ≤ idxF p l) = l.any p := by
  cases h : l.any p with
  | true =>
    rw [List.any_eq_true] at h
    obtain ⟨x, hx, hp⟩ := h
    obtain ⟨k, hk, rfl⟩ := List.getElem_of_mem hx
    unfold idxF
    cases hf : (List.range l.length).find? (fun i => p (l.getD i 0)) with
    | none =>
      rw [List.find?_range_eq_none] at hf
      have := hf k hk
      simp [List.getD, hk, hp] at this
    | some i => simp
  | false =>
    rw [List.any_eq_false] at h
    rw [idxF_none fun j hj => by simpa using h _ (mem_getD 0 hj)]; decide
theorem s_slices_IndexFunc_int (l : List Int) (f : FuncId) (first cap : List AV) (O : List (Nat × AObj)) (p : Int → Bool) (hl : l.length ≤ 1000000000) (hO : okO O)
    (hids : ∀ i ∈ (AV.fn (.func f) first cap).ids, (ofL O i).isSome)
    (hp : ∀ x ∈ l, CallsA Tryz.prog f (first ++ [.sc (.int .i64 x)] ++ cap) O (.sc (.bool (p x))) O) :
    CallsA Tryz.prog F_slices_IndexFunc_int [encD 1 encInt 0 l, .fn (.func f) first cap] O (.sc (.int .i64 (idxF p l))) O := by
  have hren : (AV.fn (.func f) first cap).ren id = .fn (.func f) first cap := AV.ren_id _
  have hargs : ∀ x : Int, ∀ a ∈ first ++ [.sc (.int .i64 x)] ++ cap, ∀ i ∈ a.ids, (ofL O i).isSome := fun x a ha i hi => by
    simp only [List.mem_append, List.mem_singleton] at ha
    refine hids i ?_
    simp only [AV.ids, List.mem_append]
    rcases ha with (ha | rfl) | ha
    · obtain ⟨k, hk⟩ := List.getElem?_of_mem ha; exact .inl (mem_idsL hk i hi)
    · simp [AV.ids] at hi
    · obtain ⟨k, hk⟩ := List.getElem?_of_mem ha; exact .inr (mem_idsL hk i hi)
  refine enO1 hm shOk Tryz.func174 rfl rfl ?_
  simp only [go_sem]
  refine Wpi_loop hm (ι := {i : Nat // i ≤ l.length ∧ ∀ j, j < i → p (l.getD j 0) = false}) (fun i => [(0, .share, encD 1 encInt 0 l), (1, .share, .fn (.func f) first cap), (7, .share, .sc (.int .i64 l.length)), (8, .share, .sc (.int .i64 i.1))])
    (fun i => O) (fun i => l.length - i.1) ⟨0, by omega, fun j hj => by omega⟩ ?_ ?_
  · refine weakE_same hO rfl ?_
    simp only [go_sem]
    exact ⟨by rw [renL_id, renL_id], fun i hi => hids i hi⟩
  · rintro ⟨i, hi, hs⟩
    simp only [go_sem]
    split
    · rename_i hlt
      have hlt : i < l.length := by omega
      refine ⟨ok_, ?_⟩
      have hx : CallsA Tryz.prog f (first ++ .sc (.int .i64 (l.getD i 0)) :: cap) O (.sc (.bool (p (l.getD i 0)))) O := by
        have := hp (l.getD i 0) (mem_getD 0 hlt)
        rwa [List.append_assoc] at this
      refine CallGi_same hx hO rfl (fun a ha => hargs (l.getD i 0) a (by rw [List.append_assoc]; exact ha)) rfl ?_
      simp only [go_sem]
      cases hpx : p (l.getD i 0) with
      | true =>
        rw [if_pos rfl]
        refine retW_same [.share] rfl rfl hO (wrm_self hO) ?_
        simp only [go_sem]
        exact (idxF_at hlt hs hpx).symm
      | false =>
        rw [if_neg (by simp)]
        refine loop_next ⟨i + 1, by omega, fun j hj => by rcases Nat.lt_succ_iff_lt_or_eq.1 hj with h | rfl; exact hs j h; exact hpx⟩ (by show l.length - (i + 1) < l.length - i; omega) (weakE_same hO (wrm_self hO) ?_)
        simp only [go_sem]
        exact ⟨by rw [renL_id, renL_id], fun i hi => hids i hi, (by rw [IntKind.wrap_i64]; omega)⟩
    · rename_i hge
      refine retW_same [.share] rfl rfl hO rfl ?_
      simp only [go_sem]
      exact (idxF_none fun j hj => hs j (by omega)).symm
theorem s_slices_ContainsFunc_int (l : List Int) (f : FuncId) (first cap : List AV) (O : List (Nat × AObj)) (p : Int → Bool) (hl : l.length ≤ 1000000000) (hO : okO O)
    (hids : ∀ i ∈ (AV.fn (.func f) first cap).ids, (ofL O i).isSome)
    (hp : ∀ x ∈ l, CallsA Tryz.prog f (first ++ [.sc (.int .i64 x)] ++ cap) O (.sc (.bool (p x))) O) :
    CallsA Tryz.prog F_slices_ContainsFunc_int [encD 1 encInt 0 l, .fn (.func f) first cap] O (.sc (.bool (l.any p))) O := by
  refine enO1 hm shOk Tryz.func144 rfl rfl ?_
  simp only [go_sem]
  refine CallGi_same (s_slices_IndexFunc_int l f first cap O p hl hO hids hp) hO rfl ?_ rfl ?_
  · intro a ha
    simp only [List.mem_cons, List.not_mem_nil, or_false] at ha
    rcases ha with rfl | rfl
    · intro i hi; simp [AV.ids] at hi
    · exact hids
  · simp only [go_sem]
    refine retW_same [.share] rfl rfl hO (wrm_self hO) ?_
    simp only [go_sem]
    exact idxF_any p l
end Go.Abs
end
section
namespace Go.Abs
open Go.Proofs
open Api
def mag (n : Int) : Nat := n.natAbs % 18446744073709551616
theorem mag_lt (n : Int) : mag n < 18446744073709551616 := Nat.mod_lt _ (by decide)
def lowD (u : Nat) : Nat → List Int
  | 0 => []
  | k + 1 => ((u / 256 ^ k % 256 : Nat) : Int) :: lowD u k
theorem lowD_len (u : Nat) : ∀ k, (lowD u k).length = k
  | 0 => rfl
  | k + 1 => by rw [lowD, List.length_cons, lowD_len u k]
def ndig (u : Nat) : Nat := (List.range 9).countP fun j => decide (0 < u / 256 ^ j)
theorem ndig_eq {u k : Nat} (hk : k ≤ 8) (h : ∀ j, j < k → 0 < u / 256 ^ j) (h0 : u / 256 ^ k = 0) : ndig u = k := by
  have hp : ∀ j, (decide (0 < u / 256 ^ j)) = decide (j < k) := fun j => by
    rcases Nat.lt_or_ge j k with h1 | h1
    · rw [decide_eq_true h1, decide_eq_true (h j h1)]
    · rw [decide_eq_false (p := j < k) (by omega), decide_eq_false]
      have : u / 256 ^ j ≤ u / 256 ^ k := Nat.div_le_div_left (Nat.pow_le_pow_right (by decide) h1) (Nat.pow_pos (by decide))
      rw [h0] at this
      exact fun h2 => absurd (Nat.lt_of_lt_of_le h2 this) (Nat.lt_irrefl _)
  unfold ndig
  simp only [hp]
  match k, hk with
  | 0, _ => rfl
  | 1, _ => rfl
  | 2, _ => rfl
  | 3, _ => rfl
  | 4, _ => rfl
  | 5, _ => rfl
  | 6, _ => rfl
  | 7, _ => rfl
  | 8, _ => rfl
def digB (n : Int) : List Int := lowD (mag n) (ndig (mag n))
def intB (n : Int) : List Int := (((digB n).length : Int) + if n < 0 then 16 else 0) :: digB n
theorem ndig_le (u : Nat) : ndig u ≤ 9 := by unfold ndig; have := List.countP_le_length (p := fun j => decide (0 < u / 256 ^ j)) (l := List.range 9); rwa [List.length_range] at this
theorem intB_len (n : Int) : (intB n).length ≤ 10 := by
  have := ndig_le (mag n)
  unfold intB digB; rw [List.length_cons, lowD_len]; omega
theorem dsl_app {α : Type} {enc : α → List AV} {d : α} {l m l' : List α} {z n : Nat} {g : Nat → List AV} (hn : n = l.length) (hg : ∀ i, i < n → g i = enc (l.getD i d)) (hl : l' = l ++ m) :
    avle (.dsl z (n + m.length) (Sq.app ⟨n, g⟩ (encQ enc d m)).g) (.dsl z l'.length (encAt enc d l')) := by
  subst hn hl
  refine ⟨rfl, by simp, fun i hi => ?_⟩
  show avleL (if i < l.length then g i else encAt enc d m (i - l.length)) (encAt enc d (l ++ m) i)
  rw [encAt_app, encAt_app, getD_append]
  by_cases h : i < l.length
  · rw [if_pos h, if_pos h, hg i h]; exact avleL_refl _
  · rw [if_neg h, if_neg h]; exact avleL_refl _
theorem s_codec_magnitude (n : Int) : CallsA Tryz.prog F_codec_magnitude [.sc (.int .i64 n)] [] (.sc (.int .u64 (mag n))) [] := by
  refine en1 hm shOk Tryz.func93 rfl rfl ?_
  simp only [go_sem]
  unfold mag
  by_cases h : n < 0
  · rw [if_pos h]
    simp only [IntKind.wrap_u64]
    omega
  · rw [if_neg h]
    simp only [IntKind.wrap_u64]
    omega
theorem s_codec_extend (b m : List Int) (hb : b.length ≤ 1099511627776) (hl : m.length ≤ 1099511627776) : CallsA Tryz.prog F_codec_extend [encD 1 encU8 0 b, encD 1 encU8 0 m] [] (encD 1 encU8 0 (b ++ m)) [] := by
  refine en1 hm shOk Tryz.func94 rfl rfl ?_
  simp only [go_sem]
  simp only [Option.toList_some, Option.toList_none, Int.sub_zero, Int.toNat_natCast, go_sem]
  refine ⟨⟨by omega, by omega, by omega⟩, ⟨by omega, (by simp only [maxLen]; omega)⟩, ?_⟩
  exact dsl_app rfl (fun _ _ => rfl) rfl
theorem w8p (m : Nat) (h : m ≤ 8) : IntKind.u8.wrap (IntKind.i64.wrap ((m : Int) + 16)) = (m : Int) + 16 := by simp only [IntKind.wrap_u8, IntKind.wrap_i64]; omega
theorem w8n (m : Nat) (h : m ≤ 8) : IntKind.u8.wrap (m : Int) = (m : Int) + 0 := by simp only [IntKind.wrap_u8]; omega
theorem s_codec_AppendInt (b : List Int) (n : Int) (hb : b.length ≤ 549755813888) : CallsA Tryz.prog F_codec_AppendInt [encD 1 encU8 0 b, .sc (.int .i64 n)] [] (encD 1 encU8 0 (b ++ intB n)) [] := by
  refine en1 hm shOk Tryz.func44 rfl rfl ?_
  simp only [go_sem]
  refine CallGi_flat (s_codec_magnitude n) rfl ?_
  simp only [go_sem]
  have hU := mag_lt n
  refine Wpi_loop hm (ι := {k : Nat // k ≤ 8 ∧ ∀ j, j < k → 0 < mag n / 256 ^ j}) (fun k => [(0, .share, encD 1 encU8 0 b), (1, .share, .sc (.int .i64 n)), (5, .thaw, encD 1 encU8 0 (lowD (mag n) k.1)), (6, .share, .sc (.int .u64 ((mag n / 256 ^ k.1 : Nat) : Int)))])
    (fun _ => []) (fun k => 8 - k.1) ⟨0, by omega, fun j hj => by omega⟩ ?_ ?_
  · refine weakE_ [] [] ?_
    simp only [go_sem]
    exact ⟨avle_nilD rfl, by rw [Nat.pow_zero, Nat.div_one]⟩
  · rintro ⟨k, hk, hp⟩
    have hll := lowD_len (mag n) k
    have hl1 : lowD (mag n) (k + 1) = ((mag n / 256 ^ k % 256 : Nat) : Int) :: lowD (mag n) k := rfl
    have hsh : mag n / 256 ^ (k + 1) = mag n / 256 ^ k / 256 := by rw [Nat.pow_succ, Nat.div_div_eq_div_mul]
    simp only [go_sem]
    by_cases hz : 0 < mag n / 256 ^ k
    · have hk8 : k + 1 ≤ 8 := by
        rcases Nat.lt_or_ge k 8 with h | h
        · omega
        · obtain rfl : k = 8 := by omega
          exfalso
          have : mag n / 256 ^ 8 = 0 := Nat.div_eq_of_lt hU
          rw [this] at hz; exact absurd hz (by decide)
      have hp2 : ∀ j, j < k + 1 → 0 < mag n / 256 ^ j := fun j hj => by
        rcases Nat.lt_succ_iff_lt_or_eq.1 hj with h | rfl
        · exact hp j h
        · exact hz
      rw [if_pos (by exact Int.ofNat_lt.2 hz)]
      refine ⟨⟨by omega, (by simp only [maxLen]; omega)⟩, by omega, ?_⟩
      refine loop_next ⟨k + 1, hk8, hp2⟩ (by show 8 - (k + 1) < 8 - k; omega) (weakE_ [] [] ?_)
      simp only [hsh, hl1, go_sem]
      generalize mag n / 256 ^ k = u
      generalize lowD (mag n) k = D
      have ew : IntKind.u8.wrap (u : Int) = ((u % 256 : Nat) : Int) := by simp only [IntKind.wrap_u8]; omega
      have ed : Int.fdiv (u : Int) (2 ^ min 8 64) = ((u / 256 : Nat) : Int) := by
        have e8 : (2 : Int) ^ min 8 64 = 256 := by decide
        rw [e8, Int.fdiv_eq_ediv_of_nonneg _ (by decide)]; omega
      rw [ew, ed]
      generalize ((u % 256 : Nat) : Int) = c
      refine ⟨rfl, dsl_app (enc := encU8) (d := 0) (l := [c]) (m := D) rfl (fun i hi => ?_) rfl, rfl⟩
      have hi : i < 1 := hi
      obtain rfl : i = 0 := by omega
      rfl
    · have hz0 : mag n / 256 ^ k = 0 := Nat.eq_zero_of_not_pos hz
      rw [if_neg (by rw [hz0]; decide)]
      have hnd := ndig_eq hk hp hz0
      have hdig : lowD (mag n) k = digB n := by unfold digB; rw [hnd]
      have hiB : intB n = [((lowD (mag n) k).length : Int) + if n < 0 then 16 else 0] ++ lowD (mag n) k := by unfold intB; rw [hdig]; rfl
      by_cases hn : n < 0
      · rw [if_pos hn] at hiB ⊢
        refine CallGi_thaw (s_codec_extend b [((lowD (mag n) k).length : Int) + 16] (by omega) (by simp)) ?_
        simp only [argsC, go_sem]
        have hw8 : IntKind.u8.wrap (IntKind.i64.wrap (((lowD (mag n) k).length : Int) + 16)) = ((lowD (mag n) k).length : Int) + 16 := w8p _ (by rw [hll]; exact hk)
        simp only [hw8]
        refine ⟨avle_lit2 (l := [((lowD (mag n) k).length : Int) + 16]) (fun _ _ => rfl) rfl rfl rfl, ?_⟩
        refine CallGi_flat (s_codec_extend (b ++ [((lowD (mag n) k).length : Int) + 16]) (lowD (mag n) k) (by simp only [List.length_append, List.length_singleton]; omega) (by omega)) rfl ?_
        simp only [hiB, List.length_append, go_sem]
      · rw [if_neg hn] at hiB ⊢
        refine CallGi_thaw (s_codec_extend b [((lowD (mag n) k).length : Int) + 0] (by omega) (by simp)) ?_
        simp only [argsC, go_sem]
        have hw8 : IntKind.u8.wrap ((lowD (mag n) k).length : Int) = ((lowD (mag n) k).length : Int) + 0 := w8n _ (by rw [hll]; exact hk)
        simp only [hw8]
        refine ⟨avle_lit2 (l := [((lowD (mag n) k).length : Int) + 0]) (fun _ _ => rfl) rfl rfl rfl, ?_⟩
        refine CallGi_flat (s_codec_extend (b ++ [((lowD (mag n) k).length : Int) + 0]) (lowD (mag n) k) (by simp only [List.length_append, List.length_singleton]; omega) (by omega)) rfl ?_
        simp only [hiB, List.length_append, go_sem]
def boolB (x : Bool) : List Int := [if x = true then 1 else 0]
def vecB (v : Vec) : List Int := intB v.X ++ intB v.Y
def intsB (l : List Int) : List Int := l.flatMap intB
def boolsB (l : List Bool) : List Int := l.flatMap boolB
def vecsB (l : List Vec) : List Int := l.flatMap vecB
theorem boolB_len (x : Bool) : (boolB x).length = 1 := rfl
theorem vecB_len (v : Vec) : (vecB v).length ≤ 20 := by have := intB_len v.X; have := intB_len v.Y; unfold vecB; rw [List.length_append]; omega
theorem fm_len {α : Type} {f : α → List Int} {c : Nat} (h : ∀ a, (f a).length ≤ c) : ∀ l : List α, (l.flatMap f).length ≤ c * l.length
  | [] => by simp
  | a :: l => by have := fm_len h l; have := h a; rw [List.flatMap_cons, List.length_append, List.length_cons, Nat.mul_add]; omega
theorem intsB_len (l : List Int) : (intsB l).length ≤ 10 * l.length := fm_len intB_len l
theorem boolsB_len (l : List Bool) : (boolsB l).length ≤ 1 * l.length := fm_len (fun x => Nat.le_of_eq (boolB_len x)) l
theorem vecsB_len (l : List Vec) : (vecsB l).length ≤ 20 * l.length := fm_len vecB_len l
theorem fm_snoc {α : Type} {f : α → List Int} {l : List α} {i : Nat} (d : α) (h : i < l.length) : (l.take (i + 1)).flatMap f = (l.take i).flatMap f ++ f (l.getD i d) := by
  rw [take_snoc d h, List.flatMap_append, List.flatMap_singleton]
theorem s_codec_AppendBool (b : List Int) (x : Bool) (hb : b.length ≤ 549755813888) : CallsA Tryz.prog F_codec_AppendBool [encD 1 encU8 0 b, .sc (.bool x)] [] (encD 1 encU8 0 (b ++ boolB x)) [] := by
  refine en1 hm shOk Tryz.func95 rfl rfl ?_
  simp only [go_sem]
  cases x with
  | true =>
    rw [if_pos rfl]
    refine CallGi_thaw (s_codec_extend b [1] (by omega) (by simp)) ?_
    simp only [argsC, go_sem]
    refine ⟨avle_lit2 (l := ([1] : List Int)) (fun _ _ => rfl) rfl rfl rfl, ?_⟩
    exact avle_refl _
  | false =>
    rw [if_neg (by simp)]
    refine CallGi_thaw (s_codec_extend b [0] (by omega) (by simp)) ?_
    simp only [argsC, go_sem]
    refine ⟨avle_lit2 (l := ([0] : List Int)) (fun _ _ => rfl) rfl rfl rfl, ?_⟩
    exact avle_refl _
theorem s_codec_AppendVec (b : List Int) (v : Vec) (hb : b.length ≤ 500000000000) : CallsA Tryz.prog F_codec_AppendVec [encD 1 encU8 0 b, .agg v.enc] [] (encD 1 encU8 0 (b ++ vecB v)) [] := by
  have h1 := intB_len v.X
  refine en1 hm shOk Tryz.func45 rfl rfl ?_
  simp only [go_sem]
  refine CallGi_flat (s_codec_AppendInt b v.X (by omega)) rfl ?_
  simp only [go_sem]
  refine CallGi_flat (s_codec_AppendInt (b ++ intB v.X) v.Y (by rw [List.length_append]; omega)) rfl ?_
  simp only [vecB, go_sem]
end Go.Abs
end
section
namespace Go.Abs
open Go.Proofs
open Api
def encB1 (x : Bool) : List AV := [.sc (.bool x)]
def eO (b : List Int) : List (Nat × AObj) := [(1, .box [encD 1 encU8 0 b])]
attribute [go_sem] encB1 eO
theorem okO_eO (b : List Int) : okO (eO b) := by
  refine ⟨by simp [go_sem], ?_⟩
  simp [go_sem, idsL, AV.ids]
theorem s_enc_ints (b : List Int) (l : List Int) (hb : b.length + 10 * l.length ≤ 400000000000) : CallsA Tryz.prog F_snapshot_encoder_ints [.ptr 1 0 0 1, encD 1 encInt 0 l] (eO b) (.tup []) (eO (b ++ intsB l)) := by
  refine enOT hm shOk Tryz.func18 rfl rfl ?_
  simp only [go_sem]
  refine Wpi_loop hm (ι := {i : Nat // i ≤ l.length}) (fun i => [(0, .share, .ptr 1 0 0 1), (6, .share, encD 1 encInt 0 l), (7, .share, .sc (.int .i64 l.length)), (8, .share, .sc (.int .i64 i.1))])
    (fun i => eO (b ++ (l.take i.1).flatMap intB)) (fun i => l.length - i.1) ⟨0, by omega⟩ ?_ ?_
  · refine weakE_ [] [] ?_
    simp only [List.take_zero, List.flatMap_nil, List.append_nil, go_sem]
    try rfl
  · rintro ⟨i, hi⟩
    simp only [go_sem]
    by_cases hlt : i < l.length
    · rw [if_pos (by omega)]
      have hl := fm_len (f := intB) intB_len (l.take i)
      rw [List.length_take] at hl
      have hs := fm_snoc (f := intB) (l := l) 0 hlt
      refine ⟨ok_, ?_⟩
      refine CallGi_flat (s_codec_AppendInt (b ++ (l.take i).flatMap intB) (l.getD i 0) (by rw [List.length_append]; omega)) rfl ?_
      simp only [go_sem]
      refine loop_next ⟨i + 1, by omega⟩ (by show l.length - (i + 1) < l.length - i; omega) (weakE_ [] [] ?_)
      simp only [hs, go_sem]
      exact (by rw [IntKind.wrap_i64]; omega)
    · rw [if_neg (by omega)]
      obtain rfl : i = l.length := by omega
      refine retW_of [] [] [] rfl rfl (by simp [go_sem]) (by simp [assoc, go_sem]) (by simp [go_sem]) ?_
      simp only [List.take_length, intsB, go_sem]
theorem s_enc_bools (b : List Int) (l : List Bool) (hb : b.length + 1 * l.length ≤ 400000000000) : CallsA Tryz.prog F_snapshot_encoder_bools [.ptr 1 0 0 1, encD 1 encB1 false l] (eO b) (.tup []) (eO (b ++ boolsB l)) := by
  refine enOT hm shOk Tryz.func46 rfl rfl ?_
  simp only [go_sem]
  refine Wpi_loop hm (ι := {i : Nat // i ≤ l.length}) (fun i => [(0, .share, .ptr 1 0 0 1), (6, .share, encD 1 encB1 false l), (7, .share, .sc (.int .i64 l.length)), (8, .share, .sc (.int .i64 i.1))])
    (fun i => eO (b ++ (l.take i.1).flatMap boolB)) (fun i => l.length - i.1) ⟨0, by omega⟩ ?_ ?_
  · refine weakE_ [] [] ?_
    simp only [List.take_zero, List.flatMap_nil, List.append_nil, go_sem]
    try rfl
  · rintro ⟨i, hi⟩
    simp only [go_sem]
    by_cases hlt : i < l.length
    · rw [if_pos (by omega)]
      have hl := fm_len (f := boolB) (fun x => Nat.le_of_eq (boolB_len x)) (l.take i)
      rw [List.length_take] at hl
      have hs := fm_snoc (f := boolB) (l := l) false hlt
      refine ⟨ok_, ?_⟩
      refine CallGi_flat (s_codec_AppendBool (b ++ (l.take i).flatMap boolB) (l.getD i false) (by rw [List.length_append]; omega)) rfl ?_
      simp only [go_sem]
      refine loop_next ⟨i + 1, by omega⟩ (by show l.length - (i + 1) < l.length - i; omega) (weakE_ [] [] ?_)
      simp only [hs, go_sem]
      exact (by rw [IntKind.wrap_i64]; omega)
    · rw [if_neg (by omega)]
      obtain rfl : i = l.length := by omega
      refine retW_of [] [] [] rfl rfl (by simp [go_sem]) (by simp [assoc, go_sem]) (by simp [go_sem]) ?_
      simp only [List.take_length, boolsB, go_sem]
theorem s_enc_vecs (b : List Int) (l : List Vec) (hb : b.length + 20 * l.length ≤ 400000000000) : CallsA Tryz.prog F_snapshot_encoder_vecs [.ptr 1 0 0 1, encD 2 Vec.enc default l] (eO b) (.tup []) (eO (b ++ vecsB l)) := by
  refine enOT hm shOk Tryz.func19 rfl rfl ?_
  simp only [go_sem]
  refine Wpi_loop hm (ι := {i : Nat // i ≤ l.length}) (fun i => [(0, .share, .ptr 1 0 0 1), (6, .share, encD 2 Vec.enc default l), (7, .share, .sc (.int .i64 l.length)), (8, .share, .sc (.int .i64 i.1))])
    (fun i => eO (b ++ (l.take i.1).flatMap vecB)) (fun i => l.length - i.1) ⟨0, by omega⟩ ?_ ?_
  · refine weakE_ [] [] ?_
    simp only [List.take_zero, List.flatMap_nil, List.append_nil, go_sem]
    try rfl
  · rintro ⟨i, hi⟩
    simp only [go_sem]
    by_cases hlt : i < l.length
    · rw [if_pos (by omega)]
      have hl := fm_len (f := vecB) vecB_len (l.take i)
      rw [List.length_take] at hl
      have hs := fm_snoc (f := vecB) (l := l) default hlt
      refine ⟨ok_, ?_⟩
      refine CallGi_flat (s_codec_AppendVec (b ++ (l.take i).flatMap vecB) (l.getD i default) (by rw [List.length_append]; omega)) rfl ?_
      simp only [go_sem]
      refine loop_next ⟨i + 1, by omega⟩ (by show l.length - (i + 1) < l.length - i; omega) (weakE_ [] [] ?_)
      simp only [hs, go_sem]
      exact (by rw [IntKind.wrap_i64]; omega)
    · rw [if_neg (by omega)]
      obtain rfl : i = l.length := by omega
      refine retW_of [] [] [] rfl rfl (by simp [go_sem]) (by simp [assoc, go_sem]) (by simp [go_sem]) ?_
      simp only [List.take_length, vecsB, go_sem]
end Go.Abs
end
section
namespace Go.Abs
open Go.Proofs
open Api
theorem CallGi_subw {P : Program} {m : Nat → Option AObj} {f : FuncId} {avs : List AV} {b : Bool} {Q : ContR} {O O' : List (Nat × AObj)} {r : AV} (hc : CallsA P f avs O r O') (h : okO O) (hk : O'.map (·.1) = O.map (·.1)) (hm : ∀ p ∈ O, m p.1 = some p.2)
    (ha : ∀ a ∈ avs, ∀ i ∈ a.ids, (ofL O i).isSome) (hb : b = true) (hK : @Ri Q b ⟨some r, O'⟩) : @CallGi P m f avs b Q := by
  rw [← renO_id O'] at hK
  have hiff : ∀ i, (ofL O' i).isSome ↔ (ofL O i).isSome := fun i => by
    have key : ∀ (l : List (Nat × AObj)), (l.map (·.1)).Nodup → ((ofL l i).isSome ↔ i ∈ l.map (·.1)) := fun l hl => by
      constructor
      · intro hs
        obtain ⟨o, ho⟩ := Option.isSome_iff_exists.1 hs
        exact List.mem_map_of_mem (f := (·.1)) (ofL_mem' hl ho)
      · intro hs
        rw [List.mem_map] at hs
        obtain ⟨p, hp, rfl⟩ := hs
        rw [ofL_mem_eq hl hp]; rfl
    rw [key O' (by rw [hk]; exact h.1), key O h.1, hk]
  refine ⟨⟨some r, renO id O'⟩, fun _ => ?_, fun _ => hb, hK⟩
  have := CallDoes.mk (P := P) (m := m) (avs.map fun _ => true) avs O r O' id [] false hc (argsOk_same ha)
    (fun i o hi => by rw [aobj_ren_id]; exact hm _ (ofL_mem' h.1 hi))
    (fun i cs hi j hj => h.2 _ (ofL_mem' h.1 hi) cs rfl j hj) (fun i hi => (hiff i).2 hi) (fun i hi => .inl ((hiff i).1 hi)) (by show (O'.map (·.1)).Nodup; rw [hk]; exact h.1) (fun e => by cases e)
  simpa [AV.ren_id] using this
end Go.Abs
end
section
namespace Go.Abs
open Go.Proofs
open Api
def keyB (k : PairKey) : List Int := intsB [k.BodyA, k.FixtureA, k.BodyB, k.FixtureB]
theorem keyB_len (k : PairKey) : (keyB k).length ≤ 40 := intsB_len _
theorem s_enc_key (b : List Int) (k : PairKey) (hb : b.length ≤ 300000000000) : CallsA Tryz.prog F_snapshot_encoder_key [.ptr 1 0 0 1, .agg k.enc] (eO b) (.tup []) (eO (b ++ keyB k)) := by
  refine enOT hm shOk Tryz.func23 rfl rfl ?_
  simp only [go_sem]
  refine CallGi_obj [true, false] [] (s_enc_ints b [k.BodyA, k.FixtureA, k.BodyB, k.FixtureB] (by simp only [List.length_append, List.length_cons, List.length_nil]; omega)) (by simp [go_sem]) (by simp [go_sem]) (by simp [go_sem]) (by simp [go_sem]) ?_
  simp only [argsOC, go_sem]
  refine ⟨avle_lit2 (l := [k.BodyA, k.FixtureA, k.BodyB, k.FixtureB]) (fun _ _ => rfl) rfl rfl rfl, ?_⟩
  refine retW_of [] [] [] rfl rfl (by simp [go_sem]) (by simp [assoc, go_sem]) (by simp [go_sem]) ?_
  simp only [keyB, go_sem]
def fixB (x : Fixture) : List Int := (intsB [x.Shape.Kind, x.Shape.Radius, (x.Shape.Vertices.length : Int)]) ++ (vecsB x.Shape.Vertices) ++ (intsB [x.Density, x.Friction, x.Restitution]) ++ (boolsB [x.Sensor]) ++ (intsB [x.Category, x.Mask, x.Group])
theorem fixB_len (x : Fixture) : (fixB x).length ≤ 100 + 20 * x.Shape.Vertices.length := by
  have q0 : (intsB [x.Shape.Kind, x.Shape.Radius, (x.Shape.Vertices.length : Int)]).length ≤ 30 := intsB_len _
  have q1 := vecsB_len x.Shape.Vertices
  have q2 : (intsB [x.Density, x.Friction, x.Restitution]).length ≤ 30 := intsB_len _
  have q3 : (boolsB [x.Sensor]).length ≤ 1 := boolsB_len _
  have q4 : (intsB [x.Category, x.Mask, x.Group]).length ≤ 30 := intsB_len _
  unfold fixB; simp only [List.length_append]; omega
theorem s_enc_fixture (b : List Int) (x : Fixture) (hb : b.length ≤ 200000000000) (hx : x.Shape.Vertices.length ≤ 1048576) : CallsA Tryz.prog F_snapshot_encoder_fixture [.ptr 1 0 0 1, .agg x.enc] (eO b) (.tup []) (eO (b ++ fixB x)) := by
  have q0 : (intsB [x.Shape.Kind, x.Shape.Radius, (x.Shape.Vertices.length : Int)]).length ≤ 30 := intsB_len _
  have q1 := vecsB_len x.Shape.Vertices
  have q2 : (intsB [x.Density, x.Friction, x.Restitution]).length ≤ 30 := intsB_len _
  have q3 : (boolsB [x.Sensor]).length ≤ 1 := boolsB_len _
  have q4 : (intsB [x.Category, x.Mask, x.Group]).length ≤ 30 := intsB_len _
  refine enOT hm shOk Tryz.func47 rfl rfl ?_
  simp only [go_sem]
  refine CallGi_obj [true, false] [] (s_enc_ints b [x.Shape.Kind, x.Shape.Radius, (x.Shape.Vertices.length : Int)] (by simp only [List.length_append, List.length_cons, List.length_nil]; omega)) (by simp [go_sem]) (by simp [go_sem]) (by simp [go_sem]) (by simp [go_sem]) ?_
  simp only [argsOC, go_sem]
  refine ⟨avle_lit2 (l := [x.Shape.Kind, x.Shape.Radius, (x.Shape.Vertices.length : Int)]) (fun _ _ => rfl) rfl rfl rfl, ?_⟩
  refine CallGi_obj [true, true] [] (s_enc_vecs (b ++ intsB [x.Shape.Kind, x.Shape.Radius, (x.Shape.Vertices.length : Int)]) x.Shape.Vertices (by simp only [List.length_append, List.length_cons, List.length_nil]; omega)) (by simp [go_sem]) (by simp [go_sem]) (by simp [go_sem]) (by simp [go_sem]) ?_
  simp only [argsOC, go_sem]
  refine CallGi_obj [true, false] [] (s_enc_ints ((b ++ intsB [x.Shape.Kind, x.Shape.Radius, (x.Shape.Vertices.length : Int)]) ++ vecsB x.Shape.Vertices) [x.Density, x.Friction, x.Restitution] (by simp only [List.length_append, List.length_cons, List.length_nil]; omega)) (by simp [go_sem]) (by simp [go_sem]) (by simp [go_sem]) (by simp [go_sem]) ?_
  simp only [argsOC, go_sem]
  refine ⟨avle_lit2 (l := [x.Density, x.Friction, x.Restitution]) (fun _ _ => rfl) rfl rfl rfl, ?_⟩
  refine CallGi_obj [true, false] [] (s_enc_bools (((b ++ intsB [x.Shape.Kind, x.Shape.Radius, (x.Shape.Vertices.length : Int)]) ++ vecsB x.Shape.Vertices) ++ intsB [x.Density, x.Friction, x.Restitution]) [x.Sensor] (by simp only [List.length_append, List.length_cons, List.length_nil]; omega)) (by simp [go_sem]) (by simp [go_sem]) (by simp [go_sem]) (by simp [go_sem]) ?_
  simp only [argsOC, go_sem]
  refine ⟨avle_lit2 (l := [x.Sensor]) (fun _ _ => rfl) rfl rfl rfl, ?_⟩
  refine CallGi_obj [true, false] [] (s_enc_ints ((((b ++ intsB [x.Shape.Kind, x.Shape.Radius, (x.Shape.Vertices.length : Int)]) ++ vecsB x.Shape.Vertices) ++ intsB [x.Density, x.Friction, x.Restitution]) ++ boolsB [x.Sensor]) [x.Category, x.Mask, x.Group] (by simp only [List.length_append, List.length_cons, List.length_nil]; omega)) (by simp [go_sem]) (by simp [go_sem]) (by simp [go_sem]) (by simp [go_sem]) ?_
  simp only [argsOC, go_sem]
  refine ⟨avle_lit2 (l := [x.Category, x.Mask, x.Group]) (fun _ _ => rfl) rfl rfl rfl, ?_⟩
  refine retW_of [] [] [] rfl rfl (by simp [go_sem]) (by simp [assoc, go_sem]) (by simp [go_sem]) ?_
  simp only [fixB, go_sem]
theorem fm_lenP {α : Type} {f : α → List Int} {c : Nat} : ∀ {l : List α}, (∀ a ∈ l, (f a).length ≤ c) → (l.flatMap f).length ≤ c * l.length
  | [], _ => by simp
  | a :: l, h => by
    have := fm_lenP (f := f) (c := c) (l := l) fun x hx => h x (List.mem_cons_of_mem _ hx)
    have := h a (List.mem_cons_self ..)
    rw [List.flatMap_cons, List.length_append, List.length_cons, Nat.mul_add]; omega
def Bfew (x : Body) : Prop := x.Fixtures.length ≤ 64 ∧ ∀ f ∈ x.Fixtures, f.Shape.Vertices.length ≤ 64
theorem fix_few {x : Body} (h : Bfew x) : ∀ f ∈ x.Fixtures, (fixB f).length ≤ 1400 := fun f hf => by
  have := fixB_len f; have := h.2 f hf; omega
def bodH (x : Body) : List Int := (intsB [x.ID, x.Kind]) ++ (vecsB [x.Transform.Position]) ++ (intsB [x.Transform.Angle]) ++ (vecsB [x.Velocity]) ++ (intsB [x.AngularVelocity]) ++ (vecsB [x.Force]) ++ (intsB [x.Torque, x.LinearDamping, x.AngularDamping, x.GravityScale]) ++ (boolsB [x.Bullet, x.FixedRotation, x.NoSleep, x.Asleep]) ++ (intsB [x.IdleSteps, (x.Fixtures.length : Int)])
def bodB (x : Body) : List Int := bodH x ++ x.Fixtures.flatMap fixB
theorem bodH_len (x : Body) : (bodH x).length ≤ 300 := by
  have q0 : (intsB [x.ID, x.Kind]).length ≤ 20 := intsB_len _
  have q1 : (vecsB [x.Transform.Position]).length ≤ 20 := vecsB_len _
  have q2 : (intsB [x.Transform.Angle]).length ≤ 10 := intsB_len _
  have q3 : (vecsB [x.Velocity]).length ≤ 20 := vecsB_len _
  have q4 : (intsB [x.AngularVelocity]).length ≤ 10 := intsB_len _
  have q5 : (vecsB [x.Force]).length ≤ 20 := vecsB_len _
  have q6 : (intsB [x.Torque, x.LinearDamping, x.AngularDamping, x.GravityScale]).length ≤ 40 := intsB_len _
  have q7 : (boolsB [x.Bullet, x.FixedRotation, x.NoSleep, x.Asleep]).length ≤ 4 := boolsB_len _
  have q8 : (intsB [x.IdleSteps, (x.Fixtures.length : Int)]).length ≤ 20 := intsB_len _
  unfold bodH; simp only [List.length_append]; omega
theorem bodB_len {x : Body} (h : Bfew x) : (bodB x).length ≤ 90000 := by
  have h1 := bodH_len x
  have h2 := fm_lenP (fix_few h)
  have h3 := h.1
  unfold bodB; rw [List.length_append]; omega
theorem s_enc_body (b : List Int) (x : Body) (hb : b.length ≤ 100000000000) (hx : Bfew x) : CallsA Tryz.prog F_snapshot_encoder_body [.ptr 1 0 0 1, .agg x.enc] (eO b) (.tup []) (eO (b ++ bodB x)) := by
  have q0 : (intsB [x.ID, x.Kind]).length ≤ 20 := intsB_len _
  have q1 : (vecsB [x.Transform.Position]).length ≤ 20 := vecsB_len _
  have q2 : (intsB [x.Transform.Angle]).length ≤ 10 := intsB_len _
  have q3 : (vecsB [x.Velocity]).length ≤ 20 := vecsB_len _
  have q4 : (intsB [x.AngularVelocity]).length ≤ 10 := intsB_len _
  have q5 : (vecsB [x.Force]).length ≤ 20 := vecsB_len _
  have q6 : (intsB [x.Torque, x.LinearDamping, x.AngularDamping, x.GravityScale]).length ≤ 40 := intsB_len _
  have q7 : (boolsB [x.Bullet, x.FixedRotation, x.NoSleep, x.Asleep]).length ≤ 4 := boolsB_len _
  have q8 : (intsB [x.IdleSteps, (x.Fixtures.length : Int)]).length ≤ 20 := intsB_len _
  have hh := bodH_len x
  have hx1 := hx.1
  refine enOT hm shOk Tryz.func20 rfl rfl ?_
  simp only [go_sem]
  refine CallGi_obj [true, false] [] (s_enc_ints b [x.ID, x.Kind] (by simp only [List.length_append, List.length_cons, List.length_nil]; omega)) (by simp [go_sem]) (by simp [go_sem]) (by simp [go_sem]) (by simp [go_sem]) ?_
  simp only [argsOC, go_sem]
  refine ⟨avle_lit2 (l := [x.ID, x.Kind]) (fun _ _ => rfl) rfl rfl rfl, ?_⟩
  refine CallGi_obj [true, false] [] (s_enc_vecs (b ++ intsB [x.ID, x.Kind]) [x.Transform.Position] (by simp only [List.length_append, List.length_cons, List.length_nil]; omega)) (by simp [go_sem]) (by simp [go_sem]) (by simp [go_sem]) (by simp [go_sem]) ?_
  simp only [argsOC, go_sem]
  refine ⟨avle_lit2 (l := [x.Transform.Position]) (fun _ _ => rfl) rfl rfl rfl, ?_⟩
  refine CallGi_obj [true, false] [] (s_enc_ints ((b ++ intsB [x.ID, x.Kind]) ++ vecsB [x.Transform.Position]) [x.Transform.Angle] (by simp only [List.length_append, List.length_cons, List.length_nil]; omega)) (by simp [go_sem]) (by simp [go_sem]) (by simp [go_sem]) (by simp [go_sem]) ?_
  simp only [argsOC, go_sem]
  refine ⟨avle_lit2 (l := [x.Transform.Angle]) (fun _ _ => rfl) rfl rfl rfl, ?_⟩
  refine CallGi_obj [true, false] [] (s_enc_vecs (((b ++ intsB [x.ID, x.Kind]) ++ vecsB [x.Transform.Position]) ++ intsB [x.Transform.Angle]) [x.Velocity] (by simp only [List.length_append, List.length_cons, List.length_nil]; omega)) (by simp [go_sem]) (by simp [go_sem]) (by simp [go_sem]) (by simp [go_sem]) ?_
  simp only [argsOC, go_sem]
  refine ⟨avle_lit2 (l := [x.Velocity]) (fun _ _ => rfl) rfl rfl rfl, ?_⟩
  refine CallGi_obj [true, false] [] (s_enc_ints ((((b ++ intsB [x.ID, x.Kind]) ++ vecsB [x.Transform.Position]) ++ intsB [x.Transform.Angle]) ++ vecsB [x.Velocity]) [x.AngularVelocity] (by simp only [List.length_append, List.length_cons, List.length_nil]; omega)) (by simp [go_sem]) (by simp [go_sem]) (by simp [go_sem]) (by simp [go_sem]) ?_
  simp only [argsOC, go_sem]
  refine ⟨avle_lit2 (l := [x.AngularVelocity]) (fun _ _ => rfl) rfl rfl rfl, ?_⟩
  refine CallGi_obj [true, false] [] (s_enc_vecs (((((b ++ intsB [x.ID, x.Kind]) ++ vecsB [x.Transform.Position]) ++ intsB [x.Transform.Angle]) ++ vecsB [x.Velocity]) ++ intsB [x.AngularVelocity]) [x.Force] (by simp only [List.length_append, List.length_cons, List.length_nil]; omega)) (by simp [go_sem]) (by simp [go_sem]) (by simp [go_sem]) (by simp [go_sem]) ?_
  simp only [argsOC, go_sem]
  refine ⟨avle_lit2 (l := [x.Force]) (fun _ _ => rfl) rfl rfl rfl, ?_⟩
  refine CallGi_obj [true, false] [] (s_enc_ints ((((((b ++ intsB [x.ID, x.Kind]) ++ vecsB [x.Transform.Position]) ++ intsB [x.Transform.Angle]) ++ vecsB [x.Velocity]) ++ intsB [x.AngularVelocity]) ++ vecsB [x.Force]) [x.Torque, x.LinearDamping, x.AngularDamping, x.GravityScale] (by simp only [List.length_append, List.length_cons, List.length_nil]; omega)) (by simp [go_sem]) (by simp [go_sem]) (by simp [go_sem]) (by simp [go_sem]) ?_
  simp only [argsOC, go_sem]
  refine ⟨avle_lit2 (l := [x.Torque, x.LinearDamping, x.AngularDamping, x.GravityScale]) (fun _ _ => rfl) rfl rfl rfl, ?_⟩
  refine CallGi_obj [true, false] [] (s_enc_bools (((((((b ++ intsB [x.ID, x.Kind]) ++ vecsB [x.Transform.Position]) ++ intsB [x.Transform.Angle]) ++ vecsB [x.Velocity]) ++ intsB [x.AngularVelocity]) ++ vecsB [x.Force]) ++ intsB [x.Torque, x.LinearDamping, x.AngularDamping, x.GravityScale]) [x.Bullet, x.FixedRotation, x.NoSleep, x.Asleep] (by simp only [List.length_append, List.length_cons, List.length_nil]; omega)) (by simp [go_sem]) (by simp [go_sem]) (by simp [go_sem]) (by simp [go_sem]) ?_
  simp only [argsOC, go_sem]
  refine ⟨avle_lit2 (l := [x.Bullet, x.FixedRotation, x.NoSleep, x.Asleep]) (fun _ _ => rfl) rfl rfl rfl, ?_⟩
  refine CallGi_obj [true, false] [] (s_enc_ints ((((((((b ++ intsB [x.ID, x.Kind]) ++ vecsB [x.Transform.Position]) ++ intsB [x.Transform.Angle]) ++ vecsB [x.Velocity]) ++ intsB [x.AngularVelocity]) ++ vecsB [x.Force]) ++ intsB [x.Torque, x.LinearDamping, x.AngularDamping, x.GravityScale]) ++ boolsB [x.Bullet, x.FixedRotation, x.NoSleep, x.Asleep]) [x.IdleSteps, (x.Fixtures.length : Int)] (by simp only [List.length_append, List.length_cons, List.length_nil]; omega)) (by simp [go_sem]) (by simp [go_sem]) (by simp [go_sem]) (by simp [go_sem]) ?_
  simp only [argsOC, go_sem]
  refine ⟨avle_lit2 (l := [x.IdleSteps, (x.Fixtures.length : Int)]) (fun _ _ => rfl) rfl rfl rfl, ?_⟩
  unfold bodB
  refine Wpi_loop hm (ι := {i : Nat // i ≤ x.Fixtures.length}) (fun i => [(0, .share, .ptr 1 0 0 1), (71, .share, encD 10 Fixture.enc default x.Fixtures), (72, .share, .sc (.int .i64 x.Fixtures.length)), (73, .share, .sc (.int .i64 i.1))])
    (fun i => eO (b ++ (bodH x ++ (x.Fixtures.take i.1).flatMap fixB))) (fun i => x.Fixtures.length - i.1) ⟨0, by omega⟩ ?_ ?_
  · refine weakE_ [] [] ?_
    simp only [List.take_zero, List.flatMap_nil, List.append_nil, bodH, go_sem]
    try trivial
  · rintro ⟨i, hi⟩
    simp only [go_sem]
    by_cases hlt : i < x.Fixtures.length
    · rw [if_pos (by omega)]
      have hl := fm_lenP (f := fixB) (c := 1400) (l := x.Fixtures.take i) (fun f hf => fix_few hx f (List.mem_of_mem_take hf))
      rw [List.length_take] at hl
      have hs := fm_snoc (f := fixB) (l := x.Fixtures) default hlt
      refine ⟨ok_, ?_⟩
      refine CallGi_subw (s_enc_fixture (b ++ (bodH x ++ (x.Fixtures.take i).flatMap fixB)) (x.Fixtures.getD i default) (by simp only [List.length_append]; omega) (by have := hx.2 _ (mem_getD default hlt); omega)) (okO_eO _) rfl (by simp [go_sem]) (by simp [go_sem, AV.ids]) rfl ?_
      simp only [go_sem]
      refine loop_next ⟨i + 1, by omega⟩ (by show x.Fixtures.length - (i + 1) < x.Fixtures.length - i; omega) (weakE_ [] [] ?_)
      simp only [hs, go_sem]
      exact (by rw [IntKind.wrap_i64]; omega)
    · rw [if_neg (by omega)]
      obtain rfl : i = x.Fixtures.length := by omega
      refine retW_of [] [] [] rfl rfl (by simp [go_sem]) (by simp [assoc, go_sem]) (by simp [go_sem]) ?_
      simp only [List.take_length, go_sem]
def jntB (x : Joint) : List Int := (intsB [x.ID, x.Kind, x.BodyA, x.BodyB]) ++ (vecsB [x.AnchorA, x.AnchorB, x.Axis]) ++ (intsB [x.ReferenceAngle]) ++ (boolsB [x.EnableLimit]) ++ (intsB [x.Lower, x.Upper]) ++ (boolsB [x.EnableMotor]) ++ (intsB [x.MotorSpeed, x.MaxForce, x.Softness, x.BreakForce]) ++ (boolsB [x.CollideConnected]) ++ (intsB [x.Impulses.I0, x.Impulses.I1, x.Impulses.I2, x.Impulses.I3])
theorem jntB_len (x : Joint) : (jntB x).length ≤ 300 := by
  have q0 : (intsB [x.ID, x.Kind, x.BodyA, x.BodyB]).length ≤ 40 := intsB_len _
  have q1 : (vecsB [x.AnchorA, x.AnchorB, x.Axis]).length ≤ 60 := vecsB_len _
  have q2 : (intsB [x.ReferenceAngle]).length ≤ 10 := intsB_len _
  have q3 : (boolsB [x.EnableLimit]).length ≤ 1 := boolsB_len _
  have q4 : (intsB [x.Lower, x.Upper]).length ≤ 20 := intsB_len _
  have q5 : (boolsB [x.EnableMotor]).length ≤ 1 := boolsB_len _
  have q6 : (intsB [x.MotorSpeed, x.MaxForce, x.Softness, x.BreakForce]).length ≤ 40 := intsB_len _
  have q7 : (boolsB [x.CollideConnected]).length ≤ 1 := boolsB_len _
  have q8 : (intsB [x.Impulses.I0, x.Impulses.I1, x.Impulses.I2, x.Impulses.I3]).length ≤ 40 := intsB_len _
  unfold jntB; simp only [List.length_append]; omega
theorem s_enc_joint (b : List Int) (x : Joint) (hb : b.length ≤ 200000000000) : CallsA Tryz.prog F_snapshot_encoder_joint [.ptr 1 0 0 1, .agg x.enc] (eO b) (.tup []) (eO (b ++ jntB x)) := by
  have q0 : (intsB [x.ID, x.Kind, x.BodyA, x.BodyB]).length ≤ 40 := intsB_len _
  have q1 : (vecsB [x.AnchorA, x.AnchorB, x.Axis]).length ≤ 60 := vecsB_len _
  have q2 : (intsB [x.ReferenceAngle]).length ≤ 10 := intsB_len _
  have q3 : (boolsB [x.EnableLimit]).length ≤ 1 := boolsB_len _
  have q4 : (intsB [x.Lower, x.Upper]).length ≤ 20 := intsB_len _
  have q5 : (boolsB [x.EnableMotor]).length ≤ 1 := boolsB_len _
  have q6 : (intsB [x.MotorSpeed, x.MaxForce, x.Softness, x.BreakForce]).length ≤ 40 := intsB_len _
  have q7 : (boolsB [x.CollideConnected]).length ≤ 1 := boolsB_len _
  refine enOT hm shOk Tryz.func21 rfl rfl ?_
  simp only [go_sem]
  refine CallGi_obj [true, false] [] (s_enc_ints b [x.ID, x.Kind, x.BodyA, x.BodyB] (by simp only [List.length_append, List.length_cons, List.length_nil]; omega)) (by simp [go_sem]) (by simp [go_sem]) (by simp [go_sem]) (by simp [go_sem]) ?_
  simp only [argsOC, go_sem]
  refine ⟨avle_lit2 (l := [x.ID, x.Kind, x.BodyA, x.BodyB]) (fun _ _ => rfl) rfl rfl rfl, ?_⟩
  refine CallGi_obj [true, false] [] (s_enc_vecs (b ++ intsB [x.ID, x.Kind, x.BodyA, x.BodyB]) [x.AnchorA, x.AnchorB, x.Axis] (by simp only [List.length_append, List.length_cons, List.length_nil]; omega)) (by simp [go_sem]) (by simp [go_sem]) (by simp [go_sem]) (by simp [go_sem]) ?_
  simp only [argsOC, go_sem]
  refine ⟨avle_lit2 (l := [x.AnchorA, x.AnchorB, x.Axis]) (fun _ _ => rfl) rfl rfl rfl, ?_⟩
  refine CallGi_obj [true, false] [] (s_enc_ints ((b ++ intsB [x.ID, x.Kind, x.BodyA, x.BodyB]) ++ vecsB [x.AnchorA, x.AnchorB, x.Axis]) [x.ReferenceAngle] (by simp only [List.length_append, List.length_cons, List.length_nil]; omega)) (by simp [go_sem]) (by simp [go_sem]) (by simp [go_sem]) (by simp [go_sem]) ?_
  simp only [argsOC, go_sem]
  refine ⟨avle_lit2 (l := [x.ReferenceAngle]) (fun _ _ => rfl) rfl rfl rfl, ?_⟩
  refine CallGi_obj [true, false] [] (s_enc_bools (((b ++ intsB [x.ID, x.Kind, x.BodyA, x.BodyB]) ++ vecsB [x.AnchorA, x.AnchorB, x.Axis]) ++ intsB [x.ReferenceAngle]) [x.EnableLimit] (by simp only [List.length_append, List.length_cons, List.length_nil]; omega)) (by simp [go_sem]) (by simp [go_sem]) (by simp [go_sem]) (by simp [go_sem]) ?_
  simp only [argsOC, go_sem]
  refine ⟨avle_lit2 (l := [x.EnableLimit]) (fun _ _ => rfl) rfl rfl rfl, ?_⟩
  refine CallGi_obj [true, false] [] (s_enc_ints ((((b ++ intsB [x.ID, x.Kind, x.BodyA, x.BodyB]) ++ vecsB [x.AnchorA, x.AnchorB, x.Axis]) ++ intsB [x.ReferenceAngle]) ++ boolsB [x.EnableLimit]) [x.Lower, x.Upper] (by simp only [List.length_append, List.length_cons, List.length_nil]; omega)) (by simp [go_sem]) (by simp [go_sem]) (by simp [go_sem]) (by simp [go_sem]) ?_
  simp only [argsOC, go_sem]
  refine ⟨avle_lit2 (l := [x.Lower, x.Upper]) (fun _ _ => rfl) rfl rfl rfl, ?_⟩
  refine CallGi_obj [true, false] [] (s_enc_bools (((((b ++ intsB [x.ID, x.Kind, x.BodyA, x.BodyB]) ++ vecsB [x.AnchorA, x.AnchorB, x.Axis]) ++ intsB [x.ReferenceAngle]) ++ boolsB [x.EnableLimit]) ++ intsB [x.Lower, x.Upper]) [x.EnableMotor] (by simp only [List.length_append, List.length_cons, List.length_nil]; omega)) (by simp [go_sem]) (by simp [go_sem]) (by simp [go_sem]) (by simp [go_sem]) ?_
  simp only [argsOC, go_sem]
  refine ⟨avle_lit2 (l := [x.EnableMotor]) (fun _ _ => rfl) rfl rfl rfl, ?_⟩
  refine CallGi_obj [true, false] [] (s_enc_ints ((((((b ++ intsB [x.ID, x.Kind, x.BodyA, x.BodyB]) ++ vecsB [x.AnchorA, x.AnchorB, x.Axis]) ++ intsB [x.ReferenceAngle]) ++ boolsB [x.EnableLimit]) ++ intsB [x.Lower, x.Upper]) ++ boolsB [x.EnableMotor]) [x.MotorSpeed, x.MaxForce, x.Softness, x.BreakForce] (by simp only [List.length_append, List.length_cons, List.length_nil]; omega)) (by simp [go_sem]) (by simp [go_sem]) (by simp [go_sem]) (by simp [go_sem]) ?_
  simp only [argsOC, go_sem]
  refine ⟨avle_lit2 (l := [x.MotorSpeed, x.MaxForce, x.Softness, x.BreakForce]) (fun _ _ => rfl) rfl rfl rfl, ?_⟩
  refine CallGi_obj [true, false] [] (s_enc_bools (((((((b ++ intsB [x.ID, x.Kind, x.BodyA, x.BodyB]) ++ vecsB [x.AnchorA, x.AnchorB, x.Axis]) ++ intsB [x.ReferenceAngle]) ++ boolsB [x.EnableLimit]) ++ intsB [x.Lower, x.Upper]) ++ boolsB [x.EnableMotor]) ++ intsB [x.MotorSpeed, x.MaxForce, x.Softness, x.BreakForce]) [x.CollideConnected] (by simp only [List.length_append, List.length_cons, List.length_nil]; omega)) (by simp [go_sem]) (by simp [go_sem]) (by simp [go_sem]) (by simp [go_sem]) ?_
  simp only [argsOC, go_sem]
  refine ⟨avle_lit2 (l := [x.CollideConnected]) (fun _ _ => rfl) rfl rfl rfl, ?_⟩
  refine CallGi_obj [true, false] [] (s_enc_ints ((((((((b ++ intsB [x.ID, x.Kind, x.BodyA, x.BodyB]) ++ vecsB [x.AnchorA, x.AnchorB, x.Axis]) ++ intsB [x.ReferenceAngle]) ++ boolsB [x.EnableLimit]) ++ intsB [x.Lower, x.Upper]) ++ boolsB [x.EnableMotor]) ++ intsB [x.MotorSpeed, x.MaxForce, x.Softness, x.BreakForce]) ++ boolsB [x.CollideConnected]) [x.Impulses.I0, x.Impulses.I1, x.Impulses.I2, x.Impulses.I3] (by simp only [List.length_append, List.length_cons, List.length_nil]; omega)) (by simp [go_sem]) (by simp [go_sem]) (by simp [go_sem]) (by simp [go_sem]) ?_
  simp only [argsOC, go_sem]
  refine ⟨⟨rfl, rfl, fun i hi => ?_⟩, ?_⟩
  · match i, hi with
    | 0, _ => exact avleL_refl _
    | 1, _ => exact avleL_refl _
    | 2, _ => exact avleL_refl _
    | 3, _ => exact avleL_refl _
  refine retW_of [] [] [] rfl rfl (by simp [go_sem]) (by simp [assoc, go_sem]) (by simp [go_sem]) ?_
  simp only [jntB, go_sem]
def ptB (p : ContactPoint) : List Int := (vecsB [p.Point]) ++ (intsB [p.Separation, p.ID, p.NormalImpulse, p.TangentImpulse])
theorem ptB_len (p : ContactPoint) : (ptB p).length ≤ 60 := by
  have q0 : (vecsB [p.Point]).length ≤ 20 := vecsB_len _
  have q1 : (intsB [p.Separation, p.ID, p.NormalImpulse, p.TangentImpulse]).length ≤ 40 := intsB_len _
  unfold ptB; simp only [List.length_append]; omega
def ctcH (x : Contact) : List Int := keyB x.Key ++ (vecsB [x.Manifold.Normal]) ++ (intsB [(x.Manifold.Points.length : Int)])
def ctcB (x : Contact) : List Int := ctcH x ++ x.Manifold.Points.flatMap ptB
theorem ctcH_len (x : Contact) : (ctcH x).length ≤ 70 := by
  have q0 := keyB_len x.Key
  have q1 : (vecsB [x.Manifold.Normal]).length ≤ 20 := vecsB_len _
  have q2 : (intsB [(x.Manifold.Points.length : Int)]).length ≤ 10 := intsB_len _
  unfold ctcH; simp only [List.length_append]; omega
theorem ctcB_len (x : Contact) : (ctcB x).length ≤ 70 + 60 * x.Manifold.Points.length := by
  have h1 := ctcH_len x
  have h2 := fm_len (f := ptB) ptB_len x.Manifold.Points
  unfold ctcB; rw [List.length_append]; omega
theorem s_enc_contact (b : List Int) (x : Contact) (hb : b.length ≤ 100000000000) (hx : x.Manifold.Points.length ≤ 1048576) : CallsA Tryz.prog F_snapshot_encoder_contact [.ptr 1 0 0 1, .agg x.enc] (eO b) (.tup []) (eO (b ++ ctcB x)) := by
  have q0 := keyB_len x.Key
  have q1 : (vecsB [x.Manifold.Normal]).length ≤ 20 := vecsB_len _
  have q2 : (intsB [(x.Manifold.Points.length : Int)]).length ≤ 10 := intsB_len _
  have hh := ctcH_len x
  refine enOT hm shOk Tryz.func22 rfl rfl ?_
  simp only [go_sem]
  refine CallGi_subw (s_enc_key b x.Key (by omega)) (okO_eO _) rfl (by simp [go_sem]) (by simp [go_sem, AV.ids]) rfl ?_
  simp only [go_sem]
  refine CallGi_obj [true, false] [] (s_enc_vecs (b ++ keyB x.Key) [x.Manifold.Normal] (by simp only [List.length_append, List.length_cons, List.length_nil]; omega)) (by simp [go_sem]) (by simp [go_sem]) (by simp [go_sem]) (by simp [go_sem]) ?_
  simp only [argsOC, go_sem]
  refine ⟨avle_lit2 (l := [x.Manifold.Normal]) (fun _ _ => rfl) rfl rfl rfl, ?_⟩
  refine CallGi_obj [true, false] [] (s_enc_ints ((b ++ keyB x.Key) ++ vecsB [x.Manifold.Normal]) [(x.Manifold.Points.length : Int)] (by simp only [List.length_append, List.length_cons, List.length_nil]; omega)) (by simp [go_sem]) (by simp [go_sem]) (by simp [go_sem]) (by simp [go_sem]) ?_
  simp only [argsOC, go_sem]
  refine ⟨avle_lit2 (l := [(x.Manifold.Points.length : Int)]) (fun _ _ => rfl) rfl rfl rfl, ?_⟩
  unfold ctcB
  refine Wpi_loop hm (ι := {i : Nat // i ≤ x.Manifold.Points.length}) (fun i => [(0, .share, .ptr 1 0 0 1), (25, .share, encD 6 ContactPoint.enc default x.Manifold.Points), (26, .share, .sc (.int .i64 x.Manifold.Points.length)), (27, .share, .sc (.int .i64 i.1))])
    (fun i => eO (b ++ (ctcH x ++ (x.Manifold.Points.take i.1).flatMap ptB))) (fun i => x.Manifold.Points.length - i.1) ⟨0, by omega⟩ ?_ ?_
  · refine weakE_ [] [] ?_
    simp only [List.take_zero, List.flatMap_nil, List.append_nil, ctcH, go_sem]
    try trivial
  · rintro ⟨i, hi⟩
    simp only [go_sem]
    by_cases hlt : i < x.Manifold.Points.length
    · rw [if_pos (by omega)]
      have hl := fm_lenP (f := ptB) (c := 60) (l := x.Manifold.Points.take i) (fun f _ => ptB_len f)
      rw [List.length_take] at hl
      have hs := fm_snoc (f := ptB) (l := x.Manifold.Points) default hlt
      refine ⟨ok_, ?_⟩
      have q0 : (vecsB [(x.Manifold.Points.getD i default).Point]).length ≤ 20 := vecsB_len _
      have q1 : (intsB [(x.Manifold.Points.getD i default).Separation, (x.Manifold.Points.getD i default).ID, (x.Manifold.Points.getD i default).NormalImpulse, (x.Manifold.Points.getD i default).TangentImpulse]).length ≤ 40 := intsB_len _
      refine CallGi_obj [true, false] [] (s_enc_vecs (b ++ (ctcH x ++ (x.Manifold.Points.take i).flatMap ptB)) [(x.Manifold.Points.getD i default).Point] (by simp only [List.length_append, List.length_cons, List.length_nil]; omega)) (by simp [go_sem]) (by simp [go_sem]) (by simp [go_sem]) (by simp [go_sem]) ?_
      simp only [argsOC, go_sem]
      refine ⟨avle_lit2 (l := [(x.Manifold.Points.getD i default).Point]) (fun _ _ => rfl) rfl rfl rfl, ?_⟩
      refine CallGi_obj [true, false] [] (s_enc_ints ((b ++ (ctcH x ++ (x.Manifold.Points.take i).flatMap ptB)) ++ vecsB [(x.Manifold.Points.getD i default).Point]) [(x.Manifold.Points.getD i default).Separation, (x.Manifold.Points.getD i default).ID, (x.Manifold.Points.getD i default).NormalImpulse, (x.Manifold.Points.getD i default).TangentImpulse] (by simp only [List.length_append, List.length_cons, List.length_nil]; omega)) (by simp [go_sem]) (by simp [go_sem]) (by simp [go_sem]) (by simp [go_sem]) ?_
      simp only [argsOC, go_sem]
      refine ⟨avle_lit2 (l := [(x.Manifold.Points.getD i default).Separation, (x.Manifold.Points.getD i default).ID, (x.Manifold.Points.getD i default).NormalImpulse, (x.Manifold.Points.getD i default).TangentImpulse]) (fun _ _ => rfl) rfl rfl rfl, ?_⟩
      refine loop_next ⟨i + 1, by omega⟩ (by show x.Manifold.Points.length - (i + 1) < x.Manifold.Points.length - i; omega) (weakE_ [] [] ?_)
      simp only [hs, ptB, go_sem]
      exact (by rw [IntKind.wrap_i64]; omega)
    · rw [if_neg (by omega)]
      obtain rfl : i = x.Manifold.Points.length := by omega
      refine retW_of [] [] [] rfl rfl (by simp [go_sem]) (by simp [assoc, go_sem]) (by simp [go_sem]) ?_
      simp only [List.take_length, go_sem]
end Go.Abs
end
section
namespace Go.Abs
open Go.Proofs
open Api
theorem c32_toNat (b : BitVec 32) : IntKind.u32.wrap (b.toNat : Int) = b.toNat := by
  rw [IntKind.wrap_u32]; have := b.isLt; omega
theorem c32_ofInt (b : BitVec 32) : BitVec.ofInt 32 (b.toNat : Int) = b := by
  apply BitVec.eq_of_toNat_eq; have := b.isLt
  rw [BitVec.toNat_ofInt]; omega
theorem c32_ofWrap (n : Int) : BitVec.ofInt 32 (IntKind.u32.wrap n) = BitVec.ofInt 32 n := by
  apply BitVec.eq_of_toNat_eq
  rw [IntKind.wrap_u32, BitVec.toNat_ofInt, BitVec.toNat_ofInt]
  show (n % 4294967296 % 4294967296).toNat = (n % 4294967296).toNat
  omega
theorem c32_and (b : BitVec 32) : (b &&& BitVec.ofInt 32 1).toNat = b.toNat % 2 := by
  rw [BitVec.toNat_and, show (BitVec.ofInt 32 1).toNat = 1 from rfl, Nat.and_one_is_mod]
theorem c32_shr (b : BitVec 32) (k : Nat) : ((b.toNat : Int)).fdiv (2 ^ k) = ((b >>> k).toNat : Int) := by
  rw [BitVec.toNat_ushiftRight, Nat.shiftRight_eq_div_pow, Int.fdiv_eq_ediv_of_nonneg _ (Int.pow_nonneg (by omega))]
  norm_cast
theorem c32_shr1 (b : BitVec 32) : ((b.toNat : Int)).fdiv (2 ^ min 1 32) = ((b >>> 1).toNat : Int) := c32_shr b 1
theorem wrap_bit (n : Nat) (h : n < 2) : IntKind.u32.wrap (n : Int) = n := by rw [IntKind.wrap_u32]; omega
theorem c32_bit (d : BitVec 32) : (IntKind.u32.wrap (((BitVec.ofInt 32 (d.toNat : Int)) &&& BitVec.ofInt 32 1).toNat : Int) == 1) = decide (d.toNat % 2 = 1) := by
  rw [c32_ofInt, c32_and, wrap_bit _ (Nat.mod_lt _ (by decide)), Bool.eq_iff_iff, beq_iff_eq, decide_eq_true_eq]; omega
def crcS (c : BitVec 32) : BitVec 32 := if c.toNat % 2 = 1 then (c >>> 1) ^^^ BitVec.ofInt 32 2197175160 else c >>> 1
def crcK (c : BitVec 32) : Nat → BitVec 32
  | 0 => c
  | k + 1 => crcS (crcK c k)
theorem c32_x1 (d : BitVec 32) : IntKind.u32.wrap (((BitVec.ofInt 32 ((d.toNat : Int).fdiv (2 ^ min 1 32))) ^^^ BitVec.ofInt 32 2197175160).toNat : Int) = (d >>> 1 ^^^ BitVec.ofInt 32 2197175160).toNat := by
  rw [c32_shr1, c32_ofInt, c32_toNat]
theorem s_checksum_update (c : BitVec 32) : CallsA Tryz.prog F_checksum_update [.sc (.int .u32 c.toNat)] [] (.sc (.int .u32 (crcK c 8).toNat)) [] := by
  refine en1 hm shOk Tryz.func96 rfl rfl ?_
  simp only [go_sem]
  refine Wpi_loop hm (ι := {k : Nat // k ≤ 8}) (fun k => [(0, .share, .sc (.int .u32 (crcK c k.1).toNat)), (4, .share, .sc (.int .i64 k.1))])
    (fun _ => []) (fun k => 8 - k.1) ⟨0, by omega⟩ ?_ ?_
  · refine weakE_ [] [] ?_
    simp only [go_sem]
    rfl
  · rintro ⟨k, hk⟩
    have hS : crcK c (k + 1) = crcS (crcK c k) := rfl
    simp only [go_sem]
    by_cases hlt : k < 8
    · rw [if_pos (by omega)]
      generalize crcK c k = d at *
      refine ⟨by omega, ?_⟩
      split
      · rename_i ho
        have ho : d.toNat % 2 = 1 := of_decide_eq_true ((c32_bit d).symm.trans ho)
        have hS2 : crcS d = (d >>> 1) ^^^ BitVec.ofInt 32 2197175160 := if_pos ho
        refine loop_next ⟨k + 1, by omega⟩ (by show 8 - (k + 1) < 8 - k; omega) (weakE_ [] [] ?_)
        simp only [hS, hS2, go_sem]
        exact ⟨c32_x1 d, (by rw [IntKind.wrap_i64]; omega)⟩
      · rename_i ho
        have ho : ¬ d.toNat % 2 = 1 := fun h => ho ((c32_bit d).trans (decide_eq_true h))
        have hS2 : crcS d = d >>> 1 := if_neg ho
        refine loop_next ⟨k + 1, by omega⟩ (by show 8 - (k + 1) < 8 - k; omega) (weakE_ [] [] ?_)
        simp only [hS, hS2, go_sem]
        exact ⟨c32_shr1 d, (by rw [IntKind.wrap_i64]; omega)⟩
    · rw [if_neg (by omega)]
      obtain rfl : k = 8 := by omega
      rfl
def crcX (c : BitVec 32) (x : Int) : BitVec 32 := crcK (c ^^^ BitVec.ofInt 32 x) 8
def crcL (l : List Int) : BitVec 32 := l.foldl crcX (BitVec.ofInt 32 4294967295)
theorem crcL_snoc {l : List Int} {i : Nat} (h : i < l.length) : crcL (l.take (i + 1)) = crcX (crcL (l.take i)) (l.getD i 0) := by
  unfold crcL; rw [take_snoc 0 h, List.foldl_append]; rfl
def crcF (l : List Int) : BitVec 32 := crcL l ^^^ BitVec.ofInt 32 4294967295
theorem c32_xor (d : BitVec 32) (x : Int) : IntKind.u32.wrap (((BitVec.ofInt 32 (d.toNat : Int)) ^^^ BitVec.ofInt 32 (IntKind.u32.wrap x)).toNat : Int) = (d ^^^ BitVec.ofInt 32 x).toNat := by
  rw [c32_ofInt, c32_ofWrap, c32_toNat]
theorem c32_not (d : BitVec 32) : IntKind.u32.wrap (((BitVec.ofInt 32 (if IntKind.u32.signed = true then -1 else IntKind.u32.max)) ^^^ BitVec.ofInt 32 (d.toNat : Int)).toNat : Int) = (d ^^^ BitVec.ofInt 32 4294967295).toNat := by
  rw [show (if IntKind.u32.signed = true then (-1 : Int) else IntKind.u32.max) = 4294967295 from by decide, c32_ofInt, c32_toNat, BitVec.xor_comm]
theorem s_checksum_CRC32C (l : List Int) (hl : l.length ≤ 1000000000) : CallsA Tryz.prog F_checksum_CRC32C [encD 1 encU8 0 l] [] (.sc (.int .u32 (crcF l).toNat)) [] := by
  refine en1 hm shOk Tryz.func48 rfl rfl ?_
  simp only [go_sem]
  refine Wpi_loop hm (ι := {i : Nat // i ≤ l.length}) (fun i => [(3, .share, .sc (.int .u32 (crcL (l.take i.1)).toNat)), (6, .share, encD 1 encU8 0 l), (7, .share, .sc (.int .i64 l.length)), (8, .share, .sc (.int .i64 i.1))])
    (fun _ => []) (fun i => l.length - i.1) ⟨0, by omega⟩ ?_ ?_
  · refine weakE_ [] [] ?_
    simp only [go_sem]
    decide
  · rintro ⟨i, hi⟩
    simp only [go_sem]
    by_cases hlt : i < l.length
    · rw [if_pos (by omega)]
      have hs := crcL_snoc hlt
      generalize crcL (l.take i) = d at *
      refine ⟨ok_, ?_⟩
      have hU := s_checksum_update (d ^^^ BitVec.ofInt 32 (l.getD i 0))
      rw [← c32_xor] at hU
      refine CallGi_flat hU rfl ?_
      simp only [go_sem]
      refine loop_next ⟨i + 1, by omega⟩ (by show l.length - (i + 1) < l.length - i; omega) (weakE_ [] [] ?_)
      simp only [hs, go_sem]
      exact ⟨rfl, (by rw [IntKind.wrap_i64]; omega)⟩
    · rw [if_neg (by omega)]
      obtain rfl : i = l.length := by omega
      simp only [List.take_length, go_sem]
      exact c32_not (crcL l)
theorem dsl_app2 {α : Type} {enc : α → List AV} {d : α} {l m l' : List α} {z n n2 : Nat} {g g2 : Nat → List AV} (hn : n = l.length) (hg : ∀ i, i < n → g i = enc (l.getD i d)) (hn2 : n2 = m.length) (hg2 : ∀ i, i < n2 → g2 i = enc (m.getD i d)) (hl : l' = l ++ m) :
    avle (.dsl z (n + n2) (Sq.app ⟨n, g⟩ ⟨n2, g2⟩).g) (.dsl z l'.length (encAt enc d l')) := by
  subst hn hn2 hl
  refine ⟨rfl, by simp, fun i hi => ?_⟩
  show avleL (if i < l.length then g i else g2 (i - l.length)) (encAt enc d (l ++ m) i)
  rw [encAt_app, getD_append]
  by_cases h : i < l.length
  · rw [if_pos h, if_pos h, hg i h]; exact avleL_refl _
  · rw [if_neg h, if_neg h, hg2 _ (by omega)]; exact avleL_refl _
theorem c8 (c k : Nat) : IntKind.u8.wrap ((c : Int).fdiv (2 ^ k)) = ((c / 2 ^ k % 256 : Nat) : Int) := by
  rw [Int.fdiv_eq_ediv_of_nonneg _ (Int.pow_nonneg (by omega)), IntKind.wrap_u8]
  norm_cast
theorem c8_0 (c : Nat) : IntKind.u8.wrap (c : Int) = ((c % 256 : Nat) : Int) := by rw [IntKind.wrap_u8]; omega
theorem c8_1 (c : Nat) : IntKind.u8.wrap ((c : Int).fdiv (2 ^ min 8 32)) = ((c / 256 % 256 : Nat) : Int) := c8 c 8
theorem c8_2 (c : Nat) : IntKind.u8.wrap ((c : Int).fdiv (2 ^ min 16 32)) = ((c / 65536 % 256 : Nat) : Int) := c8 c 16
theorem c8_3 (c : Nat) : IntKind.u8.wrap ((c : Int).fdiv (2 ^ min 24 32)) = ((c / 16777216 % 256 : Nat) : Int) := c8 c 24
def crcBytes (c : Nat) : List Int := [((c % 256 : Nat) : Int), ((c / 256 % 256 : Nat) : Int), ((c / 65536 % 256 : Nat) : Int), ((c / 16777216 % 256 : Nat) : Int)]
def sealB (l : List Int) : List Int := l ++ crcBytes (crcF l).toNat
theorem s_checksum_Seal (l : List Int) (hl : l.length ≤ 1000000000) : CallsA Tryz.prog F_checksum_Seal [encD 1 encU8 0 l] [] (encD 1 encU8 0 (sealB l)) [] := by
  refine en1 hm shOk Tryz.func24 rfl rfl ?_
  simp only [go_sem]
  refine CallGi_flat (s_checksum_CRC32C l hl) rfl ?_
  have ho : AV.offId 208 (.dsl 1 l.length (encAt encU8 0 l)) = true := rfl
  simp only [ho, go_sem]
  have hw : IntKind.i64.wrap ((l.length : Int) + 4) = (l.length : Int) + 4 := by rw [IntKind.wrap_i64]; omega
  simp only [hw]
  refine ⟨⟨by omega, by omega, by omega, by omega⟩, by omega, by omega, by omega, ⟨by omega, (by simp only [maxLen]; omega)⟩, rfl, ?_⟩
  have hs : sealB l = l ++ crcBytes (crcF l).toNat := rfl
  generalize (crcF l).toNat = c at *
  simp only [c8_0, c8_1, c8_2, c8_3]
  refine dsl_app2 (enc := encU8) (d := 0) (m := crcBytes c) rfl (fun i hi => ?_) rfl (fun i hi => ?_) hs
  · show (if 0 ≤ i ∧ i < min l.length l.length then _ else _) = _
    rw [if_pos ⟨by omega, by omega⟩]; rfl
  · match i, hi with
    | 0, _ => rfl
    | 1, _ => rfl
    | 2, _ => rfl
    | 3, _ => rfl
end Go.Abs
end
section
namespace Go.Abs
open Go.Proofs
open Api
def inR (x lo hi : Int) : Bool := decide (lo ≤ x ∧ x ≤ hi)
theorem s_world_in (x lo hi : Int) : CallsA Tryz.prog F_world_in [.sc (.int .i64 x), .sc (.int .i64 lo), .sc (.int .i64 hi)] [] (.sc (.bool (inR x lo hi))) [] := by
  refine en1 hm shOk Tryz.func26 rfl rfl ?_
  simp only [go_sem]
  by_cases h : lo ≤ x
  · simp only [h, if_true, inR, true_and]
  · simp only [h, if_false, inR, false_and, decide_false]
theorem s_body_within (x lo hi : Int) : CallsA Tryz.prog F_body_within [.sc (.int .i64 x), .sc (.int .i64 lo), .sc (.int .i64 hi)] [] (.sc (.bool (inR x lo hi))) [] := by
  refine en1 hm shOk Tryz.func136 rfl rfl ?_
  simp only [go_sem]
  by_cases h : lo ≤ x
  · simp only [h, if_true, inR, true_and]
  · simp only [h, if_false, inR, false_and, decide_false]
theorem s_joint_inRange (x lo hi : Int) : CallsA Tryz.prog F_joint_inRange [.sc (.int .i64 x), .sc (.int .i64 lo), .sc (.int .i64 hi)] [] (.sc (.bool (inR x lo hi))) [] := by
  refine en1 hm shOk Tryz.func141 rfl rfl ?_
  simp only [go_sem]
  by_cases h : lo ≤ x
  · simp only [h, if_true, inR, true_and]
  · simp only [h, if_false, inR, false_and, decide_false]
theorem s_fixed_Sub (a b : Int) : CallsA Tryz.prog F_fixed_Sub [.sc (.int .i64 a), .sc (.int .i64 b)] [] (.sc (.int .i64 (sat (sat a - sat b)))) [] := by
  refine en1 hm shOk Tryz.func185 rfl rfl ?_
  simp only [go_sem]
  refine CallGi_flat (s_fixed_Saturate a) rfl ?_
  simp only [go_sem]
  refine CallGi_flat (s_fixed_Saturate b) rfl ?_
  simp only [go_sem]
  refine CallGi_flat (s_fixed_Saturate _) rfl ?_
  simp only [go_sem]
  have := sat_range a; have := sat_range b
  rw [show IntKind.i64.wrap (sat a - sat b) = sat a - sat b by rw [IntKind.wrap_i64]; omega]
def subV (a b : Vec) : Vec := ⟨sat (sat a.X - sat b.X), sat (sat a.Y - sat b.Y)⟩
theorem s_vec2_Sub (a b : Vec) : CallsA Tryz.prog F_vec2_Sub [.agg a.enc, .agg b.enc] [] (.agg (subV a b).enc) [] := by
  refine enR1 16 [(4, some (some 2))] hm shOk Tryz.func168 rfl ?_
  simp only [go_sem]
  refine CallGi_flat (s_fixed_Sub a.X b.X) rfl ?_
  simp only [go_sem]
  refine CallGi_flat (s_fixed_Sub a.Y b.Y) rfl ?_
  simp only [subV, go_sem]
theorem mul_rng {x y m n : Int} (h1 : -m ≤ x) (h2 : x ≤ m) (h3 : -n ≤ y) (h4 : y ≤ n) : -(m * n) ≤ x * y ∧ x * y ≤ m * n := by
  have hm : 0 ≤ m := by omega
  have hn : 0 ≤ n := by omega
  rcases Int.le_total 0 x with hx | hx <;> rcases Int.le_total 0 y with hy | hy
  · have a := Int.mul_le_mul h2 h4 hy hm; have b := Int.mul_nonneg hx hy; omega
  · have a := Int.mul_le_mul h2 (show -y ≤ n by omega) (by omega) hm; have b := Int.mul_nonneg hx (show 0 ≤ -y by omega); rw [Int.mul_neg] at a b; omega
  · have a := Int.mul_le_mul (show -x ≤ m by omega) h4 hy hm; have b := Int.mul_nonneg (show 0 ≤ -x by omega) hy; rw [Int.neg_mul] at a b; omega
  · have a := Int.mul_le_mul (show -x ≤ m by omega) (show -y ≤ n by omega) (by omega) hm; have b := Int.mul_nonneg (show 0 ≤ -x by omega) (show 0 ≤ -y by omega); rw [Int.neg_mul_neg] at a b; omega
def crs (a b c : Vec) : Int := (sat b.X - sat a.X) * (sat c.Y - sat a.Y) - (sat b.Y - sat a.Y) * (sat c.X - sat a.X)
def ori (a b c : Vec) : Int := if 0 < crs a b c then 1 else if crs a b c < 0 then -1 else 0
theorem crs_wrap (a b c : Vec) : IntKind.i64.wrap (IntKind.i64.wrap (IntKind.i64.wrap (sat b.X - sat a.X) * IntKind.i64.wrap (sat c.Y - sat a.Y)) - IntKind.i64.wrap (IntKind.i64.wrap (sat b.Y - sat a.Y) * IntKind.i64.wrap (sat c.X - sat a.X))) = crs a b c := by
  have h1 := sat_range a.X; have h2 := sat_range a.Y; have h3 := sat_range b.X; have h4 := sat_range b.Y; have h5 := sat_range c.X; have h6 := sat_range c.Y
  have w : ∀ x y, -536870911 ≤ x ∧ x ≤ 536870911 → -536870911 ≤ y ∧ y ≤ 536870911 → IntKind.i64.wrap (x - y) = x - y := fun x y _ _ => by rw [IntKind.wrap_i64]; omega
  rw [w _ _ h3 h1, w _ _ h6 h2, w _ _ h4 h2, w _ _ h5 h1]
  have p1 := mul_rng (x := sat b.X - sat a.X) (y := sat c.Y - sat a.Y) (m := 1073741822) (n := 1073741822) (by omega) (by omega) (by omega) (by omega)
  have p2 := mul_rng (x := sat b.Y - sat a.Y) (y := sat c.X - sat a.X) (m := 1073741822) (n := 1073741822) (by omega) (by omega) (by omega) (by omega)
  unfold crs
  generalize (sat b.X - sat a.X) * (sat c.Y - sat a.Y) = p at *
  generalize (sat b.Y - sat a.Y) * (sat c.X - sat a.X) = q at *
  simp only [IntKind.wrap_i64]; omega
theorem s_vec2_Orientation (a b c : Vec) : CallsA Tryz.prog F_vec2_Orientation [.agg a.enc, .agg b.enc, .agg c.enc] [] (.sc (.int .i64 (ori a b c))) [] := by
  refine en1 hm shOk Tryz.func187 rfl rfl ?_
  simp only [go_sem]
  refine CallGi_flat (s_vec2_saturate a) rfl ?_
  simp only [go_sem]
  refine CallGi_flat (s_vec2_saturate b) rfl ?_
  simp only [go_sem]
  refine CallGi_flat (s_vec2_saturate c) rfl ?_
  simp only [satV, crs_wrap, go_sem]
  unfold ori
  (repeat' split) <;> omega
def reachB (v : Vec) : Bool := decide (-1048576 ≤ v.X ∧ v.X ≤ 1048576 ∧ -1048576 ≤ v.Y ∧ v.Y ≤ 1048576)
theorem s_polygon_inReach (v : Vec) : CallsA Tryz.prog F_polygon_inReach [.agg v.enc] [] (.sc (.bool (reachB v))) [] := by
  refine en1 hm shOk Tryz.func202 rfl rfl ?_
  simp only [go_sem]
  unfold reachB
  rw [Bool.eq_iff_iff]
  (repeat' split) <;> simp_all <;> omega
def rdiv (n d : Int) : Int := if d < 1 ∨ d > 4611686018427387904 ∨ n < -4611686018427387904 ∨ n > 4611686018427387904 then 0 else
  if n.tmod d ≥ d - n.tmod d then n.tdiv d + 1 else if -(n.tmod d) ≥ d + n.tmod d then n.tdiv d - 1 else n.tdiv d
theorem tq_range {n d : Int} (h1 : 1 ≤ d) (h2 : -4611686018427387904 ≤ n) (h3 : n ≤ 4611686018427387904) : -4611686018427387904 ≤ n.tdiv d ∧ n.tdiv d ≤ 4611686018427387904 ∧ -d < n.tmod d ∧ n.tmod d < d := by
  have a := Int.tmod_lt_of_pos n (show 0 < d by omega)
  have b := Int.lt_tmod_of_pos n (show 0 < d by omega)
  have e := Int.mul_tdiv_add_tmod n d
  have hd : (n.tdiv d).natAbs ≤ n.natAbs := by rw [Int.natAbs_tdiv]; exact Nat.div_le_self _ _
  omega
theorem s_fixed_RoundDiv (n d : Int) : CallsA Tryz.prog F_fixed_RoundDiv [.sc (.int .i64 n), .sc (.int .i64 d)] [] (.sc (.int .i64 (rdiv n d))) [] := by
  refine en1 hm shOk Tryz.func189 rfl rfl ?_
  simp only [go_sem]
  unfold rdiv
  by_cases hc : d < 1 ∨ d > 4611686018427387904 ∨ n < -4611686018427387904 ∨ n > 4611686018427387904
  · rw [if_pos hc, if_pos (by (repeat' split) <;> simp <;> omega)]
  · rw [if_neg hc, if_neg (by (repeat' split) <;> simp <;> omega)]
    obtain ⟨h1, h2, h3, h4⟩ := tq_range (n := n) (d := d) (by omega) (by omega) (by omega)
    have e1 : IntKind.i64.wrap (n.tdiv d) = n.tdiv d := by rw [IntKind.wrap_i64]; omega
    rw [e1]
    have e2 : IntKind.i64.wrap (d - n.tmod d) = d - n.tmod d := by rw [IntKind.wrap_i64]; omega
    have e3 : IntKind.i64.wrap (d + n.tmod d) = d + n.tmod d := by rw [IntKind.wrap_i64]; omega
    have e4 : IntKind.i64.wrap (0 - n.tmod d) = -n.tmod d := by rw [IntKind.wrap_i64]; omega
    rw [e2, e3, e4]
    refine ⟨by omega, by omega, ?_⟩
    split
    · rw [IntKind.wrap_i64]; omega
    · split
      · rw [IntKind.wrap_i64]; omega
      · rfl
end Go.Abs
end
section
namespace Go.Abs
open Go.Proofs
open Api
def d_transform_inWorld (x : Int) : Bool := ((decide ((-268435456) ≤ x)) && (decide (x ≤ 268435456)))
theorem s_transform_inWorld (x : Int)  : CallsA Tryz.prog F_transform_inWorld [.sc (.int .i64 x)] [] (.sc (.bool (d_transform_inWorld x))) [] := by
  refine en1 hm shOk Tryz.func163 rfl rfl ?_
  have := d_transform_inWorld.eq_1 x
  exact walk_
def d_transform_Valid (t : Transform) : Bool := let v1 := (d_transform_inWorld t.Position.X); let v2 := (d_transform_inWorld t.Position.Y); (((v1 && v2) && (decide ((-205888) ≤ t.Angle))) && (decide (t.Angle < 205888)))
theorem s_transform_Valid (t : Transform)  : CallsA Tryz.prog F_transform_Valid [.agg t.enc] [] (.sc (.bool (d_transform_Valid t))) [] := by
  refine en1 hm shOk Tryz.func137 rfl rfl ?_
  have := s_transform_inWorld
  have := d_transform_Valid.eq_1 t
  exact walk_
def d_body_bounded (v : Vec) (limit : Int) : Bool := ((inR v.X (IntKind.i64.wrap (0 - limit)) limit) && (inR v.Y (IntKind.i64.wrap (0 - limit)) limit))
theorem s_body_bounded (v : Vec) (limit : Int)  : CallsA Tryz.prog F_body_bounded [.agg v.enc, .sc (.int .i64 limit)] [] (.sc (.bool (d_body_bounded v limit))) [] := by
  refine en1 hm shOk Tryz.func135 rfl rfl ?_
  have := s_body_within
  have := d_body_bounded.eq_1 v limit
  exact walk_
def d_body_moving (b : Body) : Bool := ((!((b.Velocity.X == 0) && (b.Velocity.Y == 0))) || (b.AngularVelocity != 0))
theorem s_body_moving (b : Body)  : CallsA Tryz.prog F_body_moving [.agg b.enc] [] (.sc (.bool (d_body_moving b))) [] := by
  refine en1 hm shOk Tryz.func139 rfl rfl ?_
  have := d_body_moving.eq_1 b
  exact walk_
def d_body_consistent (b : Body) : Bool := let v1 := (d_body_moving b); if ((b.Kind == 1) && (v1 || ((!((b.Force.X == 0) && (b.Force.Y == 0))) || (b.Torque != 0)))) = true then (false) else (if ((b.Kind != 3) && (b.Asleep || b.Bullet)) = true then (false) else (((!b.Asleep) || (!v1))))
theorem s_body_consistent (b : Body)  : CallsA Tryz.prog F_body_consistent [.agg b.enc] [] (.sc (.bool (d_body_consistent b))) [] := by
  refine en1 hm shOk Tryz.func99 rfl rfl ?_
  have := s_body_moving
  have := d_body_consistent.eq_1 b
  exact walk_
def d_shape_validCount (s : Shape) : Bool := if (s.Kind == 1) = true then (((s.Vertices.length : Int) == 1)) else (if (s.Kind == 2) = true then (((s.Vertices.length : Int) == 2)) else (((decide (3 ≤ (s.Vertices.length : Int))) && (decide ((s.Vertices.length : Int) ≤ 8)))))
theorem s_shape_validCount (s : Shape)  : CallsA Tryz.prog F_shape_validCount [.agg s.enc] [] (.sc (.bool (d_shape_validCount s))) [] := by
  refine en1 hm shOk Tryz.func164 rfl rfl ?_
  have := d_shape_validCount.eq_1 s
  exact walk_
theorem vcount (s : Shape) : d_shape_validCount s = true → (s.Kind = 1 → s.Vertices.length = 1) ∧ (s.Kind = 2 → s.Vertices.length = 2) ∧ (s.Kind = 3 → 3 ≤ s.Vertices.length) := by
  intro h
  unfold d_shape_validCount at h
  (repeat' split at h) <;> simp only [Bool.and_eq_true, decide_eq_true_eq, beq_iff_eq, bne_iff_ne] at * <;> omega
def d_shape_outOfRange (n : Int) : Bool := ((decide (n < (-1048576))) || (decide (1048576 < n)))
theorem s_shape_outOfRange (n : Int)  : CallsA Tryz.prog F_shape_outOfRange [.sc (.int .i64 n)] [] (.sc (.bool (d_shape_outOfRange n))) [] := by
  refine en1 hm shOk Tryz.func167 rfl rfl ?_
  have := d_shape_outOfRange.eq_1 n
  exact walk_
def d_polygon_allInReach_L1 (l : List Vec) (i1 : Nat) (s1 : Unit) : (Unit) ⊕ (Bool) := let v1 := (reachB (l.getD i1 default)); if v1 = false then (.inr false) else (.inl ())
def d_polygon_allInReach (l : List Vec) : Bool := (match itrE (d_polygon_allInReach_L1 l) l.length () with | .inr r => r | .inl s1 => true)
theorem s_polygon_allInReach (l : List Vec) (hl : l.length ≤ 1048576) : CallsA Tryz.prog F_polygon_allInReach [encD 2 Vec.enc default l] [] (.sc (.bool (d_polygon_allInReach l))) [] := by
  refine en1 hm shOk Tryz.func186 rfl rfl ?_
  simp only [go_sem, ite_andP, ite_orP, dec_true, dec_false]
  (repeat (with_reducible refine And.intro ?_ ?_; focus exact ob_))
  refine Wpi_loop hm (ι := {p : Nat × Unit // p.1 ≤ l.length ∧ itrE (d_polygon_allInReach_L1 l) p.1 () = .inl p.2}) (fun i => [(5, .share, encD 2 Vec.enc default l), (6, .share, .sc (.int .i64 (l.length : Int))), (7, .share, .sc (.int .i64 (i.1.1 : Int)))]) (fun i => []) (fun i => l.length - i.1.1) ⟨(0, ()), by omega, rfl⟩ ?_ ?_
  · refine weakE_ [] [] ?_
    simp only [go_sem, ite_andP, ite_orP, dec_true, dec_false, itr_zero]
    all_goals exact fin_
  · rintro ⟨⟨i1, s1⟩, hi1, hs1⟩
    replace hi1 : i1 ≤ l.length := hi1
    replace hs1 : itrE (d_polygon_allInReach_L1 l) i1 () = .inl s1 := hs1
    simp only [go_sem, ite_andP, ite_orP, dec_true, dec_false]
    (repeat (with_reducible refine And.intro ?_ ?_; focus exact ob_))
    by_cases h1 : (i1 : Int) < (l.length : Int)
    · first | rw [if_pos h1] | rw [if_pos (by simp_all)] | rw [if_pos (by omega)]
      have hlt1 : i1 < l.length := by first | omega | (simp only [IntKind.wrap_i64] at h1; omega)
      (repeat (with_reducible refine And.intro ?_ ?_; focus exact ob_))
      refine CallGi_flat (s_polygon_inReach (l.getD i1 default) ) rfl ?_
      generalize hv1 : (reachB (l.getD i1 default)) = v1
      simp only [go_sem, ite_andP, ite_orP, dec_true, dec_false]
      (repeat (with_reducible refine And.intro ?_ ?_; focus exact ob_))
      by_cases h2 : v1 = false
      · first | rw [if_pos h2] | rw [if_pos (by simp_all)] | rw [if_pos (by omega)]
        (repeat (with_reducible refine And.intro ?_ ?_; focus exact ob_))
        have e1 : itrE (d_polygon_allInReach_L1 l) (i1 + 1) () = .inr false := itrE_inl hs1 (by first | with_reducible rfl | (unfold d_polygon_allInReach_L1; exact hd_))
        replace e1 := itrE_stop e1 (show i1 + 1 ≤ l.length by omega)
        have hd : d_polygon_allInReach l = false := by first | with_reducible rfl | (unfold d_polygon_allInReach; exact hd_)
        try rw [hd]
        try simp only [go_sem, ite_andP, ite_orP, dec_true, dec_false]
        all_goals exact fin_
      · first | rw [if_neg h2] | rw [if_neg (by simp_all)] | rw [if_neg (by omega)]
        (repeat (with_reducible refine And.intro ?_ ?_; focus exact ob_))
        have hn : itrE (d_polygon_allInReach_L1 l) (i1 + 1) () = .inl () := itrE_inl hs1 (by first | with_reducible rfl | (unfold d_polygon_allInReach_L1; exact hd_))
        refine loop_next ⟨(i1 + 1, ()), by omega, hn⟩ (by show l.length - (i1 + 1) < l.length - i1; omega) (weakE_ [] [] ?_)
        simp only [go_sem, ite_andP, ite_orP, dec_true, dec_false]
        all_goals exact fin_
    · first | rw [if_neg h1] | rw [if_neg (by simp_all)] | rw [if_neg (by omega)]
      (repeat (with_reducible refine And.intro ?_ ?_; focus exact ob_))
      have hge : i1 = l.length := by first | omega | (simp only [IntKind.wrap_i64] at h1; omega)
      subst hge
      have hd : d_polygon_allInReach l = true := by first | with_reducible rfl | (unfold d_polygon_allInReach; exact hd_)
      try rw [hd]
      try simp only [go_sem, ite_andP, ite_orP, dec_true, dec_false]
      all_goals exact fin_
def d_broadphase_valid (k : PairKey) : Bool := (((((decide (k.BodyA < k.BodyB)) && (decide (0 ≤ k.FixtureA))) && (decide (k.FixtureA < 4))) && (decide (0 ≤ k.FixtureB))) && (decide (k.FixtureB < 4)))
theorem s_broadphase_valid (k : PairKey)  : CallsA Tryz.prog F_broadphase_valid [.agg k.enc] [] (.sc (.bool (d_broadphase_valid k))) [] := by
  refine en1 hm shOk Tryz.func108 rfl rfl ?_
  have := d_broadphase_valid.eq_1 k
  exact walk_
end Go.Abs
end
section
namespace Go.Abs
open Go.Proofs
open Api
def d_polygon_IsConvex_L2 (vs : List Vec) (i1 : Nat) (i2 : Nat) (s2 : Unit) : (Unit) ⊕ (Bool) := let v2 := (ori (vs.getD i1 default) (vs.getD ((IntKind.i64.wrap ((i1 : Int) + 1)).tmod (vs.length : Int)).toNat default) (vs.getD i2 default)); if ((((i2 : Int) != (i1 : Int)) && ((i2 : Int) != ((IntKind.i64.wrap ((i1 : Int) + 1)).tmod (vs.length : Int)))) && (v2 != 1)) = true then (.inr false) else (.inl ())
def d_polygon_IsConvex_L1 (vs : List Vec) (i1 : Nat) (s1 : Unit) : (Unit) ⊕ (Bool) := (match itrE (d_polygon_IsConvex_L2 vs i1) vs.length () with | .inr r => .inr r | .inl s2 => .inl ())
def d_polygon_IsConvex (vs : List Vec) : Bool := let v1 := (d_polygon_allInReach vs); if (((decide ((vs.length : Int) < 3)) || (decide (8 < (vs.length : Int)))) || (!v1)) = true then (false) else ((match itrE (d_polygon_IsConvex_L1 vs) vs.length () with | .inr r => r | .inl s1 => true))
theorem s_polygon_IsConvex (vs : List Vec) (hn : vs.length ≤ 1048576) : CallsA Tryz.prog F_polygon_IsConvex [encD 2 Vec.enc default vs] [] (.sc (.bool (d_polygon_IsConvex vs))) [] := by
  refine en1 hm shOk Tryz.func169 rfl rfl ?_
  simp only [go_sem, ite_andP, ite_orP, dec_true, dec_false]
  (repeat (with_reducible refine And.intro ?_ ?_; focus exact ob_))
  refine CallGi_flat (s_polygon_allInReach vs (by (first | assumption | omega | (simp_all; done) | (simp_all; omega)))) rfl ?_
  generalize hv1 : (d_polygon_allInReach vs) = v1
  simp only [go_sem, ite_andP, ite_orP, dec_true, dec_false]
  (repeat (with_reducible refine And.intro ?_ ?_; focus exact ob_))
  by_cases h1 : (((decide ((vs.length : Int) < 3)) || (decide (8 < (vs.length : Int)))) || (!v1)) = true
  · first | rw [if_pos h1] | rw [if_pos (by simp_all)] | rw [if_pos (by omega)]
    (repeat (with_reducible refine And.intro ?_ ?_; focus exact ob_))
    have hd : d_polygon_IsConvex vs = false := by first | with_reducible rfl | (unfold d_polygon_IsConvex; exact hd_)
    try rw [hd]
    try simp only [go_sem, ite_andP, ite_orP, dec_true, dec_false]
    all_goals exact fin_
  · first | rw [if_neg h1] | rw [if_neg (by simp_all)] | rw [if_neg (by omega)]
    (repeat (with_reducible refine And.intro ?_ ?_; focus exact ob_))
    refine Wpi_loop hm (ι := {p : Nat × Unit // p.1 ≤ vs.length ∧ itrE (d_polygon_IsConvex_L1 vs) p.1 () = .inl p.2}) (fun i => [(0, .share, encD 2 Vec.enc default vs), (3, .share, .sc (.int .i64 (vs.length : Int))), (22, .share, encD 2 Vec.enc default vs), (23, .share, .sc (.int .i64 (vs.length : Int))), (24, .share, .sc (.int .i64 (i.1.1 : Int)))]) (fun i => []) (fun i => vs.length - i.1.1) ⟨(0, ()), by omega, rfl⟩ ?_ ?_
    · refine weakE_ [] [] ?_
      simp only [go_sem, ite_andP, ite_orP, dec_true, dec_false, itr_zero]
      all_goals exact fin_
    · rintro ⟨⟨i1, s1⟩, hi1, hs1⟩
      replace hi1 : i1 ≤ vs.length := hi1
      replace hs1 : itrE (d_polygon_IsConvex_L1 vs) i1 () = .inl s1 := hs1
      simp only [go_sem, ite_andP, ite_orP, dec_true, dec_false]
      (repeat (with_reducible refine And.intro ?_ ?_; focus exact ob_))
      by_cases h2 : (i1 : Int) < (vs.length : Int)
      · first | rw [if_pos h2] | rw [if_pos (by simp_all)] | rw [if_pos (by omega)]
        have hlt1 : i1 < vs.length := by first | omega | (simp only [IntKind.wrap_i64] at h2; omega)
        (repeat (with_reducible refine And.intro ?_ ?_; focus exact ob_))
        refine Wpi_loop hm (ι := {p : Nat × Unit // p.1 ≤ vs.length ∧ itrE (d_polygon_IsConvex_L2 vs i1) p.1 () = .inl p.2}) (fun i => [(0, .share, encD 2 Vec.enc default vs), (3, .share, .sc (.int .i64 (vs.length : Int))), (4, .share, .sc (.int .i64 (i1 : Int))), (5, .share, .ptr 96 0 0 1), (6, .share, .sc (.int .i64 ((IntKind.i64.wrap ((i1 : Int) + 1)).tmod (vs.length : Int)))), (22, .share, encD 2 Vec.enc default vs), (23, .share, .sc (.int .i64 (vs.length : Int))), (24, .share, .sc (.int .i64 (i1 : Int))), (33, .share, encD 2 Vec.enc default vs), (34, .share, .sc (.int .i64 (vs.length : Int))), (35, .share, .sc (.int .i64 (i.1.1 : Int)))]) (fun i => [(96, .box [.sc (.int .i64 (vs.getD i1 default).X), .sc (.int .i64 (vs.getD i1 default).Y)])]) (fun i => vs.length - i.1.1) ⟨(0, ()), by omega, rfl⟩ ?_ ?_
        · refine weakE_ [] [] ?_
          simp only [go_sem, ite_andP, ite_orP, dec_true, dec_false, itr_zero]
          all_goals exact fin_
        · rintro ⟨⟨i2, s2⟩, hi2, hs2⟩
          replace hi2 : i2 ≤ vs.length := hi2
          replace hs2 : itrE (d_polygon_IsConvex_L2 vs i1) i2 () = .inl s2 := hs2
          simp only [go_sem, ite_andP, ite_orP, dec_true, dec_false]
          (repeat (with_reducible refine And.intro ?_ ?_; focus exact ob_))
          by_cases h3 : (i2 : Int) < (vs.length : Int)
          · first | rw [if_pos h3] | rw [if_pos (by simp_all)] | rw [if_pos (by omega)]
            have hlt2 : i2 < vs.length := by first | omega | (simp only [IntKind.wrap_i64] at h3; omega)
            (repeat (with_reducible refine And.intro ?_ ?_; focus exact ob_))
            refine CallGi_flat (s_vec2_Orientation (vs.getD i1 default) (vs.getD ((IntKind.i64.wrap ((i1 : Int) + 1)).tmod (vs.length : Int)).toNat default) (vs.getD i2 default) ) rfl ?_
            generalize hv2 : (ori (vs.getD i1 default) (vs.getD ((IntKind.i64.wrap ((i1 : Int) + 1)).tmod (vs.length : Int)).toNat default) (vs.getD i2 default)) = v2
            simp only [go_sem, ite_andP, ite_orP, dec_true, dec_false]
            (repeat (with_reducible refine And.intro ?_ ?_; focus exact ob_))
            by_cases h4 : ((((i2 : Int) != (i1 : Int)) && ((i2 : Int) != ((IntKind.i64.wrap ((i1 : Int) + 1)).tmod (vs.length : Int)))) && (v2 != 1)) = true
            · first | rw [if_pos h4] | rw [if_pos (by simp_all)] | rw [if_pos (by omega)]
              (repeat (with_reducible refine And.intro ?_ ?_; focus exact ob_))
              have e2 : itrE (d_polygon_IsConvex_L2 vs i1) (i2 + 1) () = .inr false := itrE_inl hs2 (by first | with_reducible rfl | (unfold d_polygon_IsConvex_L2; exact hd_))
              replace e2 := itrE_stop e2 (show i2 + 1 ≤ vs.length by omega)
              have e1 : itrE (d_polygon_IsConvex_L1 vs) (i1 + 1) () = .inr false := itrE_inl hs1 (by first | with_reducible rfl | (unfold d_polygon_IsConvex_L1; exact hd_))
              replace e1 := itrE_stop e1 (show i1 + 1 ≤ vs.length by omega)
              have hd : d_polygon_IsConvex vs = false := by first | with_reducible rfl | (unfold d_polygon_IsConvex; exact hd_)
              try rw [hd]
              try simp only [go_sem, ite_andP, ite_orP, dec_true, dec_false]
              all_goals exact fin_
            · first | rw [if_neg h4] | rw [if_neg (by simp_all)] | rw [if_neg (by omega)]
              (repeat (with_reducible refine And.intro ?_ ?_; focus exact ob_))
              have hn : itrE (d_polygon_IsConvex_L2 vs i1) (i2 + 1) () = .inl () := itrE_inl hs2 (by first | with_reducible rfl | (unfold d_polygon_IsConvex_L2; exact hd_))
              refine loop_next ⟨(i2 + 1, ()), by omega, hn⟩ (by show vs.length - (i2 + 1) < vs.length - i2; omega) (weakE_ [] [] ?_)
              simp only [go_sem, ite_andP, ite_orP, dec_true, dec_false]
              all_goals exact fin_
          · first | rw [if_neg h3] | rw [if_neg (by simp_all)] | rw [if_neg (by omega)]
            (repeat (with_reducible refine And.intro ?_ ?_; focus exact ob_))
            have hge : i2 = vs.length := by first | omega | (simp only [IntKind.wrap_i64] at h3; omega)
            subst hge
            have hn : itrE (d_polygon_IsConvex_L1 vs) (i1 + 1) () = .inl () := itrE_inl hs1 (by first | with_reducible rfl | (unfold d_polygon_IsConvex_L1; exact hd_))
            refine loop_next ⟨(i1 + 1, ()), by omega, hn⟩ (by show vs.length - (i1 + 1) < vs.length - i1; omega) (weakE_ [] [] ?_)
            simp only [go_sem, ite_andP, ite_orP, dec_true, dec_false]
            all_goals exact fin_
      · first | rw [if_neg h2] | rw [if_neg (by simp_all)] | rw [if_neg (by omega)]
        (repeat (with_reducible refine And.intro ?_ ?_; focus exact ob_))
        have hge : i1 = vs.length := by first | omega | (simp only [IntKind.wrap_i64] at h2; omega)
        subst hge
        have hd : d_polygon_IsConvex vs = true := by first | with_reducible rfl | (unfold d_polygon_IsConvex; exact hd_)
        try rw [hd]
        try simp only [go_sem, ite_andP, ite_orP, dec_true, dec_false]
        all_goals exact fin_
theorem convex_len (vs : List Vec) : d_polygon_IsConvex vs = true → 3 ≤ vs.length ∧ vs.length ≤ 8 := by
  intro h
  unfold d_polygon_IsConvex at h
  simp only at h
  split at h
  · cases h
  · rename_i hc
    simp only [Bool.or_eq_true, decide_eq_true_eq, not_or] at hc
    omega
def d_polygon_ShortestEdge_L1 (vs : List Vec) (i1 : Nat) (s1 : Int) : Int := let v2 := (subV (vs.getD ((IntKind.i64.wrap ((i1 : Int) + 1)).tmod (vs.length : Int)).toNat default) (vs.getD i1 default)); let v3 := (lenV v2); (if v3 < s1 then v3 else s1)
def d_polygon_ShortestEdge (vs : List Vec) : Int := let v1 := (d_polygon_IsConvex vs); if v1 = false then (0) else (let s1 := itr (d_polygon_ShortestEdge_L1 vs) vs.length 536870911; s1)
theorem s_polygon_ShortestEdge (vs : List Vec) (hn : vs.length ≤ 1048576) : CallsA Tryz.prog F_polygon_ShortestEdge [encD 2 Vec.enc default vs] [] (.sc (.int .i64 (d_polygon_ShortestEdge vs))) [] := by
  refine en1 hm shOk Tryz.func170 rfl rfl ?_
  simp only [go_sem, ite_andP, ite_orP, dec_true, dec_false]
  (repeat (with_reducible refine And.intro ?_ ?_; focus exact ob_))
  have p1 := convex_len vs
  refine CallGi_flat (s_polygon_IsConvex vs (by (first | assumption | omega | (simp_all; done) | (simp_all; omega)))) rfl ?_
  generalize hv1 : (d_polygon_IsConvex vs) = v1 at *
  simp only [go_sem, ite_andP, ite_orP, dec_true, dec_false]
  (repeat (with_reducible refine And.intro ?_ ?_; focus exact ob_))
  by_cases h2 : v1 = false
  · first | rw [if_pos h2] | rw [if_pos (by simp_all)] | rw [if_pos (by omega)]
    (repeat (with_reducible refine And.intro ?_ ?_; focus exact ob_))
    have hd : d_polygon_ShortestEdge vs = 0 := by first | with_reducible rfl | (unfold d_polygon_ShortestEdge; exact hd_)
    try rw [hd]
    try simp only [go_sem, ite_andP, ite_orP, dec_true, dec_false]
    all_goals exact fin_
  · first | rw [if_neg h2] | rw [if_neg (by simp_all)] | rw [if_neg (by omega)]
    (repeat (with_reducible refine And.intro ?_ ?_; focus exact ob_))
    refine Wpi_loop hm (ι := {i : Nat // i ≤ vs.length}) (fun i => [(0, .share, encD 2 Vec.enc default vs), (3, .share, .sc (.int .i64 (itr (d_polygon_ShortestEdge_L1 vs) i.1 536870911))), (9, .share, encD 2 Vec.enc default vs), (10, .share, .sc (.int .i64 (vs.length : Int))), (11, .share, .sc (.int .i64 (i.1 : Int)))]) (fun i => []) (fun i => vs.length - i.1) ⟨0, by omega⟩ ?_ ?_
    · refine weakE_ [] [] ?_
      simp only [go_sem, ite_andP, ite_orP, dec_true, dec_false, itr_zero]
      all_goals exact fin_
    · rintro ⟨i1, hi1⟩
      dsimp only
      generalize hs1 : itr (d_polygon_ShortestEdge_L1 vs) i1 536870911 = s1
      simp only [go_sem, ite_andP, ite_orP, dec_true, dec_false]
      (repeat (with_reducible refine And.intro ?_ ?_; focus exact ob_))
      by_cases h3 : (i1 : Int) < (vs.length : Int)
      · first | rw [if_pos h3] | rw [if_pos (by simp_all)] | rw [if_pos (by omega)]
        have hlt1 : i1 < vs.length := by first | omega | (simp only [IntKind.wrap_i64] at h3; omega)
        (repeat (with_reducible refine And.intro ?_ ?_; focus exact ob_))
        refine CallGi_flat (s_vec2_Sub (vs.getD ((IntKind.i64.wrap ((i1 : Int) + 1)).tmod (vs.length : Int)).toNat default) (vs.getD i1 default) ) rfl ?_
        generalize hv2 : (subV (vs.getD ((IntKind.i64.wrap ((i1 : Int) + 1)).tmod (vs.length : Int)).toNat default) (vs.getD i1 default)) = v2
        simp only [go_sem, ite_andP, ite_orP, dec_true, dec_false]
        (repeat (with_reducible refine And.intro ?_ ?_; focus exact ob_))
        refine CallGi_flat (s_vec2_Length v2 ) rfl ?_
        generalize hv3 : (lenV v2) = v3
        simp only [go_sem, ite_andP, ite_orP, dec_true, dec_false]
        (repeat (with_reducible refine And.intro ?_ ?_; focus exact ob_))
        have hn : itr (d_polygon_ShortestEdge_L1 vs) (i1 + 1) 536870911 = (if v3 < s1 then v3 else s1) := by rw [itr_succ, hs1]; first | with_reducible rfl | (unfold d_polygon_ShortestEdge_L1; exact hd_)
        refine loop_next ⟨i1 + 1, by omega⟩ (by show vs.length - (i1 + 1) < vs.length - i1; omega) (weakE_ [] [] ?_)
        simp only [go_sem, ite_andP, ite_orP, dec_true, dec_false, hn]
        all_goals exact fin_
      · first | rw [if_neg h3] | rw [if_neg (by simp_all)] | rw [if_neg (by omega)]
        (repeat (with_reducible refine And.intro ?_ ?_; focus exact ob_))
        have hge : i1 = vs.length := by first | omega | (simp only [IntKind.wrap_i64] at h3; omega)
        subst hge
        have hd : d_polygon_ShortestEdge vs = s1 := by first | with_reducible rfl | (unfold d_polygon_ShortestEdge; exact hd_)
        try rw [hd]
        try simp only [go_sem, ite_andP, ite_orP, dec_true, dec_false]
        all_goals exact fin_
structure polygon_triangle where
  e : Vec
  f : Vec
  cross : Int
  deriving DecidableEq, Inhabited
def polygon_triangle.enc (x : polygon_triangle) : List AV :=
  [.sc (.int .i64 x.e.X), .sc (.int .i64 x.e.Y), .sc (.int .i64 x.f.X), .sc (.int .i64 x.f.Y), .sc (.int .i64 x.cross)]
def polygon_triangle.zero : List AV := [.sc (.int .i64 0), .sc (.int .i64 0), .sc (.int .i64 0), .sc (.int .i64 0), .sc (.int .i64 0)]
attribute [go_sem] polygon_triangle.enc polygon_triangle.zero
def d_polygon_fan_L1 (vs : List Vec) (i1 : Nat) (s1 : (List polygon_triangle) × Int) : (List polygon_triangle) × Int := let v1 := (rdiv (IntKind.i64.wrap ((IntKind.i64.wrap ((IntKind.i64.wrap ((vs.getD (i1 + 1) default).X - (vs.getD 0 default).X)) * (IntKind.i64.wrap ((vs.getD (IntKind.i64.wrap (((i1 + 1 : Nat) : Int) + 1)).toNat default).Y - (vs.getD 0 default).Y)))) - (IntKind.i64.wrap ((IntKind.i64.wrap ((vs.getD (i1 + 1) default).Y - (vs.getD 0 default).Y)) * (IntKind.i64.wrap ((vs.getD (IntKind.i64.wrap (((i1 + 1 : Nat) : Int) + 1)).toNat default).X - (vs.getD 0 default).X)))))) 65536); ((s1.1 ++ [(⟨(⟨(IntKind.i64.wrap ((vs.getD (i1 + 1) default).X - (vs.getD 0 default).X)), (IntKind.i64.wrap ((vs.getD (i1 + 1) default).Y - (vs.getD 0 default).Y))⟩ : Vec), (⟨(IntKind.i64.wrap ((vs.getD (IntKind.i64.wrap (((i1 + 1 : Nat) : Int) + 1)).toNat default).X - (vs.getD 0 default).X)), (IntKind.i64.wrap ((vs.getD (IntKind.i64.wrap (((i1 + 1 : Nat) : Int) + 1)).toNat default).Y - (vs.getD 0 default).Y))⟩ : Vec), v1⟩ : polygon_triangle)]), (IntKind.i64.wrap (s1.2 + v1)))
def d_polygon_fan (vs : List Vec) : (List polygon_triangle) × Int := let s1 := itr (d_polygon_fan_L1 vs) (vs.length - 2) ([], 0); (s1.1, s1.2)
theorem s_polygon_fan (vs : List Vec) (hn : vs.length ≤ 1048576) (h0 : 1 ≤ vs.length) : CallsA Tryz.prog F_polygon_fan [encD 2 Vec.enc default vs] [] (.tup [encD 5 polygon_triangle.enc default (d_polygon_fan vs).1, .sc (.int .i64 (d_polygon_fan vs).2)]) [] := by
  refine enT hm shOk Tryz.func188 rfl rfl ?_
  simp only [go_sem, ite_andP, ite_orP, dec_true, dec_false]
  (repeat (with_reducible refine And.intro ?_ ?_; focus exact ob_))
  refine Wpi_loop hm (ι := {i : Nat // i ≤ (vs.length - 2)}) (fun i => [(0, .share, encD 2 Vec.enc default vs), (4, if i.1 = 0 then .adopt else .share, .sl 1004 0 (itr (d_polygon_fan_L1 vs) i.1 ([], 0)).1.length (itr (d_polygon_fan_L1 vs) i.1 ([], 0)).1.length), (5, .share, .sc (.int .i64 (itr (d_polygon_fan_L1 vs) i.1 ([], 0)).2)), (6, .share, .ptr 112 0 0 1), (7, .share, .sc (.int .i64 ((i.1 + 1 : Nat) : Int)))]) (fun i => [(1004, .arr 5 (encQ polygon_triangle.enc default (itr (d_polygon_fan_L1 vs) i.1 ([], 0)).1)), (112, .box [.sc (.int .i64 (vs.getD 0 default).X), .sc (.int .i64 (vs.getD 0 default).Y)])]) (fun i => (vs.length - 2) - i.1) ⟨0, by omega⟩ ?_ ?_
  · refine weakE_ [] [1004] ?_
    simp only [go_sem, ite_andP, ite_orP, dec_true, dec_false, itr_zero]
    all_goals exact fin_
  · rintro ⟨i1, hi1⟩
    dsimp only
    generalize hs1 : itr (d_polygon_fan_L1 vs) i1 ([], 0) = s1
    have hl1_0 : (s1.1).length ≤ ((([], 0) : (List polygon_triangle) × Int).1).length + 1 * i1 := by rw [← hs1]; exact itr_len (fun s : (List polygon_triangle) × Int => (s.1).length) 1 (fun i s => by (unfold d_polygon_fan_L1; (repeat' split) <;> simp <;> omega)) i1 _
    dsimp only [List.length_nil] at hl1_0
    simp only [go_sem, ite_andP, ite_orP, dec_true, dec_false]
    (repeat (with_reducible refine And.intro ?_ ?_; focus exact ob_))
    by_cases h1 : (IntKind.i64.wrap (((i1 + 1 : Nat) : Int) + 1)) < (vs.length : Int)
    · first | rw [if_pos h1] | rw [if_pos (by simp_all)] | rw [if_pos (by omega)]
      have hlt1 : i1 < (vs.length - 2) := by first | omega | (simp only [IntKind.wrap_i64] at h1; omega)
      (repeat (with_reducible refine And.intro ?_ ?_; focus exact ob_))
      refine CallGi_flat (s_fixed_RoundDiv (IntKind.i64.wrap ((IntKind.i64.wrap ((IntKind.i64.wrap ((vs.getD (i1 + 1) default).X - (vs.getD 0 default).X)) * (IntKind.i64.wrap ((vs.getD (IntKind.i64.wrap (((i1 + 1 : Nat) : Int) + 1)).toNat default).Y - (vs.getD 0 default).Y)))) - (IntKind.i64.wrap ((IntKind.i64.wrap ((vs.getD (i1 + 1) default).Y - (vs.getD 0 default).Y)) * (IntKind.i64.wrap ((vs.getD (IntKind.i64.wrap (((i1 + 1 : Nat) : Int) + 1)).toNat default).X - (vs.getD 0 default).X)))))) 65536 ) rfl ?_
      generalize hv1 : (rdiv (IntKind.i64.wrap ((IntKind.i64.wrap ((IntKind.i64.wrap ((vs.getD (i1 + 1) default).X - (vs.getD 0 default).X)) * (IntKind.i64.wrap ((vs.getD (IntKind.i64.wrap (((i1 + 1 : Nat) : Int) + 1)).toNat default).Y - (vs.getD 0 default).Y)))) - (IntKind.i64.wrap ((IntKind.i64.wrap ((vs.getD (i1 + 1) default).Y - (vs.getD 0 default).Y)) * (IntKind.i64.wrap ((vs.getD (IntKind.i64.wrap (((i1 + 1 : Nat) : Int) + 1)).toNat default).X - (vs.getD 0 default).X)))))) 65536) = v1
      simp only [go_sem, ite_andP, ite_orP, dec_true, dec_false]
      (repeat (with_reducible refine And.intro ?_ ?_; focus exact ob_))
      have hn : itr (d_polygon_fan_L1 vs) (i1 + 1) ([], 0) = ((s1.1 ++ [(⟨(⟨(IntKind.i64.wrap ((vs.getD (i1 + 1) default).X - (vs.getD 0 default).X)), (IntKind.i64.wrap ((vs.getD (i1 + 1) default).Y - (vs.getD 0 default).Y))⟩ : Vec), (⟨(IntKind.i64.wrap ((vs.getD (IntKind.i64.wrap (((i1 + 1 : Nat) : Int) + 1)).toNat default).X - (vs.getD 0 default).X)), (IntKind.i64.wrap ((vs.getD (IntKind.i64.wrap (((i1 + 1 : Nat) : Int) + 1)).toNat default).Y - (vs.getD 0 default).Y))⟩ : Vec), v1⟩ : polygon_triangle)]), (IntKind.i64.wrap (s1.2 + v1))) := by rw [itr_succ, hs1]; first | with_reducible rfl | (unfold d_polygon_fan_L1; exact hd_)
      refine loop_next ⟨i1 + 1, by omega⟩ (by show (vs.length - 2) - (i1 + 1) < (vs.length - 2) - i1; omega) (weakE_ [] [] ?_)
      simp only [go_sem, ite_andP, ite_orP, dec_true, dec_false, hn]
      all_goals ((try dsimp only); (repeat' (with_reducible apply And.intro)) <;> first | exact q_app1 ((⟨(⟨(IntKind.i64.wrap ((vs.getD (i1 + 1) default).X - (vs.getD 0 default).X)), (IntKind.i64.wrap ((vs.getD (i1 + 1) default).Y - (vs.getD 0 default).Y))⟩ : Vec), (⟨(IntKind.i64.wrap ((vs.getD (IntKind.i64.wrap (((i1 + 1 : Nat) : Int) + 1)).toNat default).X - (vs.getD 0 default).X)), (IntKind.i64.wrap ((vs.getD (IntKind.i64.wrap (((i1 + 1 : Nat) : Int) + 1)).toNat default).Y - (vs.getD 0 default).Y))⟩ : Vec), v1⟩ : polygon_triangle)) rfl rfl | exact fin_)
    · first | rw [if_neg h1] | rw [if_neg (by simp_all)] | rw [if_neg (by omega)]
      (repeat (with_reducible refine And.intro ?_ ?_; focus exact ob_))
      have hge : i1 = (vs.length - 2) := by first | omega | (simp only [IntKind.wrap_i64] at h1; omega)
      subst hge
      have hd : d_polygon_fan vs = (s1.1, s1.2) := by first | with_reducible rfl | (unfold d_polygon_fan; exact hd_)
      try rw [hd]
      try simp only [go_sem, ite_andP, ite_orP, dec_true, dec_false]
      all_goals exact fin_
def d_polygon_Area (vs : List Vec) : Int := let v1 := (d_polygon_IsConvex vs); if v1 = false then (0) else (let v2 := (d_polygon_fan vs); let v3 := (rdiv v2.2 2); v3)
theorem s_polygon_Area (vs : List Vec) (hn : vs.length ≤ 1048576) : CallsA Tryz.prog F_polygon_Area [encD 2 Vec.enc default vs] [] (.sc (.int .i64 (d_polygon_Area vs))) [] := by
  refine en1 hm shOk Tryz.func171 rfl rfl ?_
  simp only [go_sem, ite_andP, ite_orP, dec_true, dec_false]
  (repeat (with_reducible refine And.intro ?_ ?_; focus exact ob_))
  have p1 := convex_len vs
  refine CallGi_flat (s_polygon_IsConvex vs (by (first | assumption | omega | (simp_all; done) | (simp_all; omega)))) rfl ?_
  generalize hv1 : (d_polygon_IsConvex vs) = v1 at *
  simp only [go_sem, ite_andP, ite_orP, dec_true, dec_false]
  (repeat (with_reducible refine And.intro ?_ ?_; focus exact ob_))
  by_cases h2 : v1 = false
  · first | rw [if_pos h2] | rw [if_pos (by simp_all)] | rw [if_pos (by omega)]
    (repeat (with_reducible refine And.intro ?_ ?_; focus exact ob_))
    have hd : d_polygon_Area vs = 0 := by first | with_reducible rfl | (unfold d_polygon_Area; exact hd_)
    try rw [hd]
    try simp only [go_sem, ite_andP, ite_orP, dec_true, dec_false]
    all_goals exact fin_
  · first | rw [if_neg h2] | rw [if_neg (by simp_all)] | rw [if_neg (by omega)]
    (repeat (with_reducible refine And.intro ?_ ?_; focus exact ob_))
    refine CallGi_flat (s_polygon_fan vs (by (first | assumption | omega | (simp_all; done) | (simp_all; omega))) (by (first | assumption | omega | (simp_all; done) | (simp_all; omega)))) rfl ?_
    generalize hv2 : (d_polygon_fan vs) = v2
    simp only [go_sem, ite_andP, ite_orP, dec_true, dec_false]
    (repeat (with_reducible refine And.intro ?_ ?_; focus exact ob_))
    refine CallGi_flat (s_fixed_RoundDiv v2.2 2 ) rfl ?_
    generalize hv3 : (rdiv v2.2 2) = v3
    simp only [go_sem, ite_andP, ite_orP, dec_true, dec_false]
    (repeat (with_reducible refine And.intro ?_ ?_; focus exact ob_))
    have hd : d_polygon_Area vs = v3 := by first | with_reducible rfl | (unfold d_polygon_Area; exact hd_)
    try rw [hd]
    try simp only [go_sem, ite_andP, ite_orP, dec_true, dec_false]
    all_goals exact fin_
end Go.Abs
end
section
namespace Go.Abs
open Go.Proofs
open Api
def d_body_inRange (b : Body) : Bool := let v1 := (d_body_bounded b.Velocity 16777216); let v3 := (d_body_bounded b.Force 536870911); let v9 := (d_transform_Valid b.Transform); (((((((inR b.ID 1 1099511627776) && v9) && (v1 && (inR b.AngularVelocity (-4194304) 4194304))) && (v3 && (inR b.Torque (-536870911) 536870911))) && ((inR b.LinearDamping 0 65536) && (inR b.AngularDamping 0 65536))) && (inR b.GravityScale (-262144) 262144)) && (inR b.IdleSteps 0 1048576))
theorem s_body_inRange (b : Body)  : CallsA Tryz.prog F_body_inRange [.agg b.enc] [] (.sc (.bool (d_body_inRange b))) [] := by
  refine en1 hm shOk Tryz.func97 rfl rfl ?_
  have := s_body_bounded
  have := s_body_within
  have := s_transform_Valid
  have := d_body_inRange.eq_1 b
  exact walk_
def d_joint_limitRange (k : Int) : Int × Int := if (k == 1) = true then ((0, 268435456)) else (if (k == 2) = true then (((-205888), 205888)) else (((-268435456), 268435456)))
theorem s_joint_limitRange (k : Int)  : CallsA Tryz.prog F_joint_limitRange [.sc (.int .i64 k)] [] (.tup [.sc (.int .i64 (d_joint_limitRange k).1), .sc (.int .i64 (d_joint_limitRange k).2)]) [] := by
  refine enT hm shOk Tryz.func140 rfl rfl ?_
  have := d_joint_limitRange.eq_1 k
  exact walk_
def d_joint_pointInRange (v : Vec) (limit : Int) : Bool := ((inR v.X (IntKind.i64.wrap (0 - limit)) limit) && (inR v.Y (IntKind.i64.wrap (0 - limit)) limit))
theorem s_joint_pointInRange (v : Vec) (limit : Int)  : CallsA Tryz.prog F_joint_pointInRange [.agg v.enc, .sc (.int .i64 limit)] [] (.sc (.bool (d_joint_pointInRange v limit))) [] := by
  refine en1 hm shOk Tryz.func142 rfl rfl ?_
  have := s_joint_inRange
  have := d_joint_pointInRange.eq_1 v limit
  exact walk_
def d_joint_validBodies (j : Joint) : Bool := if (j.Kind == 5) = true then (((j.BodyA == 0) && (inR j.BodyB 1 1099511627776))) else ((((inR j.BodyA 1 1099511627776) && (inR j.BodyB 1 1099511627776)) && (j.BodyA != j.BodyB)))
theorem s_joint_validBodies (j : Joint)  : CallsA Tryz.prog F_joint_validBodies [.agg j.enc] [] (.sc (.bool (d_joint_validBodies j))) [] := by
  refine en1 hm shOk Tryz.func101 rfl rfl ?_
  have := s_joint_inRange
  have := d_joint_validBodies.eq_1 j
  exact walk_
def d_joint_inconsistent (j : Joint) : Bool := if (j.Kind == 3) = true then (let v1 := (lenV j.Axis); (!(inR v1 65520 65552))) else (if (j.Kind == 1) = true then ((((!((j.Axis.X == 0) && (j.Axis.Y == 0))) || j.EnableMotor) || (!j.EnableLimit))) else (if (j.Kind == 4) = true then ((((!((j.Axis.X == 0) && (j.Axis.Y == 0))) || j.EnableMotor) || j.EnableLimit)) else (if (j.Kind == 5) = true then ((((!((j.Axis.X == 0) && (j.Axis.Y == 0))) || j.EnableMotor) || j.EnableLimit)) else ((!((j.Axis.X == 0) && (j.Axis.Y == 0)))))))
theorem s_joint_inconsistent (j : Joint)  : CallsA Tryz.prog F_joint_inconsistent [.agg j.enc] [] (.sc (.bool (d_joint_inconsistent j))) [] := by
  refine en1 hm shOk Tryz.func102 rfl rfl ?_
  have := s_vec2_Length
  have := s_joint_inRange
  have := d_joint_inconsistent.eq_1 j
  exact walk_
end Go.Abs
end
section
namespace Go.Abs
open Go.Proofs
open Api
def gcells (w : Api.World) (x : Island) (n : Nat) : List AV := [.sc (.int .i64 w.Settings.TimeStep), .sc (.int .i64 w.Settings.Gravity.X), .sc (.int .i64 w.Settings.Gravity.Y), .sc (.int .i64 w.Settings.Iterations), .sc (.int .i64 w.Settings.SleepSteps),
  .sl 1 0 w.Bodies.length w.Bodies.length, .sl 2 0 w.Joints.length w.Joints.length, .sl 3 0 w.Contacts.length w.Contacts.length, .sl 4 0 w.Overlaps.length w.Overlaps.length, .sc (.int .i64 w.NextID), .sc (.int .i64 w.Frame),
  encD 1 encInt 0 x.Bodies, encD 1 encInt 0 x.Contacts, encD 1 encInt 0 x.Joints, .sl 5 0 n n]
def gobj (w : Api.World) (x : Island) (l : List Int) : List (Nat × AObj) := (6, .box (gcells w x l.length)) :: (5, .arr 1 (encQ encInt 0 l)) :: Wobj w 1 2 3 4
attribute [go_sem] gcells gobj
def anyO (w : Api.World) (x : Island) (l : List Int) (f : FuncId) : List (Nat × AObj) := (48, .box [.ptr 6 0 0 1]) :: (64, .box [.fn (.func f) [.ptr 6 0 0 1] []]) :: gobj w x l
attribute [go_sem] anyO
end Go.Abs
end
section
namespace Go.Abs
open Go.Proofs
open Api
def idxG {α : Type} (d : α) (p : α → Bool) (l : List α) : Int := match (List.range l.length).find? (fun i => p (l.getD i d)) with | some i => i | none => -1
theorem idxG_at {α : Type} {d : α} {p : α → Bool} {l : List α} {i : Nat} (hi : i < l.length) (h : ∀ j, j < i → p (l.getD j d) = false) (hp : p (l.getD i d) = true) : idxG d p l = i := by
  have : (List.range l.length).find? (fun i => p (l.getD i d)) = some i := by
    rw [List.find?_range_eq_some]
    exact ⟨hp, by simpa using hi, fun j hj => by simp only [h j hj, Bool.not_false]⟩
  unfold idxG; rw [this]
theorem idxG_none {α : Type} {d : α} {p : α → Bool} {l : List α} (h : ∀ j, j < l.length → p (l.getD j d) = false) : idxG d p l = -1 := by
  have : (List.range l.length).find? (fun i => p (l.getD i d)) = none := by
    rw [List.find?_range_eq_none]
    exact fun j hj => by simp only [h j hj, Bool.not_false]
  unfold idxG; rw [this]
theorem idxG_lt {α : Type} {d : α} {p : α → Bool} {l : List α} : -1 ≤ idxG d p l ∧ (idxG d p l) < l.length := by
  unfold idxG
  cases hf : (List.range l.length).find? (fun i => p (l.getD i d)) with
  | none => simp; omega
  | some i => have := List.mem_of_find?_eq_some hf; rw [List.mem_range] at this; simp; omega
theorem s_slices_IndexFunc_Body (l : List Body) (f : FuncId) (first cap : List AV) (O : List (Nat × AObj)) (p : Body → Bool) (hl : l.length ≤ 1048576) (hO : okO O)
    (hids : ∀ i ∈ (AV.fn (.func f) first cap).ids, (ofL O i).isSome)
    (hp : ∀ x ∈ l, CallsA Tryz.prog f (first ++ [.agg x.enc] ++ cap) O (.sc (.bool (p x))) O) :
    CallsA Tryz.prog F_slices_IndexFunc_Body [encD 20 Body.enc default l, .fn (.func f) first cap] O (.sc (.int .i64 (idxG default p l))) O := by
  have hren : (AV.fn (.func f) first cap).ren id = .fn (.func f) first cap := AV.ren_id _
  have hargs : ∀ x : Body, ∀ a ∈ first ++ [.agg x.enc] ++ cap, ∀ i ∈ a.ids, (ofL O i).isSome := fun x a ha i hi => by
    simp only [List.mem_append, List.mem_singleton] at ha
    refine hids i ?_
    simp only [AV.ids, List.mem_append]
    rcases ha with (ha | rfl) | ha
    · obtain ⟨k, hk⟩ := List.getElem?_of_mem ha; exact .inl (mem_idsL hk i hi)
    · simp [AV.ids, go_sem] at hi
    · obtain ⟨k, hk⟩ := List.getElem?_of_mem ha; exact .inr (mem_idsL hk i hi)
  refine enO1 hm shOk Tryz.func103 rfl rfl ?_
  simp only [go_sem]
  refine Wpi_loop hm (ι := {i : Nat // i ≤ l.length ∧ ∀ j, j < i → p (l.getD j default) = false}) (fun i => [(0, .share, encD 20 Body.enc default l), (1, .share, .fn (.func f) first cap), (7, .share, .sc (.int .i64 l.length)), (8, .share, .sc (.int .i64 i.1))])
    (fun i => O) (fun i => l.length - i.1) ⟨0, by omega, fun j hj => by omega⟩ ?_ ?_
  · refine weakE_same hO rfl ?_
    simp only [go_sem]
    exact ⟨by rw [renL_id, renL_id], fun i hi => hids i hi⟩
  · rintro ⟨i, hi, hs⟩
    simp only [go_sem]
    split
    · rename_i hlt
      have hlt : i < l.length := by omega
      refine ⟨ok_, ?_⟩
      have hx : CallsA Tryz.prog f (first ++ .agg (l.getD i default).enc :: cap) O (.sc (.bool (p (l.getD i default)))) O := by
        have := hp (l.getD i default) (mem_getD default hlt)
        rwa [List.append_assoc] at this
      refine CallGi_same hx hO rfl (fun a ha => hargs (l.getD i default) a (by rw [List.append_assoc]; exact ha)) rfl ?_
      simp only [go_sem]
      cases hpx : p (l.getD i default) with
      | true =>
        rw [if_pos rfl]
        refine retW_same [.share] rfl rfl hO (wrm_self hO) ?_
        simp only [go_sem]
        exact (idxG_at hlt hs hpx).symm
      | false =>
        rw [if_neg (by simp)]
        refine loop_next ⟨i + 1, by omega, fun j hj => by rcases Nat.lt_succ_iff_lt_or_eq.1 hj with h | rfl; exact hs j h; exact hpx⟩ (by show l.length - (i + 1) < l.length - i; omega) (weakE_same hO (wrm_self hO) ?_)
        simp only [go_sem]
        exact ⟨by rw [renL_id, renL_id], fun i hi => hids i hi, (by rw [IntKind.wrap_i64]; omega)⟩
    · rename_i hge
      refine retW_same [.share] rfl rfl hO rfl ?_
      simp only [go_sem]
      exact (idxG_none fun j hj => hs j (by omega)).symm
def findB (w : Api.World) (id : Int) : Int := idxG default (fun b : Body => b.ID == id) w.Bodies
theorem okO_fb (id : Int) : okO [(1, .box [.sc (.int .i64 id)])] := by
  refine ⟨by simp [go_sem], ?_⟩
  simp [go_sem, idsL, AV.ids]
theorem s_world_FindBody_f1 (id : Int) (b : Body) : CallsA Tryz.prog F_world_FindBody_f1 [.agg b.enc, .ptr 1 0 0 1] [(1, .box [.sc (.int .i64 id)])] (.sc (.bool (b.ID == id))) [(1, .box [.sc (.int .i64 id)])] := by
  refine enO1 hm shOk Tryz.func104 rfl rfl ?_
  simp only [go_sem]
  refine retW_of [.share] [] [] rfl rfl (by simp [go_sem]) (by simp [assoc, go_sem]) (by simp [go_sem]) ?_
  simp only [go_sem]
theorem s_world_FindBody (w : Api.World) (id : Int) (hw : w.Bodies.length ≤ 1048576) : CallsA Tryz.prog F_world_FindBody [.agg w.enc, .sc (.int .i64 id)] [] (.sc (.int .i64 (findB w id))) [] := by
  refine enO1 hm shOk Tryz.func52 rfl rfl ?_
  simp only [go_sem]
  refine CallGi_obj [true, true] [(1, 64)] (s_slices_IndexFunc_Body w.Bodies F_world_FindBody_f1 [] [.ptr 1 0 0 1] [(1, .box [.sc (.int .i64 id)])] (fun b => b.ID == id) hw (okO_fb id) (by simp [go_sem, AV.ids]) (fun b _ => s_world_FindBody_f1 id b)) (by simp) (by simp) (by simp) (by simp [go_sem]) ?_
  simp only [go_sem]
  refine retW_of [.share] [] [] rfl rfl (by simp [go_sem]) (by simp [assoc, go_sem]) (by simp [go_sem]) ?_
  simp only [go_sem]
  rfl
end Go.Abs
end
section
namespace Go.Abs
open Go.Proofs
open Api
attribute [go_sem] Option.toList_none Option.toList_some
theorem idxG_any {α : Type} {d : α} (p : α → Bool) (l : List α) : decide (0 ≤ idxG d p l) = l.any p := by
  cases h : l.any p with
  | true =>
    rw [List.any_eq_true] at h
    obtain ⟨x, hx, hp⟩ := h
    obtain ⟨k, hk, rfl⟩ := List.getElem_of_mem hx
    unfold idxG
    cases hf : (List.range l.length).find? (fun i => p (l.getD i d)) with
    | none =>
      rw [List.find?_range_eq_none] at hf
      have := hf k hk
      simp [List.getD, hk, hp] at this
    | some i => simp
  | false =>
    rw [List.any_eq_false] at h
    rw [idxG_none fun j hj => by simpa using h _ (mem_getD d hj)]; decide
theorem s_slices_IndexFunc_Vec (l : List Vec) (f : FuncId) (first cap : List AV) (O : List (Nat × AObj)) (p : Vec → Bool) (hl : l.length ≤ 4194304) (hO : okO O)
    (hids : ∀ i ∈ (AV.fn (.func f) first cap).ids, (ofL O i).isSome)
    (hp : ∀ x ∈ l, CallsA Tryz.prog f (first ++ [.agg x.enc] ++ cap) O (.sc (.bool (p x))) O) :
    CallsA Tryz.prog F_slices_IndexFunc_Vec [encD 2 Vec.enc default l, .fn (.func f) first cap] O (.sc (.int .i64 (idxG default p l))) O := by
  have hren : (AV.fn (.func f) first cap).ren id = .fn (.func f) first cap := AV.ren_id _
  have hargs : ∀ x : Vec, ∀ a ∈ first ++ [.agg x.enc] ++ cap, ∀ i ∈ a.ids, (ofL O i).isSome := fun x a ha i hi => by
    simp only [List.mem_append, List.mem_singleton] at ha
    refine hids i ?_
    simp only [AV.ids, List.mem_append]
    rcases ha with (ha | rfl) | ha
    · obtain ⟨k, hk⟩ := List.getElem?_of_mem ha; exact .inl (mem_idsL hk i hi)
    · simp [AV.ids, go_sem] at hi
    · obtain ⟨k, hk⟩ := List.getElem?_of_mem ha; exact .inr (mem_idsL hk i hi)
  refine enO1 hm shOk Tryz.func184 rfl rfl ?_
  simp only [go_sem]
  refine Wpi_loop hm (ι := {i : Nat // i ≤ l.length ∧ ∀ j, j < i → p (l.getD j default) = false}) (fun i => [(0, .share, encD 2 Vec.enc default l), (1, .share, .fn (.func f) first cap), (7, .share, .sc (.int .i64 l.length)), (8, .share, .sc (.int .i64 i.1))])
    (fun i => O) (fun i => l.length - i.1) ⟨0, by omega, fun j hj => by omega⟩ ?_ ?_
  · refine weakE_same hO rfl ?_
    simp only [go_sem]
    exact ⟨by rw [renL_id, renL_id], fun i hi => hids i hi⟩
  · rintro ⟨i, hi, hs⟩
    simp only [go_sem]
    split
    · rename_i hlt
      have hlt : i < l.length := by omega
      refine ⟨ok_, ?_⟩
      have hx : CallsA Tryz.prog f (first ++ .agg (l.getD i default).enc :: cap) O (.sc (.bool (p (l.getD i default)))) O := by
        have := hp (l.getD i default) (mem_getD default hlt)
        rwa [List.append_assoc] at this
      refine CallGi_same hx hO rfl (fun a ha => hargs (l.getD i default) a (by rw [List.append_assoc]; exact ha)) rfl ?_
      simp only [go_sem]
      cases hpx : p (l.getD i default) with
      | true =>
        rw [if_pos rfl]
        refine retW_same [.share] rfl rfl hO (wrm_self hO) ?_
        simp only [go_sem]
        exact (idxG_at hlt hs hpx).symm
      | false =>
        rw [if_neg (by simp)]
        refine loop_next ⟨i + 1, by omega, fun j hj => by rcases Nat.lt_succ_iff_lt_or_eq.1 hj with h | rfl; exact hs j h; exact hpx⟩ (by show l.length - (i + 1) < l.length - i; omega) (weakE_same hO (wrm_self hO) ?_)
        simp only [go_sem]
        exact ⟨by rw [renL_id, renL_id], fun i hi => hids i hi, (by rw [IntKind.wrap_i64]; omega)⟩
    · rename_i hge
      refine retW_same [.share] rfl rfl hO rfl ?_
      simp only [go_sem]
      exact (idxG_none fun j hj => hs j (by omega)).symm
theorem s_slices_ContainsFunc_Vec (l : List Vec) (f : FuncId) (first cap : List AV) (O : List (Nat × AObj)) (p : Vec → Bool) (hl : l.length ≤ 4194304) (hO : okO O)
    (hids : ∀ i ∈ (AV.fn (.func f) first cap).ids, (ofL O i).isSome)
    (hp : ∀ x ∈ l, CallsA Tryz.prog f (first ++ [.agg x.enc] ++ cap) O (.sc (.bool (p x))) O) :
    CallsA Tryz.prog F_slices_ContainsFunc_Vec [encD 2 Vec.enc default l, .fn (.func f) first cap] O (.sc (.bool (l.any p))) O := by
  refine enO1 hm shOk Tryz.func165 rfl rfl ?_
  simp only [go_sem]
  refine CallGi_same (s_slices_IndexFunc_Vec l f first cap O p hl hO hids hp) hO rfl ?_ rfl ?_
  · intro a ha
    simp only [List.mem_cons, List.not_mem_nil, or_false] at ha
    rcases ha with rfl | rfl
    · intro i hi; simp [AV.ids] at hi
    · exact hids
  · simp only [go_sem]
    refine retW_same [.share] rfl rfl hO (wrm_self hO) ?_
    simp only [go_sem]
    exact idxG_any p l
theorem s_slices_IndexFunc_ContactPoint (l : List ContactPoint) (f : FuncId) (first cap : List AV) (O : List (Nat × AObj)) (p : ContactPoint → Bool) (hl : l.length ≤ 4194304) (hO : okO O)
    (hids : ∀ i ∈ (AV.fn (.func f) first cap).ids, (ofL O i).isSome)
    (hp : ∀ x ∈ l, CallsA Tryz.prog f (first ++ [.agg x.enc] ++ cap) O (.sc (.bool (p x))) O) :
    CallsA Tryz.prog F_slices_IndexFunc_ContactPoint [encD 6 ContactPoint.enc default l, .fn (.func f) first cap] O (.sc (.int .i64 (idxG default p l))) O := by
  have hren : (AV.fn (.func f) first cap).ren id = .fn (.func f) first cap := AV.ren_id _
  have hargs : ∀ x : ContactPoint, ∀ a ∈ first ++ [.agg x.enc] ++ cap, ∀ i ∈ a.ids, (ofL O i).isSome := fun x a ha i hi => by
    simp only [List.mem_append, List.mem_singleton] at ha
    refine hids i ?_
    simp only [AV.ids, List.mem_append]
    rcases ha with (ha | rfl) | ha
    · obtain ⟨k, hk⟩ := List.getElem?_of_mem ha; exact .inl (mem_idsL hk i hi)
    · simp [AV.ids, go_sem] at hi
    · obtain ⟨k, hk⟩ := List.getElem?_of_mem ha; exact .inr (mem_idsL hk i hi)
  refine enO1 hm shOk Tryz.func146 rfl rfl ?_
  simp only [go_sem]
  refine Wpi_loop hm (ι := {i : Nat // i ≤ l.length ∧ ∀ j, j < i → p (l.getD j default) = false}) (fun i => [(0, .share, encD 6 ContactPoint.enc default l), (1, .share, .fn (.func f) first cap), (7, .share, .sc (.int .i64 l.length)), (8, .share, .sc (.int .i64 i.1))])
    (fun i => O) (fun i => l.length - i.1) ⟨0, by omega, fun j hj => by omega⟩ ?_ ?_
  · refine weakE_same hO rfl ?_
    simp only [go_sem]
    exact ⟨by rw [renL_id, renL_id], fun i hi => hids i hi⟩
  · rintro ⟨i, hi, hs⟩
    simp only [go_sem]
    split
    · rename_i hlt
      have hlt : i < l.length := by omega
      refine ⟨ok_, ?_⟩
      have hx : CallsA Tryz.prog f (first ++ .agg (l.getD i default).enc :: cap) O (.sc (.bool (p (l.getD i default)))) O := by
        have := hp (l.getD i default) (mem_getD default hlt)
        rwa [List.append_assoc] at this
      refine CallGi_same hx hO rfl (fun a ha => hargs (l.getD i default) a (by rw [List.append_assoc]; exact ha)) rfl ?_
      simp only [go_sem]
      cases hpx : p (l.getD i default) with
      | true =>
        rw [if_pos rfl]
        refine retW_same [.share] rfl rfl hO (wrm_self hO) ?_
        simp only [go_sem]
        exact (idxG_at hlt hs hpx).symm
      | false =>
        rw [if_neg (by simp)]
        refine loop_next ⟨i + 1, by omega, fun j hj => by rcases Nat.lt_succ_iff_lt_or_eq.1 hj with h | rfl; exact hs j h; exact hpx⟩ (by show l.length - (i + 1) < l.length - i; omega) (weakE_same hO (wrm_self hO) ?_)
        simp only [go_sem]
        exact ⟨by rw [renL_id, renL_id], fun i hi => hids i hi, (by rw [IntKind.wrap_i64]; omega)⟩
    · rename_i hge
      refine retW_same [.share] rfl rfl hO rfl ?_
      simp only [go_sem]
      exact (idxG_none fun j hj => hs j (by omega)).symm
theorem s_slices_ContainsFunc_ContactPoint (l : List ContactPoint) (f : FuncId) (first cap : List AV) (O : List (Nat × AObj)) (p : ContactPoint → Bool) (hl : l.length ≤ 4194304) (hO : okO O)
    (hids : ∀ i ∈ (AV.fn (.func f) first cap).ids, (ofL O i).isSome)
    (hp : ∀ x ∈ l, CallsA Tryz.prog f (first ++ [.agg x.enc] ++ cap) O (.sc (.bool (p x))) O) :
    CallsA Tryz.prog F_slices_ContainsFunc_ContactPoint [encD 6 ContactPoint.enc default l, .fn (.func f) first cap] O (.sc (.bool (l.any p))) O := by
  refine enO1 hm shOk Tryz.func106 rfl rfl ?_
  simp only [go_sem]
  refine CallGi_same (s_slices_IndexFunc_ContactPoint l f first cap O p hl hO hids hp) hO rfl ?_ rfl ?_
  · intro a ha
    simp only [List.mem_cons, List.not_mem_nil, or_false] at ha
    rcases ha with rfl | rfl
    · intro i hi; simp [AV.ids] at hi
    · exact hids
  · simp only [go_sem]
    refine retW_same [.share] rfl rfl hO (wrm_self hO) ?_
    simp only [go_sem]
    exact idxG_any p l
theorem s_slices_IndexFunc_PairKey (l : List PairKey) (f : FuncId) (first cap : List AV) (O : List (Nat × AObj)) (p : PairKey → Bool) (hl : l.length ≤ 4194304) (hO : okO O)
    (hids : ∀ i ∈ (AV.fn (.func f) first cap).ids, (ofL O i).isSome)
    (hp : ∀ x ∈ l, CallsA Tryz.prog f (first ++ [.agg x.enc] ++ cap) O (.sc (.bool (p x))) O) :
    CallsA Tryz.prog F_slices_IndexFunc_PairKey [encD 4 PairKey.enc default l, .fn (.func f) first cap] O (.sc (.int .i64 (idxG default p l))) O := by
  have hren : (AV.fn (.func f) first cap).ren id = .fn (.func f) first cap := AV.ren_id _
  have hargs : ∀ x : PairKey, ∀ a ∈ first ++ [.agg x.enc] ++ cap, ∀ i ∈ a.ids, (ofL O i).isSome := fun x a ha i hi => by
    simp only [List.mem_append, List.mem_singleton] at ha
    refine hids i ?_
    simp only [AV.ids, List.mem_append]
    rcases ha with (ha | rfl) | ha
    · obtain ⟨k, hk⟩ := List.getElem?_of_mem ha; exact .inl (mem_idsL hk i hi)
    · simp [AV.ids, go_sem] at hi
    · obtain ⟨k, hk⟩ := List.getElem?_of_mem ha; exact .inr (mem_idsL hk i hi)
  refine enO1 hm shOk Tryz.func110 rfl rfl ?_
  simp only [go_sem]
  refine Wpi_loop hm (ι := {i : Nat // i ≤ l.length ∧ ∀ j, j < i → p (l.getD j default) = false}) (fun i => [(0, .share, encD 4 PairKey.enc default l), (1, .share, .fn (.func f) first cap), (7, .share, .sc (.int .i64 l.length)), (8, .share, .sc (.int .i64 i.1))])
    (fun i => O) (fun i => l.length - i.1) ⟨0, by omega, fun j hj => by omega⟩ ?_ ?_
  · refine weakE_same hO rfl ?_
    simp only [go_sem]
    exact ⟨by rw [renL_id, renL_id], fun i hi => hids i hi⟩
  · rintro ⟨i, hi, hs⟩
    simp only [go_sem]
    split
    · rename_i hlt
      have hlt : i < l.length := by omega
      refine ⟨ok_, ?_⟩
      have hx : CallsA Tryz.prog f (first ++ .agg (l.getD i default).enc :: cap) O (.sc (.bool (p (l.getD i default)))) O := by
        have := hp (l.getD i default) (mem_getD default hlt)
        rwa [List.append_assoc] at this
      refine CallGi_same hx hO rfl (fun a ha => hargs (l.getD i default) a (by rw [List.append_assoc]; exact ha)) rfl ?_
      simp only [go_sem]
      cases hpx : p (l.getD i default) with
      | true =>
        rw [if_pos rfl]
        refine retW_same [.share] rfl rfl hO (wrm_self hO) ?_
        simp only [go_sem]
        exact (idxG_at hlt hs hpx).symm
      | false =>
        rw [if_neg (by simp)]
        refine loop_next ⟨i + 1, by omega, fun j hj => by rcases Nat.lt_succ_iff_lt_or_eq.1 hj with h | rfl; exact hs j h; exact hpx⟩ (by show l.length - (i + 1) < l.length - i; omega) (weakE_same hO (wrm_self hO) ?_)
        simp only [go_sem]
        exact ⟨by rw [renL_id, renL_id], fun i hi => hids i hi, (by rw [IntKind.wrap_i64]; omega)⟩
    · rename_i hge
      refine retW_same [.share] rfl rfl hO rfl ?_
      simp only [go_sem]
      exact (idxG_none fun j hj => hs j (by omega)).symm
theorem s_slices_ContainsFunc_PairKey (l : List PairKey) (f : FuncId) (first cap : List AV) (O : List (Nat × AObj)) (p : PairKey → Bool) (hl : l.length ≤ 4194304) (hO : okO O)
    (hids : ∀ i ∈ (AV.fn (.func f) first cap).ids, (ofL O i).isSome)
    (hp : ∀ x ∈ l, CallsA Tryz.prog f (first ++ [.agg x.enc] ++ cap) O (.sc (.bool (p x))) O) :
    CallsA Tryz.prog F_slices_ContainsFunc_PairKey [encD 4 PairKey.enc default l, .fn (.func f) first cap] O (.sc (.bool (l.any p))) O := by
  refine enO1 hm shOk Tryz.func55 rfl rfl ?_
  simp only [go_sem]
  refine CallGi_same (s_slices_IndexFunc_PairKey l f first cap O p hl hO hids hp) hO rfl ?_ rfl ?_
  · intro a ha
    simp only [List.mem_cons, List.not_mem_nil, or_false] at ha
    rcases ha with rfl | rfl
    · intro i hi; simp [AV.ids] at hi
    · exact hids
  · simp only [go_sem]
    refine retW_same [.share] rfl rfl hO (wrm_self hO) ?_
    simp only [go_sem]
    exact idxG_any p l
end Go.Abs
end
section
namespace Go.Abs
open Go.Proofs
open Api
theorem okO_nil : okO [] := ⟨by simp, by simp⟩
def d_cmp_isNaN_int (x : Int) : Bool := (x != x)
theorem s_cmp_isNaN_int (x : Int)  : CallsA Tryz.prog F_cmp_isNaN_int [.sc (.int .i64 x)] [] (.sc (.bool (d_cmp_isNaN_int x))) [] := by
  refine en1 hm shOk Tryz.func191 rfl rfl ?_
  have := d_cmp_isNaN_int.eq_1 x
  exact walk_
def d_cmp_Compare_int (x : Int) (y : Int) : Int := let v1 := (d_cmp_isNaN_int x); let v2 := (d_cmp_isNaN_int y); if v1 = true then (if v2 = true then (0) else ((-1))) else (if v2 = true then (1) else (if x < y then ((-1)) else (if y < x then (1) else (0))))
theorem s_cmp_Compare_int (x : Int) (y : Int)  : CallsA Tryz.prog F_cmp_Compare_int [.sc (.int .i64 x), .sc (.int .i64 y)] [] (.sc (.int .i64 (d_cmp_Compare_int x y))) [] := by
  refine en1 hm shOk Tryz.func176 rfl rfl ?_
  have := s_cmp_isNaN_int
  have := d_cmp_Compare_int.eq_1 x y
  exact walk_
def d_cmp_Or_int_L1 (l : List Int) (i1 : Nat) (s1 : Unit) : (Unit) ⊕ (Int) := if ((l.getD i1 0) != 0) = true then (.inr (l.getD i1 0)) else (.inl ())
def d_cmp_Or_int (l : List Int) : Int := (match itrE (d_cmp_Or_int_L1 l) l.length () with | .inr r => r | .inl s1 => 0)
theorem s_cmp_Or_int (l : List Int) (hl : l.length ≤ 1048576) : CallsA Tryz.prog F_cmp_Or_int [encD 1 encInt 0 l] [] (.sc (.int .i64 (d_cmp_Or_int l))) [] := by
  refine en1 hm shOk Tryz.func175 rfl rfl ?_
  simp only [go_sem, ite_andP, ite_orP, dec_true, dec_false]
  (repeat (with_reducible refine And.intro ?_ ?_; focus exact ob_))
  refine Wpi_loop hm (ι := {p : Nat × Unit // p.1 ≤ l.length ∧ itrE (d_cmp_Or_int_L1 l) p.1 () = .inl p.2}) (fun i => [(3, .share, .sc (.int .i64 0)), (6, .share, encD 1 encInt 0 l), (7, .share, .sc (.int .i64 (l.length : Int))), (8, .share, .sc (.int .i64 (i.1.1 : Int)))]) (fun i => []) (fun i => l.length - i.1.1) ⟨(0, ()), by omega, rfl⟩ ?_ ?_
  · refine weakE_ [] [] ?_
    simp only [go_sem, ite_andP, ite_orP, dec_true, dec_false, itr_zero]
    all_goals exact fin_
  · rintro ⟨⟨i1, s1⟩, hi1, hs1⟩
    replace hi1 : i1 ≤ l.length := hi1
    replace hs1 : itrE (d_cmp_Or_int_L1 l) i1 () = .inl s1 := hs1
    simp only [go_sem, ite_andP, ite_orP, dec_true, dec_false]
    (repeat (with_reducible refine And.intro ?_ ?_; focus exact ob_))
    by_cases h1 : (i1 : Int) < (l.length : Int)
    · first | rw [if_pos h1] | rw [if_pos (by simp_all)] | rw [if_pos (by omega)]
      have hlt1 : i1 < l.length := by first | omega | (simp only [IntKind.wrap_i64] at h1; omega)
      (repeat (with_reducible refine And.intro ?_ ?_; focus exact ob_))
      by_cases h2 : ((l.getD i1 0) != 0) = true
      · first | rw [if_pos h2] | rw [if_pos (by simp_all)] | rw [if_pos (by omega)]
        (repeat (with_reducible refine And.intro ?_ ?_; focus exact ob_))
        have e1 : itrE (d_cmp_Or_int_L1 l) (i1 + 1) () = .inr (l.getD i1 0) := itrE_inl hs1 (by first | with_reducible rfl | (unfold d_cmp_Or_int_L1; exact hd_))
        replace e1 := itrE_stop e1 (show i1 + 1 ≤ l.length by omega)
        have hd : d_cmp_Or_int l = (l.getD i1 0) := by first | with_reducible rfl | (unfold d_cmp_Or_int; exact hd_)
        try rw [hd]
        try simp only [go_sem, ite_andP, ite_orP, dec_true, dec_false]
        all_goals exact fin_
      · first | rw [if_neg h2] | rw [if_neg (by simp_all)] | rw [if_neg (by omega)]
        (repeat (with_reducible refine And.intro ?_ ?_; focus exact ob_))
        have hn : itrE (d_cmp_Or_int_L1 l) (i1 + 1) () = .inl () := itrE_inl hs1 (by first | with_reducible rfl | (unfold d_cmp_Or_int_L1; exact hd_))
        refine loop_next ⟨(i1 + 1, ()), by omega, hn⟩ (by show l.length - (i1 + 1) < l.length - i1; omega) (weakE_ [] [] ?_)
        simp only [go_sem, ite_andP, ite_orP, dec_true, dec_false]
        all_goals exact fin_
    · first | rw [if_neg h1] | rw [if_neg (by simp_all)] | rw [if_neg (by omega)]
      (repeat (with_reducible refine And.intro ?_ ?_; focus exact ob_))
      have hge : i1 = l.length := by first | omega | (simp only [IntKind.wrap_i64] at h1; omega)
      subst hge
      have hd : d_cmp_Or_int l = 0 := by first | with_reducible rfl | (unfold d_cmp_Or_int; exact hd_)
      try rw [hd]
      try simp only [go_sem, ite_andP, ite_orP, dec_true, dec_false]
      all_goals exact fin_
def d_broadphase_compare (a : PairKey) (b : PairKey) : Int := let v1 := (d_cmp_Compare_int a.BodyA b.BodyA); let v2 := (d_cmp_Compare_int a.FixtureA b.FixtureA); let v3 := (d_cmp_Compare_int a.BodyB b.BodyB); let v4 := (d_cmp_Compare_int a.FixtureB b.FixtureB); let v5 := (d_cmp_Or_int ([v1, v2, v3, v4])); v5
theorem s_broadphase_compare (a : PairKey) (b : PairKey)  : CallsA Tryz.prog F_broadphase_compare [.agg a.enc, .agg b.enc] [] (.sc (.int .i64 (d_broadphase_compare a b))) [] := by
  refine en1 hm shOk Tryz.func147 rfl rfl ?_
  simp only [go_sem, ite_andP, ite_orP, dec_true, dec_false]
  (repeat (with_reducible refine And.intro ?_ ?_; focus exact ob_))
  refine CallGi_flat (s_cmp_Compare_int a.BodyA b.BodyA ) rfl ?_
  generalize hv1 : (d_cmp_Compare_int a.BodyA b.BodyA) = v1
  simp only [go_sem, ite_andP, ite_orP, dec_true, dec_false]
  (repeat (with_reducible refine And.intro ?_ ?_; focus exact ob_))
  refine CallGi_flat (s_cmp_Compare_int a.FixtureA b.FixtureA ) rfl ?_
  generalize hv2 : (d_cmp_Compare_int a.FixtureA b.FixtureA) = v2
  simp only [go_sem, ite_andP, ite_orP, dec_true, dec_false]
  (repeat (with_reducible refine And.intro ?_ ?_; focus exact ob_))
  refine CallGi_flat (s_cmp_Compare_int a.BodyB b.BodyB ) rfl ?_
  generalize hv3 : (d_cmp_Compare_int a.BodyB b.BodyB) = v3
  simp only [go_sem, ite_andP, ite_orP, dec_true, dec_false]
  (repeat (with_reducible refine And.intro ?_ ?_; focus exact ob_))
  refine CallGi_flat (s_cmp_Compare_int a.FixtureB b.FixtureB ) rfl ?_
  generalize hv4 : (d_cmp_Compare_int a.FixtureB b.FixtureB) = v4
  simp only [go_sem, ite_andP, ite_orP, dec_true, dec_false]
  (repeat (with_reducible refine And.intro ?_ ?_; focus exact ob_))
  refine CallGi_keep (s_cmp_Or_int ([v1, v2, v3, v4]) (by (first | assumption | omega | (simp_all; done) | (simp_all; omega)))) rfl ?_ ?_
  · (try simp only [argsC, go_sem, ite_andP, ite_orP, dec_true, dec_false]); all_goals ((repeat' (with_reducible apply And.intro)) <;> first | with_reducible rfl | trivial | exact avle_lit2 (fun _ _ => rfl) rfl rfl rfl | exact avle_nilD rfl | exact avle_self _ | rfl)
  generalize hv5 : (d_cmp_Or_int ([v1, v2, v3, v4])) = v5
  simp only [go_sem, ite_andP, ite_orP, dec_true, dec_false]
  (repeat (with_reducible refine And.intro ?_ ?_; focus exact ob_))
  have hd : d_broadphase_compare a b = v5 := by first | with_reducible rfl | (unfold d_broadphase_compare; exact hd_)
  try rw [hd]
  try simp only [go_sem, ite_andP, ite_orP, dec_true, dec_false]
  all_goals exact fin_
def d_broadphase_Less (a : PairKey) (b : PairKey) : Bool := let v1 := (d_broadphase_compare a b); (decide (v1 < 0))
theorem s_broadphase_Less (a : PairKey) (b : PairKey)  : CallsA Tryz.prog F_broadphase_Less [.agg a.enc, .agg b.enc] [] (.sc (.bool (d_broadphase_Less a b))) [] := by
  refine en1 hm shOk Tryz.func109 rfl rfl ?_
  have := s_broadphase_compare
  have := d_broadphase_Less.eq_1 a b
  exact walk_
def d_broadphase_ValidKeys_L1 (l : List PairKey) (i1 : Nat) (s1 : Int × Int × Int × Int) : (Int × Int × Int × Int) ⊕ (Bool) := let v1 := (d_broadphase_valid (l.getD i1 default)); let v2 := (d_broadphase_Less (⟨s1.1, s1.2.1, s1.2.2.1, s1.2.2.2⟩ : PairKey) (l.getD i1 default)); if ((!v1) || ((decide (0 < (i1 : Int))) && ((((l.getD i1 default).BodyA == s1.1) && (((l.getD i1 default).FixtureA == s1.2.1) && (((l.getD i1 default).BodyB == s1.2.2.1) && ((l.getD i1 default).FixtureB == s1.2.2.2)))) || (!v2)))) = true then (.inr false) else (.inl ((l.getD i1 default).BodyA, (l.getD i1 default).FixtureA, (l.getD i1 default).BodyB, (l.getD i1 default).FixtureB))
def d_broadphase_ValidKeys (l : List PairKey) : Bool := (match itrE (d_broadphase_ValidKeys_L1 l) l.length (0, 0, 0, 0) with | .inr r => r | .inl s1 => true)
theorem s_broadphase_ValidKeys (l : List PairKey) (hl : l.length ≤ 1048576) : CallsA Tryz.prog F_broadphase_ValidKeys [encD 4 PairKey.enc default l] [] (.sc (.bool (d_broadphase_ValidKeys l))) [] := by
  refine en1 hm shOk Tryz.func54 rfl rfl ?_
  simp only [go_sem, ite_andP, ite_orP, dec_true, dec_false]
  (repeat (with_reducible refine And.intro ?_ ?_; focus exact ob_))
  refine Wpi_loop hm (ι := {p : Nat × (Int × Int × Int × Int) // p.1 ≤ l.length ∧ itrE (d_broadphase_ValidKeys_L1 l) p.1 (0, 0, 0, 0) = .inl p.2}) (fun i => [(3, .share, .ptr 64 0 0 1), (7, .share, encD 4 PairKey.enc default l), (8, .share, .sc (.int .i64 (l.length : Int))), (9, .share, .sc (.int .i64 (i.1.1 : Int)))]) (fun i => [(64, .box [.sc (.int .i64 i.1.2.1), .sc (.int .i64 i.1.2.2.1), .sc (.int .i64 i.1.2.2.2.1), .sc (.int .i64 i.1.2.2.2.2)])]) (fun i => l.length - i.1.1) ⟨(0, (0, 0, 0, 0)), by omega, rfl⟩ ?_ ?_
  · refine weakE_ [] [] ?_
    simp only [go_sem, ite_andP, ite_orP, dec_true, dec_false, itr_zero]
    all_goals exact fin_
  · rintro ⟨⟨i1, s1⟩, hi1, hs1⟩
    replace hi1 : i1 ≤ l.length := hi1
    replace hs1 : itrE (d_broadphase_ValidKeys_L1 l) i1 (0, 0, 0, 0) = .inl s1 := hs1
    simp only [go_sem, ite_andP, ite_orP, dec_true, dec_false]
    (repeat (with_reducible refine And.intro ?_ ?_; focus exact ob_))
    by_cases h1 : (i1 : Int) < (l.length : Int)
    · first | rw [if_pos h1] | rw [if_pos (by simp_all)] | rw [if_pos (by omega)]
      have hlt1 : i1 < l.length := by first | omega | (simp only [IntKind.wrap_i64] at h1; omega)
      (repeat (with_reducible refine And.intro ?_ ?_; focus exact ob_))
      refine CallGi_flat (s_broadphase_valid (l.getD i1 default) ) rfl ?_
      generalize hv1 : (d_broadphase_valid (l.getD i1 default)) = v1
      simp only [go_sem, ite_andP, ite_orP, dec_true, dec_false]
      (repeat (with_reducible refine And.intro ?_ ?_; focus exact ob_))
      refine CallGi_flat (s_broadphase_Less (⟨s1.1, s1.2.1, s1.2.2.1, s1.2.2.2⟩ : PairKey) (l.getD i1 default) ) rfl ?_
      generalize hv2 : (d_broadphase_Less (⟨s1.1, s1.2.1, s1.2.2.1, s1.2.2.2⟩ : PairKey) (l.getD i1 default)) = v2
      simp only [go_sem, ite_andP, ite_orP, dec_true, dec_false]
      (repeat (with_reducible refine And.intro ?_ ?_; focus exact ob_))
      by_cases h2 : ((!v1) || ((decide (0 < (i1 : Int))) && ((((l.getD i1 default).BodyA == s1.1) && (((l.getD i1 default).FixtureA == s1.2.1) && (((l.getD i1 default).BodyB == s1.2.2.1) && ((l.getD i1 default).FixtureB == s1.2.2.2)))) || (!v2)))) = true
      · first | rw [if_pos h2] | rw [if_pos (by simp_all)] | rw [if_pos (by omega)]
        (repeat (with_reducible refine And.intro ?_ ?_; focus exact ob_))
        have e1 : itrE (d_broadphase_ValidKeys_L1 l) (i1 + 1) (0, 0, 0, 0) = .inr false := itrE_inl hs1 (by first | with_reducible rfl | (unfold d_broadphase_ValidKeys_L1; exact hd_))
        replace e1 := itrE_stop e1 (show i1 + 1 ≤ l.length by omega)
        have hd : d_broadphase_ValidKeys l = false := by first | with_reducible rfl | (unfold d_broadphase_ValidKeys; exact hd_)
        try rw [hd]
        try simp only [go_sem, ite_andP, ite_orP, dec_true, dec_false]
        all_goals exact fin_
      · first | rw [if_neg h2] | rw [if_neg (by simp_all)] | rw [if_neg (by omega)]
        (repeat (with_reducible refine And.intro ?_ ?_; focus exact ob_))
        have hn : itrE (d_broadphase_ValidKeys_L1 l) (i1 + 1) (0, 0, 0, 0) = .inl ((l.getD i1 default).BodyA, (l.getD i1 default).FixtureA, (l.getD i1 default).BodyB, (l.getD i1 default).FixtureB) := itrE_inl hs1 (by first | with_reducible rfl | (unfold d_broadphase_ValidKeys_L1; exact hd_))
        refine loop_next ⟨(i1 + 1, ((l.getD i1 default).BodyA, (l.getD i1 default).FixtureA, (l.getD i1 default).BodyB, (l.getD i1 default).FixtureB)), by omega, hn⟩ (by show l.length - (i1 + 1) < l.length - i1; omega) (weakE_ [] [] ?_)
        simp only [go_sem, ite_andP, ite_orP, dec_true, dec_false]
        all_goals exact fin_
    · first | rw [if_neg h1] | rw [if_neg (by simp_all)] | rw [if_neg (by omega)]
      (repeat (with_reducible refine And.intro ?_ ?_; focus exact ob_))
      have hge : i1 = l.length := by first | omega | (simp only [IntKind.wrap_i64] at h1; omega)
      subst hge
      have hd : d_broadphase_ValidKeys l = true := by first | with_reducible rfl | (unfold d_broadphase_ValidKeys; exact hd_)
      try rw [hd]
      try simp only [go_sem, ite_andP, ite_orP, dec_true, dec_false]
      all_goals exact fin_
def d_shape_Validate_f1 (v : Vec) : Bool := let v1 := (d_shape_outOfRange v.X); let v2 := (d_shape_outOfRange v.Y); (v1 || v2)
theorem s_shape_Validate_f1 (v : Vec)  : CallsA Tryz.prog F_shape_Validate_f1 [.agg v.enc] [] (.sc (.bool (d_shape_Validate_f1 v))) [] := by
  refine en1 hm shOk Tryz.func166 rfl rfl ?_
  have := s_shape_outOfRange
  have := d_shape_Validate_f1.eq_1 v
  exact walk_
def d_shape_Validate (s : Shape) : Int := if ((decide (s.Kind < 1)) || (decide (3 < s.Kind))) = true then (10) else (let v1 := (d_shape_validCount s); if v1 = false then (11) else (if (s.Vertices.any (fun x => (d_shape_Validate_f1 x))) = true then (6) else (if ((s.Kind == 3) && (s.Radius != 0)) = true then (if ((s.Kind == 3) && (s.Radius != 0)) = true then (6) else (let v2 := (subV (s.Vertices.getD 1 default) (s.Vertices.getD 0 default)); let v3 := (lenV v2); if ((s.Kind == 2) && (decide (v3 < 4096))) = true then (12) else (let v4 := (d_polygon_IsConvex s.Vertices); let v5 := (d_polygon_ShortestEdge s.Vertices); let v6 := (d_polygon_Area s.Vertices); if ((s.Kind == 3) && (((!v4) || (decide (v5 < 4096))) || (decide (v6 < 256)))) = true then (12) else (0)))) else (if ((s.Kind != 3) && ((decide (s.Radius < 2048)) || (decide (524288 < s.Radius)))) = true then (6) else (let v7 := (subV (s.Vertices.getD 1 default) (s.Vertices.getD 0 default)); let v8 := (lenV v7); if ((s.Kind == 2) && (decide (v8 < 4096))) = true then (12) else (let v9 := (d_polygon_IsConvex s.Vertices); let v10 := (d_polygon_ShortestEdge s.Vertices); let v11 := (d_polygon_Area s.Vertices); if ((s.Kind == 3) && (((!v9) || (decide (v10 < 4096))) || (decide (v11 < 256)))) = true then (12) else (0)))))))
theorem s_shape_Validate (s : Shape) (hn : s.Vertices.length ≤ 1048576) : CallsA Tryz.prog F_shape_Validate [.agg s.enc] [] (.sc (.int .i64 (d_shape_Validate s))) [] := by
  refine en1 hm shOk Tryz.func138 rfl rfl ?_
  have := vcount s
  have := s_shape_validCount
  have := (s_slices_ContainsFunc_Vec s.Vertices F_shape_Validate_f1 [] [] [] (fun x => (d_shape_Validate_f1 x)) (by (first | assumption | omega | (simp_all; done) | (simp_all; omega))) okO_nil (by simp [AV.ids, idsL]) (fun x _ => s_shape_Validate_f1 x))
  have := s_vec2_Sub
  have := s_vec2_Length
  have := convex_len s.Vertices
  have := s_polygon_IsConvex
  have := s_polygon_ShortestEdge
  have := s_polygon_Area
  have := d_shape_Validate.eq_1 s
  exact walk_
def d_body_ValidateFixture (f : Fixture) : Int := let v1 := (d_shape_Validate f.Shape); if (v1 != 0) = true then (v1) else (if ((!(((inR f.Density 0 262144) && (inR f.Friction 0 131072)) && (inR f.Restitution 0 65536))) || (!(((inR f.Category 0 65535) && (inR f.Mask 0 65535)) && (inR f.Group (-32) 32)))) = true then (6) else (0))
theorem s_body_ValidateFixture (f : Fixture) (hn : f.Shape.Vertices.length ≤ 1048576) : CallsA Tryz.prog F_body_ValidateFixture [.agg f.enc] [] (.sc (.int .i64 (d_body_ValidateFixture f))) [] := by
  refine en1 hm shOk Tryz.func98 rfl rfl ?_
  have := s_shape_Validate
  have := s_body_within
  have := d_body_ValidateFixture.eq_1 f
  exact walk_
def d_world_saturated_f1 (n : Int) : Bool := (!(inR n (-536870911) 536870911))
theorem s_world_saturated_f1 (n : Int)  : CallsA Tryz.prog F_world_saturated_f1 [.sc (.int .i64 n)] [] (.sc (.bool (d_world_saturated_f1 n))) [] := by
  refine en1 hm shOk Tryz.func145 rfl rfl ?_
  have := s_world_in
  have := d_world_saturated_f1.eq_1 n
  exact walk_
def d_world_saturated (l : List Int) : Bool := (!(l.any (fun x => (d_world_saturated_f1 x))))
theorem s_world_saturated (l : List Int) (hl : l.length ≤ 1048576) : CallsA Tryz.prog F_world_saturated [encD 1 encInt 0 l] [] (.sc (.bool (d_world_saturated l))) [] := by
  refine en1 hm shOk Tryz.func105 rfl rfl ?_
  have := (s_slices_ContainsFunc_int l F_world_saturated_f1 [] [] [] (fun x => (d_world_saturated_f1 x)) (by (first | assumption | omega | (simp_all; done) | (simp_all; omega))) okO_nil (by simp [AV.ids, idsL]) (fun x _ => s_world_saturated_f1 x))
  have := d_world_saturated.eq_1 l
  exact walk_
def d_world_validManifold_f1 (p : ContactPoint) : Bool := if (decide (p.NormalImpulse < 0)) = false then (let v1 := (d_world_saturated ([p.Point.X, p.Point.Y, p.Separation, p.ID, p.NormalImpulse, p.TangentImpulse])); ((decide (p.NormalImpulse < 0)) || (!v1))) else (true)
theorem s_world_validManifold_f1 (p : ContactPoint)  : CallsA Tryz.prog F_world_validManifold_f1 [.agg p.enc] [] (.sc (.bool (d_world_validManifold_f1 p))) [] := by
  refine en1 hm shOk Tryz.func107 rfl rfl ?_
  simp only [go_sem, ite_andP, ite_orP, dec_true, dec_false]
  (repeat (with_reducible refine And.intro ?_ ?_; focus exact ob_))
  by_cases h1 : (decide (p.NormalImpulse < 0)) = false
  · first | rw [if_pos h1] | rw [if_pos (by simp_all)] | rw [if_pos (by omega)]
    (repeat (with_reducible refine And.intro ?_ ?_; focus exact ob_))
    refine CallGi_keep (s_world_saturated ([p.Point.X, p.Point.Y, p.Separation, p.ID, p.NormalImpulse, p.TangentImpulse]) (by (first | assumption | omega | (simp_all; done) | (simp_all; omega)))) rfl ?_ ?_
    · (try simp only [argsC, go_sem, ite_andP, ite_orP, dec_true, dec_false]); all_goals ((repeat' (with_reducible apply And.intro)) <;> first | with_reducible rfl | trivial | exact avle_lit2 (fun _ _ => rfl) rfl rfl rfl | exact avle_nilD rfl | exact avle_self _ | rfl)
    generalize hv1 : (d_world_saturated ([p.Point.X, p.Point.Y, p.Separation, p.ID, p.NormalImpulse, p.TangentImpulse])) = v1
    simp only [go_sem, ite_andP, ite_orP, dec_true, dec_false]
    (repeat (with_reducible refine And.intro ?_ ?_; focus exact ob_))
    have hd : d_world_validManifold_f1 p = ((decide (p.NormalImpulse < 0)) || (!v1)) := by first | with_reducible rfl | (unfold d_world_validManifold_f1; exact hd_)
    try rw [hd]
    try simp only [go_sem, ite_andP, ite_orP, dec_true, dec_false]
    all_goals exact fin_
  · first | rw [if_neg h1] | rw [if_neg (by simp_all)] | rw [if_neg (by omega)]
    (repeat (with_reducible refine And.intro ?_ ?_; focus exact ob_))
    have hd : d_world_validManifold_f1 p = true := by first | with_reducible rfl | (unfold d_world_validManifold_f1; exact hd_)
    try rw [hd]
    try simp only [go_sem, ite_andP, ite_orP, dec_true, dec_false]
    all_goals exact fin_
def d_world_validManifold (m : Manifold) : Bool := if (((decide ((m.Points.length : Int) < 1)) || (decide (2 < (m.Points.length : Int)))) || (((m.Points.length : Int) == 2) && ((m.Points.getD 0 default).ID == (m.Points.getD 1 default).ID))) = false then (let v1 := (d_world_saturated ([m.Normal.X, m.Normal.Y])); if ((((decide ((m.Points.length : Int) < 1)) || (decide (2 < (m.Points.length : Int)))) || (((m.Points.length : Int) == 2) && ((m.Points.getD 0 default).ID == (m.Points.getD 1 default).ID))) || (!v1)) = true then (false) else ((!(m.Points.any (fun x => (d_world_validManifold_f1 x)))))) else (false)
theorem s_world_validManifold (m : Manifold) (hl : m.Points.length ≤ 1048576) : CallsA Tryz.prog F_world_validManifold [.agg m.enc] [] (.sc (.bool (d_world_validManifold m))) [] := by
  refine en1 hm shOk Tryz.func53 rfl rfl ?_
  simp only [go_sem, ite_andP, ite_orP, dec_true, dec_false]
  (repeat (with_reducible refine And.intro ?_ ?_; focus exact ob_))
  by_cases h1 : (((decide ((m.Points.length : Int) < 1)) || (decide (2 < (m.Points.length : Int)))) || (((m.Points.length : Int) == 2) && ((m.Points.getD 0 default).ID == (m.Points.getD 1 default).ID))) = false
  · first | rw [if_pos h1] | rw [if_pos (by simp_all)] | rw [if_pos (by omega)]
    (repeat (with_reducible refine And.intro ?_ ?_; focus exact ob_))
    refine CallGi_keep (s_world_saturated ([m.Normal.X, m.Normal.Y]) (by (first | assumption | omega | (simp_all; done) | (simp_all; omega)))) rfl ?_ ?_
    · (try simp only [argsC, go_sem, ite_andP, ite_orP, dec_true, dec_false]); all_goals ((repeat' (with_reducible apply And.intro)) <;> first | with_reducible rfl | trivial | exact avle_lit2 (fun _ _ => rfl) rfl rfl rfl | exact avle_nilD rfl | exact avle_self _ | rfl)
    generalize hv1 : (d_world_saturated ([m.Normal.X, m.Normal.Y])) = v1
    simp only [go_sem, ite_andP, ite_orP, dec_true, dec_false]
    (repeat (with_reducible refine And.intro ?_ ?_; focus exact ob_))
    by_cases h2 : ((((decide ((m.Points.length : Int) < 1)) || (decide (2 < (m.Points.length : Int)))) || (((m.Points.length : Int) == 2) && ((m.Points.getD 0 default).ID == (m.Points.getD 1 default).ID))) || (!v1)) = true
    · first | rw [if_pos h2] | rw [if_pos (by simp_all)] | rw [if_pos (by omega)]
      (repeat (with_reducible refine And.intro ?_ ?_; focus exact ob_))
      have hd : d_world_validManifold m = false := by first | with_reducible rfl | (unfold d_world_validManifold; exact hd_)
      try rw [hd]
      try simp only [go_sem, ite_andP, ite_orP, dec_true, dec_false]
      all_goals exact fin_
    · first | rw [if_neg h2] | rw [if_neg (by simp_all)] | rw [if_neg (by omega)]
      (repeat (with_reducible refine And.intro ?_ ?_; focus exact ob_))
      refine CallGi_flat (s_slices_ContainsFunc_ContactPoint m.Points F_world_validManifold_f1 [] [] [] (fun x => (d_world_validManifold_f1 x)) (by (first | assumption | omega | (simp_all; done) | (simp_all; omega))) okO_nil (by simp [AV.ids, idsL]) (fun x _ => s_world_validManifold_f1 x)) rfl ?_
      simp only [go_sem, ite_andP, ite_orP, dec_true, dec_false]
      (repeat (with_reducible refine And.intro ?_ ?_; focus exact ob_))
      have hd : d_world_validManifold m = (!(m.Points.any (fun x => (d_world_validManifold_f1 x)))) := by first | with_reducible rfl | (unfold d_world_validManifold; exact hd_)
      try rw [hd]
      try simp only [go_sem, ite_andP, ite_orP, dec_true, dec_false]
      all_goals exact fin_
  · first | rw [if_neg h1] | rw [if_neg (by simp_all)] | rw [if_neg (by omega)]
    (repeat (with_reducible refine And.intro ?_ ?_; focus exact ob_))
    have hd : d_world_validManifold m = false := by first | with_reducible rfl | (unfold d_world_validManifold; exact hd_)
    try rw [hd]
    try simp only [go_sem, ite_andP, ite_orP, dec_true, dec_false]
    all_goals exact fin_
theorem findB_lt (w : Api.World) (id : Int) : -1 ≤ findB w id ∧ findB w id < (w.Bodies.length : Int) := idxG_lt
end Go.Abs
end
