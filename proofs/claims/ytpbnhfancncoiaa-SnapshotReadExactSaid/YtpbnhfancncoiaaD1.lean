/- A part of the walk: contracts of functions that the statement reaches. -/
import Derived.Test.YtpbnhfancncoiaaAbsD
import Derived.KernelRfl
import Derived.Eval
import Derived.Test.YtpbnhfancncoiaaChecked
set_option linter.unusedSimpArgs false
set_option linter.unusedVariables false
set_option linter.unnecessarySimpa false
set_option maxRecDepth 100000
set_option maxHeartbeats 2000000
set_option linter.unusedSimpArgs false
set_option linter.unusedVariables false
namespace Go.Abs
open Go.Proofs
abbrev zD1_0 : List Value := [(.int .i64 0), (.int .i64 0), (.int .i64 0), (.int .i64 0)]
abbrev zD1_1 : List Value := [(.int .i64 0), (.int .i64 0), (.int .i64 0), (.int .i64 0), (.int .i64 0), (.int .i64 0), (.int .i64 0), (.int .i64 0), (.int .i64 0), (.int .i64 0), (.int .i64 0), (.bool false), (.int .i64 0), (.int .i64 0), (.bool false), (.int .i64 0), (.int .i64 0), (.int .i64 0), (.int .i64 0), (.bool false), (.int .i64 0), (.int .i64 0), (.int .i64 0), (.int .i64 0)]
abbrev zD1_2 : List Value := [(.int .i64 0), (.int .i64 0), (.int .i64 0), (.int .i64 0), (.int .i64 0), (.int .i64 0)]
abbrev zD1_4 : List Value := [(.int .i64 0), (.int .i64 0), (.int .i64 0), (.int .i64 0), (.int .i64 0), (.int .i64 0), (.slice none 0 0)]
abbrev zD1_5 : List Value := [(.int .i64 0), (.int .i64 0), (.int .i64 0), (.int .i64 0), (.int .i64 0), (.int .i64 0), (.int .i64 0), (.int .i64 0), (.int .i64 0), (.int .i64 0), (.int .i64 0), (.int .i64 0), (.int .i64 0), (.int .i64 0), (.bool false), (.bool false), (.bool false), (.bool false), (.int .i64 0), (.slice none 0 0)]
abbrev zD1_6 : List Value := [(.int .i64 0), (.int .i64 0)]
abbrev zD1_7 : List Value := [(.slice none 0 0), (.int .i64 0), (.int .i64 0)]
abbrev zD1_8 : List Value := [(.int .i64 0), (.int .i64 0), (.slice none 0 0), (.int .i64 0), (.int .i64 0), (.int .i64 0), (.bool false), (.int .i64 0), (.int .i64 0), (.int .i64 0)]
abbrev zD1_10 : List Value := [(.int .i64 0), (.int .i64 0), (.int .i64 0)]
attribute [go_sem] zD1_0 zD1_1 zD1_2 zD1_4 zD1_5 zD1_6 zD1_7 zD1_8 zD1_10
theorem hm : Try.prog.follows .mixedOrders = true := Try.checked.mixed
abbrev F_law45_SnapshotReadExact : Nat := 4
def c_law45_SnapshotReadExact : ACode := (.seq (r0 [oV 4 (vb false)])
  (.seq (.seq (r0 [oM 23 0, oN 24 23, oC .gtr 25 24 600])
  (.cond (.t 25) (.seq (r0 [oJ 26 6 [], oM 4 26])
  .ret) .skip))
  (.seq (r0 [oM 28 0, oM 29 1, oJ 30 13 [(.t 28), (.t 29)], oM 27 30, oX 31 27 0, oX 32 27 1, oX 33 27 2, oA 5 zD1_5, oS 20 5 31, oM 6 32, oM 7 33])
  (.seq (r0 [oM 35 0, oM 36 1, oJ 37 14 [(.t 35), (.t 36)], oM 34 37, oX 38 34 0, oX 39 34 1, oX 40 34 2, oA 8 zD1_5, oS 20 8 38, oM 9 39, oM 10 40])
  (.seq (.seq (r0 [oR 20 41 5, oR 20 42 8, oJ 43 15 [(.t 41), (.t 42)], oU 44 43, oM 45 44, gF 45 (oM 46 6), gF 45 (oM 47 9), gF 45 (oB .neq 48 46 47), oQ 49 45 48, oM 50 49, gF 50 (oM 51 7), gF 50 (oM 52 10), gF 50 (oB .neq 53 51 52), oQ 54 50 53])
  (.cond (.t 54) (.seq (r0 [oV 4 (vb false)])
  .ret) .skip))
  (.seq (r0 [oM 56 0, oM 57 1, oJ 58 16 [(.t 56), (.t 57)], oM 55 58, oX 59 55 0, oX 60 55 1, oX 61 55 2, oA 11 zD1_1, oS 24 11 59, oM 12 60, oM 13 61])
  (.seq (r0 [oM 63 0, oM 64 1, oJ 65 17 [(.t 63), (.t 64)], oM 62 65, oX 66 62 0, oX 67 62 1, oX 68 62 2, oA 14 zD1_1, oS 24 14 66, oM 15 67, oM 16 68])
  (.seq (.seq (r0 [oR 24 69 11, oR 24 70 14, ⟨(some 71), .eqa [true, true, true, true, true, true, true, true, true, true, true, false, true, true, false, true, true, true, true, false, true, true, true, true] true (.t 69) (.t 70), none, []⟩, oM 72 71, gF 72 (oM 73 12), gF 72 (oM 74 15), gF 72 (oB .neq 75 73 74), oQ 76 72 75, oM 77 76, gF 77 (oM 78 13), gF 77 (oM 79 16), gF 77 (oB .neq 80 78 79), oQ 81 77 80])
  (.cond (.t 81) (.seq (r0 [oV 4 (vb false)])
  .ret) .skip))
  (.seq (r0 [oM 83 0, oM 84 1, oJ 85 18 [(.t 83), (.t 84)], oM 82 85, oX 86 82 0, oX 87 82 1, oX 88 82 2, oA 17 zD1_4, oS 7 17 86, oM 18 87, oM 19 88])
  (.seq (r0 [oM 90 0, oM 91 1, oJ 92 19 [(.t 90), (.t 91)], oM 89 92, oX 93 89 0, oX 94 89 1, oX 95 89 2, oA 20 zD1_4, oS 7 20 93, oM 21 94, oM 22 95])
  (.seq (r0 [oF 0 96 17, oR 4 97 96, oF 0 98 20, oR 4 99 98, ⟨(some 100), .eqa [true, true, true, true] false (.t 97) (.t 99), none, []⟩, oM 101 100, gT 101 (oF 4 102 17), gT 101 (oR 3 103 102), gT 101 (oF 4 104 20), gT 101 (oR 3 105 104), gT 101 (oJ 106 20 [(.t 103), (.t 105)]), oP 107 101 106, oM 108 107, gT 108 (oM 109 18), gT 108 (oM 110 21), gT 108 (oB .eql 111 109 110), oP 112 108 111, oM 113 112, gT 113 (oM 114 19), gT 113 (oM 115 22), gT 113 (oB .eql 116 114 115), oP 117 113 116, oM 118 117, gT 118 (oJ 119 6 []), oP 120 118 119, oM 4 120])
  .ret)))))))))))
theorem is_law45_SnapshotReadExact : compile Try.prog Try.f4.ntmps (Try.f4.body.getD .skip) = some c_law45_SnapshotReadExact.strip := by kernel_rfl
abbrev F_law45_example : Nat := 6
def c_law45_example : ACode := (.seq (r0 [oV 0 (vb false)])
  (.seq (r0 [oY 1 5 1 [(.int .u8 0)] [(0, 1, (.k (.sc (.int .u8 9))))], oW 6 zD1_0 [(0, 1, (ki 1)), (2, 1, (ki 2))], oW 7 zD1_4 [(0, 4, (.t 6))], oJ 8 11 [(.t 5), (.t 7)], oM 1 8])
  (.seq (r0 [oM 10 1, oJ 11 18 [(.t 10), (ki 1)], oM 9 11, oX 12 9 0, oX 13 9 1, oX 14 9 2, oA 2 zD1_4, oS 7 2 12, oM 3 13, oM 4 14])
  (.seq (r0 [oM 15 1, oN 16 15, oC .gtr 17 16 6, oM 18 17, gT 18 (oM 19 1), ⟨(some 20), .slice 1 (.t 19) none (some (ki 7)) none, (some (18, true)), []⟩, ⟨(some 21), .bstr (.t 20), (some (18, true)), []⟩, ⟨(some 22), .eqs false (.t 21) (.k (.sc (.string ⟨#[9, 1, 1, 0, 1, 2, 0]⟩))), (some (18, true)), []⟩, oP 23 18 22, oM 24 23, gT 24 (oF 0 25 2), gT 24 (oR 4 26 25), gT 24 (oW 27 zD1_0 [(0, 1, (ki 1)), (2, 1, (ki 2))]), ⟨(some 28), .eqa [true, true, true, true] false (.t 26) (.t 27), (some (24, true)), []⟩, oP 29 24 28, oM 30 29, gT 30 (oM 31 3), gT 30 (oM 32 1), gT 30 (oN 33 32), gT 30 (oB .eql 34 31 33), oP 35 30 34, oM 36 35, gT 36 (oM 37 4), gT 36 (oC .eql 38 37 0), oP 39 36 38, oM 0 39])
  .ret))))
theorem is_law45_example : compile Try.prog Try.f6.ntmps (Try.f6.body.getD .skip) = some c_law45_example.strip := by kernel_rfl
abbrev F_snapshot_AppendContact : Nat := 11
def c_snapshot_AppendContact : ACode := (.seq (r0 [oE 3 1, oV 4 vn])
  (.seq (r0 [oM 6 0, oJ 7 22 [(.t 6)], oM 5 7])
  (.seq (r0 [oM 8 5, oR 7 9 3, oJ 10 29 [(.t 8), (.t 9)]])
  (.seq (r0 [oM 11 5, ⟨(some 12), .nilck (.t 11), none, []⟩, oF 0 13 12, oL 14 13, oM 4 14])
  .ret))))
theorem is_snapshot_AppendContact : compile Try.prog Try.f11.ntmps (Try.f11.body.getD .skip) = some c_snapshot_AppendContact.strip := by kernel_rfl
abbrev F_snapshot_ReadBody : Nat := 13
def c_snapshot_ReadBody : ACode := (.seq (r0 [oA 4 zD1_5, oV 5 (vi 0), oV 6 (vi 0)])
  (.seq (r0 [oM 7 0, oM 8 1, oJ 9 31 [(.t 7), (.t 8), (.k (.fn (.func 32) [] []))], oX 10 9 0, oX 11 9 1, oX 12 9 2, oS 20 4 10, oM 5 11, oM 6 12])
  .ret))
theorem is_snapshot_ReadBody : compile Try.prog Try.f13.ntmps (Try.f13.body.getD .skip) = some c_snapshot_ReadBody.strip := by kernel_rfl
abbrev F_r45_ReadBody : Nat := 14
def c_r45_ReadBody : ACode := (.seq (r0 [oA 4 zD1_5, oV 5 (vi 0), oV 6 (vi 0)])
  (.seq (r0 [oM 10 0, oM 11 1, oW 12 zD1_7 [(0, 1, (.t 10)), (1, 1, (.t 11))], oJ 13 33 [(.t 12)], oM 9 13, oX 14 9 0, oX 15 9 1, oA 7 zD1_5, oA 8 zD1_7, oS 20 7 14, oS 3 8 15])
  (.seq (.seq (r0 [oF 2 16 8, oL 17 16, oC .neq 18 17 0])
  (.cond (.t 18) (.seq (r1 [oW 19 zD1_5 [], oF 2 20 8, oL 21 20, ⟨none, .store 20 (.t 4) (.t 19), none, [2]⟩, oV 5 (vi 0), oM 6 21])
  .ret) .skip))
  (.seq (r1 [oR 20 22 7, oF 1 23 8, oL 24 23, ⟨none, .store 20 (.t 4) (.t 22), none, [2]⟩, oM 5 24, oV 6 (vi 0)])
  .ret))))
theorem is_r45_ReadBody : compile Try.prog Try.f14.ntmps (Try.f14.body.getD .skip) = some c_r45_ReadBody.strip := by kernel_rfl
abbrev F_r23_Equal : Nat := 15
def c_r23_Equalb0 : ACode := (.seq (.seq (r0 [oM 13 5, oF 19 14 2, oL 15 14, oN 16 15, oB .lss 17 13 16, oM 18 17, gT 18 (oM 19 5), gT 18 (oF 19 20 3), gT 18 (oL 21 20), gT 18 (oN 22 21), gT 18 (oB .lss 23 19 22), oP 24 18 23])
  (.cond (.t 24) .skip (.exit 0)))
  (.seq (.block 1 (.seq (r1 [oF 19 27 2, oL 28 27, oM 29 5, oI 10 30 28 29, oR 10 31 30, oF 19 32 3, oL 33 32, oM 34 5, oI 10 35 33 34, oR 10 36 35, oJ 37 34 [(.t 31), (.t 36)], oU 38 37])
  (.cond (.t 38) (.seq (r0 [oV 4 (vb false)])
  .ret) .skip)))
  (r0 [oM 25 5, oC .add 26 25 1, oM 5 26])))
def c_r23_Equal : ACode := (.seq (r0 [oE 2 0, oE 3 1, oV 4 (vb false)])
  (.seq (.seq (r0 [oF 19 6 2, oL 7 6, oN 8 7, oF 19 9 3, oL 10 9, oN 11 10, oB .neq 12 8 11])
  (.cond (.t 12) (.seq (r0 [oV 4 (vb false)])
  .ret) .skip))
  (.seq (.seq (r0 [oV 5 (vi 0)])
  (.block 0 (.loop c_r23_Equalb0)))
  (.seq (.seq (r0 [oF 0 39 2, oL 40 39, oF 0 41 3, oL 42 41, oB .neq 43 40 42, oM 44 43, gF 44 (oF 1 45 2), gF 44 (oL 46 45), gF 44 (oF 1 47 3), gF 44 (oL 48 47), gF 44 (oB .neq 49 46 48), oQ 50 44 49, oM 51 50, gF 51 (oF 2 52 2), gF 51 (oR 3 53 52), gF 51 (oF 2 54 3), gF 51 (oR 3 55 54), ⟨(some 56), .eqa [true, true, true] true (.t 53) (.t 55), (some (51, false)), []⟩, oQ 57 51 56, oM 58 57, gF 58 (oF 5 59 2), gF 58 (oR 2 60 59), gF 58 (oF 5 61 3), gF 58 (oR 2 62 61), ⟨(some 63), .eqa [true, true] true (.t 60) (.t 62), (some (58, false)), []⟩, oQ 64 58 63, oM 65 64, gF 65 (oF 7 66 2), gF 65 (oL 67 66), gF 65 (oF 7 68 3), gF 65 (oL 69 68), gF 65 (oB .neq 70 67 69), oQ 71 65 70, oM 72 71, gF 72 (oF 8 73 2), gF 72 (oR 2 74 73), gF 72 (oF 8 75 3), gF 72 (oR 2 76 75), ⟨(some 77), .eqa [true, true] true (.t 74) (.t 76), (some (72, false)), []⟩, oQ 78 72 77, oM 79 78, gF 79 (oF 10 80 2), gF 79 (oL 81 80), gF 79 (oF 10 82 3), gF 79 (oL 83 82), gF 79 (oB .neq 84 81 83), oQ 85 79 84])
  (.cond (.t 85) (.seq (r0 [oV 4 (vb false)])
  .ret) .skip))
  (.seq (r0 [oF 11 86 2, oL 87 86, oF 11 88 3, oL 89 88, oB .eql 90 87 89, oM 91 90, gT 91 (oF 12 92 2), gT 91 (oL 93 92), gT 91 (oF 12 94 3), gT 91 (oL 95 94), gT 91 (oB .eql 96 93 95), oP 97 91 96, oM 98 97, gT 98 (oF 13 99 2), gT 98 (oL 100 99), gT 98 (oF 13 101 3), gT 98 (oL 102 101), gT 98 (oB .eql 103 100 102), oP 104 98 103, oM 105 104, gT 105 (oF 14 106 2), gT 105 (oL 107 106), gT 105 (oF 14 108 3), gT 105 (oL 109 108), ⟨(some 110), .eqb false (.t 107) (.t 109), (some (105, true)), []⟩, oP 111 105 110, oM 112 111, gT 112 (oF 15 113 2), gT 112 (oL 114 113), gT 112 (oF 15 115 3), gT 112 (oL 116 115), ⟨(some 117), .eqb false (.t 114) (.t 116), (some (112, true)), []⟩, oP 118 112 117, oM 119 118, gT 119 (oF 16 120 2), gT 119 (oL 121 120), gT 119 (oF 16 122 3), gT 119 (oL 123 122), ⟨(some 124), .eqb false (.t 121) (.t 123), (some (119, true)), []⟩, oP 125 119 124, oM 126 125, gT 126 (oF 17 127 2), gT 126 (oL 128 127), gT 126 (oF 17 129 3), gT 126 (oL 130 129), ⟨(some 131), .eqb false (.t 128) (.t 130), (some (126, true)), []⟩, oP 132 126 131, oM 133 132, gT 133 (oF 18 134 2), gT 133 (oL 135 134), gT 133 (oF 18 136 3), gT 133 (oL 137 136), gT 133 (oB .eql 138 135 137), oP 139 133 138, oM 4 139])
  .ret)))))
theorem is_r23_Equal : compile Try.prog Try.f15.ntmps (Try.f15.body.getD .skip) = some c_r23_Equal.strip := by kernel_rfl
abbrev F_snapshot_ReadJoint : Nat := 16
def c_snapshot_ReadJoint : ACode := (.seq (r0 [oA 4 zD1_1, oV 5 (vi 0), oV 6 (vi 0)])
  (.seq (r0 [oM 7 0, oM 8 1, oJ 9 35 [(.t 7), (.t 8), (.k (.fn (.func 36) [] []))], oX 10 9 0, oX 11 9 1, oX 12 9 2, oS 24 4 10, oM 5 11, oM 6 12])
  .ret))
theorem is_snapshot_ReadJoint : compile Try.prog Try.f16.ntmps (Try.f16.body.getD .skip) = some c_snapshot_ReadJoint.strip := by kernel_rfl
abbrev F_r45_ReadJoint : Nat := 17
def c_r45_ReadJoint : ACode := (.seq (r0 [oA 4 zD1_1, oV 5 (vi 0), oV 6 (vi 0)])
  (.seq (r0 [oM 10 0, oM 11 1, oW 12 zD1_7 [(0, 1, (.t 10)), (1, 1, (.t 11))], oJ 13 37 [(.t 12)], oM 9 13, oX 14 9 0, oX 15 9 1, oA 7 zD1_1, oA 8 zD1_7, oS 24 7 14, oS 3 8 15])
  (.seq (.seq (r0 [oF 2 16 8, oL 17 16, oC .neq 18 17 0])
  (.cond (.t 18) (.seq (r1 [oW 19 zD1_1 [], oF 2 20 8, oL 21 20, ⟨none, .store 24 (.t 4) (.t 19), none, [2]⟩, oV 5 (vi 0), oM 6 21])
  .ret) .skip))
  (.seq (r1 [oR 24 22 7, oF 1 23 8, oL 24 23, ⟨none, .store 24 (.t 4) (.t 22), none, [2]⟩, oM 5 24, oV 6 (vi 0)])
  .ret))))
theorem is_r45_ReadJoint : compile Try.prog Try.f17.ntmps (Try.f17.body.getD .skip) = some c_r45_ReadJoint.strip := by kernel_rfl
abbrev F_snapshot_ReadContact : Nat := 18
def c_snapshot_ReadContact : ACode := (.seq (r0 [oA 4 zD1_4, oV 5 (vi 0), oV 6 (vi 0)])
  (.seq (r0 [oM 7 0, oM 8 1, oJ 9 38 [(.t 7), (.t 8), (.k (.fn (.func 39) [] []))], oX 10 9 0, oX 11 9 1, oX 12 9 2, oS 7 4 10, oM 5 11, oM 6 12])
  .ret))
theorem is_snapshot_ReadContact : compile Try.prog Try.f18.ntmps (Try.f18.body.getD .skip) = some c_snapshot_ReadContact.strip := by kernel_rfl
abbrev F_r45_ReadContact : Nat := 19
def c_r45_ReadContact : ACode := (.seq (r0 [oA 4 zD1_4, oV 5 (vi 0), oV 6 (vi 0)])
  (.seq (r0 [oM 10 0, oM 11 1, oW 12 zD1_7 [(0, 1, (.t 10)), (1, 1, (.t 11))], oJ 13 40 [(.t 12)], oM 9 13, oX 14 9 0, oX 15 9 1, oA 7 zD1_4, oA 8 zD1_7, oS 7 7 14, oS 3 8 15])
  (.seq (.seq (r0 [oF 2 16 8, oL 17 16, oC .neq 18 17 0])
  (.cond (.t 18) (.seq (r1 [oW 19 zD1_4 [], oF 2 20 8, oL 21 20, ⟨none, .store 7 (.t 4) (.t 19), none, [2]⟩, oV 5 (vi 0), oM 6 21])
  .ret) .skip))
  (.seq (r1 [oR 7 22 7, oF 1 23 8, oL 24 23, ⟨none, .store 7 (.t 4) (.t 22), none, [2]⟩, oM 5 24, oV 6 (vi 0)])
  .ret))))
theorem is_r45_ReadContact : compile Try.prog Try.f19.ntmps (Try.f19.body.getD .skip) = some c_r45_ReadContact.strip := by kernel_rfl
abbrev F_r27_EqualManifolds : Nat := 20
def c_r27_EqualManifoldsb0 : ACode := (.seq (.seq (r0 [oM 20 5, oF 2 21 2, oL 22 21, oN 23 22, oB .lss 24 20 23])
  (.cond (.t 24) .skip (.exit 0)))
  (.seq (.block 1 (.seq (r1 [oF 2 27 2, oL 28 27, oM 29 5, oI 6 30 28 29, oR 6 31 30, oF 2 32 3, oL 33 32, oM 34 5, oI 6 35 33 34, oR 6 36 35, ⟨(some 37), .eqa [true, true, true, true, true, true] true (.t 31) (.t 36), none, []⟩])
  (.cond (.t 37) (.seq (r0 [oV 4 (vb false)])
  .ret) .skip)))
  (r0 [oM 25 5, oC .add 26 25 1, oM 5 26])))
def c_r27_EqualManifolds : ACode := (.seq (r0 [oE 2 0, oE 3 1, oV 4 (vb false)])
  (.seq (.seq (r0 [oF 0 6 2, oR 2 7 6, oF 0 8 3, oR 2 9 8, ⟨(some 10), .eqa [true, true] true (.t 7) (.t 9), none, []⟩, oM 11 10, gF 11 (oF 2 12 2), gF 11 (oL 13 12), gF 11 (oN 14 13), gF 11 (oF 2 15 3), gF 11 (oL 16 15), gF 11 (oN 17 16), gF 11 (oB .neq 18 14 17), oQ 19 11 18])
  (.cond (.t 19) (.seq (r0 [oV 4 (vb false)])
  .ret) .skip))
  (.seq (.seq (r0 [oV 5 (vi 0)])
  (.block 0 (.loop c_r27_EqualManifoldsb0)))
  (.seq (r0 [oV 4 (vb true)])
  .ret))))
theorem is_r27_EqualManifolds : compile Try.prog Try.f20.ntmps (Try.f20.body.getD .skip) = some c_r27_EqualManifolds.strip := by kernel_rfl
abbrev F_snapshot_newEncoder : Nat := 22
def c_snapshot_newEncoder : ACode := (.seq (r0 [oV 2 (.sc (.pointer none))])
  (.seq (r0 [oM 3 0, ⟨(some 4), .append 1 1 (.k vn) (.t 3), none, []⟩, oW 5 [(.slice none 0 0)] [(0, 1, (.t 4))], oE 6 5, oM 2 6])
  .ret))
theorem is_snapshot_newEncoder : compile Try.prog Try.f22.ntmps (Try.f22.body.getD .skip) = some c_snapshot_newEncoder.strip := by kernel_rfl
abbrev F_snapshot_encoder_contact : Nat := 29
def c_snapshot_encoder_contactb0 : ACode := (.seq (r0 [oB .lss 28 27 26])
  (.seq (.cond (.t 28) .skip (.exit 0))
  (.seq (.block 1 (.seq (r0 [oI 6 29 25 27, oR 6 30 29, oA 5 zD1_2, oS 6 5 30])
  (.seq (r0 [oM 31 0, oF 0 32 5, oR 2 33 32, oY 2 34 1 zD1_6 [(0, 2, (.t 33))], oJ 35 42 [(.t 31), (.t 34)]])
  (r0 [oM 36 0, oF 2 37 5, oL 38 37, oF 3 39 5, oL 40 39, oF 4 41 5, oL 42 41, oF 5 43 5, oL 44 43, oY 1 45 4 zD1_0 [(0, 1, (.t 38)), (1, 1, (.t 40)), (2, 1, (.t 42)), (3, 1, (.t 44))], oJ 46 41 [(.t 36), (.t 45)]]))))
  (r0 [oC .add 47 27 1, oM 27 47]))))
def c_snapshot_encoder_contact : ACode := (.seq (r0 [oE 3 1])
  (.seq (r0 [oM 6 0, oF 0 7 3, oR 4 8 7, oJ 9 47 [(.t 6), (.t 8)]])
  (.seq (r0 [oM 10 0, oF 4 11 3, oF 0 12 11, oR 2 13 12, oY 2 14 1 zD1_6 [(0, 2, (.t 13))], oJ 15 42 [(.t 10), (.t 14)]])
  (.seq (r0 [oM 16 0, oF 4 17 3, oF 2 18 17, oL 19 18, oN 20 19, oY 1 21 1 [(.int .i64 0)] [(0, 1, (.t 20))], oJ 22 41 [(.t 16), (.t 21)]])
  (.seq (r0 [oF 4 23 3, oF 2 24 23, oL 25 24, oN 26 25, oV 27 (vi 0)])
  (.block 0 (.loop c_snapshot_encoder_contactb0)))))))
theorem is_snapshot_encoder_contact : compile Try.prog Try.f29.ntmps (Try.f29.body.getD .skip) = some c_snapshot_encoder_contact.strip := by kernel_rfl
abbrev F_snapshot_decodeAt_Body : Nat := 31
abbrev F_snapshot_decoder_body : Nat := 32
def c_snapshot_decoder_body : ACode := (.seq (r0 [oA 2 zD1_5])
  (.seq (r0 [oA 3 zD1_5])
  (.seq (r0 [oM 4 0, oJ 5 50 [(.t 4)], oM 6 0, oJ 7 50 [(.t 6)], oF 0 8 3, oS 1 8 5, oF 1 9 3, oS 1 9 7])
  (.seq (r0 [oM 10 0, oJ 11 51 [(.t 10)], oM 12 0, oJ 13 50 [(.t 12)], oF 2 14 3, oF 0 15 14, oS 2 15 11, oF 2 16 3, oF 2 17 16, oS 1 17 13])
  (.seq (r0 [oM 18 0, oJ 19 51 [(.t 18)], oM 20 0, oJ 21 50 [(.t 20)], oF 5 22 3, oS 2 22 19, oF 7 23 3, oS 1 23 21])
  (.seq (r0 [oM 24 0, oJ 25 51 [(.t 24)], oM 26 0, oJ 27 50 [(.t 26)], oF 8 28 3, oS 2 28 25, oF 10 29 3, oS 1 29 27])
  (.seq (r0 [oM 30 0, oJ 31 50 [(.t 30)], oM 32 0, oJ 33 50 [(.t 32)], oM 34 0, oJ 35 50 [(.t 34)], oF 11 36 3, oS 1 36 31, oF 12 37 3, oS 1 37 33, oF 13 38 3, oS 1 38 35])
  (.seq (r0 [oM 39 0, oJ 40 52 [(.t 39)], oM 41 0, oJ 42 52 [(.t 41)], oM 43 0, oJ 44 52 [(.t 43)], oM 45 0, oJ 46 52 [(.t 45)], oF 14 47 3, oS 1 47 40, oF 15 48 3, oS 1 48 42, oF 16 49 3, oS 1 49 44, oF 17 50 3, oS 1 50 46])
  (.seq (r0 [oM 51 0, oJ 52 50 [(.t 51)], oF 18 53 3, oS 1 53 52])
  (.seq (r0 [oM 54 0, oM 55 0, ⟨(some 56), .mkfn (.func 54) [(.t 55)] [], none, []⟩, oJ 57 53 [(.t 54), (.t 56)], oF 19 58 3, oS 1 58 57])
  (.seq (r0 [oR 20 59 3, oS 20 2 59])
  .ret)))))))))))
theorem is_snapshot_decoder_body : compile Try.prog Try.f32.ntmps (Try.f32.body.getD .skip) = some c_snapshot_decoder_body.strip := by kernel_rfl
abbrev F_r45_readBody : Nat := 33
def c_r45_readBodyb0 : ACode := (.seq (.seq (r0 [oM 130 21, oM 131 19, oB .lss 132 130 131, oM 133 132, gT 133 (oF 2 134 20), gT 133 (oL 135 134), gT 133 (oC .eql 136 135 0), oP 137 133 136])
  (.cond (.t 137) .skip (.exit 0)))
  (.seq (.block 1 (.seq (r0 [oR 3 141 20, oJ 142 59 [(.t 141)], oM 140 142, oX 143 140 0, oX 144 140 1, oA 22 zD1_8, oA 23 zD1_7, oS 10 22 143, oS 3 23 144])
  (.seq (r0 [oF 19 145 4, oL 146 145, oR 10 147 22, oY 10 148 1 zD1_8 [(0, 10, (.t 147))], oZ 10 96 149 146 148, oF 19 150 4, oS 1 150 149])
  (r0 [oR 3 151 23, oS 3 20 151]))))
  (r0 [oM 138 21, oC .add 139 138 1, oM 21 139])))
def c_r45_readBody : ACode := (.seq (r0 [oE 1 0, oA 2 zD1_5, oA 3 zD1_7])
  (.seq (r0 [oA 4 zD1_5])
  (.seq (r0 [oR 3 25 1, oJ 26 55 [(.t 25), (ki 8)], oM 24 26, oX 27 24 0, oX 28 24 1, oA 6 zD1_7, oM 5 27, oS 3 6 28])
  (.seq (r0 [oM 29 5, ⟨(some 30), .iaddr 1 (.t 29) (ki 0), none, []⟩, oL 31 30, oF 0 32 4, oS 1 32 31])
  (.seq (r0 [oM 33 5, ⟨(some 34), .iaddr 1 (.t 33) (ki 1), none, []⟩, oL 35 34, oF 1 36 4, oS 1 36 35])
  (.seq (r1 [oM 37 5, ⟨(some 38), .iaddr 1 (.t 37) (ki 2), none, []⟩, oL 39 38, oM 40 5, ⟨(some 41), .iaddr 1 (.t 40) (ki 3), none, []⟩, oL 42 41, oW 43 zD1_6 [(0, 1, (.t 39)), (1, 1, (.t 42))], oM 44 5, ⟨(some 45), .iaddr 1 (.t 44) (ki 4), none, []⟩, oL 46 45, oW 47 zD1_10 [(0, 2, (.t 43)), (2, 1, (.t 46))], oF 2 48 4, oS 3 48 47])
  (.seq (r1 [oM 49 5, ⟨(some 50), .iaddr 1 (.t 49) (ki 5), none, []⟩, oL 51 50, oM 52 5, ⟨(some 53), .iaddr 1 (.t 52) (ki 6), none, []⟩, oL 54 53, oW 55 zD1_6 [(0, 1, (.t 51)), (1, 1, (.t 54))], oF 5 56 4, oS 2 56 55])
  (.seq (r0 [oM 57 5, ⟨(some 58), .iaddr 1 (.t 57) (ki 7), none, []⟩, oL 59 58, oF 7 60 4, oS 1 60 59])
  (.seq (r0 [oR 3 62 6, oJ 63 55 [(.t 62), (ki 6)], oM 61 63, oX 64 61 0, oX 65 61 1, oA 8 zD1_7, oM 7 64, oS 3 8 65])
  (.seq (r1 [oM 66 7, ⟨(some 67), .iaddr 1 (.t 66) (ki 0), none, []⟩, oL 68 67, oM 69 7, ⟨(some 70), .iaddr 1 (.t 69) (ki 1), none, []⟩, oL 71 70, oW 72 zD1_6 [(0, 1, (.t 68)), (1, 1, (.t 71))], oF 8 73 4, oS 2 73 72])
  (.seq (r0 [oM 74 7, ⟨(some 75), .iaddr 1 (.t 74) (ki 2), none, []⟩, oL 76 75, oF 10 77 4, oS 1 77 76])
  (.seq (r0 [oM 78 7, ⟨(some 79), .iaddr 1 (.t 78) (ki 3), none, []⟩, oL 80 79, oF 11 81 4, oS 1 81 80])
  (.seq (r0 [oM 82 7, ⟨(some 83), .iaddr 1 (.t 82) (ki 4), none, []⟩, oL 84 83, oF 12 85 4, oS 1 85 84])
  (.seq (r0 [oM 86 7, ⟨(some 87), .iaddr 1 (.t 86) (ki 5), none, []⟩, oL 88 87, oF 13 89 4, oS 1 89 88])
  (.seq (r0 [oR 3 91 8, oJ 92 56 [(.t 91)], oM 90 92, oX 93 90 0, oX 94 90 1, oA 10 zD1_7, oM 9 93, oS 3 10 94])
  (.seq (r0 [oR 3 96 10, oJ 97 56 [(.t 96)], oM 95 97, oX 98 95 0, oX 99 95 1, oA 12 zD1_7, oM 11 98, oS 3 12 99])
  (.seq (r0 [oR 3 101 12, oJ 102 56 [(.t 101)], oM 100 102, oX 103 100 0, oX 104 100 1, oA 14 zD1_7, oM 13 103, oS 3 14 104])
  (.seq (r0 [oR 3 106 14, oJ 107 56 [(.t 106)], oM 105 107, oX 108 105 0, oX 109 105 1, oA 16 zD1_7, oM 15 108, oS 3 16 109])
  (.seq (r0 [oM 110 9, oF 14 111 4, oS 1 111 110])
  (.seq (r0 [oM 112 11, oF 15 113 4, oS 1 113 112])
  (.seq (r0 [oM 114 13, oF 16 115 4, oS 1 115 114])
  (.seq (r0 [oM 116 15, oF 17 117 4, oS 1 117 116])
  (.seq (r0 [oR 3 119 16, oJ 120 57 [(.t 119)], oM 118 120, oX 121 118 0, oX 122 118 1, oA 18 zD1_7, oM 17 121, oS 3 18 122])
  (.seq (r0 [oM 123 17, oF 18 124 4, oS 1 124 123])
  (.seq (r0 [oR 3 126 18, oJ 127 58 [(.t 126)], oM 125 127, oX 128 125 0, oX 129 125 1, oA 20 zD1_7, oM 19 128, oS 3 20 129])
  (.seq (.seq (r0 [oV 21 (vi 0)])
  (.block 0 (.loop c_r45_readBodyb0)))
  (.seq (r1 [oR 20 152 4, oR 3 153 20, ⟨none, .store 20 (.t 2) (.t 152), none, [1]⟩, oS 3 3 153])
  .ret)))))))))))))))))))))))))))
theorem is_r45_readBody : compile Try.prog Try.f33.ntmps (Try.f33.body.getD .skip) = some c_r45_readBody.strip := by kernel_rfl
abbrev F_r23_EqualFixture : Nat := 34
def c_r23_EqualFixture : ACode := (.seq (r0 [oE 2 0, oE 3 1, oV 4 (vb false)])
  (.seq (r0 [oF 0 5 2, oR 3 6 5, oF 0 7 3, oR 3 8 7, oJ 9 60 [(.t 6), (.t 8)], oM 10 9, gT 10 (oF 3 11 2), gT 10 (oL 12 11), gT 10 (oF 3 13 3), gT 10 (oL 14 13), gT 10 (oB .eql 15 12 14), oP 16 10 15, oM 17 16, gT 17 (oF 4 18 2), gT 17 (oL 19 18), gT 17 (oF 4 20 3), gT 17 (oL 21 20), gT 17 (oB .eql 22 19 21), oP 23 17 22, oM 24 23, gT 24 (oF 5 25 2), gT 24 (oL 26 25), gT 24 (oF 5 27 3), gT 24 (oL 28 27), gT 24 (oB .eql 29 26 28), oP 30 24 29, oM 31 30, gT 31 (oF 6 32 2), gT 31 (oL 33 32), gT 31 (oF 6 34 3), gT 31 (oL 35 34), ⟨(some 36), .eqb false (.t 33) (.t 35), (some (31, true)), []⟩, oP 37 31 36, oM 38 37, gT 38 (oF 7 39 2), gT 38 (oL 40 39), gT 38 (oF 7 41 3), gT 38 (oL 42 41), gT 38 (oB .eql 43 40 42), oP 44 38 43, oM 45 44, gT 45 (oF 8 46 2), gT 45 (oL 47 46), gT 45 (oF 8 48 3), gT 45 (oL 49 48), gT 45 (oB .eql 50 47 49), oP 51 45 50, oM 52 51, gT 52 (oF 9 53 2), gT 52 (oL 54 53), gT 52 (oF 9 55 3), gT 52 (oL 56 55), gT 52 (oB .eql 57 54 56), oP 58 52 57, oM 4 58])
  .ret))
theorem is_r23_EqualFixture : compile Try.prog Try.f34.ntmps (Try.f34.body.getD .skip) = some c_r23_EqualFixture.strip := by kernel_rfl
abbrev F_snapshot_decodeAt_Joint : Nat := 35
abbrev F_snapshot_decoder_joint : Nat := 36
def c_snapshot_decoder_jointb0 : ACode := (.seq (r0 [oC .lss 57 56 4])
  (.seq (.cond (.t 57) .skip (.exit 0))
  (.seq (.block 1 (.seq (r0 [oM 58 56, oM 4 58])
  (r0 [oM 59 4, oM 60 0, oJ 61 50 [(.t 60)], oF 20 62 3, ⟨(some 63), .aaddr 4 1 (.t 62) (.t 59), none, []⟩, oS 1 63 61])))
  (r0 [oC .add 64 56 1, oM 56 64]))))
def c_snapshot_decoder_joint : ACode := (.seq (r0 [oA 2 zD1_1])
  (.seq (r0 [oA 3 zD1_1])
  (.seq (r0 [oM 5 0, oJ 6 50 [(.t 5)], oM 7 0, oJ 8 50 [(.t 7)], oM 9 0, oJ 10 50 [(.t 9)], oM 11 0, oJ 12 50 [(.t 11)], oF 0 13 3, oS 1 13 6, oF 1 14 3, oS 1 14 8, oF 2 15 3, oS 1 15 10, oF 3 16 3, oS 1 16 12])
  (.seq (r0 [oM 17 0, oJ 18 51 [(.t 17)], oM 19 0, oJ 20 51 [(.t 19)], oM 21 0, oJ 22 51 [(.t 21)], oF 4 23 3, oS 2 23 18, oF 6 24 3, oS 2 24 20, oF 8 25 3, oS 2 25 22])
  (.seq (r0 [oM 26 0, oJ 27 50 [(.t 26)], oF 10 28 3, oS 1 28 27])
  (.seq (r0 [oM 29 0, oJ 30 52 [(.t 29)], oF 11 31 3, oS 1 31 30])
  (.seq (r0 [oM 32 0, oJ 33 50 [(.t 32)], oM 34 0, oJ 35 50 [(.t 34)], oF 12 36 3, oS 1 36 33, oF 13 37 3, oS 1 37 35])
  (.seq (r0 [oM 38 0, oJ 39 52 [(.t 38)], oF 14 40 3, oS 1 40 39])
  (.seq (r0 [oM 41 0, oJ 42 50 [(.t 41)], oM 43 0, oJ 44 50 [(.t 43)], oM 45 0, oJ 46 50 [(.t 45)], oM 47 0, oJ 48 50 [(.t 47)], oF 15 49 3, oS 1 49 42, oF 16 50 3, oS 1 50 44, oF 17 51 3, oS 1 51 46, oF 18 52 3, oS 1 52 48])
  (.seq (r0 [oM 53 0, oJ 54 52 [(.t 53)], oF 19 55 3, oS 1 55 54])
  (.seq (.seq (r0 [oV 56 (vi 0)])
  (.block 0 (.loop c_snapshot_decoder_jointb0)))
  (.seq (r0 [oR 24 65 3, oS 24 2 65])
  .ret))))))))))))
theorem is_snapshot_decoder_joint : compile Try.prog Try.f36.ntmps (Try.f36.body.getD .skip) = some c_snapshot_decoder_joint.strip := by kernel_rfl
abbrev F_r45_readJoint : Nat := 37
def c_r45_readJoint : ACode := (.seq (r0 [oE 1 0, oA 2 zD1_1, oA 3 zD1_7])
  (.seq (r0 [oA 4 zD1_1])
  (.seq (r0 [oR 3 20 1, oJ 21 55 [(.t 20), (ki 11)], oM 19 21, oX 22 19 0, oX 23 19 1, oA 6 zD1_7, oM 5 22, oS 3 6 23])
  (.seq (r0 [oM 24 5, ⟨(some 25), .iaddr 1 (.t 24) (ki 0), none, []⟩, oL 26 25, oF 0 27 4, oS 1 27 26])
  (.seq (r0 [oM 28 5, ⟨(some 29), .iaddr 1 (.t 28) (ki 1), none, []⟩, oL 30 29, oF 1 31 4, oS 1 31 30])
  (.seq (r0 [oM 32 5, ⟨(some 33), .iaddr 1 (.t 32) (ki 2), none, []⟩, oL 34 33, oF 2 35 4, oS 1 35 34])
  (.seq (r0 [oM 36 5, ⟨(some 37), .iaddr 1 (.t 36) (ki 3), none, []⟩, oL 38 37, oF 3 39 4, oS 1 39 38])
  (.seq (r1 [oM 40 5, ⟨(some 41), .iaddr 1 (.t 40) (ki 4), none, []⟩, oL 42 41, oM 43 5, ⟨(some 44), .iaddr 1 (.t 43) (ki 5), none, []⟩, oL 45 44, oW 46 zD1_6 [(0, 1, (.t 42)), (1, 1, (.t 45))], oF 4 47 4, oS 2 47 46])
  (.seq (r1 [oM 48 5, ⟨(some 49), .iaddr 1 (.t 48) (ki 6), none, []⟩, oL 50 49, oM 51 5, ⟨(some 52), .iaddr 1 (.t 51) (ki 7), none, []⟩, oL 53 52, oW 54 zD1_6 [(0, 1, (.t 50)), (1, 1, (.t 53))], oF 6 55 4, oS 2 55 54])
  (.seq (r1 [oM 56 5, ⟨(some 57), .iaddr 1 (.t 56) (ki 8), none, []⟩, oL 58 57, oM 59 5, ⟨(some 60), .iaddr 1 (.t 59) (ki 9), none, []⟩, oL 61 60, oW 62 zD1_6 [(0, 1, (.t 58)), (1, 1, (.t 61))], oF 8 63 4, oS 2 63 62])
  (.seq (r0 [oM 64 5, ⟨(some 65), .iaddr 1 (.t 64) (ki 10), none, []⟩, oL 66 65, oF 10 67 4, oS 1 67 66])
  (.seq (r0 [oR 3 69 6, oJ 70 56 [(.t 69)], oM 68 70, oX 71 68 0, oX 72 68 1, oA 8 zD1_7, oM 7 71, oS 3 8 72])
  (.seq (r0 [oM 73 7, oF 11 74 4, oS 1 74 73])
  (.seq (r0 [oR 3 76 8, oJ 77 55 [(.t 76), (ki 2)], oM 75 77, oX 78 75 0, oX 79 75 1, oA 10 zD1_7, oM 9 78, oS 3 10 79])
  (.seq (r0 [oM 80 9, ⟨(some 81), .iaddr 1 (.t 80) (ki 0), none, []⟩, oL 82 81, oF 12 83 4, oS 1 83 82])
  (.seq (r0 [oM 84 9, ⟨(some 85), .iaddr 1 (.t 84) (ki 1), none, []⟩, oL 86 85, oF 13 87 4, oS 1 87 86])
  (.seq (r0 [oR 3 89 10, oJ 90 56 [(.t 89)], oM 88 90, oX 91 88 0, oX 92 88 1, oA 12 zD1_7, oM 11 91, oS 3 12 92])
  (.seq (r0 [oM 93 11, oF 14 94 4, oS 1 94 93])
  (.seq (r0 [oR 3 96 12, oJ 97 55 [(.t 96), (ki 4)], oM 95 97, oX 98 95 0, oX 99 95 1, oA 14 zD1_7, oM 13 98, oS 3 14 99])
  (.seq (r0 [oM 100 13, ⟨(some 101), .iaddr 1 (.t 100) (ki 0), none, []⟩, oL 102 101, oF 15 103 4, oS 1 103 102])
  (.seq (r0 [oM 104 13, ⟨(some 105), .iaddr 1 (.t 104) (ki 1), none, []⟩, oL 106 105, oF 16 107 4, oS 1 107 106])
  (.seq (r0 [oM 108 13, ⟨(some 109), .iaddr 1 (.t 108) (ki 2), none, []⟩, oL 110 109, oF 17 111 4, oS 1 111 110])
  (.seq (r0 [oM 112 13, ⟨(some 113), .iaddr 1 (.t 112) (ki 3), none, []⟩, oL 114 113, oF 18 115 4, oS 1 115 114])
  (.seq (r0 [oR 3 117 14, oJ 118 56 [(.t 117)], oM 116 118, oX 119 116 0, oX 120 116 1, oA 16 zD1_7, oM 15 119, oS 3 16 120])
  (.seq (r0 [oM 121 15, oF 19 122 4, oS 1 122 121])
  (.seq (r0 [oR 3 124 16, oJ 125 55 [(.t 124), (ki 4)], oM 123 125, oX 126 123 0, oX 127 123 1, oA 18 zD1_7, oM 17 126, oS 3 18 127])
  (.seq (r1 [oM 128 17, ⟨(some 129), .iaddr 1 (.t 128) (ki 0), none, []⟩, oL 130 129, oM 131 17, ⟨(some 132), .iaddr 1 (.t 131) (ki 1), none, []⟩, oL 133 132, oM 134 17, ⟨(some 135), .iaddr 1 (.t 134) (ki 2), none, []⟩, oL 136 135, oM 137 17, ⟨(some 138), .iaddr 1 (.t 137) (ki 3), none, []⟩, oL 139 138, oW 140 zD1_0 [(0, 1, (.t 130)), (1, 1, (.t 133)), (2, 1, (.t 136)), (3, 1, (.t 139))], oF 20 141 4, oS 4 141 140])
  (.seq (r1 [oR 24 142 4, oR 3 143 18, ⟨none, .store 24 (.t 2) (.t 142), none, [1]⟩, oS 3 3 143])
  .ret))))))))))))))))))))))))))))
theorem is_r45_readJoint : compile Try.prog Try.f37.ntmps (Try.f37.body.getD .skip) = some c_r45_readJoint.strip := by kernel_rfl
abbrev F_snapshot_decodeAt_Contact : Nat := 38
abbrev F_snapshot_decoder_contact : Nat := 39
def c_snapshot_decoder_contact : ACode := (.seq (r0 [oA 2 zD1_4])
  (.seq (r0 [oA 3 zD1_4])
  (.seq (r0 [oM 4 0, oJ 5 63 [(.t 4)], oF 0 6 3, oS 4 6 5])
  (.seq (r0 [oM 7 0, oJ 8 51 [(.t 7)], oF 4 9 3, oF 0 10 9, oS 2 10 8])
  (.seq (r0 [oM 11 0, oM 12 0, ⟨(some 13), .mkfn (.func 65) [(.t 12)] [], none, []⟩, oJ 14 64 [(.t 11), (.t 13)], oF 4 15 3, oF 2 16 15, oS 1 16 14])
  (.seq (r0 [oR 7 17 3, oS 7 2 17])
  .ret))))))
theorem is_snapshot_decoder_contact : compile Try.prog Try.f39.ntmps (Try.f39.body.getD .skip) = some c_snapshot_decoder_contact.strip := by kernel_rfl
abbrev F_r45_readContact : Nat := 40
def c_r45_readContactb0 : ACode := (.seq (.seq (r0 [oM 34 11, oM 35 9, oB .lss 36 34 35, oM 37 36, gT 37 (oF 2 38 10), gT 37 (oL 39 38), gT 37 (oC .eql 40 39 0), oP 41 37 40])
  (.cond (.t 41) .skip (.exit 0)))
  (.seq (.block 1 (.seq (r0 [oR 3 45 10, oJ 46 55 [(.t 45), (ki 6)], oM 44 46, oX 47 44 0, oX 48 44 1, oA 13 zD1_7, oM 12 47, oS 3 13 48])
  (.seq (r1 [oF 4 49 4, oF 2 50 49, oL 51 50, oM 52 12, ⟨(some 53), .iaddr 1 (.t 52) (ki 0), none, []⟩, oL 54 53, oM 55 12, ⟨(some 56), .iaddr 1 (.t 55) (ki 1), none, []⟩, oL 57 56, oW 58 zD1_6 [(0, 1, (.t 54)), (1, 1, (.t 57))], oM 59 12, ⟨(some 60), .iaddr 1 (.t 59) (ki 2), none, []⟩, oL 61 60, oM 62 12, ⟨(some 63), .iaddr 1 (.t 62) (ki 3), none, []⟩, oL 64 63, oM 65 12, ⟨(some 66), .iaddr 1 (.t 65) (ki 4), none, []⟩, oL 67 66, oM 68 12, ⟨(some 69), .iaddr 1 (.t 68) (ki 5), none, []⟩, oL 70 69, oW 71 zD1_2 [(0, 2, (.t 58)), (2, 1, (.t 61)), (3, 1, (.t 64)), (4, 1, (.t 67)), (5, 1, (.t 70))], ⟨(some 72), .bslice 6 1 zD1_2 [(0, 6, (.t 71))], none, [2]⟩, oZ 6 48 73 51 72, oF 4 74 4, oF 2 75 74, oS 1 75 73])
  (r0 [oR 3 76 13, oS 3 10 76]))))
  (r0 [oM 42 11, oC .add 43 42 1, oM 11 43])))
def c_r45_readContact : ACode := (.seq (r0 [oE 1 0, oA 2 zD1_4, oA 3 zD1_7])
  (.seq (r0 [oA 4 zD1_4])
  (.seq (r0 [oR 3 15 1, oJ 16 66 [(.t 15)], oM 14 16, oX 17 14 0, oX 18 14 1, oA 5 zD1_0, oA 6 zD1_7, oS 4 5 17, oS 3 6 18])
  (.seq (r0 [oR 4 19 5, oF 0 20 4, oS 4 20 19])
  (.seq (r0 [oR 3 22 6, oJ 23 67 [(.t 22)], oM 21 23, oX 24 21 0, oX 25 21 1, oA 7 zD1_6, oA 8 zD1_7, oS 2 7 24, oS 3 8 25])
  (.seq (r0 [oR 2 26 7, oF 4 27 4, oF 0 28 27, oS 2 28 26])
  (.seq (r0 [oR 3 30 8, oJ 31 58 [(.t 30)], oM 29 31, oX 32 29 0, oX 33 29 1, oA 10 zD1_7, oM 9 32, oS 3 10 33])
  (.seq (.seq (r0 [oV 11 (vi 0)])
  (.block 0 (.loop c_r45_readContactb0)))
  (.seq (r1 [oR 7 77 4, oR 3 78 10, ⟨none, .store 7 (.t 2) (.t 77), none, [1]⟩, oS 3 3 78])
  .ret)))))))))
theorem is_r45_readContact : compile Try.prog Try.f40.ntmps (Try.f40.body.getD .skip) = some c_r45_readContact.strip := by kernel_rfl
abbrev F_snapshot_encoder_ints : Nat := 41
def c_snapshot_encoder_intsb0 : ACode := (.seq (r0 [oB .lss 9 8 7])
  (.seq (.cond (.t 9) .skip (.exit 0))
  (.seq (.block 1 (.seq (r0 [oI 1 10 6 8, oL 11 10, oM 5 11])
  (r0 [oM 12 0, oM 13 0, ⟨(some 14), .nilck (.t 13), none, []⟩, oF 0 15 14, oL 16 15, oM 17 5, oJ 18 68 [(.t 16), (.t 17)], ⟨(some 19), .nilck (.t 12), none, []⟩, oF 0 20 19, oS 1 20 18])))
  (r0 [oC .add 21 8 1, oM 8 21]))))
def c_snapshot_encoder_ints : ACode := (.seq (r0 [oM 6 1, oN 7 6, oV 8 (vi 0)])
  (.block 0 (.loop c_snapshot_encoder_intsb0)))
theorem is_snapshot_encoder_ints : compile Try.prog Try.f41.ntmps (Try.f41.body.getD .skip) = some c_snapshot_encoder_ints.strip := by kernel_rfl
abbrev F_snapshot_encoder_vecs : Nat := 42
def c_snapshot_encoder_vecsb0 : ACode := (.seq (r0 [oB .lss 9 8 7])
  (.seq (.cond (.t 9) .skip (.exit 0))
  (.seq (.block 1 (.seq (r0 [oI 2 10 6 8, oR 2 11 10, oA 5 zD1_6, oS 2 5 11])
  (r1 [oM 12 0, oM 13 0, ⟨(some 14), .nilck (.t 13), none, []⟩, oF 0 15 14, oL 16 15, oR 2 17 5, oJ 18 69 [(.t 16), (.t 17)], ⟨(some 19), .nilck (.t 12), none, []⟩, oF 0 20 19, oS 1 20 18])))
  (r0 [oC .add 21 8 1, oM 8 21]))))
def c_snapshot_encoder_vecs : ACode := (.seq (r0 [oM 6 1, oN 7 6, oV 8 (vi 0)])
  (.block 0 (.loop c_snapshot_encoder_vecsb0)))
theorem is_snapshot_encoder_vecs : compile Try.prog Try.f42.ntmps (Try.f42.body.getD .skip) = some c_snapshot_encoder_vecs.strip := by kernel_rfl
abbrev F_snapshot_encoder_key : Nat := 47
def c_snapshot_encoder_key : ACode := (.seq (r0 [oE 3 1])
  (r0 [oM 4 0, oF 0 5 3, oL 6 5, oF 1 7 3, oL 8 7, oF 2 9 3, oL 10 9, oF 3 11 3, oL 12 11, oY 1 13 4 zD1_0 [(0, 1, (.t 6)), (1, 1, (.t 8)), (2, 1, (.t 10)), (3, 1, (.t 12))], oJ 14 41 [(.t 4), (.t 13)]]))
theorem is_snapshot_encoder_key : compile Try.prog Try.f47.ntmps (Try.f47.body.getD .skip) = some c_snapshot_encoder_key.strip := by kernel_rfl
abbrev F_snapshot_decodeAt_Body_f1 : Nat := 48
def c_snapshot_decodeAt_Body_f1 : ACode := (.seq (r0 [oL 4 0, oC .neq 5 4 0])
  (.cond (.t 5) (.seq (r0 [oA 3 zD1_5])
  (r0 [oR 20 6 3, oS 20 1 6, oD 1 2 (vi 0)])) .skip))
theorem is_snapshot_decodeAt_Body_f1 : compile Try.prog Try.f48.ntmps (Try.f48.body.getD .skip) = some c_snapshot_decodeAt_Body_f1.strip := by kernel_rfl
abbrev F_snapshot_decoder_int : Nat := 50
def c_snapshot_decoder_int : ACode := (.seq (r0 [oV 2 (vi 0)])
  (.seq (r1 [oM 7 0, ⟨(some 8), .nilck (.t 7), none, []⟩, oF 0 9 8, oL 10 9, oM 11 0, ⟨(some 12), .nilck (.t 11), none, []⟩, oF 1 13 12, oL 14 13, oJ 15 72 [(.t 10), (.t 14)], oM 6 15, oX 16 6 0, oX 17 6 1, oX 18 6 2, oM 3 16, oM 4 17, oM 5 18])
  (.seq (r0 [oM 19 0, oM 20 4, oM 21 5, oJ 22 73 [(.t 19), (.t 20), (.t 21)]])
  (.seq (r0 [oM 23 3, oM 2 23])
  .ret))))
theorem is_snapshot_decoder_int : compile Try.prog Try.f50.ntmps (Try.f50.body.getD .skip) = some c_snapshot_decoder_int.strip := by kernel_rfl
abbrev F_snapshot_decoder_vec : Nat := 51
def c_snapshot_decoder_vec : ACode := (.seq (r0 [oA 2 zD1_6])
  (.seq (r1 [oM 7 0, ⟨(some 8), .nilck (.t 7), none, []⟩, oF 0 9 8, oL 10 9, oM 11 0, ⟨(some 12), .nilck (.t 11), none, []⟩, oF 1 13 12, oL 14 13, oJ 15 74 [(.t 10), (.t 14)], oM 6 15, oX 16 6 0, oX 17 6 1, oX 18 6 2, ⟨(some 3), .alloc zD1_6, none, [3, 7, 8]⟩, oS 2 3 16, oM 4 17, oM 5 18])
  (.seq (r0 [oM 19 0, oM 20 4, oM 21 5, oJ 22 73 [(.t 19), (.t 20), (.t 21)]])
  (.seq (r0 [oR 2 23 3, oS 2 2 23])
  .ret))))
theorem is_snapshot_decoder_vec : compile Try.prog Try.f51.ntmps (Try.f51.body.getD .skip) = some c_snapshot_decoder_vec.strip := by kernel_rfl
abbrev F_snapshot_decoder_bool : Nat := 52
def c_snapshot_decoder_bool : ACode := (.seq (r0 [oV 2 (vb false)])
  (.seq (r1 [oM 7 0, ⟨(some 8), .nilck (.t 7), none, []⟩, oF 0 9 8, oL 10 9, oM 11 0, ⟨(some 12), .nilck (.t 11), none, []⟩, oF 1 13 12, oL 14 13, oJ 15 75 [(.t 10), (.t 14)], oM 6 15, oX 16 6 0, oX 17 6 1, oX 18 6 2, oM 3 16, oM 4 17, oM 5 18])
  (.seq (r0 [oM 19 0, oM 20 4, oM 21 5, oJ 22 73 [(.t 19), (.t 20), (.t 21)]])
  (.seq (r0 [oM 23 3, oM 2 23])
  .ret))))
theorem is_snapshot_decoder_bool : compile Try.prog Try.f52.ntmps (Try.f52.body.getD .skip) = some c_snapshot_decoder_bool.strip := by kernel_rfl
abbrev F_snapshot_slice_Fixture : Nat := 53
def c_snapshot_slice_Fixtureb0 : ACode := (.seq (r0 [oB .lss 11 10 9])
  (.seq (.cond (.t 11) .skip (.exit 0))
  (.seq (.block 1 (r0 [oM 12 6, oM 13 1, ⟨(some 14), .callv (.t 13) [], none, []⟩, oY 10 15 1 zD1_8 [(0, 10, (.t 14))], oZ 10 96 16 12 15, oM 6 16]))
  (r0 [oC .add 17 10 1, oM 10 17]))))
def c_snapshot_slice_Fixture : ACode := (.seq (r0 [oV 4 vn])
  (.seq (r0 [oM 7 0, oJ 8 76 [(.t 7)], oM 5 8])
  (.seq (r0 [oV 6 vn])
  (.seq (.seq (r0 [oM 9 5, oV 10 (vi 0)])
  (.block 0 (.loop c_snapshot_slice_Fixtureb0)))
  (.seq (r0 [oM 18 6, oM 4 18])
  .ret)))))
theorem is_snapshot_slice_Fixture : compile Try.prog Try.f53.ntmps (Try.f53.body.getD .skip) = some c_snapshot_slice_Fixture.strip := by kernel_rfl
abbrev F_snapshot_decoder_fixture : Nat := 54
def c_snapshot_decoder_fixture : ACode := (.seq (r0 [oA 2 zD1_8])
  (.seq (r0 [oA 3 zD1_8])
  (.seq (r0 [oM 4 0, oJ 5 50 [(.t 4)], oF 0 6 3, oF 0 7 6, oS 1 7 5])
  (.seq (r0 [oM 8 0, oJ 9 50 [(.t 8)], oF 0 10 3, oF 1 11 10, oS 1 11 9])
  (.seq (r0 [oM 12 0, oM 13 0, ⟨(some 14), .mkfn (.func 51) [(.t 13)] [], none, []⟩, oJ 15 77 [(.t 12), (.t 14)], oF 0 16 3, oF 2 17 16, oS 1 17 15])
  (.seq (r0 [oM 18 0, oJ 19 50 [(.t 18)], oM 20 0, oJ 21 50 [(.t 20)], oM 22 0, oJ 23 50 [(.t 22)], oF 3 24 3, oS 1 24 19, oF 4 25 3, oS 1 25 21, oF 5 26 3, oS 1 26 23])
  (.seq (r0 [oM 27 0, oJ 28 52 [(.t 27)], oF 6 29 3, oS 1 29 28])
  (.seq (r0 [oM 30 0, oJ 31 50 [(.t 30)], oM 32 0, oJ 33 50 [(.t 32)], oM 34 0, oJ 35 50 [(.t 34)], oF 7 36 3, oS 1 36 31, oF 8 37 3, oS 1 37 33, oF 9 38 3, oS 1 38 35])
  (.seq (r0 [oR 10 39 3, oS 10 2 39])
  .ret)))))))))
theorem is_snapshot_decoder_fixture : compile Try.prog Try.f54.ntmps (Try.f54.body.getD .skip) = some c_snapshot_decoder_fixture.strip := by kernel_rfl
abbrev F_r45_readInts : Nat := 55
def c_r45_readIntsb0 : ACode := (.seq (.seq (r0 [oM 10 7, oM 11 1, oB .lss 12 10 11])
  (.cond (.t 12) .skip (.exit 0)))
  (.seq (.block 1 (.seq (r0 [oR 3 16 2, oJ 17 57 [(.t 16)], oM 15 17, oX 18 15 0, oX 19 15 1, oA 9 zD1_7, oM 8 18, oS 3 9 19])
  (.seq (r0 [oM 20 6, oM 21 8, oY 1 22 1 [(.int .i64 0)] [(0, 1, (.t 21))], oZ 1 8 23 20 22, oM 6 23])
  (r0 [oR 3 24 9, oS 3 2 24]))))
  (r0 [oM 13 7, oC .add 14 13 1, oM 7 14])))
def c_r45_readInts : ACode := (.seq (r0 [oE 2 0, oV 4 vn, oA 5 zD1_7])
  (.seq (r0 [oV 6 vn])
  (.seq (.seq (r0 [oV 7 (vi 0)])
  (.block 0 (.loop c_r45_readIntsb0)))
  (.seq (r1 [oM 25 6, oR 3 26 2, oM 4 25, oS 3 5 26])
  .ret))))
theorem is_r45_readInts : compile Try.prog Try.f55.ntmps (Try.f55.body.getD .skip) = some c_r45_readInts.strip := by kernel_rfl
abbrev F_r45_readBool : Nat := 56
def c_r45_readBool : ACode := (.seq (r0 [oE 1 0, oV 2 (vb false), oA 3 zD1_7])
  (.seq (.seq (r0 [oF 2 7 1, oL 8 7, oC .neq 9 8 0])
  (.cond (.t 9) (.seq (r1 [oR 3 10 1, oV 2 (vb false), oS 3 3 10])
  .ret) .skip))
  (.seq (r0 [oF 0 12 1, oL 13 12, oF 1 14 1, oL 15 14, oJ 16 78 [(.t 13), (.t 15)], oM 11 16, oX 17 11 0, oX 18 11 1, oX 19 11 2, oM 4 17, oM 5 18, oM 6 19])
  (.seq (.seq (r0 [oM 20 6, oC .neq 21 20 0])
  (.cond (.t 21) (.seq (r0 [oM 22 6, oW 23 zD1_7 [(2, 1, (.t 22))], oV 2 (vb false), oS 3 3 23])
  .ret) .skip))
  (.seq (r1 [oM 24 4, oF 0 25 1, oL 26 25, oM 27 5, oW 28 zD1_7 [(0, 1, (.t 26)), (1, 1, (.t 27))], oM 2 24, oS 3 3 28])
  .ret)))))
theorem is_r45_readBool : compile Try.prog Try.f56.ntmps (Try.f56.body.getD .skip) = some c_r45_readBool.strip := by kernel_rfl
abbrev F_r45_readInt : Nat := 57
def c_r45_readInt : ACode := (.seq (r0 [oE 1 0, oV 2 (vi 0), oA 3 zD1_7])
  (.seq (.seq (r0 [oF 2 7 1, oL 8 7, oC .neq 9 8 0])
  (.cond (.t 9) (.seq (r1 [oR 3 10 1, oV 2 (vi 0), oS 3 3 10])
  .ret) .skip))
  (.seq (r0 [oF 0 12 1, oL 13 12, oF 1 14 1, oL 15 14, oJ 16 79 [(.t 13), (.t 15)], oM 11 16, oX 17 11 0, oX 18 11 1, oX 19 11 2, oM 4 17, oM 5 18, oM 6 19])
  (.seq (.seq (r0 [oM 20 6, oC .neq 21 20 0])
  (.cond (.t 21) (.seq (r0 [oM 22 6, oW 23 zD1_7 [(2, 1, (.t 22))], oV 2 (vi 0), oS 3 3 23])
  .ret) .skip))
  (.seq (r1 [oM 24 4, oF 0 25 1, oL 26 25, oM 27 5, oW 28 zD1_7 [(0, 1, (.t 26)), (1, 1, (.t 27))], oM 2 24, oS 3 3 28])
  .ret)))))
theorem is_r45_readInt : compile Try.prog Try.f57.ntmps (Try.f57.body.getD .skip) = some c_r45_readInt.strip := by kernel_rfl
abbrev F_r45_readCount : Nat := 58
def c_r45_readCount : ACode := (.seq (r0 [oE 1 0, oV 2 (vi 0), oA 3 zD1_7])
  (.seq (r0 [oR 3 7 1, oJ 8 57 [(.t 7)], oM 6 8, oX 9 6 0, oX 10 6 1, oA 5 zD1_7, oM 4 9, oS 3 5 10])
  (.seq (.seq (r0 [oF 2 11 5, oL 12 11, oC .eql 13 12 0, oM 14 13, gT 14 (oM 15 4), gT 14 (oC .lss 16 15 0), oP 17 14 16])
  (.cond (.t 17) (.seq (r0 [oW 18 zD1_7 [(2, 1, (ki 3))], oV 2 (vi 0), oS 3 3 18])
  .ret) .skip))
  (.seq (.seq (r0 [oF 2 19 5, oL 20 19, oC .eql 21 20 0, oM 22 21, gT 22 (oM 23 4), gT 22 (oC .gtr 24 23 8192), oP 25 22 24])
  (.cond (.t 25) (.seq (r0 [oW 26 zD1_7 [(2, 1, (ki 5))], oV 2 (vi 0), oS 3 3 26])
  .ret) .skip))
  (.seq (r1 [oM 27 4, oR 3 28 5, oM 2 27, oS 3 3 28])
  .ret)))))
theorem is_r45_readCount : compile Try.prog Try.f58.ntmps (Try.f58.body.getD .skip) = some c_r45_readCount.strip := by kernel_rfl
abbrev F_r45_readFixture : Nat := 59
def c_r45_readFixtureb0 : ACode := (.seq (.seq (r0 [oM 38 9, oM 39 7, oB .lss 40 38 39, oM 41 40, gT 41 (oF 2 42 8), gT 41 (oL 43 42), gT 41 (oC .eql 44 43 0), oP 45 41 44])
  (.cond (.t 45) .skip (.exit 0)))
  (.seq (.block 1 (.seq (r0 [oR 3 49 8, oJ 50 67 [(.t 49)], oM 48 50, oX 51 48 0, oX 52 48 1, oA 10 zD1_6, oA 11 zD1_7, oS 2 10 51, oS 3 11 52])
  (.seq (r0 [oF 0 53 4, oF 2 54 53, oL 55 54, oR 2 56 10, oY 2 57 1 zD1_6 [(0, 2, (.t 56))], oZ 2 16 58 55 57, oF 0 59 4, oF 2 60 59, oS 1 60 58])
  (r0 [oR 3 61 11, oS 3 8 61]))))
  (r0 [oM 46 9, oC .add 47 46 1, oM 9 47])))
def c_r45_readFixture : ACode := (.seq (r0 [oE 1 0, oA 2 zD1_8, oA 3 zD1_7])
  (.seq (r0 [oA 4 zD1_8])
  (.seq (r0 [oR 3 19 1, oJ 20 55 [(.t 19), (ki 2)], oM 18 20, oX 21 18 0, oX 22 18 1, oA 6 zD1_7, oM 5 21, oS 3 6 22])
  (.seq (r0 [oM 23 5, ⟨(some 24), .iaddr 1 (.t 23) (ki 0), none, []⟩, oL 25 24, oF 0 26 4, oF 0 27 26, oS 1 27 25])
  (.seq (r0 [oM 28 5, ⟨(some 29), .iaddr 1 (.t 28) (ki 1), none, []⟩, oL 30 29, oF 0 31 4, oF 1 32 31, oS 1 32 30])
  (.seq (r0 [oR 3 34 6, oJ 35 58 [(.t 34)], oM 33 35, oX 36 33 0, oX 37 33 1, oA 8 zD1_7, oM 7 36, oS 3 8 37])
  (.seq (.seq (r0 [oV 9 (vi 0)])
  (.block 0 (.loop c_r45_readFixtureb0)))
  (.seq (r0 [oR 3 63 8, oJ 64 55 [(.t 63), (ki 3)], oM 62 64, oX 65 62 0, oX 66 62 1, oA 13 zD1_7, oM 12 65, oS 3 13 66])
  (.seq (r0 [oM 67 12, ⟨(some 68), .iaddr 1 (.t 67) (ki 0), none, []⟩, oL 69 68, oF 3 70 4, oS 1 70 69])
  (.seq (r0 [oM 71 12, ⟨(some 72), .iaddr 1 (.t 71) (ki 1), none, []⟩, oL 73 72, oF 4 74 4, oS 1 74 73])
  (.seq (r0 [oM 75 12, ⟨(some 76), .iaddr 1 (.t 75) (ki 2), none, []⟩, oL 77 76, oF 5 78 4, oS 1 78 77])
  (.seq (r0 [oR 3 80 13, oJ 81 56 [(.t 80)], oM 79 81, oX 82 79 0, oX 83 79 1, oA 15 zD1_7, oM 14 82, oS 3 15 83])
  (.seq (r0 [oM 84 14, oF 6 85 4, oS 1 85 84])
  (.seq (r0 [oR 3 87 15, oJ 88 55 [(.t 87), (ki 3)], oM 86 88, oX 89 86 0, oX 90 86 1, oA 17 zD1_7, oM 16 89, oS 3 17 90])
  (.seq (r0 [oM 91 16, ⟨(some 92), .iaddr 1 (.t 91) (ki 0), none, []⟩, oL 93 92, oF 7 94 4, oS 1 94 93])
  (.seq (r0 [oM 95 16, ⟨(some 96), .iaddr 1 (.t 95) (ki 1), none, []⟩, oL 97 96, oF 8 98 4, oS 1 98 97])
  (.seq (r0 [oM 99 16, ⟨(some 100), .iaddr 1 (.t 99) (ki 2), none, []⟩, oL 101 100, oF 9 102 4, oS 1 102 101])
  (.seq (r1 [oR 10 103 4, oR 3 104 17, ⟨none, .store 10 (.t 2) (.t 103), none, [1]⟩, oS 3 3 104])
  .ret))))))))))))))))))
theorem is_r45_readFixture : compile Try.prog Try.f59.ntmps (Try.f59.body.getD .skip) = some c_r45_readFixture.strip := by kernel_rfl
abbrev F_r12_Equal : Nat := 60
def c_r12_Equal : ACode := (.seq (r0 [oE 2 0, oE 3 1, oV 4 (vb false)])
  (.seq (r0 [oF 0 5 2, oL 6 5, oF 0 7 3, oL 8 7, oB .eql 9 6 8, oM 10 9, gT 10 (oF 1 11 2), gT 10 (oL 12 11), gT 10 (oF 1 13 3), gT 10 (oL 14 13), gT 10 (oB .eql 15 12 14), oP 16 10 15, oM 17 16, gT 17 (oF 2 18 2), gT 17 (oL 19 18), gT 17 (oF 2 20 3), gT 17 (oL 21 20), gT 17 (oJ 22 80 [(.t 19), (.t 21)]), oP 23 17 22, oM 4 23])
  .ret))
theorem is_r12_Equal : compile Try.prog Try.f60.ntmps (Try.f60.body.getD .skip) = some c_r12_Equal.strip := by kernel_rfl
abbrev F_snapshot_decodeAt_Joint_f1 : Nat := 61
def c_snapshot_decodeAt_Joint_f1 : ACode := (.seq (r0 [oL 4 0, oC .neq 5 4 0])
  (.cond (.t 5) (.seq (r0 [oA 3 zD1_1])
  (r0 [oR 24 6 3, oS 24 1 6, oD 1 2 (vi 0)])) .skip))
theorem is_snapshot_decodeAt_Joint_f1 : compile Try.prog Try.f61.ntmps (Try.f61.body.getD .skip) = some c_snapshot_decodeAt_Joint_f1.strip := by kernel_rfl
abbrev F_snapshot_decodeAt_Contact_f1 : Nat := 62
def c_snapshot_decodeAt_Contact_f1 : ACode := (.seq (r0 [oL 4 0, oC .neq 5 4 0])
  (.cond (.t 5) (.seq (r0 [oA 3 zD1_4])
  (r0 [oR 7 6 3, oS 7 1 6, oD 1 2 (vi 0)])) .skip))
theorem is_snapshot_decodeAt_Contact_f1 : compile Try.prog Try.f62.ntmps (Try.f62.body.getD .skip) = some c_snapshot_decodeAt_Contact_f1.strip := by kernel_rfl
abbrev F_snapshot_decoder_key : Nat := 63
def c_snapshot_decoder_key : ACode := (.seq (r0 [oA 2 zD1_0])
  (.seq (r0 [oM 3 0, oJ 4 50 [(.t 3)], oM 5 0, oJ 6 50 [(.t 5)], oM 7 0, oJ 8 50 [(.t 7)], oM 9 0, oJ 10 50 [(.t 9)], oW 11 zD1_0 [(0, 1, (.t 4)), (1, 1, (.t 6)), (2, 1, (.t 8)), (3, 1, (.t 10))], oS 4 2 11])
  .ret))
theorem is_snapshot_decoder_key : compile Try.prog Try.f63.ntmps (Try.f63.body.getD .skip) = some c_snapshot_decoder_key.strip := by kernel_rfl
abbrev F_snapshot_slice_ContactPoint : Nat := 64
def c_snapshot_slice_ContactPointb0 : ACode := (.seq (r0 [oB .lss 11 10 9])
  (.seq (.cond (.t 11) .skip (.exit 0))
  (.seq (.block 1 (r0 [oM 12 6, oM 13 1, ⟨(some 14), .callv (.t 13) [], none, []⟩, oY 6 15 1 zD1_2 [(0, 6, (.t 14))], oZ 6 48 16 12 15, oM 6 16]))
  (r0 [oC .add 17 10 1, oM 10 17]))))
def c_snapshot_slice_ContactPoint : ACode := (.seq (r0 [oV 4 vn])
  (.seq (r0 [oM 7 0, oJ 8 76 [(.t 7)], oM 5 8])
  (.seq (r0 [oV 6 vn])
  (.seq (.seq (r0 [oM 9 5, oV 10 (vi 0)])
  (.block 0 (.loop c_snapshot_slice_ContactPointb0)))
  (.seq (r0 [oM 18 6, oM 4 18])
  .ret)))))
theorem is_snapshot_slice_ContactPoint : compile Try.prog Try.f64.ntmps (Try.f64.body.getD .skip) = some c_snapshot_slice_ContactPoint.strip := by kernel_rfl
abbrev F_snapshot_decoder_contactPoint : Nat := 65
def c_snapshot_decoder_contactPoint : ACode := (.seq (r0 [oA 2 zD1_2])
  (.seq (r0 [oM 3 0, oJ 4 51 [(.t 3)], oM 5 0, oJ 6 50 [(.t 5)], oM 7 0, oJ 8 50 [(.t 7)], oM 9 0, oJ 10 50 [(.t 9)], oM 11 0, oJ 12 50 [(.t 11)], oW 13 zD1_2 [(0, 2, (.t 4)), (2, 1, (.t 6)), (3, 1, (.t 8)), (4, 1, (.t 10)), (5, 1, (.t 12))], oS 6 2 13])
  .ret))
theorem is_snapshot_decoder_contactPoint : compile Try.prog Try.f65.ntmps (Try.f65.body.getD .skip) = some c_snapshot_decoder_contactPoint.strip := by kernel_rfl
abbrev F_r45_readKey : Nat := 66
def c_r45_readKey : ACode := (.seq (r0 [oE 1 0, oA 2 zD1_0, oA 3 zD1_7])
  (.seq (r0 [oR 3 7 1, oJ 8 55 [(.t 7), (ki 4)], oM 6 8, oX 9 6 0, oX 10 6 1, oA 5 zD1_7, oM 4 9, oS 3 5 10])
  (.seq (r1 [oM 11 4, ⟨(some 12), .iaddr 1 (.t 11) (ki 0), none, []⟩, oL 13 12, oM 14 4, ⟨(some 15), .iaddr 1 (.t 14) (ki 1), none, []⟩, oL 16 15, oM 17 4, ⟨(some 18), .iaddr 1 (.t 17) (ki 2), none, []⟩, oL 19 18, oM 20 4, ⟨(some 21), .iaddr 1 (.t 20) (ki 3), none, []⟩, oL 22 21, oW 23 zD1_0 [(0, 1, (.t 13)), (1, 1, (.t 16)), (2, 1, (.t 19)), (3, 1, (.t 22))], oR 3 24 5, ⟨none, .store 4 (.t 2) (.t 23), none, [13]⟩, oS 3 3 24])
  .ret)))
theorem is_r45_readKey : compile Try.prog Try.f66.ntmps (Try.f66.body.getD .skip) = some c_r45_readKey.strip := by kernel_rfl
abbrev F_r45_readVec : Nat := 67
def c_r45_readVec : ACode := (.seq (r0 [oE 1 0, oA 2 zD1_6, oA 3 zD1_7])
  (.seq (r0 [oR 3 9 1, oJ 10 57 [(.t 9)], oM 8 10, oX 11 8 0, oX 12 8 1, oA 5 zD1_7, oM 4 11, oS 3 5 12])
  (.seq (r0 [oR 3 14 5, oJ 15 57 [(.t 14)], oM 13 15, oX 16 13 0, oX 17 13 1, oA 7 zD1_7, oM 6 16, oS 3 7 17])
  (.seq (r1 [oM 18 4, oM 19 6, oW 20 zD1_6 [(0, 1, (.t 18)), (1, 1, (.t 19))], oR 3 21 7, ⟨none, .store 2 (.t 2) (.t 20), none, [3]⟩, oS 3 3 21])
  .ret))))
theorem is_r45_readVec : compile Try.prog Try.f67.ntmps (Try.f67.body.getD .skip) = some c_r45_readVec.strip := by kernel_rfl
abbrev F_codec_AppendInt : Nat := 68
def c_codec_AppendIntb0 : ACode := (.seq (.seq (r0 [oM 10 6, ⟨(some 11), .bin .gtr (.t 10) (.k (.sc (.int .u64 0))), none, []⟩])
  (.cond (.t 11) .skip (.exit 0)))
  (.seq (.block 1 (r0 [oM 14 6, ⟨(some 15), .convI .u8 (.t 14), none, []⟩, oY 1 16 1 [(.int .u8 0)] [(0, 1, (.t 15))], oM 17 5, oZ 1 1 18 16 17, oM 5 18]))
  (r0 [oM 12 6, ⟨(some 13), .bin .shr (.t 12) (.k (.sc (.int .u64 8))), none, []⟩, oM 6 13])))
def c_codec_AppendInt : ACode := (.seq (r0 [oV 4 vn])
  (.seq (r0 [oV 5 vn])
  (.seq (.seq (r0 [oM 8 1, oJ 9 81 [(.t 8)], oM 6 9])
  (.block 0 (.loop c_codec_AppendIntb0)))
  (.seq (r0 [oM 19 5, oN 20 19, oM 7 20])
  (.seq (.seq (r0 [oM 21 1, oC .lss 22 21 0])
  (.cond (.t 22) (r0 [oM 23 7, oC .add 24 23 16, oM 7 24]) .skip))
  (.seq (r0 [oM 25 0, oM 26 7, ⟨(some 27), .convI .u8 (.t 26), none, []⟩, oY 1 28 1 [(.int .u8 0)] [(0, 1, (.t 27))], oJ 29 82 [(.t 25), (.t 28)], oM 30 5, oJ 31 82 [(.t 29), (.t 30)], oM 4 31])
  .ret))))))
theorem is_codec_AppendInt : compile Try.prog Try.f68.ntmps (Try.f68.body.getD .skip) = some c_codec_AppendInt.strip := by kernel_rfl
abbrev F_codec_AppendVec : Nat := 69
def c_codec_AppendVec : ACode := (.seq (r0 [oE 3 1, oV 4 vn])
  (.seq (r1 [oM 5 0, oF 0 6 3, oL 7 6, oJ 8 68 [(.t 5), (.t 7)], oF 1 9 3, ⟨(some 10), .load none (.t 9), none, [3]⟩, oJ 11 68 [(.t 8), (.t 10)], oM 4 11])
  .ret))
theorem is_codec_AppendVec : compile Try.prog Try.f69.ntmps (Try.f69.body.getD .skip) = some c_codec_AppendVec.strip := by kernel_rfl
abbrev F_codec_ReadInt : Nat := 72
def c_codec_ReadIntb0 : ACode := (.seq (r0 [oB .lss 47 46 45])
  (.seq (.cond (.t 47) .skip (.exit 0))
  (.seq (.block 1 (.seq (r0 [oI 1 48 44 46, oL 49 48, oM 14 49])
  (r0 [oM 50 12, ⟨(some 51), .bin .shl (.t 50) (.k (.sc (.int .u64 8))), none, []⟩, oM 52 14, ⟨(some 53), .convI .u64 (.t 52), none, []⟩, oB .or 54 51 53, oM 12 54])))
  (r0 [oC .add 55 46 1, oM 46 55]))))
def c_codec_ReadInt : ACode := (.seq (r0 [oV 4 (vi 0), oV 5 (vi 0), oV 6 (vi 0)])
  (.seq (r0 [oM 17 0, oM 18 1, oJ 19 83 [(.t 17), (.t 18)], oM 16 19, oX 20 16 0, oX 21 16 1, oM 7 20, oM 8 21])
  (.seq (.seq (r0 [oM 22 8, oC .neq 23 22 0])
  (.cond (.t 23) (.seq (r0 [oM 24 8, oV 4 (vi 0), oV 5 (vi 0), oM 6 24])
  .ret) .skip))
  (.seq (r0 [oM 25 7, ⟨(some 26), .convI .i64 (.t 25), none, []⟩, oM 27 7, ⟨(some 28), .bin .gtr (.t 27) (.k (.sc (.int .u8 16))), none, []⟩, oM 9 26, oM 10 28])
  (.seq (.seq (r0 [oM 29 10])
  (.cond (.t 29) (r0 [oM 30 9, oC .sub 31 30 16, oM 9 31]) .skip))
  (.seq (.seq (r0 [oM 32 9, oC .gtr 33 32 8])
  (.cond (.t 33) (.seq (r0 [oV 4 (vi 0), oV 5 (vi 0), oV 6 (vi 3)])
  .ret) .skip))
  (.seq (r0 [oM 34 0, oM 35 1, oC .add 36 35 1, ⟨(some 37), .slice 1 (.t 34) (some (.t 36)) none none, none, []⟩, oM 11 37])
  (.seq (.seq (r0 [oM 38 11, oN 39 38, oM 40 9, oB .lss 41 39 40])
  (.cond (.t 41) (.seq (r0 [oV 4 (vi 0), oV 5 (vi 0), oV 6 (vi 4)])
  .ret) .skip))
  (.seq (r0 [oV 12 (.sc (.int .u64 0))])
  (.seq (.seq (r0 [oM 42 11, oM 43 9, ⟨(some 44), .slice 1 (.t 42) none (some (.t 43)) none, none, []⟩, oN 45 44, oV 46 (vi 0)])
  (.block 0 (.loop c_codec_ReadIntb0)))
  (.seq (r0 [oM 56 12, ⟨(some 57), .convI .i64 (.t 56), none, []⟩, oM 15 57])
  (.seq (.seq (r0 [oM 58 10])
  (.cond (.t 58) (r0 [oM 59 15, ⟨(some 60), .un .neg (.t 59), none, []⟩, oM 15 60]) .skip))
  (.seq (.seq (r0 [oM 61 9, oC .gtr 62 61 0, oM 63 62, gT 63 (oM 64 11), ⟨(some 65), .iaddr 1 (.t 64) (ki 0), (some (63, true)), []⟩, gT 63 (oL 66 65), ⟨(some 67), .bin .eql (.t 66) (.k (.sc (.int .u8 0))), (some (63, true)), []⟩, oP 68 63 67, oM 69 68, gF 69 (oM 70 15), gF 69 (oJ 71 81 [(.t 70)]), gF 69 (oM 72 12), gF 69 (oB .neq 73 71 72), oQ 74 69 73, oM 75 74, gF 75 (oM 76 15), gF 75 (oC .lss 77 76 0), gF 75 (oM 78 10), ⟨(some 79), .eqb true (.t 77) (.t 78), (some (75, false)), []⟩, oQ 80 75 79])
  (.cond (.t 80) (.seq (r0 [oV 4 (vi 0), oV 5 (vi 0), oV 6 (vi 3)])
  .ret) .skip))
  (.seq (r0 [oM 81 15, oM 82 1, oC .add 83 82 1, oM 84 9, oB .add 85 83 84, oM 4 81, oM 5 85, oV 6 (vi 0)])
  .ret))))))))))))))
theorem is_codec_ReadInt : compile Try.prog Try.f72.ntmps (Try.f72.body.getD .skip) = some c_codec_ReadInt.strip := by kernel_rfl
abbrev F_snapshot_decoder_advance : Nat := 73
abbrev F_codec_ReadVec : Nat := 74
def c_codec_ReadVec : ACode := (.seq (r0 [oA 4 zD1_6, oV 5 (vi 0), oV 6 (vi 0)])
  (.seq (r0 [oM 11 0, oM 12 1, oJ 13 72 [(.t 11), (.t 12)], oM 10 13, oX 14 10 0, oX 15 10 1, oX 16 10 2, oM 7 14, oM 1 15, oM 8 16])
  (.seq (.seq (r0 [oM 17 8, oC .neq 18 17 0])
  (.cond (.t 18) (.seq (r0 [oW 19 zD1_6 [], oM 20 8, oS 2 4 19, oV 5 (vi 0), oM 6 20])
  .ret) .skip))
  (.seq (r0 [oM 22 0, oM 23 1, oJ 24 72 [(.t 22), (.t 23)], oM 21 24, oX 25 21 0, oX 26 21 1, oX 27 21 2, oM 9 25, oM 1 26, oM 8 27])
  (.seq (.seq (r0 [oM 28 8, oC .neq 29 28 0])
  (.cond (.t 29) (.seq (r0 [oW 30 zD1_6 [], oM 31 8, oS 2 4 30, oV 5 (vi 0), oM 6 31])
  .ret) .skip))
  (.seq (r0 [oM 32 7, oM 33 9, oW 34 zD1_6 [(0, 1, (.t 32)), (1, 1, (.t 33))], oM 35 1, oS 2 4 34, oM 5 35, oV 6 (vi 0)])
  .ret))))))
theorem is_codec_ReadVec : compile Try.prog Try.f74.ntmps (Try.f74.body.getD .skip) = some c_codec_ReadVec.strip := by kernel_rfl
abbrev F_codec_ReadBool : Nat := 75
def c_codec_ReadBool : ACode := (.seq (r0 [oV 4 (vb false), oV 5 (vi 0), oV 6 (vi 0)])
  (.seq (r0 [oM 10 0, oM 11 1, oJ 12 83 [(.t 10), (.t 11)], oM 9 12, oX 13 9 0, oX 14 9 1, oM 7 13, oM 8 14])
  (.seq (.block 0 (.seq (r0 [oM 16 8, oC .neq 17 16 0, oM 15 17])
  (.cond (.t 15) (.seq (r0 [oM 18 8, oV 4 (vb false), oV 5 (vi 0), oM 6 18])
  .ret) (.seq (r0 [oM 20 7, ⟨(some 21), .bin .gtr (.t 20) (.k (.sc (.int .u8 1))), none, []⟩, oM 19 21])
  (.cond (.t 19) (.seq (r0 [oV 4 (vb false), oV 5 (vi 0), oV 6 (vi 3)])
  .ret) .skip)))))
  (.seq (r0 [oM 22 7, ⟨(some 23), .bin .eql (.t 22) (.k (.sc (.int .u8 1))), none, []⟩, oM 24 1, oC .add 25 24 1, oM 4 23, oM 5 25, oV 6 (vi 0)])
  .ret))))
theorem is_codec_ReadBool : compile Try.prog Try.f75.ntmps (Try.f75.body.getD .skip) = some c_codec_ReadBool.strip := by kernel_rfl
abbrev F_snapshot_decoder_length : Nat := 76
abbrev F_snapshot_slice_Vec : Nat := 77
def c_snapshot_slice_Vecb0 : ACode := (.seq (r0 [oB .lss 11 10 9])
  (.seq (.cond (.t 11) .skip (.exit 0))
  (.seq (.block 1 (r0 [oM 12 6, oM 13 1, ⟨(some 14), .callv (.t 13) [], none, []⟩, oY 2 15 1 zD1_6 [(0, 2, (.t 14))], oZ 2 16 16 12 15, oM 6 16]))
  (r0 [oC .add 17 10 1, oM 10 17]))))
def c_snapshot_slice_Vec : ACode := (.seq (r0 [oV 4 vn])
  (.seq (r0 [oM 7 0, oJ 8 76 [(.t 7)], oM 5 8])
  (.seq (r0 [oV 6 vn])
  (.seq (.seq (r0 [oM 9 5, oV 10 (vi 0)])
  (.block 0 (.loop c_snapshot_slice_Vecb0)))
  (.seq (r0 [oM 18 6, oM 4 18])
  .ret)))))
theorem is_snapshot_slice_Vec : compile Try.prog Try.f77.ntmps (Try.f77.body.getD .skip) = some c_snapshot_slice_Vec.strip := by kernel_rfl
abbrev F_r07_ReadBool : Nat := 78
def c_r07_ReadBool : ACode := (.seq (r0 [oV 4 (vb false), oV 5 (vi 0), oV 6 (vi 0)])
  (.seq (.seq (r0 [oM 7 1, oC .lss 8 7 0, oM 9 8, gF 9 (oM 10 1), gF 9 (oM 11 0), gF 9 (oN 12 11), gF 9 (oB .gtr 13 10 12), oQ 14 9 13])
  (.cond (.t 14) (.seq (r0 [oV 4 (vb false), oV 5 (vi 0), oV 6 (vi 2)])
  .ret) .skip))
  (.seq (.seq (r0 [oM 15 1, oM 16 0, oN 17 16, oB .eql 18 15 17])
  (.cond (.t 18) (.seq (r0 [oV 4 (vb false), oV 5 (vi 0), oV 6 (vi 4)])
  .ret) .skip))
  (.seq (.seq (r0 [oM 19 0, oM 20 1, oI 1 21 19 20, oL 22 21, ⟨(some 23), .bin .gtr (.t 22) (.k (.sc (.int .u8 1))), none, []⟩])
  (.cond (.t 23) (.seq (r0 [oV 4 (vb false), oV 5 (vi 0), oV 6 (vi 3)])
  .ret) .skip))
  (.seq (r0 [oM 24 0, oM 25 1, oI 1 26 24 25, oL 27 26, ⟨(some 28), .bin .eql (.t 27) (.k (.sc (.int .u8 1))), none, []⟩, oM 29 1, oC .add 30 29 1, oM 4 28, oM 5 30, oV 6 (vi 0)])
  .ret)))))
theorem is_r07_ReadBool : compile Try.prog Try.f78.ntmps (Try.f78.body.getD .skip) = some c_r07_ReadBool.strip := by kernel_rfl
abbrev F_r07_ReadInt : Nat := 79
def c_r07_ReadIntb0 : ACode := (.seq (.seq (r0 [oM 53 10, oM 54 7, oB .leq 55 53 54])
  (.cond (.t 55) .skip (.exit 0)))
  (.seq (.block 1 (r0 [oM 58 9, ⟨(some 59), .bin .mul (.t 58) (.k (.sc (.int .u64 256))), none, []⟩, oM 60 0, oM 61 1, oM 62 10, oB .add 63 61 62, oI 1 64 60 63, oL 65 64, ⟨(some 66), .convI .u64 (.t 65), none, []⟩, oB .add 67 59 66, oM 9 67]))
  (r0 [oM 56 10, oC .add 57 56 1, oM 10 57])))
def c_r07_ReadInt : ACode := (.seq (r0 [oV 4 (vi 0), oV 5 (vi 0), oV 6 (vi 0)])
  (.seq (.seq (r0 [oM 11 1, oC .lss 12 11 0, oM 13 12, gF 13 (oM 14 1), gF 13 (oM 15 0), gF 13 (oN 16 15), gF 13 (oB .gtr 17 14 16), oQ 18 13 17])
  (.cond (.t 18) (.seq (r0 [oV 4 (vi 0), oV 5 (vi 0), oV 6 (vi 2)])
  .ret) .skip))
  (.seq (.seq (r0 [oM 19 1, oM 20 0, oN 21 20, oB .eql 22 19 21])
  (.cond (.t 22) (.seq (r0 [oV 4 (vi 0), oV 5 (vi 0), oV 6 (vi 4)])
  .ret) .skip))
  (.seq (r0 [oM 23 0, oM 24 1, oI 1 25 23 24, oL 26 25, ⟨(some 27), .convI .i64 (.t 26), none, []⟩, oM 7 27])
  (.seq (r0 [oM 28 7, oC .geq 29 28 16, oM 8 29])
  (.seq (.seq (r0 [oM 30 8])
  (.cond (.t 30) (r0 [oM 31 7, oC .sub 32 31 16, oM 7 32]) .skip))
  (.seq (.seq (r0 [oM 33 7, oC .gtr 34 33 8, oM 35 34, gF 35 (oM 36 7), gF 35 (oC .lss 37 36 0), oQ 38 35 37, oM 39 38, gF 39 (oM 40 8), gF 39 (oM 41 40), gT 41 (oM 42 7), gT 41 (oC .eql 43 42 0), gF 39 (oP 44 41 43), oQ 45 39 44])
  (.cond (.t 45) (.seq (r0 [oV 4 (vi 0), oV 5 (vi 0), oV 6 (vi 3)])
  .ret) .skip))
  (.seq (.seq (r0 [oM 46 0, oN 47 46, oM 48 1, oB .sub 49 47 48, oC .sub 50 49 1, oM 51 7, oB .lss 52 50 51])
  (.cond (.t 52) (.seq (r0 [oV 4 (vi 0), oV 5 (vi 0), oV 6 (vi 4)])
  .ret) .skip))
  (.seq (r0 [oV 9 (.sc (.int .u64 0))])
  (.seq (.seq (r0 [oV 10 (vi 1)])
  (.block 0 (.loop c_r07_ReadIntb0)))
  (.seq (.seq (r0 [oM 68 7, oC .gtr 69 68 0, oM 70 69, gT 70 (oM 71 0), gT 70 (oM 72 1), gT 70 (oC .add 73 72 1), gT 70 (oI 1 74 71 73), gT 70 (oL 75 74), ⟨(some 76), .bin .eql (.t 75) (.k (.sc (.int .u8 0))), (some (70, true)), []⟩, oP 77 70 76, oM 78 77, gF 78 (oM 79 8), gF 78 (oU 80 79), gF 78 (oM 81 80), gT 81 (oM 82 9), ⟨(some 83), .bin .gtr (.t 82) (.k (.sc (.int .u64 9223372036854775807))), (some (81, true)), []⟩, gF 78 (oP 84 81 83), oQ 85 78 84, oM 86 85, gF 86 (oM 87 8), gF 86 (oM 88 87), gT 88 (oM 89 9), ⟨(some 90), .bin .gtr (.t 89) (.k (.sc (.int .u64 9223372036854775808))), (some (88, true)), []⟩, gF 86 (oP 91 88 90), oQ 92 86 91])
  (.cond (.t 92) (.seq (r0 [oV 4 (vi 0), oV 5 (vi 0), oV 6 (vi 3)])
  .ret) .skip))
  (.seq (.seq (r0 [oM 93 8])
  (.cond (.t 93) (.seq (r0 [oM 94 9, ⟨(some 95), .bin .sub (.t 94) (.k (.sc (.int .u64 1))), none, []⟩, ⟨(some 96), .convI .i64 (.t 95), none, []⟩, ⟨(some 97), .un .neg (.t 96), none, []⟩, oC .sub 98 97 1, oM 99 1, oC .add 100 99 1, oM 101 7, oB .add 102 100 101, oM 4 98, oM 5 102, oV 6 (vi 0)])
  .ret) .skip))
  (.seq (r0 [oM 103 9, ⟨(some 104), .convI .i64 (.t 103), none, []⟩, oM 105 1, oC .add 106 105 1, oM 107 7, oB .add 108 106 107, oM 4 104, oM 5 108, oV 6 (vi 0)])
  .ret)))))))))))))
theorem is_r07_ReadInt : compile Try.prog Try.f79.ntmps (Try.f79.body.getD .skip) = some c_r07_ReadInt.strip := by kernel_rfl
abbrev F_r12_EqualVecs : Nat := 80
def c_r12_EqualVecsb0 : ACode := (.seq (.seq (r0 [oM 11 5, oM 12 0, oN 13 12, oB .lss 14 11 13])
  (.cond (.t 14) .skip (.exit 0)))
  (.seq (.block 1 (.seq (r1 [oM 17 0, oM 18 5, oI 2 19 17 18, oR 2 20 19, oM 21 1, oM 22 5, oI 2 23 21 22, oR 2 24 23, ⟨(some 25), .eqa [true, true] true (.t 20) (.t 24), none, []⟩])
  (.cond (.t 25) (.seq (r0 [oV 4 (vb false)])
  .ret) .skip)))
  (r0 [oM 15 5, oC .add 16 15 1, oM 5 16])))
def c_r12_EqualVecs : ACode := (.seq (r0 [oV 4 (vb false)])
  (.seq (.seq (r0 [oM 6 0, oN 7 6, oM 8 1, oN 9 8, oB .neq 10 7 9])
  (.cond (.t 10) (.seq (r0 [oV 4 (vb false)])
  .ret) .skip))
  (.seq (.seq (r0 [oV 5 (vi 0)])
  (.block 0 (.loop c_r12_EqualVecsb0)))
  (.seq (r0 [oV 4 (vb true)])
  .ret))))
theorem is_r12_EqualVecs : compile Try.prog Try.f80.ntmps (Try.f80.body.getD .skip) = some c_r12_EqualVecs.strip := by kernel_rfl
abbrev F_codec_magnitude : Nat := 81
def c_codec_magnitude : ACode := (.seq (r0 [oV 2 (.sc (.int .u64 0))])
  (.seq (.seq (r0 [oM 3 0, oC .lss 4 3 0])
  (.cond (.t 4) (.seq (r0 [oM 5 0, ⟨(some 6), .convI .u64 (.t 5), none, []⟩, ⟨(some 7), .un .neg (.t 6), none, []⟩, oM 2 7])
  .ret) .skip))
  (.seq (r0 [oM 8 0, ⟨(some 9), .convI .u64 (.t 8), none, []⟩, oM 2 9])
  .ret)))
theorem is_codec_magnitude : compile Try.prog Try.f81.ntmps (Try.f81.body.getD .skip) = some c_codec_magnitude.strip := by kernel_rfl
abbrev F_codec_extend : Nat := 82
def c_codec_extend : ACode := (.seq (r0 [oV 4 vn])
  (.seq (r0 [oM 5 0, oM 6 0, oN 7 6, oM 8 0, oN 9 8, ⟨(some 10), .slice 1 (.t 5) none (some (.t 7)) (some (.t 9)), none, []⟩, oM 11 1, oZ 1 1 12 10 11, oM 4 12])
  .ret))
theorem is_codec_extend : compile Try.prog Try.f82.ntmps (Try.f82.body.getD .skip) = some c_codec_extend.strip := by kernel_rfl
abbrev F_codec_readByte : Nat := 83
def c_codec_readByte : ACode := (.seq (r0 [oV 4 (.sc (.int .u8 0)), oV 5 (vi 0)])
  (.seq (.block 0 (.seq (r0 [oM 7 1, oC .lss 8 7 0, oM 9 8, gF 9 (oM 10 1), gF 9 (oM 11 0), gF 9 (oN 12 11), gF 9 (oB .gtr 13 10 12), oQ 14 9 13, oM 6 14])
  (.cond (.t 6) (.seq (r0 [oV 4 (.sc (.int .u8 0)), oV 5 (vi 2)])
  .ret) (.seq (r0 [oM 16 1, oM 17 0, oN 18 17, oB .eql 19 16 18, oM 15 19])
  (.cond (.t 15) (.seq (r0 [oV 4 (.sc (.int .u8 0)), oV 5 (vi 4)])
  .ret) .skip)))))
  (.seq (r0 [oM 20 0, oM 21 1, oI 1 22 20 21, oL 23 22, oM 4 23, oV 5 (vi 0)])
  .ret)))
theorem is_codec_readByte : compile Try.prog Try.f83.ntmps (Try.f83.body.getD .skip) = some c_codec_readByte.strip := by kernel_rfl
end Go.Abs
