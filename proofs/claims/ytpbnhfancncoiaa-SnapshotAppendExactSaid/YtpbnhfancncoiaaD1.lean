/- A part of the walk: contracts of functions that the statement reaches. -/
import Derived.Test.YtpbnhfancncoiaaAbsD
import Derived.KernelRfl
import Derived.Eval
import Derived.Test.YtpbnhfancncoiaaChecked
set_option linter.unusedSimpArgs false
set_option linter.unusedVariables false
set_option linter.unnecessarySimpa false
set_option maxRecDepth 100000
set_option maxHeartbeats 2000000
set_option linter.unusedSimpArgs false
set_option linter.unusedVariables false
namespace Go.Abs
open Go.Proofs
abbrev zD1_0 : List Value := [(.int .i64 0), (.int .i64 0), (.int .i64 0), (.int .i64 0)]
abbrev zD1_1 : List Value := [(.int .i64 0), (.int .i64 0), (.int .i64 0), (.int .i64 0), (.int .i64 0), (.int .i64 0), (.int .i64 0), (.int .i64 0), (.int .i64 0), (.int .i64 0), (.int .i64 0), (.bool false), (.int .i64 0), (.int .i64 0), (.bool false), (.int .i64 0), (.int .i64 0), (.int .i64 0), (.int .i64 0), (.bool false), (.int .i64 0), (.int .i64 0), (.int .i64 0), (.int .i64 0)]
abbrev zD1_2 : List Value := [(.int .i64 0), (.int .i64 0), (.int .i64 0), (.int .i64 0), (.int .i64 0), (.int .i64 0)]
abbrev zD1_3 : List Value := [(.int .i64 0), (.int .i64 0), (.slice none 0 0)]
abbrev zD1_4 : List Value := [(.int .i64 0), (.int .i64 0), (.int .i64 0), (.int .i64 0), (.int .i64 0), (.int .i64 0), (.slice none 0 0)]
abbrev zD1_6 : List Value := [(.int .i64 0), (.int .i64 0)]
abbrev zD1_8 : List Value := [(.int .i64 0), (.int .i64 0), (.slice none 0 0), (.int .i64 0), (.int .i64 0), (.int .i64 0), (.bool false), (.int .i64 0), (.int .i64 0), (.int .i64 0)]
abbrev zD1_9 : List Value := [(.bool false), (.bool false), (.bool false), (.bool false)]
abbrev zD1_10 : List Value := [(.int .i64 0), (.int .i64 0), (.int .i64 0)]
attribute [go_sem] zD1_0 zD1_1 zD1_2 zD1_3 zD1_4 zD1_6 zD1_8 zD1_9 zD1_10
theorem hm : Try.prog.follows .mixedOrders = true := Try.checked.mixed
abbrev F_law45_SnapshotAppendExact : Nat := 3
def c_law45_SnapshotAppendExact : ACode := (.seq (r0 [oE 4 1, oE 5 2, oV 6 (vb false)])
  (.seq (.seq (r0 [oM 9 0, oN 10 9, oC .gtr 11 10 200, oM 12 11, gF 12 (oR 20 13 4), gF 12 (oR 20 14 4), gF 12 (oJ 15 5 [(.t 13), (.t 14)]), gF 12 (oU 16 15), oQ 17 12 16])
  (.cond (.t 17) (.seq (r0 [oJ 18 6 [], oM 6 18])
  .ret) .skip))
  (.seq (r0 [⟨(some 19), .aaddr 2 1 (.t 5) (ki 0), none, []⟩, oL 20 19, ⟨(some 21), .aaddr 2 1 (.t 5) (ki 1), none, []⟩, oL 22 21, oF 0 23 4, oL 24 23, oF 18 25 4, oL 26 25, oF 5 27 4, oR 2 28 27, oF 8 29 4, oR 2 30 29, oF 2 31 4, oF 0 32 31, oR 2 33 32, oF 2 34 4, oF 2 35 34, oL 36 35, oF 14 37 4, oL 38 37, oF 11 39 4, oL 40 39, oF 12 41 4, oL 42 41, oF 15 43 4, oL 44 43, oF 7 45 4, oL 46 45, oF 10 47 4, oL 48 47, oF 13 49 4, oL 50 49, ⟨(some 51), .aaddr 2 1 (.t 5) (ki 0), none, []⟩, oL 52 51, oF 16 53 4, oL 54 53, oF 7 55 4, oL 56 55, oF 13 57 4, oL 58 57, ⟨(some 59), .aaddr 2 1 (.t 5) (ki 0), none, []⟩, oL 60 59, ⟨(some 61), .aaddr 2 1 (.t 5) (ki 1), none, []⟩, oL 62 61, oW 63 zD1_0 [(0, 1, (.t 56)), (1, 1, (.t 58)), (2, 1, (.t 60)), (3, 1, (.t 62))], oW 64 zD1_1 [(0, 1, (.t 20)), (1, 1, (.t 22)), (2, 1, (.t 24)), (3, 1, (.t 26)), (4, 2, (.t 28)), (6, 2, (.t 30)), (8, 2, (.t 33)), (10, 1, (.t 36)), (11, 1, (.t 38)), (12, 1, (.t 40)), (13, 1, (.t 42)), (14, 1, (.t 44)), (15, 1, (.t 46)), (16, 1, (.t 48)), (17, 1, (.t 50)), (18, 1, (.t 52)), (19, 1, (.t 54)), (20, 4, (.t 63))], oA 7 zD1_1, oS 24 7 64])
  (.seq (r0 [⟨(some 65), .aaddr 2 1 (.t 5) (ki 0), none, []⟩, oL 66 65, ⟨(some 67), .aaddr 2 1 (.t 5) (ki 1), none, []⟩, oL 68 67, oF 0 69 4, oL 70 69, oF 18 71 4, oL 72 71, oW 73 zD1_0 [(0, 1, (.t 66)), (1, 1, (.t 68)), (2, 1, (.t 70)), (3, 1, (.t 72))], oF 5 74 4, oR 2 75 74, oF 2 76 4, oF 0 77 76, oR 2 78 77, oF 7 79 4, oL 80 79, ⟨(some 81), .aaddr 2 1 (.t 5) (ki 0), none, []⟩, oL 82 81, ⟨(some 83), .aaddr 2 1 (.t 5) (ki 1), none, []⟩, oL 84 83, oF 13 85 4, oL 86 85, oW 87 zD1_2 [(0, 2, (.t 78)), (2, 1, (.t 80)), (3, 1, (.t 82)), (4, 1, (.t 84)), (5, 1, (.t 86))], oY 6 88 1 zD1_2 [(0, 6, (.t 87))], oW 89 zD1_3 [(0, 2, (.t 75)), (2, 1, (.t 88))], oW 90 zD1_4 [(0, 4, (.t 73)), (4, 3, (.t 89))], oA 8 zD1_4, oS 7 8 90])
  (.seq (r1 [oM 91 0, oR 20 92 4, oJ 93 7 [(.t 91), (.t 92)], ⟨(some 94), .bstr (.t 93), none, []⟩, oM 95 0, ⟨(some 96), .load (some 20) (.t 4), none, [2]⟩, ⟨(some 97), .call 8 [(.t 95), (.t 96)], none, [3]⟩, ⟨(some 98), .bstr (.t 97), none, []⟩, ⟨(some 99), .eqs false (.t 94) (.t 98), none, []⟩, oM 100 99, gT 100 (oM 101 0), gT 100 (oR 24 102 7), gT 100 (oJ 103 9 [(.t 101), (.t 102)]), ⟨(some 104), .bstr (.t 103), (some (100, true)), []⟩, gT 100 (oM 105 0), ⟨(some 106), .load (some 24) (.t 7), (some (100, true)), [12]⟩, ⟨(some 107), .call 10 [(.t 105), (.t 106)], (some (100, true)), [13]⟩, ⟨(some 108), .bstr (.t 107), (some (100, true)), []⟩, ⟨(some 109), .eqs false (.t 104) (.t 108), (some (100, true)), []⟩, oP 110 100 109, oM 111 110, gT 111 (oM 112 0), gT 111 (oR 7 113 8), gT 111 (oJ 114 11 [(.t 112), (.t 113)]), ⟨(some 115), .bstr (.t 114), (some (111, true)), []⟩, gT 111 (oM 116 0), ⟨(some 117), .load (some 7) (.t 8), (some (111, true)), [23]⟩, ⟨(some 118), .call 12 [(.t 116), (.t 117)], (some (111, true)), [24]⟩, ⟨(some 119), .bstr (.t 118), (some (111, true)), []⟩, ⟨(some 120), .eqs false (.t 115) (.t 119), (some (111, true)), []⟩, oP 121 111 120, oM 122 121, gT 122 (oJ 123 6 []), oP 124 122 123, oM 6 124])
  .ret)))))
theorem is_law45_SnapshotAppendExact : compile Try.prog Try.f3.ntmps (Try.f3.body.getD .skip) = some c_law45_SnapshotAppendExact.strip := by kernel_rfl
abbrev F_r30_IsSmall : Nat := 5
def c_r30_IsSmall : ACode := (.seq (r0 [oE 2 0, oE 3 1, oV 4 (vb false)])
  (.seq (r0 [oR 20 5 2, oJ 6 21 [(.t 5)], oM 7 6, gT 7 (oR 20 8 3), gT 7 (oJ 9 21 [(.t 8)]), oP 10 7 9, oM 4 10])
  .ret))
theorem is_r30_IsSmall : compile Try.prog Try.f5.ntmps (Try.f5.body.getD .skip) = some c_r30_IsSmall.strip := by kernel_rfl
abbrev F_law45_example : Nat := 6
def c_law45_example : ACode := (.seq (r0 [oV 0 (vb false)])
  (.seq (r0 [oY 1 5 1 [(.int .u8 0)] [(0, 1, (.k (.sc (.int .u8 9))))], oW 6 zD1_0 [(0, 1, (ki 1)), (2, 1, (ki 2))], oW 7 zD1_4 [(0, 4, (.t 6))], oJ 8 11 [(.t 5), (.t 7)], oM 1 8])
  (.seq (r0 [oM 10 1, oJ 11 18 [(.t 10), (ki 1)], oM 9 11, oX 12 9 0, oX 13 9 1, oX 14 9 2, oA 2 zD1_4, oS 7 2 12, oM 3 13, oM 4 14])
  (.seq (r0 [oM 15 1, oN 16 15, oC .gtr 17 16 6, oM 18 17, gT 18 (oM 19 1), ⟨(some 20), .slice 1 (.t 19) none (some (ki 7)) none, (some (18, true)), []⟩, ⟨(some 21), .bstr (.t 20), (some (18, true)), []⟩, ⟨(some 22), .eqs false (.t 21) (.k (.sc (.string ⟨#[9, 1, 1, 0, 1, 2, 0]⟩))), (some (18, true)), []⟩, oP 23 18 22, oM 24 23, gT 24 (oF 0 25 2), gT 24 (oR 4 26 25), gT 24 (oW 27 zD1_0 [(0, 1, (ki 1)), (2, 1, (ki 2))]), ⟨(some 28), .eqa [true, true, true, true] false (.t 26) (.t 27), (some (24, true)), []⟩, oP 29 24 28, oM 30 29, gT 30 (oM 31 3), gT 30 (oM 32 1), gT 30 (oN 33 32), gT 30 (oB .eql 34 31 33), oP 35 30 34, oM 36 35, gT 36 (oM 37 4), gT 36 (oC .eql 38 37 0), oP 39 36 38, oM 0 39])
  .ret))))
theorem is_law45_example : compile Try.prog Try.f6.ntmps (Try.f6.body.getD .skip) = some c_law45_example.strip := by kernel_rfl
abbrev F_snapshot_AppendBody : Nat := 7
def c_snapshot_AppendBody : ACode := (.seq (r0 [oE 3 1, oV 4 vn])
  (.seq (r0 [oM 6 0, oJ 7 22 [(.t 6)], oM 5 7])
  (.seq (r0 [oM 8 5, oR 20 9 3, oJ 10 23 [(.t 8), (.t 9)]])
  (.seq (r0 [oM 11 5, ⟨(some 12), .nilck (.t 11), none, []⟩, oF 0 13 12, oL 14 13, oM 4 14])
  .ret))))
theorem is_snapshot_AppendBody : compile Try.prog Try.f7.ntmps (Try.f7.body.getD .skip) = some c_snapshot_AppendBody.strip := by kernel_rfl
abbrev F_r45_AppendBody : Nat := 8
def c_r45_AppendBodyb0 : ACode := (.seq (.seq (r0 [oM 70 5, oF 19 71 3, oL 72 71, oN 73 72, oB .lss 74 70 73])
  (.cond (.t 74) .skip (.exit 0)))
  (.seq (.block 1 (r0 [oM 77 0, oF 19 78 3, oL 79 78, oM 80 5, oI 10 81 79 80, oR 10 82 81, oJ 83 27 [(.t 77), (.t 82)], oM 0 83]))
  (r0 [oM 75 5, oC .add 76 75 1, oM 5 76])))
def c_r45_AppendBody : ACode := (.seq (r0 [oE 3 1, oV 4 vn])
  (.seq (r0 [oY 1 6 0 [] [], oM 7 0, oZ 1 1 8 6 7, oM 0 8])
  (.seq (r0 [oM 9 0, oF 0 10 3, oL 11 10, oF 1 12 3, oL 13 12, oY 1 14 2 zD1_6 [(0, 1, (.t 11)), (1, 1, (.t 13))], oJ 15 24 [(.t 9), (.t 14)], oM 0 15])
  (.seq (r1 [oM 16 0, oF 2 17 3, oF 0 18 17, oR 2 19 18, oJ 20 25 [(.t 16), (.t 19)], oF 2 21 3, oF 2 22 21, ⟨(some 23), .load none (.t 22), none, [4]⟩, ⟨(some 24), .bslice 1 1 [(.int .i64 0)] [(0, 1, (.t 23))], none, [3, 4]⟩, oJ 25 24 [(.t 20), (.t 24)], oM 0 25])
  (.seq (r1 [oM 26 0, oF 5 27 3, oR 2 28 27, oJ 29 25 [(.t 26), (.t 28)], oF 7 30 3, ⟨(some 31), .load none (.t 30), none, [3]⟩, ⟨(some 32), .bslice 1 1 [(.int .i64 0)] [(0, 1, (.t 31))], none, [2, 3]⟩, oJ 33 24 [(.t 29), (.t 32)], oM 0 33])
  (.seq (r1 [oM 34 0, oF 8 35 3, oR 2 36 35, oJ 37 25 [(.t 34), (.t 36)], oF 10 38 3, ⟨(some 39), .load none (.t 38), none, [3]⟩, oF 11 40 3, ⟨(some 41), .load none (.t 40), none, [3]⟩, oF 12 42 3, ⟨(some 43), .load none (.t 42), none, [3]⟩, oF 13 44 3, ⟨(some 45), .load none (.t 44), none, [3]⟩, ⟨(some 46), .bslice 1 4 zD1_0 [(0, 1, (.t 39)), (1, 1, (.t 41)), (2, 1, (.t 43)), (3, 1, (.t 45))], none, [2, 3]⟩, oJ 47 24 [(.t 37), (.t 46)], oM 0 47])
  (.seq (r1 [oM 48 0, oF 14 49 3, oL 50 49, oJ 51 26 [(.t 48), (.t 50)], oF 15 52 3, ⟨(some 53), .load none (.t 52), none, [3]⟩, oJ 54 26 [(.t 51), (.t 53)], oM 0 54])
  (.seq (r1 [oM 55 0, oF 16 56 3, oL 57 56, oJ 58 26 [(.t 55), (.t 57)], oF 17 59 3, ⟨(some 60), .load none (.t 59), none, [3]⟩, oJ 61 26 [(.t 58), (.t 60)], oM 0 61])
  (.seq (r0 [oM 62 0, oF 18 63 3, oL 64 63, oF 19 65 3, oL 66 65, oN 67 66, oY 1 68 2 zD1_6 [(0, 1, (.t 64)), (1, 1, (.t 67))], oJ 69 24 [(.t 62), (.t 68)], oM 0 69])
  (.seq (.seq (r0 [oV 5 (vi 0)])
  (.block 0 (.loop c_r45_AppendBodyb0)))
  (.seq (r0 [oM 84 0, oM 4 84])
  .ret)))))))))))
theorem is_r45_AppendBody : compile Try.prog Try.f8.ntmps (Try.f8.body.getD .skip) = some c_r45_AppendBody.strip := by kernel_rfl
abbrev F_snapshot_AppendJoint : Nat := 9
def c_snapshot_AppendJoint : ACode := (.seq (r0 [oE 3 1, oV 4 vn])
  (.seq (r0 [oM 6 0, oJ 7 22 [(.t 6)], oM 5 7])
  (.seq (r0 [oM 8 5, oR 24 9 3, oJ 10 28 [(.t 8), (.t 9)]])
  (.seq (r0 [oM 11 5, ⟨(some 12), .nilck (.t 11), none, []⟩, oF 0 13 12, oL 14 13, oM 4 14])
  .ret))))
theorem is_snapshot_AppendJoint : compile Try.prog Try.f9.ntmps (Try.f9.body.getD .skip) = some c_snapshot_AppendJoint.strip := by kernel_rfl
abbrev F_r45_AppendJoint : Nat := 10
def c_r45_AppendJoint : ACode := (.seq (r0 [oE 3 1, oV 4 vn])
  (.seq (r0 [oY 1 5 0 [] [], oM 6 0, oZ 1 1 7 5 6, oM 0 7])
  (.seq (r0 [oM 8 0, oF 0 9 3, oL 10 9, oF 1 11 3, oL 12 11, oF 2 13 3, oL 14 13, oF 3 15 3, oL 16 15, oY 1 17 4 zD1_0 [(0, 1, (.t 10)), (1, 1, (.t 12)), (2, 1, (.t 14)), (3, 1, (.t 16))], oJ 18 24 [(.t 8), (.t 17)], oM 0 18])
  (.seq (r1 [oM 19 0, oF 4 20 3, oR 2 21 20, oJ 22 25 [(.t 19), (.t 21)], oF 6 23 3, ⟨(some 24), .load (some 2) (.t 23), none, [3]⟩, oJ 25 25 [(.t 22), (.t 24)], oF 8 26 3, ⟨(some 27), .load (some 2) (.t 26), none, [3, 6]⟩, oJ 28 25 [(.t 25), (.t 27)], oM 0 28])
  (.seq (r1 [oM 29 0, oF 10 30 3, oL 31 30, oY 1 32 1 [(.int .i64 0)] [(0, 1, (.t 31))], oJ 33 24 [(.t 29), (.t 32)], oF 11 34 3, ⟨(some 35), .load none (.t 34), none, [3, 4]⟩, oJ 36 26 [(.t 33), (.t 35)], oM 0 36])
  (.seq (r1 [oM 37 0, oF 12 38 3, oL 39 38, oF 13 40 3, oL 41 40, oY 1 42 2 zD1_6 [(0, 1, (.t 39)), (1, 1, (.t 41))], oJ 43 24 [(.t 37), (.t 42)], oF 14 44 3, ⟨(some 45), .load none (.t 44), none, [5, 6]⟩, oJ 46 26 [(.t 43), (.t 45)], oM 0 46])
  (.seq (r1 [oM 47 0, oF 15 48 3, oL 49 48, oF 16 50 3, oL 51 50, oF 17 52 3, oL 53 52, oF 18 54 3, oL 55 54, oY 1 56 4 zD1_0 [(0, 1, (.t 49)), (1, 1, (.t 51)), (2, 1, (.t 53)), (3, 1, (.t 55))], oJ 57 24 [(.t 47), (.t 56)], oF 19 58 3, ⟨(some 59), .load none (.t 58), none, [9, 10]⟩, oJ 60 26 [(.t 57), (.t 59)], oM 0 60])
  (.seq (r0 [oM 61 0, oF 20 62 3, ⟨(some 63), .aaddr 4 1 (.t 62) (ki 0), none, []⟩, oL 64 63, oF 20 65 3, ⟨(some 66), .aaddr 4 1 (.t 65) (ki 1), none, []⟩, oL 67 66, oF 20 68 3, ⟨(some 69), .aaddr 4 1 (.t 68) (ki 2), none, []⟩, oL 70 69, oF 20 71 3, ⟨(some 72), .aaddr 4 1 (.t 71) (ki 3), none, []⟩, oL 73 72, oY 1 74 4 zD1_0 [(0, 1, (.t 64)), (1, 1, (.t 67)), (2, 1, (.t 70)), (3, 1, (.t 73))], oJ 75 24 [(.t 61), (.t 74)], oM 4 75])
  .ret))))))))
theorem is_r45_AppendJoint : compile Try.prog Try.f10.ntmps (Try.f10.body.getD .skip) = some c_r45_AppendJoint.strip := by kernel_rfl
abbrev F_snapshot_AppendContact : Nat := 11
def c_snapshot_AppendContact : ACode := (.seq (r0 [oE 3 1, oV 4 vn])
  (.seq (r0 [oM 6 0, oJ 7 22 [(.t 6)], oM 5 7])
  (.seq (r0 [oM 8 5, oR 7 9 3, oJ 10 29 [(.t 8), (.t 9)]])
  (.seq (r0 [oM 11 5, ⟨(some 12), .nilck (.t 11), none, []⟩, oF 0 13 12, oL 14 13, oM 4 14])
  .ret))))
theorem is_snapshot_AppendContact : compile Try.prog Try.f11.ntmps (Try.f11.body.getD .skip) = some c_snapshot_AppendContact.strip := by kernel_rfl
abbrev F_r45_AppendContact : Nat := 12
def c_r45_AppendContactb0 : ACode := (.seq (.seq (r0 [oM 25 5, oF 4 26 3, oF 2 27 26, oL 28 27, oN 29 28, oB .lss 30 25 29])
  (.cond (.t 30) .skip (.exit 0)))
  (.seq (.block 1 (.seq (r0 [oF 4 33 3, oF 2 34 33, oL 35 34, oM 36 5, oI 6 37 35 36, oR 6 38 37, oA 6 zD1_2, oS 6 6 38])
  (r1 [oM 39 0, oF 0 40 6, oR 2 41 40, oJ 42 25 [(.t 39), (.t 41)], oF 2 43 6, ⟨(some 44), .load none (.t 43), none, [3]⟩, oF 3 45 6, ⟨(some 46), .load none (.t 45), none, [3]⟩, oF 4 47 6, ⟨(some 48), .load none (.t 47), none, [3]⟩, oF 5 49 6, ⟨(some 50), .load none (.t 49), none, [3]⟩, ⟨(some 51), .bslice 1 4 zD1_0 [(0, 1, (.t 44)), (1, 1, (.t 46)), (2, 1, (.t 48)), (3, 1, (.t 50))], none, [2, 3]⟩, oJ 52 24 [(.t 42), (.t 51)], oM 0 52])))
  (r0 [oM 31 5, oC .add 32 31 1, oM 5 32])))
def c_r45_AppendContact : ACode := (.seq (r0 [oE 3 1, oV 4 vn])
  (.seq (r0 [oY 1 7 0 [] [], oM 8 0, oZ 1 1 9 7 8, oM 0 9])
  (.seq (r1 [oM 10 0, oF 0 11 3, oR 4 12 11, oJ 13 30 [(.t 10), (.t 12)], oF 4 14 3, oF 0 15 14, ⟨(some 16), .load (some 2) (.t 15), none, [3]⟩, oJ 17 25 [(.t 13), (.t 16)], oM 0 17])
  (.seq (r0 [oM 18 0, oF 4 19 3, oF 2 20 19, oL 21 20, oN 22 21, oY 1 23 1 [(.int .i64 0)] [(0, 1, (.t 22))], oJ 24 24 [(.t 18), (.t 23)], oM 0 24])
  (.seq (.seq (r0 [oV 5 (vi 0)])
  (.block 0 (.loop c_r45_AppendContactb0)))
  (.seq (r0 [oM 53 0, oM 4 53])
  .ret))))))
theorem is_r45_AppendContact : compile Try.prog Try.f12.ntmps (Try.f12.body.getD .skip) = some c_r45_AppendContact.strip := by kernel_rfl
abbrev F_snapshot_ReadContact : Nat := 18
def c_snapshot_ReadContact : ACode := (.seq (r0 [oA 4 zD1_4, oV 5 (vi 0), oV 6 (vi 0)])
  (.seq (r0 [oM 7 0, oM 8 1, oJ 9 38 [(.t 7), (.t 8), (.k (.fn (.func 39) [] []))], oX 10 9 0, oX 11 9 1, oX 12 9 2, oS 7 4 10, oM 5 11, oM 6 12])
  .ret))
theorem is_snapshot_ReadContact : compile Try.prog Try.f18.ntmps (Try.f18.body.getD .skip) = some c_snapshot_ReadContact.strip := by kernel_rfl
abbrev F_r30_isSmallBody : Nat := 21
def c_r30_isSmallBodyb0 : ACode := (.seq (.seq (r0 [oM 4 3, oF 19 5 1, oL 6 5, oN 7 6, oB .lss 8 4 7, oM 9 8, gT 9 (oM 10 3), gT 9 (oC .lss 11 10 6), oP 12 9 11])
  (.cond (.t 12) .skip (.exit 0)))
  (.seq (.block 1 (.seq (r0 [oF 19 15 1, oL 16 15, oM 17 3, oI 10 18 16 17, oF 0 19 18, oF 2 20 19, oL 21 20, oN 22 21, oC .gtr 23 22 10])
  (.cond (.t 23) (.seq (r0 [oV 2 (vb false)])
  .ret) .skip)))
  (r0 [oM 13 3, oC .add 14 13 1, oM 3 14])))
def c_r30_isSmallBody : ACode := (.seq (r0 [oE 1 0, oV 2 (vb false)])
  (.seq (.seq (r0 [oV 3 (vi 0)])
  (.block 0 (.loop c_r30_isSmallBodyb0)))
  (.seq (r0 [oF 19 24 1, oL 25 24, oN 26 25, oC .leq 27 26 6, oM 2 27])
  .ret)))
theorem is_r30_isSmallBody : compile Try.prog Try.f21.ntmps (Try.f21.body.getD .skip) = some c_r30_isSmallBody.strip := by kernel_rfl
abbrev F_snapshot_newEncoder : Nat := 22
def c_snapshot_newEncoder : ACode := (.seq (r0 [oV 2 (.sc (.pointer none))])
  (.seq (r0 [oM 3 0, ⟨(some 4), .append 1 1 (.k vn) (.t 3), none, []⟩, oW 5 [(.slice none 0 0)] [(0, 1, (.t 4))], oE 6 5, oM 2 6])
  .ret))
theorem is_snapshot_newEncoder : compile Try.prog Try.f22.ntmps (Try.f22.body.getD .skip) = some c_snapshot_newEncoder.strip := by kernel_rfl
abbrev F_snapshot_encoder_body : Nat := 23
def c_snapshot_encoder_bodyb0 : ACode := (.seq (r0 [oB .lss 74 73 72])
  (.seq (.cond (.t 74) .skip (.exit 0))
  (.seq (.block 1 (.seq (r0 [oI 10 75 71 73, oR 10 76 75, oA 5 zD1_8, oS 10 5 76])
  (r0 [oM 77 0, oR 10 78 5, oJ 79 44 [(.t 77), (.t 78)]])))
  (r0 [oC .add 80 73 1, oM 73 80]))))
def c_snapshot_encoder_body : ACode := (.seq (r0 [oE 3 1])
  (.seq (r0 [oM 6 0, oF 0 7 3, oL 8 7, oF 1 9 3, oL 10 9, oY 1 11 2 zD1_6 [(0, 1, (.t 8)), (1, 1, (.t 10))], oJ 12 41 [(.t 6), (.t 11)]])
  (.seq (r0 [oM 13 0, oF 2 14 3, oF 0 15 14, oR 2 16 15, oY 2 17 1 zD1_6 [(0, 2, (.t 16))], oJ 18 42 [(.t 13), (.t 17)]])
  (.seq (r0 [oM 19 0, oF 2 20 3, oF 2 21 20, oL 22 21, oY 1 23 1 [(.int .i64 0)] [(0, 1, (.t 22))], oJ 24 41 [(.t 19), (.t 23)]])
  (.seq (r0 [oM 25 0, oF 5 26 3, oR 2 27 26, oY 2 28 1 zD1_6 [(0, 2, (.t 27))], oJ 29 42 [(.t 25), (.t 28)]])
  (.seq (r0 [oM 30 0, oF 7 31 3, oL 32 31, oY 1 33 1 [(.int .i64 0)] [(0, 1, (.t 32))], oJ 34 41 [(.t 30), (.t 33)]])
  (.seq (r0 [oM 35 0, oF 8 36 3, oR 2 37 36, oY 2 38 1 zD1_6 [(0, 2, (.t 37))], oJ 39 42 [(.t 35), (.t 38)]])
  (.seq (r0 [oM 40 0, oF 10 41 3, oL 42 41, oF 11 43 3, oL 44 43, oF 12 45 3, oL 46 45, oF 13 47 3, oL 48 47, oY 1 49 4 zD1_0 [(0, 1, (.t 42)), (1, 1, (.t 44)), (2, 1, (.t 46)), (3, 1, (.t 48))], oJ 50 41 [(.t 40), (.t 49)]])
  (.seq (r0 [oM 51 0, oF 14 52 3, oL 53 52, oF 15 54 3, oL 55 54, oF 16 56 3, oL 57 56, oF 17 58 3, oL 59 58, oY 1 60 4 zD1_9 [(0, 1, (.t 53)), (1, 1, (.t 55)), (2, 1, (.t 57)), (3, 1, (.t 59))], oJ 61 43 [(.t 51), (.t 60)]])
  (.seq (r0 [oM 62 0, oF 18 63 3, oL 64 63, oF 19 65 3, oL 66 65, oN 67 66, oY 1 68 2 zD1_6 [(0, 1, (.t 64)), (1, 1, (.t 67))], oJ 69 41 [(.t 62), (.t 68)]])
  (.seq (r0 [oF 19 70 3, oL 71 70, oN 72 71, oV 73 (vi 0)])
  (.block 0 (.loop c_snapshot_encoder_bodyb0)))))))))))))
theorem is_snapshot_encoder_body : compile Try.prog Try.f23.ntmps (Try.f23.body.getD .skip) = some c_snapshot_encoder_body.strip := by kernel_rfl
abbrev F_r45_appendInts : Nat := 24
def c_r45_appendIntsb0 : ACode := (.seq (.seq (r0 [oM 6 5, oM 7 1, oN 8 7, oB .lss 9 6 8])
  (.cond (.t 9) .skip (.exit 0)))
  (.seq (.block 1 (r0 [oM 12 0, oM 13 1, oM 14 5, oI 1 15 13 14, oL 16 15, oJ 17 45 [(.t 12), (.t 16)], oM 0 17]))
  (r0 [oM 10 5, oC .add 11 10 1, oM 5 11])))
def c_r45_appendInts : ACode := (.seq (r0 [oV 4 vn])
  (.seq (.seq (r0 [oV 5 (vi 0)])
  (.block 0 (.loop c_r45_appendIntsb0)))
  (.seq (r0 [oM 18 0, oM 4 18])
  .ret)))
theorem is_r45_appendInts : compile Try.prog Try.f24.ntmps (Try.f24.body.getD .skip) = some c_r45_appendInts.strip := by kernel_rfl
abbrev F_r07_AppendVec : Nat := 25
def c_r07_AppendVec : ACode := (.seq (r0 [oE 3 1, oV 4 vn])
  (.seq (r1 [oM 5 0, oF 0 6 3, oL 7 6, oJ 8 45 [(.t 5), (.t 7)], oF 1 9 3, ⟨(some 10), .load none (.t 9), none, [3]⟩, oJ 11 45 [(.t 8), (.t 10)], oM 4 11])
  .ret))
theorem is_r07_AppendVec : compile Try.prog Try.f25.ntmps (Try.f25.body.getD .skip) = some c_r07_AppendVec.strip := by kernel_rfl
abbrev F_r07_AppendBool : Nat := 26
def c_r07_AppendBool : ACode := (.seq (r0 [oV 4 vn])
  (.seq (r0 [oY 1 6 0 [] [], oM 7 0, oZ 1 1 8 6 7, oM 5 8])
  (.seq (.seq (r0 [oM 9 1])
  (.cond (.t 9) (.seq (r0 [oM 10 5, oY 1 11 1 [(.int .u8 0)] [(0, 1, (.k (.sc (.int .u8 1))))], oZ 1 1 12 10 11, oM 4 12])
  .ret) .skip))
  (.seq (r0 [oM 13 5, oY 1 14 1 [(.int .u8 0)] [(0, 1, (.k (.sc (.int .u8 0))))], oZ 1 1 15 13 14, oM 4 15])
  .ret))))
theorem is_r07_AppendBool : compile Try.prog Try.f26.ntmps (Try.f26.body.getD .skip) = some c_r07_AppendBool.strip := by kernel_rfl
abbrev F_r45_appendFixture : Nat := 27
def c_r45_appendFixture : ACode := (.seq (r0 [oE 3 1, oV 4 vn])
  (.seq (r1 [oM 5 0, oF 0 6 3, oR 3 7 6, oJ 8 46 [(.t 5), (.t 7)], oF 3 9 3, ⟨(some 10), .load none (.t 9), none, [3]⟩, oF 4 11 3, ⟨(some 12), .load none (.t 11), none, [3]⟩, oF 5 13 3, ⟨(some 14), .load none (.t 13), none, [3]⟩, ⟨(some 15), .bslice 1 3 zD1_10 [(0, 1, (.t 10)), (1, 1, (.t 12)), (2, 1, (.t 14))], none, [2, 3]⟩, oJ 16 24 [(.t 8), (.t 15)], oM 0 16])
  (.seq (r1 [oM 17 0, oF 6 18 3, oL 19 18, oJ 20 26 [(.t 17), (.t 19)], oF 7 21 3, ⟨(some 22), .load none (.t 21), none, [3]⟩, oF 8 23 3, ⟨(some 24), .load none (.t 23), none, [3]⟩, oF 9 25 3, ⟨(some 26), .load none (.t 25), none, [3]⟩, ⟨(some 27), .bslice 1 3 zD1_10 [(0, 1, (.t 22)), (1, 1, (.t 24)), (2, 1, (.t 26))], none, [2, 3]⟩, oJ 28 24 [(.t 20), (.t 27)], oM 4 28])
  .ret)))
theorem is_r45_appendFixture : compile Try.prog Try.f27.ntmps (Try.f27.body.getD .skip) = some c_r45_appendFixture.strip := by kernel_rfl
abbrev F_snapshot_encoder_joint : Nat := 28
def c_snapshot_encoder_joint : ACode := (.seq (r0 [oE 3 1])
  (.seq (r0 [oM 4 0, oF 0 5 3, oL 6 5, oF 1 7 3, oL 8 7, oF 2 9 3, oL 10 9, oF 3 11 3, oL 12 11, oY 1 13 4 zD1_0 [(0, 1, (.t 6)), (1, 1, (.t 8)), (2, 1, (.t 10)), (3, 1, (.t 12))], oJ 14 41 [(.t 4), (.t 13)]])
  (.seq (r0 [oM 15 0, oF 4 16 3, oR 2 17 16, oF 6 18 3, oR 2 19 18, oF 8 20 3, oR 2 21 20, oY 2 22 3 zD1_2 [(0, 2, (.t 17)), (2, 2, (.t 19)), (4, 2, (.t 21))], oJ 23 42 [(.t 15), (.t 22)]])
  (.seq (r0 [oM 24 0, oF 10 25 3, oL 26 25, oY 1 27 1 [(.int .i64 0)] [(0, 1, (.t 26))], oJ 28 41 [(.t 24), (.t 27)]])
  (.seq (r0 [oM 29 0, oF 11 30 3, oL 31 30, oY 1 32 1 [(.bool false)] [(0, 1, (.t 31))], oJ 33 43 [(.t 29), (.t 32)]])
  (.seq (r0 [oM 34 0, oF 12 35 3, oL 36 35, oF 13 37 3, oL 38 37, oY 1 39 2 zD1_6 [(0, 1, (.t 36)), (1, 1, (.t 38))], oJ 40 41 [(.t 34), (.t 39)]])
  (.seq (r0 [oM 41 0, oF 14 42 3, oL 43 42, oY 1 44 1 [(.bool false)] [(0, 1, (.t 43))], oJ 45 43 [(.t 41), (.t 44)]])
  (.seq (r0 [oM 46 0, oF 15 47 3, oL 48 47, oF 16 49 3, oL 50 49, oF 17 51 3, oL 52 51, oF 18 53 3, oL 54 53, oY 1 55 4 zD1_0 [(0, 1, (.t 48)), (1, 1, (.t 50)), (2, 1, (.t 52)), (3, 1, (.t 54))], oJ 56 41 [(.t 46), (.t 55)]])
  (.seq (r0 [oM 57 0, oF 19 58 3, oL 59 58, oY 1 60 1 [(.bool false)] [(0, 1, (.t 59))], oJ 61 43 [(.t 57), (.t 60)]])
  (r0 [oM 62 0, oF 20 63 3, ⟨(some 64), .aslice 4 1 (.t 63), none, []⟩, oJ 65 41 [(.t 62), (.t 64)]]))))))))))
theorem is_snapshot_encoder_joint : compile Try.prog Try.f28.ntmps (Try.f28.body.getD .skip) = some c_snapshot_encoder_joint.strip := by kernel_rfl
abbrev F_snapshot_encoder_contact : Nat := 29
def c_snapshot_encoder_contactb0 : ACode := (.seq (r0 [oB .lss 28 27 26])
  (.seq (.cond (.t 28) .skip (.exit 0))
  (.seq (.block 1 (.seq (r0 [oI 6 29 25 27, oR 6 30 29, oA 5 zD1_2, oS 6 5 30])
  (.seq (r0 [oM 31 0, oF 0 32 5, oR 2 33 32, oY 2 34 1 zD1_6 [(0, 2, (.t 33))], oJ 35 42 [(.t 31), (.t 34)]])
  (r0 [oM 36 0, oF 2 37 5, oL 38 37, oF 3 39 5, oL 40 39, oF 4 41 5, oL 42 41, oF 5 43 5, oL 44 43, oY 1 45 4 zD1_0 [(0, 1, (.t 38)), (1, 1, (.t 40)), (2, 1, (.t 42)), (3, 1, (.t 44))], oJ 46 41 [(.t 36), (.t 45)]]))))
  (r0 [oC .add 47 27 1, oM 27 47]))))
def c_snapshot_encoder_contact : ACode := (.seq (r0 [oE 3 1])
  (.seq (r0 [oM 6 0, oF 0 7 3, oR 4 8 7, oJ 9 47 [(.t 6), (.t 8)]])
  (.seq (r0 [oM 10 0, oF 4 11 3, oF 0 12 11, oR 2 13 12, oY 2 14 1 zD1_6 [(0, 2, (.t 13))], oJ 15 42 [(.t 10), (.t 14)]])
  (.seq (r0 [oM 16 0, oF 4 17 3, oF 2 18 17, oL 19 18, oN 20 19, oY 1 21 1 [(.int .i64 0)] [(0, 1, (.t 20))], oJ 22 41 [(.t 16), (.t 21)]])
  (.seq (r0 [oF 4 23 3, oF 2 24 23, oL 25 24, oN 26 25, oV 27 (vi 0)])
  (.block 0 (.loop c_snapshot_encoder_contactb0)))))))
theorem is_snapshot_encoder_contact : compile Try.prog Try.f29.ntmps (Try.f29.body.getD .skip) = some c_snapshot_encoder_contact.strip := by kernel_rfl
abbrev F_r45_appendKey : Nat := 30
def c_r45_appendKey : ACode := (.seq (r0 [oE 3 1, oV 4 vn])
  (.seq (r0 [oM 5 0, oF 0 6 3, oL 7 6, oF 1 8 3, oL 9 8, oF 2 10 3, oL 11 10, oF 3 12 3, oL 13 12, oY 1 14 4 zD1_0 [(0, 1, (.t 7)), (1, 1, (.t 9)), (2, 1, (.t 11)), (3, 1, (.t 13))], oJ 15 24 [(.t 5), (.t 14)], oM 4 15])
  .ret))
theorem is_r45_appendKey : compile Try.prog Try.f30.ntmps (Try.f30.body.getD .skip) = some c_r45_appendKey.strip := by kernel_rfl
abbrev F_snapshot_decodeAt_Contact : Nat := 38
abbrev F_snapshot_decoder_contact : Nat := 39
def c_snapshot_decoder_contact : ACode := (.seq (r0 [oA 2 zD1_4])
  (.seq (r0 [oA 3 zD1_4])
  (.seq (r0 [oM 4 0, oJ 5 63 [(.t 4)], oF 0 6 3, oS 4 6 5])
  (.seq (r0 [oM 7 0, oJ 8 51 [(.t 7)], oF 4 9 3, oF 0 10 9, oS 2 10 8])
  (.seq (r0 [oM 11 0, oM 12 0, ⟨(some 13), .mkfn (.func 65) [(.t 12)] [], none, []⟩, oJ 14 64 [(.t 11), (.t 13)], oF 4 15 3, oF 2 16 15, oS 1 16 14])
  (.seq (r0 [oR 7 17 3, oS 7 2 17])
  .ret))))))
theorem is_snapshot_decoder_contact : compile Try.prog Try.f39.ntmps (Try.f39.body.getD .skip) = some c_snapshot_decoder_contact.strip := by kernel_rfl
abbrev F_snapshot_encoder_ints : Nat := 41
def c_snapshot_encoder_intsb0 : ACode := (.seq (r0 [oB .lss 9 8 7])
  (.seq (.cond (.t 9) .skip (.exit 0))
  (.seq (.block 1 (.seq (r0 [oI 1 10 6 8, oL 11 10, oM 5 11])
  (r0 [oM 12 0, oM 13 0, ⟨(some 14), .nilck (.t 13), none, []⟩, oF 0 15 14, oL 16 15, oM 17 5, oJ 18 68 [(.t 16), (.t 17)], ⟨(some 19), .nilck (.t 12), none, []⟩, oF 0 20 19, oS 1 20 18])))
  (r0 [oC .add 21 8 1, oM 8 21]))))
def c_snapshot_encoder_ints : ACode := (.seq (r0 [oM 6 1, oN 7 6, oV 8 (vi 0)])
  (.block 0 (.loop c_snapshot_encoder_intsb0)))
theorem is_snapshot_encoder_ints : compile Try.prog Try.f41.ntmps (Try.f41.body.getD .skip) = some c_snapshot_encoder_ints.strip := by kernel_rfl
abbrev F_snapshot_encoder_vecs : Nat := 42
def c_snapshot_encoder_vecsb0 : ACode := (.seq (r0 [oB .lss 9 8 7])
  (.seq (.cond (.t 9) .skip (.exit 0))
  (.seq (.block 1 (.seq (r0 [oI 2 10 6 8, oR 2 11 10, oA 5 zD1_6, oS 2 5 11])
  (r1 [oM 12 0, oM 13 0, ⟨(some 14), .nilck (.t 13), none, []⟩, oF 0 15 14, oL 16 15, oR 2 17 5, oJ 18 69 [(.t 16), (.t 17)], ⟨(some 19), .nilck (.t 12), none, []⟩, oF 0 20 19, oS 1 20 18])))
  (r0 [oC .add 21 8 1, oM 8 21]))))
def c_snapshot_encoder_vecs : ACode := (.seq (r0 [oM 6 1, oN 7 6, oV 8 (vi 0)])
  (.block 0 (.loop c_snapshot_encoder_vecsb0)))
theorem is_snapshot_encoder_vecs : compile Try.prog Try.f42.ntmps (Try.f42.body.getD .skip) = some c_snapshot_encoder_vecs.strip := by kernel_rfl
abbrev F_snapshot_encoder_bools : Nat := 43
def c_snapshot_encoder_boolsb0 : ACode := (.seq (r0 [oB .lss 9 8 7])
  (.seq (.cond (.t 9) .skip (.exit 0))
  (.seq (.block 1 (.seq (r0 [oI 1 10 6 8, oL 11 10, oM 5 11])
  (r0 [oM 12 0, oM 13 0, ⟨(some 14), .nilck (.t 13), none, []⟩, oF 0 15 14, oL 16 15, oM 17 5, oJ 18 70 [(.t 16), (.t 17)], ⟨(some 19), .nilck (.t 12), none, []⟩, oF 0 20 19, oS 1 20 18])))
  (r0 [oC .add 21 8 1, oM 8 21]))))
def c_snapshot_encoder_bools : ACode := (.seq (r0 [oM 6 1, oN 7 6, oV 8 (vi 0)])
  (.block 0 (.loop c_snapshot_encoder_boolsb0)))
theorem is_snapshot_encoder_bools : compile Try.prog Try.f43.ntmps (Try.f43.body.getD .skip) = some c_snapshot_encoder_bools.strip := by kernel_rfl
abbrev F_snapshot_encoder_fixture : Nat := 44
def c_snapshot_encoder_fixture : ACode := (.seq (r0 [oE 3 1])
  (.seq (r0 [oM 4 0, oF 0 5 3, oF 0 6 5, oL 7 6, oF 0 8 3, oF 1 9 8, oL 10 9, oF 0 11 3, oF 2 12 11, oL 13 12, oN 14 13, oY 1 15 3 zD1_10 [(0, 1, (.t 7)), (1, 1, (.t 10)), (2, 1, (.t 14))], oJ 16 41 [(.t 4), (.t 15)]])
  (.seq (r0 [oM 17 0, oF 0 18 3, oF 2 19 18, oL 20 19, oJ 21 42 [(.t 17), (.t 20)]])
  (.seq (r0 [oM 22 0, oF 3 23 3, oL 24 23, oF 4 25 3, oL 26 25, oF 5 27 3, oL 28 27, oY 1 29 3 zD1_10 [(0, 1, (.t 24)), (1, 1, (.t 26)), (2, 1, (.t 28))], oJ 30 41 [(.t 22), (.t 29)]])
  (.seq (r0 [oM 31 0, oF 6 32 3, oL 33 32, oY 1 34 1 [(.bool false)] [(0, 1, (.t 33))], oJ 35 43 [(.t 31), (.t 34)]])
  (r0 [oM 36 0, oF 7 37 3, oL 38 37, oF 8 39 3, oL 40 39, oF 9 41 3, oL 42 41, oY 1 43 3 zD1_10 [(0, 1, (.t 38)), (1, 1, (.t 40)), (2, 1, (.t 42))], oJ 44 41 [(.t 36), (.t 43)]]))))))
theorem is_snapshot_encoder_fixture : compile Try.prog Try.f44.ntmps (Try.f44.body.getD .skip) = some c_snapshot_encoder_fixture.strip := by kernel_rfl
abbrev F_r07_AppendInt : Nat := 45
def c_r07_AppendIntb0 : ACode := (.seq (.seq (r0 [oM 11 6, ⟨(some 12), .bin .gtr (.t 11) (.k (.sc (.int .u64 0))), none, []⟩])
  (.cond (.t 12) .skip (.exit 0)))
  (.seq (.block 1 (r0 [oM 15 6, ⟨(some 16), .bin .rem (.t 15) (.k (.sc (.int .u64 256))), none, []⟩, ⟨(some 17), .convI .u8 (.t 16), none, []⟩, oY 1 18 1 [(.int .u8 0)] [(0, 1, (.t 17))], oM 19 5, oZ 1 1 20 18 19, oM 5 20]))
  (r0 [oM 13 6, ⟨(some 14), .bin .quo (.t 13) (.k (.sc (.int .u64 256))), none, []⟩, oM 6 14])))
def c_r07_AppendInt : ACode := (.seq (r0 [oV 4 vn])
  (.seq (r0 [oV 5 vn])
  (.seq (.seq (r0 [oM 9 1, oJ 10 71 [(.t 9)], oM 6 10])
  (.block 0 (.loop c_r07_AppendIntb0)))
  (.seq (r0 [oM 21 5, oN 22 21, ⟨(some 23), .convI .u8 (.t 22), none, []⟩, oM 7 23])
  (.seq (.seq (r0 [oM 24 1, oC .lss 25 24 0])
  (.cond (.t 25) (r0 [oM 26 7, ⟨(some 27), .bin .add (.t 26) (.k (.sc (.int .u8 16))), none, []⟩, oM 7 27]) .skip))
  (.seq (r0 [oY 1 28 0 [] [], oM 29 0, oZ 1 1 30 28 29, oM 8 30])
  (.seq (r0 [oM 31 8, oM 32 7, oY 1 33 1 [(.int .u8 0)] [(0, 1, (.t 32))], oZ 1 1 34 31 33, oM 35 5, oZ 1 1 36 34 35, oM 4 36])
  .ret)))))))
theorem is_r07_AppendInt : compile Try.prog Try.f45.ntmps (Try.f45.body.getD .skip) = some c_r07_AppendInt.strip := by kernel_rfl
abbrev F_r45_appendShape : Nat := 46
def c_r45_appendShapeb0 : ACode := (.seq (.seq (r0 [oM 16 5, oF 2 17 3, oL 18 17, oN 19 18, oB .lss 20 16 19])
  (.cond (.t 20) .skip (.exit 0)))
  (.seq (.block 1 (r0 [oM 23 0, oF 2 24 3, oL 25 24, oM 26 5, oI 2 27 25 26, oR 2 28 27, oJ 29 25 [(.t 23), (.t 28)], oM 0 29]))
  (r0 [oM 21 5, oC .add 22 21 1, oM 5 22])))
def c_r45_appendShape : ACode := (.seq (r0 [oE 3 1, oV 4 vn])
  (.seq (r0 [oM 6 0, oF 0 7 3, oL 8 7, oF 1 9 3, oL 10 9, oF 2 11 3, oL 12 11, oN 13 12, oY 1 14 3 zD1_10 [(0, 1, (.t 8)), (1, 1, (.t 10)), (2, 1, (.t 13))], oJ 15 24 [(.t 6), (.t 14)], oM 0 15])
  (.seq (.seq (r0 [oV 5 (vi 0)])
  (.block 0 (.loop c_r45_appendShapeb0)))
  (.seq (r0 [oM 30 0, oM 4 30])
  .ret))))
theorem is_r45_appendShape : compile Try.prog Try.f46.ntmps (Try.f46.body.getD .skip) = some c_r45_appendShape.strip := by kernel_rfl
abbrev F_snapshot_encoder_key : Nat := 47
def c_snapshot_encoder_key : ACode := (.seq (r0 [oE 3 1])
  (r0 [oM 4 0, oF 0 5 3, oL 6 5, oF 1 7 3, oL 8 7, oF 2 9 3, oL 10 9, oF 3 11 3, oL 12 11, oY 1 13 4 zD1_0 [(0, 1, (.t 6)), (1, 1, (.t 8)), (2, 1, (.t 10)), (3, 1, (.t 12))], oJ 14 41 [(.t 4), (.t 13)]]))
theorem is_snapshot_encoder_key : compile Try.prog Try.f47.ntmps (Try.f47.body.getD .skip) = some c_snapshot_encoder_key.strip := by kernel_rfl
abbrev F_snapshot_decoder_int : Nat := 50
def c_snapshot_decoder_int : ACode := (.seq (r0 [oV 2 (vi 0)])
  (.seq (r1 [oM 7 0, ⟨(some 8), .nilck (.t 7), none, []⟩, oF 0 9 8, oL 10 9, oM 11 0, ⟨(some 12), .nilck (.t 11), none, []⟩, oF 1 13 12, oL 14 13, oJ 15 72 [(.t 10), (.t 14)], oM 6 15, oX 16 6 0, oX 17 6 1, oX 18 6 2, oM 3 16, oM 4 17, oM 5 18])
  (.seq (r0 [oM 19 0, oM 20 4, oM 21 5, oJ 22 73 [(.t 19), (.t 20), (.t 21)]])
  (.seq (r0 [oM 23 3, oM 2 23])
  .ret))))
theorem is_snapshot_decoder_int : compile Try.prog Try.f50.ntmps (Try.f50.body.getD .skip) = some c_snapshot_decoder_int.strip := by kernel_rfl
abbrev F_snapshot_decoder_vec : Nat := 51
def c_snapshot_decoder_vec : ACode := (.seq (r0 [oA 2 zD1_6])
  (.seq (r1 [oM 7 0, ⟨(some 8), .nilck (.t 7), none, []⟩, oF 0 9 8, oL 10 9, oM 11 0, ⟨(some 12), .nilck (.t 11), none, []⟩, oF 1 13 12, oL 14 13, oJ 15 74 [(.t 10), (.t 14)], oM 6 15, oX 16 6 0, oX 17 6 1, oX 18 6 2, ⟨(some 3), .alloc zD1_6, none, [3, 7, 8]⟩, oS 2 3 16, oM 4 17, oM 5 18])
  (.seq (r0 [oM 19 0, oM 20 4, oM 21 5, oJ 22 73 [(.t 19), (.t 20), (.t 21)]])
  (.seq (r0 [oR 2 23 3, oS 2 2 23])
  .ret))))
theorem is_snapshot_decoder_vec : compile Try.prog Try.f51.ntmps (Try.f51.body.getD .skip) = some c_snapshot_decoder_vec.strip := by kernel_rfl
abbrev F_snapshot_decodeAt_Contact_f1 : Nat := 62
def c_snapshot_decodeAt_Contact_f1 : ACode := (.seq (r0 [oL 4 0, oC .neq 5 4 0])
  (.cond (.t 5) (.seq (r0 [oA 3 zD1_4])
  (r0 [oR 7 6 3, oS 7 1 6, oD 1 2 (vi 0)])) .skip))
theorem is_snapshot_decodeAt_Contact_f1 : compile Try.prog Try.f62.ntmps (Try.f62.body.getD .skip) = some c_snapshot_decodeAt_Contact_f1.strip := by kernel_rfl
abbrev F_snapshot_decoder_key : Nat := 63
def c_snapshot_decoder_key : ACode := (.seq (r0 [oA 2 zD1_0])
  (.seq (r0 [oM 3 0, oJ 4 50 [(.t 3)], oM 5 0, oJ 6 50 [(.t 5)], oM 7 0, oJ 8 50 [(.t 7)], oM 9 0, oJ 10 50 [(.t 9)], oW 11 zD1_0 [(0, 1, (.t 4)), (1, 1, (.t 6)), (2, 1, (.t 8)), (3, 1, (.t 10))], oS 4 2 11])
  .ret))
theorem is_snapshot_decoder_key : compile Try.prog Try.f63.ntmps (Try.f63.body.getD .skip) = some c_snapshot_decoder_key.strip := by kernel_rfl
abbrev F_snapshot_slice_ContactPoint : Nat := 64
def c_snapshot_slice_ContactPointb0 : ACode := (.seq (r0 [oB .lss 11 10 9])
  (.seq (.cond (.t 11) .skip (.exit 0))
  (.seq (.block 1 (r0 [oM 12 6, oM 13 1, ⟨(some 14), .callv (.t 13) [], none, []⟩, oY 6 15 1 zD1_2 [(0, 6, (.t 14))], oZ 6 48 16 12 15, oM 6 16]))
  (r0 [oC .add 17 10 1, oM 10 17]))))
def c_snapshot_slice_ContactPoint : ACode := (.seq (r0 [oV 4 vn])
  (.seq (r0 [oM 7 0, oJ 8 76 [(.t 7)], oM 5 8])
  (.seq (r0 [oV 6 vn])
  (.seq (.seq (r0 [oM 9 5, oV 10 (vi 0)])
  (.block 0 (.loop c_snapshot_slice_ContactPointb0)))
  (.seq (r0 [oM 18 6, oM 4 18])
  .ret)))))
theorem is_snapshot_slice_ContactPoint : compile Try.prog Try.f64.ntmps (Try.f64.body.getD .skip) = some c_snapshot_slice_ContactPoint.strip := by kernel_rfl
abbrev F_snapshot_decoder_contactPoint : Nat := 65
def c_snapshot_decoder_contactPoint : ACode := (.seq (r0 [oA 2 zD1_2])
  (.seq (r0 [oM 3 0, oJ 4 51 [(.t 3)], oM 5 0, oJ 6 50 [(.t 5)], oM 7 0, oJ 8 50 [(.t 7)], oM 9 0, oJ 10 50 [(.t 9)], oM 11 0, oJ 12 50 [(.t 11)], oW 13 zD1_2 [(0, 2, (.t 4)), (2, 1, (.t 6)), (3, 1, (.t 8)), (4, 1, (.t 10)), (5, 1, (.t 12))], oS 6 2 13])
  .ret))
theorem is_snapshot_decoder_contactPoint : compile Try.prog Try.f65.ntmps (Try.f65.body.getD .skip) = some c_snapshot_decoder_contactPoint.strip := by kernel_rfl
abbrev F_codec_AppendInt : Nat := 68
def c_codec_AppendIntb0 : ACode := (.seq (.seq (r0 [oM 10 6, ⟨(some 11), .bin .gtr (.t 10) (.k (.sc (.int .u64 0))), none, []⟩])
  (.cond (.t 11) .skip (.exit 0)))
  (.seq (.block 1 (r0 [oM 14 6, ⟨(some 15), .convI .u8 (.t 14), none, []⟩, oY 1 16 1 [(.int .u8 0)] [(0, 1, (.t 15))], oM 17 5, oZ 1 1 18 16 17, oM 5 18]))
  (r0 [oM 12 6, ⟨(some 13), .bin .shr (.t 12) (.k (.sc (.int .u64 8))), none, []⟩, oM 6 13])))
def c_codec_AppendInt : ACode := (.seq (r0 [oV 4 vn])
  (.seq (r0 [oV 5 vn])
  (.seq (.seq (r0 [oM 8 1, oJ 9 81 [(.t 8)], oM 6 9])
  (.block 0 (.loop c_codec_AppendIntb0)))
  (.seq (r0 [oM 19 5, oN 20 19, oM 7 20])
  (.seq (.seq (r0 [oM 21 1, oC .lss 22 21 0])
  (.cond (.t 22) (r0 [oM 23 7, oC .add 24 23 16, oM 7 24]) .skip))
  (.seq (r0 [oM 25 0, oM 26 7, ⟨(some 27), .convI .u8 (.t 26), none, []⟩, oY 1 28 1 [(.int .u8 0)] [(0, 1, (.t 27))], oJ 29 82 [(.t 25), (.t 28)], oM 30 5, oJ 31 82 [(.t 29), (.t 30)], oM 4 31])
  .ret))))))
theorem is_codec_AppendInt : compile Try.prog Try.f68.ntmps (Try.f68.body.getD .skip) = some c_codec_AppendInt.strip := by kernel_rfl
abbrev F_codec_AppendVec : Nat := 69
def c_codec_AppendVec : ACode := (.seq (r0 [oE 3 1, oV 4 vn])
  (.seq (r1 [oM 5 0, oF 0 6 3, oL 7 6, oJ 8 68 [(.t 5), (.t 7)], oF 1 9 3, ⟨(some 10), .load none (.t 9), none, [3]⟩, oJ 11 68 [(.t 8), (.t 10)], oM 4 11])
  .ret))
theorem is_codec_AppendVec : compile Try.prog Try.f69.ntmps (Try.f69.body.getD .skip) = some c_codec_AppendVec.strip := by kernel_rfl
abbrev F_codec_AppendBool : Nat := 70
def c_codec_AppendBool : ACode := (.seq (r0 [oV 4 vn])
  (.seq (.seq (r0 [oM 5 1])
  (.cond (.t 5) (.seq (r0 [oM 6 0, oY 1 7 1 [(.int .u8 0)] [(0, 1, (.k (.sc (.int .u8 1))))], oJ 8 82 [(.t 6), (.t 7)], oM 4 8])
  .ret) .skip))
  (.seq (r0 [oM 9 0, oY 1 10 1 [(.int .u8 0)] [(0, 1, (.k (.sc (.int .u8 0))))], oJ 11 82 [(.t 9), (.t 10)], oM 4 11])
  .ret)))
theorem is_codec_AppendBool : compile Try.prog Try.f70.ntmps (Try.f70.body.getD .skip) = some c_codec_AppendBool.strip := by kernel_rfl
abbrev F_r07_abs : Nat := 71
def c_r07_abs : ACode := (.seq (r0 [oV 2 (.sc (.int .u64 0))])
  (.seq (.seq (r0 [oM 3 0, oC .lss 4 3 0])
  (.cond (.t 4) (.seq (r0 [oM 5 0, oC .add 6 5 1, ⟨(some 7), .un .neg (.t 6), none, []⟩, ⟨(some 8), .convI .u64 (.t 7), none, []⟩, ⟨(some 9), .bin .add (.t 8) (.k (.sc (.int .u64 1))), none, []⟩, oM 2 9])
  .ret) .skip))
  (.seq (r0 [oM 10 0, ⟨(some 11), .convI .u64 (.t 10), none, []⟩, oM 2 11])
  .ret)))
theorem is_r07_abs : compile Try.prog Try.f71.ntmps (Try.f71.body.getD .skip) = some c_r07_abs.strip := by kernel_rfl
abbrev F_codec_ReadInt : Nat := 72
def c_codec_ReadIntb0 : ACode := (.seq (r0 [oB .lss 47 46 45])
  (.seq (.cond (.t 47) .skip (.exit 0))
  (.seq (.block 1 (.seq (r0 [oI 1 48 44 46, oL 49 48, oM 14 49])
  (r0 [oM 50 12, ⟨(some 51), .bin .shl (.t 50) (.k (.sc (.int .u64 8))), none, []⟩, oM 52 14, ⟨(some 53), .convI .u64 (.t 52), none, []⟩, oB .or 54 51 53, oM 12 54])))
  (r0 [oC .add 55 46 1, oM 46 55]))))
def c_codec_ReadInt : ACode := (.seq (r0 [oV 4 (vi 0), oV 5 (vi 0), oV 6 (vi 0)])
  (.seq (r0 [oM 17 0, oM 18 1, oJ 19 83 [(.t 17), (.t 18)], oM 16 19, oX 20 16 0, oX 21 16 1, oM 7 20, oM 8 21])
  (.seq (.seq (r0 [oM 22 8, oC .neq 23 22 0])
  (.cond (.t 23) (.seq (r0 [oM 24 8, oV 4 (vi 0), oV 5 (vi 0), oM 6 24])
  .ret) .skip))
  (.seq (r0 [oM 25 7, ⟨(some 26), .convI .i64 (.t 25), none, []⟩, oM 27 7, ⟨(some 28), .bin .gtr (.t 27) (.k (.sc (.int .u8 16))), none, []⟩, oM 9 26, oM 10 28])
  (.seq (.seq (r0 [oM 29 10])
  (.cond (.t 29) (r0 [oM 30 9, oC .sub 31 30 16, oM 9 31]) .skip))
  (.seq (.seq (r0 [oM 32 9, oC .gtr 33 32 8])
  (.cond (.t 33) (.seq (r0 [oV 4 (vi 0), oV 5 (vi 0), oV 6 (vi 3)])
  .ret) .skip))
  (.seq (r0 [oM 34 0, oM 35 1, oC .add 36 35 1, ⟨(some 37), .slice 1 (.t 34) (some (.t 36)) none none, none, []⟩, oM 11 37])
  (.seq (.seq (r0 [oM 38 11, oN 39 38, oM 40 9, oB .lss 41 39 40])
  (.cond (.t 41) (.seq (r0 [oV 4 (vi 0), oV 5 (vi 0), oV 6 (vi 4)])
  .ret) .skip))
  (.seq (r0 [oV 12 (.sc (.int .u64 0))])
  (.seq (.seq (r0 [oM 42 11, oM 43 9, ⟨(some 44), .slice 1 (.t 42) none (some (.t 43)) none, none, []⟩, oN 45 44, oV 46 (vi 0)])
  (.block 0 (.loop c_codec_ReadIntb0)))
  (.seq (r0 [oM 56 12, ⟨(some 57), .convI .i64 (.t 56), none, []⟩, oM 15 57])
  (.seq (.seq (r0 [oM 58 10])
  (.cond (.t 58) (r0 [oM 59 15, ⟨(some 60), .un .neg (.t 59), none, []⟩, oM 15 60]) .skip))
  (.seq (.seq (r0 [oM 61 9, oC .gtr 62 61 0, oM 63 62, gT 63 (oM 64 11), ⟨(some 65), .iaddr 1 (.t 64) (ki 0), (some (63, true)), []⟩, gT 63 (oL 66 65), ⟨(some 67), .bin .eql (.t 66) (.k (.sc (.int .u8 0))), (some (63, true)), []⟩, oP 68 63 67, oM 69 68, gF 69 (oM 70 15), gF 69 (oJ 71 81 [(.t 70)]), gF 69 (oM 72 12), gF 69 (oB .neq 73 71 72), oQ 74 69 73, oM 75 74, gF 75 (oM 76 15), gF 75 (oC .lss 77 76 0), gF 75 (oM 78 10), ⟨(some 79), .eqb true (.t 77) (.t 78), (some (75, false)), []⟩, oQ 80 75 79])
  (.cond (.t 80) (.seq (r0 [oV 4 (vi 0), oV 5 (vi 0), oV 6 (vi 3)])
  .ret) .skip))
  (.seq (r0 [oM 81 15, oM 82 1, oC .add 83 82 1, oM 84 9, oB .add 85 83 84, oM 4 81, oM 5 85, oV 6 (vi 0)])
  .ret))))))))))))))
theorem is_codec_ReadInt : compile Try.prog Try.f72.ntmps (Try.f72.body.getD .skip) = some c_codec_ReadInt.strip := by kernel_rfl
abbrev F_snapshot_decoder_advance : Nat := 73
abbrev F_codec_ReadVec : Nat := 74
def c_codec_ReadVec : ACode := (.seq (r0 [oA 4 zD1_6, oV 5 (vi 0), oV 6 (vi 0)])
  (.seq (r0 [oM 11 0, oM 12 1, oJ 13 72 [(.t 11), (.t 12)], oM 10 13, oX 14 10 0, oX 15 10 1, oX 16 10 2, oM 7 14, oM 1 15, oM 8 16])
  (.seq (.seq (r0 [oM 17 8, oC .neq 18 17 0])
  (.cond (.t 18) (.seq (r0 [oW 19 zD1_6 [], oM 20 8, oS 2 4 19, oV 5 (vi 0), oM 6 20])
  .ret) .skip))
  (.seq (r0 [oM 22 0, oM 23 1, oJ 24 72 [(.t 22), (.t 23)], oM 21 24, oX 25 21 0, oX 26 21 1, oX 27 21 2, oM 9 25, oM 1 26, oM 8 27])
  (.seq (.seq (r0 [oM 28 8, oC .neq 29 28 0])
  (.cond (.t 29) (.seq (r0 [oW 30 zD1_6 [], oM 31 8, oS 2 4 30, oV 5 (vi 0), oM 6 31])
  .ret) .skip))
  (.seq (r0 [oM 32 7, oM 33 9, oW 34 zD1_6 [(0, 1, (.t 32)), (1, 1, (.t 33))], oM 35 1, oS 2 4 34, oM 5 35, oV 6 (vi 0)])
  .ret))))))
theorem is_codec_ReadVec : compile Try.prog Try.f74.ntmps (Try.f74.body.getD .skip) = some c_codec_ReadVec.strip := by kernel_rfl
abbrev F_snapshot_decoder_length : Nat := 76
abbrev F_codec_magnitude : Nat := 81
def c_codec_magnitude : ACode := (.seq (r0 [oV 2 (.sc (.int .u64 0))])
  (.seq (.seq (r0 [oM 3 0, oC .lss 4 3 0])
  (.cond (.t 4) (.seq (r0 [oM 5 0, ⟨(some 6), .convI .u64 (.t 5), none, []⟩, ⟨(some 7), .un .neg (.t 6), none, []⟩, oM 2 7])
  .ret) .skip))
  (.seq (r0 [oM 8 0, ⟨(some 9), .convI .u64 (.t 8), none, []⟩, oM 2 9])
  .ret)))
theorem is_codec_magnitude : compile Try.prog Try.f81.ntmps (Try.f81.body.getD .skip) = some c_codec_magnitude.strip := by kernel_rfl
abbrev F_codec_extend : Nat := 82
def c_codec_extend : ACode := (.seq (r0 [oV 4 vn])
  (.seq (r0 [oM 5 0, oM 6 0, oN 7 6, oM 8 0, oN 9 8, ⟨(some 10), .slice 1 (.t 5) none (some (.t 7)) (some (.t 9)), none, []⟩, oM 11 1, oZ 1 1 12 10 11, oM 4 12])
  .ret))
theorem is_codec_extend : compile Try.prog Try.f82.ntmps (Try.f82.body.getD .skip) = some c_codec_extend.strip := by kernel_rfl
abbrev F_codec_readByte : Nat := 83
def c_codec_readByte : ACode := (.seq (r0 [oV 4 (.sc (.int .u8 0)), oV 5 (vi 0)])
  (.seq (.block 0 (.seq (r0 [oM 7 1, oC .lss 8 7 0, oM 9 8, gF 9 (oM 10 1), gF 9 (oM 11 0), gF 9 (oN 12 11), gF 9 (oB .gtr 13 10 12), oQ 14 9 13, oM 6 14])
  (.cond (.t 6) (.seq (r0 [oV 4 (.sc (.int .u8 0)), oV 5 (vi 2)])
  .ret) (.seq (r0 [oM 16 1, oM 17 0, oN 18 17, oB .eql 19 16 18, oM 15 19])
  (.cond (.t 15) (.seq (r0 [oV 4 (.sc (.int .u8 0)), oV 5 (vi 4)])
  .ret) .skip)))))
  (.seq (r0 [oM 20 0, oM 21 1, oI 1 22 20 21, oL 23 22, oM 4 23, oV 5 (vi 0)])
  .ret)))
theorem is_codec_readByte : compile Try.prog Try.f83.ntmps (Try.f83.body.getD .skip) = some c_codec_readByte.strip := by kernel_rfl
end Go.Abs
