/- A part of the walk: contracts of functions that the statement reaches. -/
import Derived.Test.YtlldeiikcfaegaaGreatAbsC
import Derived.KernelRfl
import Derived.Eval
import Derived.Test.YtlldeiikcfaegaaGreatChecked
set_option linter.unusedSimpArgs false
set_option linter.unusedVariables false
set_option linter.unnecessarySimpa false
set_option maxRecDepth 100000
set_option maxHeartbeats 2000000
set_option linter.unusedSimpArgs false
set_option linter.unusedVariables false
namespace Go.Abs
open Go.Proofs
abbrev zD1_0 : List Value := [(.int .i64 0), (.int .i64 0), (.int .i64 0), (.int .i64 0), (.int .i64 0), (.slice none 0 0), (.slice none 0 0), (.slice none 0 0), (.slice none 0 0), (.int .i64 0), (.int .i64 0)]
abbrev zD1_1 : List Value := [(.int .u64 0), (.int .u64 0), (.int .u64 0)]
abbrev zD1_2 : List Value := [(.int .i64 0), (.int .i64 0), (.int .i64 0), (.int .i64 0), (.int .i64 0), (.int .i64 0), (.int .i64 0), (.int .i64 0), (.int .i64 0), (.int .i64 0), (.int .i64 0), (.int .i64 0), (.int .i64 0), (.int .i64 0), (.bool false), (.bool false), (.bool false), (.bool false), (.int .i64 0), (.slice none 0 0)]
abbrev zD1_3 : List Value := [(.int .i64 0), (.int .i64 0), (.int .i64 0), (.int .i64 0)]
abbrev zD1_4 : List Value := [(.int .i64 0), (.int .i64 0), (.int .i64 0), (.int .i64 0), (.int .i64 0), (.int .i64 0), (.slice none 0 0)]
abbrev zD1_5 : List Value := [(.int .i64 0), (.int .i64 0), (.int .i64 0), (.int .i64 0), (.int .i64 0), (.int .i64 0), (.int .i64 0), (.int .i64 0), (.int .i64 0), (.int .i64 0), (.int .i64 0), (.bool false), (.int .i64 0), (.int .i64 0), (.bool false), (.int .i64 0), (.int .i64 0), (.int .i64 0), (.int .i64 0), (.bool false), (.int .i64 0), (.int .i64 0), (.int .i64 0), (.int .i64 0)]
abbrev zD1_6 : List Value := [(.int .i64 0), (.int .i64 0)]
abbrev zD1_7 : List Value := [(.int .i64 0), (.int .i64 0), (.int .i64 0)]
abbrev zD1_13 : List Value := [(.int .i64 0), (.int .i64 0), (.int .i64 0), (.int .i64 0), (.int .i64 0), (.slice none 0 0), (.slice none 0 0), (.slice none 0 0), (.slice none 0 0), (.int .i64 0), (.int .i64 0), (.int .i64 0), (.int .i64 0), (.int .i64 0), (.int .i64 0), (.int .i64 0), (.slice none 0 0), (.slice none 0 0), (.slice none 0 0), (.slice none 0 0), (.int .i64 0), (.int .i64 0)]
abbrev zD1_14 : List Value := [(.int .i64 0), (.int .i64 0), (.slice none 0 0), (.int .i64 0), (.int .i64 0), (.int .i64 0), (.bool false), (.int .i64 0), (.int .i64 0), (.int .i64 0)]
attribute [go_sem] zD1_0 zD1_1 zD1_2 zD1_3 zD1_4 zD1_5 zD1_6 zD1_7 zD1_13 zD1_14
theorem hm : Tryz.prog.follows .mixedOrders = true := Tryz.checked.mixed
abbrev F_law46_StateHashChangedBodies : Nat := 13
def c_law46_StateHashChangedBodiesb0 : ACode := (.seq (.seq (r0 [oM 46 8, oM 47 5, oN 48 47, oB .lss 49 46 48])
  (.cond (.t 49) .skip (.exit 0)))
  (.seq (.block 1 (.seq (r1 [oM 52 5, oM 53 8, oI 1 54 52 53, oL 55 54, oM 56 6, oM 57 8, oI 1 58 56 57, oL 59 58, oB .neq 60 55 59, oM 61 60, gF 61 (oM 62 7), gF 61 (oM 63 8), gF 61 (oI 1 64 62 63), gF 61 (oL 65 64), gF 61 (oM 66 5), gF 61 (oM 67 8), gF 61 (oI 1 68 66 67), gF 61 (oL 69 68), gF 61 (oB .neq 70 65 69), oQ 71 61 70])
  (.cond (.t 71) (.seq (r0 [oV 4 (vb false)])
  .ret) .skip)))
  (r0 [oM 50 8, oC .add 51 50 1, oM 8 51])))
def c_law46_StateHashChangedBodies : ACode := (.seq (r0 [oE 2 0, oE 3 1, oV 4 (vb false)])
  (.seq (.seq (r0 [oR 11 9 2, oJ 10 15 [(.t 9)], oU 11 10, oM 12 11, gF 12 (oR 11 13 3), gF 12 (oJ 14 15 [(.t 13)]), gF 12 (oU 15 14), oQ 16 12 15])
  (.cond (.t 16) (.seq (r0 [oJ 17 16 [], oM 4 17])
  .ret) .skip))
  (.seq (r1 [oR 11 18 2, oR 11 19 3, oJ 20 50 [(.t 18), (.t 19)], ⟨(some 21), .load (some 11) (.t 2), none, [2]⟩, ⟨(some 22), .load (some 11) (.t 3), none, [2]⟩, oJ 23 51 [(.t 21), (.t 22)], oM 5 20, oM 6 23])
  (.seq (r0 [oR 11 24 3, oR 11 25 2, oJ 26 50 [(.t 24), (.t 25)], oM 7 26])
  (.seq (.seq (r0 [oM 27 5, oN 28 27, oM 29 6, oN 30 29, oB .neq 31 28 30, oM 32 31, gF 32 (oM 33 7), gF 32 (oN 34 33), gF 32 (oM 35 5), gF 32 (oN 36 35), gF 32 (oB .neq 37 34 36), oQ 38 32 37, oM 39 38, gF 39 (oR 11 40 2), gF 39 (oR 11 41 2), gF 39 (oJ 42 50 [(.t 40), (.t 41)]), gF 39 (oN 43 42), gF 39 (oC .neq 44 43 0), oQ 45 39 44])
  (.cond (.t 45) (.seq (r0 [oV 4 (vb false)])
  .ret) .skip))
  (.seq (.seq (r0 [oV 8 (vi 0)])
  (.block 0 (.loop c_law46_StateHashChangedBodiesb0)))
  (.seq (r0 [oJ 72 16 [], oM 4 72])
  .ret)))))))
theorem is_law46_StateHashChangedBodies : compile Tryz.prog Tryz.f13.ntmps (Tryz.f13.body.getD .skip) = some c_law46_StateHashChangedBodies.strip := by kernel_rfl
abbrev F_r25_Few : Nat := 15
def c_r25_Fewb0 : ACode := (.seq (.seq (r0 [oM 26 3, oF 7 27 1, oL 28 27, oN 29 28, oB .lss 30 26 29])
  (.cond (.t 30) .skip (.exit 0)))
  (.seq (.block 1 (.seq (r0 [oF 7 33 1, oL 34 33, oM 35 3, oI 7 36 34 35, oF 4 37 36, oF 2 38 37, oL 39 38, oN 40 39, oC .gtr 41 40 8])
  (.cond (.t 41) (.seq (r0 [oV 2 (vb false)])
  .ret) .skip)))
  (r0 [oM 31 3, oC .add 32 31 1, oM 3 32])))
def c_r25_Few : ACode := (.seq (r0 [oE 1 0, oV 2 (vb false)])
  (.seq (.seq (r0 [oF 6 4 1, oL 5 4, oN 6 5, oC .gtr 7 6 40, oM 8 7, gF 8 (oF 7 9 1), gF 8 (oL 10 9), gF 8 (oN 11 10), gF 8 (oC .gtr 12 11 80), oQ 13 8 12, oM 14 13, gF 14 (oF 8 15 1), gF 14 (oL 16 15), gF 14 (oN 17 16), gF 14 (oC .gtr 18 17 80), oQ 19 14 18, oM 20 19, gF 20 (oF 5 21 1), gF 20 (oL 22 21), gF 20 (oJ 23 55 [(.t 22), (ki 40)]), gF 20 (oU 24 23), oQ 25 20 24])
  (.cond (.t 25) (.seq (r0 [oV 2 (vb false)])
  .ret) .skip))
  (.seq (.seq (r0 [oV 3 (vi 0)])
  (.block 0 (.loop c_r25_Fewb0)))
  (.seq (r0 [oV 2 (vb true)])
  .ret))))
theorem is_r25_Few : compile Tryz.prog Tryz.f15.ntmps (Tryz.f15.body.getD .skip) = some c_r25_Few.strip := by kernel_rfl
abbrev F_law46_example : Nat := 16
def c_law46_example : ACode := (.seq (r0 [oV 0 (vb false)])
  (.seq (r0 [oY 1 1 3 zD1_1 [(0, 1, (.k (.sc (.int .u64 1)))), (1, 1, (.k (.sc (.int .u64 2)))), (2, 1, (.k (.sc (.int .u64 3))))], oY 1 2 3 zD1_1 [(0, 1, (.k (.sc (.int .u64 1)))), (1, 1, (.k (.sc (.int .u64 5)))), (2, 1, (.k (.sc (.int .u64 3))))], oJ 3 21 [(.t 1), (.t 2)], oC .eql 4 3 1, oM 5 4, gT 5 (oJ 6 21 [(.k vn), (.k vn)]), gT 5 (oC .eql 7 6 (-1)), oP 8 5 7, oM 9 8, gT 9 (oW 10 zD1_0 []), gT 9 (oJ 11 19 [(.t 10)]), ⟨(some 12), .bin .eql (.t 11) (.k (.sc (.int .u64 0))), (some (9, true)), []⟩, oP 13 9 12, oM 14 13, gT 14 (oJ 15 53 [(.k vn)]), ⟨(some 16), .bin .eql (.t 15) (.k (.sc (.int .u64 0))), (some (14, true)), []⟩, oP 17 14 16, oM 18 17, gT 18 (oJ 19 56 [(.k vn)]), ⟨(some 20), .bin .eql (.t 19) (.k (.sc (.int .u64 0))), (some (18, true)), []⟩, oP 21 18 20, oM 22 21, gT 22 (oY 1 23 1 [(.int .u8 0)] [(0, 1, (.k (.sc (.int .u8 7))))]), gT 22 (oJ 24 53 [(.t 23)]), gT 22 (oY 1 25 1 [(.int .i64 0)] [(0, 1, (ki 7))]), gT 22 (oJ 26 57 [(.t 25)]), gT 22 (oB .eql 27 24 26), oP 28 22 27, oM 0 28])
  .ret))
theorem is_law46_example : compile Tryz.prog Tryz.f16.ntmps (Tryz.f16.body.getD .skip) = some c_law46_example.strip := by kernel_rfl
abbrev F_statehash_OfWorld : Nat := 19
def c_statehash_OfWorld : ACode := (.seq (r0 [oE 1 0, oV 2 (.sc (.int .u64 0))])
  (.seq (r0 [oR 11 6 1, oJ 7 25 [(.t 6)], oM 5 7, oX 8 5 0, oX 9 5 1, oM 3 8, oM 4 9])
  (.seq (.seq (r0 [oM 10 4, oC .neq 11 10 0])
  (.cond (.t 11) (.seq (r0 [oV 2 (.sc (.int .u64 0))])
  .ret) .skip))
  (.seq (r0 [oM 12 3, oJ 13 53 [(.t 12)], oM 2 13])
  .ret))))
theorem is_statehash_OfWorld : compile Tryz.prog Tryz.f19.ntmps (Tryz.f19.body.getD .skip) = some c_statehash_OfWorld.strip := by kernel_rfl
abbrev F_statehash_FirstDifference : Nat := 21
def c_statehash_FirstDifferenceb0 : ACode := (.seq (r0 [oB .lss 12 11 10])
  (.seq (.cond (.t 12) .skip (.exit 0))
  (.seq (.block 1 (.seq (r0 [oM 13 11, oM 5 13])
  (.seq (r1 [oM 14 5, oM 15 0, oN 16 15, oB .geq 17 14 16, oM 18 17, gF 18 (oM 19 5), gF 18 (oM 20 1), gF 18 (oN 21 20), gF 18 (oB .geq 22 19 21), oQ 23 18 22, oM 24 23, gF 24 (oM 25 0), gF 24 (oM 26 5), gF 24 (oI 1 27 25 26), gF 24 (oL 28 27), gF 24 (oM 29 1), gF 24 (oM 30 5), gF 24 (oI 1 31 29 30), gF 24 (oL 32 31), gF 24 (oB .neq 33 28 32), oQ 34 24 33])
  (.cond (.t 34) (.seq (r0 [oM 35 5, oM 4 35])
  .ret) .skip))))
  (r0 [oC .add 36 11 1, oM 11 36]))))
def c_statehash_FirstDifference : ACode := (.seq (r0 [oV 4 (vi 0)])
  (.seq (.seq (r0 [oM 6 0, oN 7 6, oM 8 1, oN 9 8, ⟨(some 10), .minmax true (.t 7) (.t 9), none, []⟩, oV 11 (vi 0)])
  (.block 0 (.loop c_statehash_FirstDifferenceb0)))
  (.seq (r0 [oV 4 (vi (-1))])
  .ret)))
theorem is_statehash_FirstDifference : compile Tryz.prog Tryz.f21.ntmps (Tryz.f21.body.getD .skip) = some c_statehash_FirstDifference.strip := by kernel_rfl
abbrev F_snapshot_Encode : Nat := 25
def c_snapshot_Encodeb0 : ACode := (.seq (r0 [oB .lss 46 45 44])
  (.seq (.cond (.t 46) .skip (.exit 0))
  (.seq (.block 1 (.seq (r0 [oI 20 47 43 45, oR 20 48 47, oA 6 zD1_2, oS 20 6 48])
  (r0 [oM 49 4, oR 20 50 6, oJ 51 66 [(.t 49), (.t 50)]])))
  (r0 [oC .add 52 45 1, oM 45 52]))))
def c_snapshot_Encodeb1 : ACode := (.seq (r0 [oB .lss 63 62 61])
  (.seq (.cond (.t 63) .skip (.exit 2))
  (.seq (.block 3 (.seq (r0 [oI 24 64 60 62, oR 24 65 64, oA 8 zD1_5, oS 24 8 65])
  (r0 [oM 66 4, oR 24 67 8, oJ 68 67 [(.t 66), (.t 67)]])))
  (r0 [oC .add 69 62 1, oM 62 69]))))
def c_snapshot_Encodeb2 : ACode := (.seq (r0 [oB .lss 80 79 78])
  (.seq (.cond (.t 80) .skip (.exit 4))
  (.seq (.block 5 (.seq (r0 [oI 7 81 77 79, oR 7 82 81, oA 10 zD1_4, oS 7 10 82])
  (r0 [oM 83 4, oR 7 84 10, oJ 85 68 [(.t 83), (.t 84)]])))
  (r0 [oC .add 86 79 1, oM 79 86]))))
def c_snapshot_Encodeb3 : ACode := (.seq (r0 [oB .lss 97 96 95])
  (.seq (.cond (.t 97) .skip (.exit 6))
  (.seq (.block 7 (.seq (r0 [oI 4 98 94 96, oR 4 99 98, oA 12 zD1_3, oS 4 12 99])
  (r0 [oM 100 4, oR 4 101 12, oJ 102 69 [(.t 100), (.t 101)]])))
  (r0 [oC .add 103 96 1, oM 96 103]))))
def c_snapshot_Encode : ACode := (.seq (r0 [oE 1 0, oV 2 vn, oV 3 (vi 0)])
  (.seq (.seq (r0 [oR 11 13 1, oJ 14 26 [(.t 13)], oC .neq 15 14 0])
  (.cond (.t 15) (.seq (r0 [oV 2 vn, oV 3 (vi 18)])
  .ret) .skip))
  (.seq (r0 [oW 16 [(.slice none 0 0)] [], oE 17 16, oM 4 17])
  (.seq (r0 [oM 18 4, oF 0 19 1, oF 0 20 19, oL 21 20, oY 1 22 1 [(.int .i64 0)] [(0, 1, (.t 21))], oJ 23 64 [(.t 18), (.t 22)]])
  (.seq (r0 [oM 24 4, oF 0 25 1, oF 1 26 25, oR 2 27 26, oY 2 28 1 zD1_6 [(0, 2, (.t 27))], oJ 29 65 [(.t 24), (.t 28)]])
  (.seq (r0 [oM 30 4, oF 0 31 1, oF 3 32 31, oL 33 32, oF 0 34 1, oF 4 35 34, oL 36 35, oF 5 37 1, oL 38 37, oN 39 38, oY 1 40 3 zD1_7 [(0, 1, (.t 33)), (1, 1, (.t 36)), (2, 1, (.t 39))], oJ 41 64 [(.t 30), (.t 40)]])
  (.seq (.seq (r0 [oF 5 42 1, oL 43 42, oN 44 43, oV 45 (vi 0)])
  (.block 0 (.loop c_snapshot_Encodeb0)))
  (.seq (r0 [oM 53 4, oF 6 54 1, oL 55 54, oN 56 55, oY 1 57 1 [(.int .i64 0)] [(0, 1, (.t 56))], oJ 58 64 [(.t 53), (.t 57)]])
  (.seq (.seq (r0 [oF 6 59 1, oL 60 59, oN 61 60, oV 62 (vi 0)])
  (.block 2 (.loop c_snapshot_Encodeb1)))
  (.seq (r0 [oM 70 4, oF 7 71 1, oL 72 71, oN 73 72, oY 1 74 1 [(.int .i64 0)] [(0, 1, (.t 73))], oJ 75 64 [(.t 70), (.t 74)]])
  (.seq (.seq (r0 [oF 7 76 1, oL 77 76, oN 78 77, oV 79 (vi 0)])
  (.block 4 (.loop c_snapshot_Encodeb2)))
  (.seq (r0 [oM 87 4, oF 8 88 1, oL 89 88, oN 90 89, oY 1 91 1 [(.int .i64 0)] [(0, 1, (.t 90))], oJ 92 64 [(.t 87), (.t 91)]])
  (.seq (.seq (r0 [oF 8 93 1, oL 94 93, oN 95 94, oV 96 (vi 0)])
  (.block 6 (.loop c_snapshot_Encodeb3)))
  (.seq (r0 [oM 104 4, oF 9 105 1, oL 106 105, oF 10 107 1, oL 108 107, oY 1 109 2 zD1_6 [(0, 1, (.t 106)), (1, 1, (.t 108))], oJ 110 64 [(.t 104), (.t 109)]])
  (.seq (r0 [oM 111 4, ⟨(some 112), .nilck (.t 111), none, []⟩, oF 0 113 112, oL 114 113, oJ 115 70 [(.t 114)], oM 2 115, oV 3 (vi 0)])
  .ret)))))))))))))))
theorem is_snapshot_Encode : compile Tryz.prog Tryz.f25.ntmps (Tryz.f25.body.getD .skip) = some c_snapshot_Encode.strip := by kernel_rfl
abbrev F_world_Validate : Nat := 26
def c_world_Validate : ACode := (.seq (r0 [oE 1 0, oV 2 (vi 0)])
  (.seq (.block 0 (.seq (r0 [oF 0 4 1, oR 5 5 4, oJ 6 71 [(.t 5)], oC .neq 7 6 0, oM 3 7])
  (.cond (.t 3) (.seq (r0 [oV 2 (vi 17)])
  .ret) (.seq (r0 [oF 5 9 1, oL 10 9, oN 11 10, oC .gtr 12 11 32, oM 13 12, gF 13 (oF 6 14 1), gF 13 (oL 15 14), gF 13 (oN 16 15), gF 13 (oC .gtr 17 16 32), oQ 18 13 17, oM 19 18, gF 19 (oF 7 20 1), gF 19 (oL 21 20), gF 19 (oN 22 21), gF 19 (oC .gtr 23 22 8192), oQ 24 19 23, oM 25 24, gF 25 (oF 8 26 1), gF 25 (oL 27 26), gF 25 (oN 28 27), gF 25 (oC .gtr 29 28 8192), oQ 30 25 29, oM 8 30])
  (.cond (.t 8) (.seq (r0 [oV 2 (vi 11)])
  .ret) (.seq (r0 [oF 9 32 1, oL 33 32, oJ 34 72 [(.t 33), (ki 1), (ki 1099511627776)], oU 35 34, oM 36 35, gF 36 (oF 10 37 1), gF 36 (oL 38 37), gF 36 (oJ 39 72 [(.t 38), (ki 0), (ki 1099511627776)]), gF 36 (oU 40 39), oQ 41 36 40, oM 31 41])
  (.cond (.t 31) (.seq (r0 [oV 2 (vi 6)])
  .ret) (.seq (r0 [oR 11 43 1, oJ 44 73 [(.t 43)], oU 45 44, oM 42 45])
  (.cond (.t 42) (.seq (r0 [oV 2 (vi 14)])
  .ret) (.seq (r0 [oR 11 47 1, oJ 48 74 [(.t 47)], oU 49 48, oM 46 49])
  (.cond (.t 46) (.seq (r0 [oV 2 (vi 15)])
  .ret) (.seq (r0 [oR 11 51 1, oJ 52 75 [(.t 51)], oU 53 52, oM 50 53])
  (.cond (.t 50) (.seq (r0 [oV 2 (vi 16)])
  .ret) .skip)))))))))))))
  (.seq (r0 [oV 2 (vi 0)])
  .ret)))
theorem is_world_Validate : compile Tryz.prog Tryz.f26.ntmps (Tryz.f26.body.getD .skip) = some c_world_Validate.strip := by kernel_rfl
abbrev F_statehash_ChangedBodies : Nat := 50
def c_statehash_ChangedBodiesb0 : ACode := (.seq (r0 [oB .lss 32 31 30])
  (.seq (.cond (.t 32) .skip (.exit 2))
  (.seq (.block 3 (.seq (r0 [oI 20 33 29 31, oR 20 34 33, oA 11 zD1_2, oS 20 11 34])
  (.seq (r0 [oM 36 5, oF 0 37 11, oL 38 37, ⟨(some 39), .lookup .i64 (.agg #[(.int .i64 0), (.int .i64 0), (.int .i64 0), (.int .i64 0), (.int .i64 0), (.int .i64 0), (.int .i64 0), (.int .i64 0), (.int .i64 0), (.int .i64 0), (.int .i64 0), (.int .i64 0), (.int .i64 0), (.int .i64 0), (.bool false), (.bool false), (.bool false), (.bool false), (.int .i64 0), (.slice none 0 0)]) true (.t 36) (.t 38), none, []⟩, oM 35 39, oX 40 35 0, oX 41 35 1, oA 12 zD1_2, oS 20 12 40, oM 13 41])
  (.seq (r0 [oM 43 6, oF 0 44 11, oL 45 44, ⟨(some 46), .lookup .i64 (.agg #[(.int .i64 0), (.int .i64 0), (.int .i64 0), (.int .i64 0), (.int .i64 0), (.int .i64 0), (.int .i64 0), (.int .i64 0), (.int .i64 0), (.int .i64 0), (.int .i64 0), (.int .i64 0), (.int .i64 0), (.int .i64 0), (.bool false), (.bool false), (.bool false), (.bool false), (.int .i64 0), (.slice none 0 0)]) true (.t 43) (.t 45), none, []⟩, oM 42 46, oX 47 42 0, oX 48 42 1, oA 14 zD1_2, oS 20 14 47, oM 15 48])
  (.seq (r0 [oM 49 13, oU 50 49, oM 51 50, gF 51 (oM 52 15), gF 51 (oU 53 52), oQ 54 51 53, oM 55 54, gF 55 (oR 20 56 12), gF 55 (oR 20 57 14), gF 55 (oJ 58 115 [(.t 56), (.t 57)]), gF 55 (oU 59 58), oQ 60 55 59])
  (.cond (.t 60) (r0 [oM 61 7, oF 0 62 11, oL 63 62, oY 1 64 1 [(.int .i64 0)] [(0, 1, (.t 63))], oZ 1 8 65 61 64, oM 7 65]) .skip))))))
  (r0 [oC .add 66 31 1, oM 31 66]))))
def c_statehash_ChangedBodiesb1 : ACode := (.seq (r0 [oB .lss 25 24 23])
  (.seq (.cond (.t 25) .skip (.exit 0))
  (.seq (.block 1 (.seq (r0 [oI 11 26 22 24, oR 11 27 26, oA 9 zD1_0, oS 11 9 27])
  (.seq (r0 [oF 5 28 9, oL 29 28, oN 30 29, oV 31 (vi 0)])
  (.block 2 (.loop c_statehash_ChangedBodiesb0)))))
  (r0 [oC .add 67 24 1, oM 24 67]))))
def c_statehash_ChangedBodies : ACode := (.seq (r0 [oE 2 0, oE 3 1, oV 4 vn])
  (.seq (r1 [oR 11 16 2, oJ 17 114 [(.t 16)], ⟨(some 18), .load (some 11) (.t 3), none, [1]⟩, oJ 19 114 [(.t 18)], oM 5 17, oM 6 19])
  (.seq (r0 [oV 7 vn])
  (.seq (.seq (r0 [oR 11 20 2, oR 11 21 3, oY 11 22 2 zD1_13 [(0, 11, (.t 20)), (11, 11, (.t 21))], oN 23 22, oV 24 (vi 0)])
  (.block 0 (.loop c_statehash_ChangedBodiesb1)))
  (.seq (r0 [oM 68 7, oJ 69 101 [(.t 68)]])
  (.seq (r0 [oM 70 7, oJ 71 102 [(.t 70)], oM 4 71])
  .ret))))))
theorem is_statehash_ChangedBodies : compile Tryz.prog Tryz.f50.ntmps (Tryz.f50.body.getD .skip) = some c_statehash_ChangedBodies.strip := by kernel_rfl
abbrev F_r46_ChangedBodies : Nat := 51
def c_r46_ChangedBodies : ACode := (.seq (r0 [oE 2 0, oE 3 1, oV 4 vn])
  (.seq (r1 [oR 11 5 2, oR 11 6 3, oJ 7 116 [(.k vn), (.t 5), (.t 6)], ⟨(some 8), .load (some 11) (.t 3), none, [2]⟩, ⟨(some 9), .load (some 11) (.t 2), none, [2]⟩, oJ 10 116 [(.t 7), (.t 8), (.t 9)], oM 4 10])
  .ret))
theorem is_r46_ChangedBodies : compile Tryz.prog Tryz.f51.ntmps (Tryz.f51.body.getD .skip) = some c_r46_ChangedBodies.strip := by kernel_rfl
abbrev F_statehash_OfBytes : Nat := 53
def c_statehash_OfBytesb0 : ACode := (.seq (r0 [oB .lss 12 11 10])
  (.seq (.cond (.t 12) .skip (.exit 0))
  (.seq (.block 1 (.seq (r0 [oI 1 13 9 11, oL 14 13, oM 5 14])
  (r0 [oM 15 3, oM 16 5, ⟨(some 17), .convI .i64 (.t 16), none, []⟩, oY 1 18 1 [(.int .i64 0)] [(0, 1, (.t 17))], oZ 1 8 19 15 18, oM 3 19])))
  (r0 [oC .add 20 11 1, oM 11 20]))))
def c_statehash_OfBytes : ACode := (.seq (r0 [oV 2 (.sc (.int .u64 0))])
  (.seq (r0 [oM 6 0, oN 7 6, ⟨(some 8), .mkslice 1 8 [(.int .i64 0)] (ki 0) (.t 7), none, []⟩, oM 3 8])
  (.seq (.seq (r0 [oM 9 0, oN 10 9, oV 11 (vi 0)])
  (.block 0 (.loop c_statehash_OfBytesb0)))
  (.seq (r0 [oM 21 3, oJ 22 57 [(.t 21)], oM 2 22])
  .ret))))
theorem is_statehash_OfBytes : compile Tryz.prog Tryz.f53.ntmps (Tryz.f53.body.getD .skip) = some c_statehash_OfBytes.strip := by kernel_rfl
abbrev F_r22_Few : Nat := 55
def c_r22_Fewb0 : ACode := (.seq (.seq (r0 [oM 24 6, oM 25 0, oM 26 5, oI 20 27 25 26, oF 19 28 27, oL 29 28, oN 30 29, oB .lss 31 24 30])
  (.cond (.t 31) .skip (.exit 2)))
  (.seq (.block 3 (.seq (r0 [oM 34 0, oM 35 5, oI 20 36 34 35, oF 19 37 36, oL 38 37, oM 39 6, oI 10 40 38 39, oF 0 41 40, oF 2 42 41, oL 43 42, oN 44 43, oC .gtr 45 44 20])
  (.cond (.t 45) (.seq (r0 [oV 4 (vb false)])
  .ret) .skip)))
  (r0 [oM 32 6, oC .add 33 32 1, oM 6 33])))
def c_r22_Fewb1 : ACode := (.seq (.seq (r0 [oM 11 5, oM 12 0, oN 13 12, oB .lss 14 11 13])
  (.cond (.t 14) .skip (.exit 0)))
  (.seq (.block 1 (.seq (.seq (r0 [oM 17 0, oM 18 5, oI 20 19 17 18, oF 19 20 19, oL 21 20, oN 22 21, oC .gtr 23 22 8])
  (.cond (.t 23) (.seq (r0 [oV 4 (vb false)])
  .ret) .skip))
  (.seq (r0 [oV 6 (vi 0)])
  (.block 2 (.loop c_r22_Fewb0)))))
  (r0 [oM 15 5, oC .add 16 15 1, oM 5 16])))
def c_r22_Few : ACode := (.seq (r0 [oV 4 (vb false)])
  (.seq (.seq (r0 [oM 7 0, oN 8 7, oM 9 1, oB .gtr 10 8 9])
  (.cond (.t 10) (.seq (r0 [oV 4 (vb false)])
  .ret) .skip))
  (.seq (.seq (r0 [oV 5 (vi 0)])
  (.block 0 (.loop c_r22_Fewb1)))
  (.seq (r0 [oV 4 (vb true)])
  .ret))))
theorem is_r22_Few : compile Tryz.prog Tryz.f55.ntmps (Tryz.f55.body.getD .skip) = some c_r22_Few.strip := by kernel_rfl
abbrev F_statehash_Chain : Nat := 56
def c_statehash_Chainb0 : ACode := (.seq (r0 [oB .lss 9 8 7])
  (.seq (.cond (.t 9) .skip (.exit 0))
  (.seq (.block 1 (.seq (r0 [oI 1 10 6 8, oL 11 10, oM 5 11])
  (r0 [oM 12 3, oM 13 5, ⟨(some 14), .convI .i64 (.t 13), none, []⟩, oJ 15 125 [(.t 12), (.t 14)], oM 3 15])))
  (r0 [oC .add 16 8 1, oM 8 16]))))
def c_statehash_Chain : ACode := (.seq (r0 [oV 2 (.sc (.int .u64 0))])
  (.seq (r0 [oV 3 (.sc (.int .u64 0))])
  (.seq (.seq (r0 [oM 6 0, oN 7 6, oV 8 (vi 0)])
  (.block 0 (.loop c_statehash_Chainb0)))
  (.seq (r0 [oM 17 3, oM 2 17])
  .ret))))
theorem is_statehash_Chain : compile Tryz.prog Tryz.f56.ntmps (Tryz.f56.body.getD .skip) = some c_statehash_Chain.strip := by kernel_rfl
abbrev F_checksum_HashInts : Nat := 57
def c_checksum_HashIntsb0 : ACode := (.seq (r0 [oB .lss 12 11 10])
  (.seq (.cond (.t 12) .skip (.exit 0))
  (.seq (.block 1 (.seq (r0 [oI 1 13 9 11, oL 14 13, oM 5 14])
  (r0 [oM 15 3, oM 16 5, oJ 17 125 [(.t 15), (.t 16)], oM 3 17])))
  (r0 [oC .add 18 11 1, oM 11 18]))))
def c_checksum_HashInts : ACode := (.seq (r0 [oV 2 (.sc (.int .u64 0))])
  (.seq (r0 [oM 6 0, oN 7 6, ⟨(some 8), .convI .u64 (.t 7), none, []⟩, oM 3 8])
  (.seq (.seq (r0 [oM 9 0, oN 10 9, oV 11 (vi 0)])
  (.block 0 (.loop c_checksum_HashIntsb0)))
  (.seq (r0 [oM 19 3, oM 2 19])
  .ret))))
theorem is_checksum_HashInts : compile Tryz.prog Tryz.f57.ntmps (Tryz.f57.body.getD .skip) = some c_checksum_HashInts.strip := by kernel_rfl
abbrev F_world_ValidateSettings : Nat := 71
def c_world_ValidateSettings : ACode := (.seq (r0 [oE 1 0, oV 2 (vi 0)])
  (.seq (r0 [oF 1 4 1, oF 0 5 4, oL 6 5, oJ 7 72 [(.t 6), (ki (-16777216)), (ki 16777216)], oM 8 7, gT 8 (oF 1 9 1), gT 8 (oF 1 10 9), gT 8 (oL 11 10), gT 8 (oJ 12 72 [(.t 11), (ki (-16777216)), (ki 16777216)]), oP 13 8 12, oM 3 13])
  (.seq (.seq (r0 [oF 0 14 1, oL 15 14, oJ 16 72 [(.t 15), (ki 64), (ki 8192)], oU 17 16, oM 18 17, gF 18 (oM 19 3), gF 18 (oU 20 19), oQ 21 18 20, oM 22 21, gF 22 (oF 3 23 1), gF 22 (oL 24 23), gF 22 (oJ 25 72 [(.t 24), (ki 1), (ki 32)]), gF 22 (oU 26 25), oQ 27 22 26, oM 28 27, gF 28 (oF 4 29 1), gF 28 (oL 30 29), gF 28 (oJ 31 72 [(.t 30), (ki 0), (ki 1048576)]), gF 28 (oU 32 31), oQ 33 28 32])
  (.cond (.t 33) (.seq (r0 [oV 2 (vi 6)])
  .ret) .skip))
  (.seq (r0 [oV 2 (vi 0)])
  .ret))))
theorem is_world_ValidateSettings : compile Tryz.prog Tryz.f71.ntmps (Tryz.f71.body.getD .skip) = some c_world_ValidateSettings.strip := by kernel_rfl
abbrev F_world_in : Nat := 72
def c_world_in : ACode := (.seq (r0 [oV 6 (vb false)])
  (.seq (r0 [oM 7 0, oM 8 1, oB .geq 9 7 8, oM 10 9, gT 10 (oM 11 0), gT 10 (oM 12 2), gT 10 (oB .leq 13 11 12), oP 14 10 13, oM 6 14])
  .ret))
theorem is_world_in : compile Tryz.prog Tryz.f72.ntmps (Tryz.f72.body.getD .skip) = some c_world_in.strip := by kernel_rfl
abbrev F_r23_Equal : Nat := 80
def c_r23_Equalb0 : ACode := (.seq (.seq (r0 [oM 13 5, oF 19 14 2, oL 15 14, oN 16 15, oB .lss 17 13 16, oM 18 17, gT 18 (oM 19 5), gT 18 (oF 19 20 3), gT 18 (oL 21 20), gT 18 (oN 22 21), gT 18 (oB .lss 23 19 22), oP 24 18 23])
  (.cond (.t 24) .skip (.exit 0)))
  (.seq (.block 1 (.seq (r1 [oF 19 27 2, oL 28 27, oM 29 5, oI 10 30 28 29, oR 10 31 30, oF 19 32 3, oL 33 32, oM 34 5, oI 10 35 33 34, oR 10 36 35, oJ 37 159 [(.t 31), (.t 36)], oU 38 37])
  (.cond (.t 38) (.seq (r0 [oV 4 (vb false)])
  .ret) .skip)))
  (r0 [oM 25 5, oC .add 26 25 1, oM 5 26])))
def c_r23_Equal : ACode := (.seq (r0 [oE 2 0, oE 3 1, oV 4 (vb false)])
  (.seq (.seq (r0 [oF 19 6 2, oL 7 6, oN 8 7, oF 19 9 3, oL 10 9, oN 11 10, oB .neq 12 8 11])
  (.cond (.t 12) (.seq (r0 [oV 4 (vb false)])
  .ret) .skip))
  (.seq (.seq (r0 [oV 5 (vi 0)])
  (.block 0 (.loop c_r23_Equalb0)))
  (.seq (.seq (r0 [oF 0 39 2, oL 40 39, oF 0 41 3, oL 42 41, oB .neq 43 40 42, oM 44 43, gF 44 (oF 1 45 2), gF 44 (oL 46 45), gF 44 (oF 1 47 3), gF 44 (oL 48 47), gF 44 (oB .neq 49 46 48), oQ 50 44 49, oM 51 50, gF 51 (oF 2 52 2), gF 51 (oR 3 53 52), gF 51 (oF 2 54 3), gF 51 (oR 3 55 54), ⟨(some 56), .eqa [true, true, true] true (.t 53) (.t 55), (some (51, false)), []⟩, oQ 57 51 56, oM 58 57, gF 58 (oF 5 59 2), gF 58 (oR 2 60 59), gF 58 (oF 5 61 3), gF 58 (oR 2 62 61), ⟨(some 63), .eqa [true, true] true (.t 60) (.t 62), (some (58, false)), []⟩, oQ 64 58 63, oM 65 64, gF 65 (oF 7 66 2), gF 65 (oL 67 66), gF 65 (oF 7 68 3), gF 65 (oL 69 68), gF 65 (oB .neq 70 67 69), oQ 71 65 70, oM 72 71, gF 72 (oF 8 73 2), gF 72 (oR 2 74 73), gF 72 (oF 8 75 3), gF 72 (oR 2 76 75), ⟨(some 77), .eqa [true, true] true (.t 74) (.t 76), (some (72, false)), []⟩, oQ 78 72 77, oM 79 78, gF 79 (oF 10 80 2), gF 79 (oL 81 80), gF 79 (oF 10 82 3), gF 79 (oL 83 82), gF 79 (oB .neq 84 81 83), oQ 85 79 84])
  (.cond (.t 85) (.seq (r0 [oV 4 (vb false)])
  .ret) .skip))
  (.seq (r0 [oF 11 86 2, oL 87 86, oF 11 88 3, oL 89 88, oB .eql 90 87 89, oM 91 90, gT 91 (oF 12 92 2), gT 91 (oL 93 92), gT 91 (oF 12 94 3), gT 91 (oL 95 94), gT 91 (oB .eql 96 93 95), oP 97 91 96, oM 98 97, gT 98 (oF 13 99 2), gT 98 (oL 100 99), gT 98 (oF 13 101 3), gT 98 (oL 102 101), gT 98 (oB .eql 103 100 102), oP 104 98 103, oM 105 104, gT 105 (oF 14 106 2), gT 105 (oL 107 106), gT 105 (oF 14 108 3), gT 105 (oL 109 108), ⟨(some 110), .eqb false (.t 107) (.t 109), (some (105, true)), []⟩, oP 111 105 110, oM 112 111, gT 112 (oF 15 113 2), gT 112 (oL 114 113), gT 112 (oF 15 115 3), gT 112 (oL 116 115), ⟨(some 117), .eqb false (.t 114) (.t 116), (some (112, true)), []⟩, oP 118 112 117, oM 119 118, gT 119 (oF 16 120 2), gT 119 (oL 121 120), gT 119 (oF 16 122 3), gT 119 (oL 123 122), ⟨(some 124), .eqb false (.t 121) (.t 123), (some (119, true)), []⟩, oP 125 119 124, oM 126 125, gT 126 (oF 17 127 2), gT 126 (oL 128 127), gT 126 (oF 17 129 3), gT 126 (oL 130 129), ⟨(some 131), .eqb false (.t 128) (.t 130), (some (126, true)), []⟩, oP 132 126 131, oM 133 132, gT 133 (oF 18 134 2), gT 133 (oL 135 134), gT 133 (oF 18 136 3), gT 133 (oL 137 136), gT 133 (oB .eql 138 135 137), oP 139 133 138, oM 4 139])
  .ret)))))
theorem is_r23_Equal : compile Tryz.prog Tryz.f80.ntmps (Tryz.f80.body.getD .skip) = some c_r23_Equal.strip := by kernel_rfl
abbrev F_island_Bodies_f1 : Nat := 98
abbrev F_slices_Sort_int : Nat := 101
abbrev F_slices_Compact_int : Nat := 102
abbrev F_statehash_bodiesByID : Nat := 114
def c_statehash_bodiesByIDb0 : ACode := (.seq (r0 [oB .lss 13 12 11])
  (.seq (.cond (.t 13) .skip (.exit 0))
  (.seq (.block 1 (.seq (r0 [oI 20 14 10 12, oR 20 15 14, oA 5 zD1_2, oS 20 5 15])
  (.seq (r0 [oM 17 3, oF 0 18 5, oL 19 18, ⟨(some 20), .lookup .i64 (.agg #[(.int .i64 0), (.int .i64 0), (.int .i64 0), (.int .i64 0), (.int .i64 0), (.int .i64 0), (.int .i64 0), (.int .i64 0), (.int .i64 0), (.int .i64 0), (.int .i64 0), (.int .i64 0), (.int .i64 0), (.int .i64 0), (.bool false), (.bool false), (.bool false), (.bool false), (.int .i64 0), (.slice none 0 0)]) true (.t 17) (.t 19), none, []⟩, oM 16 20, oX 21 16 0, oX 22 16 1, oA 6 zD1_2, oS 20 6 21, oM 7 22])
  (.seq (r0 [oM 23 7, oU 24 23])
  (.cond (.t 24) (r0 [oM 25 3, oF 0 26 5, oL 27 26, oR 20 28 5, ⟨none, .mset .i64 (.t 25) (.t 27) (.t 28), none, []⟩]) .skip)))))
  (r0 [oC .add 29 12 1, oM 12 29]))))
def c_statehash_bodiesByID : ACode := (.seq (r0 [oE 1 0, oV 2 (.sc (.map none))])
  (.seq (r0 [⟨(some 8), .mkmap .i64, none, []⟩, oM 3 8])
  (.seq (.seq (r0 [oF 5 9 1, oL 10 9, oN 11 10, oV 12 (vi 0)])
  (.block 0 (.loop c_statehash_bodiesByIDb0)))
  (.seq (r0 [oM 30 3, oM 2 30])
  .ret))))
theorem is_statehash_bodiesByID : compile Tryz.prog Tryz.f114.ntmps (Tryz.f114.body.getD .skip) = some c_statehash_bodiesByID.strip := by kernel_rfl
abbrev F_body_Equal : Nat := 115
def c_body_Equalb0 : ACode := (.seq (r0 [oB .lss 24 23 22])
  (.seq (.cond (.t 24) .skip (.exit 0))
  (.seq (.block 1 (.seq (r0 [oM 25 23, oI 10 26 21 23, oR 10 27 26, oA 6 zD1_14, oM 5 25, oS 10 6 27])
  (.seq (r1 [oR 10 28 6, oF 19 29 3, oL 30 29, oM 31 5, oI 10 32 30 31, oR 10 33 32, oJ 34 193 [(.t 28), (.t 33)], oU 35 34])
  (.cond (.t 35) (.seq (r0 [oV 4 (vb false)])
  .ret) .skip))))
  (r0 [oC .add 36 23 1, oM 23 36]))))
def c_body_Equal : ACode := (.seq (r0 [oE 2 0, oE 3 1, oV 4 (vb false)])
  (.seq (.seq (r0 [oF 19 13 2, oL 14 13, oN 15 14, oF 19 16 3, oL 17 16, oN 18 17, oB .neq 19 15 18])
  (.cond (.t 19) (.seq (r0 [oV 4 (vb false)])
  .ret) .skip))
  (.seq (.seq (r0 [oF 19 20 2, oL 21 20, oN 22 21, oV 23 (vi 0)])
  (.block 0 (.loop c_body_Equalb0)))
  (.seq (r0 [oF 0 37 2, oL 38 37, oF 0 39 3, oL 40 39, oB .eql 41 38 40, oM 42 41, gT 42 (oF 1 43 2), gT 42 (oL 44 43), gT 42 (oF 1 45 3), gT 42 (oL 46 45), gT 42 (oB .eql 47 44 46), oP 48 42 47, oM 49 48, gT 49 (oF 2 50 2), gT 49 (oR 3 51 50), gT 49 (oF 2 52 3), gT 49 (oR 3 53 52), ⟨(some 54), .eqa [true, true, true] false (.t 51) (.t 53), (some (49, true)), []⟩, oP 55 49 54, oM 7 55])
  (.seq (r0 [oF 5 56 2, oR 2 57 56, oF 5 58 3, oR 2 59 58, ⟨(some 60), .eqa [true, true] false (.t 57) (.t 59), none, []⟩, oM 61 60, gT 61 (oF 7 62 2), gT 61 (oL 63 62), gT 61 (oF 7 64 3), gT 61 (oL 65 64), gT 61 (oB .eql 66 63 65), oP 67 61 66, oM 8 67])
  (.seq (r0 [oF 8 68 2, oR 2 69 68, oF 8 70 3, oR 2 71 70, ⟨(some 72), .eqa [true, true] false (.t 69) (.t 71), none, []⟩, oM 73 72, gT 73 (oF 10 74 2), gT 73 (oL 75 74), gT 73 (oF 10 76 3), gT 73 (oL 77 76), gT 73 (oB .eql 78 75 77), oP 79 73 78, oM 9 79])
  (.seq (r0 [oF 11 80 2, oL 81 80, oF 11 82 3, oL 83 82, oB .eql 84 81 83, oM 85 84, gT 85 (oF 12 86 2), gT 85 (oL 87 86), gT 85 (oF 12 88 3), gT 85 (oL 89 88), gT 85 (oB .eql 90 87 89), oP 91 85 90, oM 92 91, gT 92 (oF 13 93 2), gT 92 (oL 94 93), gT 92 (oF 13 95 3), gT 92 (oL 96 95), gT 92 (oB .eql 97 94 96), oP 98 92 97, oM 10 98])
  (.seq (r0 [oF 14 99 2, oL 100 99, oF 14 101 3, oL 102 101, ⟨(some 103), .eqb false (.t 100) (.t 102), none, []⟩, oM 104 103, gT 104 (oF 15 105 2), gT 104 (oL 106 105), gT 104 (oF 15 107 3), gT 104 (oL 108 107), ⟨(some 109), .eqb false (.t 106) (.t 108), (some (104, true)), []⟩, oP 110 104 109, oM 111 110, gT 111 (oF 16 112 2), gT 111 (oL 113 112), gT 111 (oF 16 114 3), gT 111 (oL 115 114), ⟨(some 116), .eqb false (.t 113) (.t 115), (some (111, true)), []⟩, oP 117 111 116, oM 11 117])
  (.seq (r0 [oF 17 118 2, oL 119 118, oF 17 120 3, oL 121 120, ⟨(some 122), .eqb false (.t 119) (.t 121), none, []⟩, oM 123 122, gT 123 (oF 18 124 2), gT 123 (oL 125 124), gT 123 (oF 18 126 3), gT 123 (oL 127 126), gT 123 (oB .eql 128 125 127), oP 129 123 128, oM 12 129])
  (.seq (r0 [oM 130 7, oM 131 130, gT 131 (oM 132 8), oP 133 131 132, oM 134 133, gT 134 (oM 135 9), oP 136 134 135, oM 137 136, gT 137 (oM 138 10), oP 139 137 138, oM 140 139, gT 140 (oM 141 11), oP 142 140 141, oM 143 142, gT 143 (oM 144 12), oP 145 143 144, oM 4 145])
  .ret))))))))))
theorem is_body_Equal : compile Tryz.prog Tryz.f115.ntmps (Tryz.f115.body.getD .skip) = some c_body_Equal.strip := by kernel_rfl
abbrev F_r46_changed : Nat := 116
def c_r46_changedb0 : ACode := (.seq (.seq (r0 [oM 11 7, oF 5 12 4, oL 13 12, oN 14 13, oB .lss 15 11 14])
  (.cond (.t 15) .skip (.exit 0)))
  (.seq (.block 1 (.seq (r0 [oF 5 18 4, oL 19 18, oM 20 7, oI 20 21 19 20, oF 0 22 21, oL 23 22, oM 8 23])
  (.seq (r1 [oR 11 24 4, oM 25 8, oJ 26 184 [(.t 24), (.t 25)], ⟨(some 27), .load (some 11) (.t 5), none, [2]⟩, oM 28 8, oJ 29 184 [(.t 27), (.t 28)], oM 9 26, oM 10 29])
  (.seq (r1 [oM 30 10, oC .lss 31 30 0, oM 32 31, gF 32 (oF 5 33 4), gF 32 (oL 34 33), gF 32 (oM 35 9), gF 32 (oI 20 36 34 35), gF 32 (oR 20 37 36), gF 32 (oF 5 38 5), gF 32 (oL 39 38), gF 32 (oM 40 10), gF 32 (oI 20 41 39 40), gF 32 (oR 20 42 41), gF 32 (oJ 43 80 [(.t 37), (.t 42)]), gF 32 (oU 44 43), oQ 45 32 44])
  (.cond (.t 45) (r0 [oM 46 0, oM 47 8, oJ 48 194 [(.t 46), (.t 47)], oM 0 48]) .skip)))))
  (r0 [oM 16 7, oC .add 17 16 1, oM 7 17])))
def c_r46_changed : ACode := (.seq (r0 [oE 4 1, oE 5 2, oV 6 vn])
  (.seq (.seq (r0 [oV 7 (vi 0)])
  (.block 0 (.loop c_r46_changedb0)))
  (.seq (r0 [oM 49 0, oM 6 49])
  .ret)))
theorem is_r46_changed : compile Tryz.prog Tryz.f116.ntmps (Tryz.f116.body.getD .skip) = some c_r46_changed.strip := by kernel_rfl
abbrev F_checksum_Mix64 : Nat := 125
def c_checksum_Mix64 : ACode := (.seq (r0 [oV 4 (.sc (.int .u64 0))])
  (.seq (r0 [oM 6 0, oM 7 1, ⟨(some 8), .convI .u64 (.t 7), none, []⟩, oB .xor 9 6 8, ⟨(some 10), .bin .mul (.t 9) (.k (.sc (.int .u64 11400714819323198485))), none, []⟩, oM 5 10])
  (.seq (r0 [oM 11 5, oM 12 5, ⟨(some 13), .bin .shr (.t 12) (.k (.sc (.int .u64 32))), none, []⟩, oB .xor 14 11 13, ⟨(some 15), .bin .mul (.t 14) (.k (.sc (.int .u64 15485907386658061715))), none, []⟩, oM 5 15])
  (.seq (r0 [oM 16 5, oM 17 5, ⟨(some 18), .bin .shr (.t 17) (.k (.sc (.int .u64 29))), none, []⟩, oB .xor 19 16 18, oM 4 19])
  .ret))))
theorem is_checksum_Mix64 : compile Tryz.prog Tryz.f125.ntmps (Tryz.f125.body.getD .skip) = some c_checksum_Mix64.strip := by kernel_rfl
abbrev F_r23_EqualFixture : Nat := 159
def c_r23_EqualFixture : ACode := (.seq (r0 [oE 2 0, oE 3 1, oV 4 (vb false)])
  (.seq (r0 [oF 0 5 2, oR 3 6 5, oF 0 7 3, oR 3 8 7, oJ 9 225 [(.t 6), (.t 8)], oM 10 9, gT 10 (oF 3 11 2), gT 10 (oL 12 11), gT 10 (oF 3 13 3), gT 10 (oL 14 13), gT 10 (oB .eql 15 12 14), oP 16 10 15, oM 17 16, gT 17 (oF 4 18 2), gT 17 (oL 19 18), gT 17 (oF 4 20 3), gT 17 (oL 21 20), gT 17 (oB .eql 22 19 21), oP 23 17 22, oM 24 23, gT 24 (oF 5 25 2), gT 24 (oL 26 25), gT 24 (oF 5 27 3), gT 24 (oL 28 27), gT 24 (oB .eql 29 26 28), oP 30 24 29, oM 31 30, gT 31 (oF 6 32 2), gT 31 (oL 33 32), gT 31 (oF 6 34 3), gT 31 (oL 35 34), ⟨(some 36), .eqb false (.t 33) (.t 35), (some (31, true)), []⟩, oP 37 31 36, oM 38 37, gT 38 (oF 7 39 2), gT 38 (oL 40 39), gT 38 (oF 7 41 3), gT 38 (oL 42 41), gT 38 (oB .eql 43 40 42), oP 44 38 43, oM 45 44, gT 45 (oF 8 46 2), gT 45 (oL 47 46), gT 45 (oF 8 48 3), gT 45 (oL 49 48), gT 45 (oB .eql 50 47 49), oP 51 45 50, oM 52 51, gT 52 (oF 9 53 2), gT 52 (oL 54 53), gT 52 (oF 9 55 3), gT 52 (oL 56 55), gT 52 (oB .eql 57 54 56), oP 58 52 57, oM 4 58])
  .ret))
theorem is_r23_EqualFixture : compile Tryz.prog Tryz.f159.ntmps (Tryz.f159.body.getD .skip) = some c_r23_EqualFixture.strip := by kernel_rfl
abbrev F_r25_FindBody : Nat := 184
def c_r25_FindBodyb0 : ACode := (.seq (.seq (r0 [oM 6 5, oF 5 7 2, oL 8 7, oN 9 8, oB .lss 10 6 9])
  (.cond (.t 10) .skip (.exit 0)))
  (.seq (.block 1 (.seq (r0 [oF 5 13 2, oL 14 13, oM 15 5, oI 20 16 14 15, oF 0 17 16, oL 18 17, oM 19 1, oB .eql 20 18 19])
  (.cond (.t 20) (.seq (r0 [oM 21 5, oM 4 21])
  .ret) .skip)))
  (r0 [oM 11 5, oC .add 12 11 1, oM 5 12])))
def c_r25_FindBody : ACode := (.seq (r0 [oE 2 0, oV 4 (vi 0)])
  (.seq (.seq (r0 [oV 5 (vi 0)])
  (.block 0 (.loop c_r25_FindBodyb0)))
  (.seq (r0 [oV 4 (vi (-1))])
  .ret)))
theorem is_r25_FindBody : compile Tryz.prog Tryz.f184.ntmps (Tryz.f184.body.getD .skip) = some c_r25_FindBody.strip := by kernel_rfl
abbrev F_body_equalFixtures : Nat := 193
def c_body_equalFixtures : ACode := (.seq (r0 [oE 2 0, oE 3 1, oV 4 (vb false)])
  (.seq (r0 [oF 3 7 2, oL 8 7, oF 3 9 3, oL 10 9, oB .eql 11 8 10, oM 12 11, gT 12 (oF 4 13 2), gT 12 (oL 14 13), gT 12 (oF 4 15 3), gT 12 (oL 16 15), gT 12 (oB .eql 17 14 16), oP 18 12 17, oM 19 18, gT 19 (oF 5 20 2), gT 19 (oL 21 20), gT 19 (oF 5 22 3), gT 19 (oL 23 22), gT 19 (oB .eql 24 21 23), oP 25 19 24, oM 5 25])
  (.seq (r0 [oF 6 26 2, oL 27 26, oF 6 28 3, oL 29 28, ⟨(some 30), .eqb false (.t 27) (.t 29), none, []⟩, oM 31 30, gT 31 (oF 7 32 2), gT 31 (oL 33 32), gT 31 (oF 7 34 3), gT 31 (oL 35 34), gT 31 (oB .eql 36 33 35), oP 37 31 36, oM 38 37, gT 38 (oF 8 39 2), gT 38 (oL 40 39), gT 38 (oF 8 41 3), gT 38 (oL 42 41), gT 38 (oB .eql 43 40 42), oP 44 38 43, oM 45 44, gT 45 (oF 9 46 2), gT 45 (oL 47 46), gT 45 (oF 9 48 3), gT 45 (oL 49 48), gT 45 (oB .eql 50 47 49), oP 51 45 50, oM 6 51])
  (.seq (r0 [oF 0 52 2, oR 3 53 52, oF 0 54 3, oR 3 55 54, oJ 56 258 [(.t 53), (.t 55)], oM 57 56, gT 57 (oM 58 5), oP 59 57 58, oM 60 59, gT 60 (oM 61 6), oP 62 60 61, oM 4 62])
  .ret))))
theorem is_body_equalFixtures : compile Tryz.prog Tryz.f193.ntmps (Tryz.f193.body.getD .skip) = some c_body_equalFixtures.strip := by kernel_rfl
abbrev F_r46_insert : Nat := 194
def c_r46_insertb0 : ACode := (.seq (.seq (r0 [oM 6 5, oM 7 0, oN 8 7, oB .lss 9 6 8, oM 10 9, gT 10 (oM 11 0), gT 10 (oM 12 5), gT 10 (oI 1 13 11 12), gT 10 (oL 14 13), gT 10 (oM 15 1), gT 10 (oB .lss 16 14 15), oP 17 10 16])
  (.cond (.t 17) .skip (.exit 0)))
  (.block 1 (r0 [oM 18 5, oC .add 19 18 1, oM 5 19])))
def c_r46_insert : ACode := (.seq (r0 [oV 4 vn])
  (.seq (r0 [oV 5 (vi 0)])
  (.seq (.block 0 (.loop c_r46_insertb0))
  (.seq (.seq (r0 [oM 20 5, oM 21 0, oN 22 21, oB .lss 23 20 22, oM 24 23, gT 24 (oM 25 0), gT 24 (oM 26 5), gT 24 (oI 1 27 25 26), gT 24 (oL 28 27), gT 24 (oM 29 1), gT 24 (oB .eql 30 28 29), oP 31 24 30])
  (.cond (.t 31) (.seq (r0 [oM 32 0, oM 4 32])
  .ret) .skip))
  (.seq (r1 [oY 1 33 0 [] [], oM 34 0, oM 35 5, ⟨(some 36), .slice 1 (.t 34) none (some (.t 35)) none, none, [0]⟩, oZ 1 8 37 33 36, oM 38 1, ⟨(some 39), .bslice 1 1 [(.int .i64 0)] [(0, 1, (.t 38))], none, [0, 3, 4]⟩, oZ 1 8 40 37 39, oM 41 0, oM 42 5, ⟨(some 43), .slice 1 (.t 41) (some (.t 42)) none none, none, [0, 4, 6, 7]⟩, oZ 1 8 44 40 43, oM 4 44])
  .ret)))))
theorem is_r46_insert : compile Tryz.prog Tryz.f194.ntmps (Tryz.f194.body.getD .skip) = some c_r46_insert.strip := by kernel_rfl
abbrev F_r12_Equal : Nat := 225
def c_r12_Equal : ACode := (.seq (r0 [oE 2 0, oE 3 1, oV 4 (vb false)])
  (.seq (r0 [oF 0 5 2, oL 6 5, oF 0 7 3, oL 8 7, oB .eql 9 6 8, oM 10 9, gT 10 (oF 1 11 2), gT 10 (oL 12 11), gT 10 (oF 1 13 3), gT 10 (oL 14 13), gT 10 (oB .eql 15 12 14), oP 16 10 15, oM 17 16, gT 17 (oF 2 18 2), gT 17 (oL 19 18), gT 17 (oF 2 20 3), gT 17 (oL 21 20), gT 17 (oJ 22 273 [(.t 19), (.t 21)]), oP 23 17 22, oM 4 23])
  .ret))
theorem is_r12_Equal : compile Tryz.prog Tryz.f225.ntmps (Tryz.f225.body.getD .skip) = some c_r12_Equal.strip := by kernel_rfl
abbrev F_shape_Equal : Nat := 258
def c_shape_Equal : ACode := (.seq (r0 [oE 2 0, oE 3 1, oV 4 (vb false)])
  (.seq (r0 [oF 0 5 2, oL 6 5, oF 0 7 3, oL 8 7, oB .eql 9 6 8, oM 10 9, gT 10 (oF 1 11 2), gT 10 (oL 12 11), gT 10 (oF 1 13 3), gT 10 (oL 14 13), gT 10 (oB .eql 15 12 14), oP 16 10 15, oM 17 16, gT 17 (oF 2 18 2), gT 17 (oL 19 18), gT 17 (oF 2 20 3), gT 17 (oL 21 20), gT 17 (oJ 22 294 [(.t 19), (.t 21)]), oP 23 17 22, oM 4 23])
  .ret))
theorem is_shape_Equal : compile Tryz.prog Tryz.f258.ntmps (Tryz.f258.body.getD .skip) = some c_shape_Equal.strip := by kernel_rfl
abbrev F_r12_EqualVecs : Nat := 273
def c_r12_EqualVecsb0 : ACode := (.seq (.seq (r0 [oM 11 5, oM 12 0, oN 13 12, oB .lss 14 11 13])
  (.cond (.t 14) .skip (.exit 0)))
  (.seq (.block 1 (.seq (r1 [oM 17 0, oM 18 5, oI 2 19 17 18, oR 2 20 19, oM 21 1, oM 22 5, oI 2 23 21 22, oR 2 24 23, ⟨(some 25), .eqa [true, true] true (.t 20) (.t 24), none, []⟩])
  (.cond (.t 25) (.seq (r0 [oV 4 (vb false)])
  .ret) .skip)))
  (r0 [oM 15 5, oC .add 16 15 1, oM 5 16])))
def c_r12_EqualVecs : ACode := (.seq (r0 [oV 4 (vb false)])
  (.seq (.seq (r0 [oM 6 0, oN 7 6, oM 8 1, oN 9 8, oB .neq 10 7 9])
  (.cond (.t 10) (.seq (r0 [oV 4 (vb false)])
  .ret) .skip))
  (.seq (.seq (r0 [oV 5 (vi 0)])
  (.block 0 (.loop c_r12_EqualVecsb0)))
  (.seq (r0 [oV 4 (vb true)])
  .ret))))
theorem is_r12_EqualVecs : compile Tryz.prog Tryz.f273.ntmps (Tryz.f273.body.getD .skip) = some c_r12_EqualVecs.strip := by kernel_rfl
abbrev F_slices_Equal_Vec : Nat := 294
def c_slices_Equal_Vecb0 : ACode := (.seq (r0 [oB .lss 14 13 12])
  (.seq (.cond (.t 14) .skip (.exit 0))
  (.seq (.block 1 (.seq (r0 [oM 15 13, oM 5 15])
  (.seq (r1 [oM 16 0, oM 17 5, oI 2 18 16 17, oR 2 19 18, oM 20 1, oM 21 5, oI 2 22 20 21, oR 2 23 22, ⟨(some 24), .eqa [true, true] true (.t 19) (.t 23), none, []⟩])
  (.cond (.t 24) (.seq (r0 [oV 4 (vb false)])
  .ret) .skip))))
  (r0 [oC .add 25 13 1, oM 13 25]))))
def c_slices_Equal_Vec : ACode := (.seq (r0 [oV 4 (vb false)])
  (.seq (.seq (r0 [oM 6 0, oN 7 6, oM 8 1, oN 9 8, oB .neq 10 7 9])
  (.cond (.t 10) (.seq (r0 [oV 4 (vb false)])
  .ret) .skip))
  (.seq (.seq (r0 [oM 11 0, oN 12 11, oV 13 (vi 0)])
  (.block 0 (.loop c_slices_Equal_Vecb0)))
  (.seq (r0 [oV 4 (vb true)])
  .ret))))
theorem is_slices_Equal_Vec : compile Tryz.prog Tryz.f294.ntmps (Tryz.f294.body.getD .skip) = some c_slices_Equal_Vec.strip := by kernel_rfl
end Go.Abs
