/- A part of the walk: contracts of functions that the statement reaches. -/
import Derived.Test.YtlldeiikcfaegaaGreatAbsC
import Derived.KernelRfl
import Derived.Eval
import Derived.Test.YtlldeiikcfaegaaGreatChecked
set_option linter.unusedSimpArgs false
set_option linter.unusedVariables false
set_option linter.unnecessarySimpa false
set_option maxRecDepth 100000
set_option maxHeartbeats 2000000
set_option linter.unusedSimpArgs false
set_option linter.unusedVariables false
namespace Go.Abs
open Go.Proofs
abbrev zD1_0 : List Value := [(.int .i64 0), (.int .i64 0), (.int .i64 0), (.int .i64 0), (.int .i64 0), (.slice none 0 0), (.slice none 0 0), (.slice none 0 0), (.slice none 0 0), (.int .i64 0), (.int .i64 0)]
abbrev zD1_1 : List Value := [(.int .u64 0), (.int .u64 0), (.int .u64 0)]
abbrev zD1_2 : List Value := [(.int .i64 0), (.int .i64 0), (.int .i64 0), (.int .i64 0), (.int .i64 0), (.int .i64 0), (.int .i64 0), (.int .i64 0), (.int .i64 0), (.int .i64 0), (.int .i64 0), (.int .i64 0), (.int .i64 0), (.int .i64 0), (.bool false), (.bool false), (.bool false), (.bool false), (.int .i64 0), (.slice none 0 0)]
abbrev zD1_3 : List Value := [(.int .i64 0), (.int .i64 0), (.int .i64 0), (.int .i64 0)]
abbrev zD1_4 : List Value := [(.int .i64 0), (.int .i64 0), (.int .i64 0), (.int .i64 0), (.int .i64 0), (.int .i64 0), (.slice none 0 0)]
abbrev zD1_5 : List Value := [(.int .i64 0), (.int .i64 0), (.int .i64 0), (.int .i64 0), (.int .i64 0), (.int .i64 0), (.int .i64 0), (.int .i64 0), (.int .i64 0), (.int .i64 0), (.int .i64 0), (.bool false), (.int .i64 0), (.int .i64 0), (.bool false), (.int .i64 0), (.int .i64 0), (.int .i64 0), (.int .i64 0), (.bool false), (.int .i64 0), (.int .i64 0), (.int .i64 0), (.int .i64 0)]
abbrev zD1_6 : List Value := [(.int .i64 0), (.int .i64 0)]
abbrev zD1_7 : List Value := [(.int .i64 0), (.int .i64 0), (.int .i64 0)]
abbrev zD1_9 : List Value := [(.int .i64 0), (.int .i64 0), (.int .i64 0), (.int .i64 0), (.int .i64 0)]
abbrev zD1_13 : List Value := [(.int .i64 0), (.int .i64 0), (.int .i64 0), (.int .i64 0), (.int .i64 0), (.slice none 0 0), (.slice none 0 0), (.slice none 0 0), (.slice none 0 0), (.int .i64 0), (.int .i64 0), (.int .i64 0), (.int .i64 0), (.int .i64 0), (.int .i64 0), (.int .i64 0), (.slice none 0 0), (.slice none 0 0), (.slice none 0 0), (.slice none 0 0), (.int .i64 0), (.int .i64 0)]
abbrev zD1_14 : List Value := [(.int .i64 0), (.int .i64 0), (.slice none 0 0), (.int .i64 0), (.int .i64 0), (.int .i64 0), (.bool false), (.int .i64 0), (.int .i64 0), (.int .i64 0)]
abbrev zD1_15 : List Value := [(.bool false), (.bool false), (.bool false), (.bool false)]
abbrev zD1_16 : List Value := [(.int .i64 0), (.int .i64 0), (.int .i64 0), (.int .i64 0), (.int .i64 0), (.int .i64 0)]
abbrev zD1_17 : List Value := [(.int .u8 0), (.int .u8 0), (.int .u8 0), (.int .u8 0)]
abbrev zD1_18 : List Value := [(.slice none 0 0), (.slice none 0 0)]
abbrev zD1_21 : List Value := [(.int .i64 0), (.int .i64 0), (.slice none 0 0)]
attribute [go_sem] zD1_0 zD1_1 zD1_2 zD1_3 zD1_4 zD1_5 zD1_6 zD1_7 zD1_9 zD1_13 zD1_14 zD1_15 zD1_16 zD1_17 zD1_18 zD1_21
theorem hm : Tryz.prog.follows .mixedOrders = true := Tryz.checked.mixed
abbrev F_law46_StateHashEqual : Nat := 14
def c_law46_StateHashEqual : ACode := (.seq (r0 [oE 2 0, oE 3 1, oV 4 (vb false)])
  (.seq (.seq (r0 [oR 11 9 2, oJ 10 15 [(.t 9)], oU 11 10, oM 12 11, gF 12 (oR 11 13 3), gF 12 (oJ 14 15 [(.t 13)]), gF 12 (oU 15 14), oQ 16 12 15])
  (.cond (.t 16) (.seq (r0 [oJ 17 16 [], oM 4 17])
  .ret) .skip))
  (.seq (r0 [oR 11 18 2, oR 11 19 3, oJ 20 52 [(.t 18), (.t 19)], oM 5 20])
  (.seq (r0 [oR 11 22 2, oJ 23 25 [(.t 22)], oM 21 23, oX 24 21 0, oX 25 21 1, oM 6 24, oM 7 25])
  (.seq (r0 [oM 26 6, oJ 27 53 [(.t 26)], oM 8 27])
  (.seq (.seq (r0 [oM 28 7, oC .neq 29 28 0])
  (.cond (.t 29) (r0 [oV 8 (.sc (.int .u64 0))]) .skip))
  (.seq (r1 [oM 30 5, oU 31 30, oM 32 31, gF 32 (oR 11 33 2), gF 32 (oJ 34 19 [(.t 33)]), ⟨(some 35), .load (some 11) (.t 3), (some (32, false)), [4]⟩, gF 32 (oJ 36 19 [(.t 35)]), gF 32 (oB .eql 37 34 36), gF 32 (oM 38 37), gT 38 (oR 11 39 2), gT 38 (oR 11 40 3), gT 38 (oJ 41 50 [(.t 39), (.t 40)]), gT 38 (oN 42 41), gT 38 (oC .eql 43 42 0), gF 32 (oP 44 38 43), oQ 45 32 44, oM 46 45, gT 46 (oR 11 47 2), gT 46 (oJ 48 19 [(.t 47)]), gT 46 (oM 49 8), gT 46 (oB .eql 50 48 49), oP 51 46 50, oM 52 51, gT 52 (oR 11 53 2), gT 52 (oJ 54 54 [(.t 53)]), gT 52 (oJ 55 19 [(.t 54)]), gT 52 (oM 56 8), gT 52 (oB .eql 57 55 56), oP 58 52 57, oM 59 58, gT 59 (oJ 60 16 []), oP 61 59 60, oM 4 61])
  .ret)))))))
theorem is_law46_StateHashEqual : compile Tryz.prog Tryz.f14.ntmps (Tryz.f14.body.getD .skip) = some c_law46_StateHashEqual.strip := by kernel_rfl
abbrev F_r25_Few : Nat := 15
def c_r25_Fewb0 : ACode := (.seq (.seq (r0 [oM 26 3, oF 7 27 1, oL 28 27, oN 29 28, oB .lss 30 26 29])
  (.cond (.t 30) .skip (.exit 0)))
  (.seq (.block 1 (.seq (r0 [oF 7 33 1, oL 34 33, oM 35 3, oI 7 36 34 35, oF 4 37 36, oF 2 38 37, oL 39 38, oN 40 39, oC .gtr 41 40 8])
  (.cond (.t 41) (.seq (r0 [oV 2 (vb false)])
  .ret) .skip)))
  (r0 [oM 31 3, oC .add 32 31 1, oM 3 32])))
def c_r25_Few : ACode := (.seq (r0 [oE 1 0, oV 2 (vb false)])
  (.seq (.seq (r0 [oF 6 4 1, oL 5 4, oN 6 5, oC .gtr 7 6 40, oM 8 7, gF 8 (oF 7 9 1), gF 8 (oL 10 9), gF 8 (oN 11 10), gF 8 (oC .gtr 12 11 80), oQ 13 8 12, oM 14 13, gF 14 (oF 8 15 1), gF 14 (oL 16 15), gF 14 (oN 17 16), gF 14 (oC .gtr 18 17 80), oQ 19 14 18, oM 20 19, gF 20 (oF 5 21 1), gF 20 (oL 22 21), gF 20 (oJ 23 55 [(.t 22), (ki 40)]), gF 20 (oU 24 23), oQ 25 20 24])
  (.cond (.t 25) (.seq (r0 [oV 2 (vb false)])
  .ret) .skip))
  (.seq (.seq (r0 [oV 3 (vi 0)])
  (.block 0 (.loop c_r25_Fewb0)))
  (.seq (r0 [oV 2 (vb true)])
  .ret))))
theorem is_r25_Few : compile Tryz.prog Tryz.f15.ntmps (Tryz.f15.body.getD .skip) = some c_r25_Few.strip := by kernel_rfl
abbrev F_law46_example : Nat := 16
def c_law46_example : ACode := (.seq (r0 [oV 0 (vb false)])
  (.seq (r0 [oY 1 1 3 zD1_1 [(0, 1, (.k (.sc (.int .u64 1)))), (1, 1, (.k (.sc (.int .u64 2)))), (2, 1, (.k (.sc (.int .u64 3))))], oY 1 2 3 zD1_1 [(0, 1, (.k (.sc (.int .u64 1)))), (1, 1, (.k (.sc (.int .u64 5)))), (2, 1, (.k (.sc (.int .u64 3))))], oJ 3 21 [(.t 1), (.t 2)], oC .eql 4 3 1, oM 5 4, gT 5 (oJ 6 21 [(.k vn), (.k vn)]), gT 5 (oC .eql 7 6 (-1)), oP 8 5 7, oM 9 8, gT 9 (oW 10 zD1_0 []), gT 9 (oJ 11 19 [(.t 10)]), ⟨(some 12), .bin .eql (.t 11) (.k (.sc (.int .u64 0))), (some (9, true)), []⟩, oP 13 9 12, oM 14 13, gT 14 (oJ 15 53 [(.k vn)]), ⟨(some 16), .bin .eql (.t 15) (.k (.sc (.int .u64 0))), (some (14, true)), []⟩, oP 17 14 16, oM 18 17, gT 18 (oJ 19 56 [(.k vn)]), ⟨(some 20), .bin .eql (.t 19) (.k (.sc (.int .u64 0))), (some (18, true)), []⟩, oP 21 18 20, oM 22 21, gT 22 (oY 1 23 1 [(.int .u8 0)] [(0, 1, (.k (.sc (.int .u8 7))))]), gT 22 (oJ 24 53 [(.t 23)]), gT 22 (oY 1 25 1 [(.int .i64 0)] [(0, 1, (ki 7))]), gT 22 (oJ 26 57 [(.t 25)]), gT 22 (oB .eql 27 24 26), oP 28 22 27, oM 0 28])
  .ret))
theorem is_law46_example : compile Tryz.prog Tryz.f16.ntmps (Tryz.f16.body.getD .skip) = some c_law46_example.strip := by kernel_rfl
abbrev F_statehash_OfWorld : Nat := 19
def c_statehash_OfWorld : ACode := (.seq (r0 [oE 1 0, oV 2 (.sc (.int .u64 0))])
  (.seq (r0 [oR 11 6 1, oJ 7 25 [(.t 6)], oM 5 7, oX 8 5 0, oX 9 5 1, oM 3 8, oM 4 9])
  (.seq (.seq (r0 [oM 10 4, oC .neq 11 10 0])
  (.cond (.t 11) (.seq (r0 [oV 2 (.sc (.int .u64 0))])
  .ret) .skip))
  (.seq (r0 [oM 12 3, oJ 13 53 [(.t 12)], oM 2 13])
  .ret))))
theorem is_statehash_OfWorld : compile Tryz.prog Tryz.f19.ntmps (Tryz.f19.body.getD .skip) = some c_statehash_OfWorld.strip := by kernel_rfl
abbrev F_statehash_FirstDifference : Nat := 21
def c_statehash_FirstDifferenceb0 : ACode := (.seq (r0 [oB .lss 12 11 10])
  (.seq (.cond (.t 12) .skip (.exit 0))
  (.seq (.block 1 (.seq (r0 [oM 13 11, oM 5 13])
  (.seq (r1 [oM 14 5, oM 15 0, oN 16 15, oB .geq 17 14 16, oM 18 17, gF 18 (oM 19 5), gF 18 (oM 20 1), gF 18 (oN 21 20), gF 18 (oB .geq 22 19 21), oQ 23 18 22, oM 24 23, gF 24 (oM 25 0), gF 24 (oM 26 5), gF 24 (oI 1 27 25 26), gF 24 (oL 28 27), gF 24 (oM 29 1), gF 24 (oM 30 5), gF 24 (oI 1 31 29 30), gF 24 (oL 32 31), gF 24 (oB .neq 33 28 32), oQ 34 24 33])
  (.cond (.t 34) (.seq (r0 [oM 35 5, oM 4 35])
  .ret) .skip))))
  (r0 [oC .add 36 11 1, oM 11 36]))))
def c_statehash_FirstDifference : ACode := (.seq (r0 [oV 4 (vi 0)])
  (.seq (.seq (r0 [oM 6 0, oN 7 6, oM 8 1, oN 9 8, ⟨(some 10), .minmax true (.t 7) (.t 9), none, []⟩, oV 11 (vi 0)])
  (.block 0 (.loop c_statehash_FirstDifferenceb0)))
  (.seq (r0 [oV 4 (vi (-1))])
  .ret)))
theorem is_statehash_FirstDifference : compile Tryz.prog Tryz.f21.ntmps (Tryz.f21.body.getD .skip) = some c_statehash_FirstDifference.strip := by kernel_rfl
abbrev F_snapshot_Encode : Nat := 25
def c_snapshot_Encodeb0 : ACode := (.seq (r0 [oB .lss 46 45 44])
  (.seq (.cond (.t 46) .skip (.exit 0))
  (.seq (.block 1 (.seq (r0 [oI 20 47 43 45, oR 20 48 47, oA 6 zD1_2, oS 20 6 48])
  (r0 [oM 49 4, oR 20 50 6, oJ 51 66 [(.t 49), (.t 50)]])))
  (r0 [oC .add 52 45 1, oM 45 52]))))
def c_snapshot_Encodeb1 : ACode := (.seq (r0 [oB .lss 63 62 61])
  (.seq (.cond (.t 63) .skip (.exit 2))
  (.seq (.block 3 (.seq (r0 [oI 24 64 60 62, oR 24 65 64, oA 8 zD1_5, oS 24 8 65])
  (r0 [oM 66 4, oR 24 67 8, oJ 68 67 [(.t 66), (.t 67)]])))
  (r0 [oC .add 69 62 1, oM 62 69]))))
def c_snapshot_Encodeb2 : ACode := (.seq (r0 [oB .lss 80 79 78])
  (.seq (.cond (.t 80) .skip (.exit 4))
  (.seq (.block 5 (.seq (r0 [oI 7 81 77 79, oR 7 82 81, oA 10 zD1_4, oS 7 10 82])
  (r0 [oM 83 4, oR 7 84 10, oJ 85 68 [(.t 83), (.t 84)]])))
  (r0 [oC .add 86 79 1, oM 79 86]))))
def c_snapshot_Encodeb3 : ACode := (.seq (r0 [oB .lss 97 96 95])
  (.seq (.cond (.t 97) .skip (.exit 6))
  (.seq (.block 7 (.seq (r0 [oI 4 98 94 96, oR 4 99 98, oA 12 zD1_3, oS 4 12 99])
  (r0 [oM 100 4, oR 4 101 12, oJ 102 69 [(.t 100), (.t 101)]])))
  (r0 [oC .add 103 96 1, oM 96 103]))))
def c_snapshot_Encode : ACode := (.seq (r0 [oE 1 0, oV 2 vn, oV 3 (vi 0)])
  (.seq (.seq (r0 [oR 11 13 1, oJ 14 26 [(.t 13)], oC .neq 15 14 0])
  (.cond (.t 15) (.seq (r0 [oV 2 vn, oV 3 (vi 18)])
  .ret) .skip))
  (.seq (r0 [oW 16 [(.slice none 0 0)] [], oE 17 16, oM 4 17])
  (.seq (r0 [oM 18 4, oF 0 19 1, oF 0 20 19, oL 21 20, oY 1 22 1 [(.int .i64 0)] [(0, 1, (.t 21))], oJ 23 64 [(.t 18), (.t 22)]])
  (.seq (r0 [oM 24 4, oF 0 25 1, oF 1 26 25, oR 2 27 26, oY 2 28 1 zD1_6 [(0, 2, (.t 27))], oJ 29 65 [(.t 24), (.t 28)]])
  (.seq (r0 [oM 30 4, oF 0 31 1, oF 3 32 31, oL 33 32, oF 0 34 1, oF 4 35 34, oL 36 35, oF 5 37 1, oL 38 37, oN 39 38, oY 1 40 3 zD1_7 [(0, 1, (.t 33)), (1, 1, (.t 36)), (2, 1, (.t 39))], oJ 41 64 [(.t 30), (.t 40)]])
  (.seq (.seq (r0 [oF 5 42 1, oL 43 42, oN 44 43, oV 45 (vi 0)])
  (.block 0 (.loop c_snapshot_Encodeb0)))
  (.seq (r0 [oM 53 4, oF 6 54 1, oL 55 54, oN 56 55, oY 1 57 1 [(.int .i64 0)] [(0, 1, (.t 56))], oJ 58 64 [(.t 53), (.t 57)]])
  (.seq (.seq (r0 [oF 6 59 1, oL 60 59, oN 61 60, oV 62 (vi 0)])
  (.block 2 (.loop c_snapshot_Encodeb1)))
  (.seq (r0 [oM 70 4, oF 7 71 1, oL 72 71, oN 73 72, oY 1 74 1 [(.int .i64 0)] [(0, 1, (.t 73))], oJ 75 64 [(.t 70), (.t 74)]])
  (.seq (.seq (r0 [oF 7 76 1, oL 77 76, oN 78 77, oV 79 (vi 0)])
  (.block 4 (.loop c_snapshot_Encodeb2)))
  (.seq (r0 [oM 87 4, oF 8 88 1, oL 89 88, oN 90 89, oY 1 91 1 [(.int .i64 0)] [(0, 1, (.t 90))], oJ 92 64 [(.t 87), (.t 91)]])
  (.seq (.seq (r0 [oF 8 93 1, oL 94 93, oN 95 94, oV 96 (vi 0)])
  (.block 6 (.loop c_snapshot_Encodeb3)))
  (.seq (r0 [oM 104 4, oF 9 105 1, oL 106 105, oF 10 107 1, oL 108 107, oY 1 109 2 zD1_6 [(0, 1, (.t 106)), (1, 1, (.t 108))], oJ 110 64 [(.t 104), (.t 109)]])
  (.seq (r0 [oM 111 4, ⟨(some 112), .nilck (.t 111), none, []⟩, oF 0 113 112, oL 114 113, oJ 115 70 [(.t 114)], oM 2 115, oV 3 (vi 0)])
  .ret)))))))))))))))
theorem is_snapshot_Encode : compile Tryz.prog Tryz.f25.ntmps (Tryz.f25.body.getD .skip) = some c_snapshot_Encode.strip := by kernel_rfl
abbrev F_world_Validate : Nat := 26
def c_world_Validate : ACode := (.seq (r0 [oE 1 0, oV 2 (vi 0)])
  (.seq (.block 0 (.seq (r0 [oF 0 4 1, oR 5 5 4, oJ 6 71 [(.t 5)], oC .neq 7 6 0, oM 3 7])
  (.cond (.t 3) (.seq (r0 [oV 2 (vi 17)])
  .ret) (.seq (r0 [oF 5 9 1, oL 10 9, oN 11 10, oC .gtr 12 11 32, oM 13 12, gF 13 (oF 6 14 1), gF 13 (oL 15 14), gF 13 (oN 16 15), gF 13 (oC .gtr 17 16 32), oQ 18 13 17, oM 19 18, gF 19 (oF 7 20 1), gF 19 (oL 21 20), gF 19 (oN 22 21), gF 19 (oC .gtr 23 22 8192), oQ 24 19 23, oM 25 24, gF 25 (oF 8 26 1), gF 25 (oL 27 26), gF 25 (oN 28 27), gF 25 (oC .gtr 29 28 8192), oQ 30 25 29, oM 8 30])
  (.cond (.t 8) (.seq (r0 [oV 2 (vi 11)])
  .ret) (.seq (r0 [oF 9 32 1, oL 33 32, oJ 34 72 [(.t 33), (ki 1), (ki 1099511627776)], oU 35 34, oM 36 35, gF 36 (oF 10 37 1), gF 36 (oL 38 37), gF 36 (oJ 39 72 [(.t 38), (ki 0), (ki 1099511627776)]), gF 36 (oU 40 39), oQ 41 36 40, oM 31 41])
  (.cond (.t 31) (.seq (r0 [oV 2 (vi 6)])
  .ret) (.seq (r0 [oR 11 43 1, oJ 44 73 [(.t 43)], oU 45 44, oM 42 45])
  (.cond (.t 42) (.seq (r0 [oV 2 (vi 14)])
  .ret) (.seq (r0 [oR 11 47 1, oJ 48 74 [(.t 47)], oU 49 48, oM 46 49])
  (.cond (.t 46) (.seq (r0 [oV 2 (vi 15)])
  .ret) (.seq (r0 [oR 11 51 1, oJ 52 75 [(.t 51)], oU 53 52, oM 50 53])
  (.cond (.t 50) (.seq (r0 [oV 2 (vi 16)])
  .ret) .skip)))))))))))))
  (.seq (r0 [oV 2 (vi 0)])
  .ret)))
theorem is_world_Validate : compile Tryz.prog Tryz.f26.ntmps (Tryz.f26.body.getD .skip) = some c_world_Validate.strip := by kernel_rfl
abbrev F_statehash_ChangedBodies : Nat := 50
def c_statehash_ChangedBodiesb0 : ACode := (.seq (r0 [oB .lss 32 31 30])
  (.seq (.cond (.t 32) .skip (.exit 2))
  (.seq (.block 3 (.seq (r0 [oI 20 33 29 31, oR 20 34 33, oA 11 zD1_2, oS 20 11 34])
  (.seq (r0 [oM 36 5, oF 0 37 11, oL 38 37, ⟨(some 39), .lookup .i64 (.agg #[(.int .i64 0), (.int .i64 0), (.int .i64 0), (.int .i64 0), (.int .i64 0), (.int .i64 0), (.int .i64 0), (.int .i64 0), (.int .i64 0), (.int .i64 0), (.int .i64 0), (.int .i64 0), (.int .i64 0), (.int .i64 0), (.bool false), (.bool false), (.bool false), (.bool false), (.int .i64 0), (.slice none 0 0)]) true (.t 36) (.t 38), none, []⟩, oM 35 39, oX 40 35 0, oX 41 35 1, oA 12 zD1_2, oS 20 12 40, oM 13 41])
  (.seq (r0 [oM 43 6, oF 0 44 11, oL 45 44, ⟨(some 46), .lookup .i64 (.agg #[(.int .i64 0), (.int .i64 0), (.int .i64 0), (.int .i64 0), (.int .i64 0), (.int .i64 0), (.int .i64 0), (.int .i64 0), (.int .i64 0), (.int .i64 0), (.int .i64 0), (.int .i64 0), (.int .i64 0), (.int .i64 0), (.bool false), (.bool false), (.bool false), (.bool false), (.int .i64 0), (.slice none 0 0)]) true (.t 43) (.t 45), none, []⟩, oM 42 46, oX 47 42 0, oX 48 42 1, oA 14 zD1_2, oS 20 14 47, oM 15 48])
  (.seq (r0 [oM 49 13, oU 50 49, oM 51 50, gF 51 (oM 52 15), gF 51 (oU 53 52), oQ 54 51 53, oM 55 54, gF 55 (oR 20 56 12), gF 55 (oR 20 57 14), gF 55 (oJ 58 115 [(.t 56), (.t 57)]), gF 55 (oU 59 58), oQ 60 55 59])
  (.cond (.t 60) (r0 [oM 61 7, oF 0 62 11, oL 63 62, oY 1 64 1 [(.int .i64 0)] [(0, 1, (.t 63))], oZ 1 8 65 61 64, oM 7 65]) .skip))))))
  (r0 [oC .add 66 31 1, oM 31 66]))))
def c_statehash_ChangedBodiesb1 : ACode := (.seq (r0 [oB .lss 25 24 23])
  (.seq (.cond (.t 25) .skip (.exit 0))
  (.seq (.block 1 (.seq (r0 [oI 11 26 22 24, oR 11 27 26, oA 9 zD1_0, oS 11 9 27])
  (.seq (r0 [oF 5 28 9, oL 29 28, oN 30 29, oV 31 (vi 0)])
  (.block 2 (.loop c_statehash_ChangedBodiesb0)))))
  (r0 [oC .add 67 24 1, oM 24 67]))))
def c_statehash_ChangedBodies : ACode := (.seq (r0 [oE 2 0, oE 3 1, oV 4 vn])
  (.seq (r1 [oR 11 16 2, oJ 17 114 [(.t 16)], ⟨(some 18), .load (some 11) (.t 3), none, [1]⟩, oJ 19 114 [(.t 18)], oM 5 17, oM 6 19])
  (.seq (r0 [oV 7 vn])
  (.seq (.seq (r0 [oR 11 20 2, oR 11 21 3, oY 11 22 2 zD1_13 [(0, 11, (.t 20)), (11, 11, (.t 21))], oN 23 22, oV 24 (vi 0)])
  (.block 0 (.loop c_statehash_ChangedBodiesb1)))
  (.seq (r0 [oM 68 7, oJ 69 101 [(.t 68)]])
  (.seq (r0 [oM 70 7, oJ 71 102 [(.t 70)], oM 4 71])
  .ret))))))
theorem is_statehash_ChangedBodies : compile Tryz.prog Tryz.f50.ntmps (Tryz.f50.body.getD .skip) = some c_statehash_ChangedBodies.strip := by kernel_rfl
abbrev F_world_Equal : Nat := 52
def c_world_Equal : ACode := (.seq (r0 [oE 2 0, oE 3 1, oV 4 (vb false)])
  (.seq (r0 [oV 5 (.fn (.func 117) [] [])])
  (.seq (r0 [oF 0 7 2, oR 5 8 7, oF 0 9 3, oR 5 10 9, ⟨(some 11), .eqa [true, true, true, true, true] false (.t 8) (.t 10), none, []⟩, oM 12 11, gT 12 (oF 9 13 2), gT 12 (oL 14 13), gT 12 (oF 9 15 3), gT 12 (oL 16 15), gT 12 (oB .eql 17 14 16), oP 18 12 17, oM 19 18, gT 19 (oF 10 20 2), gT 19 (oL 21 20), gT 19 (oF 10 22 3), gT 19 (oL 23 22), gT 19 (oB .eql 24 21 23), oP 25 19 24, oM 6 25])
  (.seq (r0 [oM 26 6, oM 27 26, gT 27 (oF 5 28 2), gT 27 (oL 29 28), gT 27 (oF 5 30 3), gT 27 (oL 31 30), gT 27 (oJ 32 119 [(.t 29), (.t 31), (.k (.fn (.func 115) [] []))]), oP 33 27 32, oM 34 33, gT 34 (oF 6 35 2), gT 34 (oL 36 35), gT 34 (oF 6 37 3), gT 34 (oL 38 37), gT 34 (oJ 39 120 [(.t 36), (.t 38)]), oP 40 34 39, oM 41 40, gT 41 (oF 7 42 2), gT 41 (oL 43 42), gT 41 (oF 7 44 3), gT 41 (oL 45 44), gT 41 (oM 46 5), gT 41 (oJ 47 121 [(.t 43), (.t 45), (.t 46)]), oP 48 41 47, oM 49 48, gT 49 (oF 8 50 2), gT 49 (oL 51 50), gT 49 (oF 8 52 3), gT 49 (oL 53 52), gT 49 (oJ 54 122 [(.t 51), (.t 53)]), oP 55 49 54, oM 4 55])
  .ret))))
theorem is_world_Equal : compile Tryz.prog Tryz.f52.ntmps (Tryz.f52.body.getD .skip) = some c_world_Equal.strip := by kernel_rfl
abbrev F_statehash_OfBytes : Nat := 53
def c_statehash_OfBytesb0 : ACode := (.seq (r0 [oB .lss 12 11 10])
  (.seq (.cond (.t 12) .skip (.exit 0))
  (.seq (.block 1 (.seq (r0 [oI 1 13 9 11, oL 14 13, oM 5 14])
  (r0 [oM 15 3, oM 16 5, ⟨(some 17), .convI .i64 (.t 16), none, []⟩, oY 1 18 1 [(.int .i64 0)] [(0, 1, (.t 17))], oZ 1 8 19 15 18, oM 3 19])))
  (r0 [oC .add 20 11 1, oM 11 20]))))
def c_statehash_OfBytes : ACode := (.seq (r0 [oV 2 (.sc (.int .u64 0))])
  (.seq (r0 [oM 6 0, oN 7 6, ⟨(some 8), .mkslice 1 8 [(.int .i64 0)] (ki 0) (.t 7), none, []⟩, oM 3 8])
  (.seq (.seq (r0 [oM 9 0, oN 10 9, oV 11 (vi 0)])
  (.block 0 (.loop c_statehash_OfBytesb0)))
  (.seq (r0 [oM 21 3, oJ 22 57 [(.t 21)], oM 2 22])
  .ret))))
theorem is_statehash_OfBytes : compile Tryz.prog Tryz.f53.ntmps (Tryz.f53.body.getD .skip) = some c_statehash_OfBytes.strip := by kernel_rfl
abbrev F_r25_Clone : Nat := 54
def c_r25_Cloneb0 : ACode := (.seq (.seq (r0 [oM 9 4, oF 5 10 1, oL 11 10, oN 12 11, oB .lss 13 9 12])
  (.cond (.t 13) .skip (.exit 0)))
  (.seq (.block 1 (r1 [oF 5 16 3, oL 17 16, oF 5 18 1, oL 19 18, oM 20 4, oI 20 21 19 20, oR 20 22 21, ⟨(some 23), .call 123 [(.t 22)], none, [1]⟩, ⟨(some 24), .bslice 20 1 zD1_2 [(0, 20, (.t 23))], none, [1]⟩, oZ 20 152 25 17 24, oF 5 26 3, oS 1 26 25]))
  (r0 [oM 14 4, oC .add 15 14 1, oM 4 15])))
def c_r25_Cloneb1 : ACode := (.seq (.seq (r0 [oM 32 5, oF 7 33 1, oL 34 33, oN 35 34, oB .lss 36 32 35])
  (.cond (.t 36) .skip (.exit 2)))
  (.seq (.block 3 (r1 [oF 7 39 3, oL 40 39, oF 7 41 1, oL 42 41, oM 43 5, oI 7 44 42 43, oF 0 45 44, oR 4 46 45, oF 7 47 1, oL 48 47, oM 49 5, oI 7 50 48 49, oF 4 51 50, oR 3 52 51, ⟨(some 53), .call 124 [(.t 52)], none, [1, 3, 5, 7]⟩, oW 54 zD1_4 [(0, 4, (.t 46)), (4, 3, (.t 53))], ⟨(some 55), .bslice 7 1 zD1_4 [(0, 7, (.t 54))], none, [1]⟩, oZ 7 72 56 40 55, oF 7 57 3, oS 1 57 56]))
  (r0 [oM 37 5, oC .add 38 37 1, oM 5 38])))
def c_r25_Clone : ACode := (.seq (r0 [oE 1 0, oA 2 zD1_0])
  (.seq (r0 [oR 11 6 1, oA 3 zD1_0, oS 11 3 6])
  (.seq (r0 [oF 5 7 3, oD 1 7 vn, oF 7 8 3, oD 1 8 vn])
  (.seq (.seq (r0 [oV 4 (vi 0)])
  (.block 0 (.loop c_r25_Cloneb0)))
  (.seq (r0 [oY 24 27 0 [] [], oF 6 28 1, oL 29 28, oZ 24 192 30 27 29, oF 6 31 3, oS 1 31 30])
  (.seq (.seq (r0 [oV 5 (vi 0)])
  (.block 2 (.loop c_r25_Cloneb1)))
  (.seq (r0 [oY 4 58 0 [] [], oF 8 59 1, oL 60 59, oZ 4 32 61 58 60, oF 8 62 3, oS 1 62 61])
  (.seq (r0 [oR 11 63 3, oS 11 2 63])
  .ret))))))))
theorem is_r25_Clone : compile Tryz.prog Tryz.f54.ntmps (Tryz.f54.body.getD .skip) = some c_r25_Clone.strip := by kernel_rfl
abbrev F_r22_Few : Nat := 55
def c_r22_Fewb0 : ACode := (.seq (.seq (r0 [oM 24 6, oM 25 0, oM 26 5, oI 20 27 25 26, oF 19 28 27, oL 29 28, oN 30 29, oB .lss 31 24 30])
  (.cond (.t 31) .skip (.exit 2)))
  (.seq (.block 3 (.seq (r0 [oM 34 0, oM 35 5, oI 20 36 34 35, oF 19 37 36, oL 38 37, oM 39 6, oI 10 40 38 39, oF 0 41 40, oF 2 42 41, oL 43 42, oN 44 43, oC .gtr 45 44 20])
  (.cond (.t 45) (.seq (r0 [oV 4 (vb false)])
  .ret) .skip)))
  (r0 [oM 32 6, oC .add 33 32 1, oM 6 33])))
def c_r22_Fewb1 : ACode := (.seq (.seq (r0 [oM 11 5, oM 12 0, oN 13 12, oB .lss 14 11 13])
  (.cond (.t 14) .skip (.exit 0)))
  (.seq (.block 1 (.seq (.seq (r0 [oM 17 0, oM 18 5, oI 20 19 17 18, oF 19 20 19, oL 21 20, oN 22 21, oC .gtr 23 22 8])
  (.cond (.t 23) (.seq (r0 [oV 4 (vb false)])
  .ret) .skip))
  (.seq (r0 [oV 6 (vi 0)])
  (.block 2 (.loop c_r22_Fewb0)))))
  (r0 [oM 15 5, oC .add 16 15 1, oM 5 16])))
def c_r22_Few : ACode := (.seq (r0 [oV 4 (vb false)])
  (.seq (.seq (r0 [oM 7 0, oN 8 7, oM 9 1, oB .gtr 10 8 9])
  (.cond (.t 10) (.seq (r0 [oV 4 (vb false)])
  .ret) .skip))
  (.seq (.seq (r0 [oV 5 (vi 0)])
  (.block 0 (.loop c_r22_Fewb1)))
  (.seq (r0 [oV 4 (vb true)])
  .ret))))
theorem is_r22_Few : compile Tryz.prog Tryz.f55.ntmps (Tryz.f55.body.getD .skip) = some c_r22_Few.strip := by kernel_rfl
abbrev F_statehash_Chain : Nat := 56
def c_statehash_Chainb0 : ACode := (.seq (r0 [oB .lss 9 8 7])
  (.seq (.cond (.t 9) .skip (.exit 0))
  (.seq (.block 1 (.seq (r0 [oI 1 10 6 8, oL 11 10, oM 5 11])
  (r0 [oM 12 3, oM 13 5, ⟨(some 14), .convI .i64 (.t 13), none, []⟩, oJ 15 125 [(.t 12), (.t 14)], oM 3 15])))
  (r0 [oC .add 16 8 1, oM 8 16]))))
def c_statehash_Chain : ACode := (.seq (r0 [oV 2 (.sc (.int .u64 0))])
  (.seq (r0 [oV 3 (.sc (.int .u64 0))])
  (.seq (.seq (r0 [oM 6 0, oN 7 6, oV 8 (vi 0)])
  (.block 0 (.loop c_statehash_Chainb0)))
  (.seq (r0 [oM 17 3, oM 2 17])
  .ret))))
theorem is_statehash_Chain : compile Tryz.prog Tryz.f56.ntmps (Tryz.f56.body.getD .skip) = some c_statehash_Chain.strip := by kernel_rfl
abbrev F_checksum_HashInts : Nat := 57
def c_checksum_HashIntsb0 : ACode := (.seq (r0 [oB .lss 12 11 10])
  (.seq (.cond (.t 12) .skip (.exit 0))
  (.seq (.block 1 (.seq (r0 [oI 1 13 9 11, oL 14 13, oM 5 14])
  (r0 [oM 15 3, oM 16 5, oJ 17 125 [(.t 15), (.t 16)], oM 3 17])))
  (r0 [oC .add 18 11 1, oM 11 18]))))
def c_checksum_HashInts : ACode := (.seq (r0 [oV 2 (.sc (.int .u64 0))])
  (.seq (r0 [oM 6 0, oN 7 6, ⟨(some 8), .convI .u64 (.t 7), none, []⟩, oM 3 8])
  (.seq (.seq (r0 [oM 9 0, oN 10 9, oV 11 (vi 0)])
  (.block 0 (.loop c_checksum_HashIntsb0)))
  (.seq (r0 [oM 19 3, oM 2 19])
  .ret))))
theorem is_checksum_HashInts : compile Tryz.prog Tryz.f57.ntmps (Tryz.f57.body.getD .skip) = some c_checksum_HashInts.strip := by kernel_rfl
abbrev F_snapshot_encoder_ints : Nat := 64
def c_snapshot_encoder_intsb0 : ACode := (.seq (r0 [oB .lss 9 8 7])
  (.seq (.cond (.t 9) .skip (.exit 0))
  (.seq (.block 1 (.seq (r0 [oI 1 10 6 8, oL 11 10, oM 5 11])
  (r0 [oM 12 0, oM 13 0, ⟨(some 14), .nilck (.t 13), none, []⟩, oF 0 15 14, oL 16 15, oM 17 5, oJ 18 134 [(.t 16), (.t 17)], ⟨(some 19), .nilck (.t 12), none, []⟩, oF 0 20 19, oS 1 20 18])))
  (r0 [oC .add 21 8 1, oM 8 21]))))
def c_snapshot_encoder_ints : ACode := (.seq (r0 [oM 6 1, oN 7 6, oV 8 (vi 0)])
  (.block 0 (.loop c_snapshot_encoder_intsb0)))
theorem is_snapshot_encoder_ints : compile Tryz.prog Tryz.f64.ntmps (Tryz.f64.body.getD .skip) = some c_snapshot_encoder_ints.strip := by kernel_rfl
abbrev F_snapshot_encoder_vecs : Nat := 65
def c_snapshot_encoder_vecsb0 : ACode := (.seq (r0 [oB .lss 9 8 7])
  (.seq (.cond (.t 9) .skip (.exit 0))
  (.seq (.block 1 (.seq (r0 [oI 2 10 6 8, oR 2 11 10, oA 5 zD1_6, oS 2 5 11])
  (r1 [oM 12 0, oM 13 0, ⟨(some 14), .nilck (.t 13), none, []⟩, oF 0 15 14, oL 16 15, oR 2 17 5, oJ 18 135 [(.t 16), (.t 17)], ⟨(some 19), .nilck (.t 12), none, []⟩, oF 0 20 19, oS 1 20 18])))
  (r0 [oC .add 21 8 1, oM 8 21]))))
def c_snapshot_encoder_vecs : ACode := (.seq (r0 [oM 6 1, oN 7 6, oV 8 (vi 0)])
  (.block 0 (.loop c_snapshot_encoder_vecsb0)))
theorem is_snapshot_encoder_vecs : compile Tryz.prog Tryz.f65.ntmps (Tryz.f65.body.getD .skip) = some c_snapshot_encoder_vecs.strip := by kernel_rfl
abbrev F_snapshot_encoder_body : Nat := 66
def c_snapshot_encoder_bodyb0 : ACode := (.seq (r0 [oB .lss 74 73 72])
  (.seq (.cond (.t 74) .skip (.exit 0))
  (.seq (.block 1 (.seq (r0 [oI 10 75 71 73, oR 10 76 75, oA 5 zD1_14, oS 10 5 76])
  (r0 [oM 77 0, oR 10 78 5, oJ 79 137 [(.t 77), (.t 78)]])))
  (r0 [oC .add 80 73 1, oM 73 80]))))
def c_snapshot_encoder_body : ACode := (.seq (r0 [oE 3 1])
  (.seq (r0 [oM 6 0, oF 0 7 3, oL 8 7, oF 1 9 3, oL 10 9, oY 1 11 2 zD1_6 [(0, 1, (.t 8)), (1, 1, (.t 10))], oJ 12 64 [(.t 6), (.t 11)]])
  (.seq (r0 [oM 13 0, oF 2 14 3, oF 0 15 14, oR 2 16 15, oY 2 17 1 zD1_6 [(0, 2, (.t 16))], oJ 18 65 [(.t 13), (.t 17)]])
  (.seq (r0 [oM 19 0, oF 2 20 3, oF 2 21 20, oL 22 21, oY 1 23 1 [(.int .i64 0)] [(0, 1, (.t 22))], oJ 24 64 [(.t 19), (.t 23)]])
  (.seq (r0 [oM 25 0, oF 5 26 3, oR 2 27 26, oY 2 28 1 zD1_6 [(0, 2, (.t 27))], oJ 29 65 [(.t 25), (.t 28)]])
  (.seq (r0 [oM 30 0, oF 7 31 3, oL 32 31, oY 1 33 1 [(.int .i64 0)] [(0, 1, (.t 32))], oJ 34 64 [(.t 30), (.t 33)]])
  (.seq (r0 [oM 35 0, oF 8 36 3, oR 2 37 36, oY 2 38 1 zD1_6 [(0, 2, (.t 37))], oJ 39 65 [(.t 35), (.t 38)]])
  (.seq (r0 [oM 40 0, oF 10 41 3, oL 42 41, oF 11 43 3, oL 44 43, oF 12 45 3, oL 46 45, oF 13 47 3, oL 48 47, oY 1 49 4 zD1_3 [(0, 1, (.t 42)), (1, 1, (.t 44)), (2, 1, (.t 46)), (3, 1, (.t 48))], oJ 50 64 [(.t 40), (.t 49)]])
  (.seq (r0 [oM 51 0, oF 14 52 3, oL 53 52, oF 15 54 3, oL 55 54, oF 16 56 3, oL 57 56, oF 17 58 3, oL 59 58, oY 1 60 4 zD1_15 [(0, 1, (.t 53)), (1, 1, (.t 55)), (2, 1, (.t 57)), (3, 1, (.t 59))], oJ 61 136 [(.t 51), (.t 60)]])
  (.seq (r0 [oM 62 0, oF 18 63 3, oL 64 63, oF 19 65 3, oL 66 65, oN 67 66, oY 1 68 2 zD1_6 [(0, 1, (.t 64)), (1, 1, (.t 67))], oJ 69 64 [(.t 62), (.t 68)]])
  (.seq (r0 [oF 19 70 3, oL 71 70, oN 72 71, oV 73 (vi 0)])
  (.block 0 (.loop c_snapshot_encoder_bodyb0)))))))))))))
theorem is_snapshot_encoder_body : compile Tryz.prog Tryz.f66.ntmps (Tryz.f66.body.getD .skip) = some c_snapshot_encoder_body.strip := by kernel_rfl
abbrev F_snapshot_encoder_joint : Nat := 67
def c_snapshot_encoder_joint : ACode := (.seq (r0 [oE 3 1])
  (.seq (r0 [oM 4 0, oF 0 5 3, oL 6 5, oF 1 7 3, oL 8 7, oF 2 9 3, oL 10 9, oF 3 11 3, oL 12 11, oY 1 13 4 zD1_3 [(0, 1, (.t 6)), (1, 1, (.t 8)), (2, 1, (.t 10)), (3, 1, (.t 12))], oJ 14 64 [(.t 4), (.t 13)]])
  (.seq (r0 [oM 15 0, oF 4 16 3, oR 2 17 16, oF 6 18 3, oR 2 19 18, oF 8 20 3, oR 2 21 20, oY 2 22 3 zD1_16 [(0, 2, (.t 17)), (2, 2, (.t 19)), (4, 2, (.t 21))], oJ 23 65 [(.t 15), (.t 22)]])
  (.seq (r0 [oM 24 0, oF 10 25 3, oL 26 25, oY 1 27 1 [(.int .i64 0)] [(0, 1, (.t 26))], oJ 28 64 [(.t 24), (.t 27)]])
  (.seq (r0 [oM 29 0, oF 11 30 3, oL 31 30, oY 1 32 1 [(.bool false)] [(0, 1, (.t 31))], oJ 33 136 [(.t 29), (.t 32)]])
  (.seq (r0 [oM 34 0, oF 12 35 3, oL 36 35, oF 13 37 3, oL 38 37, oY 1 39 2 zD1_6 [(0, 1, (.t 36)), (1, 1, (.t 38))], oJ 40 64 [(.t 34), (.t 39)]])
  (.seq (r0 [oM 41 0, oF 14 42 3, oL 43 42, oY 1 44 1 [(.bool false)] [(0, 1, (.t 43))], oJ 45 136 [(.t 41), (.t 44)]])
  (.seq (r0 [oM 46 0, oF 15 47 3, oL 48 47, oF 16 49 3, oL 50 49, oF 17 51 3, oL 52 51, oF 18 53 3, oL 54 53, oY 1 55 4 zD1_3 [(0, 1, (.t 48)), (1, 1, (.t 50)), (2, 1, (.t 52)), (3, 1, (.t 54))], oJ 56 64 [(.t 46), (.t 55)]])
  (.seq (r0 [oM 57 0, oF 19 58 3, oL 59 58, oY 1 60 1 [(.bool false)] [(0, 1, (.t 59))], oJ 61 136 [(.t 57), (.t 60)]])
  (r0 [oM 62 0, oF 20 63 3, ⟨(some 64), .aslice 4 1 (.t 63), none, []⟩, oJ 65 64 [(.t 62), (.t 64)]]))))))))))
theorem is_snapshot_encoder_joint : compile Tryz.prog Tryz.f67.ntmps (Tryz.f67.body.getD .skip) = some c_snapshot_encoder_joint.strip := by kernel_rfl
abbrev F_snapshot_encoder_contact : Nat := 68
def c_snapshot_encoder_contactb0 : ACode := (.seq (r0 [oB .lss 28 27 26])
  (.seq (.cond (.t 28) .skip (.exit 0))
  (.seq (.block 1 (.seq (r0 [oI 6 29 25 27, oR 6 30 29, oA 5 zD1_16, oS 6 5 30])
  (.seq (r0 [oM 31 0, oF 0 32 5, oR 2 33 32, oY 2 34 1 zD1_6 [(0, 2, (.t 33))], oJ 35 65 [(.t 31), (.t 34)]])
  (r0 [oM 36 0, oF 2 37 5, oL 38 37, oF 3 39 5, oL 40 39, oF 4 41 5, oL 42 41, oF 5 43 5, oL 44 43, oY 1 45 4 zD1_3 [(0, 1, (.t 38)), (1, 1, (.t 40)), (2, 1, (.t 42)), (3, 1, (.t 44))], oJ 46 64 [(.t 36), (.t 45)]]))))
  (r0 [oC .add 47 27 1, oM 27 47]))))
def c_snapshot_encoder_contact : ACode := (.seq (r0 [oE 3 1])
  (.seq (r0 [oM 6 0, oF 0 7 3, oR 4 8 7, oJ 9 69 [(.t 6), (.t 8)]])
  (.seq (r0 [oM 10 0, oF 4 11 3, oF 0 12 11, oR 2 13 12, oY 2 14 1 zD1_6 [(0, 2, (.t 13))], oJ 15 65 [(.t 10), (.t 14)]])
  (.seq (r0 [oM 16 0, oF 4 17 3, oF 2 18 17, oL 19 18, oN 20 19, oY 1 21 1 [(.int .i64 0)] [(0, 1, (.t 20))], oJ 22 64 [(.t 16), (.t 21)]])
  (.seq (r0 [oF 4 23 3, oF 2 24 23, oL 25 24, oN 26 25, oV 27 (vi 0)])
  (.block 0 (.loop c_snapshot_encoder_contactb0)))))))
theorem is_snapshot_encoder_contact : compile Tryz.prog Tryz.f68.ntmps (Tryz.f68.body.getD .skip) = some c_snapshot_encoder_contact.strip := by kernel_rfl
abbrev F_snapshot_encoder_key : Nat := 69
def c_snapshot_encoder_key : ACode := (.seq (r0 [oE 3 1])
  (r0 [oM 4 0, oF 0 5 3, oL 6 5, oF 1 7 3, oL 8 7, oF 2 9 3, oL 10 9, oF 3 11 3, oL 12 11, oY 1 13 4 zD1_3 [(0, 1, (.t 6)), (1, 1, (.t 8)), (2, 1, (.t 10)), (3, 1, (.t 12))], oJ 14 64 [(.t 4), (.t 13)]]))
theorem is_snapshot_encoder_key : compile Tryz.prog Tryz.f69.ntmps (Tryz.f69.body.getD .skip) = some c_snapshot_encoder_key.strip := by kernel_rfl
abbrev F_checksum_Seal : Nat := 70
def c_checksum_Seal : ACode := (.seq (r0 [oV 2 vn])
  (.seq (r0 [oM 5 0, oJ 6 138 [(.t 5)], oM 3 6])
  (.seq (r0 [oM 7 0, oN 8 7, oM 9 0, oN 10 9, oC .add 11 10 4, ⟨(some 12), .mkslice 1 1 [(.int .u8 0)] (.t 8) (.t 11), none, []⟩, oM 4 12])
  (.seq (r0 [oM 13 4, oM 14 0, ⟨(some 15), .copy (.t 13) (.t 14), none, []⟩])
  (.seq (r0 [oM 16 4, oM 17 3, ⟨(some 18), .convI .u8 (.t 17), none, []⟩, oM 19 3, ⟨(some 20), .bin .shr (.t 19) (.k (.sc (.int .u64 8))), none, []⟩, ⟨(some 21), .convI .u8 (.t 20), none, []⟩, oM 22 3, ⟨(some 23), .bin .shr (.t 22) (.k (.sc (.int .u64 16))), none, []⟩, ⟨(some 24), .convI .u8 (.t 23), none, []⟩, oM 25 3, ⟨(some 26), .bin .shr (.t 25) (.k (.sc (.int .u64 24))), none, []⟩, ⟨(some 27), .convI .u8 (.t 26), none, []⟩, oY 1 28 4 zD1_17 [(0, 1, (.t 18)), (1, 1, (.t 21)), (2, 1, (.t 24)), (3, 1, (.t 27))], oZ 1 1 29 16 28, oM 2 29])
  .ret)))))
theorem is_checksum_Seal : compile Tryz.prog Tryz.f70.ntmps (Tryz.f70.body.getD .skip) = some c_checksum_Seal.strip := by kernel_rfl
abbrev F_world_ValidateSettings : Nat := 71
def c_world_ValidateSettings : ACode := (.seq (r0 [oE 1 0, oV 2 (vi 0)])
  (.seq (r0 [oF 1 4 1, oF 0 5 4, oL 6 5, oJ 7 72 [(.t 6), (ki (-16777216)), (ki 16777216)], oM 8 7, gT 8 (oF 1 9 1), gT 8 (oF 1 10 9), gT 8 (oL 11 10), gT 8 (oJ 12 72 [(.t 11), (ki (-16777216)), (ki 16777216)]), oP 13 8 12, oM 3 13])
  (.seq (.seq (r0 [oF 0 14 1, oL 15 14, oJ 16 72 [(.t 15), (ki 64), (ki 8192)], oU 17 16, oM 18 17, gF 18 (oM 19 3), gF 18 (oU 20 19), oQ 21 18 20, oM 22 21, gF 22 (oF 3 23 1), gF 22 (oL 24 23), gF 22 (oJ 25 72 [(.t 24), (ki 1), (ki 32)]), gF 22 (oU 26 25), oQ 27 22 26, oM 28 27, gF 28 (oF 4 29 1), gF 28 (oL 30 29), gF 28 (oJ 31 72 [(.t 30), (ki 0), (ki 1048576)]), gF 28 (oU 32 31), oQ 33 28 32])
  (.cond (.t 33) (.seq (r0 [oV 2 (vi 6)])
  .ret) .skip))
  (.seq (r0 [oV 2 (vi 0)])
  .ret))))
theorem is_world_ValidateSettings : compile Tryz.prog Tryz.f71.ntmps (Tryz.f71.body.getD .skip) = some c_world_ValidateSettings.strip := by kernel_rfl
abbrev F_world_in : Nat := 72
def c_world_in : ACode := (.seq (r0 [oV 6 (vb false)])
  (.seq (r0 [oM 7 0, oM 8 1, oB .geq 9 7 8, oM 10 9, gT 10 (oM 11 0), gT 10 (oM 12 2), gT 10 (oB .leq 13 11 12), oP 14 10 13, oM 6 14])
  .ret))
theorem is_world_in : compile Tryz.prog Tryz.f72.ntmps (Tryz.f72.body.getD .skip) = some c_world_in.strip := by kernel_rfl
abbrev F_world_validBodies : Nat := 73
def c_world_validBodiesb0 : ACode := (.seq (r0 [oB .lss 10 9 8])
  (.seq (.cond (.t 10) .skip (.exit 0))
  (.seq (.block 1 (.seq (r0 [oI 20 11 7 9, oR 20 12 11, oA 5 zD1_2, oS 20 5 12])
  (.seq (.seq (r0 [oR 20 13 5, oJ 14 139 [(.t 13)], oC .neq 15 14 0, oM 16 15, gF 16 (oF 0 17 5), gF 16 (oL 18 17), gF 16 (oF 9 19 1), gF 16 (oL 20 19), gF 16 (oB .geq 21 18 20), oQ 22 16 21, oM 23 22, gF 23 (oF 0 24 5), gF 23 (oL 25 24), gF 23 (oM 26 3), gF 23 (oB .leq 27 25 26), oQ 28 23 27])
  (.cond (.t 28) (.seq (r0 [oV 2 (vb false)])
  .ret) .skip))
  (r0 [oF 0 29 5, oL 30 29, oM 3 30]))))
  (r0 [oC .add 31 9 1, oM 9 31]))))
def c_world_validBodies : ACode := (.seq (r0 [oE 1 0, oV 2 (vb false)])
  (.seq (r0 [oV 3 (vi 0)])
  (.seq (.seq (r0 [oF 5 6 1, oL 7 6, oN 8 7, oV 9 (vi 0)])
  (.block 0 (.loop c_world_validBodiesb0)))
  (.seq (r0 [oV 2 (vb true)])
  .ret))))
theorem is_world_validBodies : compile Tryz.prog Tryz.f73.ntmps (Tryz.f73.body.getD .skip) = some c_world_validBodies.strip := by kernel_rfl
abbrev F_world_validJoints : Nat := 74
def c_world_validJointsb0 : ACode := (.seq (r0 [oB .lss 10 9 8])
  (.seq (.cond (.t 10) .skip (.exit 0))
  (.seq (.block 1 (.seq (r0 [oI 24 11 7 9, oR 24 12 11, oA 5 zD1_5, oS 24 5 12])
  (.seq (.seq (r0 [oR 24 13 5, oJ 14 140 [(.t 13)], oC .neq 15 14 0, oM 16 15, gF 16 (oF 0 17 5), gF 16 (oL 18 17), gF 16 (oF 9 19 1), gF 16 (oL 20 19), gF 16 (oB .geq 21 18 20), oQ 22 16 21, oM 23 22, gF 23 (oF 0 24 5), gF 23 (oL 25 24), gF 23 (oM 26 3), gF 23 (oB .leq 27 25 26), oQ 28 23 27, oM 29 28, gF 29 (oR 11 30 1), gF 29 (oR 24 31 5), gF 29 (oJ 32 141 [(.t 30), (.t 31)]), gF 29 (oU 33 32), oQ 34 29 33, oM 35 34, gF 35 (oR 11 36 1), gF 35 (oF 0 37 5), gF 35 (oL 38 37), gF 35 (oJ 39 100 [(.t 36), (.t 38)]), gF 35 (oC .geq 40 39 0), oQ 41 35 40])
  (.cond (.t 41) (.seq (r0 [oV 2 (vb false)])
  .ret) .skip))
  (r0 [oF 0 42 5, oL 43 42, oM 3 43]))))
  (r0 [oC .add 44 9 1, oM 9 44]))))
def c_world_validJoints : ACode := (.seq (r0 [oE 1 0, oV 2 (vb false)])
  (.seq (r0 [oV 3 (vi 0)])
  (.seq (.seq (r0 [oF 6 6 1, oL 7 6, oN 8 7, oV 9 (vi 0)])
  (.block 0 (.loop c_world_validJointsb0)))
  (.seq (r0 [oV 2 (vb true)])
  .ret))))
theorem is_world_validJoints : compile Tryz.prog Tryz.f74.ntmps (Tryz.f74.body.getD .skip) = some c_world_validJoints.strip := by kernel_rfl
abbrev F_world_validContacts : Nat := 75
def c_world_validContactsb0 : ACode := (.seq (r0 [oB .lss 10 9 8])
  (.seq (.cond (.t 10) .skip (.exit 0))
  (.seq (.block 1 (.seq (r0 [oI 7 11 7 9, oR 7 12 11, oA 5 zD1_4, oS 7 5 12])
  (.seq (.seq (r0 [oF 4 13 5, oR 3 14 13, oJ 15 142 [(.t 14)], oU 16 15])
  (.cond (.t 16) (.seq (r0 [oV 2 (vb false)])
  .ret) .skip))
  (r0 [oM 17 3, oF 0 18 5, oR 4 19 18, oY 4 20 1 zD1_3 [(0, 4, (.t 19))], oZ 4 32 21 17 20, oM 3 21]))))
  (r0 [oC .add 22 9 1, oM 9 22]))))
def c_world_validContacts : ACode := (.seq (r0 [oE 1 0, oV 2 (vb false)])
  (.seq (r0 [oV 3 vn])
  (.seq (.seq (r0 [oF 7 6 1, oL 7 6, oN 8 7, oV 9 (vi 0)])
  (.block 0 (.loop c_world_validContactsb0)))
  (.seq (.seq (r0 [oM 23 3, oJ 24 143 [(.t 23)], oU 25 24, oM 26 25, gF 26 (oF 8 27 1), gF 26 (oL 28 27), gF 26 (oJ 29 143 [(.t 28)]), gF 26 (oU 30 29), oQ 31 26 30])
  (.cond (.t 31) (.seq (r0 [oV 2 (vb false)])
  .ret) .skip))
  (.seq (r0 [oM 32 3, oF 8 33 1, oL 34 33, oY 1 35 2 zD1_18 [(0, 1, (.t 32)), (1, 1, (.t 34))], oJ 36 145 [(.t 35)], ⟨(some 37), .mkfn (.func 146) [] [(.t 1)], none, []⟩, oJ 38 144 [(.t 36), (.t 37)], oU 39 38, oM 2 39])
  .ret)))))
theorem is_world_validContacts : compile Tryz.prog Tryz.f75.ntmps (Tryz.f75.body.getD .skip) = some c_world_validContacts.strip := by kernel_rfl
abbrev F_island_Bodies_f1 : Nat := 98
abbrev F_world_FindBody : Nat := 100
def c_world_FindBody : ACode := (.seq (r0 [oE 2 0, oE 3 1, oV 4 (vi 0)])
  (.seq (r0 [oF 5 5 2, oL 6 5, ⟨(some 7), .mkfn (.func 181) [] [(.t 3)], none, []⟩, oJ 8 180 [(.t 6), (.t 7)], oM 4 8])
  .ret))
theorem is_world_FindBody : compile Tryz.prog Tryz.f100.ntmps (Tryz.f100.body.getD .skip) = some c_world_FindBody.strip := by kernel_rfl
abbrev F_slices_Sort_int : Nat := 101
abbrev F_slices_Compact_int : Nat := 102
abbrev F_statehash_bodiesByID : Nat := 114
def c_statehash_bodiesByIDb0 : ACode := (.seq (r0 [oB .lss 13 12 11])
  (.seq (.cond (.t 13) .skip (.exit 0))
  (.seq (.block 1 (.seq (r0 [oI 20 14 10 12, oR 20 15 14, oA 5 zD1_2, oS 20 5 15])
  (.seq (r0 [oM 17 3, oF 0 18 5, oL 19 18, ⟨(some 20), .lookup .i64 (.agg #[(.int .i64 0), (.int .i64 0), (.int .i64 0), (.int .i64 0), (.int .i64 0), (.int .i64 0), (.int .i64 0), (.int .i64 0), (.int .i64 0), (.int .i64 0), (.int .i64 0), (.int .i64 0), (.int .i64 0), (.int .i64 0), (.bool false), (.bool false), (.bool false), (.bool false), (.int .i64 0), (.slice none 0 0)]) true (.t 17) (.t 19), none, []⟩, oM 16 20, oX 21 16 0, oX 22 16 1, oA 6 zD1_2, oS 20 6 21, oM 7 22])
  (.seq (r0 [oM 23 7, oU 24 23])
  (.cond (.t 24) (r0 [oM 25 3, oF 0 26 5, oL 27 26, oR 20 28 5, ⟨none, .mset .i64 (.t 25) (.t 27) (.t 28), none, []⟩]) .skip)))))
  (r0 [oC .add 29 12 1, oM 12 29]))))
def c_statehash_bodiesByID : ACode := (.seq (r0 [oE 1 0, oV 2 (.sc (.map none))])
  (.seq (r0 [⟨(some 8), .mkmap .i64, none, []⟩, oM 3 8])
  (.seq (.seq (r0 [oF 5 9 1, oL 10 9, oN 11 10, oV 12 (vi 0)])
  (.block 0 (.loop c_statehash_bodiesByIDb0)))
  (.seq (r0 [oM 30 3, oM 2 30])
  .ret))))
theorem is_statehash_bodiesByID : compile Tryz.prog Tryz.f114.ntmps (Tryz.f114.body.getD .skip) = some c_statehash_bodiesByID.strip := by kernel_rfl
abbrev F_body_Equal : Nat := 115
def c_body_Equalb0 : ACode := (.seq (r0 [oB .lss 24 23 22])
  (.seq (.cond (.t 24) .skip (.exit 0))
  (.seq (.block 1 (.seq (r0 [oM 25 23, oI 10 26 21 23, oR 10 27 26, oA 6 zD1_14, oM 5 25, oS 10 6 27])
  (.seq (r1 [oR 10 28 6, oF 19 29 3, oL 30 29, oM 31 5, oI 10 32 30 31, oR 10 33 32, oJ 34 193 [(.t 28), (.t 33)], oU 35 34])
  (.cond (.t 35) (.seq (r0 [oV 4 (vb false)])
  .ret) .skip))))
  (r0 [oC .add 36 23 1, oM 23 36]))))
def c_body_Equal : ACode := (.seq (r0 [oE 2 0, oE 3 1, oV 4 (vb false)])
  (.seq (.seq (r0 [oF 19 13 2, oL 14 13, oN 15 14, oF 19 16 3, oL 17 16, oN 18 17, oB .neq 19 15 18])
  (.cond (.t 19) (.seq (r0 [oV 4 (vb false)])
  .ret) .skip))
  (.seq (.seq (r0 [oF 19 20 2, oL 21 20, oN 22 21, oV 23 (vi 0)])
  (.block 0 (.loop c_body_Equalb0)))
  (.seq (r0 [oF 0 37 2, oL 38 37, oF 0 39 3, oL 40 39, oB .eql 41 38 40, oM 42 41, gT 42 (oF 1 43 2), gT 42 (oL 44 43), gT 42 (oF 1 45 3), gT 42 (oL 46 45), gT 42 (oB .eql 47 44 46), oP 48 42 47, oM 49 48, gT 49 (oF 2 50 2), gT 49 (oR 3 51 50), gT 49 (oF 2 52 3), gT 49 (oR 3 53 52), ⟨(some 54), .eqa [true, true, true] false (.t 51) (.t 53), (some (49, true)), []⟩, oP 55 49 54, oM 7 55])
  (.seq (r0 [oF 5 56 2, oR 2 57 56, oF 5 58 3, oR 2 59 58, ⟨(some 60), .eqa [true, true] false (.t 57) (.t 59), none, []⟩, oM 61 60, gT 61 (oF 7 62 2), gT 61 (oL 63 62), gT 61 (oF 7 64 3), gT 61 (oL 65 64), gT 61 (oB .eql 66 63 65), oP 67 61 66, oM 8 67])
  (.seq (r0 [oF 8 68 2, oR 2 69 68, oF 8 70 3, oR 2 71 70, ⟨(some 72), .eqa [true, true] false (.t 69) (.t 71), none, []⟩, oM 73 72, gT 73 (oF 10 74 2), gT 73 (oL 75 74), gT 73 (oF 10 76 3), gT 73 (oL 77 76), gT 73 (oB .eql 78 75 77), oP 79 73 78, oM 9 79])
  (.seq (r0 [oF 11 80 2, oL 81 80, oF 11 82 3, oL 83 82, oB .eql 84 81 83, oM 85 84, gT 85 (oF 12 86 2), gT 85 (oL 87 86), gT 85 (oF 12 88 3), gT 85 (oL 89 88), gT 85 (oB .eql 90 87 89), oP 91 85 90, oM 92 91, gT 92 (oF 13 93 2), gT 92 (oL 94 93), gT 92 (oF 13 95 3), gT 92 (oL 96 95), gT 92 (oB .eql 97 94 96), oP 98 92 97, oM 10 98])
  (.seq (r0 [oF 14 99 2, oL 100 99, oF 14 101 3, oL 102 101, ⟨(some 103), .eqb false (.t 100) (.t 102), none, []⟩, oM 104 103, gT 104 (oF 15 105 2), gT 104 (oL 106 105), gT 104 (oF 15 107 3), gT 104 (oL 108 107), ⟨(some 109), .eqb false (.t 106) (.t 108), (some (104, true)), []⟩, oP 110 104 109, oM 111 110, gT 111 (oF 16 112 2), gT 111 (oL 113 112), gT 111 (oF 16 114 3), gT 111 (oL 115 114), ⟨(some 116), .eqb false (.t 113) (.t 115), (some (111, true)), []⟩, oP 117 111 116, oM 11 117])
  (.seq (r0 [oF 17 118 2, oL 119 118, oF 17 120 3, oL 121 120, ⟨(some 122), .eqb false (.t 119) (.t 121), none, []⟩, oM 123 122, gT 123 (oF 18 124 2), gT 123 (oL 125 124), gT 123 (oF 18 126 3), gT 123 (oL 127 126), gT 123 (oB .eql 128 125 127), oP 129 123 128, oM 12 129])
  (.seq (r0 [oM 130 7, oM 131 130, gT 131 (oM 132 8), oP 133 131 132, oM 134 133, gT 134 (oM 135 9), oP 136 134 135, oM 137 136, gT 137 (oM 138 10), oP 139 137 138, oM 140 139, gT 140 (oM 141 11), oP 142 140 141, oM 143 142, gT 143 (oM 144 12), oP 145 143 144, oM 4 145])
  .ret))))))))))
theorem is_body_Equal : compile Tryz.prog Tryz.f115.ntmps (Tryz.f115.body.getD .skip) = some c_body_Equal.strip := by kernel_rfl
abbrev F_world_Equal_f1 : Nat := 117
def c_world_Equal_f1 : ACode := (.seq (r0 [oE 2 0, oE 3 1, oV 4 (vb false)])
  (.seq (r0 [oF 0 5 2, oR 4 6 5, oF 0 7 3, oR 4 8 7, ⟨(some 9), .eqa [true, true, true, true] false (.t 6) (.t 8), none, []⟩, oM 10 9, gT 10 (oF 4 11 2), gT 10 (oR 3 12 11), gT 10 (oF 4 13 3), gT 10 (oR 3 14 13), gT 10 (oJ 15 118 [(.t 12), (.t 14)]), oP 16 10 15, oM 4 16])
  .ret))
theorem is_world_Equal_f1 : compile Tryz.prog Tryz.f117.ntmps (Tryz.f117.body.getD .skip) = some c_world_Equal_f1.strip := by kernel_rfl
abbrev F_manifold_Equal : Nat := 118
def c_manifold_Equal : ACode := (.seq (r0 [oE 2 0, oE 3 1, oV 4 (vb false)])
  (.seq (r0 [oF 0 5 2, oR 2 6 5, oF 0 7 3, oR 2 8 7, ⟨(some 9), .eqa [true, true] false (.t 6) (.t 8), none, []⟩, oM 10 9, gT 10 (oF 2 11 2), gT 10 (oL 12 11), gT 10 (oF 2 13 3), gT 10 (oL 14 13), gT 10 (oJ 15 195 [(.t 12), (.t 14)]), oP 16 10 15, oM 4 16])
  .ret))
theorem is_manifold_Equal : compile Tryz.prog Tryz.f118.ntmps (Tryz.f118.body.getD .skip) = some c_manifold_Equal.strip := by kernel_rfl
abbrev F_slices_EqualFunc_Body : Nat := 119
def c_slices_EqualFunc_Bodyb0 : ACode := (.seq (r0 [oB .lss 18 17 16])
  (.seq (.cond (.t 18) .skip (.exit 0))
  (.seq (.block 1 (.seq (r0 [oM 19 17, oI 20 20 15 17, oR 20 21 20, oA 8 zD1_2, oM 7 19, oS 20 8 21])
  (.seq (r0 [oM 22 1, oM 23 7, oI 20 24 22 23, oR 20 25 24, oA 9 zD1_2, oS 20 9 25])
  (.seq (r0 [oM 26 2, oR 20 27 8, oR 20 28 9, ⟨(some 29), .callv (.t 26) [(.t 27), (.t 28)], none, []⟩, oU 30 29])
  (.cond (.t 30) (.seq (r0 [oV 6 (vb false)])
  .ret) .skip)))))
  (r0 [oC .add 31 17 1, oM 17 31]))))
def c_slices_EqualFunc_Body : ACode := (.seq (r0 [oV 6 (vb false)])
  (.seq (.seq (r0 [oM 10 0, oN 11 10, oM 12 1, oN 13 12, oB .neq 14 11 13])
  (.cond (.t 14) (.seq (r0 [oV 6 (vb false)])
  .ret) .skip))
  (.seq (.seq (r0 [oM 15 0, oN 16 15, oV 17 (vi 0)])
  (.block 0 (.loop c_slices_EqualFunc_Bodyb0)))
  (.seq (r0 [oV 6 (vb true)])
  .ret))))
theorem is_slices_EqualFunc_Body : compile Tryz.prog Tryz.f119.ntmps (Tryz.f119.body.getD .skip) = some c_slices_EqualFunc_Body.strip := by kernel_rfl
abbrev F_slices_Equal_Joint : Nat := 120
def c_slices_Equal_Jointb0 : ACode := (.seq (r0 [oB .lss 14 13 12])
  (.seq (.cond (.t 14) .skip (.exit 0))
  (.seq (.block 1 (.seq (r0 [oM 15 13, oM 5 15])
  (.seq (r1 [oM 16 0, oM 17 5, oI 24 18 16 17, oR 24 19 18, oM 20 1, oM 21 5, oI 24 22 20 21, oR 24 23 22, ⟨(some 24), .eqa [true, true, true, true, true, true, true, true, true, true, true, false, true, true, false, true, true, true, true, false, true, true, true, true] true (.t 19) (.t 23), none, []⟩])
  (.cond (.t 24) (.seq (r0 [oV 4 (vb false)])
  .ret) .skip))))
  (r0 [oC .add 25 13 1, oM 13 25]))))
def c_slices_Equal_Joint : ACode := (.seq (r0 [oV 4 (vb false)])
  (.seq (.seq (r0 [oM 6 0, oN 7 6, oM 8 1, oN 9 8, oB .neq 10 7 9])
  (.cond (.t 10) (.seq (r0 [oV 4 (vb false)])
  .ret) .skip))
  (.seq (.seq (r0 [oM 11 0, oN 12 11, oV 13 (vi 0)])
  (.block 0 (.loop c_slices_Equal_Jointb0)))
  (.seq (r0 [oV 4 (vb true)])
  .ret))))
theorem is_slices_Equal_Joint : compile Tryz.prog Tryz.f120.ntmps (Tryz.f120.body.getD .skip) = some c_slices_Equal_Joint.strip := by kernel_rfl
abbrev F_slices_EqualFunc_Contact : Nat := 121
def c_slices_EqualFunc_Contactb0 : ACode := (.seq (r0 [oB .lss 18 17 16])
  (.seq (.cond (.t 18) .skip (.exit 0))
  (.seq (.block 1 (.seq (r0 [oM 19 17, oI 7 20 15 17, oR 7 21 20, oA 8 zD1_4, oM 7 19, oS 7 8 21])
  (.seq (r0 [oM 22 1, oM 23 7, oI 7 24 22 23, oR 7 25 24, oA 9 zD1_4, oS 7 9 25])
  (.seq (r0 [oM 26 2, oR 7 27 8, oR 7 28 9, ⟨(some 29), .callv (.t 26) [(.t 27), (.t 28)], none, []⟩, oU 30 29])
  (.cond (.t 30) (.seq (r0 [oV 6 (vb false)])
  .ret) .skip)))))
  (r0 [oC .add 31 17 1, oM 17 31]))))
def c_slices_EqualFunc_Contact : ACode := (.seq (r0 [oV 6 (vb false)])
  (.seq (.seq (r0 [oM 10 0, oN 11 10, oM 12 1, oN 13 12, oB .neq 14 11 13])
  (.cond (.t 14) (.seq (r0 [oV 6 (vb false)])
  .ret) .skip))
  (.seq (.seq (r0 [oM 15 0, oN 16 15, oV 17 (vi 0)])
  (.block 0 (.loop c_slices_EqualFunc_Contactb0)))
  (.seq (r0 [oV 6 (vb true)])
  .ret))))
theorem is_slices_EqualFunc_Contact : compile Tryz.prog Tryz.f121.ntmps (Tryz.f121.body.getD .skip) = some c_slices_EqualFunc_Contact.strip := by kernel_rfl
abbrev F_slices_Equal_PairKey : Nat := 122
def c_slices_Equal_PairKeyb0 : ACode := (.seq (r0 [oB .lss 14 13 12])
  (.seq (.cond (.t 14) .skip (.exit 0))
  (.seq (.block 1 (.seq (r0 [oM 15 13, oM 5 15])
  (.seq (r1 [oM 16 0, oM 17 5, oI 4 18 16 17, oR 4 19 18, oM 20 1, oM 21 5, oI 4 22 20 21, oR 4 23 22, ⟨(some 24), .eqa [true, true, true, true] true (.t 19) (.t 23), none, []⟩])
  (.cond (.t 24) (.seq (r0 [oV 4 (vb false)])
  .ret) .skip))))
  (r0 [oC .add 25 13 1, oM 13 25]))))
def c_slices_Equal_PairKey : ACode := (.seq (r0 [oV 4 (vb false)])
  (.seq (.seq (r0 [oM 6 0, oN 7 6, oM 8 1, oN 9 8, oB .neq 10 7 9])
  (.cond (.t 10) (.seq (r0 [oV 4 (vb false)])
  .ret) .skip))
  (.seq (.seq (r0 [oM 11 0, oN 12 11, oV 13 (vi 0)])
  (.block 0 (.loop c_slices_Equal_PairKeyb0)))
  (.seq (r0 [oV 4 (vb true)])
  .ret))))
theorem is_slices_Equal_PairKey : compile Tryz.prog Tryz.f122.ntmps (Tryz.f122.body.getD .skip) = some c_slices_Equal_PairKey.strip := by kernel_rfl
abbrev F_r23_Clone : Nat := 123
def c_r23_Cloneb0 : ACode := (.seq (.seq (r0 [oM 6 4, oF 19 7 1, oL 8 7, oN 9 8, oB .lss 10 6 9])
  (.cond (.t 10) .skip (.exit 0)))
  (.seq (.block 1 (.seq (r0 [oF 19 13 1, oL 14 13, oM 15 4, oI 10 16 14 15, oR 10 17 16, oA 5 zD1_14, oS 10 5 17])
  (.seq (r0 [oF 0 18 5, oR 3 19 18, oJ 20 196 [(.t 19)], oF 0 21 5, oS 3 21 20])
  (r0 [oM 22 3, oR 10 23 5, oY 10 24 1 zD1_14 [(0, 10, (.t 23))], oZ 10 96 25 22 24, oM 3 25]))))
  (r0 [oM 11 4, oC .add 12 11 1, oM 4 12])))
def c_r23_Clone : ACode := (.seq (r0 [oE 1 0, oA 2 zD1_2])
  (.seq (r0 [oV 3 vn])
  (.seq (.seq (r0 [oV 4 (vi 0)])
  (.block 0 (.loop c_r23_Cloneb0)))
  (.seq (r0 [oM 26 3, oF 19 27 1, oS 1 27 26])
  (.seq (r0 [oR 20 28 1, oS 20 2 28])
  .ret)))))
theorem is_r23_Clone : compile Tryz.prog Tryz.f123.ntmps (Tryz.f123.body.getD .skip) = some c_r23_Clone.strip := by kernel_rfl
abbrev F_r16_Clone : Nat := 124
def c_r16_Clone : ACode := (.seq (r0 [oE 1 0, oA 2 zD1_21])
  (.seq (r1 [oF 0 3 1, oR 2 4 3, ⟨(some 5), .bslice 6 0 [] [], none, [1]⟩, oF 2 6 1, ⟨(some 7), .load none (.t 6), none, [2]⟩, ⟨(some 8), .append 6 48 (.t 5) (.t 7), none, [1]⟩, oW 9 zD1_21 [(0, 2, (.t 4)), (2, 1, (.t 8))], oS 3 2 9])
  .ret))
theorem is_r16_Clone : compile Tryz.prog Tryz.f124.ntmps (Tryz.f124.body.getD .skip) = some c_r16_Clone.strip := by kernel_rfl
abbrev F_checksum_Mix64 : Nat := 125
def c_checksum_Mix64 : ACode := (.seq (r0 [oV 4 (.sc (.int .u64 0))])
  (.seq (r0 [oM 6 0, oM 7 1, ⟨(some 8), .convI .u64 (.t 7), none, []⟩, oB .xor 9 6 8, ⟨(some 10), .bin .mul (.t 9) (.k (.sc (.int .u64 11400714819323198485))), none, []⟩, oM 5 10])
  (.seq (r0 [oM 11 5, oM 12 5, ⟨(some 13), .bin .shr (.t 12) (.k (.sc (.int .u64 32))), none, []⟩, oB .xor 14 11 13, ⟨(some 15), .bin .mul (.t 14) (.k (.sc (.int .u64 15485907386658061715))), none, []⟩, oM 5 15])
  (.seq (r0 [oM 16 5, oM 17 5, ⟨(some 18), .bin .shr (.t 17) (.k (.sc (.int .u64 29))), none, []⟩, oB .xor 19 16 18, oM 4 19])
  .ret))))
theorem is_checksum_Mix64 : compile Tryz.prog Tryz.f125.ntmps (Tryz.f125.body.getD .skip) = some c_checksum_Mix64.strip := by kernel_rfl
abbrev F_codec_AppendInt : Nat := 134
def c_codec_AppendIntb0 : ACode := (.seq (.seq (r0 [oM 10 6, ⟨(some 11), .bin .gtr (.t 10) (.k (.sc (.int .u64 0))), none, []⟩])
  (.cond (.t 11) .skip (.exit 0)))
  (.seq (.block 1 (r0 [oM 14 6, ⟨(some 15), .convI .u8 (.t 14), none, []⟩, oY 1 16 1 [(.int .u8 0)] [(0, 1, (.t 15))], oM 17 5, oZ 1 1 18 16 17, oM 5 18]))
  (r0 [oM 12 6, ⟨(some 13), .bin .shr (.t 12) (.k (.sc (.int .u64 8))), none, []⟩, oM 6 13])))
def c_codec_AppendInt : ACode := (.seq (r0 [oV 4 vn])
  (.seq (r0 [oV 5 vn])
  (.seq (.seq (r0 [oM 8 1, oJ 9 201 [(.t 8)], oM 6 9])
  (.block 0 (.loop c_codec_AppendIntb0)))
  (.seq (r0 [oM 19 5, oN 20 19, oM 7 20])
  (.seq (.seq (r0 [oM 21 1, oC .lss 22 21 0])
  (.cond (.t 22) (r0 [oM 23 7, oC .add 24 23 16, oM 7 24]) .skip))
  (.seq (r0 [oM 25 0, oM 26 7, ⟨(some 27), .convI .u8 (.t 26), none, []⟩, oY 1 28 1 [(.int .u8 0)] [(0, 1, (.t 27))], oJ 29 202 [(.t 25), (.t 28)], oM 30 5, oJ 31 202 [(.t 29), (.t 30)], oM 4 31])
  .ret))))))
theorem is_codec_AppendInt : compile Tryz.prog Tryz.f134.ntmps (Tryz.f134.body.getD .skip) = some c_codec_AppendInt.strip := by kernel_rfl
abbrev F_codec_AppendVec : Nat := 135
def c_codec_AppendVec : ACode := (.seq (r0 [oE 3 1, oV 4 vn])
  (.seq (r1 [oM 5 0, oF 0 6 3, oL 7 6, oJ 8 134 [(.t 5), (.t 7)], oF 1 9 3, ⟨(some 10), .load none (.t 9), none, [3]⟩, oJ 11 134 [(.t 8), (.t 10)], oM 4 11])
  .ret))
theorem is_codec_AppendVec : compile Tryz.prog Tryz.f135.ntmps (Tryz.f135.body.getD .skip) = some c_codec_AppendVec.strip := by kernel_rfl
abbrev F_snapshot_encoder_bools : Nat := 136
def c_snapshot_encoder_boolsb0 : ACode := (.seq (r0 [oB .lss 9 8 7])
  (.seq (.cond (.t 9) .skip (.exit 0))
  (.seq (.block 1 (.seq (r0 [oI 1 10 6 8, oL 11 10, oM 5 11])
  (r0 [oM 12 0, oM 13 0, ⟨(some 14), .nilck (.t 13), none, []⟩, oF 0 15 14, oL 16 15, oM 17 5, oJ 18 203 [(.t 16), (.t 17)], ⟨(some 19), .nilck (.t 12), none, []⟩, oF 0 20 19, oS 1 20 18])))
  (r0 [oC .add 21 8 1, oM 8 21]))))
def c_snapshot_encoder_bools : ACode := (.seq (r0 [oM 6 1, oN 7 6, oV 8 (vi 0)])
  (.block 0 (.loop c_snapshot_encoder_boolsb0)))
theorem is_snapshot_encoder_bools : compile Tryz.prog Tryz.f136.ntmps (Tryz.f136.body.getD .skip) = some c_snapshot_encoder_bools.strip := by kernel_rfl
abbrev F_snapshot_encoder_fixture : Nat := 137
def c_snapshot_encoder_fixture : ACode := (.seq (r0 [oE 3 1])
  (.seq (r0 [oM 4 0, oF 0 5 3, oF 0 6 5, oL 7 6, oF 0 8 3, oF 1 9 8, oL 10 9, oF 0 11 3, oF 2 12 11, oL 13 12, oN 14 13, oY 1 15 3 zD1_7 [(0, 1, (.t 7)), (1, 1, (.t 10)), (2, 1, (.t 14))], oJ 16 64 [(.t 4), (.t 15)]])
  (.seq (r0 [oM 17 0, oF 0 18 3, oF 2 19 18, oL 20 19, oJ 21 65 [(.t 17), (.t 20)]])
  (.seq (r0 [oM 22 0, oF 3 23 3, oL 24 23, oF 4 25 3, oL 26 25, oF 5 27 3, oL 28 27, oY 1 29 3 zD1_7 [(0, 1, (.t 24)), (1, 1, (.t 26)), (2, 1, (.t 28))], oJ 30 64 [(.t 22), (.t 29)]])
  (.seq (r0 [oM 31 0, oF 6 32 3, oL 33 32, oY 1 34 1 [(.bool false)] [(0, 1, (.t 33))], oJ 35 136 [(.t 31), (.t 34)]])
  (r0 [oM 36 0, oF 7 37 3, oL 38 37, oF 8 39 3, oL 40 39, oF 9 41 3, oL 42 41, oY 1 43 3 zD1_7 [(0, 1, (.t 38)), (1, 1, (.t 40)), (2, 1, (.t 42))], oJ 44 64 [(.t 36), (.t 43)]]))))))
theorem is_snapshot_encoder_fixture : compile Tryz.prog Tryz.f137.ntmps (Tryz.f137.body.getD .skip) = some c_snapshot_encoder_fixture.strip := by kernel_rfl
abbrev F_checksum_CRC32C : Nat := 138
def c_checksum_CRC32Cb0 : ACode := (.seq (r0 [oB .lss 9 8 7])
  (.seq (.cond (.t 9) .skip (.exit 0))
  (.seq (.block 1 (.seq (r0 [oI 1 10 6 8, oL 11 10, oM 5 11])
  (r0 [oM 12 3, oM 13 5, ⟨(some 14), .convI .u32 (.t 13), none, []⟩, oB .xor 15 12 14, oJ 16 204 [(.t 15)], oM 3 16])))
  (r0 [oC .add 17 8 1, oM 8 17]))))
def c_checksum_CRC32C : ACode := (.seq (r0 [oV 2 (.sc (.int .u32 0))])
  (.seq (r0 [oV 3 (.sc (.int .u32 4294967295))])
  (.seq (.seq (r0 [oM 6 0, oN 7 6, oV 8 (vi 0)])
  (.block 0 (.loop c_checksum_CRC32Cb0)))
  (.seq (r0 [oM 18 3, ⟨(some 19), .un .xor (.t 18), none, []⟩, oM 2 19])
  .ret))))
theorem is_checksum_CRC32C : compile Tryz.prog Tryz.f138.ntmps (Tryz.f138.body.getD .skip) = some c_checksum_CRC32C.strip := by kernel_rfl
abbrev F_body_Validate : Nat := 139
def c_body_Validateb0 : ACode := (.seq (r0 [oB .lss 29 28 27])
  (.seq (.cond (.t 29) .skip (.exit 0))
  (.seq (.block 1 (.seq (r0 [oI 10 30 26 28, oR 10 31 30, oA 4 zD1_14, oS 10 4 31])
  (.seq (r0 [oR 10 32 4, oJ 33 206 [(.t 32)], oC .neq 34 33 0])
  (.cond (.t 34) (.seq (r0 [oV 2 (vi 13)])
  .ret) .skip))))
  (r0 [oC .add 35 28 1, oM 28 35]))))
def c_body_Validate : ACode := (.seq (r0 [oE 1 0, oV 2 (vi 0)])
  (.seq (.seq (r0 [oF 1 5 1, oL 6 5, oC .neq 7 6 1, oM 8 7, gT 8 (oF 1 9 1), gT 8 (oL 10 9), gT 8 (oC .neq 11 10 2), oP 12 8 11, oM 13 12, gT 13 (oF 1 14 1), gT 13 (oL 15 14), gT 13 (oC .neq 16 15 3), oP 17 13 16])
  (.cond (.t 17) (.seq (r0 [oV 2 (vi 10)])
  .ret) .skip))
  (.seq (.seq (r0 [oR 20 18 1, oJ 19 205 [(.t 18)], oU 20 19])
  (.cond (.t 20) (.seq (r0 [oV 2 (vi 6)])
  .ret) .skip))
  (.seq (.seq (r0 [oF 19 21 1, oL 22 21, oN 23 22, oC .gtr 24 23 4])
  (.cond (.t 24) (.seq (r0 [oV 2 (vi 11)])
  .ret) .skip))
  (.seq (.seq (r0 [oF 19 25 1, oL 26 25, oN 27 26, oV 28 (vi 0)])
  (.block 0 (.loop c_body_Validateb0)))
  (.seq (.seq (r0 [oR 20 36 1, oJ 37 207 [(.t 36)], oU 38 37])
  (.cond (.t 38) (.seq (r0 [oV 2 (vi 14)])
  .ret) .skip))
  (.seq (r0 [oV 2 (vi 0)])
  .ret)))))))
theorem is_body_Validate : compile Tryz.prog Tryz.f139.ntmps (Tryz.f139.body.getD .skip) = some c_body_Validate.strip := by kernel_rfl
abbrev F_joint_Validate : Nat := 140
def c_joint_Validate : ACode := (.seq (r0 [oE 1 0, oV 2 (vi 0)])
  (.seq (.block 0 (.seq (r0 [oF 1 4 1, oL 5 4, oC .lss 6 5 1, oM 7 6, gF 7 (oF 1 8 1), gF 7 (oL 9 8), gF 7 (oC .gtr 10 9 5), oQ 11 7 10, oM 3 11])
  (.cond (.t 3) (.seq (r0 [oV 2 (vi 10)])
  .ret) (.seq (r0 [oR 24 13 1, oJ 14 208 [(.t 13)], oU 15 14, oM 12 15])
  (.cond (.t 12) (.seq (r0 [oV 2 (vi 6)])
  .ret) (.seq (r0 [oR 24 17 1, oJ 18 209 [(.t 17)], oU 19 18, oM 16 19])
  (.cond (.t 16) (.seq (r0 [oV 2 (vi 14)])
  .ret) (.seq (r0 [oR 24 21 1, oJ 22 210 [(.t 21)], oM 20 22])
  (.cond (.t 20) (.seq (r0 [oV 2 (vi 15)])
  .ret) .skip)))))))))
  (.seq (r0 [oV 2 (vi 0)])
  .ret)))
theorem is_joint_Validate : compile Tryz.prog Tryz.f140.ntmps (Tryz.f140.body.getD .skip) = some c_joint_Validate.strip := by kernel_rfl
abbrev F_world_bodiesExist : Nat := 141
def c_world_bodiesExist : ACode := (.seq (r0 [oE 2 0, oE 3 1, oV 4 (vb false)])
  (.seq (r0 [oR 11 5 2, oF 3 6 3, oL 7 6, oJ 8 100 [(.t 5), (.t 7)], oC .geq 9 8 0, oM 10 9, gT 10 (oF 1 11 3), gT 10 (oL 12 11), gT 10 (oC .eql 13 12 5), gT 10 (oM 14 13), gF 14 (oR 11 15 2), gF 14 (oF 2 16 3), gF 14 (oL 17 16), gF 14 (oJ 18 100 [(.t 15), (.t 17)]), gF 14 (oC .geq 19 18 0), gT 10 (oQ 20 14 19), oP 21 10 20, oM 4 21])
  .ret))
theorem is_world_bodiesExist : compile Tryz.prog Tryz.f141.ntmps (Tryz.f141.body.getD .skip) = some c_world_bodiesExist.strip := by kernel_rfl
abbrev F_world_validManifold : Nat := 142
def c_world_validManifold : ACode := (.seq (r0 [oE 1 0, oV 2 (vb false)])
  (.seq (r0 [oF 2 4 1, oL 5 4, oN 6 5, oM 3 6])
  (.seq (.seq (r1 [oM 7 3, oC .lss 8 7 1, oM 9 8, gF 9 (oM 10 3), gF 9 (oC .gtr 11 10 2), oQ 12 9 11, oM 13 12, gF 13 (oM 14 3), gF 13 (oC .eql 15 14 2), gF 13 (oM 16 15), gT 16 (oF 2 17 1), gT 16 (oL 18 17), ⟨(some 19), .iaddr 6 (.t 18) (ki 0), (some (16, true)), []⟩, gT 16 (oF 3 20 19), gT 16 (oL 21 20), gT 16 (oF 2 22 1), gT 16 (oL 23 22), ⟨(some 24), .iaddr 6 (.t 23) (ki 1), (some (16, true)), []⟩, gT 16 (oF 3 25 24), gT 16 (oL 26 25), gT 16 (oB .eql 27 21 26), gF 13 (oP 28 16 27), oQ 29 13 28, oM 30 29, gF 30 (oF 0 31 1), gF 30 (oF 0 32 31), gF 30 (oL 33 32), gF 30 (oF 0 34 1), gF 30 (oF 1 35 34), gF 30 (oL 36 35), gF 30 (oY 1 37 2 zD1_6 [(0, 1, (.t 33)), (1, 1, (.t 36))]), gF 30 (oJ 38 211 [(.t 37)]), gF 30 (oU 39 38), oQ 40 30 39])
  (.cond (.t 40) (.seq (r0 [oV 2 (vb false)])
  .ret) .skip))
  (.seq (r0 [oF 2 41 1, oL 42 41, oJ 43 212 [(.t 42), (.k (.fn (.func 213) [] []))], oU 44 43, oM 2 44])
  .ret))))
theorem is_world_validManifold : compile Tryz.prog Tryz.f142.ntmps (Tryz.f142.body.getD .skip) = some c_world_validManifold.strip := by kernel_rfl
abbrev F_broadphase_ValidKeys : Nat := 143
def c_broadphase_ValidKeysb0 : ACode := (.seq (r0 [oB .lss 10 9 8])
  (.seq (.cond (.t 10) .skip (.exit 0))
  (.seq (.block 1 (.seq (r0 [oM 11 9, oI 4 12 7 9, oR 4 13 12, oA 5 zD1_3, oM 4 11, oS 4 5 13])
  (.seq (.seq (r0 [oR 4 14 5, oJ 15 214 [(.t 14)], oU 16 15, oM 17 16, gF 17 (oM 18 4), gF 17 (oC .gtr 19 18 0), gF 17 (oM 20 19), gT 20 (oR 4 21 5), gT 20 (oR 4 22 3), ⟨(some 23), .eqa [true, true, true, true] false (.t 21) (.t 22), (some (20, true)), []⟩, gT 20 (oM 24 23), gF 24 (oR 4 25 3), gF 24 (oR 4 26 5), gF 24 (oJ 27 215 [(.t 25), (.t 26)]), gF 24 (oU 28 27), gT 20 (oQ 29 24 28), gF 17 (oP 30 20 29), oQ 31 17 30])
  (.cond (.t 31) (.seq (r0 [oV 2 (vb false)])
  .ret) .skip))
  (r0 [oR 4 32 5, oS 4 3 32]))))
  (r0 [oC .add 33 9 1, oM 9 33]))))
def c_broadphase_ValidKeys : ACode := (.seq (r0 [oV 2 (vb false)])
  (.seq (r0 [oW 6 zD1_3 [], oA 3 zD1_3, oS 4 3 6])
  (.seq (.seq (r0 [oM 7 0, oN 8 7, oV 9 (vi 0)])
  (.block 0 (.loop c_broadphase_ValidKeysb0)))
  (.seq (r0 [oV 2 (vb true)])
  .ret))))
theorem is_broadphase_ValidKeys : compile Tryz.prog Tryz.f143.ntmps (Tryz.f143.body.getD .skip) = some c_broadphase_ValidKeys.strip := by kernel_rfl
abbrev F_slices_ContainsFunc_PairKey : Nat := 144
def c_slices_ContainsFunc_PairKey : ACode := (.seq (r0 [oV 4 (vb false)])
  (.seq (r0 [oM 5 0, oM 6 1, oJ 7 216 [(.t 5), (.t 6)], oC .geq 8 7 0, oM 4 8])
  .ret))
theorem is_slices_ContainsFunc_PairKey : compile Tryz.prog Tryz.f144.ntmps (Tryz.f144.body.getD .skip) = some c_slices_ContainsFunc_PairKey.strip := by kernel_rfl
abbrev F_slices_Concat_PairKey : Nat := 145
def c_slices_Concat_PairKeyb0 : ACode := (.seq (r0 [oB .lss 12 11 10])
  (.seq (.cond (.t 12) .skip (.exit 0))
  (.seq (.block 1 (.seq (r0 [oI 1 13 9 11, oL 14 13, oM 5 14])
  (.seq (r0 [oM 15 3, oM 16 5, oN 17 16, oB .add 18 15 17, oM 3 18])
  (.seq (r0 [oM 19 3, oC .lss 20 19 0])
  (.cond (.t 20) (r0 [⟨(some 21), .bad, none, []⟩, ⟨none, .bad, none, []⟩]) .skip)))))
  (r0 [oC .add 22 11 1, oM 11 22]))))
def c_slices_Concat_PairKeyb1 : ACode := (.seq (r0 [oB .lss 28 27 26])
  (.seq (.cond (.t 28) .skip (.exit 2))
  (.seq (.block 3 (.seq (r0 [oI 1 29 25 27, oL 30 29, oM 8 30])
  (r0 [oM 31 6, oM 32 8, oZ 4 32 33 31 32, oM 6 33])))
  (r0 [oC .add 34 27 1, oM 27 34]))))
def c_slices_Concat_PairKey : ACode := (.seq (r0 [oV 2 vn])
  (.seq (r0 [oV 3 (vi 0)])
  (.seq (.seq (r0 [oM 9 0, oN 10 9, oV 11 (vi 0)])
  (.block 0 (.loop c_slices_Concat_PairKeyb0)))
  (.seq (r0 [oM 23 3, oJ 24 217 [(.k vn), (.t 23)], oM 6 24])
  (.seq (.seq (r0 [oM 25 0, oN 26 25, oV 27 (vi 0)])
  (.block 2 (.loop c_slices_Concat_PairKeyb1)))
  (.seq (r0 [oM 35 6, oM 2 35])
  .ret))))))
theorem is_slices_Concat_PairKey : compile Tryz.prog Tryz.f145.ntmps (Tryz.f145.body.getD .skip) = some c_slices_Concat_PairKey.strip := by kernel_rfl
abbrev F_world_validContacts_f1 : Nat := 146
def c_world_validContacts_f1 : ACode := (.seq (r0 [oE 2 0, oV 3 (vb false)])
  (.seq (r0 [oR 11 4 1, oR 4 5 2, oJ 6 147 [(.t 4), (.t 5)], oU 7 6, oM 3 7])
  .ret))
theorem is_world_validContacts_f1 : compile Tryz.prog Tryz.f146.ntmps (Tryz.f146.body.getD .skip) = some c_world_validContacts_f1.strip := by kernel_rfl
abbrev F_world_fixturesExist : Nat := 147
def c_world_fixturesExist : ACode := (.seq (r0 [oE 2 0, oE 3 1, oV 4 (vb false)])
  (.seq (r1 [oR 11 7 2, oF 0 8 3, oL 9 8, oJ 10 100 [(.t 7), (.t 9)], ⟨(some 11), .load (some 11) (.t 2), none, [3]⟩, oF 2 12 3, ⟨(some 13), .load none (.t 12), none, [3]⟩, oJ 14 100 [(.t 11), (.t 13)], oM 5 10, oM 6 14])
  (.seq (r1 [oM 15 5, oC .geq 16 15 0, oM 17 16, gT 17 (oM 18 6), gT 17 (oC .geq 19 18 0), oP 20 17 19, oM 21 20, gT 21 (oF 1 22 3), gT 21 (oL 23 22), gT 21 (oF 5 24 2), gT 21 (oL 25 24), gT 21 (oM 26 5), gT 21 (oI 20 27 25 26), gT 21 (oF 19 28 27), gT 21 (oL 29 28), gT 21 (oN 30 29), gT 21 (oB .lss 31 23 30), oP 32 21 31, oM 33 32, gT 33 (oF 3 34 3), gT 33 (oL 35 34), gT 33 (oF 5 36 2), gT 33 (oL 37 36), gT 33 (oM 38 6), gT 33 (oI 20 39 37 38), gT 33 (oF 19 40 39), gT 33 (oL 41 40), gT 33 (oN 42 41), gT 33 (oB .lss 43 35 42), oP 44 33 43, oM 4 44])
  .ret)))
theorem is_world_fixturesExist : compile Tryz.prog Tryz.f147.ntmps (Tryz.f147.body.getD .skip) = some c_world_fixturesExist.strip := by kernel_rfl
abbrev F_slices_IndexFunc_Body : Nat := 180
def c_slices_IndexFunc_Bodyb0 : ACode := (.seq (r0 [oB .lss 9 8 7])
  (.seq (.cond (.t 9) .skip (.exit 0))
  (.seq (.block 1 (.seq (r0 [oM 10 8, oM 5 10])
  (.seq (r0 [oM 11 1, oM 12 0, oM 13 5, oI 20 14 12 13, oR 20 15 14, ⟨(some 16), .callv (.t 11) [(.t 15)], none, []⟩])
  (.cond (.t 16) (.seq (r0 [oM 17 5, oM 4 17])
  .ret) .skip))))
  (r0 [oC .add 18 8 1, oM 8 18]))))
def c_slices_IndexFunc_Body : ACode := (.seq (r0 [oV 4 (vi 0)])
  (.seq (.seq (r0 [oM 6 0, oN 7 6, oV 8 (vi 0)])
  (.block 0 (.loop c_slices_IndexFunc_Bodyb0)))
  (.seq (r0 [oV 4 (vi (-1))])
  .ret)))
theorem is_slices_IndexFunc_Body : compile Tryz.prog Tryz.f180.ntmps (Tryz.f180.body.getD .skip) = some c_slices_IndexFunc_Body.strip := by kernel_rfl
abbrev F_world_FindBody_f1 : Nat := 181
def c_world_FindBody_f1 : ACode := (.seq (r0 [oE 2 0, oV 3 (vb false)])
  (.seq (r0 [oF 0 4 2, oL 5 4, oL 6 1, oB .eql 7 5 6, oM 3 7])
  .ret))
theorem is_world_FindBody_f1 : compile Tryz.prog Tryz.f181.ntmps (Tryz.f181.body.getD .skip) = some c_world_FindBody_f1.strip := by kernel_rfl
abbrev F_slices_ContainsFunc_int : Nat := 188
def c_slices_ContainsFunc_int : ACode := (.seq (r0 [oV 4 (vb false)])
  (.seq (r0 [oM 5 0, oM 6 1, oJ 7 257 [(.t 5), (.t 6)], oC .geq 8 7 0, oM 4 8])
  .ret))
theorem is_slices_ContainsFunc_int : compile Tryz.prog Tryz.f188.ntmps (Tryz.f188.body.getD .skip) = some c_slices_ContainsFunc_int.strip := by kernel_rfl
abbrev F_body_equalFixtures : Nat := 193
def c_body_equalFixtures : ACode := (.seq (r0 [oE 2 0, oE 3 1, oV 4 (vb false)])
  (.seq (r0 [oF 3 7 2, oL 8 7, oF 3 9 3, oL 10 9, oB .eql 11 8 10, oM 12 11, gT 12 (oF 4 13 2), gT 12 (oL 14 13), gT 12 (oF 4 15 3), gT 12 (oL 16 15), gT 12 (oB .eql 17 14 16), oP 18 12 17, oM 19 18, gT 19 (oF 5 20 2), gT 19 (oL 21 20), gT 19 (oF 5 22 3), gT 19 (oL 23 22), gT 19 (oB .eql 24 21 23), oP 25 19 24, oM 5 25])
  (.seq (r0 [oF 6 26 2, oL 27 26, oF 6 28 3, oL 29 28, ⟨(some 30), .eqb false (.t 27) (.t 29), none, []⟩, oM 31 30, gT 31 (oF 7 32 2), gT 31 (oL 33 32), gT 31 (oF 7 34 3), gT 31 (oL 35 34), gT 31 (oB .eql 36 33 35), oP 37 31 36, oM 38 37, gT 38 (oF 8 39 2), gT 38 (oL 40 39), gT 38 (oF 8 41 3), gT 38 (oL 42 41), gT 38 (oB .eql 43 40 42), oP 44 38 43, oM 45 44, gT 45 (oF 9 46 2), gT 45 (oL 47 46), gT 45 (oF 9 48 3), gT 45 (oL 49 48), gT 45 (oB .eql 50 47 49), oP 51 45 50, oM 6 51])
  (.seq (r0 [oF 0 52 2, oR 3 53 52, oF 0 54 3, oR 3 55 54, oJ 56 258 [(.t 53), (.t 55)], oM 57 56, gT 57 (oM 58 5), oP 59 57 58, oM 60 59, gT 60 (oM 61 6), oP 62 60 61, oM 4 62])
  .ret))))
theorem is_body_equalFixtures : compile Tryz.prog Tryz.f193.ntmps (Tryz.f193.body.getD .skip) = some c_body_equalFixtures.strip := by kernel_rfl
abbrev F_slices_Equal_ContactPoint : Nat := 195
def c_slices_Equal_ContactPointb0 : ACode := (.seq (r0 [oB .lss 14 13 12])
  (.seq (.cond (.t 14) .skip (.exit 0))
  (.seq (.block 1 (.seq (r0 [oM 15 13, oM 5 15])
  (.seq (r1 [oM 16 0, oM 17 5, oI 6 18 16 17, oR 6 19 18, oM 20 1, oM 21 5, oI 6 22 20 21, oR 6 23 22, ⟨(some 24), .eqa [true, true, true, true, true, true] true (.t 19) (.t 23), none, []⟩])
  (.cond (.t 24) (.seq (r0 [oV 4 (vb false)])
  .ret) .skip))))
  (r0 [oC .add 25 13 1, oM 13 25]))))
def c_slices_Equal_ContactPoint : ACode := (.seq (r0 [oV 4 (vb false)])
  (.seq (.seq (r0 [oM 6 0, oN 7 6, oM 8 1, oN 9 8, oB .neq 10 7 9])
  (.cond (.t 10) (.seq (r0 [oV 4 (vb false)])
  .ret) .skip))
  (.seq (.seq (r0 [oM 11 0, oN 12 11, oV 13 (vi 0)])
  (.block 0 (.loop c_slices_Equal_ContactPointb0)))
  (.seq (r0 [oV 4 (vb true)])
  .ret))))
theorem is_slices_Equal_ContactPoint : compile Tryz.prog Tryz.f195.ntmps (Tryz.f195.body.getD .skip) = some c_slices_Equal_ContactPoint.strip := by kernel_rfl
abbrev F_r12_Clone : Nat := 196
def c_r12_Clone : ACode := (.seq (r0 [oE 1 0, oA 2 zD1_21])
  (.seq (r1 [oF 0 3 1, oL 4 3, oF 1 5 1, oL 6 5, ⟨(some 7), .bslice 2 0 [] [], none, [1, 3]⟩, oF 2 8 1, ⟨(some 9), .load none (.t 8), none, [4]⟩, ⟨(some 10), .append 2 16 (.t 7) (.t 9), none, [1, 3]⟩, oW 11 zD1_21 [(0, 1, (.t 4)), (1, 1, (.t 6)), (2, 1, (.t 10))], oS 3 2 11])
  .ret))
theorem is_r12_Clone : compile Tryz.prog Tryz.f196.ntmps (Tryz.f196.body.getD .skip) = some c_r12_Clone.strip := by kernel_rfl
abbrev F_codec_magnitude : Nat := 201
def c_codec_magnitude : ACode := (.seq (r0 [oV 2 (.sc (.int .u64 0))])
  (.seq (.seq (r0 [oM 3 0, oC .lss 4 3 0])
  (.cond (.t 4) (.seq (r0 [oM 5 0, ⟨(some 6), .convI .u64 (.t 5), none, []⟩, ⟨(some 7), .un .neg (.t 6), none, []⟩, oM 2 7])
  .ret) .skip))
  (.seq (r0 [oM 8 0, ⟨(some 9), .convI .u64 (.t 8), none, []⟩, oM 2 9])
  .ret)))
theorem is_codec_magnitude : compile Tryz.prog Tryz.f201.ntmps (Tryz.f201.body.getD .skip) = some c_codec_magnitude.strip := by kernel_rfl
abbrev F_codec_extend : Nat := 202
def c_codec_extend : ACode := (.seq (r0 [oV 4 vn])
  (.seq (r0 [oM 5 0, oM 6 0, oN 7 6, oM 8 0, oN 9 8, ⟨(some 10), .slice 1 (.t 5) none (some (.t 7)) (some (.t 9)), none, []⟩, oM 11 1, oZ 1 1 12 10 11, oM 4 12])
  .ret))
theorem is_codec_extend : compile Tryz.prog Tryz.f202.ntmps (Tryz.f202.body.getD .skip) = some c_codec_extend.strip := by kernel_rfl
abbrev F_codec_AppendBool : Nat := 203
def c_codec_AppendBool : ACode := (.seq (r0 [oV 4 vn])
  (.seq (.seq (r0 [oM 5 1])
  (.cond (.t 5) (.seq (r0 [oM 6 0, oY 1 7 1 [(.int .u8 0)] [(0, 1, (.k (.sc (.int .u8 1))))], oJ 8 202 [(.t 6), (.t 7)], oM 4 8])
  .ret) .skip))
  (.seq (r0 [oM 9 0, oY 1 10 1 [(.int .u8 0)] [(0, 1, (.k (.sc (.int .u8 0))))], oJ 11 202 [(.t 9), (.t 10)], oM 4 11])
  .ret)))
theorem is_codec_AppendBool : compile Tryz.prog Tryz.f203.ntmps (Tryz.f203.body.getD .skip) = some c_codec_AppendBool.strip := by kernel_rfl
abbrev F_checksum_update : Nat := 204
def c_checksum_updateb0 : ACode := (.seq (r0 [oC .lss 5 4 8])
  (.seq (.cond (.t 5) .skip (.exit 0))
  (.seq (.block 1 (.seq (r0 [oM 6 0, ⟨(some 7), .bin .and (.t 6) (.k (.sc (.int .u32 1))), none, []⟩, oM 3 7])
  (.seq (r0 [oM 8 0, ⟨(some 9), .bin .shr (.t 8) (.k (.sc (.int .u64 1))), none, []⟩, oM 0 9])
  (.seq (r0 [oM 10 3, ⟨(some 11), .bin .eql (.t 10) (.k (.sc (.int .u32 1))), none, []⟩])
  (.cond (.t 11) (r0 [oM 12 0, ⟨(some 13), .bin .xor (.t 12) (.k (.sc (.int .u32 2197175160))), none, []⟩, oM 0 13]) .skip)))))
  (r0 [oC .add 14 4 1, oM 4 14]))))
def c_checksum_update : ACode := (.seq (r0 [oV 2 (.sc (.int .u32 0))])
  (.seq (.seq (r0 [oV 4 (vi 0)])
  (.block 0 (.loop c_checksum_updateb0)))
  (.seq (r0 [oM 15 0, oM 2 15])
  .ret)))
theorem is_checksum_update : compile Tryz.prog Tryz.f204.ntmps (Tryz.f204.body.getD .skip) = some c_checksum_update.strip := by kernel_rfl
abbrev F_body_inRange : Nat := 205
def c_body_inRange : ACode := (.seq (r0 [oE 1 0, oV 2 (vb false)])
  (.seq (r0 [oF 5 7 1, oR 2 8 7, oJ 9 259 [(.t 8), (ki 16777216)], oM 10 9, gT 10 (oF 7 11 1), gT 10 (oL 12 11), gT 10 (oJ 13 260 [(.t 12), (ki (-4194304)), (ki 4194304)]), oP 14 10 13, oM 3 14])
  (.seq (r0 [oF 8 15 1, oR 2 16 15, oJ 17 259 [(.t 16), (ki 536870911)], oM 18 17, gT 18 (oF 10 19 1), gT 18 (oL 20 19), gT 18 (oJ 21 260 [(.t 20), (ki (-536870911)), (ki 536870911)]), oP 22 18 21, oM 4 22])
  (.seq (r0 [oF 11 23 1, oL 24 23, oJ 25 260 [(.t 24), (ki 0), (ki 65536)], oM 26 25, gT 26 (oF 12 27 1), gT 26 (oL 28 27), gT 26 (oJ 29 260 [(.t 28), (ki 0), (ki 65536)]), oP 30 26 29, oM 5 30])
  (.seq (r0 [oF 13 31 1, oL 32 31, oJ 33 260 [(.t 32), (ki (-262144)), (ki 262144)], oM 6 33])
  (.seq (r0 [oF 0 34 1, oL 35 34, oJ 36 260 [(.t 35), (ki 1), (ki 1099511627776)], oM 37 36, gT 37 (oF 2 38 1), gT 37 (oR 3 39 38), gT 37 (oJ 40 261 [(.t 39)]), oP 41 37 40, oM 42 41, gT 42 (oM 43 3), oP 44 42 43, oM 45 44, gT 45 (oM 46 4), oP 47 45 46, oM 48 47, gT 48 (oM 49 5), oP 50 48 49, oM 51 50, gT 51 (oM 52 6), oP 53 51 52, oM 54 53, gT 54 (oF 18 55 1), gT 54 (oL 56 55), gT 54 (oJ 57 260 [(.t 56), (ki 0), (ki 1048576)]), oP 58 54 57, oM 2 58])
  .ret))))))
theorem is_body_inRange : compile Tryz.prog Tryz.f205.ntmps (Tryz.f205.body.getD .skip) = some c_body_inRange.strip := by kernel_rfl
abbrev F_body_ValidateFixture : Nat := 206
def c_body_ValidateFixture : ACode := (.seq (r0 [oE 1 0, oV 2 (vi 0)])
  (.seq (.seq (r0 [oF 0 6 1, oR 3 7 6, oJ 8 262 [(.t 7)], oM 3 8])
  (.seq (r0 [oM 9 3, oC .neq 10 9 0])
  (.cond (.t 10) (.seq (r0 [oM 11 3, oM 2 11])
  .ret) .skip)))
  (.seq (r0 [oF 3 12 1, oL 13 12, oJ 14 260 [(.t 13), (ki 0), (ki 262144)], oM 15 14, gT 15 (oF 4 16 1), gT 15 (oL 17 16), gT 15 (oJ 18 260 [(.t 17), (ki 0), (ki 131072)]), oP 19 15 18, oM 20 19, gT 20 (oF 5 21 1), gT 20 (oL 22 21), gT 20 (oJ 23 260 [(.t 22), (ki 0), (ki 65536)]), oP 24 20 23, oM 4 24])
  (.seq (r0 [oF 7 25 1, oL 26 25, oJ 27 260 [(.t 26), (ki 0), (ki 65535)], oM 28 27, gT 28 (oF 8 29 1), gT 28 (oL 30 29), gT 28 (oJ 31 260 [(.t 30), (ki 0), (ki 65535)]), oP 32 28 31, oM 33 32, gT 33 (oF 9 34 1), gT 33 (oL 35 34), gT 33 (oJ 36 260 [(.t 35), (ki (-32)), (ki 32)]), oP 37 33 36, oM 5 37])
  (.seq (.seq (r0 [oM 38 4, oU 39 38, oM 40 39, gF 40 (oM 41 5), gF 40 (oU 42 41), oQ 43 40 42])
  (.cond (.t 43) (.seq (r0 [oV 2 (vi 6)])
  .ret) .skip))
  (.seq (r0 [oV 2 (vi 0)])
  .ret))))))
theorem is_body_ValidateFixture : compile Tryz.prog Tryz.f206.ntmps (Tryz.f206.body.getD .skip) = some c_body_ValidateFixture.strip := by kernel_rfl
abbrev F_body_consistent : Nat := 207
def c_body_consistent : ACode := (.seq (r0 [oE 1 0, oV 2 (vb false)])
  (.seq (r0 [oF 8 4 1, oR 2 5 4, oW 6 zD1_6 [], ⟨(some 7), .eqa [true, true] true (.t 5) (.t 6), none, []⟩, oM 8 7, gF 8 (oF 10 9 1), gF 8 (oL 10 9), gF 8 (oC .neq 11 10 0), oQ 12 8 11, oM 3 12])
  (.seq (.block 0 (.seq (r0 [oF 1 14 1, oL 15 14, oC .eql 16 15 1, oM 17 16, gT 17 (oR 20 18 1), gT 17 (oJ 19 263 [(.t 18)]), gT 17 (oM 20 19), gF 20 (oM 21 3), gT 17 (oQ 22 20 21), oP 23 17 22, oM 13 23])
  (.cond (.t 13) (.seq (r0 [oV 2 (vb false)])
  .ret) (.seq (r0 [oF 1 25 1, oL 26 25, oC .neq 27 26 3, oM 28 27, gT 28 (oF 17 29 1), gT 28 (oL 30 29), gT 28 (oM 31 30), gF 31 (oF 14 32 1), gF 31 (oL 33 32), gT 28 (oQ 34 31 33), oP 35 28 34, oM 24 35])
  (.cond (.t 24) (.seq (r0 [oV 2 (vb false)])
  .ret) .skip)))))
  (.seq (r0 [oF 17 36 1, oL 37 36, oU 38 37, oM 39 38, gF 39 (oR 20 40 1), gF 39 (oJ 41 263 [(.t 40)]), gF 39 (oU 42 41), oQ 43 39 42, oM 2 43])
  .ret))))
theorem is_body_consistent : compile Tryz.prog Tryz.f207.ntmps (Tryz.f207.body.getD .skip) = some c_body_consistent.strip := by kernel_rfl
abbrev F_joint_numbersInRange : Nat := 208
def c_joint_numbersInRangeb0 : ACode := (.seq (r0 [oC .lss 20 19 4])
  (.seq (.cond (.t 20) .skip (.exit 0))
  (.seq (.block 1 (.seq (r0 [⟨(some 21), .aidx 4 (.t 18) (.t 19), none, []⟩, oM 7 21])
  (.seq (r0 [oM 22 7, oJ 23 265 [(.t 22), (ki (-536870911)), (ki 536870911)], oU 24 23])
  (.cond (.t 24) (.seq (r0 [oV 2 (vb false)])
  .ret) .skip))))
  (r0 [oC .add 25 19 1, oM 19 25]))))
def c_joint_numbersInRange : ACode := (.seq (r0 [oE 1 0, oV 2 (vb false)])
  (.seq (r0 [oV 3 (vi 1048576)])
  (.seq (.seq (r0 [oF 1 8 1, oL 9 8, oC .eql 10 9 5])
  (.cond (.t 10) (r0 [oV 3 (vi 268435456)]) .skip))
  (.seq (r0 [oF 1 12 1, oL 13 12, oJ 14 264 [(.t 13)], oM 11 14, oX 15 11 0, oX 16 11 1, oM 4 15, oM 5 16])
  (.seq (.seq (r0 [oF 20 17 1, oR 4 18 17, oV 19 (vi 0)])
  (.block 0 (.loop c_joint_numbersInRangeb0)))
  (.seq (r0 [oF 0 26 1, oL 27 26, oJ 28 265 [(.t 27), (ki 1), (ki 1099511627776)], oM 29 28, gT 29 (oF 4 30 1), gT 29 (oR 2 31 30), gT 29 (oM 32 3), gT 29 (oJ 33 266 [(.t 31), (.t 32)]), oP 34 29 33, oM 35 34, gT 35 (oF 6 36 1), gT 35 (oR 2 37 36), gT 35 (oJ 38 266 [(.t 37), (ki 1048576)]), oP 39 35 38, oM 40 39, gT 40 (oF 10 41 1), gT 40 (oL 42 41), gT 40 (oJ 43 265 [(.t 42), (ki (-205888)), (ki 205887)]), oP 44 40 43, oM 45 44, gT 45 (oF 12 46 1), gT 45 (oL 47 46), gT 45 (oM 48 4), gT 45 (oM 49 5), gT 45 (oJ 50 265 [(.t 47), (.t 48), (.t 49)]), oP 51 45 50, oM 52 51, gT 52 (oF 13 53 1), gT 52 (oL 54 53), gT 52 (oM 55 4), gT 52 (oM 56 5), gT 52 (oJ 57 265 [(.t 54), (.t 55), (.t 56)]), oP 58 52 57, oM 59 58, gT 59 (oF 12 60 1), gT 59 (oL 61 60), gT 59 (oF 13 62 1), gT 59 (oL 63 62), gT 59 (oB .leq 64 61 63), oP 65 59 64, oM 66 65, gT 66 (oF 15 67 1), gT 66 (oL 68 67), gT 66 (oJ 69 265 [(.t 68), (ki (-16777216)), (ki 16777216)]), oP 70 66 69, oM 71 70, gT 71 (oF 16 72 1), gT 71 (oL 73 72), gT 71 (oJ 74 265 [(.t 73), (ki 0), (ki 536870911)]), oP 75 71 74, oM 76 75, gT 76 (oF 17 77 1), gT 76 (oL 78 77), gT 76 (oJ 79 265 [(.t 78), (ki 0), (ki 536870911)]), oP 80 76 79, oM 81 80, gT 81 (oF 18 82 1), gT 81 (oL 83 82), gT 81 (oJ 84 265 [(.t 83), (ki 0), (ki 536870911)]), oP 85 81 84, oM 2 85])
  .ret))))))
theorem is_joint_numbersInRange : compile Tryz.prog Tryz.f208.ntmps (Tryz.f208.body.getD .skip) = some c_joint_numbersInRange.strip := by kernel_rfl
abbrev F_joint_validBodies : Nat := 209
def c_joint_validBodies : ACode := (.seq (r0 [oE 1 0, oV 2 (vb false)])
  (.seq (.seq (r0 [oF 1 3 1, oL 4 3, oC .eql 5 4 5])
  (.cond (.t 5) (.seq (r0 [oF 2 6 1, oL 7 6, oC .eql 8 7 0, oM 9 8, gT 9 (oF 3 10 1), gT 9 (oL 11 10), gT 9 (oJ 12 265 [(.t 11), (ki 1), (ki 1099511627776)]), oP 13 9 12, oM 2 13])
  .ret) .skip))
  (.seq (r0 [oF 2 14 1, oL 15 14, oJ 16 265 [(.t 15), (ki 1), (ki 1099511627776)], oM 17 16, gT 17 (oF 3 18 1), gT 17 (oL 19 18), gT 17 (oJ 20 265 [(.t 19), (ki 1), (ki 1099511627776)]), oP 21 17 20, oM 22 21, gT 22 (oF 2 23 1), gT 22 (oL 24 23), gT 22 (oF 3 25 1), gT 22 (oL 26 25), gT 22 (oB .neq 27 24 26), oP 28 22 27, oM 2 28])
  .ret)))
theorem is_joint_validBodies : compile Tryz.prog Tryz.f209.ntmps (Tryz.f209.body.getD .skip) = some c_joint_validBodies.strip := by kernel_rfl
abbrev F_joint_inconsistent : Nat := 210
def c_joint_inconsistent : ACode := (.seq (r0 [oE 1 0, oV 2 (vb false)])
  (.seq (r0 [oF 8 4 1, oR 2 5 4, oW 6 zD1_6 [], ⟨(some 7), .eqa [true, true] false (.t 5) (.t 6), none, []⟩, oM 3 7])
  (.seq (.seq (r0 [oF 1 8 1, oL 9 8])
  (.block 0 (.seq (.block 4 (.block 3 (.seq (.block 2 (.seq (.block 1 (.seq (.seq (.seq (r0 [oC .eql 11 9 3, oM 10 11])
  (.cond (.t 10) (.exit 1) .skip))
  (.seq (.seq (r0 [oC .eql 13 9 1, oM 12 13])
  (.cond (.t 12) (.exit 2) .skip))
  (.seq (.seq (r0 [oC .eql 15 9 4, oM 14 15])
  (.cond (.t 14) (.exit 3) .skip))
  (.seq (r0 [oC .eql 17 9 5, oM 16 17])
  (.cond (.t 16) (.exit 4) .skip)))))
  (.exit 0)))
  (.seq (.seq (r0 [oF 8 18 1, oR 2 19 18, oJ 20 256 [(.t 19)], oJ 21 265 [(.t 20), (ki 65520), (ki 65552)], oU 22 21, oM 2 22])
  .ret)
  (.exit 0))))
  (.seq (.seq (r0 [oM 23 3, oU 24 23, oM 25 24, gF 25 (oF 14 26 1), gF 25 (oL 27 26), oQ 28 25 27, oM 29 28, gF 29 (oF 11 30 1), gF 29 (oL 31 30), gF 29 (oU 32 31), oQ 33 29 32, oM 2 33])
  .ret)
  (.exit 0)))))
  (.seq (.seq (r0 [oM 34 3, oU 35 34, oM 36 35, gF 36 (oF 14 37 1), gF 36 (oL 38 37), oQ 39 36 38, oM 40 39, gF 40 (oF 11 41 1), gF 40 (oL 42 41), oQ 43 40 42, oM 2 43])
  .ret)
  (.exit 0)))))
  (.seq (r0 [oM 44 3, oU 45 44, oM 2 45])
  .ret))))
theorem is_joint_inconsistent : compile Tryz.prog Tryz.f210.ntmps (Tryz.f210.body.getD .skip) = some c_joint_inconsistent.strip := by kernel_rfl
abbrev F_world_saturated : Nat := 211
def c_world_saturated : ACode := (.seq (r0 [oV 2 (vb false)])
  (.seq (r0 [oM 3 0, oJ 4 188 [(.t 3), (.k (.fn (.func 267) [] []))], oU 5 4, oM 2 5])
  .ret))
theorem is_world_saturated : compile Tryz.prog Tryz.f211.ntmps (Tryz.f211.body.getD .skip) = some c_world_saturated.strip := by kernel_rfl
abbrev F_slices_ContainsFunc_ContactPoint : Nat := 212
def c_slices_ContainsFunc_ContactPoint : ACode := (.seq (r0 [oV 4 (vb false)])
  (.seq (r0 [oM 5 0, oM 6 1, oJ 7 268 [(.t 5), (.t 6)], oC .geq 8 7 0, oM 4 8])
  .ret))
theorem is_slices_ContainsFunc_ContactPoint : compile Tryz.prog Tryz.f212.ntmps (Tryz.f212.body.getD .skip) = some c_slices_ContainsFunc_ContactPoint.strip := by kernel_rfl
abbrev F_world_validManifold_f1 : Nat := 213
def c_world_validManifold_f1 : ACode := (.seq (r0 [oE 1 0, oV 2 (vb false)])
  (.seq (r0 [oF 4 3 1, oL 4 3, oC .lss 5 4 0, oM 6 5, gF 6 (oF 0 7 1), gF 6 (oF 0 8 7), gF 6 (oL 9 8), gF 6 (oF 0 10 1), gF 6 (oF 1 11 10), gF 6 (oL 12 11), gF 6 (oF 2 13 1), gF 6 (oL 14 13), gF 6 (oF 3 15 1), gF 6 (oL 16 15), gF 6 (oF 4 17 1), gF 6 (oL 18 17), gF 6 (oF 5 19 1), gF 6 (oL 20 19), gF 6 (oY 1 21 6 zD1_16 [(0, 1, (.t 9)), (1, 1, (.t 12)), (2, 1, (.t 14)), (3, 1, (.t 16)), (4, 1, (.t 18)), (5, 1, (.t 20))]), gF 6 (oJ 22 211 [(.t 21)]), gF 6 (oU 23 22), oQ 24 6 23, oM 2 24])
  .ret))
theorem is_world_validManifold_f1 : compile Tryz.prog Tryz.f213.ntmps (Tryz.f213.body.getD .skip) = some c_world_validManifold_f1.strip := by kernel_rfl
abbrev F_broadphase_valid : Nat := 214
def c_broadphase_valid : ACode := (.seq (r0 [oE 1 0, oV 2 (vb false)])
  (.seq (r0 [oF 0 3 1, oL 4 3, oF 2 5 1, oL 6 5, oB .lss 7 4 6, oM 8 7, gT 8 (oF 1 9 1), gT 8 (oL 10 9), gT 8 (oC .geq 11 10 0), oP 12 8 11, oM 13 12, gT 13 (oF 1 14 1), gT 13 (oL 15 14), gT 13 (oC .lss 16 15 4), oP 17 13 16, oM 18 17, gT 18 (oF 3 19 1), gT 18 (oL 20 19), gT 18 (oC .geq 21 20 0), oP 22 18 21, oM 23 22, gT 23 (oF 3 24 1), gT 23 (oL 25 24), gT 23 (oC .lss 26 25 4), oP 27 23 26, oM 2 27])
  .ret))
theorem is_broadphase_valid : compile Tryz.prog Tryz.f214.ntmps (Tryz.f214.body.getD .skip) = some c_broadphase_valid.strip := by kernel_rfl
abbrev F_broadphase_Less : Nat := 215
def c_broadphase_Less : ACode := (.seq (r0 [oE 2 0, oE 3 1, oV 4 (vb false)])
  (.seq (r0 [oR 4 5 2, oR 4 6 3, oJ 7 269 [(.t 5), (.t 6)], oC .lss 8 7 0, oM 4 8])
  .ret))
theorem is_broadphase_Less : compile Tryz.prog Tryz.f215.ntmps (Tryz.f215.body.getD .skip) = some c_broadphase_Less.strip := by kernel_rfl
abbrev F_slices_IndexFunc_PairKey : Nat := 216
def c_slices_IndexFunc_PairKeyb0 : ACode := (.seq (r0 [oB .lss 9 8 7])
  (.seq (.cond (.t 9) .skip (.exit 0))
  (.seq (.block 1 (.seq (r0 [oM 10 8, oM 5 10])
  (.seq (r0 [oM 11 1, oM 12 0, oM 13 5, oI 4 14 12 13, oR 4 15 14, ⟨(some 16), .callv (.t 11) [(.t 15)], none, []⟩])
  (.cond (.t 16) (.seq (r0 [oM 17 5, oM 4 17])
  .ret) .skip))))
  (r0 [oC .add 18 8 1, oM 8 18]))))
def c_slices_IndexFunc_PairKey : ACode := (.seq (r0 [oV 4 (vi 0)])
  (.seq (.seq (r0 [oM 6 0, oN 7 6, oV 8 (vi 0)])
  (.block 0 (.loop c_slices_IndexFunc_PairKeyb0)))
  (.seq (r0 [oV 4 (vi (-1))])
  .ret)))
theorem is_slices_IndexFunc_PairKey : compile Tryz.prog Tryz.f216.ntmps (Tryz.f216.body.getD .skip) = some c_slices_IndexFunc_PairKey.strip := by kernel_rfl
abbrev F_slices_Grow_PairKey : Nat := 217
def c_slices_Grow_PairKey : ACode := (.seq (r0 [oV 4 vn])
  (.seq (.seq (r0 [oM 5 1, oC .lss 6 5 0])
  (.cond (.t 6) (r0 [⟨(some 7), .bad, none, []⟩, ⟨none, .bad, none, []⟩]) .skip))
  (.seq (.seq (r0 [oM 8 1, oM 9 0, ⟨(some 10), .cap0 (.t 9), none, []⟩, oM 11 0, oN 12 11, oB .sub 13 10 12, oB .sub 14 8 13, oM 1 14])
  (.seq (r0 [oM 15 1, oC .gtr 16 15 0])
  (.cond (.t 16) (r0 [oM 17 0, oM 18 0, ⟨(some 19), .cap0 (.t 18), none, []⟩, ⟨(some 20), .slice 4 (.t 17) none (some (.t 19)) none, none, []⟩, oM 21 1, ⟨(some 22), .appz 4 32 zD1_3 (.t 20) (.t 21), none, []⟩, oM 23 0, oN 24 23, ⟨(some 25), .slice 4 (.t 22) none (some (.t 24)) none, none, []⟩, oM 0 25]) .skip)))
  (.seq (r0 [oM 26 0, oM 4 26])
  .ret))))
theorem is_slices_Grow_PairKey : compile Tryz.prog Tryz.f217.ntmps (Tryz.f217.body.getD .skip) = some c_slices_Grow_PairKey.strip := by kernel_rfl
abbrev F_vec2_Length : Nat := 256
def c_vec2_Length : ACode := (.seq (r0 [oE 1 0, oV 2 (vi 0)])
  (.seq (r0 [oW 3 zD1_6 [], oR 2 4 1, oJ 5 293 [(.t 3), (.t 4)], oJ 6 292 [(.t 5)], oM 2 6])
  .ret))
theorem is_vec2_Length : compile Tryz.prog Tryz.f256.ntmps (Tryz.f256.body.getD .skip) = some c_vec2_Length.strip := by kernel_rfl
abbrev F_slices_IndexFunc_int : Nat := 257
def c_slices_IndexFunc_intb0 : ACode := (.seq (r0 [oB .lss 9 8 7])
  (.seq (.cond (.t 9) .skip (.exit 0))
  (.seq (.block 1 (.seq (r0 [oM 10 8, oM 5 10])
  (.seq (r0 [oM 11 1, oM 12 0, oM 13 5, oI 1 14 12 13, oL 15 14, ⟨(some 16), .callv (.t 11) [(.t 15)], none, []⟩])
  (.cond (.t 16) (.seq (r0 [oM 17 5, oM 4 17])
  .ret) .skip))))
  (r0 [oC .add 18 8 1, oM 8 18]))))
def c_slices_IndexFunc_int : ACode := (.seq (r0 [oV 4 (vi 0)])
  (.seq (.seq (r0 [oM 6 0, oN 7 6, oV 8 (vi 0)])
  (.block 0 (.loop c_slices_IndexFunc_intb0)))
  (.seq (r0 [oV 4 (vi (-1))])
  .ret)))
theorem is_slices_IndexFunc_int : compile Tryz.prog Tryz.f257.ntmps (Tryz.f257.body.getD .skip) = some c_slices_IndexFunc_int.strip := by kernel_rfl
abbrev F_shape_Equal : Nat := 258
def c_shape_Equal : ACode := (.seq (r0 [oE 2 0, oE 3 1, oV 4 (vb false)])
  (.seq (r0 [oF 0 5 2, oL 6 5, oF 0 7 3, oL 8 7, oB .eql 9 6 8, oM 10 9, gT 10 (oF 1 11 2), gT 10 (oL 12 11), gT 10 (oF 1 13 3), gT 10 (oL 14 13), gT 10 (oB .eql 15 12 14), oP 16 10 15, oM 17 16, gT 17 (oF 2 18 2), gT 17 (oL 19 18), gT 17 (oF 2 20 3), gT 17 (oL 21 20), gT 17 (oJ 22 294 [(.t 19), (.t 21)]), oP 23 17 22, oM 4 23])
  .ret))
theorem is_shape_Equal : compile Tryz.prog Tryz.f258.ntmps (Tryz.f258.body.getD .skip) = some c_shape_Equal.strip := by kernel_rfl
abbrev F_body_bounded : Nat := 259
def c_body_bounded : ACode := (.seq (r0 [oE 2 0, oV 4 (vb false)])
  (.seq (r0 [oF 0 5 2, oL 6 5, oM 7 1, ⟨(some 8), .un .neg (.t 7), none, []⟩, oM 9 1, oJ 10 260 [(.t 6), (.t 8), (.t 9)], oM 11 10, gT 11 (oF 1 12 2), gT 11 (oL 13 12), gT 11 (oM 14 1), ⟨(some 15), .un .neg (.t 14), (some (11, true)), []⟩, gT 11 (oM 16 1), gT 11 (oJ 17 260 [(.t 13), (.t 15), (.t 16)]), oP 18 11 17, oM 4 18])
  .ret))
theorem is_body_bounded : compile Tryz.prog Tryz.f259.ntmps (Tryz.f259.body.getD .skip) = some c_body_bounded.strip := by kernel_rfl
abbrev F_body_within : Nat := 260
def c_body_within : ACode := (.seq (r0 [oV 6 (vb false)])
  (.seq (r0 [oM 7 1, oM 8 0, oB .leq 9 7 8, oM 10 9, gT 10 (oM 11 0), gT 10 (oM 12 2), gT 10 (oB .leq 13 11 12), oP 14 10 13, oM 6 14])
  .ret))
theorem is_body_within : compile Tryz.prog Tryz.f260.ntmps (Tryz.f260.body.getD .skip) = some c_body_within.strip := by kernel_rfl
abbrev F_transform_Valid : Nat := 261
def c_transform_Valid : ACode := (.seq (r0 [oE 1 0, oV 2 (vb false)])
  (.seq (r0 [oF 0 3 1, oF 0 4 3, oL 5 4, oJ 6 295 [(.t 5)], oM 7 6, gT 7 (oF 0 8 1), gT 7 (oF 1 9 8), gT 7 (oL 10 9), gT 7 (oJ 11 295 [(.t 10)]), oP 12 7 11, oM 13 12, gT 13 (oF 2 14 1), gT 13 (oL 15 14), gT 13 (oC .geq 16 15 (-205888)), oP 17 13 16, oM 18 17, gT 18 (oF 2 19 1), gT 18 (oL 20 19), gT 18 (oC .lss 21 20 205888), oP 22 18 21, oM 2 22])
  .ret))
theorem is_transform_Valid : compile Tryz.prog Tryz.f261.ntmps (Tryz.f261.body.getD .skip) = some c_transform_Valid.strip := by kernel_rfl
abbrev F_shape_Validate : Nat := 262
def c_shape_Validate : ACode := (.seq (r0 [oE 1 0, oV 2 (vi 0)])
  (.seq (.block 0 (.seq (r0 [oF 0 4 1, oL 5 4, oC .lss 6 5 1, oM 7 6, gF 7 (oF 0 8 1), gF 7 (oL 9 8), gF 7 (oC .gtr 10 9 3), oQ 11 7 10, oM 3 11])
  (.cond (.t 3) (.seq (r0 [oV 2 (vi 10)])
  .ret) (.seq (r0 [oR 3 13 1, oJ 14 296 [(.t 13)], oU 15 14, oM 12 15])
  (.cond (.t 12) (.seq (r0 [oV 2 (vi 11)])
  .ret) (.seq (r0 [oF 2 17 1, oL 18 17, oJ 19 297 [(.t 18), (.k (.fn (.func 298) [] []))], oM 16 19])
  (.cond (.t 16) (.seq (r0 [oV 2 (vi 6)])
  .ret) (.seq (.seq (r0 [oF 0 21 1, oL 22 21, oC .eql 23 22 3, oM 24 23, gT 24 (oF 1 25 1), gT 24 (oL 26 25), gT 24 (oC .neq 27 26 0), oP 28 24 27, oM 20 28])
  (.cond (.t 20) .skip (r0 [oF 0 29 1, oL 30 29, oC .neq 31 30 3, oM 32 31, gT 32 (oF 1 33 1), gT 32 (oL 34 33), gT 32 (oC .lss 35 34 2048), gT 32 (oM 36 35), gF 36 (oF 1 37 1), gF 36 (oL 38 37), gF 36 (oC .gtr 39 38 524288), gT 32 (oQ 40 36 39), oP 41 32 40, oM 20 41])))
  (.cond (.t 20) (.seq (r0 [oV 2 (vi 6)])
  .ret) (.seq (r1 [oF 0 43 1, oL 44 43, oC .eql 45 44 2, oM 46 45, gT 46 (oF 2 47 1), gT 46 (oL 48 47), ⟨(some 49), .iaddr 2 (.t 48) (ki 1), (some (46, true)), []⟩, gT 46 (oR 2 50 49), gT 46 (oF 2 51 1), gT 46 (oL 52 51), ⟨(some 53), .iaddr 2 (.t 52) (ki 0), (some (46, true)), []⟩, gT 46 (oR 2 54 53), gT 46 (oJ 55 300 [(.t 50), (.t 54)]), gT 46 (oJ 56 256 [(.t 55)]), gT 46 (oC .lss 57 56 4096), oP 58 46 57, oM 42 58])
  (.cond (.t 42) (.seq (r0 [oV 2 (vi 12)])
  .ret) (.seq (r0 [oF 0 60 1, oL 61 60, oC .eql 62 61 3, oM 63 62, gT 63 (oF 2 64 1), gT 63 (oL 65 64), gT 63 (oJ 66 301 [(.t 65)]), gT 63 (oU 67 66), gT 63 (oM 68 67), gF 68 (oF 2 69 1), gF 68 (oL 70 69), gF 68 (oJ 71 302 [(.t 70)]), gF 68 (oC .lss 72 71 4096), gT 63 (oQ 73 68 72), gT 63 (oM 74 73), gF 74 (oF 2 75 1), gF 74 (oL 76 75), gF 74 (oJ 77 303 [(.t 76)]), gF 74 (oC .lss 78 77 256), gT 63 (oQ 79 74 78), oP 80 63 79, oM 59 80])
  (.cond (.t 59) (.seq (r0 [oV 2 (vi 12)])
  .ret) .skip)))))))))))))
  (.seq (r0 [oV 2 (vi 0)])
  .ret)))
theorem is_shape_Validate : compile Tryz.prog Tryz.f262.ntmps (Tryz.f262.body.getD .skip) = some c_shape_Validate.strip := by kernel_rfl
abbrev F_body_moving : Nat := 263
def c_body_moving : ACode := (.seq (r0 [oE 1 0, oV 2 (vb false)])
  (.seq (r0 [oF 5 3 1, oR 2 4 3, oW 5 zD1_6 [], ⟨(some 6), .eqa [true, true] true (.t 4) (.t 5), none, []⟩, oM 7 6, gF 7 (oF 7 8 1), gF 7 (oL 9 8), gF 7 (oC .neq 10 9 0), oQ 11 7 10, oM 2 11])
  .ret))
theorem is_body_moving : compile Tryz.prog Tryz.f263.ntmps (Tryz.f263.body.getD .skip) = some c_body_moving.strip := by kernel_rfl
abbrev F_joint_limitRange : Nat := 264
def c_joint_limitRange : ACode := (.seq (r0 [oV 2 (vi 0), oV 3 (vi 0)])
  (.seq (.seq (r0 [oM 4 0])
  (.block 0 (.seq (r0 [oC .eql 6 4 1, oM 5 6])
  (.cond (.t 5) (.seq (r0 [oV 2 (vi 0), oV 3 (vi 268435456)])
  .ret) (.seq (r0 [oC .eql 8 4 2, oM 7 8])
  (.cond (.t 7) (.seq (r0 [oV 2 (vi (-205888)), oV 3 (vi 205888)])
  .ret) .skip))))))
  (.seq (r0 [oV 2 (vi (-268435456)), oV 3 (vi 268435456)])
  .ret)))
theorem is_joint_limitRange : compile Tryz.prog Tryz.f264.ntmps (Tryz.f264.body.getD .skip) = some c_joint_limitRange.strip := by kernel_rfl
abbrev F_joint_inRange : Nat := 265
def c_joint_inRange : ACode := (.seq (r0 [oV 6 (vb false)])
  (.seq (r0 [oM 7 0, oM 8 1, oB .geq 9 7 8, oM 10 9, gT 10 (oM 11 0), gT 10 (oM 12 2), gT 10 (oB .leq 13 11 12), oP 14 10 13, oM 6 14])
  .ret))
theorem is_joint_inRange : compile Tryz.prog Tryz.f265.ntmps (Tryz.f265.body.getD .skip) = some c_joint_inRange.strip := by kernel_rfl
abbrev F_joint_pointInRange : Nat := 266
def c_joint_pointInRange : ACode := (.seq (r0 [oE 2 0, oV 4 (vb false)])
  (.seq (r0 [oF 0 5 2, oL 6 5, oM 7 1, ⟨(some 8), .un .neg (.t 7), none, []⟩, oM 9 1, oJ 10 265 [(.t 6), (.t 8), (.t 9)], oM 11 10, gT 11 (oF 1 12 2), gT 11 (oL 13 12), gT 11 (oM 14 1), ⟨(some 15), .un .neg (.t 14), (some (11, true)), []⟩, gT 11 (oM 16 1), gT 11 (oJ 17 265 [(.t 13), (.t 15), (.t 16)]), oP 18 11 17, oM 4 18])
  .ret))
theorem is_joint_pointInRange : compile Tryz.prog Tryz.f266.ntmps (Tryz.f266.body.getD .skip) = some c_joint_pointInRange.strip := by kernel_rfl
abbrev F_world_saturated_f1 : Nat := 267
def c_world_saturated_f1 : ACode := (.seq (r0 [oV 2 (vb false)])
  (.seq (r0 [oM 3 0, oJ 4 72 [(.t 3), (ki (-536870911)), (ki 536870911)], oU 5 4, oM 2 5])
  .ret))
theorem is_world_saturated_f1 : compile Tryz.prog Tryz.f267.ntmps (Tryz.f267.body.getD .skip) = some c_world_saturated_f1.strip := by kernel_rfl
abbrev F_slices_IndexFunc_ContactPoint : Nat := 268
def c_slices_IndexFunc_ContactPointb0 : ACode := (.seq (r0 [oB .lss 9 8 7])
  (.seq (.cond (.t 9) .skip (.exit 0))
  (.seq (.block 1 (.seq (r0 [oM 10 8, oM 5 10])
  (.seq (r0 [oM 11 1, oM 12 0, oM 13 5, oI 6 14 12 13, oR 6 15 14, ⟨(some 16), .callv (.t 11) [(.t 15)], none, []⟩])
  (.cond (.t 16) (.seq (r0 [oM 17 5, oM 4 17])
  .ret) .skip))))
  (r0 [oC .add 18 8 1, oM 8 18]))))
def c_slices_IndexFunc_ContactPoint : ACode := (.seq (r0 [oV 4 (vi 0)])
  (.seq (.seq (r0 [oM 6 0, oN 7 6, oV 8 (vi 0)])
  (.block 0 (.loop c_slices_IndexFunc_ContactPointb0)))
  (.seq (r0 [oV 4 (vi (-1))])
  .ret)))
theorem is_slices_IndexFunc_ContactPoint : compile Tryz.prog Tryz.f268.ntmps (Tryz.f268.body.getD .skip) = some c_slices_IndexFunc_ContactPoint.strip := by kernel_rfl
abbrev F_broadphase_compare : Nat := 269
def c_broadphase_compare : ACode := (.seq (r0 [oE 2 0, oE 3 1, oV 4 (vi 0)])
  (.seq (r1 [oF 0 5 2, oL 6 5, oF 0 7 3, oL 8 7, oJ 9 305 [(.t 6), (.t 8)], oF 1 10 2, ⟨(some 11), .load none (.t 10), none, [4]⟩, oF 1 12 3, ⟨(some 13), .load none (.t 12), none, [4]⟩, oJ 14 305 [(.t 11), (.t 13)], oF 2 15 2, ⟨(some 16), .load none (.t 15), none, [4, 9]⟩, oF 2 17 3, ⟨(some 18), .load none (.t 17), none, [4, 9]⟩, oJ 19 305 [(.t 16), (.t 18)], oF 3 20 2, ⟨(some 21), .load none (.t 20), none, [4, 9, 14]⟩, oF 3 22 3, ⟨(some 23), .load none (.t 22), none, [4, 9, 14]⟩, oJ 24 305 [(.t 21), (.t 23)], oY 1 25 4 zD1_3 [(0, 1, (.t 9)), (1, 1, (.t 14)), (2, 1, (.t 19)), (3, 1, (.t 24))], oJ 26 304 [(.t 25)], oM 4 26])
  .ret))
theorem is_broadphase_compare : compile Tryz.prog Tryz.f269.ntmps (Tryz.f269.body.getD .skip) = some c_broadphase_compare.strip := by kernel_rfl
abbrev F_cmp_isNaN_int : Nat := 289
def c_cmp_isNaN_int : ACode := (.seq (r0 [oV 2 (vb false)])
  (.seq (r0 [oM 3 0, oM 4 0, oB .neq 5 3 4, oM 2 5])
  .ret))
theorem is_cmp_isNaN_int : compile Tryz.prog Tryz.f289.ntmps (Tryz.f289.body.getD .skip) = some c_cmp_isNaN_int.strip := by kernel_rfl
abbrev F_fixed_Isqrt : Nat := 292
def c_fixed_Isqrtb0 : ACode := (.seq (.seq (r0 [oM 12 4, oC .gtr 13 12 0])
  (.cond (.t 13) .skip (.exit 0)))
  (.seq (.block 1 (.seq (r0 [oM 16 3, oM 17 4, oB .or 18 16 17, oM 5 18])
  (.seq (r0 [oM 19 5, ⟨(some 20), .convI .u64 (.t 19), none, []⟩, oM 21 5, ⟨(some 22), .convI .u64 (.t 21), none, []⟩, oB .mul 23 20 22, oM 24 0, ⟨(some 25), .convI .u64 (.t 24), none, []⟩, oB .leq 26 23 25])
  (.cond (.t 26) (r0 [oM 27 5, oM 3 27]) .skip))))
  (r0 [oM 14 4, ⟨(some 15), .bin .shr (.t 14) (.k (.sc (.int .u64 1))), none, []⟩, oM 4 15])))
def c_fixed_Isqrt : ACode := (.seq (r0 [oV 2 (vi 0)])
  (.seq (.seq (r0 [oM 6 0, oC .lss 7 6 0, oM 8 7, gF 8 (oM 9 0), gF 8 (oC .gtr 10 9 4611686018427387904), oQ 11 8 10])
  (.cond (.t 11) (.seq (r0 [oV 2 (vi 0)])
  .ret) .skip))
  (.seq (r0 [oV 3 (vi 0)])
  (.seq (.seq (r0 [oV 4 (vi 2147483648)])
  (.block 0 (.loop c_fixed_Isqrtb0)))
  (.seq (r0 [oM 28 3, oM 2 28])
  .ret)))))
theorem is_fixed_Isqrt : compile Tryz.prog Tryz.f292.ntmps (Tryz.f292.body.getD .skip) = some c_fixed_Isqrt.strip := by kernel_rfl
abbrev F_vec2_DistanceSquared : Nat := 293
def c_vec2_DistanceSquared : ACode := (.seq (r0 [oE 2 0, oE 3 1, oV 4 (vi 0)])
  (.seq (r1 [oR 2 7 2, oJ 8 315 [(.t 7)], ⟨(some 9), .load (some 2) (.t 3), none, [1]⟩, oJ 10 315 [(.t 9)], oS 2 2 8, oS 2 3 10])
  (.seq (r1 [oF 0 11 3, oL 12 11, oF 0 13 2, oL 14 13, oB .sub 15 12 14, oF 1 16 3, oL 17 16, oF 1 18 2, oL 19 18, oB .sub 20 17 19, oM 5 15, oM 6 20])
  (.seq (r0 [oM 21 5, oM 22 5, oB .mul 23 21 22, oM 24 6, oM 25 6, oB .mul 26 24 25, oB .add 27 23 26, oM 4 27])
  .ret))))
theorem is_vec2_DistanceSquared : compile Tryz.prog Tryz.f293.ntmps (Tryz.f293.body.getD .skip) = some c_vec2_DistanceSquared.strip := by kernel_rfl
abbrev F_slices_Equal_Vec : Nat := 294
def c_slices_Equal_Vecb0 : ACode := (.seq (r0 [oB .lss 14 13 12])
  (.seq (.cond (.t 14) .skip (.exit 0))
  (.seq (.block 1 (.seq (r0 [oM 15 13, oM 5 15])
  (.seq (r1 [oM 16 0, oM 17 5, oI 2 18 16 17, oR 2 19 18, oM 20 1, oM 21 5, oI 2 22 20 21, oR 2 23 22, ⟨(some 24), .eqa [true, true] true (.t 19) (.t 23), none, []⟩])
  (.cond (.t 24) (.seq (r0 [oV 4 (vb false)])
  .ret) .skip))))
  (r0 [oC .add 25 13 1, oM 13 25]))))
def c_slices_Equal_Vec : ACode := (.seq (r0 [oV 4 (vb false)])
  (.seq (.seq (r0 [oM 6 0, oN 7 6, oM 8 1, oN 9 8, oB .neq 10 7 9])
  (.cond (.t 10) (.seq (r0 [oV 4 (vb false)])
  .ret) .skip))
  (.seq (.seq (r0 [oM 11 0, oN 12 11, oV 13 (vi 0)])
  (.block 0 (.loop c_slices_Equal_Vecb0)))
  (.seq (r0 [oV 4 (vb true)])
  .ret))))
theorem is_slices_Equal_Vec : compile Tryz.prog Tryz.f294.ntmps (Tryz.f294.body.getD .skip) = some c_slices_Equal_Vec.strip := by kernel_rfl
abbrev F_transform_inWorld : Nat := 295
def c_transform_inWorld : ACode := (.seq (r0 [oV 2 (vb false)])
  (.seq (r0 [oM 3 0, oC .geq 4 3 (-268435456), oM 5 4, gT 5 (oM 6 0), gT 5 (oC .leq 7 6 268435456), oP 8 5 7, oM 2 8])
  .ret))
theorem is_transform_inWorld : compile Tryz.prog Tryz.f295.ntmps (Tryz.f295.body.getD .skip) = some c_transform_inWorld.strip := by kernel_rfl
abbrev F_shape_validCount : Nat := 296
def c_shape_validCount : ACode := (.seq (r0 [oE 1 0, oV 2 (vb false)])
  (.seq (r0 [oF 2 4 1, oL 5 4, oN 6 5, oM 3 6])
  (.seq (.seq (r0 [oF 0 7 1, oL 8 7])
  (.block 0 (.seq (r0 [oC .eql 10 8 1, oM 9 10])
  (.cond (.t 9) (.seq (r0 [oM 11 3, oC .eql 12 11 1, oM 2 12])
  .ret) (.seq (r0 [oC .eql 14 8 2, oM 13 14])
  (.cond (.t 13) (.seq (r0 [oM 15 3, oC .eql 16 15 2, oM 2 16])
  .ret) .skip))))))
  (.seq (r0 [oM 17 3, oC .geq 18 17 3, oM 19 18, gT 19 (oM 20 3), gT 19 (oC .leq 21 20 8), oP 22 19 21, oM 2 22])
  .ret))))
theorem is_shape_validCount : compile Tryz.prog Tryz.f296.ntmps (Tryz.f296.body.getD .skip) = some c_shape_validCount.strip := by kernel_rfl
abbrev F_slices_ContainsFunc_Vec : Nat := 297
def c_slices_ContainsFunc_Vec : ACode := (.seq (r0 [oV 4 (vb false)])
  (.seq (r0 [oM 5 0, oM 6 1, oJ 7 316 [(.t 5), (.t 6)], oC .geq 8 7 0, oM 4 8])
  .ret))
theorem is_slices_ContainsFunc_Vec : compile Tryz.prog Tryz.f297.ntmps (Tryz.f297.body.getD .skip) = some c_slices_ContainsFunc_Vec.strip := by kernel_rfl
abbrev F_shape_Validate_f1 : Nat := 298
def c_shape_Validate_f1 : ACode := (.seq (r0 [oE 1 0, oV 2 (vb false)])
  (.seq (r0 [oF 0 3 1, oL 4 3, oJ 5 299 [(.t 4)], oM 6 5, gF 6 (oF 1 7 1), gF 6 (oL 8 7), gF 6 (oJ 9 299 [(.t 8)]), oQ 10 6 9, oM 2 10])
  .ret))
theorem is_shape_Validate_f1 : compile Tryz.prog Tryz.f298.ntmps (Tryz.f298.body.getD .skip) = some c_shape_Validate_f1.strip := by kernel_rfl
abbrev F_shape_outOfRange : Nat := 299
def c_shape_outOfRange : ACode := (.seq (r0 [oV 2 (vb false)])
  (.seq (r0 [oM 3 0, oC .lss 4 3 (-1048576), oM 5 4, gF 5 (oM 6 0), gF 5 (oC .gtr 7 6 1048576), oQ 8 5 7, oM 2 8])
  .ret))
theorem is_shape_outOfRange : compile Tryz.prog Tryz.f299.ntmps (Tryz.f299.body.getD .skip) = some c_shape_outOfRange.strip := by kernel_rfl
abbrev F_vec2_Sub : Nat := 300
def c_vec2_Sub : ACode := (.seq (r0 [oE 2 0, oE 3 1, oA 4 zD1_6])
  (.seq (r1 [oF 0 5 2, oL 6 5, oF 0 7 3, oL 8 7, oJ 9 317 [(.t 6), (.t 8)], oF 1 10 2, ⟨(some 11), .load none (.t 10), none, [4]⟩, oF 1 12 3, ⟨(some 13), .load none (.t 12), none, [4]⟩, oJ 14 317 [(.t 11), (.t 13)], oW 15 zD1_6 [(0, 1, (.t 9)), (1, 1, (.t 14))], oS 2 4 15])
  .ret))
theorem is_vec2_Sub : compile Tryz.prog Tryz.f300.ntmps (Tryz.f300.body.getD .skip) = some c_vec2_Sub.strip := by kernel_rfl
abbrev F_polygon_IsConvex : Nat := 301
def c_polygon_IsConvexb0 : ACode := (.seq (r0 [oB .lss 36 35 34])
  (.seq (.cond (.t 36) .skip (.exit 2))
  (.seq (.block 3 (.seq (r0 [oM 37 35, oI 2 38 33 35, oR 2 39 38, oA 8 zD1_6, oM 7 37, oS 2 8 39])
  (.seq (r1 [oM 40 7, oM 41 4, oB .neq 42 40 41, oM 43 42, gT 43 (oM 44 7), gT 43 (oM 45 6), gT 43 (oB .neq 46 44 45), oP 47 43 46, oM 48 47, gT 48 (oR 2 49 5), gT 48 (oM 50 0), gT 48 (oM 51 6), gT 48 (oI 2 52 50 51), gT 48 (oR 2 53 52), gT 48 (oR 2 54 8), gT 48 (oJ 55 319 [(.t 49), (.t 53), (.t 54)]), gT 48 (oC .neq 56 55 1), oP 57 48 56])
  (.cond (.t 57) (.seq (r0 [oV 2 (vb false)])
  .ret) .skip))))
  (r0 [oC .add 58 35 1, oM 35 58]))))
def c_polygon_IsConvexb1 : ACode := (.seq (r0 [oB .lss 25 24 23])
  (.seq (.cond (.t 25) .skip (.exit 0))
  (.seq (.block 1 (.seq (r0 [oM 26 24, oI 2 27 22 24, oR 2 28 27, oA 5 zD1_6, oM 4 26, oS 2 5 28])
  (.seq (r0 [oM 29 4, oC .add 30 29 1, oM 31 3, oB .rem 32 30 31, oM 6 32])
  (.seq (r0 [oM 33 0, oN 34 33, oV 35 (vi 0)])
  (.block 2 (.loop c_polygon_IsConvexb0))))))
  (r0 [oC .add 59 24 1, oM 24 59]))))
def c_polygon_IsConvex : ACode := (.seq (r0 [oV 2 (vb false)])
  (.seq (r0 [oM 9 0, oN 10 9, oM 3 10])
  (.seq (.seq (r0 [oM 11 3, oC .lss 12 11 3, oM 13 12, gF 13 (oM 14 3), gF 13 (oC .gtr 15 14 8), oQ 16 13 15, oM 17 16, gF 17 (oM 18 0), gF 17 (oJ 19 318 [(.t 18)]), gF 17 (oU 20 19), oQ 21 17 20])
  (.cond (.t 21) (.seq (r0 [oV 2 (vb false)])
  .ret) .skip))
  (.seq (.seq (r0 [oM 22 0, oN 23 22, oV 24 (vi 0)])
  (.block 0 (.loop c_polygon_IsConvexb1)))
  (.seq (r0 [oV 2 (vb true)])
  .ret)))))
theorem is_polygon_IsConvex : compile Tryz.prog Tryz.f301.ntmps (Tryz.f301.body.getD .skip) = some c_polygon_IsConvex.strip := by kernel_rfl
abbrev F_polygon_ShortestEdge : Nat := 302
def c_polygon_ShortestEdgeb0 : ACode := (.seq (r0 [oB .lss 12 11 10])
  (.seq (.cond (.t 12) .skip (.exit 0))
  (.seq (.block 1 (.seq (r0 [oM 13 11, oI 2 14 9 11, oR 2 15 14, oA 5 zD1_6, oM 4 13, oS 2 5 15])
  (r1 [oM 16 3, oM 17 0, oM 18 4, oC .add 19 18 1, oM 20 0, oN 21 20, oB .rem 22 19 21, oI 2 23 17 22, oR 2 24 23, oR 2 25 5, oJ 26 300 [(.t 24), (.t 25)], oJ 27 256 [(.t 26)], ⟨(some 28), .minmax false (.t 16) (.t 27), none, []⟩, oM 3 28])))
  (r0 [oC .add 29 11 1, oM 11 29]))))
def c_polygon_ShortestEdge : ACode := (.seq (r0 [oV 2 (vi 0)])
  (.seq (.seq (r0 [oM 6 0, oJ 7 301 [(.t 6)], oU 8 7])
  (.cond (.t 8) (.seq (r0 [oV 2 (vi 0)])
  .ret) .skip))
  (.seq (r0 [oV 3 (vi 536870911)])
  (.seq (.seq (r0 [oM 9 0, oN 10 9, oV 11 (vi 0)])
  (.block 0 (.loop c_polygon_ShortestEdgeb0)))
  (.seq (r0 [oM 30 3, oM 2 30])
  .ret)))))
theorem is_polygon_ShortestEdge : compile Tryz.prog Tryz.f302.ntmps (Tryz.f302.body.getD .skip) = some c_polygon_ShortestEdge.strip := by kernel_rfl
abbrev F_polygon_Area : Nat := 303
def c_polygon_Area : ACode := (.seq (r0 [oV 2 (vi 0)])
  (.seq (.seq (r0 [oM 5 0, oJ 6 301 [(.t 5)], oU 7 6])
  (.cond (.t 7) (.seq (r0 [oV 2 (vi 0)])
  .ret) .skip))
  (.seq (r0 [oM 9 0, oJ 10 320 [(.t 9)], oM 8 10, oX 11 8 0, oX 12 8 1, oM 3 11, oM 4 12])
  (.seq (r0 [oM 13 4, oJ 14 321 [(.t 13), (ki 2)], oM 2 14])
  .ret))))
theorem is_polygon_Area : compile Tryz.prog Tryz.f303.ntmps (Tryz.f303.body.getD .skip) = some c_polygon_Area.strip := by kernel_rfl
abbrev F_cmp_Or_int : Nat := 304
def c_cmp_Or_intb0 : ACode := (.seq (r0 [oB .lss 9 8 7])
  (.seq (.cond (.t 9) .skip (.exit 0))
  (.seq (.block 1 (.seq (r0 [oI 1 10 6 8, oL 11 10, oM 5 11])
  (.seq (r0 [oM 12 5, oM 13 3, oB .neq 14 12 13])
  (.cond (.t 14) (.seq (r0 [oM 15 5, oM 2 15])
  .ret) .skip))))
  (r0 [oC .add 16 8 1, oM 8 16]))))
def c_cmp_Or_int : ACode := (.seq (r0 [oV 2 (vi 0)])
  (.seq (r0 [oV 3 (vi 0)])
  (.seq (.seq (r0 [oM 6 0, oN 7 6, oV 8 (vi 0)])
  (.block 0 (.loop c_cmp_Or_intb0)))
  (.seq (r0 [oM 17 3, oM 2 17])
  .ret))))
theorem is_cmp_Or_int : compile Tryz.prog Tryz.f304.ntmps (Tryz.f304.body.getD .skip) = some c_cmp_Or_int.strip := by kernel_rfl
abbrev F_cmp_Compare_int : Nat := 305
def c_cmp_Compare_int : ACode := (.seq (r0 [oV 4 (vi 0)])
  (.seq (r0 [oM 7 0, oJ 8 289 [(.t 7)], oM 5 8])
  (.seq (r0 [oM 9 1, oJ 10 289 [(.t 9)], oM 6 10])
  (.seq (.seq (r0 [oM 11 5])
  (.cond (.t 11) (.seq (.seq (r0 [oM 12 6])
  (.cond (.t 12) (.seq (r0 [oV 4 (vi 0)])
  .ret) .skip))
  (.seq (r0 [oV 4 (vi (-1))])
  .ret)) .skip))
  (.seq (.seq (r0 [oM 13 6])
  (.cond (.t 13) (.seq (r0 [oV 4 (vi 1)])
  .ret) .skip))
  (.seq (.seq (r0 [oM 14 0, oM 15 1, oB .lss 16 14 15])
  (.cond (.t 16) (.seq (r0 [oV 4 (vi (-1))])
  .ret) .skip))
  (.seq (.seq (r0 [oM 17 0, oM 18 1, oB .gtr 19 17 18])
  (.cond (.t 19) (.seq (r0 [oV 4 (vi 1)])
  .ret) .skip))
  (.seq (r0 [oV 4 (vi 0)])
  .ret))))))))
theorem is_cmp_Compare_int : compile Tryz.prog Tryz.f305.ntmps (Tryz.f305.body.getD .skip) = some c_cmp_Compare_int.strip := by kernel_rfl
abbrev F_vec2_saturate : Nat := 315
def c_vec2_saturate : ACode := (.seq (r0 [oE 1 0, oA 2 zD1_6])
  (.seq (r1 [oF 0 3 1, oL 4 3, oJ 5 331 [(.t 4)], oF 1 6 1, ⟨(some 7), .load none (.t 6), none, [2]⟩, oJ 8 331 [(.t 7)], oW 9 zD1_6 [(0, 1, (.t 5)), (1, 1, (.t 8))], oS 2 2 9])
  .ret))
theorem is_vec2_saturate : compile Tryz.prog Tryz.f315.ntmps (Tryz.f315.body.getD .skip) = some c_vec2_saturate.strip := by kernel_rfl
abbrev F_slices_IndexFunc_Vec : Nat := 316
def c_slices_IndexFunc_Vecb0 : ACode := (.seq (r0 [oB .lss 9 8 7])
  (.seq (.cond (.t 9) .skip (.exit 0))
  (.seq (.block 1 (.seq (r0 [oM 10 8, oM 5 10])
  (.seq (r0 [oM 11 1, oM 12 0, oM 13 5, oI 2 14 12 13, oR 2 15 14, ⟨(some 16), .callv (.t 11) [(.t 15)], none, []⟩])
  (.cond (.t 16) (.seq (r0 [oM 17 5, oM 4 17])
  .ret) .skip))))
  (r0 [oC .add 18 8 1, oM 8 18]))))
def c_slices_IndexFunc_Vec : ACode := (.seq (r0 [oV 4 (vi 0)])
  (.seq (.seq (r0 [oM 6 0, oN 7 6, oV 8 (vi 0)])
  (.block 0 (.loop c_slices_IndexFunc_Vecb0)))
  (.seq (r0 [oV 4 (vi (-1))])
  .ret)))
theorem is_slices_IndexFunc_Vec : compile Tryz.prog Tryz.f316.ntmps (Tryz.f316.body.getD .skip) = some c_slices_IndexFunc_Vec.strip := by kernel_rfl
abbrev F_fixed_Sub : Nat := 317
def c_fixed_Sub : ACode := (.seq (r0 [oV 4 (vi 0)])
  (.seq (r0 [oM 5 0, oJ 6 331 [(.t 5)], oM 7 1, oJ 8 331 [(.t 7)], oB .sub 9 6 8, oJ 10 331 [(.t 9)], oM 4 10])
  .ret))
theorem is_fixed_Sub : compile Tryz.prog Tryz.f317.ntmps (Tryz.f317.body.getD .skip) = some c_fixed_Sub.strip := by kernel_rfl
abbrev F_polygon_allInReach : Nat := 318
def c_polygon_allInReachb0 : ACode := (.seq (r0 [oB .lss 8 7 6])
  (.seq (.cond (.t 8) .skip (.exit 0))
  (.seq (.block 1 (.seq (r0 [oI 2 9 5 7, oR 2 10 9, oA 4 zD1_6, oS 2 4 10])
  (.seq (r0 [oR 2 11 4, oJ 12 332 [(.t 11)], oU 13 12])
  (.cond (.t 13) (.seq (r0 [oV 2 (vb false)])
  .ret) .skip))))
  (r0 [oC .add 14 7 1, oM 7 14]))))
def c_polygon_allInReach : ACode := (.seq (r0 [oV 2 (vb false)])
  (.seq (.seq (r0 [oM 5 0, oN 6 5, oV 7 (vi 0)])
  (.block 0 (.loop c_polygon_allInReachb0)))
  (.seq (r0 [oV 2 (vb true)])
  .ret)))
theorem is_polygon_allInReach : compile Tryz.prog Tryz.f318.ntmps (Tryz.f318.body.getD .skip) = some c_polygon_allInReach.strip := by kernel_rfl
abbrev F_vec2_Orientation : Nat := 319
def c_vec2_Orientation : ACode := (.seq (r0 [oE 3 0, oE 4 1, oE 5 2, oV 6 (vi 0)])
  (.seq (r1 [oR 2 8 3, oJ 9 315 [(.t 8)], ⟨(some 10), .load (some 2) (.t 4), none, [1]⟩, oJ 11 315 [(.t 10)], ⟨(some 12), .load (some 2) (.t 5), none, [1, 3]⟩, oJ 13 315 [(.t 12)], oS 2 3 9, oS 2 4 11, oS 2 5 13])
  (.seq (r0 [oF 0 14 4, oL 15 14, oF 0 16 3, oL 17 16, oB .sub 18 15 17, oF 1 19 5, oL 20 19, oF 1 21 3, oL 22 21, oB .sub 23 20 22, oB .mul 24 18 23, oF 1 25 4, oL 26 25, oF 1 27 3, oL 28 27, oB .sub 29 26 28, oF 0 30 5, oL 31 30, oF 0 32 3, oL 33 32, oB .sub 34 31 33, oB .mul 35 29 34, oB .sub 36 24 35, oM 7 36])
  (.seq (r0 [oM 37 7, ⟨(some 38), .minmax true (ki (-1)) (.t 37), none, []⟩, ⟨(some 39), .minmax false (ki 1) (.t 38), none, []⟩, oM 6 39])
  .ret))))
theorem is_vec2_Orientation : compile Tryz.prog Tryz.f319.ntmps (Tryz.f319.body.getD .skip) = some c_vec2_Orientation.strip := by kernel_rfl
abbrev F_polygon_fan : Nat := 320
def c_polygon_fanb0 : ACode := (.seq (.seq (r0 [oM 14 7, oC .add 15 14 1, oM 16 0, oN 17 16, oB .lss 18 15 17])
  (.cond (.t 18) .skip (.exit 0)))
  (.seq (.block 1 (.seq (r1 [oM 21 0, oM 22 7, oI 2 23 21 22, oF 0 24 23, oL 25 24, oF 0 26 6, oL 27 26, oB .sub 28 25 27, oM 29 0, oM 30 7, oI 2 31 29 30, oF 1 32 31, oL 33 32, oF 1 34 6, oL 35 34, oB .sub 36 33 35, oW 37 zD1_6 [(0, 1, (.t 28)), (1, 1, (.t 36))], ⟨(some 8), .alloc zD1_6, none, [2, 4, 6, 10, 12, 14]⟩, oS 2 8 37])
  (.seq (r1 [oM 38 0, oM 39 7, oC .add 40 39 1, oI 2 41 38 40, oF 0 42 41, oL 43 42, oF 0 44 6, oL 45 44, oB .sub 46 43 45, oM 47 0, oM 48 7, oC .add 49 48 1, oI 2 50 47 49, oF 1 51 50, oL 52 51, oF 1 53 6, oL 54 53, oB .sub 55 52 54, oW 56 zD1_6 [(0, 1, (.t 46)), (1, 1, (.t 55))], ⟨(some 9), .alloc zD1_6, none, [3, 5, 7, 12, 14, 16]⟩, oS 2 9 56])
  (.seq (r0 [oF 0 57 8, oL 58 57, oF 1 59 9, oL 60 59, oB .mul 61 58 60, oF 1 62 8, oL 63 62, oF 0 64 9, oL 65 64, oB .mul 66 63 65, oB .sub 67 61 66, oJ 68 321 [(.t 67), (ki 65536)], oM 10 68])
  (.seq (r0 [oM 69 4, oR 2 70 8, oR 2 71 9, oM 72 10, oW 73 zD1_9 [(0, 2, (.t 70)), (2, 2, (.t 71)), (4, 1, (.t 72))], oY 5 74 1 zD1_9 [(0, 5, (.t 73))], oZ 5 40 75 69 74, oM 4 75])
  (r0 [oM 76 5, oM 77 10, oB .add 78 76 77, oM 5 78]))))))
  (r0 [oM 19 7, oC .add 20 19 1, oM 7 20])))
def c_polygon_fan : ACode := (.seq (r0 [oV 2 vn, oV 3 (vi 0)])
  (.seq (r0 [oV 4 vn])
  (.seq (r0 [oV 5 (vi 0)])
  (.seq (r0 [oM 11 0, ⟨(some 12), .iaddr 2 (.t 11) (ki 0), none, []⟩, oR 2 13 12, oA 6 zD1_6, oS 2 6 13])
  (.seq (.seq (r0 [oV 7 (vi 1)])
  (.block 0 (.loop c_polygon_fanb0)))
  (.seq (r0 [oM 79 4, oM 80 5, oM 2 79, oM 3 80])
  .ret))))))
theorem is_polygon_fan : compile Tryz.prog Tryz.f320.ntmps (Tryz.f320.body.getD .skip) = some c_polygon_fan.strip := by kernel_rfl
abbrev F_fixed_RoundDiv : Nat := 321
def c_fixed_RoundDiv : ACode := (.seq (r0 [oV 4 (vi 0)])
  (.seq (.seq (r0 [oM 7 1, oC .lss 8 7 1, oM 9 8, gF 9 (oM 10 1), gF 9 (oC .gtr 11 10 4611686018427387904), oQ 12 9 11, oM 13 12, gF 13 (oM 14 0), gF 13 (oC .lss 15 14 (-4611686018427387904)), oQ 16 13 15, oM 17 16, gF 17 (oM 18 0), gF 17 (oC .gtr 19 18 4611686018427387904), oQ 20 17 19])
  (.cond (.t 20) (.seq (r0 [oV 4 (vi 0)])
  .ret) .skip))
  (.seq (r1 [oM 21 0, oM 22 1, oB .quo 23 21 22, oM 24 0, oM 25 1, oB .rem 26 24 25, oM 5 23, oM 6 26])
  (.seq (.block 0 (.seq (r0 [oM 28 6, oM 29 1, oM 30 6, oB .sub 31 29 30, oB .geq 32 28 31, oM 27 32])
  (.cond (.t 27) (r0 [oM 33 5, oC .add 34 33 1, oM 5 34]) (.seq (r0 [oM 36 6, ⟨(some 37), .un .neg (.t 36), none, []⟩, oM 38 1, oM 39 6, oB .add 40 38 39, oB .geq 41 37 40, oM 35 41])
  (.cond (.t 35) (r0 [oM 42 5, oC .sub 43 42 1, oM 5 43]) .skip)))))
  (.seq (r0 [oM 44 5, oM 4 44])
  .ret)))))
theorem is_fixed_RoundDiv : compile Tryz.prog Tryz.f321.ntmps (Tryz.f321.body.getD .skip) = some c_fixed_RoundDiv.strip := by kernel_rfl
abbrev F_fixed_Saturate : Nat := 331
def c_fixed_Saturate : ACode := (.seq (r0 [oV 2 (vi 0)])
  (.seq (r0 [oM 3 0, ⟨(some 4), .minmax true (.t 3) (ki (-536870911)), none, []⟩, ⟨(some 5), .minmax false (.t 4) (ki 536870911), none, []⟩, oM 2 5])
  .ret))
theorem is_fixed_Saturate : compile Tryz.prog Tryz.f331.ntmps (Tryz.f331.body.getD .skip) = some c_fixed_Saturate.strip := by kernel_rfl
abbrev F_polygon_inReach : Nat := 332
def c_polygon_inReach : ACode := (.seq (r0 [oE 1 0, oV 2 (vb false)])
  (.seq (r0 [oF 0 3 1, oL 4 3, oC .geq 5 4 (-1048576), oM 6 5, gT 6 (oF 0 7 1), gT 6 (oL 8 7), gT 6 (oC .leq 9 8 1048576), oP 10 6 9, oM 11 10, gT 11 (oF 1 12 1), gT 11 (oL 13 12), gT 11 (oC .geq 14 13 (-1048576)), oP 15 11 14, oM 16 15, gT 16 (oF 1 17 1), gT 16 (oL 18 17), gT 16 (oC .leq 19 18 1048576), oP 20 16 19, oM 2 20])
  .ret))
theorem is_polygon_inReach : compile Tryz.prog Tryz.f332.ntmps (Tryz.f332.body.getD .skip) = some c_polygon_inReach.strip := by kernel_rfl
end Go.Abs
