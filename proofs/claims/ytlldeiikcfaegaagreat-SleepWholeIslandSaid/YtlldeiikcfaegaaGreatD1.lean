/- A part of the walk: contracts of functions that the statement reaches. -/
import Derived.Test.YtlldeiikcfaegaaGreatAbsC
import Derived.KernelRfl
import Derived.Eval
import Derived.Test.YtlldeiikcfaegaaGreatChecked
set_option linter.unusedSimpArgs false
set_option linter.unusedVariables false
set_option linter.unnecessarySimpa false
set_option maxRecDepth 100000
set_option maxHeartbeats 2000000
set_option linter.unusedSimpArgs false
set_option linter.unusedVariables false
namespace Go.Abs
open Go.Proofs
abbrev zD1_0 : List Value := [(.int .i64 0), (.int .i64 0), (.int .i64 0), (.int .i64 0), (.int .i64 0), (.slice none 0 0), (.slice none 0 0), (.slice none 0 0), (.slice none 0 0), (.int .i64 0), (.int .i64 0)]
abbrev zD1_2 : List Value := [(.int .i64 0), (.int .i64 0), (.int .i64 0), (.int .i64 0), (.int .i64 0), (.int .i64 0), (.int .i64 0), (.int .i64 0), (.int .i64 0), (.int .i64 0), (.int .i64 0), (.int .i64 0), (.int .i64 0), (.int .i64 0), (.bool false), (.bool false), (.bool false), (.bool false), (.int .i64 0), (.slice none 0 0)]
abbrev zD1_3 : List Value := [(.int .i64 0), (.int .i64 0), (.int .i64 0), (.int .i64 0)]
abbrev zD1_4 : List Value := [(.int .i64 0), (.int .i64 0), (.int .i64 0), (.int .i64 0), (.int .i64 0), (.int .i64 0), (.slice none 0 0)]
abbrev zD1_5 : List Value := [(.int .i64 0), (.int .i64 0), (.int .i64 0), (.int .i64 0), (.int .i64 0), (.int .i64 0), (.int .i64 0), (.int .i64 0), (.int .i64 0), (.int .i64 0), (.int .i64 0), (.bool false), (.int .i64 0), (.int .i64 0), (.bool false), (.int .i64 0), (.int .i64 0), (.int .i64 0), (.int .i64 0), (.bool false), (.int .i64 0), (.int .i64 0), (.int .i64 0), (.int .i64 0)]
abbrev zD1_6 : List Value := [(.int .i64 0), (.int .i64 0)]
abbrev zD1_9 : List Value := [(.int .i64 0), (.int .i64 0), (.int .i64 0), (.int .i64 0), (.int .i64 0)]
abbrev zD1_12 : List Value := [(.slice none 0 0), (.slice none 0 0), (.slice none 0 0)]
abbrev zD1_14 : List Value := [(.int .i64 0), (.int .i64 0), (.slice none 0 0), (.int .i64 0), (.int .i64 0), (.int .i64 0), (.bool false), (.int .i64 0), (.int .i64 0), (.int .i64 0)]
abbrev zD1_16 : List Value := [(.int .i64 0), (.int .i64 0), (.int .i64 0), (.int .i64 0), (.int .i64 0), (.int .i64 0)]
abbrev zD1_18 : List Value := [(.slice none 0 0), (.slice none 0 0)]
abbrev zD1_20 : List Value := [(.int .i64 0), (.int .i64 0), (.int .i64 0), (.int .i64 0), (.int .i64 0), (.slice none 0 0), (.slice none 0 0), (.slice none 0 0), (.slice none 0 0), (.int .i64 0), (.int .i64 0), (.slice none 0 0), (.slice none 0 0), (.slice none 0 0), (.slice none 0 0)]
abbrev zD1_21 : List Value := [(.int .i64 0), (.int .i64 0), (.slice none 0 0)]
attribute [go_sem] zD1_0 zD1_2 zD1_3 zD1_4 zD1_5 zD1_6 zD1_9 zD1_12 zD1_14 zD1_16 zD1_18 zD1_20 zD1_21
theorem hm : Tryz.prog.follows .mixedOrders = true := Tryz.checked.mixed
abbrev F_law37_SleepWholeIsland : Nat := 12
def c_law37_SleepWholeIslandb0 : ACode := (.seq (.seq (r0 [oM 17 4, oM 18 3, oN 19 18, oB .lss 20 17 19])
  (.cond (.t 20) .skip (.exit 0)))
  (.seq (.block 1 (.seq (r1 [oR 11 24 1, oM 25 3, oM 26 4, oI 3 27 25 26, oR 3 28 27, oJ 29 47 [(.t 24), (.t 28)], oM 23 29, oX 30 23 0, oX 31 23 1, oS 11 1 30])
  (.seq (r1 [oR 11 32 1, oM 33 3, oM 34 4, oI 3 35 33 34, oR 3 36 35, oJ 37 48 [(.t 32), (.t 36)], oU 38 37])
  (.cond (.t 38) (.seq (r0 [oV 2 (vb false)])
  .ret) .skip))))
  (r0 [oM 21 4, oC .add 22 21 1, oM 4 22])))
def c_law37_SleepWholeIslandb1 : ACode := (.seq (.seq (r0 [oM 39 5, oM 40 3, oN 41 40, oB .lss 42 39 41])
  (.cond (.t 42) .skip (.exit 2)))
  (.seq (.block 3 (.seq (r1 [oR 11 46 1, oM 47 3, oM 48 5, oI 3 49 47 48, oR 3 50 49, oJ 51 49 [(.t 46), (.t 50)], oM 45 51, oX 52 45 0, oX 53 45 1, oS 11 1 52])
  (.seq (r1 [oR 11 54 1, oM 55 3, oM 56 5, oI 3 57 55 56, oR 3 58 57, oJ 59 48 [(.t 54), (.t 58)], oU 60 59, oM 61 60, gF 61 (oR 11 62 1), gF 61 (oJ 63 26 [(.t 62)]), gF 61 (oC .neq 64 63 0), oQ 65 61 64])
  (.cond (.t 65) (.seq (r0 [oV 2 (vb false)])
  .ret) .skip))))
  (r0 [oM 43 5, oC .add 44 43 1, oM 5 44])))
def c_law37_SleepWholeIsland : ACode := (.seq (r0 [oE 1 0, oV 2 (vb false)])
  (.seq (.seq (r0 [oR 11 6 1, oJ 7 15 [(.t 6)], oU 8 7, oM 9 8, gF 9 (oR 11 10 1), gF 9 (oJ 11 26 [(.t 10)]), gF 9 (oC .neq 12 11 0), oQ 13 9 12])
  (.cond (.t 13) (.seq (r0 [oJ 14 46 [], oM 2 14])
  .ret) .skip))
  (.seq (r0 [oR 11 15 1, oJ 16 33 [(.t 15)], oM 3 16])
  (.seq (.seq (r0 [oV 4 (vi 0)])
  (.block 0 (.loop c_law37_SleepWholeIslandb0)))
  (.seq (.seq (r0 [oV 5 (vi 0)])
  (.block 2 (.loop c_law37_SleepWholeIslandb1)))
  (.seq (r0 [oJ 66 46 [], oM 2 66])
  .ret))))))
theorem is_law37_SleepWholeIsland : compile Tryz.prog Tryz.f12.ntmps (Tryz.f12.body.getD .skip) = some c_law37_SleepWholeIsland.strip := by kernel_rfl
abbrev F_r25_Few : Nat := 15
def c_r25_Fewb0 : ACode := (.seq (.seq (r0 [oM 26 3, oF 7 27 1, oL 28 27, oN 29 28, oB .lss 30 26 29])
  (.cond (.t 30) .skip (.exit 0)))
  (.seq (.block 1 (.seq (r0 [oF 7 33 1, oL 34 33, oM 35 3, oI 7 36 34 35, oF 4 37 36, oF 2 38 37, oL 39 38, oN 40 39, oC .gtr 41 40 8])
  (.cond (.t 41) (.seq (r0 [oV 2 (vb false)])
  .ret) .skip)))
  (r0 [oM 31 3, oC .add 32 31 1, oM 3 32])))
def c_r25_Few : ACode := (.seq (r0 [oE 1 0, oV 2 (vb false)])
  (.seq (.seq (r0 [oF 6 4 1, oL 5 4, oN 6 5, oC .gtr 7 6 40, oM 8 7, gF 8 (oF 7 9 1), gF 8 (oL 10 9), gF 8 (oN 11 10), gF 8 (oC .gtr 12 11 80), oQ 13 8 12, oM 14 13, gF 14 (oF 8 15 1), gF 14 (oL 16 15), gF 14 (oN 17 16), gF 14 (oC .gtr 18 17 80), oQ 19 14 18, oM 20 19, gF 20 (oF 5 21 1), gF 20 (oL 22 21), gF 20 (oJ 23 55 [(.t 22), (ki 40)]), gF 20 (oU 24 23), oQ 25 20 24])
  (.cond (.t 25) (.seq (r0 [oV 2 (vb false)])
  .ret) .skip))
  (.seq (.seq (r0 [oV 3 (vi 0)])
  (.block 0 (.loop c_r25_Fewb0)))
  (.seq (r0 [oV 2 (vb true)])
  .ret))))
theorem is_r25_Few : compile Tryz.prog Tryz.f15.ntmps (Tryz.f15.body.getD .skip) = some c_r25_Few.strip := by kernel_rfl
abbrev F_world_Validate : Nat := 26
def c_world_Validate : ACode := (.seq (r0 [oE 1 0, oV 2 (vi 0)])
  (.seq (.block 0 (.seq (r0 [oF 0 4 1, oR 5 5 4, oJ 6 71 [(.t 5)], oC .neq 7 6 0, oM 3 7])
  (.cond (.t 3) (.seq (r0 [oV 2 (vi 17)])
  .ret) (.seq (r0 [oF 5 9 1, oL 10 9, oN 11 10, oC .gtr 12 11 32, oM 13 12, gF 13 (oF 6 14 1), gF 13 (oL 15 14), gF 13 (oN 16 15), gF 13 (oC .gtr 17 16 32), oQ 18 13 17, oM 19 18, gF 19 (oF 7 20 1), gF 19 (oL 21 20), gF 19 (oN 22 21), gF 19 (oC .gtr 23 22 8192), oQ 24 19 23, oM 25 24, gF 25 (oF 8 26 1), gF 25 (oL 27 26), gF 25 (oN 28 27), gF 25 (oC .gtr 29 28 8192), oQ 30 25 29, oM 8 30])
  (.cond (.t 8) (.seq (r0 [oV 2 (vi 11)])
  .ret) (.seq (r0 [oF 9 32 1, oL 33 32, oJ 34 72 [(.t 33), (ki 1), (ki 1099511627776)], oU 35 34, oM 36 35, gF 36 (oF 10 37 1), gF 36 (oL 38 37), gF 36 (oJ 39 72 [(.t 38), (ki 0), (ki 1099511627776)]), gF 36 (oU 40 39), oQ 41 36 40, oM 31 41])
  (.cond (.t 31) (.seq (r0 [oV 2 (vi 6)])
  .ret) (.seq (r0 [oR 11 43 1, oJ 44 73 [(.t 43)], oU 45 44, oM 42 45])
  (.cond (.t 42) (.seq (r0 [oV 2 (vi 14)])
  .ret) (.seq (r0 [oR 11 47 1, oJ 48 74 [(.t 47)], oU 49 48, oM 46 49])
  (.cond (.t 46) (.seq (r0 [oV 2 (vi 15)])
  .ret) (.seq (r0 [oR 11 51 1, oJ 52 75 [(.t 51)], oU 53 52, oM 50 53])
  (.cond (.t 50) (.seq (r0 [oV 2 (vi 16)])
  .ret) .skip)))))))))))))
  (.seq (r0 [oV 2 (vi 0)])
  .ret)))
theorem is_world_Validate : compile Tryz.prog Tryz.f26.ntmps (Tryz.f26.body.getD .skip) = some c_world_Validate.strip := by kernel_rfl
abbrev F_island_Build : Nat := 33
def c_island_Buildb0 : ACode := (.seq (r0 [oB .lss 28 27 26])
  (.seq (.cond (.t 28) .skip (.exit 0))
  (.seq (.block 1 (.seq (r0 [oM 29 27, oI 20 30 25 27, oR 20 31 30, oA 7 zD1_2, oM 6 29, oS 20 7 31])
  (.seq (.seq (r0 [oF 1 32 7, oL 33 32, oC .neq 34 33 3])
  (.cond (.t 34) (.exit 1) .skip))
  (.seq (r0 [oM 35 3, oM 36 6, oJ 37 89 [(.t 35), (.t 36)], oM 8 37])
  (.seq (.seq (r0 [oM 38 8, oM 39 6, oB .eql 40 38 39])
  (.cond (.t 40) (.seq (r0 [oM 41 4, oM 42 6, oM 43 5, oN 44 43, ⟨none, .mset .i64 (.t 41) (.t 42) (.t 44), none, []⟩])
  (r0 [oM 45 5, oW 46 zD1_12 [], oY 3 47 1 zD1_12 [(0, 3, (.t 46))], oZ 3 72 48 45 47, oM 5 48])) .skip))
  (.seq (r0 [oM 49 4, oM 50 8, ⟨(some 51), .lookup .i64 (.int .i64 0) false (.t 49) (.t 50), none, []⟩, oM 9 51])
  (r0 [oM 52 5, oM 53 9, oM 54 5, oM 55 9, oI 3 56 54 55, oF 0 57 56, oL 58 57, oM 59 6, oY 1 60 1 [(.int .i64 0)] [(0, 1, (.t 59))], oZ 1 8 61 58 60, oI 3 62 52 53, oF 0 63 62, oS 1 63 61])))))))
  (r0 [oC .add 64 27 1, oM 27 64]))))
def c_island_Buildb1 : ACode := (.seq (r0 [oB .lss 69 68 67])
  (.seq (.cond (.t 69) .skip (.exit 2))
  (.seq (.block 3 (.seq (r0 [oM 70 68, oI 7 71 66 68, oR 7 72 71, oA 11 zD1_4, oM 10 70, oS 7 11 72])
  (.seq (r0 [oM 74 3, oR 11 75 1, oM 76 4, oF 0 77 11, oF 0 78 77, oL 79 78, oF 0 80 11, oF 2 81 80, oL 82 81, oJ 83 90 [(.t 74), (.t 75), (.t 76), (.t 79), (.t 82)], oM 73 83, oX 84 73 0, oX 85 73 1, oM 12 84, oM 13 85])
  (.seq (r0 [oM 86 13])
  (.cond (.t 86) (r0 [oM 87 5, oM 88 12, oM 89 5, oM 90 12, oI 3 91 89 90, oF 1 92 91, oL 93 92, oM 94 10, oY 1 95 1 [(.int .i64 0)] [(0, 1, (.t 94))], oZ 1 8 96 93 95, oI 3 97 87 88, oF 1 98 97, oS 1 98 96]) .skip)))))
  (r0 [oC .add 99 68 1, oM 68 99]))))
def c_island_Buildb2 : ACode := (.seq (r0 [oB .lss 104 103 102])
  (.seq (.cond (.t 104) .skip (.exit 4))
  (.seq (.block 5 (.seq (r0 [oM 105 103, oI 24 106 101 103, oR 24 107 106, oA 15 zD1_5, oM 14 105, oS 24 15 107])
  (.seq (r0 [oM 109 3, oR 11 110 1, oM 111 4, oF 2 112 15, oL 113 112, oF 3 114 15, oL 115 114, oJ 116 90 [(.t 109), (.t 110), (.t 111), (.t 113), (.t 115)], oM 108 116, oX 117 108 0, oX 118 108 1, oM 16 117, oM 17 118])
  (.seq (r0 [oM 119 17])
  (.cond (.t 119) (r0 [oM 120 5, oM 121 16, oM 122 5, oM 123 16, oI 3 124 122 123, oF 2 125 124, oL 126 125, oM 127 14, oY 1 128 1 [(.int .i64 0)] [(0, 1, (.t 127))], oZ 1 8 129 126 128, oI 3 130 120 121, oF 2 131 130, oS 1 131 129]) .skip)))))
  (r0 [oC .add 132 103 1, oM 103 132]))))
def c_island_Build : ACode := (.seq (r0 [oE 1 0, oV 2 vn])
  (.seq (.seq (r0 [oR 11 18 1, oJ 19 26 [(.t 18)], oC .neq 20 19 0])
  (.cond (.t 20) (.seq (r0 [oV 2 vn])
  .ret) .skip))
  (.seq (r0 [oR 11 21 1, oJ 22 88 [(.t 21)], oM 3 22])
  (.seq (r0 [⟨(some 23), .mkmap .i64, none, []⟩, oM 4 23])
  (.seq (r0 [oV 5 vn])
  (.seq (.seq (r0 [oF 5 24 1, oL 25 24, oN 26 25, oV 27 (vi 0)])
  (.block 0 (.loop c_island_Buildb0)))
  (.seq (.seq (r0 [oF 7 65 1, oL 66 65, oN 67 66, oV 68 (vi 0)])
  (.block 2 (.loop c_island_Buildb1)))
  (.seq (.seq (r0 [oF 6 100 1, oL 101 100, oN 102 101, oV 103 (vi 0)])
  (.block 4 (.loop c_island_Buildb2)))
  (.seq (r0 [oM 133 5, oM 2 133])
  .ret)))))))))
theorem is_island_Build : compile Tryz.prog Tryz.f33.ntmps (Tryz.f33.body.getD .skip) = some c_island_Build.strip := by kernel_rfl
abbrev F_island_Bodies : Nat := 41
def c_island_Bodiesb0 : ACode := (.seq (r0 [oB .lss 20 19 18])
  (.seq (.cond (.t 20) .skip (.exit 0))
  (.seq (.block 1 (.seq (r0 [oI 1 21 17 19, oL 22 21, oM 9 22])
  (r0 [oL 23 6, oM 24 9, ⟨(some 25), .callv (.t 23) [(.t 24)], none, []⟩])))
  (r0 [oC .add 26 19 1, oM 19 26]))))
def c_island_Bodiesb1 : ACode := (.seq (r0 [oB .lss 31 30 29])
  (.seq (.cond (.t 31) .skip (.exit 2))
  (.seq (.block 3 (.seq (r0 [oI 1 32 28 30, oL 33 32, oM 11 33])
  (.seq (r0 [oM 34 11, oC .geq 35 34 0, oM 36 35, gT 36 (oM 37 11), gT 36 (oF 7 38 2), gT 36 (oL 39 38), gT 36 (oN 40 39), gT 36 (oB .lss 41 37 40), oP 42 36 41])
  (.cond (.t 42) (.seq (r0 [oM 43 7, oF 7 44 2, oL 45 44, oM 46 11, oI 7 47 45 46, oF 0 48 47, oF 0 49 48, oL 50 49, ⟨(some 51), .callv (.t 43) [(.t 50)], none, []⟩])
  (r0 [oM 52 7, oF 7 53 2, oL 54 53, oM 55 11, oI 7 56 54 55, oF 0 57 56, oF 2 58 57, oL 59 58, ⟨(some 60), .callv (.t 52) [(.t 59)], none, []⟩])) .skip))))
  (r0 [oC .add 61 30 1, oM 30 61]))))
def c_island_Bodiesb2 : ACode := (.seq (r0 [oB .lss 66 65 64])
  (.seq (.cond (.t 66) .skip (.exit 4))
  (.seq (.block 5 (.seq (r0 [oI 1 67 63 65, oL 68 67, oM 13 68])
  (.seq (r0 [oM 69 13, oC .geq 70 69 0, oM 71 70, gT 71 (oM 72 13), gT 71 (oF 6 73 2), gT 71 (oL 74 73), gT 71 (oN 75 74), gT 71 (oB .lss 76 72 75), oP 77 71 76])
  (.cond (.t 77) (.seq (r0 [oM 78 7, oF 6 79 2, oL 80 79, oM 81 13, oI 24 82 80 81, oF 2 83 82, oL 84 83, ⟨(some 85), .callv (.t 78) [(.t 84)], none, []⟩])
  (r0 [oM 86 7, oF 6 87 2, oL 88 87, oM 89 13, oI 24 90 88 89, oF 3 91 90, oL 92 91, ⟨(some 93), .callv (.t 86) [(.t 92)], none, []⟩])) .skip))))
  (r0 [oC .add 94 65 1, oM 65 94]))))
def c_island_Bodies : ACode := (.seq (r0 [oE 2 0, oE 3 1, oV 4 vn])
  (.seq (r0 [oA 5 [(.slice none 0 0)]])
  (.seq (r0 [⟨(some 14), .mkfn (.func 98) [] [(.t 2), (.t 5)], none, []⟩, oA 6 [.nilFunc], oS 1 6 14])
  (.seq (r0 [⟨(some 15), .mkfn (.func 99) [] [(.t 6), (.t 2)], none, []⟩, oM 7 15])
  (.seq (.seq (r0 [oF 0 16 3, oL 17 16, oN 18 17, oV 19 (vi 0)])
  (.block 0 (.loop c_island_Bodiesb0)))
  (.seq (.seq (r0 [oF 1 27 3, oL 28 27, oN 29 28, oV 30 (vi 0)])
  (.block 2 (.loop c_island_Bodiesb1)))
  (.seq (.seq (r0 [oF 2 62 3, oL 63 62, oN 64 63, oV 65 (vi 0)])
  (.block 4 (.loop c_island_Bodiesb2)))
  (.seq (r0 [oL 95 5, oJ 96 101 [(.t 95)]])
  (.seq (r0 [oL 97 5, oJ 98 102 [(.t 97)], oM 4 98])
  .ret)))))))))
theorem is_island_Bodies : compile Tryz.prog Tryz.f41.ntmps (Tryz.f41.body.getD .skip) = some c_island_Bodies.strip := by kernel_rfl
abbrev F_law37_example : Nat := 46
def c_law37_example : ACode := (.seq (r0 [oV 0 (vb false)])
  (.seq (r0 [oW 9 zD1_9 [(4, 1, (ki 2))], oW 10 zD1_2 [(0, 1, (ki 5)), (1, 1, (ki 3))], oY 20 11 1 zD1_2 [(0, 20, (.t 10))], oW 12 zD1_0 [(0, 5, (.t 9)), (5, 1, (.t 11))], oA 1 zD1_0, oS 11 1 12])
  (.seq (r0 [oY 1 13 1 [(.int .i64 0)] [(0, 1, (ki 0))], oW 14 zD1_12 [(0, 1, (.t 13))], oA 2 zD1_12, oS 3 2 14])
  (.seq (r0 [oR 11 16 1, oR 3 17 2, oJ 18 49 [(.t 16), (.t 17)], oM 15 18, oX 19 15 0, oX 20 15 1, oA 3 zD1_0, oS 11 3 19, oM 4 20])
  (.seq (r0 [oR 11 22 3, oR 3 23 2, oJ 24 49 [(.t 22), (.t 23)], oM 21 24, oX 25 21 0, oX 26 21 1, oA 5 zD1_0, oS 11 5 25, oM 6 26])
  (.seq (r0 [oR 11 28 5, oR 3 29 2, oJ 30 49 [(.t 28), (.t 29)], oM 27 30, oX 31 27 0, oX 32 27 1, oA 7 zD1_0, oS 11 7 31, oM 8 32])
  (.seq (.seq (r0 [oF 5 33 3, oL 34 33, oN 35 34, oC .neq 36 35 1, oM 37 36, gF 37 (oF 5 38 5), gF 37 (oL 39 38), gF 37 (oN 40 39), gF 37 (oC .neq 41 40 1), oQ 42 37 41, oM 43 42, gF 43 (oF 5 44 7), gF 43 (oL 45 44), gF 43 (oN 46 45), gF 43 (oC .neq 47 46 1), oQ 48 43 47])
  (.cond (.t 48) (.seq (r0 [oV 0 (vb false)])
  .ret) .skip))
  (.seq (r0 [oM 49 4, oN 50 49, oC .eql 51 50 0, oM 52 51, gT 52 (oF 5 53 3), gT 52 (oL 54 53), ⟨(some 55), .iaddr 20 (.t 54) (ki 0), (some (52, true)), []⟩, gT 52 (oF 18 56 55), gT 52 (oL 57 56), gT 52 (oC .eql 58 57 1), oP 59 52 58, oM 60 59, gT 60 (oF 5 61 3), gT 60 (oL 62 61), ⟨(some 63), .iaddr 20 (.t 62) (ki 0), (some (60, true)), []⟩, gT 60 (oF 17 64 63), gT 60 (oL 65 64), gT 60 (oU 66 65), oP 67 60 66, oM 68 67, gT 68 (oM 69 6), gT 68 (oW 70 zD1_3 [(0, 1, (ki 5))]), gT 68 (oW 71 zD1_9 [(0, 1, (ki 6)), (1, 4, (.t 70))]), gT 68 (oY 5 72 1 zD1_9 [(0, 5, (.t 71))]), gT 68 (oJ 73 107 [(.t 69), (.t 72)]), oP 74 68 73, oM 75 74, gT 75 (oF 5 76 5), gT 75 (oL 77 76), ⟨(some 78), .iaddr 20 (.t 77) (ki 0), (some (75, true)), []⟩, gT 75 (oF 17 79 78), gT 75 (oL 80 79), oP 81 75 80, oM 82 81, gT 82 (oM 83 8), gT 82 (oN 84 83), gT 82 (oC .eql 85 84 0), oP 86 82 85, oM 87 86, gT 87 (oF 5 88 7), gT 87 (oL 89 88), ⟨(some 90), .iaddr 20 (.t 89) (ki 0), (some (87, true)), []⟩, gT 87 (oF 18 91 90), gT 87 (oL 92 91), gT 87 (oC .eql 93 92 2), oP 94 87 93, oM 0 94])
  .ret))))))))
theorem is_law37_example : compile Tryz.prog Tryz.f46.ntmps (Tryz.f46.body.getD .skip) = some c_law37_example.strip := by kernel_rfl
abbrev F_sleep_Wake : Nat := 47
def c_sleep_Wakeb0 : ACode := (.seq (r0 [oB .lss 27 26 25])
  (.seq (.cond (.t 27) .skip (.exit 0))
  (.seq (.block 1 (.seq (r0 [oI 1 28 24 26, oL 29 28, oM 9 29])
  (.seq (r0 [oM 30 6, ⟨(some 31), .nilck (.t 30), none, []⟩, oF 0 32 31, oF 5 33 32, oL 34 33, oM 35 9, oI 20 36 34 35, oM 10 36])
  (.seq (r0 [oM 37 10, ⟨(some 38), .nilck (.t 37), none, []⟩, oF 17 39 38, oL 40 39])
  (.cond (.t 40) (.seq (r0 [oM 41 10, oM 42 10, ⟨(some 43), .nilck (.t 41), none, []⟩, oF 17 44 43, oD 1 44 (vb false), ⟨(some 45), .nilck (.t 42), none, []⟩, oF 18 46 45, oD 1 46 (vi 0)])
  (r0 [oM 47 7, oM 48 10, ⟨(some 49), .nilck (.t 48), none, []⟩, oF 0 50 49, oL 51 50, oW 52 zD1_3 [(0, 1, (.t 51))], oW 53 zD1_9 [(0, 1, (ki 7)), (1, 4, (.t 52))], oY 5 54 1 zD1_9 [(0, 5, (.t 53))], oZ 5 40 55 47 54, oM 7 55])) .skip)))))
  (r0 [oC .add 56 26 1, oM 26 56]))))
def c_sleep_Wake : ACode := (.seq (r0 [oE 2 0, oE 3 1, oA 4 zD1_0, oV 5 vn])
  (.seq (r0 [oR 11 11 2, oR 3 12 3, oJ 13 108 [(.t 11), (.t 12)], oM 6 13])
  (.seq (.seq (r0 [oM 14 6, oJ 15 109 [(.t 14)], oU 16 15])
  (.cond (.t 16) (.seq (r0 [oM 17 6, ⟨(some 18), .nilck (.t 17), none, []⟩, oF 0 19 18, oR 11 20 19, oS 11 4 20, oV 5 vn])
  .ret) .skip))
  (.seq (r0 [oV 7 vn])
  (.seq (.seq (r0 [oM 21 6, ⟨(some 22), .nilck (.t 21), none, []⟩, oF 14 23 22, oL 24 23, oN 25 24, oV 26 (vi 0)])
  (.block 0 (.loop c_sleep_Wakeb0)))
  (.seq (r0 [oM 57 6, ⟨(some 58), .nilck (.t 57), none, []⟩, oF 0 59 58, oR 11 60 59, oM 61 7, oS 11 4 60, oM 5 61])
  .ret))))))
theorem is_sleep_Wake : compile Tryz.prog Tryz.f47.ntmps (Tryz.f47.body.getD .skip) = some c_sleep_Wake.strip := by kernel_rfl
abbrev F_law37_whole : Nat := 48
def c_law37_wholeb0 : ACode := (.seq (.seq (r0 [oM 8 6, oF 0 9 3, oL 10 9, oN 11 10, oB .lss 12 8 11])
  (.cond (.t 12) .skip (.exit 0)))
  (.seq (.block 1 (.seq (r0 [oF 0 15 3, oL 16 15, oM 17 6, oI 1 18 16 17, oL 19 18, oM 7 19])
  (.seq (.seq (r0 [oM 20 7, oC .lss 21 20 0, oM 22 21, gF 22 (oM 23 7), gF 22 (oF 5 24 2), gF 22 (oL 25 24), gF 22 (oN 26 25), gF 22 (oB .geq 27 23 26), oQ 28 22 27])
  (.cond (.t 28) (.seq (r0 [oV 4 (vb false)])
  .ret) .skip))
  (.seq (r0 [oF 5 29 2, oL 30 29, oM 31 7, oI 20 32 30 31, oF 17 33 32, oL 34 33])
  (.cond (.t 34) (r0 [oM 35 5, oC .add 36 35 1, oM 5 36]) .skip)))))
  (r0 [oM 13 6, oC .add 14 13 1, oM 6 14])))
def c_law37_whole : ACode := (.seq (r0 [oE 2 0, oE 3 1, oV 4 (vb false)])
  (.seq (r0 [oV 5 (vi 0)])
  (.seq (.seq (r0 [oV 6 (vi 0)])
  (.block 0 (.loop c_law37_wholeb0)))
  (.seq (r0 [oM 37 5, oC .eql 38 37 0, oM 39 38, gF 39 (oM 40 5), gF 39 (oF 0 41 3), gF 39 (oL 42 41), gF 39 (oN 43 42), gF 39 (oB .eql 44 40 43), oQ 45 39 44, oM 4 45])
  .ret))))
theorem is_law37_whole : compile Tryz.prog Tryz.f48.ntmps (Tryz.f48.body.getD .skip) = some c_law37_whole.strip := by kernel_rfl
abbrev F_sleep_Update : Nat := 49
def c_sleep_Updateb0 : ACode := (.seq (r0 [oB .lss 29 28 27])
  (.seq (.cond (.t 29) .skip (.exit 0))
  (.seq (.block 1 (.seq (r0 [oI 1 30 26 28, oL 31 30, oM 8 31])
  (r1 [oM 32 6, ⟨(some 33), .nilck (.t 32), none, []⟩, oF 0 34 33, oF 5 35 34, oL 36 35, oM 37 8, oM 38 6, ⟨(some 39), .nilck (.t 38), none, []⟩, oF 0 40 39, oF 5 41 40, oL 42 41, oM 43 8, oI 20 44 42 43, oR 20 45 44, ⟨(some 46), .call 110 [(.t 45)], none, [4]⟩, oI 20 47 36 37, oS 20 47 46])))
  (r0 [oC .add 48 28 1, oM 28 48]))))
def c_sleep_Updateb1 : ACode := (.seq (r0 [oB .lss 84 83 82])
  (.seq (.cond (.t 84) .skip (.exit 2))
  (.seq (.block 3 (.seq (r0 [oI 1 85 81 83, oL 86 85, oM 11 86])
  (.seq (r0 [oM 87 6, ⟨(some 88), .nilck (.t 87), none, []⟩, oF 0 89 88, oF 5 90 89, oL 91 90, oM 92 11, oI 20 93 91 92, oM 12 93])
  (.seq (r0 [oM 94 12, oM 95 12, oM 96 12, oW 97 zD1_6 [], ⟨(some 98), .nilck (.t 94), none, []⟩, oF 17 99 98, oD 1 99 (vb true), ⟨(some 100), .nilck (.t 95), none, []⟩, oF 5 101 100, oS 2 101 97, ⟨(some 102), .nilck (.t 96), none, []⟩, oF 7 103 102, oD 1 103 (vi 0)])
  (r0 [oM 104 9, oM 105 12, ⟨(some 106), .nilck (.t 105), none, []⟩, oF 0 107 106, oL 108 107, oW 109 zD1_3 [(0, 1, (.t 108))], oW 110 zD1_9 [(0, 1, (ki 6)), (1, 4, (.t 109))], oY 5 111 1 zD1_9 [(0, 5, (.t 110))], oZ 5 40 112 104 111, oM 9 112])))))
  (r0 [oC .add 113 83 1, oM 83 113]))))
def c_sleep_Update : ACode := (.seq (r0 [oE 2 0, oE 3 1, oA 4 zD1_0, oV 5 vn])
  (.seq (r0 [oR 11 13 2, oR 3 14 3, oJ 15 108 [(.t 13), (.t 14)], oM 6 15])
  (.seq (.seq (r0 [oM 16 6, oJ 17 109 [(.t 16)], oU 18 17])
  (.cond (.t 18) (.seq (r0 [oM 19 6, ⟨(some 20), .nilck (.t 19), none, []⟩, oF 0 21 20, oR 11 22 21, oS 11 4 22, oV 5 vn])
  .ret) .skip))
  (.seq (.seq (r0 [oM 23 6, ⟨(some 24), .nilck (.t 23), none, []⟩, oF 14 25 24, oL 26 25, oN 27 26, oV 28 (vi 0)])
  (.block 0 (.loop c_sleep_Updateb0)))
  (.seq (.seq (r0 [oM 49 6, ⟨(some 50), .nilck (.t 49), none, []⟩, oF 0 51 50, oF 0 52 51, oF 4 53 52, oL 54 53, oC .leq 55 54 0, oM 56 55, gF 56 (oM 57 6), ⟨(some 58), .nilck (.t 57), (some (56, false)), []⟩, gF 56 (oF 14 59 58), gF 56 (oL 60 59), gF 56 (oN 61 60), gF 56 (oC .eql 62 61 0), oQ 63 56 62, oM 64 63, gF 64 (oM 65 6), gF 64 (oM 66 6), ⟨(some 67), .mkfn (.func 112) [(.t 66)] [], (some (64, false)), []⟩, gF 64 (oJ 68 111 [(.t 65), (.t 67)]), oQ 69 64 68, oM 70 69, gF 70 (oM 71 6), gF 70 (oJ 72 113 [(.t 71)]), oQ 73 70 72])
  (.cond (.t 73) (.seq (r0 [oM 74 6, ⟨(some 75), .nilck (.t 74), none, []⟩, oF 0 76 75, oR 11 77 76, oS 11 4 77, oV 5 vn])
  .ret) .skip))
  (.seq (r0 [oV 9 vn])
  (.seq (.seq (r0 [oM 78 6, ⟨(some 79), .nilck (.t 78), none, []⟩, oF 14 80 79, oL 81 80, oN 82 81, oV 83 (vi 0)])
  (.block 2 (.loop c_sleep_Updateb1)))
  (.seq (r0 [oM 114 6, ⟨(some 115), .nilck (.t 114), none, []⟩, oF 0 116 115, oR 11 117 116, oM 118 9, oS 11 4 117, oM 5 118])
  .ret))))))))
theorem is_sleep_Update : compile Tryz.prog Tryz.f49.ntmps (Tryz.f49.body.getD .skip) = some c_sleep_Update.strip := by kernel_rfl
abbrev F_r22_Few : Nat := 55
def c_r22_Fewb0 : ACode := (.seq (.seq (r0 [oM 24 6, oM 25 0, oM 26 5, oI 20 27 25 26, oF 19 28 27, oL 29 28, oN 30 29, oB .lss 31 24 30])
  (.cond (.t 31) .skip (.exit 2)))
  (.seq (.block 3 (.seq (r0 [oM 34 0, oM 35 5, oI 20 36 34 35, oF 19 37 36, oL 38 37, oM 39 6, oI 10 40 38 39, oF 0 41 40, oF 2 42 41, oL 43 42, oN 44 43, oC .gtr 45 44 20])
  (.cond (.t 45) (.seq (r0 [oV 4 (vb false)])
  .ret) .skip)))
  (r0 [oM 32 6, oC .add 33 32 1, oM 6 33])))
def c_r22_Fewb1 : ACode := (.seq (.seq (r0 [oM 11 5, oM 12 0, oN 13 12, oB .lss 14 11 13])
  (.cond (.t 14) .skip (.exit 0)))
  (.seq (.block 1 (.seq (.seq (r0 [oM 17 0, oM 18 5, oI 20 19 17 18, oF 19 20 19, oL 21 20, oN 22 21, oC .gtr 23 22 8])
  (.cond (.t 23) (.seq (r0 [oV 4 (vb false)])
  .ret) .skip))
  (.seq (r0 [oV 6 (vi 0)])
  (.block 2 (.loop c_r22_Fewb0)))))
  (r0 [oM 15 5, oC .add 16 15 1, oM 5 16])))
def c_r22_Few : ACode := (.seq (r0 [oV 4 (vb false)])
  (.seq (.seq (r0 [oM 7 0, oN 8 7, oM 9 1, oB .gtr 10 8 9])
  (.cond (.t 10) (.seq (r0 [oV 4 (vb false)])
  .ret) .skip))
  (.seq (.seq (r0 [oV 5 (vi 0)])
  (.block 0 (.loop c_r22_Fewb1)))
  (.seq (r0 [oV 4 (vb true)])
  .ret))))
theorem is_r22_Few : compile Tryz.prog Tryz.f55.ntmps (Tryz.f55.body.getD .skip) = some c_r22_Few.strip := by kernel_rfl
abbrev F_world_ValidateSettings : Nat := 71
def c_world_ValidateSettings : ACode := (.seq (r0 [oE 1 0, oV 2 (vi 0)])
  (.seq (r0 [oF 1 4 1, oF 0 5 4, oL 6 5, oJ 7 72 [(.t 6), (ki (-16777216)), (ki 16777216)], oM 8 7, gT 8 (oF 1 9 1), gT 8 (oF 1 10 9), gT 8 (oL 11 10), gT 8 (oJ 12 72 [(.t 11), (ki (-16777216)), (ki 16777216)]), oP 13 8 12, oM 3 13])
  (.seq (.seq (r0 [oF 0 14 1, oL 15 14, oJ 16 72 [(.t 15), (ki 64), (ki 8192)], oU 17 16, oM 18 17, gF 18 (oM 19 3), gF 18 (oU 20 19), oQ 21 18 20, oM 22 21, gF 22 (oF 3 23 1), gF 22 (oL 24 23), gF 22 (oJ 25 72 [(.t 24), (ki 1), (ki 32)]), gF 22 (oU 26 25), oQ 27 22 26, oM 28 27, gF 28 (oF 4 29 1), gF 28 (oL 30 29), gF 28 (oJ 31 72 [(.t 30), (ki 0), (ki 1048576)]), gF 28 (oU 32 31), oQ 33 28 32])
  (.cond (.t 33) (.seq (r0 [oV 2 (vi 6)])
  .ret) .skip))
  (.seq (r0 [oV 2 (vi 0)])
  .ret))))
theorem is_world_ValidateSettings : compile Tryz.prog Tryz.f71.ntmps (Tryz.f71.body.getD .skip) = some c_world_ValidateSettings.strip := by kernel_rfl
abbrev F_world_in : Nat := 72
def c_world_in : ACode := (.seq (r0 [oV 6 (vb false)])
  (.seq (r0 [oM 7 0, oM 8 1, oB .geq 9 7 8, oM 10 9, gT 10 (oM 11 0), gT 10 (oM 12 2), gT 10 (oB .leq 13 11 12), oP 14 10 13, oM 6 14])
  .ret))
theorem is_world_in : compile Tryz.prog Tryz.f72.ntmps (Tryz.f72.body.getD .skip) = some c_world_in.strip := by kernel_rfl
abbrev F_world_validBodies : Nat := 73
def c_world_validBodiesb0 : ACode := (.seq (r0 [oB .lss 10 9 8])
  (.seq (.cond (.t 10) .skip (.exit 0))
  (.seq (.block 1 (.seq (r0 [oI 20 11 7 9, oR 20 12 11, oA 5 zD1_2, oS 20 5 12])
  (.seq (.seq (r0 [oR 20 13 5, oJ 14 139 [(.t 13)], oC .neq 15 14 0, oM 16 15, gF 16 (oF 0 17 5), gF 16 (oL 18 17), gF 16 (oF 9 19 1), gF 16 (oL 20 19), gF 16 (oB .geq 21 18 20), oQ 22 16 21, oM 23 22, gF 23 (oF 0 24 5), gF 23 (oL 25 24), gF 23 (oM 26 3), gF 23 (oB .leq 27 25 26), oQ 28 23 27])
  (.cond (.t 28) (.seq (r0 [oV 2 (vb false)])
  .ret) .skip))
  (r0 [oF 0 29 5, oL 30 29, oM 3 30]))))
  (r0 [oC .add 31 9 1, oM 9 31]))))
def c_world_validBodies : ACode := (.seq (r0 [oE 1 0, oV 2 (vb false)])
  (.seq (r0 [oV 3 (vi 0)])
  (.seq (.seq (r0 [oF 5 6 1, oL 7 6, oN 8 7, oV 9 (vi 0)])
  (.block 0 (.loop c_world_validBodiesb0)))
  (.seq (r0 [oV 2 (vb true)])
  .ret))))
theorem is_world_validBodies : compile Tryz.prog Tryz.f73.ntmps (Tryz.f73.body.getD .skip) = some c_world_validBodies.strip := by kernel_rfl
abbrev F_world_validJoints : Nat := 74
def c_world_validJointsb0 : ACode := (.seq (r0 [oB .lss 10 9 8])
  (.seq (.cond (.t 10) .skip (.exit 0))
  (.seq (.block 1 (.seq (r0 [oI 24 11 7 9, oR 24 12 11, oA 5 zD1_5, oS 24 5 12])
  (.seq (.seq (r0 [oR 24 13 5, oJ 14 140 [(.t 13)], oC .neq 15 14 0, oM 16 15, gF 16 (oF 0 17 5), gF 16 (oL 18 17), gF 16 (oF 9 19 1), gF 16 (oL 20 19), gF 16 (oB .geq 21 18 20), oQ 22 16 21, oM 23 22, gF 23 (oF 0 24 5), gF 23 (oL 25 24), gF 23 (oM 26 3), gF 23 (oB .leq 27 25 26), oQ 28 23 27, oM 29 28, gF 29 (oR 11 30 1), gF 29 (oR 24 31 5), gF 29 (oJ 32 141 [(.t 30), (.t 31)]), gF 29 (oU 33 32), oQ 34 29 33, oM 35 34, gF 35 (oR 11 36 1), gF 35 (oF 0 37 5), gF 35 (oL 38 37), gF 35 (oJ 39 100 [(.t 36), (.t 38)]), gF 35 (oC .geq 40 39 0), oQ 41 35 40])
  (.cond (.t 41) (.seq (r0 [oV 2 (vb false)])
  .ret) .skip))
  (r0 [oF 0 42 5, oL 43 42, oM 3 43]))))
  (r0 [oC .add 44 9 1, oM 9 44]))))
def c_world_validJoints : ACode := (.seq (r0 [oE 1 0, oV 2 (vb false)])
  (.seq (r0 [oV 3 (vi 0)])
  (.seq (.seq (r0 [oF 6 6 1, oL 7 6, oN 8 7, oV 9 (vi 0)])
  (.block 0 (.loop c_world_validJointsb0)))
  (.seq (r0 [oV 2 (vb true)])
  .ret))))
theorem is_world_validJoints : compile Tryz.prog Tryz.f74.ntmps (Tryz.f74.body.getD .skip) = some c_world_validJoints.strip := by kernel_rfl
abbrev F_world_validContacts : Nat := 75
def c_world_validContactsb0 : ACode := (.seq (r0 [oB .lss 10 9 8])
  (.seq (.cond (.t 10) .skip (.exit 0))
  (.seq (.block 1 (.seq (r0 [oI 7 11 7 9, oR 7 12 11, oA 5 zD1_4, oS 7 5 12])
  (.seq (.seq (r0 [oF 4 13 5, oR 3 14 13, oJ 15 142 [(.t 14)], oU 16 15])
  (.cond (.t 16) (.seq (r0 [oV 2 (vb false)])
  .ret) .skip))
  (r0 [oM 17 3, oF 0 18 5, oR 4 19 18, oY 4 20 1 zD1_3 [(0, 4, (.t 19))], oZ 4 32 21 17 20, oM 3 21]))))
  (r0 [oC .add 22 9 1, oM 9 22]))))
def c_world_validContacts : ACode := (.seq (r0 [oE 1 0, oV 2 (vb false)])
  (.seq (r0 [oV 3 vn])
  (.seq (.seq (r0 [oF 7 6 1, oL 7 6, oN 8 7, oV 9 (vi 0)])
  (.block 0 (.loop c_world_validContactsb0)))
  (.seq (.seq (r0 [oM 23 3, oJ 24 143 [(.t 23)], oU 25 24, oM 26 25, gF 26 (oF 8 27 1), gF 26 (oL 28 27), gF 26 (oJ 29 143 [(.t 28)]), gF 26 (oU 30 29), oQ 31 26 30])
  (.cond (.t 31) (.seq (r0 [oV 2 (vb false)])
  .ret) .skip))
  (.seq (r0 [oM 32 3, oF 8 33 1, oL 34 33, oY 1 35 2 zD1_18 [(0, 1, (.t 32)), (1, 1, (.t 34))], oJ 36 145 [(.t 35)], ⟨(some 37), .mkfn (.func 146) [] [(.t 1)], none, []⟩, oJ 38 144 [(.t 36), (.t 37)], oU 39 38, oM 2 39])
  .ret)))))
theorem is_world_validContacts : compile Tryz.prog Tryz.f75.ntmps (Tryz.f75.body.getD .skip) = some c_world_validContacts.strip := by kernel_rfl
abbrev F_island_connect : Nat := 88
def c_island_connectb0 : ACode := (.seq (r0 [oB .lss 16 15 14])
  (.seq (.cond (.t 16) .skip (.exit 0))
  (.seq (.block 1 (.seq (r0 [oM 17 15, oM 4 17])
  (r0 [oM 18 3, oM 19 4, oM 20 4, oI 1 21 18 19, oS 1 21 20])))
  (r0 [oC .add 22 15 1, oM 15 22]))))
def c_island_connectb1 : ACode := (.seq (r0 [oB .lss 27 26 25])
  (.seq (.cond (.t 27) .skip (.exit 2))
  (.seq (.block 3 (.seq (r0 [oI 7 28 24 26, oR 7 29 28, oA 6 zD1_4, oS 7 6 29])
  (r0 [oM 30 3, oR 11 31 1, oF 0 32 6, oF 0 33 32, oL 34 33, oF 0 35 6, oF 2 36 35, oL 37 36, oJ 38 176 [(.t 30), (.t 31), (.t 34), (.t 37)]])))
  (r0 [oC .add 39 26 1, oM 26 39]))))
def c_island_connectb2 : ACode := (.seq (r0 [oB .lss 44 43 42])
  (.seq (.cond (.t 44) .skip (.exit 4))
  (.seq (.block 5 (.seq (r0 [oI 24 45 41 43, oR 24 46 45, oA 8 zD1_5, oS 24 8 46])
  (r0 [oM 47 3, oR 11 48 1, oF 2 49 8, oL 50 49, oF 3 51 8, oL 52 51, oJ 53 176 [(.t 47), (.t 48), (.t 50), (.t 52)]])))
  (r0 [oC .add 54 43 1, oM 43 54]))))
def c_island_connect : ACode := (.seq (r0 [oE 1 0, oV 2 vn])
  (.seq (r0 [oF 5 9 1, oL 10 9, oN 11 10, ⟨(some 12), .mkslice 1 8 [(.int .i64 0)] (.t 11) (.t 11), none, []⟩, oM 3 12])
  (.seq (.seq (r0 [oM 13 3, oN 14 13, oV 15 (vi 0)])
  (.block 0 (.loop c_island_connectb0)))
  (.seq (.seq (r0 [oF 7 23 1, oL 24 23, oN 25 24, oV 26 (vi 0)])
  (.block 2 (.loop c_island_connectb1)))
  (.seq (.seq (r0 [oF 6 40 1, oL 41 40, oN 42 41, oV 43 (vi 0)])
  (.block 4 (.loop c_island_connectb2)))
  (.seq (r0 [oM 55 3, oM 2 55])
  .ret))))))
theorem is_island_connect : compile Tryz.prog Tryz.f88.ntmps (Tryz.f88.body.getD .skip) = some c_island_connect.strip := by kernel_rfl
abbrev F_island_partition_root : Nat := 89
def c_island_partition_rootb0 : ACode := (.seq (.seq (r0 [oM 5 0, oM 6 1, oI 1 7 5 6, oL 8 7, oM 9 1, oB .neq 10 8 9])
  (.cond (.t 10) .skip (.exit 0)))
  (.block 1 (r0 [oM 11 0, oM 12 1, oI 1 13 11 12, oL 14 13, oM 1 14])))
def c_island_partition_root : ACode := (.seq (r0 [oV 4 (vi 0)])
  (.seq (.block 0 (.loop c_island_partition_rootb0))
  (.seq (r0 [oM 15 1, oM 4 15])
  .ret)))
theorem is_island_partition_root : compile Tryz.prog Tryz.f89.ntmps (Tryz.f89.body.getD .skip) = some c_island_partition_root.strip := by kernel_rfl
abbrev F_island_partition_islandOf : Nat := 90
def c_island_partition_islandOfb0 : ACode := (.seq (r0 [oB .lss 21 20 19])
  (.seq (.cond (.t 21) .skip (.exit 0))
  (.seq (.block 1 (.seq (r0 [oI 1 22 18 20, oL 23 22, oM 13 23])
  (.seq (r0 [oR 11 25 6, oM 26 13, oJ 27 177 [(.t 25), (.t 26)], oM 24 27, oX 28 24 0, oX 29 24 1, oM 14 28, oM 15 29])
  (.seq (r0 [oM 30 15])
  (.cond (.t 30) (.seq (r0 [oM 31 2, oM 32 0, oM 33 14, oJ 34 89 [(.t 32), (.t 33)], ⟨(some 35), .lookup .i64 (.int .i64 0) false (.t 31) (.t 34), none, []⟩, oM 10 35, oV 11 (vb true)])
  .ret) .skip)))))
  (r0 [oC .add 36 20 1, oM 20 36]))))
def c_island_partition_islandOf : ACode := (.seq (r0 [oE 6 1, oV 10 (vi 0), oV 11 (vb false)])
  (.seq (.seq (r0 [oM 16 3, oM 17 4, oY 1 18 2 zD1_6 [(0, 1, (.t 16)), (1, 1, (.t 17))], oN 19 18, oV 20 (vi 0)])
  (.block 0 (.loop c_island_partition_islandOfb0)))
  (.seq (r0 [oV 10 (vi 0), oV 11 (vb false)])
  .ret)))
theorem is_island_partition_islandOf : compile Tryz.prog Tryz.f90.ntmps (Tryz.f90.body.getD .skip) = some c_island_partition_islandOf.strip := by kernel_rfl
abbrev F_slices_Contains_int : Nat := 97
def c_slices_Contains_int : ACode := (.seq (r0 [oV 4 (vb false)])
  (.seq (r0 [oM 5 0, oM 6 1, oJ 7 179 [(.t 5), (.t 6)], oC .geq 8 7 0, oM 4 8])
  .ret))
theorem is_slices_Contains_int : compile Tryz.prog Tryz.f97.ntmps (Tryz.f97.body.getD .skip) = some c_slices_Contains_int.strip := by kernel_rfl
abbrev F_island_Bodies_f1 : Nat := 98
def c_island_Bodies_f1 : ACode := (.seq (r0 [oM 4 0, oC .geq 5 4 0, oM 6 5, gT 6 (oM 7 0), gT 6 (oF 5 8 1), gT 6 (oL 9 8), gT 6 (oN 10 9), gT 6 (oB .lss 11 7 10), oP 12 6 11])
  (.cond (.t 12) (r0 [oL 13 2, oM 14 0, oY 1 15 1 [(.int .i64 0)] [(0, 1, (.t 14))], oZ 1 8 16 13 15, oS 1 2 16]) .skip))
theorem is_island_Bodies_f1 : compile Tryz.prog Tryz.f98.ntmps (Tryz.f98.body.getD .skip) = some c_island_Bodies_f1.strip := by kernel_rfl
abbrev F_island_Bodies_f2 : Nat := 99
def c_island_Bodies_f2 : ACode := (.seq (r0 [oM 4 0, oC .neq 5 4 0])
  (.cond (.t 5) (r1 [oL 6 1, oR 11 7 2, oM 8 0, ⟨(some 9), .call 100 [(.t 7), (.t 8)], none, [0]⟩, ⟨(some 10), .callv (.t 6) [(.t 9)], none, []⟩]) .skip))
theorem is_island_Bodies_f2 : compile Tryz.prog Tryz.f99.ntmps (Tryz.f99.body.getD .skip) = some c_island_Bodies_f2.strip := by kernel_rfl
abbrev F_world_FindBody : Nat := 100
def c_world_FindBody : ACode := (.seq (r0 [oE 2 0, oE 3 1, oV 4 (vi 0)])
  (.seq (r0 [oF 5 5 2, oL 6 5, ⟨(some 7), .mkfn (.func 181) [] [(.t 3)], none, []⟩, oJ 8 180 [(.t 6), (.t 7)], oM 4 8])
  .ret))
theorem is_world_FindBody : compile Tryz.prog Tryz.f100.ntmps (Tryz.f100.body.getD .skip) = some c_world_FindBody.strip := by kernel_rfl
abbrev F_slices_Sort_int : Nat := 101
abbrev F_slices_Compact_int : Nat := 102
abbrev F_r37_Events : Nat := 107
def c_r37_Eventsb0 : ACode := (.seq (.seq (r0 [oM 11 5, oM 12 0, oN 13 12, oB .lss 14 11 13])
  (.cond (.t 14) .skip (.exit 0)))
  (.seq (.block 1 (.seq (r1 [oM 17 0, oM 18 5, oI 5 19 17 18, oR 5 20 19, oM 21 1, oM 22 5, oI 5 23 21 22, oR 5 24 23, ⟨(some 25), .eqa [true, true, true, true, true] true (.t 20) (.t 24), none, []⟩])
  (.cond (.t 25) (.seq (r0 [oV 4 (vb false)])
  .ret) .skip)))
  (r0 [oM 15 5, oC .add 16 15 1, oM 5 16])))
def c_r37_Events : ACode := (.seq (r0 [oV 4 (vb false)])
  (.seq (.seq (r0 [oM 6 0, oN 7 6, oM 8 1, oN 9 8, oB .neq 10 7 9])
  (.cond (.t 10) (.seq (r0 [oV 4 (vb false)])
  .ret) .skip))
  (.seq (.seq (r0 [oV 5 (vi 0)])
  (.block 0 (.loop c_r37_Eventsb0)))
  (.seq (r0 [oV 4 (vb true)])
  .ret))))
theorem is_r37_Events : compile Tryz.prog Tryz.f107.ntmps (Tryz.f107.body.getD .skip) = some c_r37_Events.strip := by kernel_rfl
abbrev F_sleep_newGroup : Nat := 108
def c_sleep_newGroupb0 : ACode := (.seq (r0 [oB .lss 17 16 15])
  (.seq (.cond (.t 17) .skip (.exit 0))
  (.seq (.block 1 (.seq (r0 [oI 1 18 14 16, oL 19 18, oM 7 19])
  (.seq (r0 [oM 20 7, oC .geq 21 20 0, oM 22 21, gT 22 (oM 23 7), gT 22 (oF 5 24 2), gT 22 (oL 25 24), gT 22 (oN 26 25), gT 22 (oB .lss 27 23 26), oP 28 22 27, oM 29 28, gT 29 (oM 30 5), ⟨(some 31), .nilck (.t 30), (some (29, true)), []⟩, gT 29 (oF 14 32 31), gT 29 (oL 33 32), gT 29 (oM 34 7), gT 29 (oJ 35 97 [(.t 33), (.t 34)]), gT 29 (oU 36 35), oP 37 29 36])
  (.cond (.t 37) (r0 [oM 38 5, oM 39 5, ⟨(some 40), .nilck (.t 39), none, []⟩, oF 14 41 40, oL 42 41, oM 43 7, oY 1 44 1 [(.int .i64 0)] [(0, 1, (.t 43))], oZ 1 8 45 42 44, ⟨(some 46), .nilck (.t 38), none, []⟩, oF 14 47 46, oS 1 47 45]) .skip))))
  (r0 [oC .add 48 16 1, oM 16 48]))))
def c_sleep_newGroup : ACode := (.seq (r0 [oE 2 0, oE 3 1, oV 4 (.sc (.pointer none))])
  (.seq (r1 [oR 11 8 2, oJ 9 185 [(.t 8)], ⟨(some 10), .load (some 3) (.t 3), none, [1]⟩, oW 11 zD1_20 [(0, 11, (.t 9)), (11, 3, (.t 10))], oE 12 11, oM 5 12])
  (.seq (.seq (r0 [oF 0 13 3, oL 14 13, oN 15 14, oV 16 (vi 0)])
  (.block 0 (.loop c_sleep_newGroupb0)))
  (.seq (r0 [oM 49 5, oM 4 49])
  .ret))))
theorem is_sleep_newGroup : compile Tryz.prog Tryz.f108.ntmps (Tryz.f108.body.getD .skip) = some c_sleep_newGroup.strip := by kernel_rfl
abbrev F_sleep_group_awake : Nat := 109
def c_sleep_group_awake : ACode := (.seq (r0 [oV 2 (vb false)])
  (.seq (r0 [oM 3 0, oM 4 0, ⟨(some 5), .mkfn (.func 186) [(.t 4)] [], none, []⟩, oJ 6 111 [(.t 3), (.t 5)], oM 7 6, gF 7 (oM 8 0), gF 7 (oJ 9 113 [(.t 8)]), oQ 10 7 9, oM 2 10])
  .ret))
theorem is_sleep_group_awake : compile Tryz.prog Tryz.f109.ntmps (Tryz.f109.body.getD .skip) = some c_sleep_group_awake.strip := by kernel_rfl
abbrev F_sleep_UpdateIdle : Nat := 110
def c_sleep_UpdateIdle : ACode := (.seq (r0 [oE 1 0, oA 2 zD1_2])
  (.seq (.seq (r0 [oR 20 3 1, oJ 4 187 [(.t 3)]])
  (.cond (.t 4) (r0 [oF 18 5 1, oL 6 5, ⟨(some 7), .minmax false (.t 6) (ki 1048575), none, []⟩, oC .add 8 7 1, oF 18 9 1, oS 1 9 8]) (r0 [oF 18 10 1, oD 1 10 (vi 0)])))
  (.seq (r0 [oR 20 11 1, oS 20 2 11])
  .ret)))
theorem is_sleep_UpdateIdle : compile Tryz.prog Tryz.f110.ntmps (Tryz.f110.body.getD .skip) = some c_sleep_UpdateIdle.strip := by kernel_rfl
abbrev F_sleep_group_any : Nat := 111
def c_sleep_group_any : ACode := (.seq (r0 [oE 2 0, oE 3 1, oV 4 (vb false)])
  (.seq (r0 [oL 5 2, ⟨(some 6), .nilck (.t 5), none, []⟩, oF 14 7 6, oL 8 7, ⟨(some 9), .mkfn (.func 189) [] [(.t 3), (.t 2)], none, []⟩, oJ 10 188 [(.t 8), (.t 9)], oM 4 10])
  .ret))
theorem is_sleep_group_any : compile Tryz.prog Tryz.f111.ntmps (Tryz.f111.body.getD .skip) = some c_sleep_group_any.strip := by kernel_rfl
abbrev F_sleep_group_restless : Nat := 112
def c_sleep_group_restless : ACode := (.seq (r0 [oE 3 1, oV 4 (vb false)])
  (.seq (r1 [oF 18 5 3, oL 6 5, oM 7 0, ⟨(some 8), .nilck (.t 7), none, []⟩, oF 0 9 8, oF 0 10 9, oF 4 11 10, oL 12 11, oB .lss 13 6 12, oM 4 13])
  .ret))
theorem is_sleep_group_restless : compile Tryz.prog Tryz.f112.ntmps (Tryz.f112.body.getD .skip) = some c_sleep_group_restless.strip := by kernel_rfl
abbrev F_sleep_group_driven : Nat := 113
def c_sleep_group_driven : ACode := (.seq (r0 [oE 1 0, oV 2 (vb false)])
  (.seq (r1 [oL 4 1, ⟨(some 5), .nilck (.t 4), none, []⟩, oF 0 6 5, oR 11 7 6, oL 8 1, ⟨(some 9), .nilck (.t 8), none, []⟩, oF 11 10 9, oR 3 11 10, oJ 12 41 [(.t 7), (.t 11)], ⟨(some 13), .mkfn (.func 190) [] [(.t 1)], none, []⟩, oJ 14 188 [(.t 12), (.t 13)], oM 3 14])
  (.seq (r0 [oM 15 3, oM 16 15, gF 16 (oL 17 1), ⟨(some 18), .nilck (.t 17), (some (16, false)), []⟩, gF 16 (oF 11 19 18), gF 16 (oF 2 20 19), gF 16 (oL 21 20), ⟨(some 22), .mkfn (.func 192) [] [(.t 1)], (some (16, false)), []⟩, gF 16 (oJ 23 188 [(.t 21), (.t 22)]), oQ 24 16 23, oM 2 24])
  .ret)))
theorem is_sleep_group_driven : compile Tryz.prog Tryz.f113.ntmps (Tryz.f113.body.getD .skip) = some c_sleep_group_driven.strip := by kernel_rfl
abbrev F_body_Validate : Nat := 139
def c_body_Validateb0 : ACode := (.seq (r0 [oB .lss 29 28 27])
  (.seq (.cond (.t 29) .skip (.exit 0))
  (.seq (.block 1 (.seq (r0 [oI 10 30 26 28, oR 10 31 30, oA 4 zD1_14, oS 10 4 31])
  (.seq (r0 [oR 10 32 4, oJ 33 206 [(.t 32)], oC .neq 34 33 0])
  (.cond (.t 34) (.seq (r0 [oV 2 (vi 13)])
  .ret) .skip))))
  (r0 [oC .add 35 28 1, oM 28 35]))))
def c_body_Validate : ACode := (.seq (r0 [oE 1 0, oV 2 (vi 0)])
  (.seq (.seq (r0 [oF 1 5 1, oL 6 5, oC .neq 7 6 1, oM 8 7, gT 8 (oF 1 9 1), gT 8 (oL 10 9), gT 8 (oC .neq 11 10 2), oP 12 8 11, oM 13 12, gT 13 (oF 1 14 1), gT 13 (oL 15 14), gT 13 (oC .neq 16 15 3), oP 17 13 16])
  (.cond (.t 17) (.seq (r0 [oV 2 (vi 10)])
  .ret) .skip))
  (.seq (.seq (r0 [oR 20 18 1, oJ 19 205 [(.t 18)], oU 20 19])
  (.cond (.t 20) (.seq (r0 [oV 2 (vi 6)])
  .ret) .skip))
  (.seq (.seq (r0 [oF 19 21 1, oL 22 21, oN 23 22, oC .gtr 24 23 4])
  (.cond (.t 24) (.seq (r0 [oV 2 (vi 11)])
  .ret) .skip))
  (.seq (.seq (r0 [oF 19 25 1, oL 26 25, oN 27 26, oV 28 (vi 0)])
  (.block 0 (.loop c_body_Validateb0)))
  (.seq (.seq (r0 [oR 20 36 1, oJ 37 207 [(.t 36)], oU 38 37])
  (.cond (.t 38) (.seq (r0 [oV 2 (vi 14)])
  .ret) .skip))
  (.seq (r0 [oV 2 (vi 0)])
  .ret)))))))
theorem is_body_Validate : compile Tryz.prog Tryz.f139.ntmps (Tryz.f139.body.getD .skip) = some c_body_Validate.strip := by kernel_rfl
abbrev F_joint_Validate : Nat := 140
def c_joint_Validate : ACode := (.seq (r0 [oE 1 0, oV 2 (vi 0)])
  (.seq (.block 0 (.seq (r0 [oF 1 4 1, oL 5 4, oC .lss 6 5 1, oM 7 6, gF 7 (oF 1 8 1), gF 7 (oL 9 8), gF 7 (oC .gtr 10 9 5), oQ 11 7 10, oM 3 11])
  (.cond (.t 3) (.seq (r0 [oV 2 (vi 10)])
  .ret) (.seq (r0 [oR 24 13 1, oJ 14 208 [(.t 13)], oU 15 14, oM 12 15])
  (.cond (.t 12) (.seq (r0 [oV 2 (vi 6)])
  .ret) (.seq (r0 [oR 24 17 1, oJ 18 209 [(.t 17)], oU 19 18, oM 16 19])
  (.cond (.t 16) (.seq (r0 [oV 2 (vi 14)])
  .ret) (.seq (r0 [oR 24 21 1, oJ 22 210 [(.t 21)], oM 20 22])
  (.cond (.t 20) (.seq (r0 [oV 2 (vi 15)])
  .ret) .skip)))))))))
  (.seq (r0 [oV 2 (vi 0)])
  .ret)))
theorem is_joint_Validate : compile Tryz.prog Tryz.f140.ntmps (Tryz.f140.body.getD .skip) = some c_joint_Validate.strip := by kernel_rfl
abbrev F_world_bodiesExist : Nat := 141
def c_world_bodiesExist : ACode := (.seq (r0 [oE 2 0, oE 3 1, oV 4 (vb false)])
  (.seq (r0 [oR 11 5 2, oF 3 6 3, oL 7 6, oJ 8 100 [(.t 5), (.t 7)], oC .geq 9 8 0, oM 10 9, gT 10 (oF 1 11 3), gT 10 (oL 12 11), gT 10 (oC .eql 13 12 5), gT 10 (oM 14 13), gF 14 (oR 11 15 2), gF 14 (oF 2 16 3), gF 14 (oL 17 16), gF 14 (oJ 18 100 [(.t 15), (.t 17)]), gF 14 (oC .geq 19 18 0), gT 10 (oQ 20 14 19), oP 21 10 20, oM 4 21])
  .ret))
theorem is_world_bodiesExist : compile Tryz.prog Tryz.f141.ntmps (Tryz.f141.body.getD .skip) = some c_world_bodiesExist.strip := by kernel_rfl
abbrev F_world_validManifold : Nat := 142
def c_world_validManifold : ACode := (.seq (r0 [oE 1 0, oV 2 (vb false)])
  (.seq (r0 [oF 2 4 1, oL 5 4, oN 6 5, oM 3 6])
  (.seq (.seq (r1 [oM 7 3, oC .lss 8 7 1, oM 9 8, gF 9 (oM 10 3), gF 9 (oC .gtr 11 10 2), oQ 12 9 11, oM 13 12, gF 13 (oM 14 3), gF 13 (oC .eql 15 14 2), gF 13 (oM 16 15), gT 16 (oF 2 17 1), gT 16 (oL 18 17), ⟨(some 19), .iaddr 6 (.t 18) (ki 0), (some (16, true)), []⟩, gT 16 (oF 3 20 19), gT 16 (oL 21 20), gT 16 (oF 2 22 1), gT 16 (oL 23 22), ⟨(some 24), .iaddr 6 (.t 23) (ki 1), (some (16, true)), []⟩, gT 16 (oF 3 25 24), gT 16 (oL 26 25), gT 16 (oB .eql 27 21 26), gF 13 (oP 28 16 27), oQ 29 13 28, oM 30 29, gF 30 (oF 0 31 1), gF 30 (oF 0 32 31), gF 30 (oL 33 32), gF 30 (oF 0 34 1), gF 30 (oF 1 35 34), gF 30 (oL 36 35), gF 30 (oY 1 37 2 zD1_6 [(0, 1, (.t 33)), (1, 1, (.t 36))]), gF 30 (oJ 38 211 [(.t 37)]), gF 30 (oU 39 38), oQ 40 30 39])
  (.cond (.t 40) (.seq (r0 [oV 2 (vb false)])
  .ret) .skip))
  (.seq (r0 [oF 2 41 1, oL 42 41, oJ 43 212 [(.t 42), (.k (.fn (.func 213) [] []))], oU 44 43, oM 2 44])
  .ret))))
theorem is_world_validManifold : compile Tryz.prog Tryz.f142.ntmps (Tryz.f142.body.getD .skip) = some c_world_validManifold.strip := by kernel_rfl
abbrev F_broadphase_ValidKeys : Nat := 143
def c_broadphase_ValidKeysb0 : ACode := (.seq (r0 [oB .lss 10 9 8])
  (.seq (.cond (.t 10) .skip (.exit 0))
  (.seq (.block 1 (.seq (r0 [oM 11 9, oI 4 12 7 9, oR 4 13 12, oA 5 zD1_3, oM 4 11, oS 4 5 13])
  (.seq (.seq (r0 [oR 4 14 5, oJ 15 214 [(.t 14)], oU 16 15, oM 17 16, gF 17 (oM 18 4), gF 17 (oC .gtr 19 18 0), gF 17 (oM 20 19), gT 20 (oR 4 21 5), gT 20 (oR 4 22 3), ⟨(some 23), .eqa [true, true, true, true] false (.t 21) (.t 22), (some (20, true)), []⟩, gT 20 (oM 24 23), gF 24 (oR 4 25 3), gF 24 (oR 4 26 5), gF 24 (oJ 27 215 [(.t 25), (.t 26)]), gF 24 (oU 28 27), gT 20 (oQ 29 24 28), gF 17 (oP 30 20 29), oQ 31 17 30])
  (.cond (.t 31) (.seq (r0 [oV 2 (vb false)])
  .ret) .skip))
  (r0 [oR 4 32 5, oS 4 3 32]))))
  (r0 [oC .add 33 9 1, oM 9 33]))))
def c_broadphase_ValidKeys : ACode := (.seq (r0 [oV 2 (vb false)])
  (.seq (r0 [oW 6 zD1_3 [], oA 3 zD1_3, oS 4 3 6])
  (.seq (.seq (r0 [oM 7 0, oN 8 7, oV 9 (vi 0)])
  (.block 0 (.loop c_broadphase_ValidKeysb0)))
  (.seq (r0 [oV 2 (vb true)])
  .ret))))
theorem is_broadphase_ValidKeys : compile Tryz.prog Tryz.f143.ntmps (Tryz.f143.body.getD .skip) = some c_broadphase_ValidKeys.strip := by kernel_rfl
abbrev F_slices_ContainsFunc_PairKey : Nat := 144
def c_slices_ContainsFunc_PairKey : ACode := (.seq (r0 [oV 4 (vb false)])
  (.seq (r0 [oM 5 0, oM 6 1, oJ 7 216 [(.t 5), (.t 6)], oC .geq 8 7 0, oM 4 8])
  .ret))
theorem is_slices_ContainsFunc_PairKey : compile Tryz.prog Tryz.f144.ntmps (Tryz.f144.body.getD .skip) = some c_slices_ContainsFunc_PairKey.strip := by kernel_rfl
abbrev F_slices_Concat_PairKey : Nat := 145
def c_slices_Concat_PairKeyb0 : ACode := (.seq (r0 [oB .lss 12 11 10])
  (.seq (.cond (.t 12) .skip (.exit 0))
  (.seq (.block 1 (.seq (r0 [oI 1 13 9 11, oL 14 13, oM 5 14])
  (.seq (r0 [oM 15 3, oM 16 5, oN 17 16, oB .add 18 15 17, oM 3 18])
  (.seq (r0 [oM 19 3, oC .lss 20 19 0])
  (.cond (.t 20) (r0 [⟨(some 21), .bad, none, []⟩, ⟨none, .bad, none, []⟩]) .skip)))))
  (r0 [oC .add 22 11 1, oM 11 22]))))
def c_slices_Concat_PairKeyb1 : ACode := (.seq (r0 [oB .lss 28 27 26])
  (.seq (.cond (.t 28) .skip (.exit 2))
  (.seq (.block 3 (.seq (r0 [oI 1 29 25 27, oL 30 29, oM 8 30])
  (r0 [oM 31 6, oM 32 8, oZ 4 32 33 31 32, oM 6 33])))
  (r0 [oC .add 34 27 1, oM 27 34]))))
def c_slices_Concat_PairKey : ACode := (.seq (r0 [oV 2 vn])
  (.seq (r0 [oV 3 (vi 0)])
  (.seq (.seq (r0 [oM 9 0, oN 10 9, oV 11 (vi 0)])
  (.block 0 (.loop c_slices_Concat_PairKeyb0)))
  (.seq (r0 [oM 23 3, oJ 24 217 [(.k vn), (.t 23)], oM 6 24])
  (.seq (.seq (r0 [oM 25 0, oN 26 25, oV 27 (vi 0)])
  (.block 2 (.loop c_slices_Concat_PairKeyb1)))
  (.seq (r0 [oM 35 6, oM 2 35])
  .ret))))))
theorem is_slices_Concat_PairKey : compile Tryz.prog Tryz.f145.ntmps (Tryz.f145.body.getD .skip) = some c_slices_Concat_PairKey.strip := by kernel_rfl
abbrev F_world_validContacts_f1 : Nat := 146
def c_world_validContacts_f1 : ACode := (.seq (r0 [oE 2 0, oV 3 (vb false)])
  (.seq (r0 [oR 11 4 1, oR 4 5 2, oJ 6 147 [(.t 4), (.t 5)], oU 7 6, oM 3 7])
  .ret))
theorem is_world_validContacts_f1 : compile Tryz.prog Tryz.f146.ntmps (Tryz.f146.body.getD .skip) = some c_world_validContacts_f1.strip := by kernel_rfl
abbrev F_world_fixturesExist : Nat := 147
def c_world_fixturesExist : ACode := (.seq (r0 [oE 2 0, oE 3 1, oV 4 (vb false)])
  (.seq (r1 [oR 11 7 2, oF 0 8 3, oL 9 8, oJ 10 100 [(.t 7), (.t 9)], ⟨(some 11), .load (some 11) (.t 2), none, [3]⟩, oF 2 12 3, ⟨(some 13), .load none (.t 12), none, [3]⟩, oJ 14 100 [(.t 11), (.t 13)], oM 5 10, oM 6 14])
  (.seq (r1 [oM 15 5, oC .geq 16 15 0, oM 17 16, gT 17 (oM 18 6), gT 17 (oC .geq 19 18 0), oP 20 17 19, oM 21 20, gT 21 (oF 1 22 3), gT 21 (oL 23 22), gT 21 (oF 5 24 2), gT 21 (oL 25 24), gT 21 (oM 26 5), gT 21 (oI 20 27 25 26), gT 21 (oF 19 28 27), gT 21 (oL 29 28), gT 21 (oN 30 29), gT 21 (oB .lss 31 23 30), oP 32 21 31, oM 33 32, gT 33 (oF 3 34 3), gT 33 (oL 35 34), gT 33 (oF 5 36 2), gT 33 (oL 37 36), gT 33 (oM 38 6), gT 33 (oI 20 39 37 38), gT 33 (oF 19 40 39), gT 33 (oL 41 40), gT 33 (oN 42 41), gT 33 (oB .lss 43 35 42), oP 44 33 43, oM 4 44])
  .ret)))
theorem is_world_fixturesExist : compile Tryz.prog Tryz.f147.ntmps (Tryz.f147.body.getD .skip) = some c_world_fixturesExist.strip := by kernel_rfl
abbrev F_island_partition_union : Nat := 176
def c_island_partition_union : ACode := (.seq (r0 [oE 5 1])
  (.seq (r0 [oR 11 13 5, oM 14 2, oJ 15 177 [(.t 13), (.t 14)], oM 12 15, oX 16 12 0, oX 17 12 1, oM 8 16, oM 9 17])
  (.seq (r0 [oR 11 19 5, oM 20 3, oJ 21 177 [(.t 19), (.t 20)], oM 18 21, oX 22 18 0, oX 23 18 1, oM 10 22, oM 11 23])
  (.seq (r0 [oM 24 9, oM 25 24, gT 25 (oM 26 11), oP 27 25 26])
  (.cond (.t 27) (.seq (r0 [oM 28 0, oM 29 8, oJ 30 89 [(.t 28), (.t 29)], oM 31 0, oM 32 10, oJ 33 89 [(.t 31), (.t 32)], oM 8 30, oM 10 33])
  (r0 [oM 34 0, oM 35 8, oM 36 10, ⟨(some 37), .minmax true (.t 35) (.t 36), none, []⟩, oM 38 8, oM 39 10, ⟨(some 40), .minmax false (.t 38) (.t 39), none, []⟩, oI 1 41 34 37, oS 1 41 40])) .skip)))))
theorem is_island_partition_union : compile Tryz.prog Tryz.f176.ntmps (Tryz.f176.body.getD .skip) = some c_island_partition_union.strip := by kernel_rfl
abbrev F_island_dynamic : Nat := 177
def c_island_dynamic : ACode := (.seq (r0 [oE 2 0, oV 4 (vi 0), oV 5 (vb false)])
  (.seq (r0 [oR 11 7 2, oM 8 1, oJ 9 100 [(.t 7), (.t 8)], oM 6 9])
  (.seq (r1 [oM 10 6, oM 11 6, oC .geq 12 11 0, oM 13 12, gT 13 (oF 5 14 2), gT 13 (oL 15 14), gT 13 (oM 16 6), gT 13 (oI 20 17 15 16), gT 13 (oF 1 18 17), gT 13 (oL 19 18), gT 13 (oC .eql 20 19 3), oP 21 13 20, oM 4 10, oM 5 21])
  .ret)))
theorem is_island_dynamic : compile Tryz.prog Tryz.f177.ntmps (Tryz.f177.body.getD .skip) = some c_island_dynamic.strip := by kernel_rfl
abbrev F_slices_Index_int : Nat := 179
def c_slices_Index_intb0 : ACode := (.seq (r0 [oB .lss 9 8 7])
  (.seq (.cond (.t 9) .skip (.exit 0))
  (.seq (.block 1 (.seq (r0 [oM 10 8, oM 5 10])
  (.seq (r0 [oM 11 1, oM 12 0, oM 13 5, oI 1 14 12 13, oL 15 14, oB .eql 16 11 15])
  (.cond (.t 16) (.seq (r0 [oM 17 5, oM 4 17])
  .ret) .skip))))
  (r0 [oC .add 18 8 1, oM 8 18]))))
def c_slices_Index_int : ACode := (.seq (r0 [oV 4 (vi 0)])
  (.seq (.seq (r0 [oM 6 0, oN 7 6, oV 8 (vi 0)])
  (.block 0 (.loop c_slices_Index_intb0)))
  (.seq (r0 [oV 4 (vi (-1))])
  .ret)))
theorem is_slices_Index_int : compile Tryz.prog Tryz.f179.ntmps (Tryz.f179.body.getD .skip) = some c_slices_Index_int.strip := by kernel_rfl
abbrev F_slices_IndexFunc_Body : Nat := 180
def c_slices_IndexFunc_Bodyb0 : ACode := (.seq (r0 [oB .lss 9 8 7])
  (.seq (.cond (.t 9) .skip (.exit 0))
  (.seq (.block 1 (.seq (r0 [oM 10 8, oM 5 10])
  (.seq (r0 [oM 11 1, oM 12 0, oM 13 5, oI 20 14 12 13, oR 20 15 14, ⟨(some 16), .callv (.t 11) [(.t 15)], none, []⟩])
  (.cond (.t 16) (.seq (r0 [oM 17 5, oM 4 17])
  .ret) .skip))))
  (r0 [oC .add 18 8 1, oM 8 18]))))
def c_slices_IndexFunc_Body : ACode := (.seq (r0 [oV 4 (vi 0)])
  (.seq (.seq (r0 [oM 6 0, oN 7 6, oV 8 (vi 0)])
  (.block 0 (.loop c_slices_IndexFunc_Bodyb0)))
  (.seq (r0 [oV 4 (vi (-1))])
  .ret)))
theorem is_slices_IndexFunc_Body : compile Tryz.prog Tryz.f180.ntmps (Tryz.f180.body.getD .skip) = some c_slices_IndexFunc_Body.strip := by kernel_rfl
abbrev F_world_FindBody_f1 : Nat := 181
def c_world_FindBody_f1 : ACode := (.seq (r0 [oE 2 0, oV 3 (vb false)])
  (.seq (r0 [oF 0 4 2, oL 5 4, oL 6 1, oB .eql 7 5 6, oM 3 7])
  .ret))
theorem is_world_FindBody_f1 : compile Tryz.prog Tryz.f181.ntmps (Tryz.f181.body.getD .skip) = some c_world_FindBody_f1.strip := by kernel_rfl
abbrev F_world_Clone : Nat := 185
def c_world_Cloneb0 : ACode := (.seq (r0 [oB .lss 27 26 25])
  (.seq (.cond (.t 27) .skip (.exit 0))
  (.seq (.block 1 (.seq (r0 [oM 28 26, oI 20 29 24 26, oR 20 30 29, oA 4 zD1_2, oM 3 28, oS 20 4 30])
  (r1 [oF 5 31 1, oL 32 31, oM 33 3, oR 20 34 4, ⟨(some 35), .call 254 [(.t 34)], none, [1]⟩, oI 20 36 32 33, oS 20 36 35])))
  (r0 [oC .add 37 26 1, oM 26 37]))))
def c_world_Cloneb1 : ACode := (.seq (r0 [oB .lss 42 41 40])
  (.seq (.cond (.t 42) .skip (.exit 2))
  (.seq (.block 3 (.seq (r0 [oM 43 41, oI 7 44 39 41, oR 7 45 44, oA 6 zD1_4, oM 5 43, oS 7 6 45])
  (r1 [oF 7 46 1, oL 47 46, oM 48 5, oF 4 49 6, oR 3 50 49, ⟨(some 51), .call 255 [(.t 50)], none, [1]⟩, oI 7 52 47 48, oF 4 53 52, oS 3 53 51])))
  (r0 [oC .add 54 41 1, oM 41 54]))))
def c_world_Clone : ACode := (.seq (r0 [oE 1 0, oA 2 zD1_0])
  (.seq (r1 [oF 5 7 1, oL 8 7, oJ 9 250 [(.t 8)], oF 6 10 1, ⟨(some 11), .load none (.t 10), none, [2]⟩, oJ 12 251 [(.t 11)], oF 7 13 1, ⟨(some 14), .load none (.t 13), none, [2, 5]⟩, oJ 15 252 [(.t 14)], oF 8 16 1, ⟨(some 17), .load none (.t 16), none, [2, 5, 8]⟩, oJ 18 253 [(.t 17)], oF 5 19 1, oS 1 19 9, oF 6 20 1, oS 1 20 12, oF 7 21 1, oS 1 21 15, oF 8 22 1, oS 1 22 18])
  (.seq (.seq (r0 [oF 5 23 1, oL 24 23, oN 25 24, oV 26 (vi 0)])
  (.block 0 (.loop c_world_Cloneb0)))
  (.seq (.seq (r0 [oF 7 38 1, oL 39 38, oN 40 39, oV 41 (vi 0)])
  (.block 2 (.loop c_world_Cloneb1)))
  (.seq (r0 [oR 11 55 1, oS 11 2 55])
  .ret)))))
theorem is_world_Clone : compile Tryz.prog Tryz.f185.ntmps (Tryz.f185.body.getD .skip) = some c_world_Clone.strip := by kernel_rfl
abbrev F_sleep_group_active : Nat := 186
def c_sleep_group_active : ACode := (.seq (r0 [oE 3 1, oV 4 (vb false)])
  (.seq (r0 [oF 17 5 3, oL 6 5, oU 7 6, oM 4 7])
  .ret))
theorem is_sleep_group_active : compile Tryz.prog Tryz.f186.ntmps (Tryz.f186.body.getD .skip) = some c_sleep_group_active.strip := by kernel_rfl
abbrev F_sleep_IsSlow : Nat := 187
def c_sleep_IsSlow : ACode := (.seq (r0 [oE 1 0, oV 2 (vb false)])
  (.seq (r0 [oF 16 3 1, oL 4 3, oU 5 4, oM 6 5, gT 6 (oF 5 7 1), gT 6 (oR 2 8 7), gT 6 (oJ 9 256 [(.t 8)]), gT 6 (oC .leq 10 9 4096), oP 11 6 10, oM 12 11, gT 12 (oF 7 13 1), gT 12 (oL 14 13), gT 12 (oC .geq 15 14 (-4096)), oP 16 12 15, oM 17 16, gT 17 (oF 7 18 1), gT 17 (oL 19 18), gT 17 (oC .leq 20 19 4096), oP 21 17 20, oM 2 21])
  .ret))
theorem is_sleep_IsSlow : compile Tryz.prog Tryz.f187.ntmps (Tryz.f187.body.getD .skip) = some c_sleep_IsSlow.strip := by kernel_rfl
abbrev F_slices_ContainsFunc_int : Nat := 188
def c_slices_ContainsFunc_int : ACode := (.seq (r0 [oV 4 (vb false)])
  (.seq (r0 [oM 5 0, oM 6 1, oJ 7 257 [(.t 5), (.t 6)], oC .geq 8 7 0, oM 4 8])
  .ret))
theorem is_slices_ContainsFunc_int : compile Tryz.prog Tryz.f188.ntmps (Tryz.f188.body.getD .skip) = some c_slices_ContainsFunc_int.strip := by kernel_rfl
abbrev F_sleep_group_any_f1 : Nat := 189
def c_sleep_group_any_f1 : ACode := (.seq (r0 [oV 4 (vb false)])
  (.seq (r1 [oL 5 1, oL 6 2, ⟨(some 7), .nilck (.t 6), none, []⟩, oF 0 8 7, oF 5 9 8, oL 10 9, oM 11 0, oI 20 12 10 11, oR 20 13 12, ⟨(some 14), .callv (.t 5) [(.t 13)], none, []⟩, oM 4 14])
  .ret))
theorem is_sleep_group_any_f1 : compile Tryz.prog Tryz.f189.ntmps (Tryz.f189.body.getD .skip) = some c_sleep_group_any_f1.strip := by kernel_rfl
abbrev F_sleep_group_driven_f1 : Nat := 190
def c_sleep_group_driven_f1 : ACode := (.seq (r0 [oV 3 (vb false)])
  (.seq (r1 [oL 4 1, oL 5 1, ⟨(some 6), .nilck (.t 5), none, []⟩, oF 0 7 6, oF 5 8 7, oL 9 8, oM 10 0, oI 20 11 9 10, oR 20 12 11, oJ 13 191 [(.t 4), (.t 12)], oM 3 13])
  .ret))
theorem is_sleep_group_driven_f1 : compile Tryz.prog Tryz.f190.ntmps (Tryz.f190.body.getD .skip) = some c_sleep_group_driven_f1.strip := by kernel_rfl
abbrev F_sleep_group_driver : Nat := 191
def c_sleep_group_driver : ACode := (.seq (r0 [oE 3 1, oV 4 (vb false)])
  (.seq (r0 [oF 1 5 3, oL 6 5, oC .eql 7 6 2, oM 8 7, gT 8 (oF 5 9 3), gT 8 (oR 2 10 9), gT 8 (oW 11 zD1_6 []), ⟨(some 12), .eqa [true, true] true (.t 10) (.t 11), (some (8, true)), []⟩, gT 8 (oM 13 12), gF 13 (oF 7 14 3), gF 13 (oL 15 14), gF 13 (oC .neq 16 15 0), gT 8 (oQ 17 13 16), oP 18 8 17, oM 4 18])
  .ret))
theorem is_sleep_group_driver : compile Tryz.prog Tryz.f191.ntmps (Tryz.f191.body.getD .skip) = some c_sleep_group_driver.strip := by kernel_rfl
abbrev F_sleep_group_driven_f2 : Nat := 192
def c_sleep_group_driven_f2 : ACode := (.seq (r0 [oV 3 (vb false)])
  (.seq (r0 [oM 4 0, oC .geq 5 4 0, oM 6 5, gT 6 (oM 7 0), gT 6 (oL 8 1), ⟨(some 9), .nilck (.t 8), (some (6, true)), []⟩, gT 6 (oF 0 10 9), gT 6 (oF 6 11 10), gT 6 (oL 12 11), gT 6 (oN 13 12), gT 6 (oB .lss 14 7 13), oP 15 6 14, oM 16 15, gT 16 (oL 17 1), ⟨(some 18), .nilck (.t 17), (some (16, true)), []⟩, gT 16 (oF 0 19 18), gT 16 (oF 6 20 19), gT 16 (oL 21 20), gT 16 (oM 22 0), gT 16 (oI 24 23 21 22), gT 16 (oF 14 24 23), gT 16 (oL 25 24), oP 26 16 25, oM 3 26])
  .ret))
theorem is_sleep_group_driven_f2 : compile Tryz.prog Tryz.f192.ntmps (Tryz.f192.body.getD .skip) = some c_sleep_group_driven_f2.strip := by kernel_rfl
abbrev F_body_inRange : Nat := 205
def c_body_inRange : ACode := (.seq (r0 [oE 1 0, oV 2 (vb false)])
  (.seq (r0 [oF 5 7 1, oR 2 8 7, oJ 9 259 [(.t 8), (ki 16777216)], oM 10 9, gT 10 (oF 7 11 1), gT 10 (oL 12 11), gT 10 (oJ 13 260 [(.t 12), (ki (-4194304)), (ki 4194304)]), oP 14 10 13, oM 3 14])
  (.seq (r0 [oF 8 15 1, oR 2 16 15, oJ 17 259 [(.t 16), (ki 536870911)], oM 18 17, gT 18 (oF 10 19 1), gT 18 (oL 20 19), gT 18 (oJ 21 260 [(.t 20), (ki (-536870911)), (ki 536870911)]), oP 22 18 21, oM 4 22])
  (.seq (r0 [oF 11 23 1, oL 24 23, oJ 25 260 [(.t 24), (ki 0), (ki 65536)], oM 26 25, gT 26 (oF 12 27 1), gT 26 (oL 28 27), gT 26 (oJ 29 260 [(.t 28), (ki 0), (ki 65536)]), oP 30 26 29, oM 5 30])
  (.seq (r0 [oF 13 31 1, oL 32 31, oJ 33 260 [(.t 32), (ki (-262144)), (ki 262144)], oM 6 33])
  (.seq (r0 [oF 0 34 1, oL 35 34, oJ 36 260 [(.t 35), (ki 1), (ki 1099511627776)], oM 37 36, gT 37 (oF 2 38 1), gT 37 (oR 3 39 38), gT 37 (oJ 40 261 [(.t 39)]), oP 41 37 40, oM 42 41, gT 42 (oM 43 3), oP 44 42 43, oM 45 44, gT 45 (oM 46 4), oP 47 45 46, oM 48 47, gT 48 (oM 49 5), oP 50 48 49, oM 51 50, gT 51 (oM 52 6), oP 53 51 52, oM 54 53, gT 54 (oF 18 55 1), gT 54 (oL 56 55), gT 54 (oJ 57 260 [(.t 56), (ki 0), (ki 1048576)]), oP 58 54 57, oM 2 58])
  .ret))))))
theorem is_body_inRange : compile Tryz.prog Tryz.f205.ntmps (Tryz.f205.body.getD .skip) = some c_body_inRange.strip := by kernel_rfl
abbrev F_body_ValidateFixture : Nat := 206
def c_body_ValidateFixture : ACode := (.seq (r0 [oE 1 0, oV 2 (vi 0)])
  (.seq (.seq (r0 [oF 0 6 1, oR 3 7 6, oJ 8 262 [(.t 7)], oM 3 8])
  (.seq (r0 [oM 9 3, oC .neq 10 9 0])
  (.cond (.t 10) (.seq (r0 [oM 11 3, oM 2 11])
  .ret) .skip)))
  (.seq (r0 [oF 3 12 1, oL 13 12, oJ 14 260 [(.t 13), (ki 0), (ki 262144)], oM 15 14, gT 15 (oF 4 16 1), gT 15 (oL 17 16), gT 15 (oJ 18 260 [(.t 17), (ki 0), (ki 131072)]), oP 19 15 18, oM 20 19, gT 20 (oF 5 21 1), gT 20 (oL 22 21), gT 20 (oJ 23 260 [(.t 22), (ki 0), (ki 65536)]), oP 24 20 23, oM 4 24])
  (.seq (r0 [oF 7 25 1, oL 26 25, oJ 27 260 [(.t 26), (ki 0), (ki 65535)], oM 28 27, gT 28 (oF 8 29 1), gT 28 (oL 30 29), gT 28 (oJ 31 260 [(.t 30), (ki 0), (ki 65535)]), oP 32 28 31, oM 33 32, gT 33 (oF 9 34 1), gT 33 (oL 35 34), gT 33 (oJ 36 260 [(.t 35), (ki (-32)), (ki 32)]), oP 37 33 36, oM 5 37])
  (.seq (.seq (r0 [oM 38 4, oU 39 38, oM 40 39, gF 40 (oM 41 5), gF 40 (oU 42 41), oQ 43 40 42])
  (.cond (.t 43) (.seq (r0 [oV 2 (vi 6)])
  .ret) .skip))
  (.seq (r0 [oV 2 (vi 0)])
  .ret))))))
theorem is_body_ValidateFixture : compile Tryz.prog Tryz.f206.ntmps (Tryz.f206.body.getD .skip) = some c_body_ValidateFixture.strip := by kernel_rfl
abbrev F_body_consistent : Nat := 207
def c_body_consistent : ACode := (.seq (r0 [oE 1 0, oV 2 (vb false)])
  (.seq (r0 [oF 8 4 1, oR 2 5 4, oW 6 zD1_6 [], ⟨(some 7), .eqa [true, true] true (.t 5) (.t 6), none, []⟩, oM 8 7, gF 8 (oF 10 9 1), gF 8 (oL 10 9), gF 8 (oC .neq 11 10 0), oQ 12 8 11, oM 3 12])
  (.seq (.block 0 (.seq (r0 [oF 1 14 1, oL 15 14, oC .eql 16 15 1, oM 17 16, gT 17 (oR 20 18 1), gT 17 (oJ 19 263 [(.t 18)]), gT 17 (oM 20 19), gF 20 (oM 21 3), gT 17 (oQ 22 20 21), oP 23 17 22, oM 13 23])
  (.cond (.t 13) (.seq (r0 [oV 2 (vb false)])
  .ret) (.seq (r0 [oF 1 25 1, oL 26 25, oC .neq 27 26 3, oM 28 27, gT 28 (oF 17 29 1), gT 28 (oL 30 29), gT 28 (oM 31 30), gF 31 (oF 14 32 1), gF 31 (oL 33 32), gT 28 (oQ 34 31 33), oP 35 28 34, oM 24 35])
  (.cond (.t 24) (.seq (r0 [oV 2 (vb false)])
  .ret) .skip)))))
  (.seq (r0 [oF 17 36 1, oL 37 36, oU 38 37, oM 39 38, gF 39 (oR 20 40 1), gF 39 (oJ 41 263 [(.t 40)]), gF 39 (oU 42 41), oQ 43 39 42, oM 2 43])
  .ret))))
theorem is_body_consistent : compile Tryz.prog Tryz.f207.ntmps (Tryz.f207.body.getD .skip) = some c_body_consistent.strip := by kernel_rfl
abbrev F_joint_numbersInRange : Nat := 208
def c_joint_numbersInRangeb0 : ACode := (.seq (r0 [oC .lss 20 19 4])
  (.seq (.cond (.t 20) .skip (.exit 0))
  (.seq (.block 1 (.seq (r0 [⟨(some 21), .aidx 4 (.t 18) (.t 19), none, []⟩, oM 7 21])
  (.seq (r0 [oM 22 7, oJ 23 265 [(.t 22), (ki (-536870911)), (ki 536870911)], oU 24 23])
  (.cond (.t 24) (.seq (r0 [oV 2 (vb false)])
  .ret) .skip))))
  (r0 [oC .add 25 19 1, oM 19 25]))))
def c_joint_numbersInRange : ACode := (.seq (r0 [oE 1 0, oV 2 (vb false)])
  (.seq (r0 [oV 3 (vi 1048576)])
  (.seq (.seq (r0 [oF 1 8 1, oL 9 8, oC .eql 10 9 5])
  (.cond (.t 10) (r0 [oV 3 (vi 268435456)]) .skip))
  (.seq (r0 [oF 1 12 1, oL 13 12, oJ 14 264 [(.t 13)], oM 11 14, oX 15 11 0, oX 16 11 1, oM 4 15, oM 5 16])
  (.seq (.seq (r0 [oF 20 17 1, oR 4 18 17, oV 19 (vi 0)])
  (.block 0 (.loop c_joint_numbersInRangeb0)))
  (.seq (r0 [oF 0 26 1, oL 27 26, oJ 28 265 [(.t 27), (ki 1), (ki 1099511627776)], oM 29 28, gT 29 (oF 4 30 1), gT 29 (oR 2 31 30), gT 29 (oM 32 3), gT 29 (oJ 33 266 [(.t 31), (.t 32)]), oP 34 29 33, oM 35 34, gT 35 (oF 6 36 1), gT 35 (oR 2 37 36), gT 35 (oJ 38 266 [(.t 37), (ki 1048576)]), oP 39 35 38, oM 40 39, gT 40 (oF 10 41 1), gT 40 (oL 42 41), gT 40 (oJ 43 265 [(.t 42), (ki (-205888)), (ki 205887)]), oP 44 40 43, oM 45 44, gT 45 (oF 12 46 1), gT 45 (oL 47 46), gT 45 (oM 48 4), gT 45 (oM 49 5), gT 45 (oJ 50 265 [(.t 47), (.t 48), (.t 49)]), oP 51 45 50, oM 52 51, gT 52 (oF 13 53 1), gT 52 (oL 54 53), gT 52 (oM 55 4), gT 52 (oM 56 5), gT 52 (oJ 57 265 [(.t 54), (.t 55), (.t 56)]), oP 58 52 57, oM 59 58, gT 59 (oF 12 60 1), gT 59 (oL 61 60), gT 59 (oF 13 62 1), gT 59 (oL 63 62), gT 59 (oB .leq 64 61 63), oP 65 59 64, oM 66 65, gT 66 (oF 15 67 1), gT 66 (oL 68 67), gT 66 (oJ 69 265 [(.t 68), (ki (-16777216)), (ki 16777216)]), oP 70 66 69, oM 71 70, gT 71 (oF 16 72 1), gT 71 (oL 73 72), gT 71 (oJ 74 265 [(.t 73), (ki 0), (ki 536870911)]), oP 75 71 74, oM 76 75, gT 76 (oF 17 77 1), gT 76 (oL 78 77), gT 76 (oJ 79 265 [(.t 78), (ki 0), (ki 536870911)]), oP 80 76 79, oM 81 80, gT 81 (oF 18 82 1), gT 81 (oL 83 82), gT 81 (oJ 84 265 [(.t 83), (ki 0), (ki 536870911)]), oP 85 81 84, oM 2 85])
  .ret))))))
theorem is_joint_numbersInRange : compile Tryz.prog Tryz.f208.ntmps (Tryz.f208.body.getD .skip) = some c_joint_numbersInRange.strip := by kernel_rfl
abbrev F_joint_validBodies : Nat := 209
def c_joint_validBodies : ACode := (.seq (r0 [oE 1 0, oV 2 (vb false)])
  (.seq (.seq (r0 [oF 1 3 1, oL 4 3, oC .eql 5 4 5])
  (.cond (.t 5) (.seq (r0 [oF 2 6 1, oL 7 6, oC .eql 8 7 0, oM 9 8, gT 9 (oF 3 10 1), gT 9 (oL 11 10), gT 9 (oJ 12 265 [(.t 11), (ki 1), (ki 1099511627776)]), oP 13 9 12, oM 2 13])
  .ret) .skip))
  (.seq (r0 [oF 2 14 1, oL 15 14, oJ 16 265 [(.t 15), (ki 1), (ki 1099511627776)], oM 17 16, gT 17 (oF 3 18 1), gT 17 (oL 19 18), gT 17 (oJ 20 265 [(.t 19), (ki 1), (ki 1099511627776)]), oP 21 17 20, oM 22 21, gT 22 (oF 2 23 1), gT 22 (oL 24 23), gT 22 (oF 3 25 1), gT 22 (oL 26 25), gT 22 (oB .neq 27 24 26), oP 28 22 27, oM 2 28])
  .ret)))
theorem is_joint_validBodies : compile Tryz.prog Tryz.f209.ntmps (Tryz.f209.body.getD .skip) = some c_joint_validBodies.strip := by kernel_rfl
abbrev F_joint_inconsistent : Nat := 210
def c_joint_inconsistent : ACode := (.seq (r0 [oE 1 0, oV 2 (vb false)])
  (.seq (r0 [oF 8 4 1, oR 2 5 4, oW 6 zD1_6 [], ⟨(some 7), .eqa [true, true] false (.t 5) (.t 6), none, []⟩, oM 3 7])
  (.seq (.seq (r0 [oF 1 8 1, oL 9 8])
  (.block 0 (.seq (.block 4 (.block 3 (.seq (.block 2 (.seq (.block 1 (.seq (.seq (.seq (r0 [oC .eql 11 9 3, oM 10 11])
  (.cond (.t 10) (.exit 1) .skip))
  (.seq (.seq (r0 [oC .eql 13 9 1, oM 12 13])
  (.cond (.t 12) (.exit 2) .skip))
  (.seq (.seq (r0 [oC .eql 15 9 4, oM 14 15])
  (.cond (.t 14) (.exit 3) .skip))
  (.seq (r0 [oC .eql 17 9 5, oM 16 17])
  (.cond (.t 16) (.exit 4) .skip)))))
  (.exit 0)))
  (.seq (.seq (r0 [oF 8 18 1, oR 2 19 18, oJ 20 256 [(.t 19)], oJ 21 265 [(.t 20), (ki 65520), (ki 65552)], oU 22 21, oM 2 22])
  .ret)
  (.exit 0))))
  (.seq (.seq (r0 [oM 23 3, oU 24 23, oM 25 24, gF 25 (oF 14 26 1), gF 25 (oL 27 26), oQ 28 25 27, oM 29 28, gF 29 (oF 11 30 1), gF 29 (oL 31 30), gF 29 (oU 32 31), oQ 33 29 32, oM 2 33])
  .ret)
  (.exit 0)))))
  (.seq (.seq (r0 [oM 34 3, oU 35 34, oM 36 35, gF 36 (oF 14 37 1), gF 36 (oL 38 37), oQ 39 36 38, oM 40 39, gF 40 (oF 11 41 1), gF 40 (oL 42 41), oQ 43 40 42, oM 2 43])
  .ret)
  (.exit 0)))))
  (.seq (r0 [oM 44 3, oU 45 44, oM 2 45])
  .ret))))
theorem is_joint_inconsistent : compile Tryz.prog Tryz.f210.ntmps (Tryz.f210.body.getD .skip) = some c_joint_inconsistent.strip := by kernel_rfl
abbrev F_world_saturated : Nat := 211
def c_world_saturated : ACode := (.seq (r0 [oV 2 (vb false)])
  (.seq (r0 [oM 3 0, oJ 4 188 [(.t 3), (.k (.fn (.func 267) [] []))], oU 5 4, oM 2 5])
  .ret))
theorem is_world_saturated : compile Tryz.prog Tryz.f211.ntmps (Tryz.f211.body.getD .skip) = some c_world_saturated.strip := by kernel_rfl
abbrev F_slices_ContainsFunc_ContactPoint : Nat := 212
def c_slices_ContainsFunc_ContactPoint : ACode := (.seq (r0 [oV 4 (vb false)])
  (.seq (r0 [oM 5 0, oM 6 1, oJ 7 268 [(.t 5), (.t 6)], oC .geq 8 7 0, oM 4 8])
  .ret))
theorem is_slices_ContainsFunc_ContactPoint : compile Tryz.prog Tryz.f212.ntmps (Tryz.f212.body.getD .skip) = some c_slices_ContainsFunc_ContactPoint.strip := by kernel_rfl
abbrev F_world_validManifold_f1 : Nat := 213
def c_world_validManifold_f1 : ACode := (.seq (r0 [oE 1 0, oV 2 (vb false)])
  (.seq (r0 [oF 4 3 1, oL 4 3, oC .lss 5 4 0, oM 6 5, gF 6 (oF 0 7 1), gF 6 (oF 0 8 7), gF 6 (oL 9 8), gF 6 (oF 0 10 1), gF 6 (oF 1 11 10), gF 6 (oL 12 11), gF 6 (oF 2 13 1), gF 6 (oL 14 13), gF 6 (oF 3 15 1), gF 6 (oL 16 15), gF 6 (oF 4 17 1), gF 6 (oL 18 17), gF 6 (oF 5 19 1), gF 6 (oL 20 19), gF 6 (oY 1 21 6 zD1_16 [(0, 1, (.t 9)), (1, 1, (.t 12)), (2, 1, (.t 14)), (3, 1, (.t 16)), (4, 1, (.t 18)), (5, 1, (.t 20))]), gF 6 (oJ 22 211 [(.t 21)]), gF 6 (oU 23 22), oQ 24 6 23, oM 2 24])
  .ret))
theorem is_world_validManifold_f1 : compile Tryz.prog Tryz.f213.ntmps (Tryz.f213.body.getD .skip) = some c_world_validManifold_f1.strip := by kernel_rfl
abbrev F_broadphase_valid : Nat := 214
def c_broadphase_valid : ACode := (.seq (r0 [oE 1 0, oV 2 (vb false)])
  (.seq (r0 [oF 0 3 1, oL 4 3, oF 2 5 1, oL 6 5, oB .lss 7 4 6, oM 8 7, gT 8 (oF 1 9 1), gT 8 (oL 10 9), gT 8 (oC .geq 11 10 0), oP 12 8 11, oM 13 12, gT 13 (oF 1 14 1), gT 13 (oL 15 14), gT 13 (oC .lss 16 15 4), oP 17 13 16, oM 18 17, gT 18 (oF 3 19 1), gT 18 (oL 20 19), gT 18 (oC .geq 21 20 0), oP 22 18 21, oM 23 22, gT 23 (oF 3 24 1), gT 23 (oL 25 24), gT 23 (oC .lss 26 25 4), oP 27 23 26, oM 2 27])
  .ret))
theorem is_broadphase_valid : compile Tryz.prog Tryz.f214.ntmps (Tryz.f214.body.getD .skip) = some c_broadphase_valid.strip := by kernel_rfl
abbrev F_broadphase_Less : Nat := 215
def c_broadphase_Less : ACode := (.seq (r0 [oE 2 0, oE 3 1, oV 4 (vb false)])
  (.seq (r0 [oR 4 5 2, oR 4 6 3, oJ 7 269 [(.t 5), (.t 6)], oC .lss 8 7 0, oM 4 8])
  .ret))
theorem is_broadphase_Less : compile Tryz.prog Tryz.f215.ntmps (Tryz.f215.body.getD .skip) = some c_broadphase_Less.strip := by kernel_rfl
abbrev F_slices_IndexFunc_PairKey : Nat := 216
def c_slices_IndexFunc_PairKeyb0 : ACode := (.seq (r0 [oB .lss 9 8 7])
  (.seq (.cond (.t 9) .skip (.exit 0))
  (.seq (.block 1 (.seq (r0 [oM 10 8, oM 5 10])
  (.seq (r0 [oM 11 1, oM 12 0, oM 13 5, oI 4 14 12 13, oR 4 15 14, ⟨(some 16), .callv (.t 11) [(.t 15)], none, []⟩])
  (.cond (.t 16) (.seq (r0 [oM 17 5, oM 4 17])
  .ret) .skip))))
  (r0 [oC .add 18 8 1, oM 8 18]))))
def c_slices_IndexFunc_PairKey : ACode := (.seq (r0 [oV 4 (vi 0)])
  (.seq (.seq (r0 [oM 6 0, oN 7 6, oV 8 (vi 0)])
  (.block 0 (.loop c_slices_IndexFunc_PairKeyb0)))
  (.seq (r0 [oV 4 (vi (-1))])
  .ret)))
theorem is_slices_IndexFunc_PairKey : compile Tryz.prog Tryz.f216.ntmps (Tryz.f216.body.getD .skip) = some c_slices_IndexFunc_PairKey.strip := by kernel_rfl
abbrev F_slices_Grow_PairKey : Nat := 217
def c_slices_Grow_PairKey : ACode := (.seq (r0 [oV 4 vn])
  (.seq (.seq (r0 [oM 5 1, oC .lss 6 5 0])
  (.cond (.t 6) (r0 [⟨(some 7), .bad, none, []⟩, ⟨none, .bad, none, []⟩]) .skip))
  (.seq (.seq (r0 [oM 8 1, oM 9 0, ⟨(some 10), .cap0 (.t 9), none, []⟩, oM 11 0, oN 12 11, oB .sub 13 10 12, oB .sub 14 8 13, oM 1 14])
  (.seq (r0 [oM 15 1, oC .gtr 16 15 0])
  (.cond (.t 16) (r0 [oM 17 0, oM 18 0, ⟨(some 19), .cap0 (.t 18), none, []⟩, ⟨(some 20), .slice 4 (.t 17) none (some (.t 19)) none, none, []⟩, oM 21 1, ⟨(some 22), .appz 4 32 zD1_3 (.t 20) (.t 21), none, []⟩, oM 23 0, oN 24 23, ⟨(some 25), .slice 4 (.t 22) none (some (.t 24)) none, none, []⟩, oM 0 25]) .skip)))
  (.seq (r0 [oM 26 0, oM 4 26])
  .ret))))
theorem is_slices_Grow_PairKey : compile Tryz.prog Tryz.f217.ntmps (Tryz.f217.body.getD .skip) = some c_slices_Grow_PairKey.strip := by kernel_rfl
abbrev F_slices_Clone_Body : Nat := 250
def c_slices_Clone_Body : ACode := (.seq (r0 [oV 2 vn])
  (.seq (.seq (r0 [oM 3 0, ⟨(some 4), .isnil 0 false (.t 3), none, []⟩])
  (.cond (.t 4) (.seq (r0 [oV 2 vn])
  .ret) .skip))
  (.seq (r0 [oY 20 5 0 [] [], oM 6 0, oZ 20 152 7 5 6, oM 2 7])
  .ret)))
theorem is_slices_Clone_Body : compile Tryz.prog Tryz.f250.ntmps (Tryz.f250.body.getD .skip) = some c_slices_Clone_Body.strip := by kernel_rfl
abbrev F_slices_Clone_Joint : Nat := 251
def c_slices_Clone_Joint : ACode := (.seq (r0 [oV 2 vn])
  (.seq (.seq (r0 [oM 3 0, ⟨(some 4), .isnil 0 false (.t 3), none, []⟩])
  (.cond (.t 4) (.seq (r0 [oV 2 vn])
  .ret) .skip))
  (.seq (r0 [oY 24 5 0 [] [], oM 6 0, oZ 24 192 7 5 6, oM 2 7])
  .ret)))
theorem is_slices_Clone_Joint : compile Tryz.prog Tryz.f251.ntmps (Tryz.f251.body.getD .skip) = some c_slices_Clone_Joint.strip := by kernel_rfl
abbrev F_slices_Clone_Contact : Nat := 252
def c_slices_Clone_Contact : ACode := (.seq (r0 [oV 2 vn])
  (.seq (.seq (r0 [oM 3 0, ⟨(some 4), .isnil 0 false (.t 3), none, []⟩])
  (.cond (.t 4) (.seq (r0 [oV 2 vn])
  .ret) .skip))
  (.seq (r0 [oY 7 5 0 [] [], oM 6 0, oZ 7 72 7 5 6, oM 2 7])
  .ret)))
theorem is_slices_Clone_Contact : compile Tryz.prog Tryz.f252.ntmps (Tryz.f252.body.getD .skip) = some c_slices_Clone_Contact.strip := by kernel_rfl
abbrev F_slices_Clone_PairKey : Nat := 253
def c_slices_Clone_PairKey : ACode := (.seq (r0 [oV 2 vn])
  (.seq (.seq (r0 [oM 3 0, ⟨(some 4), .isnil 0 false (.t 3), none, []⟩])
  (.cond (.t 4) (.seq (r0 [oV 2 vn])
  .ret) .skip))
  (.seq (r0 [oY 4 5 0 [] [], oM 6 0, oZ 4 32 7 5 6, oM 2 7])
  .ret)))
theorem is_slices_Clone_PairKey : compile Tryz.prog Tryz.f253.ntmps (Tryz.f253.body.getD .skip) = some c_slices_Clone_PairKey.strip := by kernel_rfl
abbrev F_body_Clone : Nat := 254
def c_body_Cloneb0 : ACode := (.seq (r0 [oB .lss 10 9 8])
  (.seq (.cond (.t 10) .skip (.exit 0))
  (.seq (.block 1 (.seq (r0 [oI 10 11 7 9, oR 10 12 11, oA 5 zD1_14, oS 10 5 12])
  (.seq (r0 [oF 0 13 5, oR 3 14 13, oJ 15 290 [(.t 14)], oF 0 16 5, oS 3 16 15])
  (r0 [oM 17 3, oR 10 18 5, oY 10 19 1 zD1_14 [(0, 10, (.t 18))], oZ 10 96 20 17 19, oM 3 20]))))
  (r0 [oC .add 21 9 1, oM 9 21]))))
def c_body_Clone : ACode := (.seq (r0 [oE 1 0, oA 2 zD1_2])
  (.seq (r0 [oV 3 vn])
  (.seq (.seq (r0 [oF 19 6 1, oL 7 6, oN 8 7, oV 9 (vi 0)])
  (.block 0 (.loop c_body_Cloneb0)))
  (.seq (r0 [oM 22 3, oF 19 23 1, oS 1 23 22])
  (.seq (r0 [oR 20 24 1, oS 20 2 24])
  .ret)))))
theorem is_body_Clone : compile Tryz.prog Tryz.f254.ntmps (Tryz.f254.body.getD .skip) = some c_body_Clone.strip := by kernel_rfl
abbrev F_manifold_Clone : Nat := 255
def c_manifold_Clone : ACode := (.seq (r0 [oE 1 0, oA 2 zD1_21])
  (.seq (r0 [oF 2 3 1, oL 4 3, oJ 5 291 [(.t 4)], oF 2 6 1, oS 1 6 5])
  (.seq (r0 [oR 3 7 1, oS 3 2 7])
  .ret)))
theorem is_manifold_Clone : compile Tryz.prog Tryz.f255.ntmps (Tryz.f255.body.getD .skip) = some c_manifold_Clone.strip := by kernel_rfl
abbrev F_vec2_Length : Nat := 256
def c_vec2_Length : ACode := (.seq (r0 [oE 1 0, oV 2 (vi 0)])
  (.seq (r0 [oW 3 zD1_6 [], oR 2 4 1, oJ 5 293 [(.t 3), (.t 4)], oJ 6 292 [(.t 5)], oM 2 6])
  .ret))
theorem is_vec2_Length : compile Tryz.prog Tryz.f256.ntmps (Tryz.f256.body.getD .skip) = some c_vec2_Length.strip := by kernel_rfl
abbrev F_slices_IndexFunc_int : Nat := 257
def c_slices_IndexFunc_intb0 : ACode := (.seq (r0 [oB .lss 9 8 7])
  (.seq (.cond (.t 9) .skip (.exit 0))
  (.seq (.block 1 (.seq (r0 [oM 10 8, oM 5 10])
  (.seq (r0 [oM 11 1, oM 12 0, oM 13 5, oI 1 14 12 13, oL 15 14, ⟨(some 16), .callv (.t 11) [(.t 15)], none, []⟩])
  (.cond (.t 16) (.seq (r0 [oM 17 5, oM 4 17])
  .ret) .skip))))
  (r0 [oC .add 18 8 1, oM 8 18]))))
def c_slices_IndexFunc_int : ACode := (.seq (r0 [oV 4 (vi 0)])
  (.seq (.seq (r0 [oM 6 0, oN 7 6, oV 8 (vi 0)])
  (.block 0 (.loop c_slices_IndexFunc_intb0)))
  (.seq (r0 [oV 4 (vi (-1))])
  .ret)))
theorem is_slices_IndexFunc_int : compile Tryz.prog Tryz.f257.ntmps (Tryz.f257.body.getD .skip) = some c_slices_IndexFunc_int.strip := by kernel_rfl
abbrev F_body_bounded : Nat := 259
def c_body_bounded : ACode := (.seq (r0 [oE 2 0, oV 4 (vb false)])
  (.seq (r0 [oF 0 5 2, oL 6 5, oM 7 1, ⟨(some 8), .un .neg (.t 7), none, []⟩, oM 9 1, oJ 10 260 [(.t 6), (.t 8), (.t 9)], oM 11 10, gT 11 (oF 1 12 2), gT 11 (oL 13 12), gT 11 (oM 14 1), ⟨(some 15), .un .neg (.t 14), (some (11, true)), []⟩, gT 11 (oM 16 1), gT 11 (oJ 17 260 [(.t 13), (.t 15), (.t 16)]), oP 18 11 17, oM 4 18])
  .ret))
theorem is_body_bounded : compile Tryz.prog Tryz.f259.ntmps (Tryz.f259.body.getD .skip) = some c_body_bounded.strip := by kernel_rfl
abbrev F_body_within : Nat := 260
def c_body_within : ACode := (.seq (r0 [oV 6 (vb false)])
  (.seq (r0 [oM 7 1, oM 8 0, oB .leq 9 7 8, oM 10 9, gT 10 (oM 11 0), gT 10 (oM 12 2), gT 10 (oB .leq 13 11 12), oP 14 10 13, oM 6 14])
  .ret))
theorem is_body_within : compile Tryz.prog Tryz.f260.ntmps (Tryz.f260.body.getD .skip) = some c_body_within.strip := by kernel_rfl
abbrev F_transform_Valid : Nat := 261
def c_transform_Valid : ACode := (.seq (r0 [oE 1 0, oV 2 (vb false)])
  (.seq (r0 [oF 0 3 1, oF 0 4 3, oL 5 4, oJ 6 295 [(.t 5)], oM 7 6, gT 7 (oF 0 8 1), gT 7 (oF 1 9 8), gT 7 (oL 10 9), gT 7 (oJ 11 295 [(.t 10)]), oP 12 7 11, oM 13 12, gT 13 (oF 2 14 1), gT 13 (oL 15 14), gT 13 (oC .geq 16 15 (-205888)), oP 17 13 16, oM 18 17, gT 18 (oF 2 19 1), gT 18 (oL 20 19), gT 18 (oC .lss 21 20 205888), oP 22 18 21, oM 2 22])
  .ret))
theorem is_transform_Valid : compile Tryz.prog Tryz.f261.ntmps (Tryz.f261.body.getD .skip) = some c_transform_Valid.strip := by kernel_rfl
abbrev F_shape_Validate : Nat := 262
def c_shape_Validate : ACode := (.seq (r0 [oE 1 0, oV 2 (vi 0)])
  (.seq (.block 0 (.seq (r0 [oF 0 4 1, oL 5 4, oC .lss 6 5 1, oM 7 6, gF 7 (oF 0 8 1), gF 7 (oL 9 8), gF 7 (oC .gtr 10 9 3), oQ 11 7 10, oM 3 11])
  (.cond (.t 3) (.seq (r0 [oV 2 (vi 10)])
  .ret) (.seq (r0 [oR 3 13 1, oJ 14 296 [(.t 13)], oU 15 14, oM 12 15])
  (.cond (.t 12) (.seq (r0 [oV 2 (vi 11)])
  .ret) (.seq (r0 [oF 2 17 1, oL 18 17, oJ 19 297 [(.t 18), (.k (.fn (.func 298) [] []))], oM 16 19])
  (.cond (.t 16) (.seq (r0 [oV 2 (vi 6)])
  .ret) (.seq (.seq (r0 [oF 0 21 1, oL 22 21, oC .eql 23 22 3, oM 24 23, gT 24 (oF 1 25 1), gT 24 (oL 26 25), gT 24 (oC .neq 27 26 0), oP 28 24 27, oM 20 28])
  (.cond (.t 20) .skip (r0 [oF 0 29 1, oL 30 29, oC .neq 31 30 3, oM 32 31, gT 32 (oF 1 33 1), gT 32 (oL 34 33), gT 32 (oC .lss 35 34 2048), gT 32 (oM 36 35), gF 36 (oF 1 37 1), gF 36 (oL 38 37), gF 36 (oC .gtr 39 38 524288), gT 32 (oQ 40 36 39), oP 41 32 40, oM 20 41])))
  (.cond (.t 20) (.seq (r0 [oV 2 (vi 6)])
  .ret) (.seq (r1 [oF 0 43 1, oL 44 43, oC .eql 45 44 2, oM 46 45, gT 46 (oF 2 47 1), gT 46 (oL 48 47), ⟨(some 49), .iaddr 2 (.t 48) (ki 1), (some (46, true)), []⟩, gT 46 (oR 2 50 49), gT 46 (oF 2 51 1), gT 46 (oL 52 51), ⟨(some 53), .iaddr 2 (.t 52) (ki 0), (some (46, true)), []⟩, gT 46 (oR 2 54 53), gT 46 (oJ 55 300 [(.t 50), (.t 54)]), gT 46 (oJ 56 256 [(.t 55)]), gT 46 (oC .lss 57 56 4096), oP 58 46 57, oM 42 58])
  (.cond (.t 42) (.seq (r0 [oV 2 (vi 12)])
  .ret) (.seq (r0 [oF 0 60 1, oL 61 60, oC .eql 62 61 3, oM 63 62, gT 63 (oF 2 64 1), gT 63 (oL 65 64), gT 63 (oJ 66 301 [(.t 65)]), gT 63 (oU 67 66), gT 63 (oM 68 67), gF 68 (oF 2 69 1), gF 68 (oL 70 69), gF 68 (oJ 71 302 [(.t 70)]), gF 68 (oC .lss 72 71 4096), gT 63 (oQ 73 68 72), gT 63 (oM 74 73), gF 74 (oF 2 75 1), gF 74 (oL 76 75), gF 74 (oJ 77 303 [(.t 76)]), gF 74 (oC .lss 78 77 256), gT 63 (oQ 79 74 78), oP 80 63 79, oM 59 80])
  (.cond (.t 59) (.seq (r0 [oV 2 (vi 12)])
  .ret) .skip)))))))))))))
  (.seq (r0 [oV 2 (vi 0)])
  .ret)))
theorem is_shape_Validate : compile Tryz.prog Tryz.f262.ntmps (Tryz.f262.body.getD .skip) = some c_shape_Validate.strip := by kernel_rfl
abbrev F_body_moving : Nat := 263
def c_body_moving : ACode := (.seq (r0 [oE 1 0, oV 2 (vb false)])
  (.seq (r0 [oF 5 3 1, oR 2 4 3, oW 5 zD1_6 [], ⟨(some 6), .eqa [true, true] true (.t 4) (.t 5), none, []⟩, oM 7 6, gF 7 (oF 7 8 1), gF 7 (oL 9 8), gF 7 (oC .neq 10 9 0), oQ 11 7 10, oM 2 11])
  .ret))
theorem is_body_moving : compile Tryz.prog Tryz.f263.ntmps (Tryz.f263.body.getD .skip) = some c_body_moving.strip := by kernel_rfl
abbrev F_joint_limitRange : Nat := 264
def c_joint_limitRange : ACode := (.seq (r0 [oV 2 (vi 0), oV 3 (vi 0)])
  (.seq (.seq (r0 [oM 4 0])
  (.block 0 (.seq (r0 [oC .eql 6 4 1, oM 5 6])
  (.cond (.t 5) (.seq (r0 [oV 2 (vi 0), oV 3 (vi 268435456)])
  .ret) (.seq (r0 [oC .eql 8 4 2, oM 7 8])
  (.cond (.t 7) (.seq (r0 [oV 2 (vi (-205888)), oV 3 (vi 205888)])
  .ret) .skip))))))
  (.seq (r0 [oV 2 (vi (-268435456)), oV 3 (vi 268435456)])
  .ret)))
theorem is_joint_limitRange : compile Tryz.prog Tryz.f264.ntmps (Tryz.f264.body.getD .skip) = some c_joint_limitRange.strip := by kernel_rfl
abbrev F_joint_inRange : Nat := 265
def c_joint_inRange : ACode := (.seq (r0 [oV 6 (vb false)])
  (.seq (r0 [oM 7 0, oM 8 1, oB .geq 9 7 8, oM 10 9, gT 10 (oM 11 0), gT 10 (oM 12 2), gT 10 (oB .leq 13 11 12), oP 14 10 13, oM 6 14])
  .ret))
theorem is_joint_inRange : compile Tryz.prog Tryz.f265.ntmps (Tryz.f265.body.getD .skip) = some c_joint_inRange.strip := by kernel_rfl
abbrev F_joint_pointInRange : Nat := 266
def c_joint_pointInRange : ACode := (.seq (r0 [oE 2 0, oV 4 (vb false)])
  (.seq (r0 [oF 0 5 2, oL 6 5, oM 7 1, ⟨(some 8), .un .neg (.t 7), none, []⟩, oM 9 1, oJ 10 265 [(.t 6), (.t 8), (.t 9)], oM 11 10, gT 11 (oF 1 12 2), gT 11 (oL 13 12), gT 11 (oM 14 1), ⟨(some 15), .un .neg (.t 14), (some (11, true)), []⟩, gT 11 (oM 16 1), gT 11 (oJ 17 265 [(.t 13), (.t 15), (.t 16)]), oP 18 11 17, oM 4 18])
  .ret))
theorem is_joint_pointInRange : compile Tryz.prog Tryz.f266.ntmps (Tryz.f266.body.getD .skip) = some c_joint_pointInRange.strip := by kernel_rfl
abbrev F_world_saturated_f1 : Nat := 267
def c_world_saturated_f1 : ACode := (.seq (r0 [oV 2 (vb false)])
  (.seq (r0 [oM 3 0, oJ 4 72 [(.t 3), (ki (-536870911)), (ki 536870911)], oU 5 4, oM 2 5])
  .ret))
theorem is_world_saturated_f1 : compile Tryz.prog Tryz.f267.ntmps (Tryz.f267.body.getD .skip) = some c_world_saturated_f1.strip := by kernel_rfl
abbrev F_slices_IndexFunc_ContactPoint : Nat := 268
def c_slices_IndexFunc_ContactPointb0 : ACode := (.seq (r0 [oB .lss 9 8 7])
  (.seq (.cond (.t 9) .skip (.exit 0))
  (.seq (.block 1 (.seq (r0 [oM 10 8, oM 5 10])
  (.seq (r0 [oM 11 1, oM 12 0, oM 13 5, oI 6 14 12 13, oR 6 15 14, ⟨(some 16), .callv (.t 11) [(.t 15)], none, []⟩])
  (.cond (.t 16) (.seq (r0 [oM 17 5, oM 4 17])
  .ret) .skip))))
  (r0 [oC .add 18 8 1, oM 8 18]))))
def c_slices_IndexFunc_ContactPoint : ACode := (.seq (r0 [oV 4 (vi 0)])
  (.seq (.seq (r0 [oM 6 0, oN 7 6, oV 8 (vi 0)])
  (.block 0 (.loop c_slices_IndexFunc_ContactPointb0)))
  (.seq (r0 [oV 4 (vi (-1))])
  .ret)))
theorem is_slices_IndexFunc_ContactPoint : compile Tryz.prog Tryz.f268.ntmps (Tryz.f268.body.getD .skip) = some c_slices_IndexFunc_ContactPoint.strip := by kernel_rfl
abbrev F_broadphase_compare : Nat := 269
def c_broadphase_compare : ACode := (.seq (r0 [oE 2 0, oE 3 1, oV 4 (vi 0)])
  (.seq (r1 [oF 0 5 2, oL 6 5, oF 0 7 3, oL 8 7, oJ 9 305 [(.t 6), (.t 8)], oF 1 10 2, ⟨(some 11), .load none (.t 10), none, [4]⟩, oF 1 12 3, ⟨(some 13), .load none (.t 12), none, [4]⟩, oJ 14 305 [(.t 11), (.t 13)], oF 2 15 2, ⟨(some 16), .load none (.t 15), none, [4, 9]⟩, oF 2 17 3, ⟨(some 18), .load none (.t 17), none, [4, 9]⟩, oJ 19 305 [(.t 16), (.t 18)], oF 3 20 2, ⟨(some 21), .load none (.t 20), none, [4, 9, 14]⟩, oF 3 22 3, ⟨(some 23), .load none (.t 22), none, [4, 9, 14]⟩, oJ 24 305 [(.t 21), (.t 23)], oY 1 25 4 zD1_3 [(0, 1, (.t 9)), (1, 1, (.t 14)), (2, 1, (.t 19)), (3, 1, (.t 24))], oJ 26 304 [(.t 25)], oM 4 26])
  .ret))
theorem is_broadphase_compare : compile Tryz.prog Tryz.f269.ntmps (Tryz.f269.body.getD .skip) = some c_broadphase_compare.strip := by kernel_rfl
abbrev F_cmp_isNaN_int : Nat := 289
def c_cmp_isNaN_int : ACode := (.seq (r0 [oV 2 (vb false)])
  (.seq (r0 [oM 3 0, oM 4 0, oB .neq 5 3 4, oM 2 5])
  .ret))
theorem is_cmp_isNaN_int : compile Tryz.prog Tryz.f289.ntmps (Tryz.f289.body.getD .skip) = some c_cmp_isNaN_int.strip := by kernel_rfl
abbrev F_shape_Clone : Nat := 290
def c_shape_Clone : ACode := (.seq (r0 [oE 1 0, oA 2 zD1_21])
  (.seq (r0 [oF 2 3 1, oL 4 3, oJ 5 314 [(.t 4)], oF 2 6 1, oS 1 6 5])
  (.seq (r0 [oR 3 7 1, oS 3 2 7])
  .ret)))
theorem is_shape_Clone : compile Tryz.prog Tryz.f290.ntmps (Tryz.f290.body.getD .skip) = some c_shape_Clone.strip := by kernel_rfl
abbrev F_slices_Clone_ContactPoint : Nat := 291
def c_slices_Clone_ContactPoint : ACode := (.seq (r0 [oV 2 vn])
  (.seq (.seq (r0 [oM 3 0, ⟨(some 4), .isnil 0 false (.t 3), none, []⟩])
  (.cond (.t 4) (.seq (r0 [oV 2 vn])
  .ret) .skip))
  (.seq (r0 [oY 6 5 0 [] [], oM 6 0, oZ 6 48 7 5 6, oM 2 7])
  .ret)))
theorem is_slices_Clone_ContactPoint : compile Tryz.prog Tryz.f291.ntmps (Tryz.f291.body.getD .skip) = some c_slices_Clone_ContactPoint.strip := by kernel_rfl
abbrev F_fixed_Isqrt : Nat := 292
def c_fixed_Isqrtb0 : ACode := (.seq (.seq (r0 [oM 12 4, oC .gtr 13 12 0])
  (.cond (.t 13) .skip (.exit 0)))
  (.seq (.block 1 (.seq (r0 [oM 16 3, oM 17 4, oB .or 18 16 17, oM 5 18])
  (.seq (r0 [oM 19 5, ⟨(some 20), .convI .u64 (.t 19), none, []⟩, oM 21 5, ⟨(some 22), .convI .u64 (.t 21), none, []⟩, oB .mul 23 20 22, oM 24 0, ⟨(some 25), .convI .u64 (.t 24), none, []⟩, oB .leq 26 23 25])
  (.cond (.t 26) (r0 [oM 27 5, oM 3 27]) .skip))))
  (r0 [oM 14 4, ⟨(some 15), .bin .shr (.t 14) (.k (.sc (.int .u64 1))), none, []⟩, oM 4 15])))
def c_fixed_Isqrt : ACode := (.seq (r0 [oV 2 (vi 0)])
  (.seq (.seq (r0 [oM 6 0, oC .lss 7 6 0, oM 8 7, gF 8 (oM 9 0), gF 8 (oC .gtr 10 9 4611686018427387904), oQ 11 8 10])
  (.cond (.t 11) (.seq (r0 [oV 2 (vi 0)])
  .ret) .skip))
  (.seq (r0 [oV 3 (vi 0)])
  (.seq (.seq (r0 [oV 4 (vi 2147483648)])
  (.block 0 (.loop c_fixed_Isqrtb0)))
  (.seq (r0 [oM 28 3, oM 2 28])
  .ret)))))
theorem is_fixed_Isqrt : compile Tryz.prog Tryz.f292.ntmps (Tryz.f292.body.getD .skip) = some c_fixed_Isqrt.strip := by kernel_rfl
abbrev F_vec2_DistanceSquared : Nat := 293
def c_vec2_DistanceSquared : ACode := (.seq (r0 [oE 2 0, oE 3 1, oV 4 (vi 0)])
  (.seq (r1 [oR 2 7 2, oJ 8 315 [(.t 7)], ⟨(some 9), .load (some 2) (.t 3), none, [1]⟩, oJ 10 315 [(.t 9)], oS 2 2 8, oS 2 3 10])
  (.seq (r1 [oF 0 11 3, oL 12 11, oF 0 13 2, oL 14 13, oB .sub 15 12 14, oF 1 16 3, oL 17 16, oF 1 18 2, oL 19 18, oB .sub 20 17 19, oM 5 15, oM 6 20])
  (.seq (r0 [oM 21 5, oM 22 5, oB .mul 23 21 22, oM 24 6, oM 25 6, oB .mul 26 24 25, oB .add 27 23 26, oM 4 27])
  .ret))))
theorem is_vec2_DistanceSquared : compile Tryz.prog Tryz.f293.ntmps (Tryz.f293.body.getD .skip) = some c_vec2_DistanceSquared.strip := by kernel_rfl
abbrev F_transform_inWorld : Nat := 295
def c_transform_inWorld : ACode := (.seq (r0 [oV 2 (vb false)])
  (.seq (r0 [oM 3 0, oC .geq 4 3 (-268435456), oM 5 4, gT 5 (oM 6 0), gT 5 (oC .leq 7 6 268435456), oP 8 5 7, oM 2 8])
  .ret))
theorem is_transform_inWorld : compile Tryz.prog Tryz.f295.ntmps (Tryz.f295.body.getD .skip) = some c_transform_inWorld.strip := by kernel_rfl
abbrev F_shape_validCount : Nat := 296
def c_shape_validCount : ACode := (.seq (r0 [oE 1 0, oV 2 (vb false)])
  (.seq (r0 [oF 2 4 1, oL 5 4, oN 6 5, oM 3 6])
  (.seq (.seq (r0 [oF 0 7 1, oL 8 7])
  (.block 0 (.seq (r0 [oC .eql 10 8 1, oM 9 10])
  (.cond (.t 9) (.seq (r0 [oM 11 3, oC .eql 12 11 1, oM 2 12])
  .ret) (.seq (r0 [oC .eql 14 8 2, oM 13 14])
  (.cond (.t 13) (.seq (r0 [oM 15 3, oC .eql 16 15 2, oM 2 16])
  .ret) .skip))))))
  (.seq (r0 [oM 17 3, oC .geq 18 17 3, oM 19 18, gT 19 (oM 20 3), gT 19 (oC .leq 21 20 8), oP 22 19 21, oM 2 22])
  .ret))))
theorem is_shape_validCount : compile Tryz.prog Tryz.f296.ntmps (Tryz.f296.body.getD .skip) = some c_shape_validCount.strip := by kernel_rfl
abbrev F_slices_ContainsFunc_Vec : Nat := 297
def c_slices_ContainsFunc_Vec : ACode := (.seq (r0 [oV 4 (vb false)])
  (.seq (r0 [oM 5 0, oM 6 1, oJ 7 316 [(.t 5), (.t 6)], oC .geq 8 7 0, oM 4 8])
  .ret))
theorem is_slices_ContainsFunc_Vec : compile Tryz.prog Tryz.f297.ntmps (Tryz.f297.body.getD .skip) = some c_slices_ContainsFunc_Vec.strip := by kernel_rfl
abbrev F_shape_Validate_f1 : Nat := 298
def c_shape_Validate_f1 : ACode := (.seq (r0 [oE 1 0, oV 2 (vb false)])
  (.seq (r0 [oF 0 3 1, oL 4 3, oJ 5 299 [(.t 4)], oM 6 5, gF 6 (oF 1 7 1), gF 6 (oL 8 7), gF 6 (oJ 9 299 [(.t 8)]), oQ 10 6 9, oM 2 10])
  .ret))
theorem is_shape_Validate_f1 : compile Tryz.prog Tryz.f298.ntmps (Tryz.f298.body.getD .skip) = some c_shape_Validate_f1.strip := by kernel_rfl
abbrev F_shape_outOfRange : Nat := 299
def c_shape_outOfRange : ACode := (.seq (r0 [oV 2 (vb false)])
  (.seq (r0 [oM 3 0, oC .lss 4 3 (-1048576), oM 5 4, gF 5 (oM 6 0), gF 5 (oC .gtr 7 6 1048576), oQ 8 5 7, oM 2 8])
  .ret))
theorem is_shape_outOfRange : compile Tryz.prog Tryz.f299.ntmps (Tryz.f299.body.getD .skip) = some c_shape_outOfRange.strip := by kernel_rfl
abbrev F_vec2_Sub : Nat := 300
def c_vec2_Sub : ACode := (.seq (r0 [oE 2 0, oE 3 1, oA 4 zD1_6])
  (.seq (r1 [oF 0 5 2, oL 6 5, oF 0 7 3, oL 8 7, oJ 9 317 [(.t 6), (.t 8)], oF 1 10 2, ⟨(some 11), .load none (.t 10), none, [4]⟩, oF 1 12 3, ⟨(some 13), .load none (.t 12), none, [4]⟩, oJ 14 317 [(.t 11), (.t 13)], oW 15 zD1_6 [(0, 1, (.t 9)), (1, 1, (.t 14))], oS 2 4 15])
  .ret))
theorem is_vec2_Sub : compile Tryz.prog Tryz.f300.ntmps (Tryz.f300.body.getD .skip) = some c_vec2_Sub.strip := by kernel_rfl
abbrev F_polygon_IsConvex : Nat := 301
def c_polygon_IsConvexb0 : ACode := (.seq (r0 [oB .lss 36 35 34])
  (.seq (.cond (.t 36) .skip (.exit 2))
  (.seq (.block 3 (.seq (r0 [oM 37 35, oI 2 38 33 35, oR 2 39 38, oA 8 zD1_6, oM 7 37, oS 2 8 39])
  (.seq (r1 [oM 40 7, oM 41 4, oB .neq 42 40 41, oM 43 42, gT 43 (oM 44 7), gT 43 (oM 45 6), gT 43 (oB .neq 46 44 45), oP 47 43 46, oM 48 47, gT 48 (oR 2 49 5), gT 48 (oM 50 0), gT 48 (oM 51 6), gT 48 (oI 2 52 50 51), gT 48 (oR 2 53 52), gT 48 (oR 2 54 8), gT 48 (oJ 55 319 [(.t 49), (.t 53), (.t 54)]), gT 48 (oC .neq 56 55 1), oP 57 48 56])
  (.cond (.t 57) (.seq (r0 [oV 2 (vb false)])
  .ret) .skip))))
  (r0 [oC .add 58 35 1, oM 35 58]))))
def c_polygon_IsConvexb1 : ACode := (.seq (r0 [oB .lss 25 24 23])
  (.seq (.cond (.t 25) .skip (.exit 0))
  (.seq (.block 1 (.seq (r0 [oM 26 24, oI 2 27 22 24, oR 2 28 27, oA 5 zD1_6, oM 4 26, oS 2 5 28])
  (.seq (r0 [oM 29 4, oC .add 30 29 1, oM 31 3, oB .rem 32 30 31, oM 6 32])
  (.seq (r0 [oM 33 0, oN 34 33, oV 35 (vi 0)])
  (.block 2 (.loop c_polygon_IsConvexb0))))))
  (r0 [oC .add 59 24 1, oM 24 59]))))
def c_polygon_IsConvex : ACode := (.seq (r0 [oV 2 (vb false)])
  (.seq (r0 [oM 9 0, oN 10 9, oM 3 10])
  (.seq (.seq (r0 [oM 11 3, oC .lss 12 11 3, oM 13 12, gF 13 (oM 14 3), gF 13 (oC .gtr 15 14 8), oQ 16 13 15, oM 17 16, gF 17 (oM 18 0), gF 17 (oJ 19 318 [(.t 18)]), gF 17 (oU 20 19), oQ 21 17 20])
  (.cond (.t 21) (.seq (r0 [oV 2 (vb false)])
  .ret) .skip))
  (.seq (.seq (r0 [oM 22 0, oN 23 22, oV 24 (vi 0)])
  (.block 0 (.loop c_polygon_IsConvexb1)))
  (.seq (r0 [oV 2 (vb true)])
  .ret)))))
theorem is_polygon_IsConvex : compile Tryz.prog Tryz.f301.ntmps (Tryz.f301.body.getD .skip) = some c_polygon_IsConvex.strip := by kernel_rfl
abbrev F_polygon_ShortestEdge : Nat := 302
def c_polygon_ShortestEdgeb0 : ACode := (.seq (r0 [oB .lss 12 11 10])
  (.seq (.cond (.t 12) .skip (.exit 0))
  (.seq (.block 1 (.seq (r0 [oM 13 11, oI 2 14 9 11, oR 2 15 14, oA 5 zD1_6, oM 4 13, oS 2 5 15])
  (r1 [oM 16 3, oM 17 0, oM 18 4, oC .add 19 18 1, oM 20 0, oN 21 20, oB .rem 22 19 21, oI 2 23 17 22, oR 2 24 23, oR 2 25 5, oJ 26 300 [(.t 24), (.t 25)], oJ 27 256 [(.t 26)], ⟨(some 28), .minmax false (.t 16) (.t 27), none, []⟩, oM 3 28])))
  (r0 [oC .add 29 11 1, oM 11 29]))))
def c_polygon_ShortestEdge : ACode := (.seq (r0 [oV 2 (vi 0)])
  (.seq (.seq (r0 [oM 6 0, oJ 7 301 [(.t 6)], oU 8 7])
  (.cond (.t 8) (.seq (r0 [oV 2 (vi 0)])
  .ret) .skip))
  (.seq (r0 [oV 3 (vi 536870911)])
  (.seq (.seq (r0 [oM 9 0, oN 10 9, oV 11 (vi 0)])
  (.block 0 (.loop c_polygon_ShortestEdgeb0)))
  (.seq (r0 [oM 30 3, oM 2 30])
  .ret)))))
theorem is_polygon_ShortestEdge : compile Tryz.prog Tryz.f302.ntmps (Tryz.f302.body.getD .skip) = some c_polygon_ShortestEdge.strip := by kernel_rfl
abbrev F_polygon_Area : Nat := 303
def c_polygon_Area : ACode := (.seq (r0 [oV 2 (vi 0)])
  (.seq (.seq (r0 [oM 5 0, oJ 6 301 [(.t 5)], oU 7 6])
  (.cond (.t 7) (.seq (r0 [oV 2 (vi 0)])
  .ret) .skip))
  (.seq (r0 [oM 9 0, oJ 10 320 [(.t 9)], oM 8 10, oX 11 8 0, oX 12 8 1, oM 3 11, oM 4 12])
  (.seq (r0 [oM 13 4, oJ 14 321 [(.t 13), (ki 2)], oM 2 14])
  .ret))))
theorem is_polygon_Area : compile Tryz.prog Tryz.f303.ntmps (Tryz.f303.body.getD .skip) = some c_polygon_Area.strip := by kernel_rfl
abbrev F_cmp_Or_int : Nat := 304
def c_cmp_Or_intb0 : ACode := (.seq (r0 [oB .lss 9 8 7])
  (.seq (.cond (.t 9) .skip (.exit 0))
  (.seq (.block 1 (.seq (r0 [oI 1 10 6 8, oL 11 10, oM 5 11])
  (.seq (r0 [oM 12 5, oM 13 3, oB .neq 14 12 13])
  (.cond (.t 14) (.seq (r0 [oM 15 5, oM 2 15])
  .ret) .skip))))
  (r0 [oC .add 16 8 1, oM 8 16]))))
def c_cmp_Or_int : ACode := (.seq (r0 [oV 2 (vi 0)])
  (.seq (r0 [oV 3 (vi 0)])
  (.seq (.seq (r0 [oM 6 0, oN 7 6, oV 8 (vi 0)])
  (.block 0 (.loop c_cmp_Or_intb0)))
  (.seq (r0 [oM 17 3, oM 2 17])
  .ret))))
theorem is_cmp_Or_int : compile Tryz.prog Tryz.f304.ntmps (Tryz.f304.body.getD .skip) = some c_cmp_Or_int.strip := by kernel_rfl
abbrev F_cmp_Compare_int : Nat := 305
def c_cmp_Compare_int : ACode := (.seq (r0 [oV 4 (vi 0)])
  (.seq (r0 [oM 7 0, oJ 8 289 [(.t 7)], oM 5 8])
  (.seq (r0 [oM 9 1, oJ 10 289 [(.t 9)], oM 6 10])
  (.seq (.seq (r0 [oM 11 5])
  (.cond (.t 11) (.seq (.seq (r0 [oM 12 6])
  (.cond (.t 12) (.seq (r0 [oV 4 (vi 0)])
  .ret) .skip))
  (.seq (r0 [oV 4 (vi (-1))])
  .ret)) .skip))
  (.seq (.seq (r0 [oM 13 6])
  (.cond (.t 13) (.seq (r0 [oV 4 (vi 1)])
  .ret) .skip))
  (.seq (.seq (r0 [oM 14 0, oM 15 1, oB .lss 16 14 15])
  (.cond (.t 16) (.seq (r0 [oV 4 (vi (-1))])
  .ret) .skip))
  (.seq (.seq (r0 [oM 17 0, oM 18 1, oB .gtr 19 17 18])
  (.cond (.t 19) (.seq (r0 [oV 4 (vi 1)])
  .ret) .skip))
  (.seq (r0 [oV 4 (vi 0)])
  .ret))))))))
theorem is_cmp_Compare_int : compile Tryz.prog Tryz.f305.ntmps (Tryz.f305.body.getD .skip) = some c_cmp_Compare_int.strip := by kernel_rfl
abbrev F_slices_Clone_Vec : Nat := 314
def c_slices_Clone_Vec : ACode := (.seq (r0 [oV 2 vn])
  (.seq (.seq (r0 [oM 3 0, ⟨(some 4), .isnil 0 false (.t 3), none, []⟩])
  (.cond (.t 4) (.seq (r0 [oV 2 vn])
  .ret) .skip))
  (.seq (r0 [oY 2 5 0 [] [], oM 6 0, oZ 2 16 7 5 6, oM 2 7])
  .ret)))
theorem is_slices_Clone_Vec : compile Tryz.prog Tryz.f314.ntmps (Tryz.f314.body.getD .skip) = some c_slices_Clone_Vec.strip := by kernel_rfl
abbrev F_vec2_saturate : Nat := 315
def c_vec2_saturate : ACode := (.seq (r0 [oE 1 0, oA 2 zD1_6])
  (.seq (r1 [oF 0 3 1, oL 4 3, oJ 5 331 [(.t 4)], oF 1 6 1, ⟨(some 7), .load none (.t 6), none, [2]⟩, oJ 8 331 [(.t 7)], oW 9 zD1_6 [(0, 1, (.t 5)), (1, 1, (.t 8))], oS 2 2 9])
  .ret))
theorem is_vec2_saturate : compile Tryz.prog Tryz.f315.ntmps (Tryz.f315.body.getD .skip) = some c_vec2_saturate.strip := by kernel_rfl
abbrev F_slices_IndexFunc_Vec : Nat := 316
def c_slices_IndexFunc_Vecb0 : ACode := (.seq (r0 [oB .lss 9 8 7])
  (.seq (.cond (.t 9) .skip (.exit 0))
  (.seq (.block 1 (.seq (r0 [oM 10 8, oM 5 10])
  (.seq (r0 [oM 11 1, oM 12 0, oM 13 5, oI 2 14 12 13, oR 2 15 14, ⟨(some 16), .callv (.t 11) [(.t 15)], none, []⟩])
  (.cond (.t 16) (.seq (r0 [oM 17 5, oM 4 17])
  .ret) .skip))))
  (r0 [oC .add 18 8 1, oM 8 18]))))
def c_slices_IndexFunc_Vec : ACode := (.seq (r0 [oV 4 (vi 0)])
  (.seq (.seq (r0 [oM 6 0, oN 7 6, oV 8 (vi 0)])
  (.block 0 (.loop c_slices_IndexFunc_Vecb0)))
  (.seq (r0 [oV 4 (vi (-1))])
  .ret)))
theorem is_slices_IndexFunc_Vec : compile Tryz.prog Tryz.f316.ntmps (Tryz.f316.body.getD .skip) = some c_slices_IndexFunc_Vec.strip := by kernel_rfl
abbrev F_fixed_Sub : Nat := 317
def c_fixed_Sub : ACode := (.seq (r0 [oV 4 (vi 0)])
  (.seq (r0 [oM 5 0, oJ 6 331 [(.t 5)], oM 7 1, oJ 8 331 [(.t 7)], oB .sub 9 6 8, oJ 10 331 [(.t 9)], oM 4 10])
  .ret))
theorem is_fixed_Sub : compile Tryz.prog Tryz.f317.ntmps (Tryz.f317.body.getD .skip) = some c_fixed_Sub.strip := by kernel_rfl
abbrev F_polygon_allInReach : Nat := 318
def c_polygon_allInReachb0 : ACode := (.seq (r0 [oB .lss 8 7 6])
  (.seq (.cond (.t 8) .skip (.exit 0))
  (.seq (.block 1 (.seq (r0 [oI 2 9 5 7, oR 2 10 9, oA 4 zD1_6, oS 2 4 10])
  (.seq (r0 [oR 2 11 4, oJ 12 332 [(.t 11)], oU 13 12])
  (.cond (.t 13) (.seq (r0 [oV 2 (vb false)])
  .ret) .skip))))
  (r0 [oC .add 14 7 1, oM 7 14]))))
def c_polygon_allInReach : ACode := (.seq (r0 [oV 2 (vb false)])
  (.seq (.seq (r0 [oM 5 0, oN 6 5, oV 7 (vi 0)])
  (.block 0 (.loop c_polygon_allInReachb0)))
  (.seq (r0 [oV 2 (vb true)])
  .ret)))
theorem is_polygon_allInReach : compile Tryz.prog Tryz.f318.ntmps (Tryz.f318.body.getD .skip) = some c_polygon_allInReach.strip := by kernel_rfl
abbrev F_vec2_Orientation : Nat := 319
def c_vec2_Orientation : ACode := (.seq (r0 [oE 3 0, oE 4 1, oE 5 2, oV 6 (vi 0)])
  (.seq (r1 [oR 2 8 3, oJ 9 315 [(.t 8)], ⟨(some 10), .load (some 2) (.t 4), none, [1]⟩, oJ 11 315 [(.t 10)], ⟨(some 12), .load (some 2) (.t 5), none, [1, 3]⟩, oJ 13 315 [(.t 12)], oS 2 3 9, oS 2 4 11, oS 2 5 13])
  (.seq (r0 [oF 0 14 4, oL 15 14, oF 0 16 3, oL 17 16, oB .sub 18 15 17, oF 1 19 5, oL 20 19, oF 1 21 3, oL 22 21, oB .sub 23 20 22, oB .mul 24 18 23, oF 1 25 4, oL 26 25, oF 1 27 3, oL 28 27, oB .sub 29 26 28, oF 0 30 5, oL 31 30, oF 0 32 3, oL 33 32, oB .sub 34 31 33, oB .mul 35 29 34, oB .sub 36 24 35, oM 7 36])
  (.seq (r0 [oM 37 7, ⟨(some 38), .minmax true (ki (-1)) (.t 37), none, []⟩, ⟨(some 39), .minmax false (ki 1) (.t 38), none, []⟩, oM 6 39])
  .ret))))
theorem is_vec2_Orientation : compile Tryz.prog Tryz.f319.ntmps (Tryz.f319.body.getD .skip) = some c_vec2_Orientation.strip := by kernel_rfl
abbrev F_polygon_fan : Nat := 320
def c_polygon_fanb0 : ACode := (.seq (.seq (r0 [oM 14 7, oC .add 15 14 1, oM 16 0, oN 17 16, oB .lss 18 15 17])
  (.cond (.t 18) .skip (.exit 0)))
  (.seq (.block 1 (.seq (r1 [oM 21 0, oM 22 7, oI 2 23 21 22, oF 0 24 23, oL 25 24, oF 0 26 6, oL 27 26, oB .sub 28 25 27, oM 29 0, oM 30 7, oI 2 31 29 30, oF 1 32 31, oL 33 32, oF 1 34 6, oL 35 34, oB .sub 36 33 35, oW 37 zD1_6 [(0, 1, (.t 28)), (1, 1, (.t 36))], ⟨(some 8), .alloc zD1_6, none, [2, 4, 6, 10, 12, 14]⟩, oS 2 8 37])
  (.seq (r1 [oM 38 0, oM 39 7, oC .add 40 39 1, oI 2 41 38 40, oF 0 42 41, oL 43 42, oF 0 44 6, oL 45 44, oB .sub 46 43 45, oM 47 0, oM 48 7, oC .add 49 48 1, oI 2 50 47 49, oF 1 51 50, oL 52 51, oF 1 53 6, oL 54 53, oB .sub 55 52 54, oW 56 zD1_6 [(0, 1, (.t 46)), (1, 1, (.t 55))], ⟨(some 9), .alloc zD1_6, none, [3, 5, 7, 12, 14, 16]⟩, oS 2 9 56])
  (.seq (r0 [oF 0 57 8, oL 58 57, oF 1 59 9, oL 60 59, oB .mul 61 58 60, oF 1 62 8, oL 63 62, oF 0 64 9, oL 65 64, oB .mul 66 63 65, oB .sub 67 61 66, oJ 68 321 [(.t 67), (ki 65536)], oM 10 68])
  (.seq (r0 [oM 69 4, oR 2 70 8, oR 2 71 9, oM 72 10, oW 73 zD1_9 [(0, 2, (.t 70)), (2, 2, (.t 71)), (4, 1, (.t 72))], oY 5 74 1 zD1_9 [(0, 5, (.t 73))], oZ 5 40 75 69 74, oM 4 75])
  (r0 [oM 76 5, oM 77 10, oB .add 78 76 77, oM 5 78]))))))
  (r0 [oM 19 7, oC .add 20 19 1, oM 7 20])))
def c_polygon_fan : ACode := (.seq (r0 [oV 2 vn, oV 3 (vi 0)])
  (.seq (r0 [oV 4 vn])
  (.seq (r0 [oV 5 (vi 0)])
  (.seq (r0 [oM 11 0, ⟨(some 12), .iaddr 2 (.t 11) (ki 0), none, []⟩, oR 2 13 12, oA 6 zD1_6, oS 2 6 13])
  (.seq (.seq (r0 [oV 7 (vi 1)])
  (.block 0 (.loop c_polygon_fanb0)))
  (.seq (r0 [oM 79 4, oM 80 5, oM 2 79, oM 3 80])
  .ret))))))
theorem is_polygon_fan : compile Tryz.prog Tryz.f320.ntmps (Tryz.f320.body.getD .skip) = some c_polygon_fan.strip := by kernel_rfl
abbrev F_fixed_RoundDiv : Nat := 321
def c_fixed_RoundDiv : ACode := (.seq (r0 [oV 4 (vi 0)])
  (.seq (.seq (r0 [oM 7 1, oC .lss 8 7 1, oM 9 8, gF 9 (oM 10 1), gF 9 (oC .gtr 11 10 4611686018427387904), oQ 12 9 11, oM 13 12, gF 13 (oM 14 0), gF 13 (oC .lss 15 14 (-4611686018427387904)), oQ 16 13 15, oM 17 16, gF 17 (oM 18 0), gF 17 (oC .gtr 19 18 4611686018427387904), oQ 20 17 19])
  (.cond (.t 20) (.seq (r0 [oV 4 (vi 0)])
  .ret) .skip))
  (.seq (r1 [oM 21 0, oM 22 1, oB .quo 23 21 22, oM 24 0, oM 25 1, oB .rem 26 24 25, oM 5 23, oM 6 26])
  (.seq (.block 0 (.seq (r0 [oM 28 6, oM 29 1, oM 30 6, oB .sub 31 29 30, oB .geq 32 28 31, oM 27 32])
  (.cond (.t 27) (r0 [oM 33 5, oC .add 34 33 1, oM 5 34]) (.seq (r0 [oM 36 6, ⟨(some 37), .un .neg (.t 36), none, []⟩, oM 38 1, oM 39 6, oB .add 40 38 39, oB .geq 41 37 40, oM 35 41])
  (.cond (.t 35) (r0 [oM 42 5, oC .sub 43 42 1, oM 5 43]) .skip)))))
  (.seq (r0 [oM 44 5, oM 4 44])
  .ret)))))
theorem is_fixed_RoundDiv : compile Tryz.prog Tryz.f321.ntmps (Tryz.f321.body.getD .skip) = some c_fixed_RoundDiv.strip := by kernel_rfl
abbrev F_fixed_Saturate : Nat := 331
def c_fixed_Saturate : ACode := (.seq (r0 [oV 2 (vi 0)])
  (.seq (r0 [oM 3 0, ⟨(some 4), .minmax true (.t 3) (ki (-536870911)), none, []⟩, ⟨(some 5), .minmax false (.t 4) (ki 536870911), none, []⟩, oM 2 5])
  .ret))
theorem is_fixed_Saturate : compile Tryz.prog Tryz.f331.ntmps (Tryz.f331.body.getD .skip) = some c_fixed_Saturate.strip := by kernel_rfl
abbrev F_polygon_inReach : Nat := 332
def c_polygon_inReach : ACode := (.seq (r0 [oE 1 0, oV 2 (vb false)])
  (.seq (r0 [oF 0 3 1, oL 4 3, oC .geq 5 4 (-1048576), oM 6 5, gT 6 (oF 0 7 1), gT 6 (oL 8 7), gT 6 (oC .leq 9 8 1048576), oP 10 6 9, oM 11 10, gT 11 (oF 1 12 1), gT 11 (oL 13 12), gT 11 (oC .geq 14 13 (-1048576)), oP 15 11 14, oM 16 15, gT 16 (oF 1 17 1), gT 16 (oL 18 17), gT 16 (oC .leq 19 18 1048576), oP 20 16 19, oM 2 20])
  .ret))
theorem is_polygon_inReach : compile Tryz.prog Tryz.f332.ntmps (Tryz.f332.body.getD .skip) = some c_polygon_inReach.strip := by kernel_rfl
end Go.Abs
