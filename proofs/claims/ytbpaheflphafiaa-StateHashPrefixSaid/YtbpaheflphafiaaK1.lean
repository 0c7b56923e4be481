/- A part of the walk: contracts of functions that the statement reaches. -/
import Derived.Test.YtbpaheflphafiaaAbs28
import Derived.KernelRfl
import Derived.Eval
import Derived.Test.YtbpaheflphafiaaChecked
set_option linter.unusedSimpArgs false
set_option linter.unusedVariables false
set_option linter.unnecessarySimpa false
set_option maxRecDepth 100000
set_option maxHeartbeats 400000
set_option linter.unusedSimpArgs false
set_option linter.unusedVariables false
namespace Go.Abs
open Go.Proofs
theorem hm : Try.prog.follows .mixedOrders = true := Try.checked.mixed
abbrev F_statehash_FirstDifference : Nat := 33
def c_statehash_FirstDifferenceb0 : ACode := (.seq (.region false [⟨(some 12), .bin .lss (.t 11) (.t 10), none, []⟩])
  (.seq (.cond (.t 12) .skip (.exit 0))
  (.seq (.block 1 (.seq (.region false [⟨(some 13), .mov (.t 11), none, []⟩, ⟨(some 5), .mov (.t 13), none, []⟩])
  (.seq (.region true [⟨(some 14), .mov (.t 5), none, []⟩, ⟨(some 15), .mov (.t 0), none, []⟩, ⟨(some 16), .len (.t 15), none, []⟩, ⟨(some 17), .bin .geq (.t 14) (.t 16), none, []⟩, ⟨(some 18), .mov (.t 17), none, []⟩, ⟨(some 19), .mov (.t 5), (some (18, false)), []⟩, ⟨(some 20), .mov (.t 1), (some (18, false)), []⟩, ⟨(some 21), .len (.t 20), (some (18, false)), []⟩, ⟨(some 22), .bin .geq (.t 19) (.t 21), (some (18, false)), []⟩, ⟨(some 23), .pick (.t 18) (.k (.sc (.bool true))) (.t 22), none, []⟩, ⟨(some 24), .mov (.t 23), none, []⟩, ⟨(some 25), .mov (.t 0), (some (24, false)), []⟩, ⟨(some 26), .mov (.t 5), (some (24, false)), []⟩, ⟨(some 27), .iaddr 1 (.t 25) (.t 26), (some (24, false)), []⟩, ⟨(some 28), .load none (.t 27), (some (24, false)), []⟩, ⟨(some 29), .mov (.t 1), (some (24, false)), []⟩, ⟨(some 30), .mov (.t 5), (some (24, false)), []⟩, ⟨(some 31), .iaddr 1 (.t 29) (.t 30), (some (24, false)), []⟩, ⟨(some 32), .load none (.t 31), (some (24, false)), []⟩, ⟨(some 33), .bin .neq (.t 28) (.t 32), (some (24, false)), []⟩, ⟨(some 34), .pick (.t 24) (.k (.sc (.bool true))) (.t 33), none, []⟩])
  (.cond (.t 34) (.seq (.region false [⟨(some 35), .mov (.t 5), none, []⟩, ⟨(some 4), .mov (.t 35), none, []⟩])
  .ret) .skip))))
  (.region false [⟨(some 36), .bin .add (.t 11) (.k (.sc (.int .i64 1))), none, []⟩, ⟨(some 11), .mov (.t 36), none, []⟩]))))
def c_statehash_FirstDifference : ACode := (.seq (.region false [⟨(some 4), .mov (.k (.sc (.int .i64 0))), none, []⟩])
  (.seq (.seq (.region false [⟨(some 6), .mov (.t 0), none, []⟩, ⟨(some 7), .len (.t 6), none, []⟩, ⟨(some 8), .mov (.t 1), none, []⟩, ⟨(some 9), .len (.t 8), none, []⟩, ⟨(some 10), .minmax true (.t 7) (.t 9), none, []⟩, ⟨(some 11), .mov (.k (.sc (.int .i64 0))), none, []⟩])
  (.block 0 (.loop c_statehash_FirstDifferenceb0)))
  (.seq (.region false [⟨(some 4), .mov (.k (.sc (.int .i64 (-1)))), none, []⟩])
  .ret)))
theorem is_statehash_FirstDifference : compile Try.prog Try.f33.ntmps (Try.f33.body.getD .skip) = some c_statehash_FirstDifference.strip := by kernel_rfl
abbrev F_world_in : Nat := 111
def c_world_in : ACode := (.seq (.region false [⟨(some 6), .mov (.k (.sc (.bool false))), none, []⟩])
  (.seq (.region false [⟨(some 7), .mov (.t 0), none, []⟩, ⟨(some 8), .mov (.t 1), none, []⟩, ⟨(some 9), .bin .geq (.t 7) (.t 8), none, []⟩, ⟨(some 10), .mov (.t 9), none, []⟩, ⟨(some 11), .mov (.t 0), (some (10, true)), []⟩, ⟨(some 12), .mov (.t 2), (some (10, true)), []⟩, ⟨(some 13), .bin .leq (.t 11) (.t 12), (some (10, true)), []⟩, ⟨(some 14), .pick (.t 10) (.t 13) (.k (.sc (.bool false))), none, []⟩, ⟨(some 6), .mov (.t 14), none, []⟩])
  .ret))
theorem is_world_in : compile Try.prog Try.f111.ntmps (Try.f111.body.getD .skip) = some c_world_in.strip := by kernel_rfl
abbrev F_world_ValidateSettings : Nat := 110
def c_world_ValidateSettings : ACode := (.seq (.region false [⟨(some 1), .box (.t 0), none, []⟩, ⟨(some 2), .mov (.k (.sc (.int .i64 0))), none, []⟩])
  (.seq (.region false [⟨(some 4), .faddr 1 (.t 1), none, []⟩, ⟨(some 5), .faddr 0 (.t 4), none, []⟩, ⟨(some 6), .load none (.t 5), none, []⟩, ⟨(some 7), .call 111 [(.t 6), (.k (.sc (.int .i64 (-16777216)))), (.k (.sc (.int .i64 16777216)))], none, []⟩, ⟨(some 8), .mov (.t 7), none, []⟩, ⟨(some 9), .faddr 1 (.t 1), (some (8, true)), []⟩, ⟨(some 10), .faddr 1 (.t 9), (some (8, true)), []⟩, ⟨(some 11), .load none (.t 10), (some (8, true)), []⟩, ⟨(some 12), .call 111 [(.t 11), (.k (.sc (.int .i64 (-16777216)))), (.k (.sc (.int .i64 16777216)))], (some (8, true)), []⟩, ⟨(some 13), .pick (.t 8) (.t 12) (.k (.sc (.bool false))), none, []⟩, ⟨(some 3), .mov (.t 13), none, []⟩])
  (.seq (.seq (.region false [⟨(some 14), .faddr 0 (.t 1), none, []⟩, ⟨(some 15), .load none (.t 14), none, []⟩, ⟨(some 16), .call 111 [(.t 15), (.k (.sc (.int .i64 64))), (.k (.sc (.int .i64 8192)))], none, []⟩, ⟨(some 17), .un .not (.t 16), none, []⟩, ⟨(some 18), .mov (.t 17), none, []⟩, ⟨(some 19), .mov (.t 3), (some (18, false)), []⟩, ⟨(some 20), .un .not (.t 19), (some (18, false)), []⟩, ⟨(some 21), .pick (.t 18) (.k (.sc (.bool true))) (.t 20), none, []⟩, ⟨(some 22), .mov (.t 21), none, []⟩, ⟨(some 23), .faddr 3 (.t 1), (some (22, false)), []⟩, ⟨(some 24), .load none (.t 23), (some (22, false)), []⟩, ⟨(some 25), .call 111 [(.t 24), (.k (.sc (.int .i64 1))), (.k (.sc (.int .i64 32)))], (some (22, false)), []⟩, ⟨(some 26), .un .not (.t 25), (some (22, false)), []⟩, ⟨(some 27), .pick (.t 22) (.k (.sc (.bool true))) (.t 26), none, []⟩, ⟨(some 28), .mov (.t 27), none, []⟩, ⟨(some 29), .faddr 4 (.t 1), (some (28, false)), []⟩, ⟨(some 30), .load none (.t 29), (some (28, false)), []⟩, ⟨(some 31), .call 111 [(.t 30), (.k (.sc (.int .i64 0))), (.k (.sc (.int .i64 1048576)))], (some (28, false)), []⟩, ⟨(some 32), .un .not (.t 31), (some (28, false)), []⟩, ⟨(some 33), .pick (.t 28) (.k (.sc (.bool true))) (.t 32), none, []⟩])
  (.cond (.t 33) (.seq (.region false [⟨(some 2), .mov (.k (.sc (.int .i64 6))), none, []⟩])
  .ret) .skip))
  (.seq (.region false [⟨(some 2), .mov (.k (.sc (.int .i64 0))), none, []⟩])
  .ret))))
theorem is_world_ValidateSettings : compile Try.prog Try.f110.ntmps (Try.f110.body.getD .skip) = some c_world_ValidateSettings.strip := by kernel_rfl
abbrev F_world_Validate : Nat := 93
def c_world_Validate : ACode := (.seq (.region false [⟨(some 1), .box (.t 0), none, []⟩, ⟨(some 2), .mov (.k (.sc (.int .i64 0))), none, []⟩])
  (.seq (.block 0 (.seq (.region false [⟨(some 4), .faddr 0 (.t 1), none, []⟩, ⟨(some 5), .load (some 5) (.t 4), none, []⟩, ⟨(some 6), .call 110 [(.t 5)], none, []⟩, ⟨(some 7), .bin .neq (.t 6) (.k (.sc (.int .i64 0))), none, []⟩, ⟨(some 3), .mov (.t 7), none, []⟩])
  (.cond (.t 3) (.seq (.region false [⟨(some 2), .mov (.k (.sc (.int .i64 17))), none, []⟩])
  .ret) (.seq (.region false [⟨(some 9), .faddr 5 (.t 1), none, []⟩, ⟨(some 10), .load none (.t 9), none, []⟩, ⟨(some 11), .len (.t 10), none, []⟩, ⟨(some 12), .bin .gtr (.t 11) (.k (.sc (.int .i64 32))), none, []⟩, ⟨(some 13), .mov (.t 12), none, []⟩, ⟨(some 14), .faddr 6 (.t 1), (some (13, false)), []⟩, ⟨(some 15), .load none (.t 14), (some (13, false)), []⟩, ⟨(some 16), .len (.t 15), (some (13, false)), []⟩, ⟨(some 17), .bin .gtr (.t 16) (.k (.sc (.int .i64 32))), (some (13, false)), []⟩, ⟨(some 18), .pick (.t 13) (.k (.sc (.bool true))) (.t 17), none, []⟩, ⟨(some 19), .mov (.t 18), none, []⟩, ⟨(some 20), .faddr 7 (.t 1), (some (19, false)), []⟩, ⟨(some 21), .load none (.t 20), (some (19, false)), []⟩, ⟨(some 22), .len (.t 21), (some (19, false)), []⟩, ⟨(some 23), .bin .gtr (.t 22) (.k (.sc (.int .i64 8192))), (some (19, false)), []⟩, ⟨(some 24), .pick (.t 19) (.k (.sc (.bool true))) (.t 23), none, []⟩, ⟨(some 25), .mov (.t 24), none, []⟩, ⟨(some 26), .faddr 8 (.t 1), (some (25, false)), []⟩, ⟨(some 27), .load none (.t 26), (some (25, false)), []⟩, ⟨(some 28), .len (.t 27), (some (25, false)), []⟩, ⟨(some 29), .bin .gtr (.t 28) (.k (.sc (.int .i64 8192))), (some (25, false)), []⟩, ⟨(some 30), .pick (.t 25) (.k (.sc (.bool true))) (.t 29), none, []⟩, ⟨(some 8), .mov (.t 30), none, []⟩])
  (.cond (.t 8) (.seq (.region false [⟨(some 2), .mov (.k (.sc (.int .i64 11))), none, []⟩])
  .ret) (.seq (.region false [⟨(some 32), .faddr 9 (.t 1), none, []⟩, ⟨(some 33), .load none (.t 32), none, []⟩, ⟨(some 34), .call 111 [(.t 33), (.k (.sc (.int .i64 1))), (.k (.sc (.int .i64 1099511627776)))], none, []⟩, ⟨(some 35), .un .not (.t 34), none, []⟩, ⟨(some 36), .mov (.t 35), none, []⟩, ⟨(some 37), .faddr 10 (.t 1), (some (36, false)), []⟩, ⟨(some 38), .load none (.t 37), (some (36, false)), []⟩, ⟨(some 39), .call 111 [(.t 38), (.k (.sc (.int .i64 0))), (.k (.sc (.int .i64 1099511627776)))], (some (36, false)), []⟩, ⟨(some 40), .un .not (.t 39), (some (36, false)), []⟩, ⟨(some 41), .pick (.t 36) (.k (.sc (.bool true))) (.t 40), none, []⟩, ⟨(some 31), .mov (.t 41), none, []⟩])
  (.cond (.t 31) (.seq (.region false [⟨(some 2), .mov (.k (.sc (.int .i64 6))), none, []⟩])
  .ret) (.seq (.region false [⟨(some 43), .load (some 11) (.t 1), none, []⟩, ⟨(some 44), .call 112 [(.t 43)], none, []⟩, ⟨(some 45), .un .not (.t 44), none, []⟩, ⟨(some 42), .mov (.t 45), none, []⟩])
  (.cond (.t 42) (.seq (.region false [⟨(some 2), .mov (.k (.sc (.int .i64 14))), none, []⟩])
  .ret) (.seq (.region false [⟨(some 47), .load (some 11) (.t 1), none, []⟩, ⟨(some 48), .call 113 [(.t 47)], none, []⟩, ⟨(some 49), .un .not (.t 48), none, []⟩, ⟨(some 46), .mov (.t 49), none, []⟩])
  (.cond (.t 46) (.seq (.region false [⟨(some 2), .mov (.k (.sc (.int .i64 15))), none, []⟩])
  .ret) (.seq (.region false [⟨(some 51), .load (some 11) (.t 1), none, []⟩, ⟨(some 52), .call 114 [(.t 51)], none, []⟩, ⟨(some 53), .un .not (.t 52), none, []⟩, ⟨(some 50), .mov (.t 53), none, []⟩])
  (.cond (.t 50) (.seq (.region false [⟨(some 2), .mov (.k (.sc (.int .i64 16))), none, []⟩])
  .ret) .skip)))))))))))))
  (.seq (.region false [⟨(some 2), .mov (.k (.sc (.int .i64 0))), none, []⟩])
  .ret)))
theorem is_world_Validate : compile Try.prog Try.f93.ntmps (Try.f93.body.getD .skip) = some c_world_Validate.strip := by kernel_rfl
abbrev F_snapshot_Encode : Nat := 72
def c_snapshot_Encodeb0 : ACode := (.seq (.region false [⟨(some 46), .bin .lss (.t 45) (.t 44), none, []⟩])
  (.seq (.cond (.t 46) .skip (.exit 0))
  (.seq (.block 1 (.seq (.region false [⟨(some 47), .iaddr 20 (.t 43) (.t 45), none, []⟩, ⟨(some 48), .load (some 20) (.t 47), none, []⟩, ⟨(some 6), .alloc [(.int .i64 0), (.int .i64 0), (.int .i64 0), (.int .i64 0), (.int .i64 0), (.int .i64 0), (.int .i64 0), (.int .i64 0), (.int .i64 0), (.int .i64 0), (.int .i64 0), (.int .i64 0), (.int .i64 0), (.int .i64 0), (.bool false), (.bool false), (.bool false), (.bool false), (.int .i64 0), (.slice none 0 0)], none, []⟩, ⟨none, .store 20 (.t 6) (.t 48), none, []⟩])
  (.region false [⟨(some 49), .mov (.t 4), none, []⟩, ⟨(some 50), .load (some 20) (.t 6), none, []⟩, ⟨(some 51), .call 96 [(.t 49), (.t 50)], none, []⟩])))
  (.region false [⟨(some 52), .bin .add (.t 45) (.k (.sc (.int .i64 1))), none, []⟩, ⟨(some 45), .mov (.t 52), none, []⟩]))))
def c_snapshot_Encodeb1 : ACode := (.seq (.region false [⟨(some 63), .bin .lss (.t 62) (.t 61), none, []⟩])
  (.seq (.cond (.t 63) .skip (.exit 2))
  (.seq (.block 3 (.seq (.region false [⟨(some 64), .iaddr 24 (.t 60) (.t 62), none, []⟩, ⟨(some 65), .load (some 24) (.t 64), none, []⟩, ⟨(some 8), .alloc [(.int .i64 0), (.int .i64 0), (.int .i64 0), (.int .i64 0), (.int .i64 0), (.int .i64 0), (.int .i64 0), (.int .i64 0), (.int .i64 0), (.int .i64 0), (.int .i64 0), (.bool false), (.int .i64 0), (.int .i64 0), (.bool false), (.int .i64 0), (.int .i64 0), (.int .i64 0), (.int .i64 0), (.bool false), (.int .i64 0), (.int .i64 0), (.int .i64 0), (.int .i64 0)], none, []⟩, ⟨none, .store 24 (.t 8) (.t 65), none, []⟩])
  (.region false [⟨(some 66), .mov (.t 4), none, []⟩, ⟨(some 67), .load (some 24) (.t 8), none, []⟩, ⟨(some 68), .call 97 [(.t 66), (.t 67)], none, []⟩])))
  (.region false [⟨(some 69), .bin .add (.t 62) (.k (.sc (.int .i64 1))), none, []⟩, ⟨(some 62), .mov (.t 69), none, []⟩]))))
def c_snapshot_Encodeb2 : ACode := (.seq (.region false [⟨(some 80), .bin .lss (.t 79) (.t 78), none, []⟩])
  (.seq (.cond (.t 80) .skip (.exit 4))
  (.seq (.block 5 (.seq (.region false [⟨(some 81), .iaddr 7 (.t 77) (.t 79), none, []⟩, ⟨(some 82), .load (some 7) (.t 81), none, []⟩, ⟨(some 10), .alloc [(.int .i64 0), (.int .i64 0), (.int .i64 0), (.int .i64 0), (.int .i64 0), (.int .i64 0), (.slice none 0 0)], none, []⟩, ⟨none, .store 7 (.t 10) (.t 82), none, []⟩])
  (.region false [⟨(some 83), .mov (.t 4), none, []⟩, ⟨(some 84), .load (some 7) (.t 10), none, []⟩, ⟨(some 85), .call 98 [(.t 83), (.t 84)], none, []⟩])))
  (.region false [⟨(some 86), .bin .add (.t 79) (.k (.sc (.int .i64 1))), none, []⟩, ⟨(some 79), .mov (.t 86), none, []⟩]))))
def c_snapshot_Encodeb3 : ACode := (.seq (.region false [⟨(some 97), .bin .lss (.t 96) (.t 95), none, []⟩])
  (.seq (.cond (.t 97) .skip (.exit 6))
  (.seq (.block 7 (.seq (.region false [⟨(some 98), .iaddr 4 (.t 94) (.t 96), none, []⟩, ⟨(some 99), .load (some 4) (.t 98), none, []⟩, ⟨(some 12), .alloc [(.int .i64 0), (.int .i64 0), (.int .i64 0), (.int .i64 0)], none, []⟩, ⟨none, .store 4 (.t 12) (.t 99), none, []⟩])
  (.region false [⟨(some 100), .mov (.t 4), none, []⟩, ⟨(some 101), .load (some 4) (.t 12), none, []⟩, ⟨(some 102), .call 99 [(.t 100), (.t 101)], none, []⟩])))
  (.region false [⟨(some 103), .bin .add (.t 96) (.k (.sc (.int .i64 1))), none, []⟩, ⟨(some 96), .mov (.t 103), none, []⟩]))))
def c_snapshot_Encode : ACode := (.seq (.region false [⟨(some 1), .box (.t 0), none, []⟩, ⟨(some 2), .mov (.k (.sc (.slice none 0 0))), none, []⟩, ⟨(some 3), .mov (.k (.sc (.int .i64 0))), none, []⟩])
  (.seq (.seq (.region false [⟨(some 13), .load (some 11) (.t 1), none, []⟩, ⟨(some 14), .call 93 [(.t 13)], none, []⟩, ⟨(some 15), .bin .neq (.t 14) (.k (.sc (.int .i64 0))), none, []⟩])
  (.cond (.t 15) (.seq (.region false [⟨(some 2), .mov (.k (.sc (.slice none 0 0))), none, []⟩, ⟨(some 3), .mov (.k (.sc (.int .i64 18))), none, []⟩])
  .ret) .skip))
  (.seq (.region false [⟨(some 16), .build [(.slice none 0 0)] [], none, []⟩, ⟨(some 17), .box (.t 16), none, []⟩, ⟨(some 4), .mov (.t 17), none, []⟩])
  (.seq (.region false [⟨(some 18), .mov (.t 4), none, []⟩, ⟨(some 19), .faddr 0 (.t 1), none, []⟩, ⟨(some 20), .faddr 0 (.t 19), none, []⟩, ⟨(some 21), .load none (.t 20), none, []⟩, ⟨(some 22), .bslice 1 1 [(.int .i64 0)] [(0, 1, (.t 21))], none, []⟩, ⟨(some 23), .call 94 [(.t 18), (.t 22)], none, []⟩])
  (.seq (.region false [⟨(some 24), .mov (.t 4), none, []⟩, ⟨(some 25), .faddr 0 (.t 1), none, []⟩, ⟨(some 26), .faddr 1 (.t 25), none, []⟩, ⟨(some 27), .load (some 2) (.t 26), none, []⟩, ⟨(some 28), .bslice 2 1 [(.int .i64 0), (.int .i64 0)] [(0, 2, (.t 27))], none, []⟩, ⟨(some 29), .call 95 [(.t 24), (.t 28)], none, []⟩])
  (.seq (.region false [⟨(some 30), .mov (.t 4), none, []⟩, ⟨(some 31), .faddr 0 (.t 1), none, []⟩, ⟨(some 32), .faddr 3 (.t 31), none, []⟩, ⟨(some 33), .load none (.t 32), none, []⟩, ⟨(some 34), .faddr 0 (.t 1), none, []⟩, ⟨(some 35), .faddr 4 (.t 34), none, []⟩, ⟨(some 36), .load none (.t 35), none, []⟩, ⟨(some 37), .faddr 5 (.t 1), none, []⟩, ⟨(some 38), .load none (.t 37), none, []⟩, ⟨(some 39), .len (.t 38), none, []⟩, ⟨(some 40), .bslice 1 3 [(.int .i64 0), (.int .i64 0), (.int .i64 0)] [(0, 1, (.t 33)), (1, 1, (.t 36)), (2, 1, (.t 39))], none, []⟩, ⟨(some 41), .call 94 [(.t 30), (.t 40)], none, []⟩])
  (.seq (.seq (.region false [⟨(some 42), .faddr 5 (.t 1), none, []⟩, ⟨(some 43), .load none (.t 42), none, []⟩, ⟨(some 44), .len (.t 43), none, []⟩, ⟨(some 45), .mov (.k (.sc (.int .i64 0))), none, []⟩])
  (.block 0 (.loop c_snapshot_Encodeb0)))
  (.seq (.region false [⟨(some 53), .mov (.t 4), none, []⟩, ⟨(some 54), .faddr 6 (.t 1), none, []⟩, ⟨(some 55), .load none (.t 54), none, []⟩, ⟨(some 56), .len (.t 55), none, []⟩, ⟨(some 57), .bslice 1 1 [(.int .i64 0)] [(0, 1, (.t 56))], none, []⟩, ⟨(some 58), .call 94 [(.t 53), (.t 57)], none, []⟩])
  (.seq (.seq (.region false [⟨(some 59), .faddr 6 (.t 1), none, []⟩, ⟨(some 60), .load none (.t 59), none, []⟩, ⟨(some 61), .len (.t 60), none, []⟩, ⟨(some 62), .mov (.k (.sc (.int .i64 0))), none, []⟩])
  (.block 2 (.loop c_snapshot_Encodeb1)))
  (.seq (.region false [⟨(some 70), .mov (.t 4), none, []⟩, ⟨(some 71), .faddr 7 (.t 1), none, []⟩, ⟨(some 72), .load none (.t 71), none, []⟩, ⟨(some 73), .len (.t 72), none, []⟩, ⟨(some 74), .bslice 1 1 [(.int .i64 0)] [(0, 1, (.t 73))], none, []⟩, ⟨(some 75), .call 94 [(.t 70), (.t 74)], none, []⟩])
  (.seq (.seq (.region false [⟨(some 76), .faddr 7 (.t 1), none, []⟩, ⟨(some 77), .load none (.t 76), none, []⟩, ⟨(some 78), .len (.t 77), none, []⟩, ⟨(some 79), .mov (.k (.sc (.int .i64 0))), none, []⟩])
  (.block 4 (.loop c_snapshot_Encodeb2)))
  (.seq (.region false [⟨(some 87), .mov (.t 4), none, []⟩, ⟨(some 88), .faddr 8 (.t 1), none, []⟩, ⟨(some 89), .load none (.t 88), none, []⟩, ⟨(some 90), .len (.t 89), none, []⟩, ⟨(some 91), .bslice 1 1 [(.int .i64 0)] [(0, 1, (.t 90))], none, []⟩, ⟨(some 92), .call 94 [(.t 87), (.t 91)], none, []⟩])
  (.seq (.seq (.region false [⟨(some 93), .faddr 8 (.t 1), none, []⟩, ⟨(some 94), .load none (.t 93), none, []⟩, ⟨(some 95), .len (.t 94), none, []⟩, ⟨(some 96), .mov (.k (.sc (.int .i64 0))), none, []⟩])
  (.block 6 (.loop c_snapshot_Encodeb3)))
  (.seq (.region false [⟨(some 104), .mov (.t 4), none, []⟩, ⟨(some 105), .faddr 9 (.t 1), none, []⟩, ⟨(some 106), .load none (.t 105), none, []⟩, ⟨(some 107), .faddr 10 (.t 1), none, []⟩, ⟨(some 108), .load none (.t 107), none, []⟩, ⟨(some 109), .bslice 1 2 [(.int .i64 0), (.int .i64 0)] [(0, 1, (.t 106)), (1, 1, (.t 108))], none, []⟩, ⟨(some 110), .call 94 [(.t 104), (.t 109)], none, []⟩])
  (.seq (.region false [⟨(some 111), .mov (.t 4), none, []⟩, ⟨(some 112), .nilck (.t 111), none, []⟩, ⟨(some 113), .faddr 0 (.t 112), none, []⟩, ⟨(some 114), .load none (.t 113), none, []⟩, ⟨(some 115), .call 100 [(.t 114)], none, []⟩, ⟨(some 2), .mov (.t 115), none, []⟩, ⟨(some 3), .mov (.k (.sc (.int .i64 0))), none, []⟩])
  .ret)))))))))))))))
theorem is_snapshot_Encode : compile Try.prog Try.f72.ntmps (Try.f72.body.getD .skip) = some c_snapshot_Encode.strip := by kernel_rfl
abbrev F_checksum_Mix64 : Nat := 53
def c_checksum_Mix64 : ACode := (.seq (.region false [⟨(some 4), .mov (.k (.sc (.int .u64 0))), none, []⟩])
  (.seq (.region false [⟨(some 6), .mov (.t 0), none, []⟩, ⟨(some 7), .mov (.t 1), none, []⟩, ⟨(some 8), .convI .u64 (.t 7), none, []⟩, ⟨(some 9), .bin .xor (.t 6) (.t 8), none, []⟩, ⟨(some 10), .bin .mul (.t 9) (.k (.sc (.int .u64 11400714819323198485))), none, []⟩, ⟨(some 5), .mov (.t 10), none, []⟩])
  (.seq (.region false [⟨(some 11), .mov (.t 5), none, []⟩, ⟨(some 12), .mov (.t 5), none, []⟩, ⟨(some 13), .bin .shr (.t 12) (.k (.sc (.int .u64 32))), none, []⟩, ⟨(some 14), .bin .xor (.t 11) (.t 13), none, []⟩, ⟨(some 15), .bin .mul (.t 14) (.k (.sc (.int .u64 15485907386658061715))), none, []⟩, ⟨(some 5), .mov (.t 15), none, []⟩])
  (.seq (.region false [⟨(some 16), .mov (.t 5), none, []⟩, ⟨(some 17), .mov (.t 5), none, []⟩, ⟨(some 18), .bin .shr (.t 17) (.k (.sc (.int .u64 29))), none, []⟩, ⟨(some 19), .bin .xor (.t 16) (.t 18), none, []⟩, ⟨(some 4), .mov (.t 19), none, []⟩])
  .ret))))
theorem is_checksum_Mix64 : compile Try.prog Try.f53.ntmps (Try.f53.body.getD .skip) = some c_checksum_Mix64.strip := by kernel_rfl
abbrev F_checksum_HashInts : Nat := 51
def c_checksum_HashIntsb0 : ACode := (.seq (.region false [⟨(some 12), .bin .lss (.t 11) (.t 10), none, []⟩])
  (.seq (.cond (.t 12) .skip (.exit 0))
  (.seq (.block 1 (.seq (.region false [⟨(some 13), .iaddr 1 (.t 9) (.t 11), none, []⟩, ⟨(some 14), .load none (.t 13), none, []⟩, ⟨(some 5), .mov (.t 14), none, []⟩])
  (.region false [⟨(some 15), .mov (.t 3), none, []⟩, ⟨(some 16), .mov (.t 5), none, []⟩, ⟨(some 17), .call 53 [(.t 15), (.t 16)], none, []⟩, ⟨(some 3), .mov (.t 17), none, []⟩])))
  (.region false [⟨(some 18), .bin .add (.t 11) (.k (.sc (.int .i64 1))), none, []⟩, ⟨(some 11), .mov (.t 18), none, []⟩]))))
def c_checksum_HashInts : ACode := (.seq (.region false [⟨(some 2), .mov (.k (.sc (.int .u64 0))), none, []⟩])
  (.seq (.region false [⟨(some 6), .mov (.t 0), none, []⟩, ⟨(some 7), .len (.t 6), none, []⟩, ⟨(some 8), .convI .u64 (.t 7), none, []⟩, ⟨(some 3), .mov (.t 8), none, []⟩])
  (.seq (.seq (.region false [⟨(some 9), .mov (.t 0), none, []⟩, ⟨(some 10), .len (.t 9), none, []⟩, ⟨(some 11), .mov (.k (.sc (.int .i64 0))), none, []⟩])
  (.block 0 (.loop c_checksum_HashIntsb0)))
  (.seq (.region false [⟨(some 19), .mov (.t 3), none, []⟩, ⟨(some 2), .mov (.t 19), none, []⟩])
  .ret))))
theorem is_checksum_HashInts : compile Try.prog Try.f51.ntmps (Try.f51.body.getD .skip) = some c_checksum_HashInts.strip := by kernel_rfl
abbrev F_statehash_OfBytes : Nat := 29
def c_statehash_OfBytesb0 : ACode := (.seq (.region false [⟨(some 12), .bin .lss (.t 11) (.t 10), none, []⟩])
  (.seq (.cond (.t 12) .skip (.exit 0))
  (.seq (.block 1 (.seq (.region false [⟨(some 13), .iaddr 1 (.t 9) (.t 11), none, []⟩, ⟨(some 14), .load none (.t 13), none, []⟩, ⟨(some 5), .mov (.t 14), none, []⟩])
  (.region false [⟨(some 15), .mov (.t 3), none, []⟩, ⟨(some 16), .mov (.t 5), none, []⟩, ⟨(some 17), .convI .i64 (.t 16), none, []⟩, ⟨(some 18), .bslice 1 1 [(.int .i64 0)] [(0, 1, (.t 17))], none, []⟩, ⟨(some 19), .append 1 8 (.t 15) (.t 18), none, []⟩, ⟨(some 3), .mov (.t 19), none, []⟩])))
  (.region false [⟨(some 20), .bin .add (.t 11) (.k (.sc (.int .i64 1))), none, []⟩, ⟨(some 11), .mov (.t 20), none, []⟩]))))
def c_statehash_OfBytes : ACode := (.seq (.region false [⟨(some 2), .mov (.k (.sc (.int .u64 0))), none, []⟩])
  (.seq (.region false [⟨(some 6), .mov (.t 0), none, []⟩, ⟨(some 7), .len (.t 6), none, []⟩, ⟨(some 8), .mkslice 1 8 [(.int .i64 0)] (.k (.sc (.int .i64 0))) (.t 7), none, []⟩, ⟨(some 3), .mov (.t 8), none, []⟩])
  (.seq (.seq (.region false [⟨(some 9), .mov (.t 0), none, []⟩, ⟨(some 10), .len (.t 9), none, []⟩, ⟨(some 11), .mov (.k (.sc (.int .i64 0))), none, []⟩])
  (.block 0 (.loop c_statehash_OfBytesb0)))
  (.seq (.region false [⟨(some 21), .mov (.t 3), none, []⟩, ⟨(some 22), .call 51 [(.t 21)], none, []⟩, ⟨(some 2), .mov (.t 22), none, []⟩])
  .ret))))
theorem is_statehash_OfBytes : compile Try.prog Try.f29.ntmps (Try.f29.body.getD .skip) = some c_statehash_OfBytes.strip := by kernel_rfl
abbrev F_statehash_OfWorld : Nat := 50
def c_statehash_OfWorld : ACode := (.seq (.region false [⟨(some 1), .box (.t 0), none, []⟩, ⟨(some 2), .mov (.k (.sc (.int .u64 0))), none, []⟩])
  (.seq (.region false [⟨(some 6), .load (some 11) (.t 1), none, []⟩, ⟨(some 7), .call 72 [(.t 6)], none, []⟩, ⟨(some 5), .mov (.t 7), none, []⟩, ⟨(some 8), .ext (.t 5) 0, none, []⟩, ⟨(some 9), .ext (.t 5) 1, none, []⟩, ⟨(some 3), .mov (.t 8), none, []⟩, ⟨(some 4), .mov (.t 9), none, []⟩])
  (.seq (.seq (.region false [⟨(some 10), .mov (.t 4), none, []⟩, ⟨(some 11), .bin .neq (.t 10) (.k (.sc (.int .i64 0))), none, []⟩])
  (.cond (.t 11) (.seq (.region false [⟨(some 2), .mov (.k (.sc (.int .u64 0))), none, []⟩])
  .ret) .skip))
  (.seq (.region false [⟨(some 12), .mov (.t 3), none, []⟩, ⟨(some 13), .call 29 [(.t 12)], none, []⟩, ⟨(some 2), .mov (.t 13), none, []⟩])
  .ret))))
theorem is_statehash_OfWorld : compile Try.prog Try.f50.ntmps (Try.f50.body.getD .skip) = some c_statehash_OfWorld.strip := by kernel_rfl
abbrev F_statehash_Chain : Nat := 31
def c_statehash_Chainb0 : ACode := (.seq (.region false [⟨(some 9), .bin .lss (.t 8) (.t 7), none, []⟩])
  (.seq (.cond (.t 9) .skip (.exit 0))
  (.seq (.block 1 (.seq (.region false [⟨(some 10), .iaddr 1 (.t 6) (.t 8), none, []⟩, ⟨(some 11), .load none (.t 10), none, []⟩, ⟨(some 5), .mov (.t 11), none, []⟩])
  (.region false [⟨(some 12), .mov (.t 3), none, []⟩, ⟨(some 13), .mov (.t 5), none, []⟩, ⟨(some 14), .convI .i64 (.t 13), none, []⟩, ⟨(some 15), .call 53 [(.t 12), (.t 14)], none, []⟩, ⟨(some 3), .mov (.t 15), none, []⟩])))
  (.region false [⟨(some 16), .bin .add (.t 8) (.k (.sc (.int .i64 1))), none, []⟩, ⟨(some 8), .mov (.t 16), none, []⟩]))))
def c_statehash_Chain : ACode := (.seq (.region false [⟨(some 2), .mov (.k (.sc (.int .u64 0))), none, []⟩])
  (.seq (.region false [⟨(some 3), .mov (.k (.sc (.int .u64 0))), none, []⟩])
  (.seq (.seq (.region false [⟨(some 6), .mov (.t 0), none, []⟩, ⟨(some 7), .len (.t 6), none, []⟩, ⟨(some 8), .mov (.k (.sc (.int .i64 0))), none, []⟩])
  (.block 0 (.loop c_statehash_Chainb0)))
  (.seq (.region false [⟨(some 17), .mov (.t 3), none, []⟩, ⟨(some 2), .mov (.t 17), none, []⟩])
  .ret))))
theorem is_statehash_Chain : compile Try.prog Try.f31.ntmps (Try.f31.body.getD .skip) = some c_statehash_Chain.strip := by kernel_rfl
abbrev F_law46_example : Nat := 28
def c_law46_example : ACode := (.seq (.region false [⟨(some 0), .mov (.k (.sc (.bool false))), none, []⟩])
  (.seq (.region false [⟨(some 1), .bslice 1 3 [(.int .u64 0), (.int .u64 0), (.int .u64 0)] [(0, 1, (.k (.sc (.int .u64 1)))), (1, 1, (.k (.sc (.int .u64 2)))), (2, 1, (.k (.sc (.int .u64 3))))], none, []⟩, ⟨(some 2), .bslice 1 3 [(.int .u64 0), (.int .u64 0), (.int .u64 0)] [(0, 1, (.k (.sc (.int .u64 1)))), (1, 1, (.k (.sc (.int .u64 5)))), (2, 1, (.k (.sc (.int .u64 3))))], none, []⟩, ⟨(some 3), .call 33 [(.t 1), (.t 2)], none, []⟩, ⟨(some 4), .bin .eql (.t 3) (.k (.sc (.int .i64 1))), none, []⟩, ⟨(some 5), .mov (.t 4), none, []⟩, ⟨(some 6), .call 33 [(.k (.sc (.slice none 0 0))), (.k (.sc (.slice none 0 0)))], (some (5, true)), []⟩, ⟨(some 7), .bin .eql (.t 6) (.k (.sc (.int .i64 (-1)))), (some (5, true)), []⟩, ⟨(some 8), .pick (.t 5) (.t 7) (.k (.sc (.bool false))), none, []⟩, ⟨(some 9), .mov (.t 8), none, []⟩, ⟨(some 10), .build [(.int .i64 0), (.int .i64 0), (.int .i64 0), (.int .i64 0), (.int .i64 0), (.slice none 0 0), (.slice none 0 0), (.slice none 0 0), (.slice none 0 0), (.int .i64 0), (.int .i64 0)] [], (some (9, true)), []⟩, ⟨(some 11), .call 50 [(.t 10)], (some (9, true)), []⟩, ⟨(some 12), .bin .eql (.t 11) (.k (.sc (.int .u64 0))), (some (9, true)), []⟩, ⟨(some 13), .pick (.t 9) (.t 12) (.k (.sc (.bool false))), none, []⟩, ⟨(some 14), .mov (.t 13), none, []⟩, ⟨(some 15), .call 29 [(.k (.sc (.slice none 0 0)))], (some (14, true)), []⟩, ⟨(some 16), .bin .eql (.t 15) (.k (.sc (.int .u64 0))), (some (14, true)), []⟩, ⟨(some 17), .pick (.t 14) (.t 16) (.k (.sc (.bool false))), none, []⟩, ⟨(some 18), .mov (.t 17), none, []⟩, ⟨(some 19), .call 31 [(.k (.sc (.slice none 0 0)))], (some (18, true)), []⟩, ⟨(some 20), .bin .eql (.t 19) (.k (.sc (.int .u64 0))), (some (18, true)), []⟩, ⟨(some 21), .pick (.t 18) (.t 20) (.k (.sc (.bool false))), none, []⟩, ⟨(some 22), .mov (.t 21), none, []⟩, ⟨(some 23), .bslice 1 1 [(.int .u8 0)] [(0, 1, (.k (.sc (.int .u8 7))))], (some (22, true)), []⟩, ⟨(some 24), .call 29 [(.t 23)], (some (22, true)), []⟩, ⟨(some 25), .bslice 1 1 [(.int .i64 0)] [(0, 1, (.k (.sc (.int .i64 7))))], (some (22, true)), []⟩, ⟨(some 26), .call 51 [(.t 25)], (some (22, true)), []⟩, ⟨(some 27), .bin .eql (.t 24) (.t 26), (some (22, true)), []⟩, ⟨(some 28), .pick (.t 22) (.t 27) (.k (.sc (.bool false))), none, []⟩, ⟨(some 0), .mov (.t 28), none, []⟩])
  .ret))
theorem is_law46_example : compile Try.prog Try.f28.ntmps (Try.f28.body.getD .skip) = some c_law46_example.strip := by kernel_rfl
abbrev F_r09_Mix64 : Nat := 52
def c_r09_Mix64 : ACode := (.seq (.region false [⟨(some 4), .mov (.k (.sc (.int .u64 0))), none, []⟩])
  (.seq (.region false [⟨(some 6), .mov (.t 0), none, []⟩, ⟨(some 7), .mov (.t 1), none, []⟩, ⟨(some 8), .convI .u64 (.t 7), none, []⟩, ⟨(some 9), .bin .xor (.t 6) (.t 8), none, []⟩, ⟨(some 10), .bin .mul (.t 9) (.k (.sc (.int .u64 11400714819323198485))), none, []⟩, ⟨(some 5), .mov (.t 10), none, []⟩])
  (.seq (.region false [⟨(some 11), .mov (.t 5), none, []⟩, ⟨(some 12), .mov (.t 5), none, []⟩, ⟨(some 13), .bin .quo (.t 12) (.k (.sc (.int .u64 4294967296))), none, []⟩, ⟨(some 14), .bin .xor (.t 11) (.t 13), none, []⟩, ⟨(some 5), .mov (.t 14), none, []⟩])
  (.seq (.region false [⟨(some 15), .mov (.t 5), none, []⟩, ⟨(some 16), .bin .mul (.t 15) (.k (.sc (.int .u64 15485907386658061715))), none, []⟩, ⟨(some 5), .mov (.t 16), none, []⟩])
  (.seq (.region false [⟨(some 17), .mov (.t 5), none, []⟩, ⟨(some 18), .mov (.t 5), none, []⟩, ⟨(some 19), .bin .quo (.t 18) (.k (.sc (.int .u64 536870912))), none, []⟩, ⟨(some 20), .bin .xor (.t 17) (.t 19), none, []⟩, ⟨(some 4), .mov (.t 20), none, []⟩])
  .ret)))))
theorem is_r09_Mix64 : compile Try.prog Try.f52.ntmps (Try.f52.body.getD .skip) = some c_r09_Mix64.strip := by kernel_rfl
abbrev F_r46_OfBytes : Nat := 30
def c_r46_OfBytesb0 : ACode := (.seq (.seq (.region false [⟨(some 8), .mov (.t 4), none, []⟩, ⟨(some 9), .mov (.t 0), none, []⟩, ⟨(some 10), .len (.t 9), none, []⟩, ⟨(some 11), .bin .lss (.t 8) (.t 10), none, []⟩])
  (.cond (.t 11) .skip (.exit 0)))
  (.seq (.block 1 (.region false [⟨(some 14), .mov (.t 3), none, []⟩, ⟨(some 15), .mov (.t 0), none, []⟩, ⟨(some 16), .mov (.t 4), none, []⟩, ⟨(some 17), .iaddr 1 (.t 15) (.t 16), none, []⟩, ⟨(some 18), .load none (.t 17), none, []⟩, ⟨(some 19), .convI .i64 (.t 18), none, []⟩, ⟨(some 20), .call 52 [(.t 14), (.t 19)], none, []⟩, ⟨(some 3), .mov (.t 20), none, []⟩]))
  (.region false [⟨(some 12), .mov (.t 4), none, []⟩, ⟨(some 13), .bin .add (.t 12) (.k (.sc (.int .i64 1))), none, []⟩, ⟨(some 4), .mov (.t 13), none, []⟩])))
def c_r46_OfBytes : ACode := (.seq (.region false [⟨(some 2), .mov (.k (.sc (.int .u64 0))), none, []⟩])
  (.seq (.region false [⟨(some 5), .mov (.t 0), none, []⟩, ⟨(some 6), .len (.t 5), none, []⟩, ⟨(some 7), .convI .u64 (.t 6), none, []⟩, ⟨(some 3), .mov (.t 7), none, []⟩])
  (.seq (.seq (.region false [⟨(some 4), .mov (.k (.sc (.int .i64 0))), none, []⟩])
  (.block 0 (.loop c_r46_OfBytesb0)))
  (.seq (.region false [⟨(some 21), .mov (.t 3), none, []⟩, ⟨(some 2), .mov (.t 21), none, []⟩])
  .ret))))
theorem is_r46_OfBytes : compile Try.prog Try.f30.ntmps (Try.f30.body.getD .skip) = some c_r46_OfBytes.strip := by kernel_rfl
abbrev F_law46_StateHashBytes : Nat := 8
def c_law46_StateHashBytes : ACode := (.seq (.region false [⟨(some 2), .mov (.k (.sc (.bool false))), none, []⟩])
  (.seq (.seq (.region false [⟨(some 3), .mov (.t 0), none, []⟩, ⟨(some 4), .len (.t 3), none, []⟩, ⟨(some 5), .bin .gtr (.t 4) (.k (.sc (.int .i64 20000))), none, []⟩])
  (.cond (.t 5) (.seq (.region false [⟨(some 6), .call 28 [], none, []⟩, ⟨(some 2), .mov (.t 6), none, []⟩])
  .ret) .skip))
  (.seq (.region false [⟨(some 7), .mov (.t 0), none, []⟩, ⟨(some 8), .call 29 [(.t 7)], none, []⟩, ⟨(some 9), .mov (.t 0), none, []⟩, ⟨(some 10), .call 30 [(.t 9)], none, []⟩, ⟨(some 11), .bin .eql (.t 8) (.t 10), none, []⟩, ⟨(some 12), .mov (.t 11), none, []⟩, ⟨(some 13), .call 28 [], (some (12, true)), []⟩, ⟨(some 14), .pick (.t 12) (.t 13) (.k (.sc (.bool false))), none, []⟩, ⟨(some 2), .mov (.t 14), none, []⟩])
  .ret)))
theorem is_law46_StateHashBytes : compile Try.prog Try.f8.ntmps (Try.f8.body.getD .skip) = some c_law46_StateHashBytes.strip := by kernel_rfl
abbrev F_r46_Chain : Nat := 32
def c_r46_Chainb0 : ACode := (.seq (.seq (.region false [⟨(some 5), .mov (.t 4), none, []⟩, ⟨(some 6), .mov (.t 0), none, []⟩, ⟨(some 7), .len (.t 6), none, []⟩, ⟨(some 8), .bin .lss (.t 5) (.t 7), none, []⟩])
  (.cond (.t 8) .skip (.exit 0)))
  (.seq (.block 1 (.region false [⟨(some 11), .mov (.t 3), none, []⟩, ⟨(some 12), .mov (.t 0), none, []⟩, ⟨(some 13), .mov (.t 4), none, []⟩, ⟨(some 14), .iaddr 1 (.t 12) (.t 13), none, []⟩, ⟨(some 15), .load none (.t 14), none, []⟩, ⟨(some 16), .convI .i64 (.t 15), none, []⟩, ⟨(some 17), .call 52 [(.t 11), (.t 16)], none, []⟩, ⟨(some 3), .mov (.t 17), none, []⟩]))
  (.region false [⟨(some 9), .mov (.t 4), none, []⟩, ⟨(some 10), .bin .add (.t 9) (.k (.sc (.int .i64 1))), none, []⟩, ⟨(some 4), .mov (.t 10), none, []⟩])))
def c_r46_Chain : ACode := (.seq (.region false [⟨(some 2), .mov (.k (.sc (.int .u64 0))), none, []⟩])
  (.seq (.region false [⟨(some 3), .mov (.k (.sc (.int .u64 0))), none, []⟩])
  (.seq (.seq (.region false [⟨(some 4), .mov (.k (.sc (.int .i64 0))), none, []⟩])
  (.block 0 (.loop c_r46_Chainb0)))
  (.seq (.region false [⟨(some 18), .mov (.t 3), none, []⟩, ⟨(some 2), .mov (.t 18), none, []⟩])
  .ret))))
theorem is_r46_Chain : compile Try.prog Try.f32.ntmps (Try.f32.body.getD .skip) = some c_r46_Chain.strip := by kernel_rfl
abbrev F_r46_FirstDifference : Nat := 34
def c_r46_FirstDifferenceb0 : ACode := (.seq (.seq (.region false [⟨(some 6), .mov (.t 5), none, []⟩, ⟨(some 7), .mov (.t 0), none, []⟩, ⟨(some 8), .len (.t 7), none, []⟩, ⟨(some 9), .bin .lss (.t 6) (.t 8), none, []⟩, ⟨(some 10), .mov (.t 9), none, []⟩, ⟨(some 11), .mov (.t 5), (some (10, false)), []⟩, ⟨(some 12), .mov (.t 1), (some (10, false)), []⟩, ⟨(some 13), .len (.t 12), (some (10, false)), []⟩, ⟨(some 14), .bin .lss (.t 11) (.t 13), (some (10, false)), []⟩, ⟨(some 15), .pick (.t 10) (.k (.sc (.bool true))) (.t 14), none, []⟩])
  (.cond (.t 15) .skip (.exit 0)))
  (.seq (.block 1 (.seq (.region true [⟨(some 18), .mov (.t 5), none, []⟩, ⟨(some 19), .mov (.t 0), none, []⟩, ⟨(some 20), .len (.t 19), none, []⟩, ⟨(some 21), .bin .geq (.t 18) (.t 20), none, []⟩, ⟨(some 22), .mov (.t 21), none, []⟩, ⟨(some 23), .mov (.t 5), (some (22, false)), []⟩, ⟨(some 24), .mov (.t 1), (some (22, false)), []⟩, ⟨(some 25), .len (.t 24), (some (22, false)), []⟩, ⟨(some 26), .bin .geq (.t 23) (.t 25), (some (22, false)), []⟩, ⟨(some 27), .pick (.t 22) (.k (.sc (.bool true))) (.t 26), none, []⟩, ⟨(some 28), .mov (.t 27), none, []⟩, ⟨(some 29), .mov (.t 0), (some (28, false)), []⟩, ⟨(some 30), .mov (.t 5), (some (28, false)), []⟩, ⟨(some 31), .iaddr 1 (.t 29) (.t 30), (some (28, false)), []⟩, ⟨(some 32), .load none (.t 31), (some (28, false)), []⟩, ⟨(some 33), .mov (.t 1), (some (28, false)), []⟩, ⟨(some 34), .mov (.t 5), (some (28, false)), []⟩, ⟨(some 35), .iaddr 1 (.t 33) (.t 34), (some (28, false)), []⟩, ⟨(some 36), .load none (.t 35), (some (28, false)), []⟩, ⟨(some 37), .bin .neq (.t 32) (.t 36), (some (28, false)), []⟩, ⟨(some 38), .pick (.t 28) (.k (.sc (.bool true))) (.t 37), none, []⟩])
  (.cond (.t 38) (.seq (.region false [⟨(some 39), .mov (.t 5), none, []⟩, ⟨(some 4), .mov (.t 39), none, []⟩])
  .ret) .skip)))
  (.region false [⟨(some 16), .mov (.t 5), none, []⟩, ⟨(some 17), .bin .add (.t 16) (.k (.sc (.int .i64 1))), none, []⟩, ⟨(some 5), .mov (.t 17), none, []⟩])))
def c_r46_FirstDifference : ACode := (.seq (.region false [⟨(some 4), .mov (.k (.sc (.int .i64 0))), none, []⟩])
  (.seq (.seq (.region false [⟨(some 5), .mov (.k (.sc (.int .i64 0))), none, []⟩])
  (.block 0 (.loop c_r46_FirstDifferenceb0)))
  (.seq (.region false [⟨(some 4), .mov (.k (.sc (.int .i64 (-1)))), none, []⟩])
  .ret)))
theorem is_r46_FirstDifference : compile Try.prog Try.f34.ntmps (Try.f34.body.getD .skip) = some c_r46_FirstDifference.strip := by kernel_rfl
abbrev F_law46_StateHashChain : Nat := 9
def c_law46_StateHashChain : ACode := (.seq (.region false [⟨(some 4), .mov (.k (.sc (.bool false))), none, []⟩])
  (.seq (.seq (.region false [⟨(some 5), .mov (.t 0), none, []⟩, ⟨(some 6), .len (.t 5), none, []⟩, ⟨(some 7), .bin .gtr (.t 6) (.k (.sc (.int .i64 2000))), none, []⟩, ⟨(some 8), .mov (.t 7), none, []⟩, ⟨(some 9), .mov (.t 1), (some (8, false)), []⟩, ⟨(some 10), .len (.t 9), (some (8, false)), []⟩, ⟨(some 11), .bin .gtr (.t 10) (.k (.sc (.int .i64 2000))), (some (8, false)), []⟩, ⟨(some 12), .pick (.t 8) (.k (.sc (.bool true))) (.t 11), none, []⟩])
  (.cond (.t 12) (.seq (.region false [⟨(some 13), .call 28 [], none, []⟩, ⟨(some 4), .mov (.t 13), none, []⟩])
  .ret) .skip))
  (.seq (.region false [⟨(some 14), .mov (.t 0), none, []⟩, ⟨(some 15), .call 31 [(.t 14)], none, []⟩, ⟨(some 16), .mov (.t 0), none, []⟩, ⟨(some 17), .call 32 [(.t 16)], none, []⟩, ⟨(some 18), .bin .eql (.t 15) (.t 17), none, []⟩, ⟨(some 19), .mov (.t 18), none, []⟩, ⟨(some 20), .mov (.t 0), (some (19, true)), []⟩, ⟨(some 21), .mov (.t 1), (some (19, true)), []⟩, ⟨(some 22), .call 33 [(.t 20), (.t 21)], (some (19, true)), []⟩, ⟨(some 23), .mov (.t 0), (some (19, true)), []⟩, ⟨(some 24), .mov (.t 1), (some (19, true)), []⟩, ⟨(some 25), .call 34 [(.t 23), (.t 24)], (some (19, true)), []⟩, ⟨(some 26), .bin .eql (.t 22) (.t 25), (some (19, true)), []⟩, ⟨(some 27), .pick (.t 19) (.t 26) (.k (.sc (.bool false))), none, []⟩, ⟨(some 28), .mov (.t 27), none, []⟩, ⟨(some 29), .mov (.t 1), (some (28, true)), []⟩, ⟨(some 30), .mov (.t 0), (some (28, true)), []⟩, ⟨(some 31), .call 33 [(.t 29), (.t 30)], (some (28, true)), []⟩, ⟨(some 32), .mov (.t 0), (some (28, true)), []⟩, ⟨(some 33), .mov (.t 1), (some (28, true)), []⟩, ⟨(some 34), .call 33 [(.t 32), (.t 33)], (some (28, true)), []⟩, ⟨(some 35), .bin .eql (.t 31) (.t 34), (some (28, true)), []⟩, ⟨(some 36), .pick (.t 28) (.t 35) (.k (.sc (.bool false))), none, []⟩, ⟨(some 37), .mov (.t 36), none, []⟩, ⟨(some 38), .mov (.t 0), (some (37, true)), []⟩, ⟨(some 39), .mov (.t 0), (some (37, true)), []⟩, ⟨(some 40), .call 33 [(.t 38), (.t 39)], (some (37, true)), []⟩, ⟨(some 41), .bin .eql (.t 40) (.k (.sc (.int .i64 (-1)))), (some (37, true)), []⟩, ⟨(some 42), .pick (.t 37) (.t 41) (.k (.sc (.bool false))), none, []⟩, ⟨(some 43), .mov (.t 42), none, []⟩, ⟨(some 44), .call 28 [], (some (43, true)), []⟩, ⟨(some 45), .pick (.t 43) (.t 44) (.k (.sc (.bool false))), none, []⟩, ⟨(some 4), .mov (.t 45), none, []⟩])
  .ret)))
theorem is_law46_StateHashChain : compile Try.prog Try.f9.ntmps (Try.f9.body.getD .skip) = some c_law46_StateHashChain.strip := by kernel_rfl
abbrev F_law46_StateHashPrefix : Nat := 10
def c_law46_StateHashPrefix : ACode := (.seq (.region false [⟨(some 4), .mov (.k (.sc (.bool false))), none, []⟩])
  (.seq (.seq (.region false [⟨(some 6), .mov (.t 0), none, []⟩, ⟨(some 7), .len (.t 6), none, []⟩, ⟨(some 8), .bin .gtr (.t 7) (.k (.sc (.int .i64 2000))), none, []⟩, ⟨(some 9), .mov (.t 8), none, []⟩, ⟨(some 10), .mov (.t 1), (some (9, false)), []⟩, ⟨(some 11), .len (.t 10), (some (9, false)), []⟩, ⟨(some 12), .bin .gtr (.t 11) (.k (.sc (.int .i64 2000))), (some (9, false)), []⟩, ⟨(some 13), .pick (.t 9) (.k (.sc (.bool true))) (.t 12), none, []⟩])
  (.cond (.t 13) (.seq (.region false [⟨(some 14), .call 28 [], none, []⟩, ⟨(some 4), .mov (.t 14), none, []⟩])
  .ret) .skip))
  (.seq (.region false [⟨(some 15), .mov (.t 0), none, []⟩, ⟨(some 16), .mov (.t 1), none, []⟩, ⟨(some 17), .call 33 [(.t 15), (.t 16)], none, []⟩, ⟨(some 5), .mov (.t 17), none, []⟩])
  (.seq (.seq (.region false [⟨(some 18), .mov (.t 5), none, []⟩, ⟨(some 19), .bin .lss (.t 18) (.k (.sc (.int .i64 0))), none, []⟩])
  (.cond (.t 19) (.seq (.region false [⟨(some 20), .mov (.t 0), none, []⟩, ⟨(some 21), .len (.t 20), none, []⟩, ⟨(some 22), .mov (.t 1), none, []⟩, ⟨(some 23), .len (.t 22), none, []⟩, ⟨(some 24), .bin .eql (.t 21) (.t 23), none, []⟩, ⟨(some 25), .mov (.t 24), none, []⟩, ⟨(some 26), .mov (.t 0), (some (25, true)), []⟩, ⟨(some 27), .call 31 [(.t 26)], (some (25, true)), []⟩, ⟨(some 28), .mov (.t 1), (some (25, true)), []⟩, ⟨(some 29), .call 31 [(.t 28)], (some (25, true)), []⟩, ⟨(some 30), .bin .eql (.t 27) (.t 29), (some (25, true)), []⟩, ⟨(some 31), .pick (.t 25) (.t 30) (.k (.sc (.bool false))), none, []⟩, ⟨(some 32), .mov (.t 31), none, []⟩, ⟨(some 33), .call 28 [], (some (32, true)), []⟩, ⟨(some 34), .pick (.t 32) (.t 33) (.k (.sc (.bool false))), none, []⟩, ⟨(some 4), .mov (.t 34), none, []⟩])
  .ret) .skip))
  (.seq (.seq (.region true [⟨(some 35), .mov (.t 5), none, []⟩, ⟨(some 36), .mov (.t 0), none, []⟩, ⟨(some 37), .len (.t 36), none, []⟩, ⟨(some 38), .bin .gtr (.t 35) (.t 37), none, []⟩, ⟨(some 39), .mov (.t 38), none, []⟩, ⟨(some 40), .mov (.t 5), (some (39, false)), []⟩, ⟨(some 41), .mov (.t 1), (some (39, false)), []⟩, ⟨(some 42), .len (.t 41), (some (39, false)), []⟩, ⟨(some 43), .bin .gtr (.t 40) (.t 42), (some (39, false)), []⟩, ⟨(some 44), .pick (.t 39) (.k (.sc (.bool true))) (.t 43), none, []⟩, ⟨(some 45), .mov (.t 44), none, []⟩, ⟨(some 46), .mov (.t 0), (some (45, false)), []⟩, ⟨(some 47), .mov (.t 5), (some (45, false)), []⟩, ⟨(some 48), .slice 1 (.t 46) none (some (.t 47)) none, (some (45, false)), []⟩, ⟨(some 49), .call 31 [(.t 48)], (some (45, false)), []⟩, ⟨(some 50), .mov (.t 1), (some (45, false)), []⟩, ⟨(some 51), .mov (.t 5), (some (45, false)), []⟩, ⟨(some 52), .slice 1 (.t 50) none (some (.t 51)) none, (some (45, false)), [14]⟩, ⟨(some 53), .call 31 [(.t 52)], (some (45, false)), []⟩, ⟨(some 54), .bin .neq (.t 49) (.t 53), (some (45, false)), []⟩, ⟨(some 55), .pick (.t 45) (.k (.sc (.bool true))) (.t 54), none, []⟩])
  (.cond (.t 55) (.seq (.region false [⟨(some 4), .mov (.k (.sc (.bool false))), none, []⟩])
  .ret) .skip))
  (.seq (.region true [⟨(some 56), .mov (.t 5), none, []⟩, ⟨(some 57), .mov (.t 0), none, []⟩, ⟨(some 58), .len (.t 57), none, []⟩, ⟨(some 59), .bin .eql (.t 56) (.t 58), none, []⟩, ⟨(some 60), .mov (.t 59), none, []⟩, ⟨(some 61), .mov (.t 5), (some (60, false)), []⟩, ⟨(some 62), .mov (.t 1), (some (60, false)), []⟩, ⟨(some 63), .len (.t 62), (some (60, false)), []⟩, ⟨(some 64), .bin .eql (.t 61) (.t 63), (some (60, false)), []⟩, ⟨(some 65), .pick (.t 60) (.k (.sc (.bool true))) (.t 64), none, []⟩, ⟨(some 66), .mov (.t 65), none, []⟩, ⟨(some 67), .mov (.t 0), (some (66, false)), []⟩, ⟨(some 68), .mov (.t 5), (some (66, false)), []⟩, ⟨(some 69), .bin .add (.t 68) (.k (.sc (.int .i64 1))), (some (66, false)), []⟩, ⟨(some 70), .slice 1 (.t 67) none (some (.t 69)) none, (some (66, false)), []⟩, ⟨(some 71), .call 31 [(.t 70)], (some (66, false)), []⟩, ⟨(some 72), .mov (.t 1), (some (66, false)), []⟩, ⟨(some 73), .mov (.t 5), (some (66, false)), []⟩, ⟨(some 74), .bin .add (.t 73) (.k (.sc (.int .i64 1))), (some (66, false)), []⟩, ⟨(some 75), .slice 1 (.t 72) none (some (.t 74)) none, (some (66, false)), [15]⟩, ⟨(some 76), .call 31 [(.t 75)], (some (66, false)), []⟩, ⟨(some 77), .bin .neq (.t 71) (.t 76), (some (66, false)), []⟩, ⟨(some 78), .pick (.t 66) (.k (.sc (.bool true))) (.t 77), none, []⟩, ⟨(some 79), .mov (.t 78), none, []⟩, ⟨(some 80), .call 28 [], (some (79, true)), []⟩, ⟨(some 81), .pick (.t 79) (.t 80) (.k (.sc (.bool false))), none, []⟩, ⟨(some 4), .mov (.t 81), none, []⟩])
  .ret))))))
theorem is_law46_StateHashPrefix : compile Try.prog Try.f10.ntmps (Try.f10.body.getD .skip) = some c_law46_StateHashPrefix.strip := by kernel_rfl
end Go.Abs
