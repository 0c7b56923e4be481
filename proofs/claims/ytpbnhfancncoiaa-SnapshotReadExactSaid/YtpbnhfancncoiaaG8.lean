/- A part of the walk: contracts of functions that the statement reaches. -/
import Derived.Test.YtpbnhfancncoiaaAbsD
import Derived.Test.YtpbnhfancncoiaaG7
set_option linter.unusedSimpArgs false
set_option linter.unusedVariables false
set_option linter.unnecessarySimpa false
set_option maxRecDepth 100000
set_option maxHeartbeats 2000000
set_option linter.unusedSimpArgs false
set_option linter.unusedVariables false
namespace Go.Abs
open Go.Proofs
open Api
theorem s_r45_ReadBody (b : List Int) (at' : Int) (hb : b.length ≤ 549755813888) (hB : bytes b) : CallsA Try.prog F_r45_ReadBody [encD 1 encU8 0 b, .sc (.int .i64 at')] [] (.tup [.agg (t3d (rBody b at')).1.enc, .sc (.int .i64 (t3d (rBody b at')).2.1), .sc (.int .i64 (t3d (rBody b at')).2.2)]) [] := by
  refine callsIR'_of (rs := [_, _, _]) (N := 25) hm Try.func14 (by kernel_rfl) (by kernel_rfl) is_r45_ReadBody (by kernel_rfl) (by kernel_rfl : rvOf Try.prog Try.f14.results.toList = some [(4, some (some 20)), (5, none), (6, none)]) (by decide) (by kernel_rfl) ?_
  simp only [c_r45_ReadBody, go_sem, ↓reduceIte, Nat.reduceEqDiff, reduceCtorEq, Nat.reduceAdd, Nat.reduceLeDiff, Nat.reduceMul, Nat.reduceSub, Int.reduceToNat]
  refine CallGi_flat (s_r45_readBody b (.ok at') hb hB) rfl ?_
  cases hp : rBody b at' with
  | error e =>
    have he := nerr_Body b _ _ hp
    have h2 := (agr_Body b).2.2 _ _ hp
    simp only [t3d, h2, rdB, rdO, rdE, nz_ne, nz_of he, go_sem, ↓reduceIte, Nat.reduceEqDiff, reduceCtorEq, Nat.reduceAdd, Nat.reduceLeDiff, Nat.reduceMul, Nat.reduceSub, Int.reduceToNat]
    try simp
    rw [if_neg he]
    (repeat' (with_reducible apply And.intro)) <;> first | rfl | exact avle_nilD rfl
  | ok x =>
    have h2 := (agr_Body b).2.1 _ _ hp
    simp only [t3d, h2, rdB, rdO, rdE, n00, go_sem, ↓reduceIte, Nat.reduceEqDiff, reduceCtorEq, Nat.reduceAdd, Nat.reduceLeDiff, Nat.reduceMul, Nat.reduceSub, Int.reduceToNat]
    try simp
theorem s_r45_ReadJoint (b : List Int) (at' : Int) (hb : b.length ≤ 549755813888) (hB : bytes b) : CallsA Try.prog F_r45_ReadJoint [encD 1 encU8 0 b, .sc (.int .i64 at')] [] (.tup [.agg (t3d (rJoint b at')).1.enc, .sc (.int .i64 (t3d (rJoint b at')).2.1), .sc (.int .i64 (t3d (rJoint b at')).2.2)]) [] := by
  refine callsIR'_of (rs := [_, _, _]) (N := 25) hm Try.func17 (by kernel_rfl) (by kernel_rfl) is_r45_ReadJoint (by kernel_rfl) (by kernel_rfl : rvOf Try.prog Try.f17.results.toList = some [(4, some (some 24)), (5, none), (6, none)]) (by decide) (by kernel_rfl) ?_
  simp only [c_r45_ReadJoint, go_sem, ↓reduceIte, Nat.reduceEqDiff, reduceCtorEq, Nat.reduceAdd, Nat.reduceLeDiff, Nat.reduceMul, Nat.reduceSub, Int.reduceToNat]
  refine CallGi_flat (s_r45_readJoint b (.ok at') hb hB) rfl ?_
  cases hp : rJoint b at' with
  | error e =>
    have he := nerr_Joint b _ _ hp
    have h2 := (agr_Joint b).2.2 _ _ hp
    simp only [t3d, h2, rdB, rdO, rdE, nz_ne, nz_of he, go_sem, ↓reduceIte, Nat.reduceEqDiff, reduceCtorEq, Nat.reduceAdd, Nat.reduceLeDiff, Nat.reduceMul, Nat.reduceSub, Int.reduceToNat]
    try simp
    rw [if_neg he]
    (repeat' (with_reducible apply And.intro)) <;> first | rfl | exact avle_nilD rfl
  | ok x =>
    have h2 := (agr_Joint b).2.1 _ _ hp
    simp only [t3d, h2, rdB, rdO, rdE, n00, go_sem, ↓reduceIte, Nat.reduceEqDiff, reduceCtorEq, Nat.reduceAdd, Nat.reduceLeDiff, Nat.reduceMul, Nat.reduceSub, Int.reduceToNat]
    try simp
theorem s_r45_ReadContact (b : List Int) (at' : Int) (hb : b.length ≤ 549755813888) (hB : bytes b) : CallsA Try.prog F_r45_ReadContact [encD 1 encU8 0 b, .sc (.int .i64 at')] [] (.tup [.agg (t3d (rContact b at')).1.enc, .sc (.int .i64 (t3d (rContact b at')).2.1), .sc (.int .i64 (t3d (rContact b at')).2.2)]) [] := by
  refine callsIR'_of (rs := [_, _, _]) (N := 25) hm Try.func19 (by kernel_rfl) (by kernel_rfl) is_r45_ReadContact (by kernel_rfl) (by kernel_rfl : rvOf Try.prog Try.f19.results.toList = some [(4, some (some 7)), (5, none), (6, none)]) (by decide) (by kernel_rfl) ?_
  simp only [c_r45_ReadContact, go_sem, ↓reduceIte, Nat.reduceEqDiff, reduceCtorEq, Nat.reduceAdd, Nat.reduceLeDiff, Nat.reduceMul, Nat.reduceSub, Int.reduceToNat]
  refine CallGi_flat (s_r45_readContact b (.ok at') hb hB) rfl ?_
  cases hp : rContact b at' with
  | error e =>
    have he := nerr_Contact b _ _ hp
    have h2 := (agr_Contact b).2.2 _ _ hp
    simp only [t3d, h2, rdB, rdO, rdE, nz_ne, nz_of he, go_sem, ↓reduceIte, Nat.reduceEqDiff, reduceCtorEq, Nat.reduceAdd, Nat.reduceLeDiff, Nat.reduceMul, Nat.reduceSub, Int.reduceToNat]
    try simp
    rw [if_neg he]
    (repeat' (with_reducible apply And.intro)) <;> first | rfl | exact avle_nilD rfl
  | ok x =>
    have h2 := (agr_Contact b).2.1 _ _ hp
    simp only [t3d, h2, rdB, rdO, rdE, n00, go_sem, ↓reduceIte, Nat.reduceEqDiff, reduceCtorEq, Nat.reduceAdd, Nat.reduceLeDiff, Nat.reduceMul, Nat.reduceSub, Int.reduceToNat]
    try simp

end Go.Abs
