/- A part of the walk: contracts of functions that the statement reaches. -/
import Derived.Test.YtpbnhfancncoiaaAbsD
import Derived.Test.YtpbnhfancncoiaaG5
set_option linter.unusedSimpArgs false
set_option linter.unusedVariables false
set_option linter.unnecessarySimpa false
set_option maxRecDepth 100000
set_option maxHeartbeats 2000000
set_option linter.unusedSimpArgs false
set_option linter.unusedVariables false
namespace Go.Abs
open Go.Proofs
open Api
theorem s_r07_ReadBool (b : List Int) (at' : Int) (hb : b.length ≤ 549755813888) :
    CallsA Try.prog F_r07_ReadBool [encD 1 encU8 0 b, .sc (.int .i64 at')] [] (.tup [.sc (.bool (t3b (rBool b at')).1), .sc (.int .i64 (t3b (rBool b at')).2.1), .sc (.int .i64 (t3b (rBool b at')).2.2)]) [] := by
  refine callsI_of (rs := [_, _, _]) hm Try.func78 (by kernel_rfl) (by kernel_rfl) is_r07_ReadBool (by kernel_rfl : tmpsOf Try.f78.results.toList = some [4, 5, 6]) (by decide) (by kernel_rfl) ?_
  simp only [c_r07_ReadBool, go_sem, ↓reduceIte, Nat.reduceEqDiff, reduceCtorEq, Nat.reduceAdd, Nat.reduceLeDiff, Nat.reduceMul, Nat.reduceSub, Int.reduceToNat]
  by_cases h0 : at' < 0
  · have h2 : rBool b at' = .error 2 := by unfold rBool rByte; simp only [h0, true_or, if_true]
    simp only [h0, h2, t3b, decide_true, go_sem, ↓reduceIte, Nat.reduceEqDiff, reduceCtorEq, Nat.reduceAdd, Nat.reduceLeDiff, Nat.reduceMul, Nat.reduceSub, Int.reduceToNat]
  by_cases h1 : (b.length : Int) < at'
  · have h2 : rBool b at' = .error 2 := by unfold rBool rByte; simp only [h1, or_true, if_true]
    simp only [h0, h1, h2, t3b, decide_true, decide_false, go_sem, ↓reduceIte, Nat.reduceEqDiff, reduceCtorEq, Nat.reduceAdd, Nat.reduceLeDiff, Nat.reduceMul, Nat.reduceSub, Int.reduceToNat]
  by_cases h3 : at' = b.length
  · have h2 : rBool b at' = .error 4 := by unfold rBool rByte; simp only [h3, Int.lt_irrefl, or_false]; rw [if_neg (by omega)]; simp only [if_true]
    simp only [h0, h1, h2, t3b, decide_true, decide_false, go_sem, ↓reduceIte, Nat.reduceEqDiff, reduceCtorEq, Nat.reduceAdd, Nat.reduceLeDiff, Nat.reduceMul, Nat.reduceSub, Int.reduceToNat]
    simp only [h3, beq_self_eq_true, go_sem, ↓reduceIte, Nat.reduceEqDiff, reduceCtorEq, Nat.reduceAdd, Nat.reduceLeDiff, Nat.reduceMul, Nat.reduceSub, Int.reduceToNat]
  · have hne : (at' == (b.length : Int)) = false := by simpa using h3
    have h2 : rBool b at' = if 1 < b.getD at'.toNat 0 then .error 3 else .ok (b.getD at'.toNat 0 == 1, at' + 1) := by unfold rBool rByte; simp only [h0, h1, h3, or_self, if_false]
    rw [h2]
    by_cases h4 : 1 < b.getD at'.toNat 0
    · simp only [h0, h1, h4, hne, t3b, decide_true, decide_false, go_sem, ↓reduceIte, Nat.reduceEqDiff, reduceCtorEq, Nat.reduceAdd, Nat.reduceLeDiff, Nat.reduceMul, Nat.reduceSub, Int.reduceToNat]
      omega
    · simp only [h0, h1, h4, hne, t3b, decide_true, decide_false, go_sem, ↓reduceIte, Nat.reduceEqDiff, reduceCtorEq, Nat.reduceAdd, Nat.reduceLeDiff, Nat.reduceMul, Nat.reduceSub, Int.reduceToNat]
      refine ⟨by omega, by omega, ?_⟩
      rw [IntKind.wrap_i64]; omega
def nz (e : Int) : Int := if e = 0 then 1 else e
theorem nz_ne (e : Int) : (nz e != 0) = true := by unfold nz; split <;> simp_all
theorem nz_eq (e : Int) : (nz e == 0) = false := by unfold nz; split <;> simp_all
theorem nz_of {e : Int} (h : e ≠ 0) : nz e = e := by unfold nz; rw [if_neg h]
def rdB (b : List Int) : RS → List Int
  | .ok _ => b
  | .error _ => []
def rdO : RS → Int
  | .ok t => t
  | .error _ => 0
def rdE : RS → Int
  | .ok _ => 0
  | .error e => nz e
def rdr (b : List Int) (s : RS) : List AV := [encD 1 encU8 0 (rdB b s), .sc (.int .i64 (rdO s)), .sc (.int .i64 (rdE s))]
attribute [go_sem] rdr
theorem z00 : ((0 : Int) == 0) = true := rfl
theorem s_r45_readInt (b : List Int) (s : RS) (hb : b.length ≤ 549755813888) (hB : bytes b) : CallsA Try.prog F_r45_readInt [.agg (rdr b s)] [] (.tup [.sc (.int .i64 (qInt b s).1), .agg (rdr b (qInt b s).2)]) [] := by
  refine callsIR'_of (rs := [_, _]) (N := 29) hm Try.func57 (by kernel_rfl) (by kernel_rfl) is_r45_readInt (by kernel_rfl) (by kernel_rfl : rvOf Try.prog Try.f57.results.toList = some [(2, none), (3, some (some 3))]) (by decide) (by kernel_rfl) ?_
  cases s with
  | error e =>
    simp only [c_r45_readInt, rdB, rdO, rdE, nz_ne, qInt, go_sem, ↓reduceIte, Nat.reduceEqDiff, reduceCtorEq, Nat.reduceAdd, Nat.reduceLeDiff, Nat.reduceMul, Nat.reduceSub, Int.reduceToNat]
    try exact ⟨rfl, avle_refl _⟩
  | ok t =>
    simp only [c_r45_readInt, rdB, rdO, rdE, n00, go_sem, ↓reduceIte, Nat.reduceEqDiff, reduceCtorEq, Nat.reduceAdd, Nat.reduceLeDiff, Nat.reduceMul, Nat.reduceSub, Int.reduceToNat]
    refine CallGi_flat (s_r07_ReadInt b t hb hB) rfl ?_
    simp only [go_sem, ↓reduceIte, Nat.reduceEqDiff, reduceCtorEq, Nat.reduceAdd, Nat.reduceLeDiff, Nat.reduceMul, Nat.reduceSub, Int.reduceToNat]
    cases hr : rInt b t with
    | error e =>
      have he := rInt_err hr
      have hne : (e != 0) = true := by simpa using he
      simp only [t3, qInt, hr, hne, rdB, rdO, rdE, nz_of he, go_sem, ↓reduceIte, Nat.reduceEqDiff, reduceCtorEq, Nat.reduceAdd, Nat.reduceLeDiff, Nat.reduceMul, Nat.reduceSub, Int.reduceToNat]
      exact avle_nilD rfl
    | ok x =>
      simp only [t3, qInt, hr, n00, rdB, rdO, rdE, go_sem, ↓reduceIte, Nat.reduceEqDiff, reduceCtorEq, Nat.reduceAdd, Nat.reduceLeDiff, Nat.reduceMul, Nat.reduceSub, Int.reduceToNat]
      try exact avle_refl _
theorem s_r45_readBool (b : List Int) (s : RS) (hb : b.length ≤ 549755813888) (hB : bytes b) : CallsA Try.prog F_r45_readBool [.agg (rdr b s)] [] (.tup [.sc (.bool (qBool b s).1), .agg (rdr b (qBool b s).2)]) [] := by
  refine callsIR'_of (rs := [_, _]) (N := 29) hm Try.func56 (by kernel_rfl) (by kernel_rfl) is_r45_readBool (by kernel_rfl) (by kernel_rfl : rvOf Try.prog Try.f56.results.toList = some [(2, none), (3, some (some 3))]) (by decide) (by kernel_rfl) ?_
  cases s with
  | error e =>
    simp only [c_r45_readBool, rdB, rdO, rdE, nz_ne, qBool, go_sem, ↓reduceIte, Nat.reduceEqDiff, reduceCtorEq, Nat.reduceAdd, Nat.reduceLeDiff, Nat.reduceMul, Nat.reduceSub, Int.reduceToNat]
    try exact ⟨rfl, avle_refl _⟩
  | ok t =>
    simp only [c_r45_readBool, rdB, rdO, rdE, n00, go_sem, ↓reduceIte, Nat.reduceEqDiff, reduceCtorEq, Nat.reduceAdd, Nat.reduceLeDiff, Nat.reduceMul, Nat.reduceSub, Int.reduceToNat]
    refine CallGi_flat (s_r07_ReadBool b t hb) rfl ?_
    simp only [go_sem, ↓reduceIte, Nat.reduceEqDiff, reduceCtorEq, Nat.reduceAdd, Nat.reduceLeDiff, Nat.reduceMul, Nat.reduceSub, Int.reduceToNat]
    cases hr : rBool b t with
    | error e =>
      have he := rBool_err hr
      have hne : (e != 0) = true := by simpa using he
      simp only [t3b, qBool, hr, hne, rdB, rdO, rdE, nz_of he, go_sem, ↓reduceIte, Nat.reduceEqDiff, reduceCtorEq, Nat.reduceAdd, Nat.reduceLeDiff, Nat.reduceMul, Nat.reduceSub, Int.reduceToNat]
      exact avle_nilD rfl
    | ok x =>
      simp only [t3b, qBool, hr, n00, rdB, rdO, rdE, go_sem, ↓reduceIte, Nat.reduceEqDiff, reduceCtorEq, Nat.reduceAdd, Nat.reduceLeDiff, Nat.reduceMul, Nat.reduceSub, Int.reduceToNat]
      try exact avle_refl _
theorem s_r45_readCount (b : List Int) (s : RS) (hb : b.length ≤ 549755813888) (hB : bytes b) : CallsA Try.prog F_r45_readCount [.agg (rdr b s)] [] (.tup [.sc (.int .i64 (qCount b s).1), .agg (rdr b (qCount b s).2)]) [] := by
  refine callsIR'_of (rs := [_, _]) (N := 29) hm Try.func58 (by kernel_rfl) (by kernel_rfl) is_r45_readCount (by kernel_rfl) (by kernel_rfl : rvOf Try.prog Try.f58.results.toList = some [(2, none), (3, some (some 3))]) (by decide) (by kernel_rfl) ?_
  simp only [c_r45_readCount, go_sem, ↓reduceIte, Nat.reduceEqDiff, reduceCtorEq, Nat.reduceAdd, Nat.reduceLeDiff, Nat.reduceMul, Nat.reduceSub, Int.reduceToNat]
  refine CallGi_flat (s_r45_readInt b s hb hB) rfl ?_
  simp only [go_sem, ↓reduceIte, Nat.reduceEqDiff, reduceCtorEq, Nat.reduceAdd, Nat.reduceLeDiff, Nat.reduceMul, Nat.reduceSub, Int.reduceToNat]
  unfold qCount
  cases hq : (qInt b s).2 with
  | error e =>
    have h0 : (qInt b s).1 = 0 := by
      cases s with
      | error e' => rfl
      | ok t =>
        simp only [qInt] at hq ⊢
        cases hr : rInt b t with
        | error e' => rfl
        | ok x => rw [hr] at hq; cases hq
    simp only [h0, rdB, rdO, rdE, nz_eq, go_sem, ↓reduceIte, Nat.reduceEqDiff, reduceCtorEq, Nat.reduceAdd, Nat.reduceLeDiff, Nat.reduceMul, Nat.reduceSub, Int.reduceToNat]
    simp
  | ok t =>
    by_cases h1 : (qInt b s).1 < 0
    · simp only [h1, rdB, rdO, rdE, z00, decide_true, go_sem, ↓reduceIte, Nat.reduceEqDiff, reduceCtorEq, Nat.reduceAdd, Nat.reduceLeDiff, Nat.reduceMul, Nat.reduceSub, Int.reduceToNat]
      exact ⟨avle_nilD rfl, rfl⟩
    · by_cases h2 : 8192 < (qInt b s).1
      · simp only [h1, h2, rdB, rdO, rdE, z00, decide_true, decide_false, go_sem, ↓reduceIte, Nat.reduceEqDiff, reduceCtorEq, Nat.reduceAdd, Nat.reduceLeDiff, Nat.reduceMul, Nat.reduceSub, Int.reduceToNat]
        exact ⟨avle_nilD rfl, rfl⟩
      · simp only [h1, h2, rdB, rdO, rdE, z00, decide_true, decide_false, go_sem, ↓reduceIte, Nat.reduceEqDiff, reduceCtorEq, Nat.reduceAdd, Nat.reduceLeDiff, Nat.reduceMul, Nat.reduceSub, Int.reduceToNat]
theorem s_r45_readVec (b : List Int) (s : RS) (hb : b.length ≤ 549755813888) (hB : bytes b) : CallsA Try.prog F_r45_readVec [.agg (rdr b s)] [] (.tup [.agg (qVec b s).1.enc, .agg (rdr b (qVec b s).2)]) [] := by
  refine callsIR'_of (rs := [_, _]) (N := 22) hm Try.func67 (by kernel_rfl) (by kernel_rfl) is_r45_readVec (by kernel_rfl) (by kernel_rfl : rvOf Try.prog Try.f67.results.toList = some [(2, some (some 2)), (3, some (some 3))]) (by decide) (by kernel_rfl) ?_
  simp only [c_r45_readVec, go_sem, ↓reduceIte, Nat.reduceEqDiff, reduceCtorEq, Nat.reduceAdd, Nat.reduceLeDiff, Nat.reduceMul, Nat.reduceSub, Int.reduceToNat]
  refine CallGi_flat (s_r45_readInt b s hb hB) rfl ?_
  simp only [go_sem, ↓reduceIte, Nat.reduceEqDiff, reduceCtorEq, Nat.reduceAdd, Nat.reduceLeDiff, Nat.reduceMul, Nat.reduceSub, Int.reduceToNat]
  refine CallGi_flat (s_r45_readInt b (qInt b s).2 hb hB) rfl ?_
  simp only [qVec, go_sem, ↓reduceIte, Nat.reduceEqDiff, reduceCtorEq, Nat.reduceAdd, Nat.reduceLeDiff, Nat.reduceMul, Nat.reduceSub, Int.reduceToNat]
theorem qInts_c (b : List Int) (s : RS) (n : Nat) : qInts b s (n + 1) = ((qInts b s n).1 ++ [(qInt b (qInts b s n).2).1], (qInt b (qInts b s n).2).2) := rfl
theorem s_r45_readInts (b : List Int) (s : RS) (n : Nat) (hn : n ≤ 1000) (hb : b.length ≤ 549755813888) (hB : bytes b) : CallsA Try.prog F_r45_readInts [.agg (rdr b s), .sc (.int .i64 n)] [] (.tup [encD 1 encInt 0 (qInts b s n).1, .agg (rdr b (qInts b s n).2)]) [] := by
  refine callsIR'_of (rs := [_, _]) (N := 27) hm Try.func55 (by kernel_rfl) (by kernel_rfl) is_r45_readInts (by kernel_rfl) (by kernel_rfl : rvOf Try.prog Try.f55.results.toList = some [(4, none), (5, some (some 3))]) (by decide) (by kernel_rfl) ?_
  simp only [c_r45_readInts, go_sem, ↓reduceIte, Nat.reduceEqDiff, reduceCtorEq, Nat.reduceAdd, Nat.reduceLeDiff, Nat.reduceMul, Nat.reduceSub, Int.reduceToNat]
  refine Wpi_loop hm (ι := {i : Nat // i ≤ n}) (fun i => [(1, .share, .sc (.int .i64 n)), (2, .share, .ptr 48 0 0 1), (4, .share, .sc (.slice none 0 0)), (5, .share, .ptr 96 0 0 1), (6, if i.1 = 0 then .adopt else .share, .sl 1 0 i.1 i.1), (7, .share, .sc (.int .i64 i.1))])
    (fun i => [(48, .box (rdr b (qInts b s i.1).2)), (96, .box [.sc (.slice none 0 0), .sc (.int .i64 0), .sc (.int .i64 0)]), (1, .arr 1 (encQ encInt 0 (qInts b s i.1).1))]) (fun i => n - i.1) ⟨0, by omega⟩ ?_ ?_
  · refine weakE_of [] [1] (by simp [go_sem]) (by simp [assoc, go_sem]) (by simp [go_sem]) ?_
    simp only [qInts, List.length_nil, go_sem, ↓reduceIte, Nat.reduceEqDiff, reduceCtorEq, Nat.reduceAdd, Nat.reduceLeDiff, Nat.reduceMul, Nat.reduceSub, Int.reduceToNat]
  · rintro ⟨i, hi⟩
    simp only [c_r45_readIntsb0, go_sem, ↓reduceIte, Nat.reduceEqDiff, reduceCtorEq, Nat.reduceAdd, Nat.reduceLeDiff, Nat.reduceMul, Nat.reduceSub, Int.reduceToNat]
    by_cases hlt : i < n
    · rw [if_pos (by omega)]
      refine CallGi_flat (s_r45_readInt b (qInts b s i).2 hb hB) rfl ?_
      simp only [go_sem, ↓reduceIte, Nat.reduceEqDiff, reduceCtorEq, Nat.reduceAdd, Nat.reduceLeDiff, Nat.reduceMul, Nat.reduceSub, Int.reduceToNat]
      have hl := qInts_len b s i
      refine ⟨⟨hl.symm, hl.symm, by rw [hl]; omega, by rw [hl]; simp only [maxLen]; omega⟩, ?_⟩
      refine loop_next ⟨i + 1, by omega⟩ (by show n - (i + 1) < n - i; omega) (weakE_of [] [] (by simp [go_sem]) (by simp [go_sem]) (by simp [go_sem]) ?_)
      have hst := qInts_c b s i
      simp only [hst, hl, go_sem, ↓reduceIte, Nat.reduceEqDiff, reduceCtorEq, Nat.reduceAdd, Nat.reduceLeDiff, Nat.reduceMul, Nat.reduceSub, Int.reduceToNat]
      refine ⟨(by rw [IntKind.wrap_i64]; omega), q_app1 (qInt b (qInts b s i).2).1 rfl rfl⟩
    · rw [if_neg (by omega)]
      obtain rfl : i = n := by omega
      have hl := qInts_len b s i
      exact ⟨⟨hl.symm, by rw [hl]; exact avle_refl _⟩, avle_refl _, rfl, rfl⟩

end Go.Abs
