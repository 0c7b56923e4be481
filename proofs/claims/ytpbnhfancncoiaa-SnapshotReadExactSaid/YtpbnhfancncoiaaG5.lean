/- A part of the walk: contracts of functions that the statement reaches. -/
import Derived.Test.YtpbnhfancncoiaaAbsD
import Derived.Test.YtpbnhfancncoiaaG2
set_option linter.unusedSimpArgs false
set_option linter.unusedVariables false
set_option linter.unnecessarySimpa false
set_option maxRecDepth 100000
set_option maxHeartbeats 2000000
set_option linter.unusedSimpArgs false
set_option linter.unusedVariables false
namespace Go.Abs
open Go.Proofs
open Api
theorem s_r07_ReadInt (b : List Int) (at' : Int) (hb : b.length ≤ 549755813888) (hB : bytes b) :
    CallsA Try.prog F_r07_ReadInt [encD 1 encU8 0 b, .sc (.int .i64 at')] [] (.tup [.sc (.int .i64 (t3 (rInt b at')).1), .sc (.int .i64 (t3 (rInt b at')).2.1), .sc (.int .i64 (t3 (rInt b at')).2.2)]) [] := by
  refine callsI_of (rs := [_, _, _]) hm Try.func79 (by kernel_rfl) (by kernel_rfl) is_r07_ReadInt (by kernel_rfl : tmpsOf Try.f79.results.toList = some [4, 5, 6]) (by decide) (by kernel_rfl) ?_
  simp only [c_r07_ReadInt, go_sem, ↓reduceIte, Nat.reduceEqDiff, reduceCtorEq, Nat.reduceAdd, Nat.reduceLeDiff, Nat.reduceMul, Nat.reduceSub, Int.reduceToNat]
  by_cases h0 : at' < 0
  · have h2 : rInt b at' = .error 2 := by unfold rInt; rw [if_pos (.inl h0)]
    simp only [h0, h2, t3, decide_true, go_sem, ↓reduceIte, Nat.reduceEqDiff, reduceCtorEq, Nat.reduceAdd, Nat.reduceLeDiff, Nat.reduceMul, Nat.reduceSub, Int.reduceToNat]
  by_cases h1 : (b.length : Int) < at'
  · have h2 : rInt b at' = .error 2 := by unfold rInt; rw [if_pos (.inr h1)]
    simp only [h0, h1, h2, t3, decide_true, decide_false, go_sem, ↓reduceIte, Nat.reduceEqDiff, reduceCtorEq, Nat.reduceAdd, Nat.reduceLeDiff, Nat.reduceMul, Nat.reduceSub, Int.reduceToNat]
  by_cases h0' : at' = b.length
  · have h2 : rInt b at' = .error 4 := by unfold rInt; rw [if_neg (by omega), if_pos h0']
    simp only [h0, h1, h2, t3, decide_true, decide_false, go_sem, ↓reduceIte, Nat.reduceEqDiff, reduceCtorEq, Nat.reduceAdd, Nat.reduceLeDiff, Nat.reduceMul, Nat.reduceSub, Int.reduceToNat]
    simp only [h0', beq_self_eq_true, go_sem, ↓reduceIte, Nat.reduceEqDiff, reduceCtorEq, Nat.reduceAdd, Nat.reduceLeDiff, Nat.reduceMul, Nat.reduceSub, Int.reduceToNat]
  have hh := bytes_getD hB at'.toNat
  have hr : rInt b at' = rBig b at' (decide (16 < b.getD at'.toNat 0)) (if 16 < b.getD at'.toNat 0 then b.getD at'.toNat 0 - 16 else b.getD at'.toNat 0) := by unfold rInt; rw [if_neg (by omega), if_neg h0']
  rw [hr]
  have hne : (at' == (b.length : Int)) = false := by simpa using h0'
  simp only [h0, h1, hne, decide_false, go_sem, ↓reduceIte, Nat.reduceEqDiff, reduceCtorEq, Nat.reduceAdd, Nat.reduceLeDiff, Nat.reduceMul, Nat.reduceSub, Int.reduceToNat]
  refine ⟨by omega, ?_⟩
  generalize hH : b.getD at'.toNat 0 = H at *
  clear hr hne
  have w0 : IntKind.i64.wrap H = H := by rw [IntKind.wrap_i64]; omega
  have w5 : IntKind.i64.wrap (IntKind.i64.wrap (b.length - at') - 1) = b.length - at' - 1 := by simp only [IntKind.wrap_i64]; omega
  have w2 : IntKind.i64.wrap (H - 16) = H - 16 := by rw [IntKind.wrap_i64]; omega
  by_cases h16 : H = 16
  · have h3 : rBig b at' (decide (16 < H)) (if 16 < H then H - 16 else H) = .error 3 := by subst h16; rfl
    rw [h3]
    subst h16
    have e0 : IntKind.i64.wrap (16 - 16) = 0 := by decide
    simp only [w0, t3, e0, Int.le_refl, (show ¬ (8 : Int) < 0 by decide), (show ¬ (0 : Int) < 0 by decide), decide_true, decide_false, beq_self_eq_true, go_sem, ↓reduceIte, Nat.reduceEqDiff, reduceCtorEq, Nat.reduceAdd, Nat.reduceLeDiff, Nat.reduceMul, Nat.reduceSub, Int.reduceToNat]
    try simp
  by_cases hm16 : 16 < H
  · simp only [hm16, (show (16 : Int) ≤ H by omega), w0, w2, w5, decide_true, decide_false, go_sem, ↓reduceIte, Nat.reduceEqDiff, reduceCtorEq, Nat.reduceAdd, Nat.reduceLeDiff, Nat.reduceMul, Nat.reduceSub, Int.reduceToNat]
    generalize hk : H - 16 = k at *
    have hk0 : 0 ≤ k := by omega
    by_cases h8 : 8 < k
    · have h3 : rBig b at' true k = .error 3 := by unfold rBig; rw [if_pos h8]
      simp only [h8, h3, t3, (show (k == 0) = false by simp; omega), go_sem, ↓reduceIte, Nat.reduceEqDiff, reduceCtorEq, Nat.reduceAdd, Nat.reduceLeDiff, Nat.reduceMul, Nat.reduceSub, Int.reduceToNat]
      try exact ⟨fun h => by simp at h, rfl, rfl, rfl⟩
    have hn : ¬ k < 0 := by omega
    have hz : (k == 0) = decide (k = 0) := rfl
    by_cases h9 : (b.length : Int) - at' - 1 < k
    · have h3 : rBig b at' true k = .error 4 := by unfold rBig; rw [if_neg h8, if_pos h9]
      simp only [h8, hn, h3, h9, t3, (show (k == 0) = false by simp; omega), go_sem, ↓reduceIte, Nat.reduceEqDiff, reduceCtorEq, Nat.reduceAdd, Nat.reduceLeDiff, Nat.reduceMul, Nat.reduceSub, Int.reduceToNat]
      try simp
    simp only [h8, hn, h9, (show (k == 0) = false by simp; omega), go_sem, ↓reduceIte, Nat.reduceEqDiff, reduceCtorEq, Nat.reduceAdd, Nat.reduceLeDiff, Nat.reduceMul, Nat.reduceSub, Int.reduceToNat]
    try simp only [implies_true, true_and]
    obtain ⟨p, rfl⟩ := Int.eq_ofNat_of_zero_le (show 0 ≤ at' by omega)
    obtain ⟨q, rfl⟩ := Int.eq_ofNat_of_zero_le hk0
    have hLl : ((b.drop (p + 1)).take q).length = q := take_drop_len (by omega)
    refine Wpi_loop hm (ι := {i : Nat // i ≤ q}) (fun i => [(0, .share, encD 1 encU8 0 b), (1, .share, .sc (.int .i64 p)), (7, .share, .sc (.int .i64 q)), (8, .share, .sc (.bool true)), (9, .share, .sc (.int .u64 (beU (((b.drop (p + 1)).take q).take i.1)))), (10, .share, .sc (.int .i64 ((i.1 : Int) + 1)))])
      (fun i => []) (fun i => q - i.1) ⟨0, by omega⟩ ?_ ?_
    · refine weakE_of [] [] (by simp [go_sem]) (by simp [assoc, go_sem]) (by simp [go_sem]) ?_
      simp only [List.take_zero, go_sem, ↓reduceIte, Nat.reduceEqDiff, reduceCtorEq, Nat.reduceAdd, Nat.reduceLeDiff, Nat.reduceMul, Nat.reduceSub, Int.reduceToNat]
      try exact ⟨rfl, rfl⟩
    · rintro ⟨i, hi⟩
      have hsn := beU_snoc (l := (b.drop (p + 1)).take q) (i := i)
      have hrg := beU_range (l := (b.drop (p + 1)).take q) (fun x hx => hB x (List.mem_of_mem_drop (List.mem_of_mem_take hx))) i (by omega)
      have hcc := bytes_getD (b := (b.drop (p + 1)).take q) (fun x hx => hB x (List.mem_of_mem_drop (List.mem_of_mem_take hx))) i
      simp only [c_r07_ReadIntb0, go_sem, ↓reduceIte, Nat.reduceEqDiff, reduceCtorEq, Nat.reduceAdd, Nat.reduceLeDiff, Nat.reduceMul, Nat.reduceSub, Int.reduceToNat]
      by_cases hlt : i < q
      · rw [if_pos (by omega)]
        have wi : IntKind.i64.wrap ((p : Int) + ((i : Int) + 1)) = ((p + 1 + i : Nat) : Int) := by rw [IntKind.wrap_i64]; omega
        have hc2 : ((b.drop (p + 1)).take q).getD i 0 = b.getD (p + 1 + i) 0 := take_drop_get hlt
        rw [hc2] at hsn hcc
        refine ⟨by rw [wi]; omega, ?_⟩
        refine loop_next ⟨i + 1, by omega⟩ (by show q - (i + 1) < q - i; omega) (weakE_of [] [] (by simp [go_sem]) (by simp [go_sem]) (by simp [go_sem]) ?_)
        simp only [wi, Int.toNat_natCast, go_sem, ↓reduceIte, Nat.reduceEqDiff, reduceCtorEq, Nat.reduceAdd, Nat.reduceLeDiff, Nat.reduceMul, Nat.reduceSub, Int.reduceToNat]
        have h7 := pow256_le (show i ≤ 7 by omega)
        refine ⟨?_, by rw [IntKind.wrap_i64]; omega⟩
        rw [hsn (by omega)]
        simp only [IntKind.wrap_u64]
        omega
      · rw [if_neg (by omega)]
        obtain rfl : i = q := by omega
        clear hsn
        rw [List.take_of_length_le (by omega)] at hrg
        have h8' := pow256_le8 (show i ≤ 8 by omega)
        simp only [List.take_of_length_le (show ((b.drop (p + 1)).take i).length ≤ i by omega)]
        generalize hu : beU ((b.drop (p + 1)).take i) = u at *
        simp only [hm16, if_true, if_false, decide_true, decide_false]
        have hb3 : 0 ≤ u ∧ u < 18446744073709551616 := by omega
        have hz0 : 0 < i → u = 0 → b.getD (p + 1) 0 = 0 := fun hi0 hu0 => by
          have := beU_zero (l := (b.drop (p + 1)).take i) (fun x hx => hB x (List.mem_of_mem_drop (List.mem_of_mem_take hx))) (by rw [hu]; exact hu0)
          rwa [take_drop_get hi0] at this
        have w1 : IntKind.i64.wrap ((p : Int) + 1) = ((p + 1 : Nat) : Int) := by rw [IntKind.wrap_i64]; omega
        have hrB : rBig b p true i = if (0 < (i : Int) ∧ b.getD (p + 1) 0 = 0) ∨ (true = false ∧ 9223372036854775808 ≤ u) ∨ (true = true ∧ 9223372036854775808 < u) then .error 3 else .ok (if true = true then -u else u, (p : Int) + 1 + i) := by
          unfold rBig; rw [if_neg h8, if_neg h9]; simp only [Int.toNat_natCast, hu]
        refine ⟨fun h => by rw [w1]; omega, ?_⟩
        simp only [w1, Int.toNat_natCast]
        rw [hrB]
        by_cases hc : (0 < (i : Int) ∧ b.getD (p + 1) 0 = 0) ∨ (true = false ∧ 9223372036854775808 ≤ u) ∨ (true = true ∧ 9223372036854775808 < u)
        · rw [if_pos hc, if_pos]
          · exact ⟨rfl, rfl, rfl⟩
          · rcases hc with ⟨hc1, hc2⟩ | ⟨hx, hc1⟩ | ⟨hx, hc1⟩
            · rw [if_pos hc1, hc2]; rfl
            · first | exact absurd hx (by decide) | (rw [decide_eq_true (by omega), Bool.or_true])
            · first | exact absurd hx (by decide) | (rw [decide_eq_true (by omega), Bool.or_true])
        · rw [if_neg hc, if_neg]
          · simp only [t3]
            have hle : ¬ 9223372036854775808 < u := fun h => hc (.inr (.inr ⟨rfl, h⟩))
            have hu1 : 1 ≤ u := by
              rcases Int.lt_or_le u 1 with h | h
              · exact absurd (.inl ⟨by omega, hz0 (by omega) (by omega)⟩) hc
              · exact h
            refine ⟨?_, ?_, trivial⟩
            · simp only [IntKind.wrap_i64, IntKind.wrap_u64, if_true]; omega
            · rw [IntKind.wrap_i64]; omega
          · intro hb4
            refine hc ?_
            simp only [Bool.or_eq_true, decide_eq_true_eq] at hb4
            rcases hb4 with hb4 | hb4
            · split at hb4
              · rename_i h0i; exact .inl ⟨h0i, by simpa using hb4⟩
              · cases hb4
            · first | exact .inr (.inr ⟨rfl, hb4⟩) | exact .inr (.inl ⟨rfl, by omega⟩)
  · simp only [hm16, (show ¬ (16 : Int) ≤ H by omega), w0, w2, w5, decide_true, decide_false, go_sem, ↓reduceIte, Nat.reduceEqDiff, reduceCtorEq, Nat.reduceAdd, Nat.reduceLeDiff, Nat.reduceMul, Nat.reduceSub, Int.reduceToNat]
    generalize hk : H = k at *
    have hk0 : 0 ≤ k := by omega
    by_cases h8 : 8 < k
    · have h3 : rBig b at' false k = .error 3 := by unfold rBig; rw [if_pos h8]
      simp only [h8, h3, t3, go_sem, ↓reduceIte, Nat.reduceEqDiff, reduceCtorEq, Nat.reduceAdd, Nat.reduceLeDiff, Nat.reduceMul, Nat.reduceSub, Int.reduceToNat]
      try exact ⟨fun h => by simp at h, rfl, rfl, rfl⟩
    have hn : ¬ k < 0 := by omega
    have hz : (k == 0) = decide (k = 0) := rfl
    by_cases h9 : (b.length : Int) - at' - 1 < k
    · have h3 : rBig b at' false k = .error 4 := by unfold rBig; rw [if_neg h8, if_pos h9]
      simp only [h8, hn, h3, h9, t3, go_sem, ↓reduceIte, Nat.reduceEqDiff, reduceCtorEq, Nat.reduceAdd, Nat.reduceLeDiff, Nat.reduceMul, Nat.reduceSub, Int.reduceToNat]
      try simp
    simp only [h8, hn, h9, go_sem, ↓reduceIte, Nat.reduceEqDiff, reduceCtorEq, Nat.reduceAdd, Nat.reduceLeDiff, Nat.reduceMul, Nat.reduceSub, Int.reduceToNat]
    try simp only [implies_true, true_and]
    obtain ⟨p, rfl⟩ := Int.eq_ofNat_of_zero_le (show 0 ≤ at' by omega)
    obtain ⟨q, rfl⟩ := Int.eq_ofNat_of_zero_le hk0
    have hLl : ((b.drop (p + 1)).take q).length = q := take_drop_len (by omega)
    refine Wpi_loop hm (ι := {i : Nat // i ≤ q}) (fun i => [(0, .share, encD 1 encU8 0 b), (1, .share, .sc (.int .i64 p)), (7, .share, .sc (.int .i64 q)), (8, .share, .sc (.bool false)), (9, .share, .sc (.int .u64 (beU (((b.drop (p + 1)).take q).take i.1)))), (10, .share, .sc (.int .i64 ((i.1 : Int) + 1)))])
      (fun i => []) (fun i => q - i.1) ⟨0, by omega⟩ ?_ ?_
    · refine weakE_of [] [] (by simp [go_sem]) (by simp [assoc, go_sem]) (by simp [go_sem]) ?_
      simp only [List.take_zero, go_sem, ↓reduceIte, Nat.reduceEqDiff, reduceCtorEq, Nat.reduceAdd, Nat.reduceLeDiff, Nat.reduceMul, Nat.reduceSub, Int.reduceToNat]
      try exact ⟨rfl, rfl⟩
    · rintro ⟨i, hi⟩
      have hsn := beU_snoc (l := (b.drop (p + 1)).take q) (i := i)
      have hrg := beU_range (l := (b.drop (p + 1)).take q) (fun x hx => hB x (List.mem_of_mem_drop (List.mem_of_mem_take hx))) i (by omega)
      have hcc := bytes_getD (b := (b.drop (p + 1)).take q) (fun x hx => hB x (List.mem_of_mem_drop (List.mem_of_mem_take hx))) i
      simp only [c_r07_ReadIntb0, go_sem, ↓reduceIte, Nat.reduceEqDiff, reduceCtorEq, Nat.reduceAdd, Nat.reduceLeDiff, Nat.reduceMul, Nat.reduceSub, Int.reduceToNat]
      by_cases hlt : i < q
      · rw [if_pos (by omega)]
        have wi : IntKind.i64.wrap ((p : Int) + ((i : Int) + 1)) = ((p + 1 + i : Nat) : Int) := by rw [IntKind.wrap_i64]; omega
        have hc2 : ((b.drop (p + 1)).take q).getD i 0 = b.getD (p + 1 + i) 0 := take_drop_get hlt
        rw [hc2] at hsn hcc
        refine ⟨by rw [wi]; omega, ?_⟩
        refine loop_next ⟨i + 1, by omega⟩ (by show q - (i + 1) < q - i; omega) (weakE_of [] [] (by simp [go_sem]) (by simp [go_sem]) (by simp [go_sem]) ?_)
        simp only [wi, Int.toNat_natCast, go_sem, ↓reduceIte, Nat.reduceEqDiff, reduceCtorEq, Nat.reduceAdd, Nat.reduceLeDiff, Nat.reduceMul, Nat.reduceSub, Int.reduceToNat]
        have h7 := pow256_le (show i ≤ 7 by omega)
        refine ⟨?_, by rw [IntKind.wrap_i64]; omega⟩
        rw [hsn (by omega)]
        simp only [IntKind.wrap_u64]
        omega
      · rw [if_neg (by omega)]
        obtain rfl : i = q := by omega
        clear hsn
        rw [List.take_of_length_le (by omega)] at hrg
        have h8' := pow256_le8 (show i ≤ 8 by omega)
        simp only [List.take_of_length_le (show ((b.drop (p + 1)).take i).length ≤ i by omega)]
        generalize hu : beU ((b.drop (p + 1)).take i) = u at *
        simp only [hm16, if_true, if_false, decide_true, decide_false]
        have hb3 : 0 ≤ u ∧ u < 18446744073709551616 := by omega
        have hz0 : 0 < i → u = 0 → b.getD (p + 1) 0 = 0 := fun hi0 hu0 => by
          have := beU_zero (l := (b.drop (p + 1)).take i) (fun x hx => hB x (List.mem_of_mem_drop (List.mem_of_mem_take hx))) (by rw [hu]; exact hu0)
          rwa [take_drop_get hi0] at this
        have w1 : IntKind.i64.wrap ((p : Int) + 1) = ((p + 1 : Nat) : Int) := by rw [IntKind.wrap_i64]; omega
        have hrB : rBig b p false i = if (0 < (i : Int) ∧ b.getD (p + 1) 0 = 0) ∨ (false = false ∧ 9223372036854775808 ≤ u) ∨ (false = true ∧ 9223372036854775808 < u) then .error 3 else .ok (if false = true then -u else u, (p : Int) + 1 + i) := by
          unfold rBig; rw [if_neg h8, if_neg h9]; simp only [Int.toNat_natCast, hu]
        refine ⟨fun h => by rw [w1]; omega, ?_⟩
        simp only [w1, Int.toNat_natCast]
        rw [hrB]
        by_cases hc : (0 < (i : Int) ∧ b.getD (p + 1) 0 = 0) ∨ (false = false ∧ 9223372036854775808 ≤ u) ∨ (false = true ∧ 9223372036854775808 < u)
        · rw [if_pos hc, if_pos]
          · exact ⟨rfl, rfl, rfl⟩
          · rcases hc with ⟨hc1, hc2⟩ | ⟨hx, hc1⟩ | ⟨hx, hc1⟩
            · rw [if_pos hc1, hc2]; rfl
            · first | exact absurd hx (by decide) | (rw [decide_eq_true (by omega), Bool.or_true])
            · first | exact absurd hx (by decide) | (rw [decide_eq_true (by omega), Bool.or_true])
        · rw [if_neg hc, if_neg]
          · simp only [t3]
            have hle : ¬ 9223372036854775808 ≤ u := fun h => hc (.inr (.inl ⟨rfl, h⟩))
            refine ⟨?_, ?_, trivial⟩
            · simp only [IntKind.wrap_i64, Bool.false_eq_true, if_false]; omega
            · rw [IntKind.wrap_i64]; omega
          · intro hb4
            refine hc ?_
            simp only [Bool.or_eq_true, decide_eq_true_eq] at hb4
            rcases hb4 with hb4 | hb4
            · split at hb4
              · rename_i h0i; exact .inl ⟨h0i, by simpa using hb4⟩
              · cases hb4
            · first | exact .inr (.inr ⟨rfl, hb4⟩) | exact .inr (.inl ⟨rfl, by omega⟩)

end Go.Abs
