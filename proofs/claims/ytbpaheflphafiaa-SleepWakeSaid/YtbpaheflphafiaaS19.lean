/- A part of the walk: contracts of functions that the statement reaches. -/
import Derived.Test.YtbpaheflphafiaaS18
set_option linter.unusedSimpArgs false
set_option linter.unusedVariables false
set_option linter.unnecessarySimpa false
set_option maxRecDepth 100000
set_option maxHeartbeats 2000000
set_option linter.unusedSimpArgs false
set_option linter.unusedVariables false
namespace Go.Abs
open Go.Proofs
open Api
theorem s_law37_SleepUpdate (w : Api.World) (x : Island) : CallsA Try.prog F_law37_SleepUpdate [.agg w.enc, .agg x.enc] [] (.sc (.bool true)) [] := by
  refine callsI_of (rs := [_]) hm Try.func4 (by kernel_rfl) (by kernel_rfl) is_law37_SleepUpdate (by kernel_rfl : tmpsOf Try.f4.results.toList = some [4]) (by decide) (by kernel_rfl) ?_
  simp only [c_law37_SleepUpdate, go_sem, reduceIte, Nat.reduceEqDiff, reduceCtorEq, Nat.reduceAdd, Nat.reduceLeDiff, Nat.reduceMul, Nat.reduceSub, Int.reduceToNat]
  refine CallGi_flat (s_law37_fair w x) rfl ?_
  simp only [go_sem, reduceIte, Nat.reduceEqDiff, reduceCtorEq, Nat.reduceAdd, Nat.reduceLeDiff, Nat.reduceMul, Nat.reduceSub, Int.reduceToNat]
  cases hf : fairB w x with
  | false =>
    rw [if_pos rfl]
    refine CallGi_flat s_law37_example rfl ?_
    simp only [go_sem, reduceIte, Nat.reduceEqDiff, reduceCtorEq, Nat.reduceAdd, Nat.reduceLeDiff, Nat.reduceMul, Nat.reduceSub, Int.reduceToNat]
  | true =>
    rw [if_neg (by simp)]
    obtain ⟨hw, hx⟩ := fairB_sm hf
    have hl := indX_len (w := w) hx
    have hb := updW_sm hw x
    have hn : (updR w x).2.length ≤ 1048576 := by
      unfold updR; split
      · split
        · have := (slF_len (upF w (indX w x)) (indX w x)).2; omega
        · simp
      · simp
    have hP : CallsA Try.prog F_sleep_Update [.agg w.enc, .agg x.enc] [] (.tup [Wown (updW w x) 1 2 3 4, .sl 5 0 (updR w x).2.length (updR w x).2.length]) (Wobj (updW w x) 1 2 3 4 ++ evObj 5 (updR w x).2) := s_sleep_Update w x hw hx
    have hR : CallsA Try.prog F_r37_Update [.agg w.enc, .agg x.enc] [] (.tup [Wown (updW w x) 1 2 3 4, .sl 5 0 (updR w x).2.length (updR w x).2.length]) (Wobj (updW w x) 1 2 3 4 ++ evObj 5 (updR w x).2) := s_r37_Update w x hw hx
    have hE := s_r25_Equal (updW w x) (updW w x) hb
    rw [decide_eq_true rfl] at hE
    have hV := s_r37_Events (updR w x).2 (updR w x).2 hn
    rw [show sameE (updR w x).2 (updR w x).2 = true from decide_eq_true rfl] at hV
    generalize updW w x = b at *
    generalize (updR w x).2 = m at *
    refine CallGi_obj [true, true] [] hP (by simp) (by simp [go_sem]) (by simp [go_sem]) (by simp) ?_
    simp only [go_sem, reduceIte, Nat.reduceEqDiff, reduceCtorEq, Nat.reduceAdd, Nat.reduceLeDiff, Nat.reduceMul, Nat.reduceSub, Int.reduceToNat]
    refine CallGi_obj [true, true] [(1, 11), (2, 12), (3, 13), (4, 14), (5, 15)] hR (by simp) (by simp [go_sem]) (by simp [go_sem]) (by simp) ?_
    simp only [go_sem, reduceIte, Nat.reduceEqDiff, reduceCtorEq, Nat.reduceAdd, Nat.reduceLeDiff, Nat.reduceMul, Nat.reduceSub, Int.reduceToNat]
    refine CallGi_keep hE rfl (by simp only [argsC, go_sem, reduceIte, Nat.reduceEqDiff, reduceCtorEq, Nat.reduceAdd, Nat.reduceLeDiff, Nat.reduceMul, Nat.reduceSub, Int.reduceToNat]) ?_
    simp only [go_sem, reduceIte, Nat.reduceEqDiff, reduceCtorEq, Nat.reduceAdd, Nat.reduceLeDiff, Nat.reduceMul, Nat.reduceSub, Int.reduceToNat]
    refine CallGi_keep hV rfl (by simp only [argsC, go_sem, reduceIte, Nat.reduceEqDiff, reduceCtorEq, Nat.reduceAdd, Nat.reduceLeDiff, Nat.reduceMul, Nat.reduceSub, Int.reduceToNat]) ?_
    simp only [go_sem, reduceIte, Nat.reduceEqDiff, reduceCtorEq, Nat.reduceAdd, Nat.reduceLeDiff, Nat.reduceMul, Nat.reduceSub, Int.reduceToNat]
    refine CallGi_flat s_law37_example rfl ?_
    simp only [go_sem, reduceIte, Nat.reduceEqDiff, reduceCtorEq, Nat.reduceAdd, Nat.reduceLeDiff, Nat.reduceMul, Nat.reduceSub, Int.reduceToNat]
theorem s_law37_SleepWake (w : Api.World) (x : Island) : CallsA Try.prog F_law37_SleepWake [.agg w.enc, .agg x.enc] [] (.sc (.bool true)) [] := by
  refine callsI_of (rs := [_]) hm Try.func5 (by kernel_rfl) (by kernel_rfl) is_law37_SleepWake (by kernel_rfl : tmpsOf Try.f5.results.toList = some [4]) (by decide) (by kernel_rfl) ?_
  simp only [c_law37_SleepWake, go_sem, reduceIte, Nat.reduceEqDiff, reduceCtorEq, Nat.reduceAdd, Nat.reduceLeDiff, Nat.reduceMul, Nat.reduceSub, Int.reduceToNat]
  refine CallGi_flat (s_law37_fair w x) rfl ?_
  simp only [go_sem, reduceIte, Nat.reduceEqDiff, reduceCtorEq, Nat.reduceAdd, Nat.reduceLeDiff, Nat.reduceMul, Nat.reduceSub, Int.reduceToNat]
  cases hf : fairB w x with
  | false =>
    rw [if_pos rfl]
    refine CallGi_flat s_law37_example rfl ?_
    simp only [go_sem, reduceIte, Nat.reduceEqDiff, reduceCtorEq, Nat.reduceAdd, Nat.reduceLeDiff, Nat.reduceMul, Nat.reduceSub, Int.reduceToNat]
  | true =>
    rw [if_neg (by simp)]
    obtain ⟨hw, hx⟩ := fairB_sm hf
    have hl := indX_len (w := w) hx
    have hb := wakeW_sm hw x
    have hn : (wkR w x).2.length ≤ 1048576 := by
      unfold wkR; split
      · have := (wkF_len w (indX w x)).2; omega
      · simp
    have hP : CallsA Try.prog F_sleep_Wake [.agg w.enc, .agg x.enc] [] (.tup [Wown (wakeW w x) 1 2 3 4, .sl 5 0 (wkR w x).2.length (wkR w x).2.length]) (Wobj (wakeW w x) 1 2 3 4 ++ evObj 5 (wkR w x).2) := s_sleep_Wake w x hw hx
    have hR : CallsA Try.prog F_r37_Wake [.agg w.enc, .agg x.enc] [] (.tup [Wown (wakeW w x) 1 2 3 4, .sl 5 0 (wkR w x).2.length (wkR w x).2.length]) (Wobj (wakeW w x) 1 2 3 4 ++ evObj 5 (wkR w x).2) := s_r37_Wake w x hw hx
    have hE := s_r25_Equal (wakeW w x) (wakeW w x) hb
    rw [decide_eq_true rfl] at hE
    have hV := s_r37_Events (wkR w x).2 (wkR w x).2 hn
    rw [show sameE (wkR w x).2 (wkR w x).2 = true from decide_eq_true rfl] at hV
    have hA := s_sleep_IsAwake w x hw hx
    have hB := s_r37_IsAwake w x hw hx
    generalize wakeW w x = b at *
    generalize (wkR w x).2 = m at *
    generalize awakeB w x (indX w x) = aw at *
    refine CallGi_obj [true, true] [] hP (by simp) (by simp [go_sem]) (by simp [go_sem]) (by simp) ?_
    simp only [go_sem, reduceIte, Nat.reduceEqDiff, reduceCtorEq, Nat.reduceAdd, Nat.reduceLeDiff, Nat.reduceMul, Nat.reduceSub, Int.reduceToNat]
    refine CallGi_obj [true, true] [(1, 11), (2, 12), (3, 13), (4, 14), (5, 15)] hR (by simp) (by simp [go_sem]) (by simp [go_sem]) (by simp) ?_
    simp only [go_sem, reduceIte, Nat.reduceEqDiff, reduceCtorEq, Nat.reduceAdd, Nat.reduceLeDiff, Nat.reduceMul, Nat.reduceSub, Int.reduceToNat]
    refine CallGi_flat hA rfl ?_
    simp only [go_sem, reduceIte, Nat.reduceEqDiff, reduceCtorEq, Nat.reduceAdd, Nat.reduceLeDiff, Nat.reduceMul, Nat.reduceSub, Int.reduceToNat]
    refine CallGi_flat hB rfl ?_
    simp only [beq_self_eq_true, go_sem, reduceIte, Nat.reduceEqDiff, reduceCtorEq, Nat.reduceAdd, Nat.reduceLeDiff, Nat.reduceMul, Nat.reduceSub, Int.reduceToNat]
    refine CallGi_keep hE rfl (by simp only [argsC, go_sem, reduceIte, Nat.reduceEqDiff, reduceCtorEq, Nat.reduceAdd, Nat.reduceLeDiff, Nat.reduceMul, Nat.reduceSub, Int.reduceToNat]) ?_
    simp only [go_sem, reduceIte, Nat.reduceEqDiff, reduceCtorEq, Nat.reduceAdd, Nat.reduceLeDiff, Nat.reduceMul, Nat.reduceSub, Int.reduceToNat]
    refine CallGi_keep hV rfl (by simp only [argsC, go_sem, reduceIte, Nat.reduceEqDiff, reduceCtorEq, Nat.reduceAdd, Nat.reduceLeDiff, Nat.reduceMul, Nat.reduceSub, Int.reduceToNat]) ?_
    simp only [go_sem, reduceIte, Nat.reduceEqDiff, reduceCtorEq, Nat.reduceAdd, Nat.reduceLeDiff, Nat.reduceMul, Nat.reduceSub, Int.reduceToNat]
    refine CallGi_flat s_law37_example rfl ?_
    simp only [go_sem, reduceIte, Nat.reduceEqDiff, reduceCtorEq, Nat.reduceAdd, Nat.reduceLeDiff, Nat.reduceMul, Nat.reduceSub, Int.reduceToNat]

end Go.Abs
