/- A part of the walk: contracts of functions that the statement reaches. -/
import Derived.Test.YtbpaheflphafiaaS10
set_option linter.unusedSimpArgs false
set_option linter.unusedVariables false
set_option linter.unnecessarySimpa false
set_option maxRecDepth 100000
set_option maxHeartbeats 400000
set_option linter.unusedSimpArgs false
set_option linter.unusedVariables false
namespace Go.Abs
open Go.Proofs
open Api
def bV (b : Body) : Body := ⟨0, 0, ⟨⟨0, 0⟩, 0⟩, b.Velocity, b.AngularVelocity, ⟨0, 0⟩, 0, 0, 0, 0, false, false, b.NoSleep, false, b.IdleSteps, []⟩
theorem isSlow_bV (b : Body) : isSlow (bV b) = isSlow b := rfl
theorem isSlow_upd (b : Body) : isSlow (updIdle b) = isSlow b := rfl
theorem upd_bV (b : Body) : (updIdle (⟨0, 0, ⟨⟨0, 0⟩, 0⟩, b.Velocity, b.AngularVelocity, ⟨0, 0⟩, 0, 0, 0, 0, false, false, b.NoSleep, false, b.IdleSteps, []⟩ : Body)).IdleSteps = (updIdle b).IdleSteps := rfl
theorem s_law37_SleepIdleSteps (b : Body) : CallsA Try.prog F_law37_SleepIdleSteps [.agg b.enc] [] (.sc (.bool true)) [] := by
  refine callsI_of (rs := [_]) hm Try.func3 (by kernel_rfl) (by kernel_rfl) is_law37_SleepIdleSteps (by kernel_rfl : tmpsOf Try.f3.results.toList = some [2]) (by decide) (by kernel_rfl) ?_
  simp only [c_law37_SleepIdleSteps, go_sem, reduceIte, Nat.reduceEqDiff, reduceCtorEq, Nat.reduceAdd, Nat.reduceLeDiff, Nat.reduceMul, Nat.reduceSub, Int.reduceToNat]
  refine CallGi_keep (s_r22_Few 1 [b] (by omega)) rfl (by simp only [argsC, go_sem, reduceIte, Nat.reduceEqDiff, reduceCtorEq, Nat.reduceAdd, Nat.reduceLeDiff, Nat.reduceMul, Nat.reduceSub, Int.reduceToNat]; exact ⟨avle_one b rfl, rfl⟩) ?_
  simp only [go_sem, reduceIte, Nat.reduceEqDiff, reduceCtorEq, Nat.reduceAdd, Nat.reduceLeDiff, Nat.reduceMul, Nat.reduceSub, Int.reduceToNat]
  cases hf : few22 1 [b] with
  | false =>
    rw [if_pos rfl]
    refine CallGi_flat s_law37_example rfl ?_
    simp only [go_sem, reduceIte, Nat.reduceEqDiff, reduceCtorEq, Nat.reduceAdd, Nat.reduceLeDiff, Nat.reduceMul, Nat.reduceSub, Int.reduceToNat]
  | true =>
    rw [if_neg (by simp)]
    have hsm : Body.sm b := (few22_sm hf).2 b (by simp)
    refine CallGi_flat (s_sleep_UpdateIdle b) rfl ?_
    simp only [go_sem, reduceIte, Nat.reduceEqDiff, reduceCtorEq, Nat.reduceAdd, Nat.reduceLeDiff, Nat.reduceMul, Nat.reduceSub, Int.reduceToNat]
    refine CallGi_flat (s_sleep_IsSlow (updIdle b)) rfl ?_
    simp only [go_sem, reduceIte, Nat.reduceEqDiff, reduceCtorEq, Nat.reduceAdd, Nat.reduceLeDiff, Nat.reduceMul, Nat.reduceSub, Int.reduceToNat]
    refine CallGi_thaw (s_r37_UpdateIdle (bV b)) ?_
    simp only [argsC, bV, upd_bV, go_sem, reduceIte, Nat.reduceEqDiff, reduceCtorEq, Nat.reduceAdd, Nat.reduceLeDiff, Nat.reduceMul, Nat.reduceSub, Int.reduceToNat]
    refine ⟨avle_nilD rfl, ?_⟩
    refine CallGi_flat (s_r37_IsSlow (updIdle b)) rfl ?_
    have hz : (isSlow (updIdle b) || (updIdle b).IdleSteps == 0) = true := by
      cases hs : isSlow b with
      | true => rw [isSlow_upd, hs]; rfl
      | false => simp only [updIdle, hs, Bool.false_eq_true, if_false, beq_self_eq_true, Bool.or_true]
    simp only [beq_self_eq_true, hz, go_sem, reduceIte, Nat.reduceEqDiff, reduceCtorEq, Nat.reduceAdd, Nat.reduceLeDiff, Nat.reduceMul, Nat.reduceSub, Int.reduceToNat]
    trace_state
    refine CallGi_flat (s_law37_same (updIdle b) (updIdle b) hsm) rfl ?_
    simp only [decide_true, go_sem, reduceIte, Nat.reduceEqDiff, reduceCtorEq, Nat.reduceAdd, Nat.reduceLeDiff, Nat.reduceMul, Nat.reduceSub, Int.reduceToNat]
    refine CallGi_flat s_law37_example rfl ?_
    simp only [go_sem, reduceIte, Nat.reduceEqDiff, reduceCtorEq, Nat.reduceAdd, Nat.reduceLeDiff, Nat.reduceMul, Nat.reduceSub, Int.reduceToNat]

end Go.Abs
