/- A part of the walk: contracts of functions that the statement reaches. -/
import Derived.Test.YtbpaheflphafiaaS12
set_option linter.unusedSimpArgs false
set_option linter.unusedVariables false
set_option linter.unnecessarySimpa false
set_option maxRecDepth 100000
set_option maxHeartbeats 2000000
set_option linter.unusedSimpArgs false
set_option linter.unusedVariables false
namespace Go.Abs
open Go.Proofs
open Api
theorem wakeW_sm {w : Api.World} (hw : Wsm w) (x : Island) : Wsm (wakeW w x) := by
  obtain ⟨w1, w2, w3, w4, w5, w6⟩ := hw
  have hd : Body.sm default := ⟨by decide, fun f hf => by cases hf⟩
  have key : ∀ (l : List Int) (s : List Body × List (Int × Int)), (∀ b ∈ s.1, Body.sm b) → ∀ b ∈ (l.foldl wkStep s).1, Body.sm b := by
    intro l
    induction l with
    | nil => exact fun s h => h
    | cons a l ih =>
      intro s h
      refine ih _ fun b hb => ?_
      unfold wkStep at hb
      split at hb
      · rcases List.mem_or_eq_of_mem_set hb with h1 | rfl
        · exact h b h1
        · show Body.sm (s.1.getD a.toNat default)
          rcases getD_mem_or s.1 a.toNat default with h2 | h2
          · exact h _ h2
          · rw [h2]; exact hd
      · exact h b hb
  refine ⟨?_, w2, w3, w4, ?_, w6⟩
  · show (wkR w x).1.length ≤ _
    rw [wkR_len]; exact w1
  · show ∀ b ∈ (wkR w x).1, Body.sm b
    unfold wkR; split
    · exact key _ (w.Bodies, []) w5
    · exact w5
theorem s_law37_SleepEvents (w : Api.World) (x : Island) : CallsA Try.prog F_law37_SleepEvents [.agg w.enc, .agg x.enc] [] (.sc (.bool true)) [] := by
  refine callsI_of (rs := [_]) hm Try.func7 (by kernel_rfl) (by kernel_rfl) is_law37_SleepEvents (by kernel_rfl : tmpsOf Try.f7.results.toList = some [4]) (by decide) (by kernel_rfl) ?_
  simp only [c_law37_SleepEvents, go_sem, reduceIte, Nat.reduceEqDiff, reduceCtorEq, Nat.reduceAdd, Nat.reduceLeDiff, Nat.reduceMul, Nat.reduceSub, Int.reduceToNat]
  refine CallGi_flat (s_law37_fair w x) rfl ?_
  simp only [go_sem, reduceIte, Nat.reduceEqDiff, reduceCtorEq, Nat.reduceAdd, Nat.reduceLeDiff, Nat.reduceMul, Nat.reduceSub, Int.reduceToNat]
  cases hf : fairB w x with
  | false =>
    rw [if_pos rfl]
    refine CallGi_flat s_law37_example rfl ?_
    simp only [go_sem, reduceIte, Nat.reduceEqDiff, reduceCtorEq, Nat.reduceAdd, Nat.reduceLeDiff, Nat.reduceMul, Nat.reduceSub, Int.reduceToNat]
  | true =>
    rw [if_neg (by simp)]
    obtain ⟨hw, hx⟩ := fairB_sm hf
    have hw2 := wakeW_sm hw x
    have hW : CallsA Try.prog F_sleep_Wake [.agg w.enc, .agg x.enc] [] (.tup [Wown (wakeW w x) 1 2 3 4, .sl 5 0 (wkR w x).2.length (wkR w x).2.length]) (Wobj (wakeW w x) 1 2 3 4 ++ evObj 5 (wkR w x).2) := s_sleep_Wake w x hw hx
    have hU : CallsA Try.prog F_sleep_Update [.agg (wakeW w x).enc, .agg x.enc] [] (.tup [Wown (updW (wakeW w x) x) 1 2 3 4, .sl 5 0 (updR (wakeW w x) x).2.length (updR (wakeW w x) x).2.length]) (Wobj (updW (wakeW w x) x) 1 2 3 4 ++ evObj 5 (updR (wakeW w x) x).2) := s_sleep_Update (wakeW w x) x hw2 hx
    have e1 := ev_wake w x
    have e2 := ev_upd w x
    have n1 : (wakeW w x).Bodies = (wkR w x).1 := rfl
    have n2 : (updW (wakeW w x) x).Bodies = (updR (wakeW w x) x).1 := rfl
    have l1 : (wakeW w x).Bodies.length ≤ 1048576 := hw2.1
    have l2 : (updW (wakeW w x) x).Bodies.length ≤ 1048576 := by rw [n2, updR_len]; exact l1
    have hA := s_sleep_IsAwake (wakeW w x) x hw2 hx
    rw [← n1] at e1 e2
    rw [← n2] at e2
    generalize wakeW w x = a at *
    generalize updW a x = b at *
    generalize (wkR w x).2 = l at *
    generalize (updR a x).2 = m at *
    generalize awakeB a x (indX a x) = aw at *
    refine CallGi_obj [true, true] [] hW (by simp) (by simp [go_sem]) (by simp [go_sem]) (by simp) ?_
    simp only [go_sem, reduceIte, Nat.reduceEqDiff, reduceCtorEq, Nat.reduceAdd, Nat.reduceLeDiff, Nat.reduceMul, Nat.reduceSub, Int.reduceToNat]
    refine CallGi_obj [false, true] [(1, 11), (2, 12), (3, 13), (4, 14), (5, 15)] hU (by simp) (by simp [go_sem]) (by simp [go_sem]) (by simp) ?_
    simp only [go_sem, reduceIte, Nat.reduceEqDiff, reduceCtorEq, Nat.reduceAdd, Nat.reduceLeDiff, Nat.reduceMul, Nat.reduceSub, Int.reduceToNat]
    refine CallGi_flat (s_law37_asleep w hw.1) rfl ?_
    simp only [go_sem, reduceIte, Nat.reduceEqDiff, reduceCtorEq, Nat.reduceAdd, Nat.reduceLeDiff, Nat.reduceMul, Nat.reduceSub, Int.reduceToNat]
    refine CallGi_keep (s_law37_asleep a l1) rfl (by simp only [argsC, go_sem, reduceIte, Nat.reduceEqDiff, reduceCtorEq, Nat.reduceAdd, Nat.reduceLeDiff, Nat.reduceMul, Nat.reduceSub, Int.reduceToNat]) ?_
    have b0 := aslN_le w.Bodies
    have b1 := aslN_le a.Bodies
    have b2 := aslN_le b.Bodies
    have hw1 := hw.1
    have g1 : ((l.length : Int) == IntKind.i64.wrap ((aslN w.Bodies : Int) - (aslN a.Bodies : Int))) = true := by
      rw [beq_iff_eq, IntKind.wrap_i64]; omega
    simp only [g1, go_sem, reduceIte, Nat.reduceEqDiff, reduceCtorEq, Nat.reduceAdd, Nat.reduceLeDiff, Nat.reduceMul, Nat.reduceSub, Int.reduceToNat]
    refine CallGi_keep (s_law37_asleep b l2) rfl (by simp only [argsC, go_sem, reduceIte, Nat.reduceEqDiff, reduceCtorEq, Nat.reduceAdd, Nat.reduceLeDiff, Nat.reduceMul, Nat.reduceSub, Int.reduceToNat]) ?_
    simp only [go_sem, reduceIte, Nat.reduceEqDiff, reduceCtorEq, Nat.reduceAdd, Nat.reduceLeDiff, Nat.reduceMul, Nat.reduceSub, Int.reduceToNat]
    refine CallGi_keep (s_law37_asleep a l1) rfl (by simp only [argsC, go_sem, reduceIte, Nat.reduceEqDiff, reduceCtorEq, Nat.reduceAdd, Nat.reduceLeDiff, Nat.reduceMul, Nat.reduceSub, Int.reduceToNat]) ?_
    simp only [go_sem, reduceIte, Nat.reduceEqDiff, reduceCtorEq, Nat.reduceAdd, Nat.reduceLeDiff, Nat.reduceMul, Nat.reduceSub, Int.reduceToNat]
    refine CallGi_keep hA rfl (by simp only [argsC, go_sem, reduceIte, Nat.reduceEqDiff, reduceCtorEq, Nat.reduceAdd, Nat.reduceLeDiff, Nat.reduceMul, Nat.reduceSub, Int.reduceToNat]) ?_
    have g2 : ((m.length : Int) == IntKind.i64.wrap ((aslN b.Bodies : Int) - (aslN a.Bodies : Int)) || !aw && (m.length : Int) == 0) = true := by
      rcases e2 with e2 | ⟨e2, e3⟩
      · have : ((m.length : Int) == IntKind.i64.wrap ((aslN b.Bodies : Int) - (aslN a.Bodies : Int))) = true := by
          rw [beq_iff_eq, IntKind.wrap_i64]; omega
        rw [this]; rfl
      · rw [e2, e3]; simp
    simp only [g2, go_sem, reduceIte, Nat.reduceEqDiff, reduceCtorEq, Nat.reduceAdd, Nat.reduceLeDiff, Nat.reduceMul, Nat.reduceSub, Int.reduceToNat]
    refine ⟨fun h => ⟨h, fun h2 => by rw [h, h2]; rfl⟩, ?_⟩
    refine CallGi_flat s_law37_example rfl ?_
    simp only [go_sem, reduceIte, Nat.reduceEqDiff, reduceCtorEq, Nat.reduceAdd, Nat.reduceLeDiff, Nat.reduceMul, Nat.reduceSub, Int.reduceToNat]

end Go.Abs
