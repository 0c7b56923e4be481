/- A part of the walk: contracts of functions that the statement reaches. -/
import Derived.Test.YtlldeiikcfaegaaGreatAbsC
import Derived.Test.YtlldeiikcfaegaaGreatI7
set_option linter.unusedSimpArgs false
set_option linter.unusedVariables false
set_option linter.unnecessarySimpa false
set_option maxRecDepth 100000
set_option maxHeartbeats 2000000
set_option linter.unusedSimpArgs false
set_option linter.unusedVariables false
namespace Go.Abs
open Go.Proofs
open Api
theorem nd_le (w : Api.World) : ∀ i, nd w i ≤ i
  | 0 => Nat.le_refl _
  | i + 1 => by have := nd_le w i; show (if kd w i = true then nd w i + 1 else nd w i) ≤ _; split <;> omega
theorem s_law36_IslandSingletons (w : Api.World) : CallsA Tryz.prog F_law36_IslandSingletons [.agg w.enc] [] (.sc (.bool true)) [] := by
  refine callsI_of (rs := [_]) hm Tryz.func10 (by kernel_rfl) (by kernel_rfl) is_law36_IslandSingletons (by kernel_rfl : tmpsOf Tryz.f10.results.toList = some [2]) (by decide) (by kernel_rfl) ?_
  simp only [c_law36_IslandSingletons, go_sem, ↓reduceIte, Nat.reduceEqDiff, reduceCtorEq, Nat.reduceAdd, Nat.reduceLeDiff, Nat.reduceMul, Nat.reduceSub, Int.reduceToNat]
  refine CallGi_flat (s_r27_IsSmall w) rfl ?_
  simp only [go_sem, ↓reduceIte, Nat.reduceEqDiff, reduceCtorEq, Nat.reduceAdd, Nat.reduceLeDiff, Nat.reduceMul, Nat.reduceSub, Int.reduceToNat]
  cases hs : isSmall w with
  | false =>
    rw [if_pos (by simp)]
    refine CallGi_flat s_law36_example rfl ?_
    simp only [go_sem, ↓reduceIte, Nat.reduceEqDiff, reduceCtorEq, Nat.reduceAdd, Nat.reduceLeDiff, Nat.reduceMul, Nat.reduceSub, Int.reduceToNat]
  | true =>
    have hw := isSmall_sm hs
    have hwb := hw.1
    rw [if_neg (by simp)]
    refine CallGi_flat (s_world_Validate w hw) rfl ?_
    simp only [go_sem, ↓reduceIte, Nat.reduceEqDiff, reduceCtorEq, Nat.reduceAdd, Nat.reduceLeDiff, Nat.reduceMul, Nat.reduceSub, Int.reduceToNat]
    by_cases hv : d_world_Validate w = 0
    · rw [if_neg (by simp [hv])]
      obtain ⟨hl, hb⟩ := bare_build hv
      refine CallGi_thaw (s_Build (bare w) (bare_sm hw)) ?_
      simp only [argsC, go_sem, ↓reduceIte, Nat.reduceEqDiff, reduceCtorEq, Nat.reduceAdd, Nat.reduceLeDiff, Nat.reduceMul, Nat.reduceSub, Int.reduceToNat]
      refine ⟨⟨rfl, rfl, rfl, rfl, rfl, avle_refl _, avle_nilD rfl, avle_nilD rfl, avle_refl _, rfl, rfl⟩, ?_⟩
      refine Wpi_loop hm (ι := {i : Nat // i ≤ w.Bodies.length}) (fun i => [(1, .share, .ptr 32 0 0 1), (4, .share, encD 3 Island.enc default (buildL (bare w))), (5, .share, .sc (.int .i64 (nd w i.1))), (6, .share, .sc (.int .i64 i.1))])
        (fun _ => [(32, .box w.enc)]) (fun i => w.Bodies.length - i.1) ⟨0, by omega⟩ ?_ ?_
      · refine weakE_of [] [] (by simp [go_sem]) (by simp [assoc, go_sem]) (by simp [go_sem]) ?_
        simp only [go_sem, ↓reduceIte, Nat.reduceEqDiff, reduceCtorEq, Nat.reduceAdd, Nat.reduceLeDiff, Nat.reduceMul, Nat.reduceSub, Int.reduceToNat]
        rfl
      · rintro ⟨i, hi⟩
        simp only [c_law36_IslandSingletonsb0, go_sem, ↓reduceIte, Nat.reduceEqDiff, reduceCtorEq, Nat.reduceAdd, Nat.reduceLeDiff, Nat.reduceMul, Nat.reduceSub, Int.reduceToNat]
        by_cases hlt : (i : Int) < w.Bodies.length
        · rw [if_pos hlt]
          have hlt : i < w.Bodies.length := by omega
          refine ⟨(by (repeat' (with_reducible apply And.intro)) <;> first | omega | (simp only [maxLen]; omega)), ?_⟩
          by_cases hk : (w.Bodies.getD i default).Kind = 3
          · have hk' : kd w i = true := by unfold kd; rw [hk]; rfl
            have hn := nd_lt hk' hlt
            have hbi := hb i hlt hk'
            rw [if_pos (by rw [hk]; rfl)]
            simp only [go_sem, ↓reduceIte, Nat.reduceEqDiff, reduceCtorEq, Nat.reduceAdd, Nat.reduceLeDiff, Nat.reduceMul, Nat.reduceSub, Int.reduceToNat, hl, hbi]
            have h5 : ¬ ((nd w w.Bodies.length : Int) ≤ (nd w i : Int)) := by omega
            have hns : nd w (i + 1) = nd w i + 1 := by show (if kd w i = true then nd w i + 1 else nd w i) = _; rw [if_pos hk']
            have hnl : nd w i ≤ 1048576 := by have := nd_le w i; have := hw.1; omega
            simp only [if_neg h5]
            refine ⟨fun _ => ⟨by omega, by omega⟩, fun _ => ⟨by omega, by omega⟩, fun _ => by decide, ?_⟩
            rw [if_neg (by simp)]
            refine loop_next ⟨i + 1, by omega⟩ (by show w.Bodies.length - (i + 1) < w.Bodies.length - i; omega) (weakE_of [] [] (by simp [go_sem]) (by simp [go_sem]) (by simp [go_sem]) ?_)
            simp only [go_sem, ↓reduceIte, Nat.reduceEqDiff, reduceCtorEq, Nat.reduceAdd, Nat.reduceLeDiff, Nat.reduceMul, Nat.reduceSub, Int.reduceToNat, hns]
            exact ⟨by rw [hl], (by rw [IntKind.wrap_i64]; omega), (by rw [IntKind.wrap_i64]; omega)⟩
          · have hk' : kd w i = false := by unfold kd; simpa using hk
            rw [if_neg (by simpa using hk)]
            refine loop_next ⟨i + 1, by omega⟩ (by show w.Bodies.length - (i + 1) < w.Bodies.length - i; omega) (weakE_of [] [] (by simp [go_sem]) (by simp [go_sem]) (by simp [go_sem]) ?_)
            simp only [go_sem, ↓reduceIte, Nat.reduceEqDiff, reduceCtorEq, Nat.reduceAdd, Nat.reduceLeDiff, Nat.reduceMul, Nat.reduceSub, Int.reduceToNat]
            have hns : nd w (i + 1) = nd w i := by show (if kd w i = true then nd w i + 1 else nd w i) = _; rw [if_neg (by rw [hk']; simp)]
            rw [hns]
            exact ⟨rfl, (by rw [IntKind.wrap_i64]; omega)⟩
        · rw [if_neg hlt]
          obtain rfl : i = w.Bodies.length := by omega
          refine CallGi_flat s_law36_example rfl ?_
          simp only [go_sem, ↓reduceIte, Nat.reduceEqDiff, reduceCtorEq, Nat.reduceAdd, Nat.reduceLeDiff, Nat.reduceMul, Nat.reduceSub, Int.reduceToNat, hl]
          simp
    · rw [if_pos (by simpa using hv)]
      have hb : buildL w = [] := by unfold buildL; rw [if_neg hv]
      refine CallGi_flat (s_Build w hw) rfl ?_
      simp only [go_sem, ↓reduceIte, Nat.reduceEqDiff, reduceCtorEq, Nat.reduceAdd, Nat.reduceLeDiff, Nat.reduceMul, Nat.reduceSub, Int.reduceToNat]
      refine CallGi_flat (s_island_Connected w 0 0 hw) rfl ?_
      simp only [go_sem, ↓reduceIte, Nat.reduceEqDiff, reduceCtorEq, Nat.reduceAdd, Nat.reduceLeDiff, Nat.reduceMul, Nat.reduceSub, Int.reduceToNat]
      refine CallGi_flat s_law36_example rfl ?_
      simp only [go_sem, ↓reduceIte, Nat.reduceEqDiff, reduceCtorEq, Nat.reduceAdd, Nat.reduceLeDiff, Nat.reduceMul, Nat.reduceSub, Int.reduceToNat]
      have hc : conB w 0 0 = false := by unfold conB; rw [hb]; rfl
      rw [hb, hc]; rfl

end Go.Abs
