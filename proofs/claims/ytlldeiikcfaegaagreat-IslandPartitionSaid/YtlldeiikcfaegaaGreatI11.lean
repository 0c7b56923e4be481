/- A part of the walk: contracts of functions that the statement reaches. -/
import Derived.Test.YtlldeiikcfaegaaGreatAbsC
import Derived.Test.YtlldeiikcfaegaaGreatI10
set_option linter.unusedSimpArgs false
set_option linter.unusedVariables false
set_option linter.unnecessarySimpa false
set_option maxRecDepth 100000
set_option maxHeartbeats 2000000
set_option linter.unusedSimpArgs false
set_option linter.unusedVariables false
namespace Go.Abs
open Go.Proofs
open Api
theorem CallGi_skipI {P : Program} {m : Nat → Option AObj} {f : FuncId} {avs : List AV} {b : Bool} {Q : ContR} (hb : b = false) (r : AV) (hK : @Ri Q b ⟨some r, []⟩) : @CallGi P m f avs b Q :=
  ⟨⟨some r, []⟩, (fun h => by rw [hb] at h; cases h), (fun h => absurd rfl h), hK⟩
def drO (w : Api.World) (x : Island) (l : List Int) : List (Nat × AObj) := (32, .box [.ptr 6 0 0 1]) :: gobj w x l
attribute [go_sem] drO
def pb (w : Api.World) (i k n : Nat) : Nat := cs (nB w i) k + (((buildL w).getD k default).Bodies.take n).count (i : Int)
theorem pb_le (w : Api.World) (i k n : Nat) : pb w i k n ≤ (k + 1) * w.Bodies.length := by
  have h1 := cs_le (f := nB w i) (M := w.Bodies.length) (fun k => Nat.le_trans List.count_le_length (buildL_at (k := k)).1) k
  have h2 : (((buildL w).getD k default).Bodies.take n).count (i : Int) ≤ w.Bodies.length := Nat.le_trans List.count_le_length (by rw [List.length_take]; have := (buildL_at (w := w) (k := k)).1; omega)
  unfold pb; rw [Nat.add_mul]; omega
theorem s_law36_IslandPartition (w : Api.World) : CallsA Tryz.prog F_law36_IslandPartition [.agg w.enc] [] (.sc (.bool true)) [] := by
  refine callsI_of (rs := [_]) hm Tryz.func7 (by kernel_rfl) (by kernel_rfl) is_law36_IslandPartition (by kernel_rfl : tmpsOf Tryz.f7.results.toList = some [2]) (by decide) (by kernel_rfl) ?_
  simp only [c_law36_IslandPartition, go_sem, ↓reduceIte, Nat.reduceEqDiff, reduceCtorEq, Nat.reduceAdd, Nat.reduceLeDiff, Nat.reduceMul, Nat.reduceSub, Int.reduceToNat]
  refine CallGi_flat (s_r27_IsSmall w) rfl ?_
  simp only [go_sem, ↓reduceIte, Nat.reduceEqDiff, reduceCtorEq, Nat.reduceAdd, Nat.reduceLeDiff, Nat.reduceMul, Nat.reduceSub, Int.reduceToNat]
  cases hs : isSmall w with
  | false =>
    refine CallGi_skipI rfl (.sc (.int .i64 0)) ?_
    simp only [go_sem, ↓reduceIte, Nat.reduceEqDiff, reduceCtorEq, Nat.reduceAdd, Nat.reduceLeDiff, Nat.reduceMul, Nat.reduceSub, Int.reduceToNat]
    refine CallGi_flat s_law36_example rfl ?_
    simp only [go_sem, ↓reduceIte, Nat.reduceEqDiff, reduceCtorEq, Nat.reduceAdd, Nat.reduceLeDiff, Nat.reduceMul, Nat.reduceSub, Int.reduceToNat]
  | true =>
    have hw := isSmall_sm hs
    have hwb := hw.1
    obtain ⟨q1, q2, q3⟩ := small_le hs
    have hbl := buildL_len w
    refine CallGi_flat (s_world_Validate w hw) rfl ?_
    simp only [go_sem, ↓reduceIte, Nat.reduceEqDiff, reduceCtorEq, Nat.reduceAdd, Nat.reduceLeDiff, Nat.reduceMul, Nat.reduceSub, Int.reduceToNat]
    by_cases hv : d_world_Validate w = 0
    · rw [if_neg (by simp [hv])]
      refine CallGi_flat (s_Build w hw) rfl ?_
      simp only [go_sem, ↓reduceIte, Nat.reduceEqDiff, reduceCtorEq, Nat.reduceAdd, Nat.reduceLeDiff, Nat.reduceMul, Nat.reduceSub, Int.reduceToNat]
      refine Wpi_loop hm (ι := {i : Nat // i ≤ w.Bodies.length}) (fun i => [(1, .share, .ptr 32 0 0 1), (3, .share, encD 3 Island.enc default (buildL w)), (4, .share, .sc (.int .i64 i.1))])
        (fun _ => [(32, .box w.enc)]) (fun i => w.Bodies.length - i.1) ⟨0, by omega⟩ ?_ ?_
      · refine weakE_of [] [] (by simp [go_sem]) (by simp [assoc, go_sem]) (by simp [go_sem]) ?_
        simp only [go_sem, ↓reduceIte, Nat.reduceEqDiff, reduceCtorEq, Nat.reduceAdd, Nat.reduceLeDiff, Nat.reduceMul, Nat.reduceSub, Int.reduceToNat]
        try rfl
      · rintro ⟨i, hi⟩
        simp only [c_law36_IslandPartitionb2, go_sem, ↓reduceIte, Nat.reduceEqDiff, reduceCtorEq, Nat.reduceAdd, Nat.reduceLeDiff, Nat.reduceMul, Nat.reduceSub, Int.reduceToNat]
        by_cases hlt : (i : Int) < w.Bodies.length
        · rw [if_pos hlt]
          have hlt : i < w.Bodies.length := by omega
          refine Wpi_loop hm (ι := {k : Nat // k ≤ (buildL w).length}) (fun k => [(1, .share, .ptr 32 0 0 1), (3, .share, encD 3 Island.enc default (buildL w)), (4, .share, .sc (.int .i64 i)), (5, .share, .sc (.int .i64 (pb w i k.1 0))), (6, .share, .sc (.int .i64 k.1))])
            (fun _ => [(32, .box w.enc)]) (fun k => (buildL w).length - k.1) ⟨0, by omega⟩ ?_ ?_
          · refine weakE_of [] [] (by simp [go_sem]) (by simp [assoc, go_sem]) (by simp [go_sem]) ?_
            simp only [go_sem, ↓reduceIte, Nat.reduceEqDiff, reduceCtorEq, Nat.reduceAdd, Nat.reduceLeDiff, Nat.reduceMul, Nat.reduceSub, Int.reduceToNat]
            try (simp [pb, cs]; done)
          · rintro ⟨k, hk⟩
            simp only [c_law36_IslandPartitionb1, go_sem, ↓reduceIte, Nat.reduceEqDiff, reduceCtorEq, Nat.reduceAdd, Nat.reduceLeDiff, Nat.reduceMul, Nat.reduceSub, Int.reduceToNat]
            by_cases hkl : (k : Int) < (buildL w).length
            · rw [if_pos hkl]
              have hkl : k < (buildL w).length := by omega
              obtain ⟨e1, e2, e3⟩ := buildL_at (w := w) (k := k)
              refine Wpi_loop hm (ι := {n : Nat // n ≤ ((buildL w).getD k default).Bodies.length}) (fun n => [(1, .share, .ptr 32 0 0 1), (3, .share, encD 3 Island.enc default (buildL w)), (4, .share, .sc (.int .i64 i)), (5, .share, .sc (.int .i64 (pb w i k n.1))), (6, .share, .sc (.int .i64 k)), (7, .share, .sc (.int .i64 n.1))])
                (fun _ => [(32, .box w.enc)]) (fun n => ((buildL w).getD k default).Bodies.length - n.1) ⟨0, by omega⟩ ?_ ?_
              · refine weakE_of [] [] (by simp [go_sem]) (by simp [assoc, go_sem]) (by simp [go_sem]) ?_
                simp only [go_sem, ↓reduceIte, Nat.reduceEqDiff, reduceCtorEq, Nat.reduceAdd, Nat.reduceLeDiff, Nat.reduceMul, Nat.reduceSub, Int.reduceToNat]
                try rfl
              · rintro ⟨n, hn⟩
                have hpl : pb w i k n ≤ 9 * 8 := Nat.le_trans (pb_le w i k n) (Nat.mul_le_mul (by omega) q1)
                simp only [c_law36_IslandPartitionb0, go_sem, ↓reduceIte, Nat.reduceEqDiff, reduceCtorEq, Nat.reduceAdd, Nat.reduceLeDiff, Nat.reduceMul, Nat.reduceSub, Int.reduceToNat]
                refine ⟨(by (repeat' (with_reducible apply And.intro)) <;> first | omega | (simp only [maxLen]; omega)), ?_⟩
                by_cases hnl : (n : Int) < ((buildL w).getD k default).Bodies.length
                · rw [if_pos hnl]
                  have hnl : n < ((buildL w).getD k default).Bodies.length := by omega
                  have hcs := count_snoc hnl (i : Int)
                  have hps : pb w i k (n + 1) = pb w i k n + if ((buildL w).getD k default).Bodies.getD n 0 = (i : Int) then 1 else 0 := by unfold pb; rw [hcs]; omega
                  refine ⟨(by (repeat' (with_reducible apply And.intro)) <;> first | omega | (simp only [maxLen]; omega)), (by (repeat' (with_reducible apply And.intro)) <;> first | omega | (simp only [maxLen]; omega)), ?_⟩
                  by_cases he : ((buildL w).getD k default).Bodies.getD n 0 = (i : Int)
                  · rw [if_pos (by rw [he]; simp)]
                    rw [if_pos he] at hps
                    refine loop_next ⟨n + 1, by omega⟩ (by show ((buildL w).getD k default).Bodies.length - (n + 1) < ((buildL w).getD k default).Bodies.length - n; omega) (weakE_of [] [] (by simp [go_sem]) (by simp [go_sem]) (by simp [go_sem]) ?_)
                    simp only [go_sem, ↓reduceIte, Nat.reduceEqDiff, reduceCtorEq, Nat.reduceAdd, Nat.reduceLeDiff, Nat.reduceMul, Nat.reduceSub, Int.reduceToNat, hps]
                    exact ⟨(by rw [IntKind.wrap_i64]; omega), (by rw [IntKind.wrap_i64]; omega)⟩
                  · rw [if_neg (by simpa using he)]
                    rw [if_neg he] at hps
                    refine loop_next ⟨n + 1, by omega⟩ (by show ((buildL w).getD k default).Bodies.length - (n + 1) < ((buildL w).getD k default).Bodies.length - n; omega) (weakE_of [] [] (by simp [go_sem]) (by simp [go_sem]) (by simp [go_sem]) ?_)
                    simp only [go_sem, ↓reduceIte, Nat.reduceEqDiff, reduceCtorEq, Nat.reduceAdd, Nat.reduceLeDiff, Nat.reduceMul, Nat.reduceSub, Int.reduceToNat, hps]
                    exact ⟨rfl, (by rw [IntKind.wrap_i64]; omega)⟩
                · rw [if_neg hnl]
                  obtain rfl : n = ((buildL w).getD k default).Bodies.length := by omega
                  have hps : pb w i (k + 1) 0 = pb w i k ((buildL w).getD k default).Bodies.length := by unfold pb; rw [List.take_length]; rfl
                  refine loop_next ⟨k + 1, by omega⟩ (by show (buildL w).length - (k + 1) < (buildL w).length - k; omega) (weakE_of [] [] (by simp [go_sem]) (by simp [go_sem]) (by simp [go_sem]) ?_)
                  simp only [go_sem, ↓reduceIte, Nat.reduceEqDiff, reduceCtorEq, Nat.reduceAdd, Nat.reduceLeDiff, Nat.reduceMul, Nat.reduceSub, Int.reduceToNat, hps]
                  first | exact (by rw [IntKind.wrap_i64]; omega) | exact ⟨rfl, (by rw [IntKind.wrap_i64]; omega)⟩
            · rw [if_neg hkl]
              obtain rfl : k = (buildL w).length := by omega
              have hsum : (pb w i (buildL w).length 0 : Int) = if kd w i = true then 1 else 0 := by
                have := sumB hv hlt
                unfold pb; rw [this]; split <;> simp
              simp only [go_sem, ↓reduceIte, Nat.reduceEqDiff, reduceCtorEq, Nat.reduceAdd, Nat.reduceLeDiff, Nat.reduceMul, Nat.reduceSub, Int.reduceToNat, hsum]
              refine ⟨(by (repeat' (with_reducible apply And.intro)) <;> first | omega | (simp only [maxLen]; omega)), ?_⟩
              have hkd : kd w i = ((w.Bodies.getD i default).Kind == 3) := rfl
              rw [hkd]
              generalize ((w.Bodies.getD i default).Kind == 3) = b
              rw [if_neg (by cases b <;> simp)]
              refine loop_next ⟨i + 1, by omega⟩ (by show w.Bodies.length - (i + 1) < w.Bodies.length - i; omega) (weakE_of [] [] (by simp [go_sem]) (by simp [go_sem]) (by simp [go_sem]) ?_)
              simp only [go_sem, ↓reduceIte, Nat.reduceEqDiff, reduceCtorEq, Nat.reduceAdd, Nat.reduceLeDiff, Nat.reduceMul, Nat.reduceSub, Int.reduceToNat]
              first | exact (by rw [IntKind.wrap_i64]; omega) | exact ⟨rfl, (by rw [IntKind.wrap_i64]; omega)⟩
        · rw [if_neg hlt]
          refine CallGi_flat (s_law36_inOneIsland w hs hv) rfl ?_
          simp only [go_sem, ↓reduceIte, Nat.reduceEqDiff, reduceCtorEq, Nat.reduceAdd, Nat.reduceLeDiff, Nat.reduceMul, Nat.reduceSub, Int.reduceToNat]
          refine CallGi_flat s_law36_example rfl ?_
          simp only [go_sem, ↓reduceIte, Nat.reduceEqDiff, reduceCtorEq, Nat.reduceAdd, Nat.reduceLeDiff, Nat.reduceMul, Nat.reduceSub, Int.reduceToNat]
    · rw [if_pos (by simpa using hv)]
      refine CallGi_flat s_law36_example rfl ?_
      simp only [go_sem, ↓reduceIte, Nat.reduceEqDiff, reduceCtorEq, Nat.reduceAdd, Nat.reduceLeDiff, Nat.reduceMul, Nat.reduceSub, Int.reduceToNat]

end Go.Abs
