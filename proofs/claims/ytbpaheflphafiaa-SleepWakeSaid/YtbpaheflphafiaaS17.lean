/- A part of the walk: contracts of functions that the statement reaches. -/
import Derived.Test.YtbpaheflphafiaaS16
import Derived.Test.YtbpaheflphafiaaS8
set_option linter.unusedSimpArgs false
set_option linter.unusedVariables false
set_option linter.unnecessarySimpa false
set_option maxRecDepth 100000
set_option maxHeartbeats 2000000
set_option linter.unusedSimpArgs false
set_option linter.unusedVariables false
namespace Go.Abs
open Go.Proofs
open Api
theorem s_r37_Indices (l : List Int) (n : Nat) (hl : l.length ≤ 1048576) : CallsA Try.prog F_r37_Indices [encD 1 encInt 0 l, .sc (.int .i64 n)] [] (encD 1 encInt 0 (inds l n)) [] := by
  refine callsI_of (rs := [_]) hm Try.func45 (by kernel_rfl) (by kernel_rfl) is_r37_Indices (by kernel_rfl : tmpsOf Try.f45.results.toList = some [4]) (by decide) (by kernel_rfl) ?_
  simp only [c_r37_Indices, go_sem, reduceIte, Nat.reduceEqDiff, reduceCtorEq, Nat.reduceAdd, Nat.reduceLeDiff, Nat.reduceMul, Nat.reduceSub, Int.reduceToNat]
  refine Wpi_loop hm (ι := {i : Nat // i ≤ l.length}) (fun i => [(0, .share, encD 1 encInt 0 l), (1, .share, .sc (.int .i64 n)), (5, if i.1 = 0 then .adopt else .share, .sl 1 0 (inds (l.take i.1) n).length (inds (l.take i.1) n).length), (6, .share, .sc (.int .i64 i.1))])
    (fun i => [(1, .arr 1 (encQ encInt 0 (inds (l.take i.1) n)))]) (fun i => l.length - i.1) ⟨0, by omega⟩ ?_ ?_
  · refine weakE_of [] [1] (by simp [go_sem]) (by simp [assoc, go_sem]) (by simp [go_sem]) ?_
    simp only [go_sem, reduceIte, Nat.reduceEqDiff, reduceCtorEq, Nat.reduceAdd, Nat.reduceLeDiff, Nat.reduceMul, Nat.reduceSub, Int.reduceToNat]
    simp only [inds, List.foldl_nil, List.length_nil, go_sem, reduceIte, Nat.reduceEqDiff, reduceCtorEq, Nat.reduceAdd, Nat.reduceLeDiff, Nat.reduceMul, Nat.reduceSub, Int.reduceToNat]
  · rintro ⟨i, hi⟩
    have hn := inds_len (l.take i) n
    have hn : (inds (l.take i) n).length ≤ 1048576 := by simp at hn; omega
    simp only [c_r37_Indicesb0, go_sem, reduceIte, Nat.reduceEqDiff, reduceCtorEq, Nat.reduceAdd, Nat.reduceLeDiff, Nat.reduceMul, Nat.reduceSub, Int.reduceToNat]
    split
    · rename_i hlt
      have hlt : i < l.length := by omega
      rw [ite_dec]
      refine ⟨(by (repeat' (with_reducible apply And.intro)) <;> first | omega | (simp only [maxLen]; omega)), (by (repeat' (with_reducible apply And.intro)) <;> first | omega | (simp only [maxLen]; omega)), ?_⟩
      by_cases hc : 0 ≤ l.getD i 0 ∧ l.getD i 0 < (n : Int)
      · rw [decide_eq_true hc]
        refine ⟨(by (repeat' (with_reducible apply And.intro)) <;> first | omega | (simp only [maxLen]; omega)), ?_⟩
        refine CallGi_keep (s_r37_has (inds (l.take i) n) (l.getD i 0) (by omega)) rfl (by simp only [argsC, go_sem, reduceIte, Nat.reduceEqDiff, reduceCtorEq, Nat.reduceAdd, Nat.reduceLeDiff, Nat.reduceMul, Nat.reduceSub, Int.reduceToNat]) ?_
        simp only [go_sem, reduceIte, Nat.reduceEqDiff, reduceCtorEq, Nat.reduceAdd, Nat.reduceLeDiff, Nat.reduceMul, Nat.reduceSub, Int.reduceToNat]
        cases ha : ((inds (l.take i) n).any fun y => l.getD i 0 == y) with
        | true =>
          have he : inds (l.take (i + 1)) n = inds (l.take i) n := by
            rw [inds_snoc hlt]; unfold indL; rw [if_neg (fun h => h.2 ha)]
          rw [if_neg (by simp)]
          refine loop_next ⟨i + 1, by omega⟩ (by show l.length - (i + 1) < l.length - i; omega) (weakE_of [] [] (by simp [go_sem]) (by simp [go_sem]) (by simp [go_sem]) ?_)
          simp only [go_sem, reduceIte, Nat.reduceEqDiff, reduceCtorEq, Nat.reduceAdd, Nat.reduceLeDiff, Nat.reduceMul, Nat.reduceSub, Int.reduceToNat, he]
          exact (by rw [IntKind.wrap_i64]; omega)
        | false =>
          have he : inds (l.take (i + 1)) n = inds (l.take i) n ++ [l.getD i 0] := by
            rw [inds_snoc hlt]; unfold indL; rw [if_pos ⟨hc, by rw [ha]; simp⟩]
          rw [if_pos rfl]
          refine ⟨(by (repeat' (with_reducible apply And.intro)) <;> first | omega | (simp only [maxLen]; omega)), (by (repeat' (with_reducible apply And.intro)) <;> first | omega | (simp only [maxLen]; omega)), ?_⟩
          refine loop_next ⟨i + 1, by omega⟩ (by show l.length - (i + 1) < l.length - i; omega) (weakE_of [] [] (by simp [go_sem]) (by simp [go_sem]) (by simp [go_sem]) ?_)
          simp only [go_sem, reduceIte, Nat.reduceEqDiff, reduceCtorEq, Nat.reduceAdd, Nat.reduceLeDiff, Nat.reduceMul, Nat.reduceSub, Int.reduceToNat, he, List.length_append, List.length_singleton]
          exact ⟨(by rw [IntKind.wrap_i64]; omega), q_app1 (l.getD i 0) rfl rfl⟩
      · have he : inds (l.take (i + 1)) n = inds (l.take i) n := by
          rw [inds_snoc hlt]; unfold indL; rw [if_neg (fun h => hc h.1)]
        rw [decide_eq_false hc]
        refine ⟨fun h => (by cases h), ?_⟩
        refine CallGi_skip rfl (.sc (.bool false)) ?_
        simp only [go_sem, reduceIte, Nat.reduceEqDiff, reduceCtorEq, Nat.reduceAdd, Nat.reduceLeDiff, Nat.reduceMul, Nat.reduceSub, Int.reduceToNat]
        refine loop_next ⟨i + 1, by omega⟩ (by show l.length - (i + 1) < l.length - i; omega) (weakE_of [] [] (by simp [go_sem]) (by simp [go_sem]) (by simp [go_sem]) ?_)
        simp only [go_sem, reduceIte, Nat.reduceEqDiff, reduceCtorEq, Nat.reduceAdd, Nat.reduceLeDiff, Nat.reduceMul, Nat.reduceSub, Int.reduceToNat, he]
        exact (by rw [IntKind.wrap_i64]; omega)
    · rename_i hge
      obtain rfl : i = l.length := by omega
      simp only [List.take_length, Nat.min_self, go_sem, reduceIte, Nat.reduceEqDiff, reduceCtorEq, Nat.reduceAdd, Nat.reduceLeDiff, Nat.reduceMul, Nat.reduceSub, Int.reduceToNat]

theorem any_indX (p : Int → Bool) (l : List Int) (n : Nat) : (inds l n).any p = l.any fun i => decide (0 ≤ i ∧ i < (n : Int)) && p i := by
  rw [Bool.eq_iff_iff, List.any_eq_true, List.any_eq_true]
  constructor
  · rintro ⟨x, hx, hp⟩
    obtain ⟨h1, h2⟩ := inds_mem.1 hx
    exact ⟨x, h1, by rw [decide_eq_true h2, hp]; rfl⟩
  · rintro ⟨x, hx, hp⟩
    rw [Bool.and_eq_true, decide_eq_true_eq] at hp
    exact ⟨x, inds_mem.2 ⟨hx, hp.1⟩, hp.2⟩
theorem motor_any (w : Api.World) (x : Island) : x.Joints.any (motor w) = (inds x.Joints w.Joints.length).any fun i => (w.Joints.getD i.toNat default).EnableMotor := by
  rw [any_indX]
  congr 1; funext i
  unfold motor
  by_cases h : 0 ≤ i ∧ i < (w.Joints.length : Int)
  · rw [if_pos h, decide_eq_true h, Bool.true_and]
  · rw [if_neg h, decide_eq_false h, Bool.false_and]
theorem any_take_succ {α : Type} {l : List α} {i : Nat} {p : α → Bool} (d : α) (h : i < l.length) : (l.take (i + 1)).any p = ((l.take i).any p || p (l.getD i d)) := by
  rw [take_snoc d h, List.any_append]; simp
theorem any_at {α : Type} {l : List α} {i : Nat} {p : α → Bool} (d : α) (h : i < l.length) (hp : p (l.getD i d) = true) : l.any p = true :=
  List.any_eq_true.2 ⟨_, mem_getD d h, hp⟩
theorem bodL_in {w : Api.World} {x : Island} {i : Int} (h : i ∈ bodL w x) : 0 ≤ i ∧ i < (w.Bodies.length : Int) := bod3_in w x i (bodL_mem.1 h)
theorem s_r37_moved (w : Api.World) (x : Island) (hw : Wsm w) (hx : Ism x) : CallsA Try.prog F_r37_moved [.agg w.enc, .agg x.enc] [] (.sc (.bool (drivenB w x))) [] := by
  have hb := bodL_len w x
  have hb3 := bod3_len (w := w) hx
  refine callsI_of (rs := [_]) hm Try.func46 (by kernel_rfl) (by kernel_rfl) is_r37_moved (by kernel_rfl : tmpsOf Try.f46.results.toList = some [4]) (by decide) (by kernel_rfl) ?_
  simp only [c_r37_moved, go_sem, reduceIte, Nat.reduceEqDiff, reduceCtorEq, Nat.reduceAdd, Nat.reduceLeDiff, Nat.reduceMul, Nat.reduceSub, Int.reduceToNat]
  refine CallGi_flat (s_r36_Bodies w x hw hx) rfl ?_
  simp only [go_sem, reduceIte, Nat.reduceEqDiff, reduceCtorEq, Nat.reduceAdd, Nat.reduceLeDiff, Nat.reduceMul, Nat.reduceSub, Int.reduceToNat]
  refine Wpi_loop hm (ι := {i : Nat // i ≤ (bodL w x).length ∧ ((bodL w x).take i).any (fun i => drvB (getB w i)) = false}) (fun i => [(2, .share, .ptr 48 0 0 1), (3, .share, .ptr 64 0 0 1), (5, .share, encD 1 encInt 0 (bodL w x)), (6, .share, .sc (.int .i64 i.1))])
    (fun i => [(48, .box w.enc), (64, .box x.enc)]) (fun i => (bodL w x).length - i.1) ⟨0, by omega, rfl⟩ ?_ ?_
  · refine weakE_of [] [] (by simp [go_sem]) (by simp [assoc, go_sem]) (by simp [go_sem]) ?_
    simp only [go_sem, reduceIte, Nat.reduceEqDiff, reduceCtorEq, Nat.reduceAdd, Nat.reduceLeDiff, Nat.reduceMul, Nat.reduceSub, Int.reduceToNat]
  · rintro ⟨i, hi, hs⟩
    simp only [c_r37_movedb0, go_sem, reduceIte, Nat.reduceEqDiff, reduceCtorEq, Nat.reduceAdd, Nat.reduceLeDiff, Nat.reduceMul, Nat.reduceSub, Int.reduceToNat]
    split
    · rename_i hlt
      have hlt : i < (bodL w x).length := by omega
      have hin := bodL_in (mem_getD 0 hlt)
      refine ⟨(by (repeat' (with_reducible apply And.intro)) <;> first | omega | (simp only [maxLen]; omega)), hin, fun h => ⟨h, fun h' => by rw [h, h']; rfl⟩, ?_⟩
      cases hd : drvB (getB w ((bodL w x).getD i 0)) with
      | true =>
        have hd2 := hd
        simp only [drvB, getB] at hd2
        rw [if_pos hd2]
        have := any_at (p := fun i => drvB (getB w i)) 0 hlt hd
        unfold drivenB; rw [this]; rfl
      | false =>
        have hd2 := hd
        simp only [drvB, getB] at hd2
        rw [if_neg (by rw [hd2]; simp)]
        refine loop_next ⟨i + 1, by omega, by rw [any_take_succ 0 hlt, hs, hd]; rfl⟩ (by show (bodL w x).length - (i + 1) < (bodL w x).length - i; omega) (weakE_of [] [] (by simp [go_sem]) (by simp [assoc, go_sem]) (by simp [go_sem]) ?_)
        simp only [go_sem, reduceIte, Nat.reduceEqDiff, reduceCtorEq, Nat.reduceAdd, Nat.reduceLeDiff, Nat.reduceMul, Nat.reduceSub, Int.reduceToNat]
        exact (by rw [IntKind.wrap_i64]; omega)
    · rename_i hge
      obtain rfl : i = (bodL w x).length := by omega
      have hm0 : drivenB w x = (inds x.Joints w.Joints.length).any fun i => (w.Joints.getD i.toNat default).EnableMotor := by
        rw [List.take_length] at hs
        unfold drivenB; rw [hs, Bool.false_or, motor_any]
      have hj := inds_len x.Joints w.Joints.length
      have hj1 := hx.2.2
      refine CallGi_flat (s_r37_Indices x.Joints w.Joints.length hj1) rfl ?_
      simp only [go_sem, reduceIte, Nat.reduceEqDiff, reduceCtorEq, Nat.reduceAdd, Nat.reduceLeDiff, Nat.reduceMul, Nat.reduceSub, Int.reduceToNat]
      refine Wpi_loop hm (ι := {i : Nat // i ≤ (inds x.Joints w.Joints.length).length ∧ ((inds x.Joints w.Joints.length).take i).any (fun i => (w.Joints.getD i.toNat default).EnableMotor) = false}) (fun i => [(2, .share, .ptr 48 0 0 1), (3, .share, .ptr 64 0 0 1), (8, .share, encD 1 encInt 0 (inds x.Joints w.Joints.length)), (9, .share, .sc (.int .i64 i.1))])
        (fun i => [(48, .box w.enc), (64, .box x.enc)]) (fun i => (inds x.Joints w.Joints.length).length - i.1) ⟨0, by omega, rfl⟩ ?_ ?_
      · refine weakE_of [] [] (by simp [go_sem]) (by simp [assoc, go_sem]) (by simp [go_sem]) ?_
        simp only [go_sem, reduceIte, Nat.reduceEqDiff, reduceCtorEq, Nat.reduceAdd, Nat.reduceLeDiff, Nat.reduceMul, Nat.reduceSub, Int.reduceToNat]
      · rintro ⟨i, hi, hs⟩
        simp only [c_r37_movedb1, go_sem, reduceIte, Nat.reduceEqDiff, reduceCtorEq, Nat.reduceAdd, Nat.reduceLeDiff, Nat.reduceMul, Nat.reduceSub, Int.reduceToNat]
        split
        · rename_i hlt
          have hlt : i < (inds x.Joints w.Joints.length).length := by omega
          have hin := (inds_mem.1 (mem_getD 0 hlt)).2
          refine ⟨(by (repeat' (with_reducible apply And.intro)) <;> first | omega | (simp only [maxLen]; omega)), hin, ?_⟩
          cases hd : (w.Joints.getD ((inds x.Joints w.Joints.length).getD i 0).toNat default).EnableMotor with
          | true =>
            rw [if_pos rfl, hm0]
            exact (any_at (p := fun i : Int => (w.Joints.getD i.toNat default).EnableMotor) 0 hlt hd).symm
          | false =>
            rw [if_neg (by simp)]
            refine loop_next ⟨i + 1, by omega, by rw [any_take_succ 0 hlt, hs, hd]; rfl⟩ (by show (inds x.Joints w.Joints.length).length - (i + 1) < (inds x.Joints w.Joints.length).length - i; omega) (weakE_of [] [] (by simp [go_sem]) (by simp [assoc, go_sem]) (by simp [go_sem]) ?_)
            simp only [go_sem, reduceIte, Nat.reduceEqDiff, reduceCtorEq, Nat.reduceAdd, Nat.reduceLeDiff, Nat.reduceMul, Nat.reduceSub, Int.reduceToNat]
            exact (by rw [IntKind.wrap_i64]; omega)
        · rename_i hge
          have : i = (inds x.Joints w.Joints.length).length := by omega
          subst this
          rw [List.take_length] at hs
          rw [hm0]; exact hs.symm
theorem s_r37_IsAwake (w : Api.World) (x : Island) (hw : Wsm w) (hx : Ism x) : CallsA Try.prog F_r37_IsAwake [.agg w.enc, .agg x.enc] [] (.sc (.bool (awakeB w x (indX w x)))) [] := by
  have hj := indX_len (w := w) hx
  refine callsI_of (rs := [_]) hm Try.func26 (by kernel_rfl) (by kernel_rfl) is_r37_IsAwake (by kernel_rfl : tmpsOf Try.f26.results.toList = some [4]) (by decide) (by kernel_rfl) ?_
  simp only [c_r37_IsAwake, go_sem, reduceIte, Nat.reduceEqDiff, reduceCtorEq, Nat.reduceAdd, Nat.reduceLeDiff, Nat.reduceMul, Nat.reduceSub, Int.reduceToNat]
  refine CallGi_flat (s_r37_Indices x.Bodies w.Bodies.length hx.1) rfl ?_
  simp only [go_sem, reduceIte, Nat.reduceEqDiff, reduceCtorEq, Nat.reduceAdd, Nat.reduceLeDiff, Nat.reduceMul, Nat.reduceSub, Int.reduceToNat]
  have hI : inds x.Bodies w.Bodies.length = indX w x := rfl
  simp only [hI]
  refine Wpi_loop hm (ι := {i : Nat // i ≤ (indX w x).length ∧ ((indX w x).take i).any (fun i => !(getB w i).Asleep) = false}) (fun i => [(2, .share, .ptr 48 0 0 1), (3, .share, .ptr 64 0 0 1), (5, .share, encD 1 encInt 0 (indX w x)), (6, .share, .sc (.int .i64 i.1))])
    (fun i => [(48, .box w.enc), (64, .box x.enc)]) (fun i => (indX w x).length - i.1) ⟨0, by omega, rfl⟩ ?_ ?_
  · refine weakE_of [] [] (by simp [go_sem]) (by simp [assoc, go_sem]) (by simp [go_sem]) ?_
    simp only [go_sem, reduceIte, Nat.reduceEqDiff, reduceCtorEq, Nat.reduceAdd, Nat.reduceLeDiff, Nat.reduceMul, Nat.reduceSub, Int.reduceToNat]
  · rintro ⟨i, hi, hs⟩
    simp only [c_r37_IsAwakeb0, go_sem, reduceIte, Nat.reduceEqDiff, reduceCtorEq, Nat.reduceAdd, Nat.reduceLeDiff, Nat.reduceMul, Nat.reduceSub, Int.reduceToNat]
    split
    · rename_i hlt
      have hlt : i < (indX w x).length := by omega
      have hin := indX_in w x _ (mem_getD 0 hlt)
      refine ⟨(by (repeat' (with_reducible apply And.intro)) <;> first | omega | (simp only [maxLen]; omega)), hin, ?_⟩
      cases hd : (w.Bodies.getD ((indX w x).getD i 0).toNat default).Asleep with
      | false =>
        rw [if_pos rfl]
        have := any_at (p := fun i => !(getB w i).Asleep) 0 hlt (by show (!(getB w ((indX w x).getD i 0)).Asleep) = true; unfold getB; rw [hd]; rfl)
        unfold awakeB; rw [this]; rfl
      | true =>
        rw [if_neg (by simp)]
        refine loop_next ⟨i + 1, by omega, by rw [any_take_succ 0 hlt, hs]; unfold getB; rw [hd]; rfl⟩ (by show (indX w x).length - (i + 1) < (indX w x).length - i; omega) (weakE_of [] [] (by simp [go_sem]) (by simp [assoc, go_sem]) (by simp [go_sem]) ?_)
        simp only [go_sem, reduceIte, Nat.reduceEqDiff, reduceCtorEq, Nat.reduceAdd, Nat.reduceLeDiff, Nat.reduceMul, Nat.reduceSub, Int.reduceToNat]
        exact (by rw [IntKind.wrap_i64]; omega)
    · rename_i hge
      obtain rfl : i = (indX w x).length := by omega
      refine CallGi_flat (s_r37_moved w x hw hx) rfl ?_
      simp only [go_sem, reduceIte, Nat.reduceEqDiff, reduceCtorEq, Nat.reduceAdd, Nat.reduceLeDiff, Nat.reduceMul, Nat.reduceSub, Int.reduceToNat]
      rw [List.take_length] at hs
      unfold awakeB; rw [hs]; rfl

end Go.Abs
