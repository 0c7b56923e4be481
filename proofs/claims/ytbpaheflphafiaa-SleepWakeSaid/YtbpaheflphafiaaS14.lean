/- A part of the walk: contracts of functions that the statement reaches. -/
import Derived.Test.YtbpaheflphafiaaS13
set_option linter.unusedSimpArgs false
set_option linter.unusedVariables false
set_option linter.unnecessarySimpa false
set_option maxRecDepth 100000
set_option maxHeartbeats 2000000
set_option linter.unusedSimpArgs false
set_option linter.unusedVariables false
namespace Go.Abs
open Go.Proofs
open Api
theorem wk_other (l : List Int) : ∀ (s : List Body × List (Int × Int)) (i : Nat), (∀ j ∈ l, 0 ≤ j) → (i : Int) ∉ l → ((l.foldl wkStep s).1.getD i default) = s.1.getD i default := by
  induction l with
  | nil => intro s i _ _; rfl
  | cons a l ih =>
    intro s i h hi
    rw [List.foldl_cons, ih (wkStep s a) i (fun j hj => h j (by simp [hj])) (fun h' => hi (by simp [h']))]
    unfold wkStep
    split
    · have := h a (by simp)
      exact getD_set_ne fun e => hi (by subst e; rw [Int.toNat_of_nonneg this]; simp)
    · rfl
theorem up_other (l : List Int) : ∀ (s : List Body) (i : Nat), (∀ j ∈ l, 0 ≤ j) → (i : Int) ∉ l → ((l.foldl (fun bs i => bs.set i.toNat (updIdle (bs.getD i.toNat default))) s).getD i default) = s.getD i default := by
  induction l with
  | nil => intro s i _ _; rfl
  | cons a l ih =>
    intro s i h hi
    rw [List.foldl_cons, ih _ i (fun j hj => h j (by simp [hj])) (fun h' => hi (by simp [h']))]
    have := h a (by simp)
    exact getD_set_ne fun e => hi (by subst e; rw [Int.toNat_of_nonneg this]; simp)
theorem sl_other (l : List Int) : ∀ (s : List Body × List (Int × Int)) (i : Nat), (∀ j ∈ l, 0 ≤ j) → (i : Int) ∉ l → ((l.foldl slStep s).1.getD i default) = s.1.getD i default := by
  induction l with
  | nil => intro s i _ _; rfl
  | cons a l ih =>
    intro s i h hi
    rw [List.foldl_cons, ih (slStep s a) i (fun j hj => h j (by simp [hj])) (fun h' => hi (by simp [h']))]
    have := h a (by simp)
    exact getD_set_ne fun e => hi (by subst e; rw [Int.toNat_of_nonneg this]; simp)
theorem indX_not {w : Api.World} {x : Island} {i : Nat} (h : (x.Bodies.any fun y => y == (i : Int)) = false) : (i : Int) ∉ indX w x := fun hi => by
  have := (inds_mem.1 hi).1
  rw [List.any_eq_false] at h
  exact h _ this (by simp)
theorem wake_out {w : Api.World} {x : Island} {i : Nat} (h : (x.Bodies.any fun y => y == (i : Int)) = false) : (wkR w x).1.getD i default = w.Bodies.getD i default := by
  unfold wkR; split
  · exact wk_other (indX w x) (w.Bodies, []) i (fun j hj => (indX_in w x j hj).1) (indX_not h)
  · rfl
theorem upd_out {w : Api.World} {x : Island} {i : Nat} (h : (x.Bodies.any fun y => y == (i : Int)) = false) : (updR w x).1.getD i default = w.Bodies.getD i default := by
  have hu : (upF w (indX w x)).getD i default = w.Bodies.getD i default := up_other (indX w x) w.Bodies i (fun j hj => (indX_in w x j hj).1) (indX_not h)
  unfold updR; split
  · split
    · exact (sl_other (indX w x) (upF w (indX w x), []) i (fun j hj => (indX_in w x j hj).1) (indX_not h)).trans hu
    · exact hu
  · rfl
theorem upd_off {w : Api.World} {x : Island} (h : w.Settings.SleepSteps ≤ 0) : (updR w x).2 = [] := by
  unfold updR; split
  · rw [if_neg (by unfold stillB; rw [decide_eq_true h]; simp)]
  · rfl
theorem updW_sm {w : Api.World} (hw : Wsm w) (x : Island) : Wsm (updW w x) := by
  obtain ⟨u1, u2, u3, u4, u5, u6⟩ := upF_sm hw (indX w x)
  have hd : Body.sm default := ⟨by decide, fun f hf => by cases hf⟩
  have key : ∀ (l : List Int) (s : List Body × List (Int × Int)), (∀ b ∈ s.1, Body.sm b) → ∀ b ∈ (l.foldl slStep s).1, Body.sm b := by
    intro l
    induction l with
    | nil => exact fun s h => h
    | cons a l ih =>
      intro s h
      refine ih _ fun b hb => ?_
      rcases List.mem_or_eq_of_mem_set hb with h1 | rfl
      · exact h b h1
      · show Body.sm (s.1.getD a.toNat default)
        rcases getD_mem_or s.1 a.toNat default with h2 | h2
        · exact h _ h2
        · rw [h2]; exact hd
  refine ⟨?_, hw.2.1, hw.2.2.1, hw.2.2.2.1, ?_, hw.2.2.2.2.2⟩
  · show (updR w x).1.length ≤ _
    rw [updR_len]; exact hw.1
  · show ∀ b ∈ (updR w x).1, Body.sm b
    unfold updR; split
    · split
      · exact key _ (upF w (indX w x), []) u5
      · exact u5
    · exact hw.2.2.2.2.1
def ObD (w : Api.World) (x : Island) (a b : Api.World) : List (Nat × AObj) := (48, .box w.enc) :: (64, .box x.enc) :: (112, .box [.sc (.int .i64 a.Settings.TimeStep), .sc (.int .i64 a.Settings.Gravity.X), .sc (.int .i64 a.Settings.Gravity.Y), .sc (.int .i64 a.Settings.Iterations), .sc (.int .i64 a.Settings.SleepSteps),
  .sl 1 0 a.Bodies.length a.Bodies.length, .sl 2 0 a.Joints.length a.Joints.length, .sl 3 0 a.Contacts.length a.Contacts.length, .sl 4 0 a.Overlaps.length a.Overlaps.length, .sc (.int .i64 a.NextID), .sc (.int .i64 a.Frame)]) ::
  (144, .box [.sc (.int .i64 b.Settings.TimeStep), .sc (.int .i64 b.Settings.Gravity.X), .sc (.int .i64 b.Settings.Gravity.Y), .sc (.int .i64 b.Settings.Iterations), .sc (.int .i64 b.Settings.SleepSteps),
  .sl 11 0 b.Bodies.length b.Bodies.length, .sl 12 0 b.Joints.length b.Joints.length, .sl 13 0 b.Contacts.length b.Contacts.length, .sl 14 0 b.Overlaps.length b.Overlaps.length, .sc (.int .i64 b.NextID), .sc (.int .i64 b.Frame)]) :: (Wobj a 1 2 3 4 ++ Wobj b 11 12 13 14)
attribute [go_sem] ObD
theorem s_law37_SleepDisabled (w : Api.World) (x : Island) : CallsA Try.prog F_law37_SleepDisabled [.agg w.enc, .agg x.enc] [] (.sc (.bool true)) [] := by
  refine callsI_of (rs := [_]) hm Try.func6 (by kernel_rfl) (by kernel_rfl) is_law37_SleepDisabled (by kernel_rfl : tmpsOf Try.f6.results.toList = some [4]) (by decide) (by kernel_rfl) ?_
  simp only [c_law37_SleepDisabled, go_sem, reduceIte, Nat.reduceEqDiff, reduceCtorEq, Nat.reduceAdd, Nat.reduceLeDiff, Nat.reduceMul, Nat.reduceSub, Int.reduceToNat]
  refine CallGi_flat (s_law37_fair w x) rfl ?_
  simp only [go_sem, reduceIte, Nat.reduceEqDiff, reduceCtorEq, Nat.reduceAdd, Nat.reduceLeDiff, Nat.reduceMul, Nat.reduceSub, Int.reduceToNat]
  cases hf : fairB w x with
  | false =>
    rw [if_pos rfl]
    refine CallGi_flat s_law37_example rfl ?_
    simp only [go_sem, reduceIte, Nat.reduceEqDiff, reduceCtorEq, Nat.reduceAdd, Nat.reduceLeDiff, Nat.reduceMul, Nat.reduceSub, Int.reduceToNat]
  | true =>
    rw [if_neg (by simp)]
    obtain ⟨hw, hx⟩ := fairB_sm hf
    have hw1 := hw.1
    have hx1 := hx.1
    have ha := wakeW_sm hw x
    have hb := updW_sm hw x
    have hW : CallsA Try.prog F_sleep_Wake [.agg w.enc, .agg x.enc] [] (.tup [Wown (wakeW w x) 1 2 3 4, .sl 5 0 (wkR w x).2.length (wkR w x).2.length]) (Wobj (wakeW w x) 1 2 3 4 ++ evObj 5 (wkR w x).2) := s_sleep_Wake w x hw hx
    have hU : CallsA Try.prog F_sleep_Update [.agg w.enc, .agg x.enc] [] (.tup [Wown (updW w x) 1 2 3 4, .sl 5 0 (updR w x).2.length (updR w x).2.length]) (Wobj (updW w x) 1 2 3 4 ++ evObj 5 (updR w x).2) := s_sleep_Update w x hw hx
    have l1 : (wakeW w x).Bodies.length = w.Bodies.length := wkR_len w x
    have l2 : (updW w x).Bodies.length = w.Bodies.length := updR_len w x
    have hA := s_sleep_IsAwake w x hw hx
    have o1 : ∀ i : Nat, (x.Bodies.any fun y => y == (i : Int)) = false → (wakeW w x).Bodies.getD i default = w.Bodies.getD i default := fun i h => wake_out h
    have o2 : ∀ i : Nat, (x.Bodies.any fun y => y == (i : Int)) = false → (updW w x).Bodies.getD i default = w.Bodies.getD i default := fun i h => upd_out h
    have k1 : awakeB w x (indX w x) = false → wakeW w x = w ∧ updW w x = w ∧ (wkR w x).2 = [] ∧ (updR w x).2 = [] := fun h => by
      have e1 : wkR w x = (w.Bodies, []) := by unfold wkR; rw [h]; rfl
      have e2 : updR w x = (w.Bodies, []) := by unfold updR; rw [h]; rfl
      unfold wakeW updW; rw [e1, e2]; exact ⟨rfl, rfl, rfl, rfl⟩
    have k2 : w.Settings.SleepSteps ≤ 0 → (updR w x).2 = [] := upd_off
    generalize wakeW w x = a at *
    generalize updW w x = b at *
    generalize (wkR w x).2 = l at *
    generalize (updR w x).2 = m at *
    generalize awakeB w x (indX w x) = aw at *
    refine CallGi_flat hA rfl ?_
    simp only [go_sem, reduceIte, Nat.reduceEqDiff, reduceCtorEq, Nat.reduceAdd, Nat.reduceLeDiff, Nat.reduceMul, Nat.reduceSub, Int.reduceToNat]
    refine CallGi_obj [true, true] [] hW (by simp) (by simp [go_sem]) (by simp [go_sem]) (by simp) ?_
    simp only [go_sem, reduceIte, Nat.reduceEqDiff, reduceCtorEq, Nat.reduceAdd, Nat.reduceLeDiff, Nat.reduceMul, Nat.reduceSub, Int.reduceToNat]
    refine CallGi_obj [true, true] [(1, 11), (2, 12), (3, 13), (4, 14), (5, 15)] hU (by simp) (by simp [go_sem]) (by simp [go_sem]) (by simp) ?_
    simp only [go_sem, reduceIte, Nat.reduceEqDiff, reduceCtorEq, Nat.reduceAdd, Nat.reduceLeDiff, Nat.reduceMul, Nat.reduceSub, Int.reduceToNat]
    have hne : ((if w.Settings.SleepSteps ≤ 0 then decide (0 < (m.length : Int)) else false) || (a.Bodies.length : Int) != (w.Bodies.length : Int) || (b.Bodies.length : Int) != (w.Bodies.length : Int)) = false := by
      rw [l1, l2]
      by_cases h : w.Settings.SleepSteps ≤ 0
      · rw [k2 h]; simp
      · rw [if_neg h]; simp
    cases aw with
    | true =>
      refine CallGi_skip (by simp) (.sc (.bool false)) ?_
      simp only [go_sem, reduceIte, Nat.reduceEqDiff, reduceCtorEq, Nat.reduceAdd, Nat.reduceLeDiff, Nat.reduceMul, Nat.reduceSub, Int.reduceToNat]
      refine CallGi_skip (by simp) (.sc (.bool false)) ?_
      simp only [go_sem, reduceIte, Nat.reduceEqDiff, reduceCtorEq, Nat.reduceAdd, Nat.reduceLeDiff, Nat.reduceMul, Nat.reduceSub, Int.reduceToNat]
      rw [if_neg (by rw [hne]; simp)]
      refine Wpi_loop hm (ι := {i : Nat // i ≤ w.Bodies.length}) (fun i => [(2, .share, .ptr 48 0 0 1), (3, .share, .ptr 64 0 0 1), (6, .share, .ptr 112 0 0 1), (8, .share, .ptr 144 0 0 1), (10, .share, .sc (.int .i64 i.1))])
        (fun _ => ObD w x a b) (fun i => w.Bodies.length - i.1) ⟨0, by omega⟩ ?_ ?_
      · refine weakE_of [] [] (by simp [go_sem]) (by simp [assoc, go_sem]) (by simp [go_sem]) ?_
        simp only [go_sem, reduceIte, Nat.reduceEqDiff, reduceCtorEq, Nat.reduceAdd, Nat.reduceLeDiff, Nat.reduceMul, Nat.reduceSub, Int.reduceToNat]
      · rintro ⟨i, hi⟩
        simp only [c_law37_SleepDisabledb1, go_sem, reduceIte, Nat.reduceEqDiff, reduceCtorEq, Nat.reduceAdd, Nat.reduceLeDiff, Nat.reduceMul, Nat.reduceSub, Int.reduceToNat]
        split
        · rename_i hlt
          have hlt : i < w.Bodies.length := by omega
          refine Wpi_loop hm (ι := {k : Nat // k ≤ x.Bodies.length}) (fun k => [(2, .share, .ptr 48 0 0 1), (3, .share, .ptr 64 0 0 1), (6, .share, .ptr 112 0 0 1), (8, .share, .ptr 144 0 0 1), (10, .share, .sc (.int .i64 i)), (11, .share, .sc (.bool ((x.Bodies.take k.1).any fun y => y == (i : Int)))), (12, .share, .sc (.int .i64 k.1))])
            (fun _ => ObD w x a b) (fun k => x.Bodies.length - k.1) ⟨0, by omega⟩ ?_ ?_
          · refine weakE_of [] [] (by simp [go_sem]) (by simp [assoc, go_sem]) (by simp [go_sem]) ?_
            simp only [go_sem, reduceIte, Nat.reduceEqDiff, reduceCtorEq, Nat.reduceAdd, Nat.reduceLeDiff, Nat.reduceMul, Nat.reduceSub, Int.reduceToNat]
            rfl
          · rintro ⟨k, hk⟩
            simp only [c_law37_SleepDisabledb0, go_sem, reduceIte, Nat.reduceEqDiff, reduceCtorEq, Nat.reduceAdd, Nat.reduceLeDiff, Nat.reduceMul, Nat.reduceSub, Int.reduceToNat]
            split
            · rename_i hklt
              have hklt : k < x.Bodies.length := by omega
              have he : ((x.Bodies.take (k + 1)).any fun y => y == (i : Int)) = (((x.Bodies.take k).any fun y => y == (i : Int)) || (x.Bodies.getD k 0 == (i : Int))) := by
                rw [take_snoc 0 hklt, List.any_append]; simp
              refine ⟨fun _ => (by (repeat' (with_reducible apply And.intro)) <;> first | omega | (simp only [maxLen]; omega)), ?_⟩
              refine loop_next ⟨k + 1, by omega⟩ (by show x.Bodies.length - (k + 1) < x.Bodies.length - k; omega) (weakE_of [] [] (by simp [go_sem]) (by simp [go_sem]) (by simp [go_sem]) ?_)
              simp only [go_sem, reduceIte, Nat.reduceEqDiff, reduceCtorEq, Nat.reduceAdd, Nat.reduceLeDiff, Nat.reduceMul, Nat.reduceSub, Int.reduceToNat, he]
              exact (by rw [IntKind.wrap_i64]; omega)
            · rename_i hge
              obtain rfl : k = x.Bodies.length := by omega
              have ee : ((x.Bodies.take x.Bodies.length).any fun y => y == (i : Int)) = (x.Bodies.any fun y => y == (i : Int)) := by rw [List.take_length]
              simp only [ee, l1, l2, go_sem, reduceIte, Nat.reduceEqDiff, reduceCtorEq, Nat.reduceAdd, Nat.reduceLeDiff, Nat.reduceMul, Nat.reduceSub, Int.reduceToNat]
              have hgo : ∀ {Q : Prop}, Q → Q := id
              refine ⟨fun _ => (by (repeat' (with_reducible apply And.intro)) <;> first | omega | (simp only [maxLen]; omega)), ?_⟩
              cases hin : (x.Bodies.any fun y => y == (i : Int)) with
              | true =>
                refine ⟨fun h => (by cases h), ?_⟩
                refine CallGi_skip rfl (.sc (.bool false)) ?_
                simp only [ee, hin, l1, l2, go_sem, reduceIte, Nat.reduceEqDiff, reduceCtorEq, Nat.reduceAdd, Nat.reduceLeDiff, Nat.reduceMul, Nat.reduceSub, Int.reduceToNat]
                try refine ⟨fun h => (by cases h), ?_⟩
                refine CallGi_skip rfl (.sc (.bool false)) ?_
                simp only [ee, hin, l1, l2, go_sem, reduceIte, Nat.reduceEqDiff, reduceCtorEq, Nat.reduceAdd, Nat.reduceLeDiff, Nat.reduceMul, Nat.reduceSub, Int.reduceToNat]
                refine loop_next ⟨i + 1, by omega⟩ (by show w.Bodies.length - (i + 1) < w.Bodies.length - i; omega) (weakE_of [] [] (by simp [go_sem]) (by simp [go_sem]) (by simp [go_sem]) ?_)
                simp only [go_sem, reduceIte, Nat.reduceEqDiff, reduceCtorEq, Nat.reduceAdd, Nat.reduceLeDiff, Nat.reduceMul, Nat.reduceSub, Int.reduceToNat]
                exact (by rw [IntKind.wrap_i64]; omega)
              | false =>
                have q1 := o1 i hin
                have q2 := o2 i hin
                have hsm : Body.sm (w.Bodies.getD i default) := hw.2.2.2.2.1 _ (mem_getD default hlt)
                have hS := s_law37_same (w.Bodies.getD i default) (w.Bodies.getD i default) hsm
                rw [decide_eq_true rfl] at hS
                simp only [q1, q2, go_sem, reduceIte, Nat.reduceEqDiff, reduceCtorEq, Nat.reduceAdd, Nat.reduceLeDiff, Nat.reduceMul, Nat.reduceSub, Int.reduceToNat]
                refine ⟨(by (repeat' (with_reducible apply And.intro)) <;> first | omega | (simp only [maxLen]; omega)), ?_⟩
                refine CallGi_flat hS rfl ?_
                simp only [ee, hin, q1, q2, l1, l2, go_sem, reduceIte, Nat.reduceEqDiff, reduceCtorEq, Nat.reduceAdd, Nat.reduceLeDiff, Nat.reduceMul, Nat.reduceSub, Int.reduceToNat]
                refine ⟨(by (repeat' (with_reducible apply And.intro)) <;> first | omega | (simp only [maxLen]; omega)), (by (repeat' (with_reducible apply And.intro)) <;> first | omega | (simp only [maxLen]; omega)), ?_⟩
                refine CallGi_flat hS rfl ?_
                simp only [ee, hin, q1, q2, l1, l2, go_sem, reduceIte, Nat.reduceEqDiff, reduceCtorEq, Nat.reduceAdd, Nat.reduceLeDiff, Nat.reduceMul, Nat.reduceSub, Int.reduceToNat]
                refine loop_next ⟨i + 1, by omega⟩ (by show w.Bodies.length - (i + 1) < w.Bodies.length - i; omega) (weakE_of [] [] (by simp [go_sem]) (by simp [go_sem]) (by simp [go_sem]) ?_)
                simp only [go_sem, reduceIte, Nat.reduceEqDiff, reduceCtorEq, Nat.reduceAdd, Nat.reduceLeDiff, Nat.reduceMul, Nat.reduceSub, Int.reduceToNat]
                exact (by rw [IntKind.wrap_i64]; omega)
        · rename_i hge
          refine CallGi_flat s_law37_example rfl ?_
          simp only [go_sem, reduceIte, Nat.reduceEqDiff, reduceCtorEq, Nat.reduceAdd, Nat.reduceLeDiff, Nat.reduceMul, Nat.reduceSub, Int.reduceToNat]
    | false =>
      obtain ⟨h1, h2, h3, h4⟩ := k1 rfl
      subst h3; subst h4
      have hEa := s_r25_Equal a w ha
      rw [decide_eq_true h1] at hEa
      have hEb := s_r25_Equal b w hb
      rw [decide_eq_true h2] at hEb
      refine CallGi_keep hEa rfl (by simp only [argsC, go_sem, reduceIte, Nat.reduceEqDiff, reduceCtorEq, Nat.reduceAdd, Nat.reduceLeDiff, Nat.reduceMul, Nat.reduceSub, Int.reduceToNat]) ?_
      simp only [go_sem, reduceIte, Nat.reduceEqDiff, reduceCtorEq, Nat.reduceAdd, Nat.reduceLeDiff, Nat.reduceMul, Nat.reduceSub, Int.reduceToNat]
      refine CallGi_keep hEb rfl (by simp only [argsC, go_sem, reduceIte, Nat.reduceEqDiff, reduceCtorEq, Nat.reduceAdd, Nat.reduceLeDiff, Nat.reduceMul, Nat.reduceSub, Int.reduceToNat]) ?_
      simp only [go_sem, reduceIte, Nat.reduceEqDiff, reduceCtorEq, Nat.reduceAdd, Nat.reduceLeDiff, Nat.reduceMul, Nat.reduceSub, Int.reduceToNat]
      have h00 : (IntKind.i64.wrap (((0 : Nat) : Int) + ((0 : Nat) : Int)) == 0) = true := rfl
      have h0 : (IntKind.i64.wrap (0 + 0) == 0) = true := rfl
      simp only [List.length_nil, Int.natCast_zero] at hne
      simp only [h0, h00, Bool.not_true, Bool.false_or, go_sem, reduceIte, Nat.reduceEqDiff, reduceCtorEq, Nat.reduceAdd, Nat.reduceLeDiff, Nat.reduceMul, Nat.reduceSub, Int.reduceToNat]
      rw [if_neg (by rw [hne]; simp)]
      refine Wpi_loop hm (ι := {i : Nat // i ≤ w.Bodies.length}) (fun i => [(2, .share, .ptr 48 0 0 1), (3, .share, .ptr 64 0 0 1), (6, .share, .ptr 112 0 0 1), (8, .share, .ptr 144 0 0 1), (10, .share, .sc (.int .i64 i.1))])
        (fun _ => ObD w x a b) (fun i => w.Bodies.length - i.1) ⟨0, by omega⟩ ?_ ?_
      · refine weakE_of [] [] (by simp [go_sem]) (by simp [assoc, go_sem]) (by simp [go_sem]) ?_
        simp only [go_sem, reduceIte, Nat.reduceEqDiff, reduceCtorEq, Nat.reduceAdd, Nat.reduceLeDiff, Nat.reduceMul, Nat.reduceSub, Int.reduceToNat]
      · rintro ⟨i, hi⟩
        simp only [c_law37_SleepDisabledb1, go_sem, reduceIte, Nat.reduceEqDiff, reduceCtorEq, Nat.reduceAdd, Nat.reduceLeDiff, Nat.reduceMul, Nat.reduceSub, Int.reduceToNat]
        split
        · rename_i hlt
          have hlt : i < w.Bodies.length := by omega
          refine Wpi_loop hm (ι := {k : Nat // k ≤ x.Bodies.length}) (fun k => [(2, .share, .ptr 48 0 0 1), (3, .share, .ptr 64 0 0 1), (6, .share, .ptr 112 0 0 1), (8, .share, .ptr 144 0 0 1), (10, .share, .sc (.int .i64 i)), (11, .share, .sc (.bool ((x.Bodies.take k.1).any fun y => y == (i : Int)))), (12, .share, .sc (.int .i64 k.1))])
            (fun _ => ObD w x a b) (fun k => x.Bodies.length - k.1) ⟨0, by omega⟩ ?_ ?_
          · refine weakE_of [] [] (by simp [go_sem]) (by simp [assoc, go_sem]) (by simp [go_sem]) ?_
            simp only [go_sem, reduceIte, Nat.reduceEqDiff, reduceCtorEq, Nat.reduceAdd, Nat.reduceLeDiff, Nat.reduceMul, Nat.reduceSub, Int.reduceToNat]
            rfl
          · rintro ⟨k, hk⟩
            simp only [c_law37_SleepDisabledb0, go_sem, reduceIte, Nat.reduceEqDiff, reduceCtorEq, Nat.reduceAdd, Nat.reduceLeDiff, Nat.reduceMul, Nat.reduceSub, Int.reduceToNat]
            split
            · rename_i hklt
              have hklt : k < x.Bodies.length := by omega
              have he : ((x.Bodies.take (k + 1)).any fun y => y == (i : Int)) = (((x.Bodies.take k).any fun y => y == (i : Int)) || (x.Bodies.getD k 0 == (i : Int))) := by
                rw [take_snoc 0 hklt, List.any_append]; simp
              refine ⟨fun _ => (by (repeat' (with_reducible apply And.intro)) <;> first | omega | (simp only [maxLen]; omega)), ?_⟩
              refine loop_next ⟨k + 1, by omega⟩ (by show x.Bodies.length - (k + 1) < x.Bodies.length - k; omega) (weakE_of [] [] (by simp [go_sem]) (by simp [go_sem]) (by simp [go_sem]) ?_)
              simp only [go_sem, reduceIte, Nat.reduceEqDiff, reduceCtorEq, Nat.reduceAdd, Nat.reduceLeDiff, Nat.reduceMul, Nat.reduceSub, Int.reduceToNat, he]
              exact (by rw [IntKind.wrap_i64]; omega)
            · rename_i hge
              obtain rfl : k = x.Bodies.length := by omega
              have ee : ((x.Bodies.take x.Bodies.length).any fun y => y == (i : Int)) = (x.Bodies.any fun y => y == (i : Int)) := by rw [List.take_length]
              simp only [ee, l1, l2, go_sem, reduceIte, Nat.reduceEqDiff, reduceCtorEq, Nat.reduceAdd, Nat.reduceLeDiff, Nat.reduceMul, Nat.reduceSub, Int.reduceToNat]
              have hgo : ∀ {Q : Prop}, Q → Q := id
              refine ⟨fun _ => (by (repeat' (with_reducible apply And.intro)) <;> first | omega | (simp only [maxLen]; omega)), ?_⟩
              cases hin : (x.Bodies.any fun y => y == (i : Int)) with
              | true =>
                refine ⟨fun h => (by cases h), ?_⟩
                refine CallGi_skip rfl (.sc (.bool false)) ?_
                simp only [ee, hin, l1, l2, go_sem, reduceIte, Nat.reduceEqDiff, reduceCtorEq, Nat.reduceAdd, Nat.reduceLeDiff, Nat.reduceMul, Nat.reduceSub, Int.reduceToNat]
                try refine ⟨fun h => (by cases h), ?_⟩
                refine CallGi_skip rfl (.sc (.bool false)) ?_
                simp only [ee, hin, l1, l2, go_sem, reduceIte, Nat.reduceEqDiff, reduceCtorEq, Nat.reduceAdd, Nat.reduceLeDiff, Nat.reduceMul, Nat.reduceSub, Int.reduceToNat]
                refine loop_next ⟨i + 1, by omega⟩ (by show w.Bodies.length - (i + 1) < w.Bodies.length - i; omega) (weakE_of [] [] (by simp [go_sem]) (by simp [go_sem]) (by simp [go_sem]) ?_)
                simp only [go_sem, reduceIte, Nat.reduceEqDiff, reduceCtorEq, Nat.reduceAdd, Nat.reduceLeDiff, Nat.reduceMul, Nat.reduceSub, Int.reduceToNat]
                exact (by rw [IntKind.wrap_i64]; omega)
              | false =>
                have q1 := o1 i hin
                have q2 := o2 i hin
                have hsm : Body.sm (w.Bodies.getD i default) := hw.2.2.2.2.1 _ (mem_getD default hlt)
                have hS := s_law37_same (w.Bodies.getD i default) (w.Bodies.getD i default) hsm
                rw [decide_eq_true rfl] at hS
                simp only [q1, q2, go_sem, reduceIte, Nat.reduceEqDiff, reduceCtorEq, Nat.reduceAdd, Nat.reduceLeDiff, Nat.reduceMul, Nat.reduceSub, Int.reduceToNat]
                refine ⟨(by (repeat' (with_reducible apply And.intro)) <;> first | omega | (simp only [maxLen]; omega)), ?_⟩
                refine CallGi_flat hS rfl ?_
                simp only [ee, hin, q1, q2, l1, l2, go_sem, reduceIte, Nat.reduceEqDiff, reduceCtorEq, Nat.reduceAdd, Nat.reduceLeDiff, Nat.reduceMul, Nat.reduceSub, Int.reduceToNat]
                refine ⟨(by (repeat' (with_reducible apply And.intro)) <;> first | omega | (simp only [maxLen]; omega)), (by (repeat' (with_reducible apply And.intro)) <;> first | omega | (simp only [maxLen]; omega)), ?_⟩
                refine CallGi_flat hS rfl ?_
                simp only [ee, hin, q1, q2, l1, l2, go_sem, reduceIte, Nat.reduceEqDiff, reduceCtorEq, Nat.reduceAdd, Nat.reduceLeDiff, Nat.reduceMul, Nat.reduceSub, Int.reduceToNat]
                refine loop_next ⟨i + 1, by omega⟩ (by show w.Bodies.length - (i + 1) < w.Bodies.length - i; omega) (weakE_of [] [] (by simp [go_sem]) (by simp [go_sem]) (by simp [go_sem]) ?_)
                simp only [go_sem, reduceIte, Nat.reduceEqDiff, reduceCtorEq, Nat.reduceAdd, Nat.reduceLeDiff, Nat.reduceMul, Nat.reduceSub, Int.reduceToNat]
                exact (by rw [IntKind.wrap_i64]; omega)
        · rename_i hge
          refine CallGi_flat s_law37_example rfl ?_
          simp only [go_sem, reduceIte, Nat.reduceEqDiff, reduceCtorEq, Nat.reduceAdd, Nat.reduceLeDiff, Nat.reduceMul, Nat.reduceSub, Int.reduceToNat]

end Go.Abs
