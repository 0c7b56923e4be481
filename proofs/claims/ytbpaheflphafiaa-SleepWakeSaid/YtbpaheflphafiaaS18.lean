/- A part of the walk: contracts of functions that the statement reaches. -/
import Derived.Test.YtbpaheflphafiaaS17
import Derived.Test.YtbpaheflphafiaaS14
set_option linter.unusedSimpArgs false
set_option linter.unusedVariables false
set_option linter.unnecessarySimpa false
set_option maxRecDepth 100000
set_option maxHeartbeats 2000000
set_option linter.unusedSimpArgs false
set_option linter.unusedVariables false
namespace Go.Abs
open Go.Proofs
open Api
def rObj (w : Api.World) (bs : List Body) (x : Island) : List (Nat × AObj) := (48, .box w.enc) :: (64, .box x.enc) :: (80, .box World.zero) :: (112, .box [.sc (.int .i64 w.Settings.TimeStep), .sc (.int .i64 w.Settings.Gravity.X), .sc (.int .i64 w.Settings.Gravity.Y), .sc (.int .i64 w.Settings.Iterations), .sc (.int .i64 w.Settings.SleepSteps),
  .sl 1 0 w.Bodies.length w.Bodies.length, .sl 2 0 w.Joints.length w.Joints.length, .sl 3 0 w.Contacts.length w.Contacts.length, .sl 4 0 w.Overlaps.length w.Overlaps.length, .sc (.int .i64 w.NextID), .sc (.int .i64 w.Frame)]) ::
  [(1, .arr 20 (encQ Body.enc default bs)), (2, .arr 24 (encQ Joint.enc default w.Joints)), (3, .arr 7 (encQ Contact.enc default w.Contacts)), (4, .arr 4 (encQ PairKey.enc default w.Overlaps))]
attribute [go_sem] rObj
theorem s_r37_Wake (w : Api.World) (x : Island) (hw : Wsm w) (hx : Ism x) : CallsA Try.prog F_r37_Wake [.agg w.enc, .agg x.enc] [] (.tup [Wown (withB w (wkR w x).1) 1 2 3 4, .sl 5 0 (wkR w x).2.length (wkR w x).2.length]) (Wobj (withB w (wkR w x).1) 1 2 3 4 ++ evObj 5 (wkR w x).2) := by
  have hl := indX_len (w := w) hx
  refine callsIRO'_of (rs := [_, _]) (N := 59) hm Try.func24 (by kernel_rfl) (by kernel_rfl) is_r37_Wake (by kernel_rfl) (by kernel_rfl : rvOf Try.prog Try.f24.results.toList = some [(4, some (some 11)), (5, none)]) (by decide) (by kernel_rfl) ?_
  simp only [c_r37_Wake, go_sem, reduceIte, Nat.reduceEqDiff, reduceCtorEq, Nat.reduceAdd, Nat.reduceLeDiff, Nat.reduceMul, Nat.reduceSub, Int.reduceToNat]
  refine CallGi_obj [false] [] (s_r25_Clone w hw) (by simp) (by simp [go_sem]) (by simp [go_sem]) (by simp) ?_
  simp only [go_sem, reduceIte, Nat.reduceEqDiff, reduceCtorEq, Nat.reduceAdd, Nat.reduceLeDiff, Nat.reduceMul, Nat.reduceSub, Int.reduceToNat]
  refine CallGi_flat (s_r37_IsAwake w x hw hx) rfl ?_
  simp only [go_sem, reduceIte, Nat.reduceEqDiff, reduceCtorEq, Nat.reduceAdd, Nat.reduceLeDiff, Nat.reduceMul, Nat.reduceSub, Int.reduceToNat]
  cases haw : awakeB w x (indX w x) with
  | false =>
    simp only [go_sem, reduceIte, Nat.reduceEqDiff, reduceCtorEq, Nat.reduceAdd, Nat.reduceLeDiff, Nat.reduceMul, Nat.reduceSub, Int.reduceToNat]
    have hr : wkR w x = (w.Bodies, []) := by unfold wkR; rw [haw]; rfl
    rw [hr]
    refine retW_of [.share, .adopt] [] [5] rfl rfl (by simp [go_sem]) (by simp [assoc, go_sem]) (by simp [go_sem]) ?_
    simp only [go_sem, reduceIte, Nat.reduceEqDiff, reduceCtorEq, Nat.reduceAdd, Nat.reduceLeDiff, Nat.reduceMul, Nat.reduceSub, Int.reduceToNat]
  | true =>
    simp only [go_sem, reduceIte, Nat.reduceEqDiff, reduceCtorEq, Nat.reduceAdd, Nat.reduceLeDiff, Nat.reduceMul, Nat.reduceSub, Int.reduceToNat]
    have hr : wkR w x = wkF w (indX w x) := by unfold wkR; rw [haw]; rfl
    rw [hr]
    have hin := indX_in w x
    refine CallGi_flat (s_r37_Indices x.Bodies w.Bodies.length hx.1) rfl ?_
    simp only [go_sem, reduceIte, Nat.reduceEqDiff, reduceCtorEq, Nat.reduceAdd, Nat.reduceLeDiff, Nat.reduceMul, Nat.reduceSub, Int.reduceToNat]
    have hI : inds x.Bodies w.Bodies.length = indX w x := rfl
    simp only [hI]
    generalize hll : indX w x = l at *
    refine Wpi_loop hm (ι := {i : Nat // i ≤ l.length}) (fun i => [(4, .share, .ptr 80 0 0 1), (6, .share, .ptr 112 0 0 1), (7, if i.1 = 0 then .adopt else .share, .sl 7 0 (wkF w (l.take i.1)).2.length (wkF w (l.take i.1)).2.length), (8, .share, encD 1 encInt 0 l), (9, .share, .sc (.int .i64 i.1))])
      (fun i => (7, .arr 5 (encQ encEv default (wkF w (l.take i.1)).2)) :: rObj w (wkF w (l.take i.1)).1 x) (fun i => l.length - i.1) ⟨0, by omega⟩ ?_ ?_
    · refine weakE_of [] [7] (by simp [go_sem]) (by simp [assoc, go_sem]) (by simp [go_sem]) ?_
      simp only [go_sem, reduceIte, Nat.reduceEqDiff, reduceCtorEq, Nat.reduceAdd, Nat.reduceLeDiff, Nat.reduceMul, Nat.reduceSub, Int.reduceToNat, wkF_nil]
    · rintro ⟨i, hi⟩
      obtain ⟨hb1, hb2⟩ := wkF_len w (l.take i)
      simp only [List.length_take] at hb2
      simp only [c_r37_Wakeb0, go_sem, reduceIte, Nat.reduceEqDiff, reduceCtorEq, Nat.reduceAdd, Nat.reduceLeDiff, Nat.reduceMul, Nat.reduceSub, Int.reduceToNat]
      split
      · rename_i hlt
        have hlt : i < l.length := by omega
        obtain ⟨hi0, hi1⟩ := hin _ (mem_getD 0 hlt)
        refine ⟨(by (repeat' (with_reducible apply And.intro)) <;> first | omega | (simp only [maxLen]; omega)), ⟨hb1.symm, hi0, hi1⟩, hb1.symm, ?_⟩
        by_cases hs : ((wkF w (l.take i)).1.getD (l.getD i 0).toNat default).Asleep = true
        · have he : wkF w (l.take (i + 1)) = ((wkF w (l.take i)).1.set (l.getD i 0).toNat (wkB ((wkF w (l.take i)).1.getD (l.getD i 0).toNat default)), (wkF w (l.take i)).2 ++ [(7, ((wkF w (l.take i)).1.getD (l.getD i 0).toNat default).ID)]) := by
            rw [wkF_snoc hlt, wkStep, if_pos hs]
          rw [if_pos hs]
          refine ⟨(by (repeat' (with_reducible apply And.intro)) <;> first | omega | (simp only [maxLen]; omega)), (by (repeat' (with_reducible apply And.intro)) <;> first | omega | (simp only [maxLen]; omega)), ⟨hb1.symm, hi0, hi1⟩, hb1.symm, ?_⟩
          refine loop_next ⟨i + 1, by omega⟩ (by show l.length - (i + 1) < l.length - i; omega) (weakE_of [] [] (by simp [go_sem]) (by simp [go_sem]) (by simp [go_sem]) ?_)
          simp only [go_sem, reduceIte, Nat.reduceEqDiff, reduceCtorEq, Nat.reduceAdd, Nat.reduceLeDiff, Nat.reduceMul, Nat.reduceSub, Int.reduceToNat, he, List.length_append, List.length_singleton]
          exact ⟨(by rw [IntKind.wrap_i64]; omega), q_app1 (7, ((wkF w (l.take i)).1.getD (l.getD i 0).toNat default).ID) rfl rfl, q_set (wkB ((wkF w (l.take i)).1.getD (l.getD i 0).toNat default)) (by omega) rfl rfl⟩
        · have he : wkF w (l.take (i + 1)) = wkF w (l.take i) := by
            rw [wkF_snoc hlt, wkStep, if_neg hs]
          rw [if_neg hs]
          refine ⟨(by (repeat' (with_reducible apply And.intro)) <;> first | omega | (simp only [maxLen]; omega)), ⟨hb1.symm, hi0, hi1⟩, hb1.symm, ?_⟩
          refine loop_next ⟨i + 1, by omega⟩ (by show l.length - (i + 1) < l.length - i; omega) (weakE_of [] [] (by simp [go_sem]) (by simp [go_sem]) (by simp [go_sem]) ?_)
          simp only [go_sem, reduceIte, Nat.reduceEqDiff, reduceCtorEq, Nat.reduceAdd, Nat.reduceLeDiff, Nat.reduceMul, Nat.reduceSub, Int.reduceToNat, he]
          exact ⟨(by rw [IntKind.wrap_i64]; omega), q_set ((wkF w (l.take i)).1.getD (l.getD i 0).toNat default) (by omega) rfl (set_getD _ _ _ (by omega))⟩
      · rename_i hge
        obtain rfl : i = l.length := by omega
        simp only [go_sem, reduceIte, Nat.reduceEqDiff, reduceCtorEq, Nat.reduceAdd, Nat.reduceLeDiff, Nat.reduceMul, Nat.reduceSub, Int.reduceToNat, List.take_length] at hb1 hb2 ⊢
        refine retW_of [.share, .share] [(5, 7), (7, 5)] [] rfl rfl (by simp [go_sem]) (by simp [assoc, go_sem]) (by simp [go_sem]) ?_
        simp only [go_sem, reduceIte, Nat.reduceEqDiff, reduceCtorEq, Nat.reduceAdd, Nat.reduceLeDiff, Nat.reduceMul, Nat.reduceSub, Int.reduceToNat, hb1]

theorem idxG_congr {α : Type} {d : α} {p : α → Bool} {l m : List α} (hl : l.length = m.length) (h : ∀ j, p (l.getD j d) = p (m.getD j d)) : idxG d p l = idxG d p m := by
  unfold idxG; rw [hl]
  have : (fun i => p (l.getD i d)) = (fun i => p (m.getD i d)) := funext h
  rw [this]
/-- bodies that differ in their idle steps alone -/
def likeB (a b : List Body) : Prop := a.length = b.length ∧ ∀ i, ∃ n, (a.getD i default) = { (b.getD i default) with IdleSteps := n }
theorem likeB_refl (a : List Body) : likeB a a := ⟨rfl, fun i => ⟨_, rfl⟩⟩
theorem likeB_upd {a b : List Body} (h : likeB a b) (k : Nat) : likeB (a.set k (updIdle (a.getD k default))) b := by
  refine ⟨by rw [List.length_set]; exact h.1, fun i => ?_⟩
  obtain ⟨n, hn⟩ := h.2 i
  by_cases hik : i = k
  · subst hik
    by_cases hl : i < a.length
    · rw [getD_set_self hl]
      refine ⟨(updIdle (a.getD i default)).IdleSteps, ?_⟩
      have key : ∀ b : Body, updIdle b = { b with IdleSteps := (updIdle b).IdleSteps } := fun _ => rfl
      rw [key]
      generalize (updIdle (a.getD i default)).IdleSteps = m
      rw [hn]
    · rw [List.set_eq_of_length_le (by omega)]; exact ⟨n, hn⟩
  · rw [getD_set_ne hik]; exact ⟨n, hn⟩
theorem likeB_upF (w : Api.World) (l : List Int) : likeB (upF w l) w.Bodies := by
  have : ∀ (l : List Int) (s : List Body), likeB s w.Bodies → likeB (l.foldl (fun bs i => bs.set i.toNat (updIdle (bs.getD i.toNat default))) s) w.Bodies := by
    intro l
    induction l with
    | nil => exact fun s h => h
    | cons a l ih => exact fun s h => ih _ (likeB_upd h _)
  exact this l _ (likeB_refl _)
theorem driven_like {w : Api.World} {x : Island} {bs : List Body} (h : likeB bs w.Bodies) : drivenB (withB w bs) x = drivenB w x := by
  have hf : findB (withB w bs) = findB w := funext fun id => idxG_congr h.1 fun j => by
    obtain ⟨n, hn⟩ := h.2 j
    show ((bs.getD j default).ID == id) = _
    rw [hn]
  have hI : addID (withB w bs) = addID w := by
    funext l id; unfold addID; rw [hf]
    show (if id ≠ 0 then addI bs.length l (findB w id) else l) = _
    rw [h.1]
  have hC : bodC (withB w bs) = bodC w := by funext l i; unfold bodC; rw [hI]; rfl
  have hJ : bodJ (withB w bs) = bodJ w := by funext l i; unfold bodJ; rw [hI]; rfl
  have h1 : bod1 (withB w bs) x = bod1 w x := by unfold bod1; show List.foldl (addI bs.length) [] x.Bodies = _; rw [h.1]
  have h3 : bod3 (withB w bs) x = bod3 w x := by unfold bod3 bod2; rw [hC, hJ, h1]
  have hL : bodL (withB w bs) x = bodL w x := by unfold bodL; rw [h3]
  have hd : (fun i => drvB (getB (withB w bs) i)) = fun i => drvB (getB w i) := funext fun i => by
    obtain ⟨n, hn⟩ := h.2 i.toNat
    show drvB (bs.getD i.toNat default) = drvB (w.Bodies.getD i.toNat default)
    rw [hn]; rfl
  unfold drivenB
  rw [hL, hd]; rfl
theorem upF_at {w : Api.World} {l : List Int} (hn : l.Nodup) (h0 : ∀ j ∈ l, 0 ≤ j ∧ j < (w.Bodies.length : Int)) {k : Nat} (hk : k < l.length) : (upF w (l.take k)).getD (l.getD k 0).toNat default = getB w (l.getD k 0) := by
  have hm := mem_getD 0 hk
  refine up_other (l.take k) w.Bodies (l.getD k 0).toNat (fun j hj => (h0 j (List.mem_of_mem_take hj)).1) ?_
  rw [Int.toNat_of_nonneg (h0 _ hm).1]
  intro hc
  obtain ⟨j, hj, e⟩ := List.getElem_of_mem hc
  rw [List.length_take] at hj
  have h1 := List.pairwise_iff_getElem.1 hn j k (by omega) hk (by omega)
  rw [List.getElem_take] at e
  exact h1 (e.trans (by simp [List.getD, hk]))
theorem upF_val {w : Api.World} {l : List Int} (hn : l.Nodup) (h0 : ∀ j ∈ l, 0 ≤ j ∧ j < (w.Bodies.length : Int)) {i : Int} (hi : i ∈ l) : (upF w l).getD i.toNat default = updIdle (getB w i) := by
  have key : ∀ (l : List Int) (s : List Body), l.Nodup → (∀ j ∈ l, 0 ≤ j ∧ j < (s.length : Int)) → i ∈ l → (l.foldl (fun bs i => bs.set i.toNat (updIdle (bs.getD i.toNat default))) s).getD i.toNat default = updIdle (s.getD i.toNat default) := by
    intro l
    induction l with
    | nil => intro s _ _ h; cases h
    | cons a l ih =>
      intro s hn h0 hi
      rw [List.nodup_cons] at hn
      obtain ⟨ha0, ha1⟩ := h0 a (by simp)
      rw [List.foldl_cons]
      rcases List.mem_cons.1 hi with rfl | hi'
      · rw [up_other l _ i.toNat (fun j hj => (h0 j (by simp [hj])).1) (by rw [Int.toNat_of_nonneg ha0]; exact hn.1), getD_set_self (by omega)]
      · rw [ih _ hn.2 (fun j hj => by rw [List.length_set]; exact h0 j (by simp [hj])) hi', getD_set_ne]
        have := h0 i hi
        intro e
        have : i = a := by omega
        exact hn.1 (this ▸ hi')
  exact key l w.Bodies hn h0 hi
def stillP (w : Api.World) (i : Int) : Bool := decide (w.Settings.SleepSteps ≤ (updIdle (getB w i)).IdleSteps)
theorem still_eq {w : Api.World} {x : Island} {l : List Int} (hn : l.Nodup) (h0 : ∀ j ∈ l, 0 ≤ j ∧ j < (w.Bodies.length : Int)) :
    stillB w x l = ((decide (0 < w.Settings.SleepSteps) && decide (0 < (l.length : Int)) && !(drivenB w x)) && l.all (stillP w)) := by
  unfold stillB
  rw [driven_like (likeB_upF w l)]
  have e1 : (!(decide (w.Settings.SleepSteps ≤ 0))) = decide (0 < w.Settings.SleepSteps) := by
    by_cases h : w.Settings.SleepSteps ≤ 0
    · rw [decide_eq_true h, decide_eq_false (by omega)]; rfl
    · rw [decide_eq_false h, decide_eq_true (by omega)]; rfl
  have e2 : (!(decide (l.length = 0))) = decide (0 < (l.length : Int)) := by
    by_cases h : l.length = 0
    · rw [decide_eq_true h, decide_eq_false (by omega)]; rfl
    · rw [decide_eq_false h, decide_eq_true (by omega)]; rfl
  have e3 : (!(l.any fun i => decide ((getB (withB w (upF w l)) i).IdleSteps < w.Settings.SleepSteps))) = l.all (stillP w) := by
    rw [Bool.eq_iff_iff, Bool.not_eq_true', List.any_eq_false, List.all_eq_true]
    have hv : ∀ i ∈ l, getB (withB w (upF w l)) i = updIdle (getB w i) := fun i hi => upF_val hn h0 hi
    constructor
    · intro h i hi
      have := h i hi
      rw [hv i hi, decide_eq_true_eq] at this
      exact decide_eq_true (by omega)
    · intro h i hi
      have := h i hi
      rw [hv i hi]
      simp only [stillP, decide_eq_true_eq] at this ⊢
      omega
  rw [e1, e2, e3]
  cases decide (0 < w.Settings.SleepSteps) <;> cases decide (0 < (l.length : Int)) <;> cases drivenB w x <;> cases l.all (stillP w) <;> rfl
theorem all_take_succ {α : Type} {l : List α} {i : Nat} {p : α → Bool} (d : α) (h : i < l.length) : (l.take (i + 1)).all p = ((l.take i).all p && p (l.getD i d)) := by
  rw [take_snoc d h, List.all_append]; simp
theorem s_r37_Update (w : Api.World) (x : Island) (hw : Wsm w) (hx : Ism x) : CallsA Try.prog F_r37_Update [.agg w.enc, .agg x.enc] [] (.tup [Wown (withB w (updR w x).1) 1 2 3 4, .sl 5 0 (updR w x).2.length (updR w x).2.length]) (Wobj (withB w (updR w x).1) 1 2 3 4 ++ evObj 5 (updR w x).2) := by
  have hl := indX_len (w := w) hx
  refine callsIRO'_of (rs := [_, _]) (N := 117) hm Try.func20 (by kernel_rfl) (by kernel_rfl) is_r37_Update (by kernel_rfl) (by kernel_rfl : rvOf Try.prog Try.f20.results.toList = some [(4, some (some 11)), (5, none)]) (by decide) (by kernel_rfl) ?_
  simp only [c_r37_Update, go_sem, reduceIte, Nat.reduceEqDiff, reduceCtorEq, Nat.reduceAdd, Nat.reduceLeDiff, Nat.reduceMul, Nat.reduceSub, Int.reduceToNat]
  refine CallGi_obj [false] [] (s_r25_Clone w hw) (by simp) (by simp [go_sem]) (by simp [go_sem]) (by simp) ?_
  simp only [go_sem, reduceIte, Nat.reduceEqDiff, reduceCtorEq, Nat.reduceAdd, Nat.reduceLeDiff, Nat.reduceMul, Nat.reduceSub, Int.reduceToNat]
  refine CallGi_flat (s_r37_IsAwake w x hw hx) rfl ?_
  simp only [go_sem, reduceIte, Nat.reduceEqDiff, reduceCtorEq, Nat.reduceAdd, Nat.reduceLeDiff, Nat.reduceMul, Nat.reduceSub, Int.reduceToNat]
  cases haw : awakeB w x (indX w x) with
  | false =>
    simp only [go_sem, reduceIte, Nat.reduceEqDiff, reduceCtorEq, Nat.reduceAdd, Nat.reduceLeDiff, Nat.reduceMul, Nat.reduceSub, Int.reduceToNat]
    have hr : updR w x = (w.Bodies, []) := by unfold updR; rw [haw]; rfl
    rw [hr]
    refine retW_of [.share, .adopt] [] [5] rfl rfl (by simp [go_sem]) (by simp [assoc, go_sem]) (by simp [go_sem]) ?_
    simp only [go_sem, reduceIte, Nat.reduceEqDiff, reduceCtorEq, Nat.reduceAdd, Nat.reduceLeDiff, Nat.reduceMul, Nat.reduceSub, Int.reduceToNat]
  | true =>
    simp only [go_sem, reduceIte, Nat.reduceEqDiff, reduceCtorEq, Nat.reduceAdd, Nat.reduceLeDiff, Nat.reduceMul, Nat.reduceSub, Int.reduceToNat]
    have hr : updR w x = if stillB w x (indX w x) = true then slF (upF w (indX w x)) (indX w x) else (upF w (indX w x), []) := by unfold updR; rw [haw]; rfl
    have hst := still_eq (w := w) (x := x) (l := indX w x) (inds_nodup _ _) (indX_in w x)
    rw [hr, hst]
    have hin := indX_in w x
    have hnd : (indX w x).Nodup := inds_nodup _ _
    refine CallGi_flat (s_r37_Indices x.Bodies w.Bodies.length hx.1) rfl ?_
    simp only [go_sem, reduceIte, Nat.reduceEqDiff, reduceCtorEq, Nat.reduceAdd, Nat.reduceLeDiff, Nat.reduceMul, Nat.reduceSub, Int.reduceToNat]
    have hI : inds x.Bodies w.Bodies.length = indX w x := rfl
    simp only [hI]
    have hmv := s_r37_moved w x hw hx
    generalize hll : indX w x = l at *
    generalize drivenB w x = dv at *
    generalize hs0 : (decide (0 < w.Settings.SleepSteps) && decide (0 < (l.length : Int)) && !dv) = s0 at *
    refine CallGi_flat hmv rfl ?_
    simp only [hI, go_sem, reduceIte, Nat.reduceEqDiff, reduceCtorEq, Nat.reduceAdd, Nat.reduceLeDiff, Nat.reduceMul, Nat.reduceSub, Int.reduceToNat]
    refine Wpi_loop hm (ι := {i : Nat // i ≤ l.length}) (fun i => [(2, .share, .ptr 48 0 0 1), (4, .share, .ptr 80 0 0 1), (6, .share, .ptr 112 0 0 1), (7, .share, encD 1 encInt 0 l), (8, .share, .sc (.bool (s0 && (l.take i.1).all (stillP w)))), (9, .share, .sc (.int .i64 i.1))])
      (fun i => rObj w (upF w (l.take i.1)) x) (fun i => l.length - i.1) ⟨0, by omega⟩ ?_ ?_
    · refine weakE_of [] [] (by simp [go_sem]) (by simp [assoc, go_sem]) (by simp [go_sem]) ?_
      simp only [go_sem, reduceIte, Nat.reduceEqDiff, reduceCtorEq, Nat.reduceAdd, Nat.reduceLeDiff, Nat.reduceMul, Nat.reduceSub, Int.reduceToNat, upF_nil, List.take_zero]
      rw [← hs0]
      congr 1
      by_cases h : 0 < w.Settings.SleepSteps
      · rw [if_pos h, decide_eq_true h, Bool.true_and]
      · rw [if_neg h, decide_eq_false h, Bool.false_and]
    · rintro ⟨i, hi⟩
      have hb1 := upF_len w (l.take i)
      simp only [c_r37_Updateb0, go_sem, reduceIte, Nat.reduceEqDiff, reduceCtorEq, Nat.reduceAdd, Nat.reduceLeDiff, Nat.reduceMul, Nat.reduceSub, Int.reduceToNat]
      split
      · rename_i hlt
        have hlt : i < l.length := by omega
        obtain ⟨hi0, hi1⟩ := hin _ (mem_getD 0 hlt)
        have hv := upF_at hnd hin hlt
        refine ⟨(by (repeat' (with_reducible apply And.intro)) <;> first | omega | (simp only [maxLen]; omega)), (by (repeat' (with_reducible apply And.intro)) <;> first | omega | (simp only [maxLen]; omega)), ⟨hb1.symm, hi0, hi1⟩, hb1.symm, ?_⟩
        refine CallGi_flat (s_r37_UpdateIdle ((upF w (l.take i)).getD (l.getD i 0).toNat default)) rfl ?_
        simp only [go_sem, reduceIte, Nat.reduceEqDiff, reduceCtorEq, Nat.reduceAdd, Nat.reduceLeDiff, Nat.reduceMul, Nat.reduceSub, Int.reduceToNat]
        refine ⟨⟨hb1.symm, hi0, hi1⟩, hb1.symm, fun _ => (by (repeat' (with_reducible apply And.intro)) <;> first | omega | (simp only [maxLen]; omega)), fun _ => ⟨hb1.symm, hi0, hi1⟩, fun _ => hb1.symm, ?_⟩
        refine loop_next ⟨i + 1, by omega⟩ (by show l.length - (i + 1) < l.length - i; omega) (weakE_of [] [] (by simp [go_sem]) (by simp [go_sem]) (by simp [go_sem]) ?_)
        simp only [go_sem, reduceIte, Nat.reduceEqDiff, reduceCtorEq, Nat.reduceAdd, Nat.reduceLeDiff, Nat.reduceMul, Nat.reduceSub, Int.reduceToNat, upF_snoc hlt, all_take_succ 0 hlt]
        refine ⟨?_, (by rw [IntKind.wrap_i64]; omega), q_set (updIdle ((upF w (l.take i)).getD (l.getD i 0).toNat default)) (by omega) rfl rfl⟩
        rw [hv]
        unfold stillP
        cases s0 <;> cases (l.take i).all (stillP w) <;> rfl
      · rename_i hge
        obtain rfl : i = l.length := by omega
        simp only [go_sem, reduceIte, Nat.reduceEqDiff, reduceCtorEq, Nat.reduceAdd, Nat.reduceLeDiff, Nat.reduceMul, Nat.reduceSub, Int.reduceToNat, List.take_length] at hb1 ⊢
        cases hst2 : (s0 && l.all (stillP w)) with
        | false =>
          rw [if_pos rfl, if_neg (by simp)]
          refine retW_of [.share, .adopt] [] [5] rfl rfl (by simp [go_sem]) (by simp [assoc, go_sem]) (by simp [go_sem]) ?_
          simp only [go_sem, reduceIte, Nat.reduceEqDiff, reduceCtorEq, Nat.reduceAdd, Nat.reduceLeDiff, Nat.reduceMul, Nat.reduceSub, Int.reduceToNat, hb1]
        | true =>
          rw [if_neg (by simp), if_pos rfl]
          refine Wpi_loop hm (ι := {i : Nat // i ≤ l.length}) (fun i => [(4, .share, .ptr 80 0 0 1), (6, .share, .ptr 112 0 0 1), (7, .share, encD 1 encInt 0 l), (10, if i.1 = 0 then .adopt else .share, .sl 7 0 (slF (upF w l) (l.take i.1)).2.length (slF (upF w l) (l.take i.1)).2.length), (11, .share, .sc (.int .i64 i.1))])
            (fun i => (7, .arr 5 (encQ encEv default (slF (upF w l) (l.take i.1)).2)) :: rObj w (slF (upF w l) (l.take i.1)).1 x) (fun i => l.length - i.1) ⟨0, by omega⟩ ?_ ?_
          · refine weakE_of [] [7] (by simp [go_sem]) (by simp [assoc, go_sem]) (by simp [go_sem]) ?_
            simp only [go_sem, reduceIte, Nat.reduceEqDiff, reduceCtorEq, Nat.reduceAdd, Nat.reduceLeDiff, Nat.reduceMul, Nat.reduceSub, Int.reduceToNat, slF_nil, hb1]
          · rintro ⟨i, hi⟩
            obtain ⟨hc1, hc2⟩ := slF_len (upF w l) (l.take i)
            simp only [List.length_take] at hc2
            simp only [c_r37_Updateb1, go_sem, reduceIte, Nat.reduceEqDiff, reduceCtorEq, Nat.reduceAdd, Nat.reduceLeDiff, Nat.reduceMul, Nat.reduceSub, Int.reduceToNat]
            split
            · rename_i hlt
              have hlt : i < l.length := by omega
              obtain ⟨hi0, hi1⟩ := hin _ (mem_getD 0 hlt)
              have hc3 : w.Bodies.length = (slF (upF w l) (l.take i)).1.length := by rw [hc1, hb1]
              have he : slF (upF w l) (l.take (i + 1)) = ((slF (upF w l) (l.take i)).1.set (l.getD i 0).toNat (slB ((slF (upF w l) (l.take i)).1.getD (l.getD i 0).toNat default)), (slF (upF w l) (l.take i)).2 ++ [(6, ((slF (upF w l) (l.take i)).1.getD (l.getD i 0).toNat default).ID)]) := by
                rw [slF_snoc hlt, slStep]
              refine ⟨(by (repeat' (with_reducible apply And.intro)) <;> first | omega | (simp only [maxLen]; omega)), ⟨hc3, hi0, hi1⟩, hc3, (by (repeat' (with_reducible apply And.intro)) <;> first | omega | (simp only [maxLen]; omega)), ⟨hc3, hi0, hi1⟩, hc3, (by (repeat' (with_reducible apply And.intro)) <;> first | omega | (simp only [maxLen]; omega)), ?_⟩
              refine loop_next ⟨i + 1, by omega⟩ (by show l.length - (i + 1) < l.length - i; omega) (weakE_of [] [] (by simp [go_sem]) (by simp [go_sem]) (by simp [go_sem]) ?_)
              simp only [go_sem, reduceIte, Nat.reduceEqDiff, reduceCtorEq, Nat.reduceAdd, Nat.reduceLeDiff, Nat.reduceMul, Nat.reduceSub, Int.reduceToNat, he, List.length_append, List.length_singleton]
              exact ⟨(by rw [IntKind.wrap_i64]; omega), q_app1 (6, ((slF (upF w l) (l.take i)).1.getD (l.getD i 0).toNat default).ID) rfl rfl, q_set (slB ((slF (upF w l) (l.take i)).1.getD (l.getD i 0).toNat default)) (by omega) rfl rfl⟩
            · rename_i hge
              obtain rfl : i = l.length := by omega
              simp only [go_sem, reduceIte, Nat.reduceEqDiff, reduceCtorEq, Nat.reduceAdd, Nat.reduceLeDiff, Nat.reduceMul, Nat.reduceSub, Int.reduceToNat, List.take_length] at hc1 hc2 ⊢
              rw [hb1] at hc1
              refine retW_of [.share, .share] [(5, 7), (7, 5)] [] rfl rfl (by simp [go_sem]) (by simp [assoc, go_sem]) (by simp [go_sem]) ?_
              simp only [go_sem, reduceIte, Nat.reduceEqDiff, reduceCtorEq, Nat.reduceAdd, Nat.reduceLeDiff, Nat.reduceMul, Nat.reduceSub, Int.reduceToNat, hc1]

end Go.Abs
