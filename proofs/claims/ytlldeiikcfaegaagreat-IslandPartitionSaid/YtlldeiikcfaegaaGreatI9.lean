/- A part of the walk: contracts of functions that the statement reaches. -/
import Derived.Test.YtlldeiikcfaegaaGreatAbsC
import Derived.Test.YtlldeiikcfaegaaGreatI7
set_option linter.unusedSimpArgs false
set_option linter.unusedVariables false
set_option linter.unnecessarySimpa false
set_option maxRecDepth 100000
set_option maxHeartbeats 2000000
set_option linter.unusedSimpArgs false
set_option linter.unusedVariables false
namespace Go.Abs
open Go.Proofs
open Api
def d_law36_hasDynamic_L1 (w : Api.World) (a : Int) (b : Int) (i1 : Nat) (s1 : Unit) : (Unit) ⊕ (Bool) := if (((w.Bodies.getD i1 default).Kind == 3) && (((w.Bodies.getD i1 default).ID == a) || ((w.Bodies.getD i1 default).ID == b))) = true then (.inr true) else (.inl ())
def d_law36_hasDynamic (w : Api.World) (a : Int) (b : Int) : Bool := (match itrE (d_law36_hasDynamic_L1 w a b) w.Bodies.length () with | .inr r => r | .inl s1 => false)
set_option maxHeartbeats 200000 in
theorem s_law36_hasDynamic (w : Api.World) (a : Int) (b : Int) (hw : w.Bodies.length ≤ 1048576) : CallsA Tryz.prog F_law36_hasDynamic [.agg w.enc, .sc (.int .i64 a), .sc (.int .i64 b)] [] (.sc (.bool (d_law36_hasDynamic w a b))) [] := by
  refine callsI_of (rs := [_]) hm Tryz.func91 (by kernel_rfl) (by kernel_rfl) is_law36_hasDynamic (by kernel_rfl : tmpsOf Tryz.f91.results.toList = some [6]) (by decide) (by kernel_rfl) ?_
  simp only [c_law36_hasDynamic, go_sem, ↓reduceIte, Nat.reduceEqDiff, reduceCtorEq, Nat.reduceAdd, Nat.reduceLeDiff, Nat.reduceMul, Nat.reduceSub, Int.reduceToNat, ite_andP, ite_orP, dec_true, dec_false]
  (repeat (with_reducible refine And.intro ?_ ?_; focus ((repeat' (with_reducible apply And.intro)) <;> first | omega | (simp only [IntKind.wrap_i64]; omega) | (intro hob0; (repeat' (with_reducible apply And.intro)) <;> first | omega) | trivial | assumption | (simp only [maxLen]; omega) | (intro hob; first | omega | (simp only [Bool.and_eq_true, Bool.or_eq_true, decide_eq_true_eq, Bool.not_eq_true', decide_eq_false_iff_not, Bool.or_eq_false_iff] at hob; first | omega | (simp only [IntKind.wrap_i64]; omega)) | (simp only [hob, Bool.not_false, Bool.not_true, Bool.true_and, Bool.and_true, true_and, and_true, imp_self, implies_true]; done) | (simp [hob]; done) | (simp_all; done) | (simp_all; omega)))))
  refine Wpi_loop hm (ι := {p : Nat × Unit // p.1 ≤ w.Bodies.length ∧ itrE (d_law36_hasDynamic_L1 w a b) p.1 () = .inl p.2}) (fun i => [(1, .share, .sc (.int .i64 a)), (2, .share, .sc (.int .i64 b)), (3, .share, .ptr 64 0 0 1), (7, .share, .sc (.int .i64 (i.1.1 : Int)))]) (fun i => [(64, .box [.sc (.int .i64 w.Settings.TimeStep), .sc (.int .i64 w.Settings.Gravity.X), .sc (.int .i64 w.Settings.Gravity.Y), .sc (.int .i64 w.Settings.Iterations), .sc (.int .i64 w.Settings.SleepSteps), encD 20 Body.enc default w.Bodies, encD 24 Joint.enc default w.Joints, encD 7 Contact.enc default w.Contacts, encD 4 PairKey.enc default w.Overlaps, .sc (.int .i64 w.NextID), .sc (.int .i64 w.Frame)])]) (fun i => w.Bodies.length - i.1.1) ⟨(0, ()), by omega, rfl⟩ ?_ ?_
  · refine weakE_of [] [] (by simp [go_sem]) (by simp [assoc, go_sem]) (by simp [go_sem]) ?_
    simp only [go_sem, ↓reduceIte, Nat.reduceEqDiff, reduceCtorEq, Nat.reduceAdd, Nat.reduceLeDiff, Nat.reduceMul, Nat.reduceSub, Int.reduceToNat, ite_andP, ite_orP, dec_true, dec_false, itr_zero]
    all_goals ((try dsimp only); (repeat' (with_reducible apply And.intro)) <;> first | with_reducible rfl | trivial | (rw [IntKind.wrap_i64]; omega) | omega | (simp only [List.length_append, List.length_cons, List.length_nil]; done) | rfl | exact avle_nilD rfl | exact q_same rfl | (simp only [go_sem, ↓reduceIte, Nat.reduceEqDiff, reduceCtorEq, Nat.reduceAdd, Nat.reduceLeDiff, Nat.reduceMul, Nat.reduceSub, Int.reduceToNat, ite_andP, ite_orP, dec_true, dec_false]; done) | (simp_all; done) | (simp only [decide_eq_false_iff_not, Bool.not_eq_false, decide_eq_true_eq] at *; omega) | (intro hob; simp only [hob, Bool.not_false, Bool.not_true, Bool.true_and, Bool.and_true, true_and, and_true, imp_self, implies_true]; done) | (intro hob; simp [hob]; done) | ((repeat' (with_reducible apply And.intro)) <;> first | omega | (simp only [IntKind.wrap_i64]; omega) | (intro hob0; (repeat' (with_reducible apply And.intro)) <;> first | omega) | trivial | assumption | (simp only [maxLen]; omega) | (intro hob; first | omega | (simp only [Bool.and_eq_true, Bool.or_eq_true, decide_eq_true_eq, Bool.not_eq_true', decide_eq_false_iff_not, Bool.or_eq_false_iff] at hob; first | omega | (simp only [IntKind.wrap_i64]; omega)) | (simp only [hob, Bool.not_false, Bool.not_true, Bool.true_and, Bool.and_true, true_and, and_true, imp_self, implies_true]; done) | (simp [hob]; done) | (simp_all; done) | (simp_all; omega))))
  · rintro ⟨⟨i1, s1⟩, hi1, hs1⟩
    replace hi1 : i1 ≤ w.Bodies.length := hi1
    replace hs1 : itrE (d_law36_hasDynamic_L1 w a b) i1 () = .inl s1 := hs1
    simp only [c_law36_hasDynamicb0, go_sem, ↓reduceIte, Nat.reduceEqDiff, reduceCtorEq, Nat.reduceAdd, Nat.reduceLeDiff, Nat.reduceMul, Nat.reduceSub, Int.reduceToNat, ite_andP, ite_orP, dec_true, dec_false]
    (repeat (with_reducible refine And.intro ?_ ?_; focus ((repeat' (with_reducible apply And.intro)) <;> first | omega | (simp only [IntKind.wrap_i64]; omega) | (intro hob0; (repeat' (with_reducible apply And.intro)) <;> first | omega) | trivial | assumption | (simp only [maxLen]; omega) | (intro hob; first | omega | (simp only [Bool.and_eq_true, Bool.or_eq_true, decide_eq_true_eq, Bool.not_eq_true', decide_eq_false_iff_not, Bool.or_eq_false_iff] at hob; first | omega | (simp only [IntKind.wrap_i64]; omega)) | (simp only [hob, Bool.not_false, Bool.not_true, Bool.true_and, Bool.and_true, true_and, and_true, imp_self, implies_true]; done) | (simp [hob]; done) | (simp_all; done) | (simp_all; omega)))))
    by_cases h1 : (i1 : Int) < (w.Bodies.length : Int)
    · first | rw [if_pos h1] | rw [if_pos (by simp_all)] | rw [if_pos (by omega)]
      have hlt1 : i1 < w.Bodies.length := by first | omega | (simp only [IntKind.wrap_i64] at h1; omega)
      (repeat (with_reducible refine And.intro ?_ ?_; focus ((repeat' (with_reducible apply And.intro)) <;> first | omega | (simp only [IntKind.wrap_i64]; omega) | (intro hob0; (repeat' (with_reducible apply And.intro)) <;> first | omega) | trivial | assumption | (simp only [maxLen]; omega) | (intro hob; first | omega | (simp only [Bool.and_eq_true, Bool.or_eq_true, decide_eq_true_eq, Bool.not_eq_true', decide_eq_false_iff_not, Bool.or_eq_false_iff] at hob; first | omega | (simp only [IntKind.wrap_i64]; omega)) | (simp only [hob, Bool.not_false, Bool.not_true, Bool.true_and, Bool.and_true, true_and, and_true, imp_self, implies_true]; done) | (simp [hob]; done) | (simp_all; done) | (simp_all; omega)))))
      by_cases h2 : (((w.Bodies.getD i1 default).Kind == 3) && (((w.Bodies.getD i1 default).ID == a) || ((w.Bodies.getD i1 default).ID == b))) = true
      · first | rw [if_pos h2] | rw [if_pos (by simp_all)] | rw [if_pos (by omega)]
        (repeat (with_reducible refine And.intro ?_ ?_; focus ((repeat' (with_reducible apply And.intro)) <;> first | omega | (simp only [IntKind.wrap_i64]; omega) | (intro hob0; (repeat' (with_reducible apply And.intro)) <;> first | omega) | trivial | assumption | (simp only [maxLen]; omega) | (intro hob; first | omega | (simp only [Bool.and_eq_true, Bool.or_eq_true, decide_eq_true_eq, Bool.not_eq_true', decide_eq_false_iff_not, Bool.or_eq_false_iff] at hob; first | omega | (simp only [IntKind.wrap_i64]; omega)) | (simp only [hob, Bool.not_false, Bool.not_true, Bool.true_and, Bool.and_true, true_and, and_true, imp_self, implies_true]; done) | (simp [hob]; done) | (simp_all; done) | (simp_all; omega)))))
        have e1 : itrE (d_law36_hasDynamic_L1 w a b) (i1 + 1) () = .inr true := itrE_inl hs1 (by first | with_reducible rfl | (simp only [d_law36_hasDynamic_L1, h1, h2, if_true, if_false, eq_self, Bool.false_eq_true, Bool.true_eq_false, not_true_eq_false, not_false_eq_true, reduceCtorEq, itr_zero, itrE_zero, mrg_inl, mrg_inr, Bool.and_true, Bool.true_and, Bool.and_false, Bool.false_and, Bool.or_true, Bool.true_or, Bool.or_false, Bool.false_or, Bool.not_true, Bool.not_false, decide_true, decide_false] <;> first | with_reducible rfl | rfl) | (unfold d_law36_hasDynamic_L1; (repeat' split) <;> first | rfl | omega | (simp_all; done) | (simp_all; omega)))
        replace e1 := itrE_stop e1 (show i1 + 1 ≤ w.Bodies.length by omega)
        have hd : d_law36_hasDynamic w a b = true := by first | with_reducible rfl | (simp only [d_law36_hasDynamic, h1, h2, e1, if_true, if_false, eq_self, Bool.false_eq_true, Bool.true_eq_false, not_true_eq_false, not_false_eq_true, reduceCtorEq, itr_zero, itrE_zero, mrg_inl, mrg_inr, Bool.and_true, Bool.true_and, Bool.and_false, Bool.false_and, Bool.or_true, Bool.true_or, Bool.or_false, Bool.false_or, Bool.not_true, Bool.not_false, decide_true, decide_false] <;> first | with_reducible rfl | rfl) | (unfold d_law36_hasDynamic; (repeat' split) <;> first | rfl | omega | (simp_all; done) | (simp_all; omega))
        try rw [hd]
        try simp only [go_sem, ↓reduceIte, Nat.reduceEqDiff, reduceCtorEq, Nat.reduceAdd, Nat.reduceLeDiff, Nat.reduceMul, Nat.reduceSub, Int.reduceToNat, ite_andP, ite_orP, dec_true, dec_false]
        all_goals ((try dsimp only); (repeat' (with_reducible apply And.intro)) <;> first | with_reducible rfl | trivial | (rw [IntKind.wrap_i64]; omega) | omega | (simp only [List.length_append, List.length_cons, List.length_nil]; done) | rfl | exact avle_nilD rfl | exact q_same rfl | (simp only [go_sem, ↓reduceIte, Nat.reduceEqDiff, reduceCtorEq, Nat.reduceAdd, Nat.reduceLeDiff, Nat.reduceMul, Nat.reduceSub, Int.reduceToNat, ite_andP, ite_orP, dec_true, dec_false]; done) | (simp_all; done) | (simp only [decide_eq_false_iff_not, Bool.not_eq_false, decide_eq_true_eq] at *; omega) | (intro hob; simp only [hob, Bool.not_false, Bool.not_true, Bool.true_and, Bool.and_true, true_and, and_true, imp_self, implies_true]; done) | (intro hob; simp [hob]; done) | ((repeat' (with_reducible apply And.intro)) <;> first | omega | (simp only [IntKind.wrap_i64]; omega) | (intro hob0; (repeat' (with_reducible apply And.intro)) <;> first | omega) | trivial | assumption | (simp only [maxLen]; omega) | (intro hob; first | omega | (simp only [Bool.and_eq_true, Bool.or_eq_true, decide_eq_true_eq, Bool.not_eq_true', decide_eq_false_iff_not, Bool.or_eq_false_iff] at hob; first | omega | (simp only [IntKind.wrap_i64]; omega)) | (simp only [hob, Bool.not_false, Bool.not_true, Bool.true_and, Bool.and_true, true_and, and_true, imp_self, implies_true]; done) | (simp [hob]; done) | (simp_all; done) | (simp_all; omega))))
      · first | rw [if_neg h2] | rw [if_neg (by simp_all)] | rw [if_neg (by omega)]
        (repeat (with_reducible refine And.intro ?_ ?_; focus ((repeat' (with_reducible apply And.intro)) <;> first | omega | (simp only [IntKind.wrap_i64]; omega) | (intro hob0; (repeat' (with_reducible apply And.intro)) <;> first | omega) | trivial | assumption | (simp only [maxLen]; omega) | (intro hob; first | omega | (simp only [Bool.and_eq_true, Bool.or_eq_true, decide_eq_true_eq, Bool.not_eq_true', decide_eq_false_iff_not, Bool.or_eq_false_iff] at hob; first | omega | (simp only [IntKind.wrap_i64]; omega)) | (simp only [hob, Bool.not_false, Bool.not_true, Bool.true_and, Bool.and_true, true_and, and_true, imp_self, implies_true]; done) | (simp [hob]; done) | (simp_all; done) | (simp_all; omega)))))
        have hn : itrE (d_law36_hasDynamic_L1 w a b) (i1 + 1) () = .inl () := itrE_inl hs1 (by first | with_reducible rfl | (simp only [d_law36_hasDynamic_L1, h1, h2, if_true, if_false, eq_self, Bool.false_eq_true, Bool.true_eq_false, not_true_eq_false, not_false_eq_true, reduceCtorEq, itr_zero, itrE_zero, mrg_inl, mrg_inr, Bool.and_true, Bool.true_and, Bool.and_false, Bool.false_and, Bool.or_true, Bool.true_or, Bool.or_false, Bool.false_or, Bool.not_true, Bool.not_false, decide_true, decide_false] <;> first | with_reducible rfl | rfl) | (unfold d_law36_hasDynamic_L1; (repeat' split) <;> first | rfl | omega | (simp_all; done) | (simp_all; omega)))
        refine loop_next ⟨(i1 + 1, ()), by omega, hn⟩ (by show w.Bodies.length - (i1 + 1) < w.Bodies.length - i1; omega) (weakE_of [] [] (by simp [go_sem]) (by simp [assoc, go_sem]) (by simp [go_sem]) ?_)
        simp only [go_sem, ↓reduceIte, Nat.reduceEqDiff, reduceCtorEq, Nat.reduceAdd, Nat.reduceLeDiff, Nat.reduceMul, Nat.reduceSub, Int.reduceToNat, ite_andP, ite_orP, dec_true, dec_false]
        all_goals ((try dsimp only); (repeat' (with_reducible apply And.intro)) <;> first | with_reducible rfl | trivial | (rw [IntKind.wrap_i64]; omega) | omega | (simp only [List.length_append, List.length_cons, List.length_nil]; done) | rfl | exact avle_nilD rfl | exact q_same rfl | (simp only [go_sem, ↓reduceIte, Nat.reduceEqDiff, reduceCtorEq, Nat.reduceAdd, Nat.reduceLeDiff, Nat.reduceMul, Nat.reduceSub, Int.reduceToNat, ite_andP, ite_orP, dec_true, dec_false]; done) | (simp_all; done) | (simp only [decide_eq_false_iff_not, Bool.not_eq_false, decide_eq_true_eq] at *; omega) | (intro hob; simp only [hob, Bool.not_false, Bool.not_true, Bool.true_and, Bool.and_true, true_and, and_true, imp_self, implies_true]; done) | (intro hob; simp [hob]; done) | ((repeat' (with_reducible apply And.intro)) <;> first | omega | (simp only [IntKind.wrap_i64]; omega) | (intro hob0; (repeat' (with_reducible apply And.intro)) <;> first | omega) | trivial | assumption | (simp only [maxLen]; omega) | (intro hob; first | omega | (simp only [Bool.and_eq_true, Bool.or_eq_true, decide_eq_true_eq, Bool.not_eq_true', decide_eq_false_iff_not, Bool.or_eq_false_iff] at hob; first | omega | (simp only [IntKind.wrap_i64]; omega)) | (simp only [hob, Bool.not_false, Bool.not_true, Bool.true_and, Bool.and_true, true_and, and_true, imp_self, implies_true]; done) | (simp [hob]; done) | (simp_all; done) | (simp_all; omega))))
    · first | rw [if_neg h1] | rw [if_neg (by simp_all)] | rw [if_neg (by omega)]
      (repeat (with_reducible refine And.intro ?_ ?_; focus ((repeat' (with_reducible apply And.intro)) <;> first | omega | (simp only [IntKind.wrap_i64]; omega) | (intro hob0; (repeat' (with_reducible apply And.intro)) <;> first | omega) | trivial | assumption | (simp only [maxLen]; omega) | (intro hob; first | omega | (simp only [Bool.and_eq_true, Bool.or_eq_true, decide_eq_true_eq, Bool.not_eq_true', decide_eq_false_iff_not, Bool.or_eq_false_iff] at hob; first | omega | (simp only [IntKind.wrap_i64]; omega)) | (simp only [hob, Bool.not_false, Bool.not_true, Bool.true_and, Bool.and_true, true_and, and_true, imp_self, implies_true]; done) | (simp [hob]; done) | (simp_all; done) | (simp_all; omega)))))
      have hge : i1 = w.Bodies.length := by first | omega | (simp only [IntKind.wrap_i64] at h1; omega)
      subst hge
      have hd : d_law36_hasDynamic w a b = false := by first | with_reducible rfl | (simp only [d_law36_hasDynamic, hs1, if_true, if_false, eq_self, Bool.false_eq_true, Bool.true_eq_false, not_true_eq_false, not_false_eq_true, reduceCtorEq, itr_zero, itrE_zero, mrg_inl, mrg_inr, Bool.and_true, Bool.true_and, Bool.and_false, Bool.false_and, Bool.or_true, Bool.true_or, Bool.or_false, Bool.false_or, Bool.not_true, Bool.not_false, decide_true, decide_false] <;> first | with_reducible rfl | rfl) | (unfold d_law36_hasDynamic; (repeat' split) <;> first | rfl | omega | (simp_all; done) | (simp_all; omega))
      try rw [hd]
      try simp only [go_sem, ↓reduceIte, Nat.reduceEqDiff, reduceCtorEq, Nat.reduceAdd, Nat.reduceLeDiff, Nat.reduceMul, Nat.reduceSub, Int.reduceToNat, ite_andP, ite_orP, dec_true, dec_false]
      all_goals ((try dsimp only); (repeat' (with_reducible apply And.intro)) <;> first | with_reducible rfl | trivial | (rw [IntKind.wrap_i64]; omega) | omega | (simp only [List.length_append, List.length_cons, List.length_nil]; done) | rfl | exact avle_nilD rfl | exact q_same rfl | (simp only [go_sem, ↓reduceIte, Nat.reduceEqDiff, reduceCtorEq, Nat.reduceAdd, Nat.reduceLeDiff, Nat.reduceMul, Nat.reduceSub, Int.reduceToNat, ite_andP, ite_orP, dec_true, dec_false]; done) | (simp_all; done) | (simp only [decide_eq_false_iff_not, Bool.not_eq_false, decide_eq_true_eq] at *; omega) | (intro hob; simp only [hob, Bool.not_false, Bool.not_true, Bool.true_and, Bool.and_true, true_and, and_true, imp_self, implies_true]; done) | (intro hob; simp [hob]; done) | ((repeat' (with_reducible apply And.intro)) <;> first | omega | (simp only [IntKind.wrap_i64]; omega) | (intro hob0; (repeat' (with_reducible apply And.intro)) <;> first | omega) | trivial | assumption | (simp only [maxLen]; omega) | (intro hob; first | omega | (simp only [Bool.and_eq_true, Bool.or_eq_true, decide_eq_true_eq, Bool.not_eq_true', decide_eq_false_iff_not, Bool.or_eq_false_iff] at hob; first | omega | (simp only [IntKind.wrap_i64]; omega)) | (simp only [hob, Bool.not_false, Bool.not_true, Bool.true_and, Bool.and_true, true_and, and_true, imp_self, implies_true]; done) | (simp [hob]; done) | (simp_all; done) | (simp_all; omega))))

theorem hasD_any (w : Api.World) (a b : Int) : d_law36_hasDynamic w a b = w.Bodies.any fun x => (x.Kind == 3) && ((x.ID == a) || (x.ID == b)) := by
  unfold d_law36_hasDynamic
  rw [itrE_all (r := true) (p := fun i => ((w.Bodies.getD i default).Kind == 3) && (((w.Bodies.getD i default).ID == a) || ((w.Bodies.getD i default).ID == b))) (fun i => rfl), range_any (p := fun x : Body => (x.Kind == 3) && ((x.ID == a) || (x.ID == b)))]
  cases (w.Bodies.any fun x => (x.Kind == 3) && ((x.ID == a) || (x.ID == b))) <;> rfl
def idB (w : Api.World) (i : Nat) : Int := (w.Bodies.getD i default).ID
theorem ids_up (w : Api.World) : ∀ (k : Nat) (s : Int), itrE (d_world_validBodies_L1 w) k 0 = .inl s → (∀ i, i < k → idB w i ≤ s) ∧ ∀ i j, i < j → j < k → idB w i < idB w j
  | 0, s, _ => ⟨fun i hi => by omega, fun i j h1 h2 => by omega⟩
  | k + 1, s, h => by
    simp only [itrE] at h
    cases hk : itrE (d_world_validBodies_L1 w) k 0 with
    | inr r => rw [hk] at h; cases h
    | inl s' =>
      rw [hk] at h
      obtain ⟨a1, a2⟩ := ids_up w k s' hk
      simp only [d_world_validBodies_L1] at h
      split at h
      · cases h
      · rename_i hc
        injection h with h
        simp only [Bool.or_eq_true, decide_eq_true_eq, not_or] at hc
        have h1 : s' < idB w k := by unfold idB; omega
        have h2 : idB w k = s := h
        refine ⟨fun i hi => ?_, fun i j hij hj => ?_⟩
        · rcases Nat.lt_or_ge i k with h3 | h3
          · have := a1 i h3; omega
          · obtain rfl : i = k := by omega
            omega
        · rcases Nat.lt_or_ge j k with h3 | h3
          · exact a2 i j hij h3
          · obtain rfl : j = k := by omega
            have := a1 i hij; omega
theorem ids_inj {w : Api.World} (hv : d_world_Validate w = 0) {i j : Nat} (hi : i < w.Bodies.length) (hj : j < w.Bodies.length) (h : idB w i = idB w j) : i = j := by
  have hb := ((val_iff w).1 hv).2.2.2.1
  unfold d_world_validBodies at hb
  cases hk : itrE (d_world_validBodies_L1 w) w.Bodies.length 0 with
  | inr r =>
    rw [hk] at hb
    exfalso
    have key : ∀ (n : Nat) (s : Int) (r : Bool), itrE (d_world_validBodies_L1 w) n s = .inr r → r = false := by
      intro n
      induction n with
      | zero => intro s r h; cases h
      | succ n ih =>
        intro s r h
        simp only [itrE] at h
        cases hn : itrE (d_world_validBodies_L1 w) n s with
        | inr r' => rw [hn] at h; injection h with h; subst h; exact ih s _ hn
        | inl s' =>
          rw [hn] at h
          simp only [d_world_validBodies_L1] at h
          split at h
          · injection h with h; exact h.symm
          · cases h
    have := key _ _ _ hk
    subst this; cases hb
  | inl s =>
    have hu := (ids_up w _ s hk).2
    rcases Nat.lt_trichotomy i j with h1 | h1 | h1
    · have := hu i j h1 hj; omega
    · exact h1
    · have := hu j i h1 hi; omega
theorem findB_spec {w : Api.World} {a : Int} (h : 0 ≤ findB w a) : (findB w a).toNat < w.Bodies.length ∧ idB w (findB w a).toNat = a := by
  unfold findB idxG at h ⊢
  cases hf : (List.range w.Bodies.length).find? (fun i => (w.Bodies.getD i default).ID == a) with
  | none => rw [hf] at h; simp at h
  | some i =>
    have h1 := List.mem_of_find?_eq_some hf
    have h2 := List.find?_some hf
    rw [List.mem_range] at h1
    exact ⟨h1, by simpa [idB] using h2⟩
theorem findB_ex {w : Api.World} {a : Int} {i : Nat} (hi : i < w.Bodies.length) (h : idB w i = a) : 0 ≤ findB w a := by
  unfold findB idxG
  cases hf : (List.range w.Bodies.length).find? (fun i => (w.Bodies.getD i default).ID == a) with
  | none =>
    rw [List.find?_range_eq_none] at hf
    have := hf i hi
    unfold idB at h
    rw [h] at this; simp at this
  | some i => simp
theorem dynB_any {w : Api.World} (hv : d_world_Validate w = 0) (a : Int) : dynB w a = w.Bodies.any fun x => (x.Kind == 3) && (x.ID == a) := by
  rw [Bool.eq_iff_iff, List.any_eq_true]
  unfold dynB
  rw [Bool.and_eq_true, decide_eq_true_eq]
  constructor
  · rintro ⟨h1, h2⟩
    obtain ⟨h3, h4⟩ := findB_spec h1
    exact ⟨_, mem_getD default h3, by rw [Bool.and_eq_true]; exact ⟨h2, by simpa [idB] using h4⟩⟩
  · rintro ⟨x, hx, hp⟩
    obtain ⟨i, hi, rfl⟩ := List.getElem_of_mem hx
    rw [Bool.and_eq_true, beq_iff_eq, beq_iff_eq] at hp
    have hg : w.Bodies.getD i default = w.Bodies[i] := by simp [List.getD, hi]
    have hid : idB w i = a := by unfold idB; rw [hg]; exact hp.2
    have h0 := findB_ex hi hid
    obtain ⟨h3, h4⟩ := findB_spec h0
    have : (findB w a).toNat = i := ids_inj hv h3 hi (by rw [h4, hid])
    refine ⟨h0, ?_⟩
    rw [this, hg]; simpa using hp.1
theorem hasD_isl2 {w : Api.World} (hv : d_world_Validate w = 0) (g : List Int) (a b : Int) : d_law36_hasDynamic w a b = (isl2 w g a b).isSome := by
  have h1 : d_law36_hasDynamic w a b = (dynB w a || dynB w b) := by
    rw [hasD_any, dynB_any hv a, dynB_any hv b, Bool.eq_iff_iff, Bool.or_eq_true, List.any_eq_true, List.any_eq_true, List.any_eq_true]
    constructor
    · rintro ⟨x, hx, hp⟩
      rw [Bool.and_eq_true, Bool.or_eq_true] at hp
      rcases hp.2 with h | h
      · exact .inl ⟨x, hx, by rw [hp.1, h]; rfl⟩
      · exact .inr ⟨x, hx, by rw [hp.1, h]; rfl⟩
    · rintro (⟨x, hx, hp⟩ | ⟨x, hx, hp⟩)
      · rw [Bool.and_eq_true] at hp; exact ⟨x, hx, by rw [hp.1, hp.2]; rfl⟩
      · rw [Bool.and_eq_true] at hp; exact ⟨x, hx, by rw [hp.1, hp.2]; simp⟩
  rw [h1]
  unfold isl2
  cases dynB w a <;> cases dynB w b <;> rfl
/-- a sum over the first k numbers -/
def cs (f : Nat → Nat) : Nat → Nat
  | 0 => 0
  | k + 1 => cs f k + f k
theorem cs_one {f : Nat → Nat} {q : Option Nat} : ∀ {m : Nat}, (∀ k, k < m → f k = if q = some k then 1 else 0) → cs f m = if ∃ k, k < m ∧ q = some k then 1 else 0
  | 0, _ => by rw [if_neg (by rintro ⟨k, h, _⟩; omega)]; rfl
  | m + 1, h => by
    show cs f m + f m = _
    rw [cs_one fun k hk => h k (by omega), h m (by omega)]
    by_cases h1 : q = some m
    · rw [if_pos h1, if_neg, if_pos ⟨m, by omega, h1⟩]
      rintro ⟨k, hk, hq⟩
      rw [h1] at hq; injection hq with hq; omega
    · rw [if_neg h1]
      by_cases h2 : ∃ k, k < m ∧ q = some k
      · rw [if_pos h2, if_pos]
        obtain ⟨k, hk, hq⟩ := h2
        exact ⟨k, by omega, hq⟩
      · rw [if_neg h2, if_neg]
        rintro ⟨k, hk, hq⟩
        apply h2
        refine ⟨k, ?_, hq⟩
        rcases Nat.lt_or_ge k m with h3 | h3
        · exact h3
        · obtain rfl : k = m := by omega
          exact absurd hq h1
theorem cs_le {f : Nat → Nat} {M : Nat} (h : ∀ k, f k ≤ M) : ∀ m, cs f m ≤ m * M
  | 0 => Nat.zero_le _
  | m + 1 => by have := cs_le h m; have := h m; show cs f m + f m ≤ _; rw [Nat.add_mul]; omega
theorem memb_count (p : Nat → Option Nat) (q i : Nat) : ∀ n, (memb p q n).count (i : Int) = if i < n ∧ p i = some q then 1 else 0
  | 0 => by simp [memb]
  | n + 1 => by
    have ih := memb_count p q i n
    by_cases h : p n = some q
    · rw [memb_yes h, List.count_append, ih, List.count_singleton]
      by_cases hi : i = n
      · subst hi; simp [h]
      · have h2 : ¬ ((n : Int) == (i : Int)) = true := by simp; omega
        rw [if_neg h2]
        by_cases h3 : i < n ∧ p i = some q
        · rw [if_pos h3, if_pos ⟨by omega, h3.2⟩]
        · rw [if_neg h3, if_neg]; rintro ⟨h4, h5⟩; exact h3 ⟨by omega, h5⟩
    · rw [← memb_no h, ih]
      by_cases h3 : i < n ∧ p i = some q
      · rw [if_pos h3, if_pos ⟨by omega, h3.2⟩]
      · rw [if_neg h3, if_neg]
        rintro ⟨h4, h5⟩
        apply h3; refine ⟨?_, h5⟩
        rcases Nat.lt_or_ge i n with h6 | h6
        · exact h6
        · obtain rfl : i = n := by omega
          exact absurd h5 h
theorem pB_lt {w : Api.World} {i q : Nat} (hi : i < w.Bodies.length) (h : pB w (conn w) i = some q) : q < nb w (conn w) w.Bodies.length := by
  obtain ⟨hg, hgl⟩ := conn_uf w
  unfold pB at h
  split at h
  · rename_i hk
    injection h with h; subst h
    have hR := root_isR hg (conn_dg w) (i := (i : Int)) (by omega) (by omega) (by rw [Int.toNat_natCast]; exact hk)
    obtain ⟨a, b, _⟩ := root_in hg (i := (i : Int)) (by omega) (by omega)
    exact nb_lt hR (by omega)
  · cases h
theorem isl2_lt {w : Api.World} {a b : Int} {q : Nat} (h : (isl2 w (conn w) a b).map (fun r => nb w (conn w) r.toNat) = some q) : q < nb w (conn w) w.Bodies.length := by
  obtain ⟨hg, hgl⟩ := conn_uf w
  cases hi : isl2 w (conn w) a b with
  | none => rw [hi] at h; cases h
  | some r =>
    rw [hi] at h
    obtain ⟨k, rfl, hk, hR⟩ := isl2_R hg hgl (conn_dg w) hi
    have h : nb w (conn w) k = q := by simpa using h
    subst h
    exact nb_lt hR (by omega)
theorem buildL_get {w : Api.World} (hv : d_world_Validate w = 0) {k : Nat} (hk : k < nb w (conn w) w.Bodies.length) : (buildL w).getD k default = ⟨memb (pB w (conn w)) k w.Bodies.length, memb (pC w (conn w)) k w.Contacts.length, memb (pJ w (conn w)) k w.Joints.length⟩ := by
  unfold buildL; rw [if_pos hv]
  simp [List.getD, hk]
theorem buildL_n {w : Api.World} (hv : d_world_Validate w = 0) : (buildL w).length = nb w (conn w) w.Bodies.length := by
  unfold buildL; rw [if_pos hv]; simp
def nB (w : Api.World) (i k : Nat) : Nat := ((buildL w).getD k default).Bodies.count (i : Int)
def nC (w : Api.World) (i k : Nat) : Nat := ((buildL w).getD k default).Contacts.count (i : Int)
def nJ (w : Api.World) (i k : Nat) : Nat := ((buildL w).getD k default).Joints.count (i : Int)
theorem sum_some {w : Api.World} (hv : d_world_Validate w = 0) {f : Nat → Nat} {o : Option Nat} (hf : ∀ k, k < nb w (conn w) w.Bodies.length → f k = if o = some k then 1 else 0) (ho : ∀ q, o = some q → q < nb w (conn w) w.Bodies.length) : cs f (buildL w).length = if o.isSome = true then 1 else 0 := by
  rw [buildL_n hv, cs_one hf]
  cases o with
  | none => simp
  | some q => rw [if_pos ⟨q, ho q rfl, rfl⟩]; rfl
theorem sumB {w : Api.World} (hv : d_world_Validate w = 0) {i : Nat} (hi : i < w.Bodies.length) : cs (nB w i) (buildL w).length = if kd w i = true then 1 else 0 := by
  rw [sum_some hv (o := pB w (conn w) i) (fun k hk => by unfold nB; rw [buildL_get hv hk, memb_count]; simp only [hi, true_and]) (fun q hq => pB_lt hi hq)]
  unfold pB; split <;> rfl
theorem sumC {w : Api.World} (hv : d_world_Validate w = 0) {i : Nat} (hi : i < w.Contacts.length) : cs (nC w i) (buildL w).length = if d_law36_hasDynamic w (w.Contacts.getD i default).Key.BodyA (w.Contacts.getD i default).Key.BodyB = true then 1 else 0 := by
  rw [sum_some hv (o := pC w (conn w) i) (fun k hk => by unfold nC; rw [buildL_get hv hk, memb_count]; simp only [hi, true_and]) (fun q hq => isl2_lt hq), hasD_isl2 hv (conn w)]
  unfold pC; rw [Option.isSome_map]
theorem sumJ {w : Api.World} (hv : d_world_Validate w = 0) {i : Nat} (hi : i < w.Joints.length) : cs (nJ w i) (buildL w).length = if d_law36_hasDynamic w (w.Joints.getD i default).BodyA (w.Joints.getD i default).BodyB = true then 1 else 0 := by
  rw [sum_some hv (o := pJ w (conn w) i) (fun k hk => by unfold nJ; rw [buildL_get hv hk, memb_count]; simp only [hi, true_and]) (fun q hq => isl2_lt hq), hasD_isl2 hv (conn w)]
  unfold pJ; rw [Option.isSome_map]
theorem buildL_at {w : Api.World} {k : Nat} : ((buildL w).getD k default).Bodies.length ≤ w.Bodies.length ∧ ((buildL w).getD k default).Contacts.length ≤ w.Contacts.length ∧ ((buildL w).getD k default).Joints.length ≤ w.Joints.length := by
  rcases Nat.lt_or_ge k (buildL w).length with h | h
  · exact buildL_mem (mem_getD default h)
  · rw [List.getD, List.getElem?_eq_none h]; exact ⟨Nat.zero_le _, Nat.zero_le _, Nat.zero_le _⟩
theorem buildC_in {w : Api.World} (hv : d_world_Validate w = 0) {k : Nat} (hk : k < (buildL w).length) {a : Int} (h : a ∈ ((buildL w).getD k default).Contacts) : 0 ≤ a ∧ a < w.Contacts.length := by
  rw [buildL_get hv (by rw [← buildL_n hv]; exact hk)] at h
  obtain ⟨j, rfl, hj, _⟩ := memb_mem.1 h
  omega
theorem buildJ_in {w : Api.World} (hv : d_world_Validate w = 0) {k : Nat} (hk : k < (buildL w).length) {a : Int} (h : a ∈ ((buildL w).getD k default).Joints) : 0 ≤ a ∧ a < w.Joints.length := by
  rw [buildL_get hv (by rw [← buildL_n hv]; exact hk)] at h
  obtain ⟨j, rfl, hj, _⟩ := memb_mem.1 h
  omega
theorem count_snoc {l : List Int} {n : Nat} (h : n < l.length) (a : Int) : (l.take (n + 1)).count a = (l.take n).count a + if l.getD n 0 = a then 1 else 0 := by
  rw [take_snoc 0 h, List.count_append, List.count_singleton]
  congr 1
  simp only [beq_iff_eq]

end Go.Abs
