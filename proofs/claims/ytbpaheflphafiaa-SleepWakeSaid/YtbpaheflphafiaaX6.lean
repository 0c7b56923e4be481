/- A part of the walk: contracts of functions that the statement reaches. -/
import Derived.Test.YtbpaheflphafiaaX5
set_option linter.unusedSimpArgs false
set_option linter.unusedVariables false
set_option linter.unnecessarySimpa false
set_option maxRecDepth 100000
set_option maxHeartbeats 2000000
set_option linter.unusedSimpArgs false
set_option linter.unusedVariables false
namespace Go.Abs
open Go.Proofs
open Api
theorem Joint.beq (x y : Joint) : ((x.ID == y.ID) && ((x.Kind == y.Kind) && ((x.BodyA == y.BodyA) && ((x.BodyB == y.BodyB) && ((x.AnchorA.X == y.AnchorA.X) && ((x.AnchorA.Y == y.AnchorA.Y) && ((x.AnchorB.X == y.AnchorB.X) && ((x.AnchorB.Y == y.AnchorB.Y) && ((x.Axis.X == y.Axis.X) && ((x.Axis.Y == y.Axis.Y) && ((x.ReferenceAngle == y.ReferenceAngle) && ((x.EnableLimit == y.EnableLimit) && ((x.Lower == y.Lower) && ((x.Upper == y.Upper) && ((x.EnableMotor == y.EnableMotor) && ((x.MotorSpeed == y.MotorSpeed) && ((x.MaxForce == y.MaxForce) && ((x.Softness == y.Softness) && ((x.BreakForce == y.BreakForce) && ((x.CollideConnected == y.CollideConnected) && ((x.Impulses.I0 == y.Impulses.I0) && ((x.Impulses.I1 == y.Impulses.I1) && ((x.Impulses.I2 == y.Impulses.I2) && (x.Impulses.I3 == y.Impulses.I3)))))))))))))))))))))))) = decide (x = y) := by
  obtain ⟨a0, a1, a2, a3, ⟨a4, a5⟩, ⟨a6, a7⟩, ⟨a8, a9⟩, a10, a11, a12, a13, a14, a15, a16, a17, a18, a19, ⟨a20, a21, a22, a23⟩⟩ := x
  obtain ⟨b0, b1, b2, b3, ⟨b4, b5⟩, ⟨b6, b7⟩, ⟨b8, b9⟩, b10, b11, b12, b13, b14, b15, b16, b17, b18, b19, ⟨b20, b21, b22, b23⟩⟩ := y
  rw [Bool.eq_iff_iff]; simp [and_assoc]
theorem Settings.beq (x y : Settings) : ((x.TimeStep == y.TimeStep) && ((x.Gravity.X == y.Gravity.X) && ((x.Gravity.Y == y.Gravity.Y) && ((x.Iterations == y.Iterations) && (x.SleepSteps == y.SleepSteps))))) = decide (x = y) := by
  obtain ⟨a0, ⟨a1, a2⟩, a3, a4⟩ := x
  obtain ⟨b0, ⟨b1, b2⟩, b3, b4⟩ := y
  rw [Bool.eq_iff_iff]; simp [and_assoc]
theorem s_r25_Equal (x y : Api.World) (h : Wsm x) : CallsA Try.prog F_r25_Equal [.agg x.enc, .agg y.enc] [] (.sc (.bool (decide (x = y)))) [] := by
  obtain ⟨h1, h2, h3, h4, h5, h6⟩ := h
  refine callsI_of (rs := [_]) hm Try.func21 (by kernel_rfl) (by kernel_rfl) is_r25_Equal (by kernel_rfl : tmpsOf Try.f21.results.toList = some [4]) (by decide) (by kernel_rfl) ?_
  simp only [c_r25_Equal, Settings.beq, go_sem, reduceIte, Nat.reduceEqDiff, reduceCtorEq, Nat.reduceAdd, Nat.reduceLeDiff, Nat.reduceMul, Nat.reduceSub, Int.reduceToNat]
  refine CallGi_flat (s_r22_Keys x.Overlaps y.Overlaps h4) rfl ?_
  simp only [go_sem, reduceIte, Nat.reduceEqDiff, reduceCtorEq, Nat.reduceAdd, Nat.reduceLeDiff, Nat.reduceMul, Nat.reduceSub, Int.reduceToNat]
  split
  · rename_i hc
    exact (decide_eq_false fun e => by subst e; simp at hc).symm
  · rename_i hc
    simp at hc
    obtain ⟨⟨⟨⟨⟨⟨e1, e2⟩, e3⟩, e4⟩, e5⟩, e6⟩, e7⟩ := hc
    have l0 : x.Bodies.length = y.Bodies.length := by omega
    refine Wpi_loop hm (ι := {i : Nat // i ≤ x.Bodies.length ∧ x.Bodies.take i = y.Bodies.take i}) (fun i => [(2, .share, .ptr 48 0 0 1), (3, .share, .ptr 64 0 0 1), (5, .share, .sc (.int .i64 i.1))])
      (fun i => [(48, .box x.enc), (64, .box y.enc)]) (fun i => x.Bodies.length - i.1) ⟨0, by omega, rfl⟩ ?_ ?_
    · refine weakE_of [] [] (by simp) (by simp [assoc]) (by simp) ?_
      simp only [go_sem, reduceIte, Nat.reduceEqDiff, reduceCtorEq, Nat.reduceAdd, Nat.reduceLeDiff, Nat.reduceMul, Nat.reduceSub, Int.reduceToNat]
    · rintro ⟨i, hi, ht⟩
      simp only [c_r25_Equalb0, Joint.beq, PairKey.beq, go_sem, reduceIte, Nat.reduceEqDiff, reduceCtorEq, Nat.reduceAdd, Nat.reduceLeDiff, Nat.reduceMul, Nat.reduceSub, Int.reduceToNat]
      split
      · rename_i hlt
        have hlt : i < x.Bodies.length := by omega
        have hltm : i < y.Bodies.length := by omega
        refine ⟨(by (repeat' (with_reducible apply And.intro)) <;> first | omega | (simp only [maxLen]; omega)), (by (repeat' (with_reducible apply And.intro)) <;> first | omega | (simp only [maxLen]; omega)), ?_⟩
        refine CallGi_flat (s_r23_Equal (x.Bodies.getD i default) (y.Bodies.getD i default) (h5 _ (mem_getD _ hlt))) rfl ?_
        simp only [go_sem, reduceIte, Nat.reduceEqDiff, reduceCtorEq, Nat.reduceAdd, Nat.reduceLeDiff, Nat.reduceMul, Nat.reduceSub, Int.reduceToNat]
        by_cases he : x.Bodies.getD i default = y.Bodies.getD i default
        · rw [if_neg (by rw [he]; simp)]
          refine loop_next ⟨i + 1, by omega, l_take_succ default ht hlt hltm he⟩ (by show x.Bodies.length - (i + 1) < x.Bodies.length - i; omega) (weakE_of [] [] (by simp) (by simp [assoc]) (by simp) ?_)
          simp only [go_sem, reduceIte, Nat.reduceEqDiff, reduceCtorEq, Nat.reduceAdd, Nat.reduceLeDiff, Nat.reduceMul, Nat.reduceSub, Int.reduceToNat]
          exact (by rw [IntKind.wrap_i64]; omega)
        · rw [if_pos (decide_eq_false he)]
          exact (decide_eq_false fun e => he (by rw [e])).symm
      · rename_i hge
        have hil : i = x.Bodies.length := by omega
        subst hil
        have p0 := l_eq_of l0 ht
        clear ht hi hge
        have l1 : x.Joints.length = y.Joints.length := by omega
        refine Wpi_loop hm (ι := {i : Nat // i ≤ x.Joints.length ∧ x.Joints.take i = y.Joints.take i}) (fun i => [(2, .share, .ptr 48 0 0 1), (3, .share, .ptr 64 0 0 1), (6, .share, .sc (.int .i64 i.1))])
          (fun i => [(48, .box x.enc), (64, .box y.enc)]) (fun i => x.Joints.length - i.1) ⟨0, by omega, rfl⟩ ?_ ?_
        · refine weakE_of [] [] (by simp) (by simp [assoc]) (by simp) ?_
          simp only [go_sem, reduceIte, Nat.reduceEqDiff, reduceCtorEq, Nat.reduceAdd, Nat.reduceLeDiff, Nat.reduceMul, Nat.reduceSub, Int.reduceToNat]
        · rintro ⟨i, hi, ht⟩
          simp only [c_r25_Equalb1, Joint.beq, PairKey.beq, go_sem, reduceIte, Nat.reduceEqDiff, reduceCtorEq, Nat.reduceAdd, Nat.reduceLeDiff, Nat.reduceMul, Nat.reduceSub, Int.reduceToNat]
          split
          · rename_i hlt
            have hlt : i < x.Joints.length := by omega
            have hltm : i < y.Joints.length := by omega
            refine ⟨(by (repeat' (with_reducible apply And.intro)) <;> first | omega | (simp only [maxLen]; omega)), (by (repeat' (with_reducible apply And.intro)) <;> first | omega | (simp only [maxLen]; omega)), ?_⟩
            by_cases he : x.Joints.getD i default = y.Joints.getD i default
            · rw [if_neg (by rw [he]; simp)]
              refine loop_next ⟨i + 1, by omega, l_take_succ default ht hlt hltm he⟩ (by show x.Joints.length - (i + 1) < x.Joints.length - i; omega) (weakE_of [] [] (by simp) (by simp [assoc]) (by simp) ?_)
              simp only [go_sem, reduceIte, Nat.reduceEqDiff, reduceCtorEq, Nat.reduceAdd, Nat.reduceLeDiff, Nat.reduceMul, Nat.reduceSub, Int.reduceToNat]
              exact (by rw [IntKind.wrap_i64]; omega)
            · rw [if_pos (decide_eq_false he)]
              exact (decide_eq_false fun e => he (by rw [e])).symm
          · rename_i hge
            have hil : i = x.Joints.length := by omega
            subst hil
            have p1 := l_eq_of l1 ht
            clear ht hi hge
            have l2 : x.Contacts.length = y.Contacts.length := by omega
            refine Wpi_loop hm (ι := {i : Nat // i ≤ x.Contacts.length ∧ x.Contacts.take i = y.Contacts.take i}) (fun i => [(2, .share, .ptr 48 0 0 1), (3, .share, .ptr 64 0 0 1), (7, .share, .sc (.int .i64 i.1))])
              (fun i => [(48, .box x.enc), (64, .box y.enc)]) (fun i => x.Contacts.length - i.1) ⟨0, by omega, rfl⟩ ?_ ?_
            · refine weakE_of [] [] (by simp) (by simp [assoc]) (by simp) ?_
              simp only [go_sem, reduceIte, Nat.reduceEqDiff, reduceCtorEq, Nat.reduceAdd, Nat.reduceLeDiff, Nat.reduceMul, Nat.reduceSub, Int.reduceToNat]
            · rintro ⟨i, hi, ht⟩
              simp only [c_r25_Equalb2, Joint.beq, PairKey.beq, go_sem, reduceIte, Nat.reduceEqDiff, reduceCtorEq, Nat.reduceAdd, Nat.reduceLeDiff, Nat.reduceMul, Nat.reduceSub, Int.reduceToNat]
              split
              · rename_i hlt
                have hlt : i < x.Contacts.length := by omega
                have hltm : i < y.Contacts.length := by omega
                refine ⟨(by (repeat' (with_reducible apply And.intro)) <;> first | omega | (simp only [maxLen]; omega)), (by (repeat' (with_reducible apply And.intro)) <;> first | omega | (simp only [maxLen]; omega)), ?_⟩
                refine ⟨(by (repeat' (with_reducible apply And.intro)) <;> first | omega | (simp only [maxLen]; omega)), (by (repeat' (with_reducible apply And.intro)) <;> first | omega | (simp only [maxLen]; omega)), ?_⟩
                refine CallGi_flat (s_r16_Equal (x.Contacts.getD i default).Manifold (y.Contacts.getD i default).Manifold (h6 _ (mem_getD _ hlt))) rfl ?_
                simp only [go_sem, reduceIte, Nat.reduceEqDiff, reduceCtorEq, Nat.reduceAdd, Nat.reduceLeDiff, Nat.reduceMul, Nat.reduceSub, Int.reduceToNat]
                by_cases he : x.Contacts.getD i default = y.Contacts.getD i default
                · rw [if_neg (by rw [he]; simp)]
                  refine loop_next ⟨i + 1, by omega, l_take_succ default ht hlt hltm he⟩ (by show x.Contacts.length - (i + 1) < x.Contacts.length - i; omega) (weakE_of [] [] (by simp) (by simp [assoc]) (by simp) ?_)
                  simp only [go_sem, reduceIte, Nat.reduceEqDiff, reduceCtorEq, Nat.reduceAdd, Nat.reduceLeDiff, Nat.reduceMul, Nat.reduceSub, Int.reduceToNat]
                  exact (by rw [IntKind.wrap_i64]; omega)
                · rw [if_pos (by
                    by_cases hk : (x.Contacts.getD i default).Key = (y.Contacts.getD i default).Key
                    · by_cases hm2 : (x.Contacts.getD i default).Manifold = (y.Contacts.getD i default).Manifold
                      · exact absurd (by generalize x.Contacts.getD i default = a at *; generalize y.Contacts.getD i default = b at *; cases a; cases b; simp only at hk hm2; rw [hk, hm2]) he
                      · simp only [hm2, decide_false, Bool.not_false, Bool.or_true]
                    · simp only [hk, decide_false, Bool.not_false, Bool.true_or])]
                  exact (decide_eq_false fun e => he (by rw [e])).symm
              · rename_i hge
                have hil : i = x.Contacts.length := by omega
                subst hil
                have p2 := l_eq_of l2 ht
                clear ht hi hge
                exact (decide_eq_true (by obtain ⟨a1, a2, a3, a4, a5, a6, a7⟩ := x; obtain ⟨b1, b2, b3, b4, b5, b6, b7⟩ := y; simp only at e1 e2 e3 e7 p0 p1 p2; subst e1 e2 e3 e7 p0 p1 p2; rfl)).symm

end Go.Abs
