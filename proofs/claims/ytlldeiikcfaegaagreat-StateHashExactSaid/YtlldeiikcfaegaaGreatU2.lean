/- A part of the walk: contracts of functions that the statement reaches. -/
import Derived.Test.YtlldeiikcfaegaaGreatAbsC
import Derived.Test.YtlldeiikcfaegaaGreatU1
set_option linter.unusedSimpArgs false
set_option linter.unusedVariables false
set_option linter.unnecessarySimpa false
set_option maxRecDepth 100000
set_option maxHeartbeats 2000000
set_option linter.unusedSimpArgs false
set_option linter.unusedVariables false
namespace Go.Abs
open Go.Proofs
open Api
theorem point_eq (v : Vec) (m : Int) : d_joint_pointInRange v m = d_r24_inSquare v m := rfl
theorem limitsR_eq (j : Joint) : ((inR j.Lower (d_joint_limitRange j.Kind).1 (d_joint_limitRange j.Kind).2) && (inR j.Upper (d_joint_limitRange j.Kind).1 (d_joint_limitRange j.Kind).2) && (decide (j.Lower ≤ j.Upper))) = d_r24_limitsValid j := by
  unfold d_joint_limitRange d_r24_limitsValid inR
  by_cases h1 : j.Kind = 1 <;> by_cases h2 : j.Kind = 2 <;> simp [h1, h2] <;> grind
theorem numbers_eq (j : Joint) : d_joint_numbersInRange j = d_r24_rangesValid j := by
  unfold d_joint_numbersInRange d_r24_rangesValid
  have hL : d_joint_numbersInRange_L1 j = d_r24_rangesValid_L1 j := rfl
  have hL2 : d_joint_numbersInRange_L2 j = d_r24_rangesValid_L2 j := rfl
  rw [hL, hL2]
  simp only [point_eq, ← limitsR_eq]
  cases itrE (d_r24_rangesValid_L1 j) 4 () <;> cases itrE (d_r24_rangesValid_L2 j) 4 () <;> grind
theorem joint_eq (j : Joint) : d_joint_Validate j = d_r24_Validate j := by
  unfold d_joint_Validate d_r24_Validate
  simp only [numbers_eq]
  split
  · rfl
  rename_i hk
  split
  · rfl
  unfold d_joint_validBodies d_joint_inconsistent
  have hk : j.Kind = 1 ∨ j.Kind = 2 ∨ j.Kind = 3 ∨ j.Kind = 4 ∨ j.Kind = 5 := by simp at hk; omega
  rcases hk with hk | hk | hk | hk | hk <;> simp [hk] <;> grind
theorem rng_1 (j : Joint) : itrE (d_r24_rangesValid_L1 j) 4 () = if ((List.range 4).any (fun i => !(inR ([j.Impulses.I0, j.Impulses.I1, j.Impulses.I2, j.Impulses.I3].getD i 0) (-536870911) 536870911))) = true then .inr false else .inl () :=
  itrE_all (r := false) (p := fun i => !(inR ([j.Impulses.I0, j.Impulses.I1, j.Impulses.I2, j.Impulses.I3].getD i 0) (-536870911) 536870911)) (fun i => by simp only [d_r24_rangesValid_L1]; cases inR ([j.Impulses.I0, j.Impulses.I1, j.Impulses.I2, j.Impulses.I3].getD i 0) (-536870911) 536870911 <;> rfl) 4
theorem rng_2 (j : Joint) : itrE (d_r24_rangesValid_L2 j) 4 () = if ((List.range 4).any (fun i => !(inR ([j.Impulses.I0, j.Impulses.I1, j.Impulses.I2, j.Impulses.I3].getD i 0) (-536870911) 536870911))) = true then .inr false else .inl () := rng_1 j
theorem joint_ids {j : Joint} (h : d_r24_Validate j = 0) : 1 ≤ j.ID ∧ 1 ≤ j.BodyB ∧ (j.Kind = 5 → j.BodyA = 0) ∧ (j.Kind ≠ 5 → 1 ≤ j.BodyA) := by
  unfold d_r24_Validate at h
  split at h
  · cases h
  simp only [] at h
  split at h
  · cases h
  rename_i hr
  split at h
  · cases h
  rename_i hb
  have hid : 1 ≤ j.ID := by
    unfold d_r24_rangesValid at hr
    rw [rng_1, rng_2] at hr
    revert hr
    generalize (List.range 4).any (fun i => !(inR ([j.Impulses.I0, j.Impulses.I1, j.Impulses.I2, j.Impulses.I3].getD i 0) (-536870911) 536870911)) = q
    cases q <;> simp [inR] <;> grind
  unfold inR at hb
  refine ⟨hid, ?_⟩
  grind
theorem conn_eq (w : Api.World) {j : Joint} (hj : d_r24_Validate j = 0) : d_world_bodiesExist w j = d_r25_connected w j := by
  obtain ⟨_, h1, h2, h3⟩ := joint_ids hj
  unfold d_world_bodiesExist d_r25_connected
  simp only []
  have hb : (j.BodyB == 0) = false := by simp; omega
  rw [hb]
  by_cases hk : j.Kind = 5
  · simp [hk, h2 hk]
  · have ha : (j.BodyA == 0) = false := by have := h3 hk; simp; omega
    have hk' : (j.Kind == 5) = false := by simpa using hk
    rw [ha, hk']
    cases decide (0 ≤ findB w j.BodyA) <;> cases decide (0 ≤ findB w j.BodyB) <;> rfl
theorem itrE_congr0 {S R : Type} {f g : Nat → S → S ⊕ R} {s0 : S} (h : ∀ i s, (i = 0 → s = s0) → f i s = g i s) : ∀ n, itrE f n s0 = itrE g n s0
  | 0 => rfl
  | n + 1 => by
    have ih := itrE_congr0 h n
    simp only [itrE, ih]
    cases hn : itrE g n s0 with
    | inr r => rfl
    | inl s =>
      refine h n s fun h0 => ?_
      subst h0
      simp only [itrE] at hn
      injection hn with hn; exact hn.symm
theorem body_id {b : Body} (h : d_r23_Validate b = 0) : 1 ≤ b.ID := by
  unfold d_r23_Validate at h
  split at h
  · cases h
  simp only [] at h
  split at h
  · cases h
  rename_i hr
  unfold d_r23_inRange inR at hr
  grind
theorem bodies_eq (w : Api.World) : d_world_validBodies w = d_r25_validBodies w := by
  unfold d_world_validBodies d_r25_validBodies
  rw [itrE_congr0 (f := d_world_validBodies_L1 w) (g := d_r25_validBodies_L1 w)]
  intro i s hi
  simp only [d_world_validBodies_L1, d_r25_validBodies_L1, body_eq]
  by_cases hv : d_r23_Validate (w.Bodies.getD i default) = 0
  · have hid := body_id hv
    by_cases h0 : i = 0
    · have := hi h0
      subst this
      have e : decide ((w.Bodies.getD i default).ID ≤ 0) = false := by rw [decide_eq_false_iff_not]; omega
      rw [e, Bool.and_false]
    · have e : decide (0 < (i : Int)) = true := by rw [decide_eq_true_iff]; omega
      rw [e, Bool.true_and]
  · have e : (d_r23_Validate (w.Bodies.getD i default) != 0) = true := by simpa using hv
    rw [e]; simp
theorem joints_eq (w : Api.World) : d_world_validJoints w = d_r25_validJoints w := by
  unfold d_world_validJoints d_r25_validJoints
  rw [itrE_congr0 (f := d_world_validJoints_L1 w) (g := d_r25_validJoints_L1 w)]
  intro i s hi
  simp only [d_world_validJoints_L1, d_r25_validJoints_L1, joint_eq]
  by_cases hv : d_r24_Validate (w.Joints.getD i default) = 0
  · have hid := (joint_ids hv).1
    rw [conn_eq w hv]
    by_cases h0 : i = 0
    · have := hi h0
      subst this
      have e : decide ((w.Joints.getD i default).ID ≤ 0) = false := by rw [decide_eq_false_iff_not]; omega
      rw [e, Bool.and_false]
    · have e : decide (0 < (i : Int)) = true := by rw [decide_eq_true_iff]; omega
      rw [e, Bool.true_and]
  · have e : (d_r24_Validate (w.Joints.getD i default) != 0) = true := by simpa using hv
    rw [e]; simp

end Go.Abs
