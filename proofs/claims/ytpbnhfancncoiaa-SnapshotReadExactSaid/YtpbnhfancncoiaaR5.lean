/- A part of the walk: contracts of functions that the statement reaches. -/
import Derived.Test.YtpbnhfancncoiaaAbsD
import Derived.Test.YtpbnhfancncoiaaG8
import Derived.Test.YtpbnhfancncoiaaF9
import Derived.Test.YtpbnhfancncoiaaX6
set_option linter.unusedSimpArgs false
set_option linter.unusedVariables false
set_option linter.unnecessarySimpa false
set_option maxRecDepth 100000
set_option maxHeartbeats 2000000
set_option linter.unusedSimpArgs false
set_option linter.unusedVariables false
namespace Go.Abs
open Go.Proofs
open Api
theorem rN_all {α : Type} {p : Int → Except Int (α × Int)} {Q : α → Prop} (hp : ∀ t x t', p t = .ok (x, t') → Q x) (t : Int) : ∀ n l t', rN p t n = .ok (l, t') → ∀ x ∈ l, Q x
  | 0, l, t', h, x, hx => by cases h; cases hx
  | n + 1, l, t', h, x, hx => by
    simp only [rN] at h
    split at h
    · cases h
    · rename_i y hy
      split at h
      · cases h
      · rename_i z hz
        cases h
        rcases List.mem_append.1 hx with hx | hx
        · exact rN_all hp t n _ _ hy x hx
        · obtain rfl := List.mem_singleton.1 hx
          exact hp _ _ _ hz
theorem rSl_all {α : Type} {p : Int → Except Int (α × Int)} {b : List Int} {Q : α → Prop} (hp : ∀ t x t', p t = .ok (x, t') → Q x) {t t' : Int} {l : List α} (h : rSl p b t = .ok (l, t')) : (∀ x ∈ l, Q x) ∧ l.length ≤ 8192 := by
  unfold rSl at h
  split at h
  · cases h
  · rename_i x hx
    obtain ⟨h1, h2, h3⟩ := rLen_ok hx
    have hl := rN_len h
    simp only at hl
    exact ⟨rN_all hp _ _ _ _ h, by omega⟩
theorem rFixture_sm {b : List Int} {t t' : Int} {x : Fixture} (h : rFixture b t = .ok (x, t')) : Fixture.sm x := by
  unfold rFixture at h
  obtain ⟨x0, t0, h0, h⟩ := RB_ok h
  obtain ⟨x1, t1, h1, h⟩ := RB_ok h
  obtain ⟨x2, t2, h2, h⟩ := RB_ok h
  obtain ⟨x3, t3, h3, h⟩ := RB_ok h
  obtain ⟨x4, t4, h4, h⟩ := RB_ok h
  obtain ⟨x5, t5, h5, h⟩ := RB_ok h
  obtain ⟨x6, t6, h6, h⟩ := RB_ok h
  obtain ⟨x7, t7, h7, h⟩ := RB_ok h
  obtain ⟨x8, t8, h8, h⟩ := RB_ok h
  obtain ⟨x9, t9, h9, h⟩ := RB_ok h
  cases h
  have := (rSl_all (Q := fun _ => True) (fun _ _ _ _ => trivial) h2).2
  show x2.length ≤ 1048576
  omega
theorem rBody_sm {b : List Int} {t t' : Int} {x : Body} (h : rBody b t = .ok (x, t')) : Body.sm x := by
  unfold rBody at h
  obtain ⟨x0, t0, h0, h⟩ := RB_ok h
  obtain ⟨x1, t1, h1, h⟩ := RB_ok h
  obtain ⟨x2, t2, h2, h⟩ := RB_ok h
  obtain ⟨x3, t3, h3, h⟩ := RB_ok h
  obtain ⟨x4, t4, h4, h⟩ := RB_ok h
  obtain ⟨x5, t5, h5, h⟩ := RB_ok h
  obtain ⟨x6, t6, h6, h⟩ := RB_ok h
  obtain ⟨x7, t7, h7, h⟩ := RB_ok h
  obtain ⟨x8, t8, h8, h⟩ := RB_ok h
  obtain ⟨x9, t9, h9, h⟩ := RB_ok h
  obtain ⟨x10, t10, h10, h⟩ := RB_ok h
  obtain ⟨x11, t11, h11, h⟩ := RB_ok h
  obtain ⟨x12, t12, h12, h⟩ := RB_ok h
  obtain ⟨x13, t13, h13, h⟩ := RB_ok h
  obtain ⟨x14, t14, h14, h⟩ := RB_ok h
  obtain ⟨x15, t15, h15, h⟩ := RB_ok h
  obtain ⟨x16, t16, h16, h⟩ := RB_ok h
  cases h
  obtain ⟨k1, k2⟩ := rSl_all (Q := Fixture.sm) (fun _ _ _ h => rFixture_sm h) h16
  exact ⟨by show x16.length ≤ 1048576; omega, k1⟩
theorem rContact_sm {b : List Int} {t t' : Int} {x : Contact} (h : rContact b t = .ok (x, t')) : Manifold.sm x.Manifold := by
  unfold rContact at h
  obtain ⟨x0, t0, h0, h⟩ := RB_ok h
  obtain ⟨x1, t1, h1, h⟩ := RB_ok h
  obtain ⟨x2, t2, h2, h⟩ := RB_ok h
  cases h
  have := (rSl_all (Q := fun _ => True) (fun _ _ _ _ => trivial) h2).2
  show x2.length ≤ 1048576
  omega
theorem s_r27_EqualManifolds (x y : Manifold) (h : Manifold.sm x) : CallsA Try.prog F_r27_EqualManifolds [.agg x.enc, .agg y.enc] [] (.sc (.bool (decide (x = y)))) [] := by
  unfold Manifold.sm at h
  refine callsI_of (rs := [_]) hm Try.func20 (by kernel_rfl) (by kernel_rfl) is_r27_EqualManifolds (by kernel_rfl : tmpsOf Try.f20.results.toList = some [4]) (by decide) (by kernel_rfl) ?_
  simp only [c_r27_EqualManifolds, Vec.beq, go_sem, ↓reduceIte, Nat.reduceEqDiff, reduceCtorEq, Nat.reduceAdd, Nat.reduceLeDiff, Nat.reduceMul, Nat.reduceSub, Int.reduceToNat]
  split
  · rename_i hc
    exact (decide_eq_false fun e => by subst e; simp at hc).symm
  · rename_i hc
    simp at hc
    obtain ⟨hn, hlen⟩ := hc
    have hlen : x.Points.length = y.Points.length := by omega
    refine Wpi_loop hm (ι := {i : Nat // i ≤ x.Points.length ∧ x.Points.take i = y.Points.take i}) (fun i => [(2, .share, .ptr 48 0 0 1), (3, .share, .ptr 64 0 0 1), (5, .share, .sc (.int .i64 i.1))])
      (fun i => [(48, .box x.enc), (64, .box y.enc)]) (fun i => x.Points.length - i.1) ⟨0, by omega, rfl⟩ ?_ ?_
    · refine weakE_of [] [] (by simp) (by simp [assoc]) (by simp) ?_
      simp only [go_sem, ↓reduceIte, Nat.reduceEqDiff, reduceCtorEq, Nat.reduceAdd, Nat.reduceLeDiff, Nat.reduceMul, Nat.reduceSub, Int.reduceToNat]
    · rintro ⟨i, hi, ht⟩
      simp only [c_r27_EqualManifoldsb0, ContactPoint.beq, go_sem, ↓reduceIte, Nat.reduceEqDiff, reduceCtorEq, Nat.reduceAdd, Nat.reduceLeDiff, Nat.reduceMul, Nat.reduceSub, Int.reduceToNat]
      split
      · rename_i hlt
        have hlt : i < x.Points.length := by omega
        have hltm : i < y.Points.length := by omega
        refine ⟨(by (repeat' (with_reducible apply And.intro)) <;> first | omega | (simp only [maxLen]; omega)), (by (repeat' (with_reducible apply And.intro)) <;> first | omega | (simp only [maxLen]; omega)), ?_⟩
        by_cases he : x.Points.getD i default = y.Points.getD i default
        · rw [if_neg (by rw [decide_eq_true he]; simp)]
          refine loop_next ⟨i + 1, by omega, l_take_succ default ht hlt hltm he⟩ (by show x.Points.length - (i + 1) < x.Points.length - i; omega) (weakE_of [] [] (by simp) (by simp [assoc]) (by simp) ?_)
          simp only [go_sem, ↓reduceIte, Nat.reduceEqDiff, reduceCtorEq, Nat.reduceAdd, Nat.reduceLeDiff, Nat.reduceMul, Nat.reduceSub, Int.reduceToNat]
          exact (by rw [IntKind.wrap_i64]; omega)
        · rw [if_pos (decide_eq_false he)]
          exact (decide_eq_false fun e => he (by rw [e])).symm
      · rename_i hge
        have hil : i = x.Points.length := by omega
        subst hil
        have hp := l_eq_of hlen ht
        exact (decide_eq_true (by obtain ⟨a, b⟩ := x; obtain ⟨c, d⟩ := y; simp only at hn hp; rw [hn, hp])).symm
theorem t3d_sm {α : Type} [Inhabited α] {Q : α → Prop} {r : Except Int (α × Int)} (h : ∀ x t, r = .ok (x, t) → Q x) (h0 : Q default) : Q (t3d r).1 := by
  cases r with
  | ok x => exact h _ _ rfl
  | error e => exact h0
theorem i_beq (a : Int) : (a == a) = true := by simp
theorem i_bne (a : Int) : (a != a) = false := by simp
theorem b_beq (a : Bool) : (a == a) = true := by simp
theorem dec_refl {α : Type} [DecidableEq α] (a : α) : decide (a = a) = true := by simp
theorem s_law45_SnapshotReadExact (b : List Int) (at' : Int) (hB : bytes b) : CallsA Try.prog F_law45_SnapshotReadExact [encD 1 encU8 0 b, .sc (.int .i64 at')] [] (.sc (.bool true)) [] := by
  refine callsI_of (rs := [_]) hm Try.func4 (by kernel_rfl) (by kernel_rfl) is_law45_SnapshotReadExact (by kernel_rfl : tmpsOf Try.f4.results.toList = some [4]) (by decide) (by kernel_rfl) ?_
  simp only [c_law45_SnapshotReadExact, go_sem, ↓reduceIte, Nat.reduceEqDiff, reduceCtorEq, Nat.reduceAdd, Nat.reduceLeDiff, Nat.reduceMul, Nat.reduceSub, Int.reduceToNat]
  by_cases h2 : (600 : Int) < (b.length : Int)
  · rw [if_pos h2]
    refine CallGi_flat s_law45_example rfl ?_
    simp only [go_sem, ↓reduceIte, Nat.reduceEqDiff, reduceCtorEq, Nat.reduceAdd, Nat.reduceLeDiff, Nat.reduceMul, Nat.reduceSub, Int.reduceToNat]
  rw [if_neg h2]
  have hb : b.length ≤ 549755813888 := by omega
  refine CallGi_flat (s_ReadBody b at' hb hB) rfl ?_
  simp only [go_sem, ↓reduceIte, Nat.reduceEqDiff, reduceCtorEq, Nat.reduceAdd, Nat.reduceLeDiff, Nat.reduceMul, Nat.reduceSub, Int.reduceToNat]
  refine CallGi_flat (s_r45_ReadBody b at' hb hB) rfl ?_
  have q1 : Body.sm (t3d (rBody b at')).1 := t3d_sm (Q := Body.sm) (fun _ _ h => rBody_sm h) ⟨by decide, fun _ h => by cases h⟩
  generalize t3d (rBody b at') = y1 at *
  simp only [go_sem, ↓reduceIte, Nat.reduceEqDiff, reduceCtorEq, Nat.reduceAdd, Nat.reduceLeDiff, Nat.reduceMul, Nat.reduceSub, Int.reduceToNat]
  refine CallGi_flat (s_r23_Equal _ _ q1) rfl ?_
  simp only [dec_refl, i_bne, go_sem, ↓reduceIte, Nat.reduceEqDiff, reduceCtorEq, Nat.reduceAdd, Nat.reduceLeDiff, Nat.reduceMul, Nat.reduceSub, Int.reduceToNat]
  refine CallGi_flat (s_ReadJoint b at' hb hB) rfl ?_
  simp only [go_sem, ↓reduceIte, Nat.reduceEqDiff, reduceCtorEq, Nat.reduceAdd, Nat.reduceLeDiff, Nat.reduceMul, Nat.reduceSub, Int.reduceToNat]
  refine CallGi_flat (s_r45_ReadJoint b at' hb hB) rfl ?_
  generalize t3d (rJoint b at') = y2 at *
  simp only [i_beq, b_beq, i_bne, Bool.not_true, go_sem, ↓reduceIte, Nat.reduceEqDiff, reduceCtorEq, Nat.reduceAdd, Nat.reduceLeDiff, Nat.reduceMul, Nat.reduceSub, Int.reduceToNat]
  refine CallGi_flat (s_ReadContact b at' hb hB) rfl ?_
  simp only [go_sem, ↓reduceIte, Nat.reduceEqDiff, reduceCtorEq, Nat.reduceAdd, Nat.reduceLeDiff, Nat.reduceMul, Nat.reduceSub, Int.reduceToNat]
  refine CallGi_flat (s_r45_ReadContact b at' hb hB) rfl ?_
  have q3 : Manifold.sm (t3d (rContact b at')).1.Manifold := t3d_sm (Q := fun c => Manifold.sm c.Manifold) (fun _ _ h => rContact_sm h) (Nat.zero_le _)
  generalize t3d (rContact b at') = y3 at *
  simp only [i_beq, b_beq, i_bne, go_sem, ↓reduceIte, Nat.reduceEqDiff, reduceCtorEq, Nat.reduceAdd, Nat.reduceLeDiff, Nat.reduceMul, Nat.reduceSub, Int.reduceToNat]
  refine CallGi_flat (s_r27_EqualManifolds _ _ q3) rfl ?_
  simp only [dec_refl, i_beq, i_bne, go_sem, ↓reduceIte, Nat.reduceEqDiff, reduceCtorEq, Nat.reduceAdd, Nat.reduceLeDiff, Nat.reduceMul, Nat.reduceSub, Int.reduceToNat]
  refine CallGi_flat s_law45_example rfl ?_
  simp only [go_sem, ↓reduceIte, Nat.reduceEqDiff, reduceCtorEq, Nat.reduceAdd, Nat.reduceLeDiff, Nat.reduceMul, Nat.reduceSub, Int.reduceToNat]
theorem bytes_of {b : List Int} (h : ∀ a ∈ b, (Lit.int .u8 a).wf = true) : bytes b := fun a ha => by
  have h := h a ha
  simp only [Lit.wf, IntKind.min, IntKind.max, Bool.and_eq_true, decide_eq_true_eq] at h
  simp [IntKind.bits, IntKind.signed] at h
  omega

end Go.Abs
