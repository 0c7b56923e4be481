/- A part of the walk: contracts of functions that the statement reaches. -/
import Derived.Test.YtpbnhfancncoiaaAbsD
import Derived.Test.YtpbnhfancncoiaaX3
set_option linter.unusedSimpArgs false
set_option linter.unusedVariables false
set_option linter.unnecessarySimpa false
set_option maxRecDepth 100000
set_option maxHeartbeats 2000000
set_option linter.unusedSimpArgs false
set_option linter.unusedVariables false
namespace Go.Abs
open Go.Proofs
open Api
theorem l_take_succ {α : Type} {l m : List α} {i : Nat} (d : α) (h : l.take i = m.take i) (hl : i < l.length) (hm : i < m.length) (he : l.getD i d = m.getD i d) : l.take (i + 1) = m.take (i + 1) := by
  rw [take_snoc d hl, take_snoc d hm, h, he]
theorem l_eq_of {α : Type} {l m : List α} (hlen : l.length = m.length) (h : l.take l.length = m.take l.length) : l = m := by
  rw [List.take_length] at h; rw [hlen, List.take_length] at h; exact h
theorem l_ne_of {α : Type} {l m : List α} {i : Nat} (d : α) (h : l.getD i d ≠ m.getD i d) : l ≠ m := fun e => h (by rw [e])
theorem l_ne_len {α : Type} {l m : List α} (h : l.length ≠ m.length) : l ≠ m := fun e => h (by rw [e])
theorem Vec.beq (x y : Vec) : (x.X == y.X && x.Y == y.Y) = decide (x = y) := by
  cases x; cases y; rw [Bool.eq_iff_iff]; simp
theorem PairKey.beq (x y : PairKey) : (x.BodyA == y.BodyA && (x.FixtureA == y.FixtureA && (x.BodyB == y.BodyB && x.FixtureB == y.FixtureB))) = decide (x = y) := by
  cases x; cases y; rw [Bool.eq_iff_iff]; simp
theorem ContactPoint.beq (x y : ContactPoint) : (x.Point.X == y.Point.X && (x.Point.Y == y.Point.Y && (x.Separation == y.Separation && (x.ID == y.ID && (x.NormalImpulse == y.NormalImpulse && x.TangentImpulse == y.TangentImpulse))))) = decide (x = y) := by
  obtain ⟨⟨a, b⟩, c, d, e, f⟩ := x; obtain ⟨⟨a', b'⟩, c', d', e', f'⟩ := y; rw [Bool.eq_iff_iff]; simp [and_assoc]

theorem s_r12_EqualVecs (l m : List Vec) (hl : l.length ≤ 1048576) : CallsA Try.prog F_r12_EqualVecs [encD 2 Vec.enc default l, encD 2 Vec.enc default m] [] (.sc (.bool (decide (l = m)))) [] := by
  refine callsI_of (rs := [_]) hm Try.func80 (by kernel_rfl) (by kernel_rfl) is_r12_EqualVecs (by kernel_rfl : tmpsOf Try.f80.results.toList = some [4]) (by decide) (by kernel_rfl) ?_
  simp only [c_r12_EqualVecs, go_sem]
  split
  · rename_i hne
    exact (decide_eq_false (l_ne_len fun e => by rw [e] at hne; simp at hne)).symm
  · rename_i hne
    have hlen : l.length = m.length := by simp at hne; omega
    refine Wpi_loop hm (ι := {i : Nat // i ≤ l.length ∧ l.take i = m.take i}) (fun i => [(0, .share, encD 2 Vec.enc default l), (1, .share, encD 2 Vec.enc default m), (5, .share, .sc (.int .i64 i.1))])
      (fun i => []) (fun i => l.length - i.1) ⟨0, by omega, rfl⟩ ?_ ?_
    · refine weakE_of [] [] (by simp) (by simp [assoc]) (by simp) ?_
      simp only [go_sem]
    · rintro ⟨i, hi, ht⟩
      simp only [c_r12_EqualVecsb0, Vec.beq, go_sem]
      split
      · rename_i hlt
        have hlt : i < l.length := by omega
        have hltm : i < m.length := by omega
        refine ⟨ok_, ok_, ?_⟩
        by_cases he : l.getD i default = m.getD i default
        · rw [if_neg (by rw [decide_eq_true he]; simp)]
          refine loop_next ⟨i + 1, by omega, l_take_succ default ht hlt hltm he⟩ (by show l.length - (i + 1) < l.length - i; omega) (weakE_ [] [] ?_)
          simp only [go_sem]
          exact (by rw [IntKind.wrap_i64]; omega)
        · rw [if_pos (decide_eq_false he)]
          exact (decide_eq_false (l_ne_of default he)).symm
      · rename_i hge
        have hil : i = l.length := by omega
        subst hil
        exact (decide_eq_true (l_eq_of hlen ht)).symm

theorem s_r12_Equal (x y : Shape) (h : Shape.sm x) : CallsA Try.prog F_r12_Equal [.agg x.enc, .agg y.enc] [] (.sc (.bool (decide (x = y)))) [] := by
  refine callsI_of (rs := [_]) hm Try.func60 (by kernel_rfl) (by kernel_rfl) is_r12_Equal (by kernel_rfl : tmpsOf Try.f60.results.toList = some [4]) (by decide) (by kernel_rfl) ?_
  simp only [c_r12_Equal, go_sem]
  refine CallGi_flat (s_r12_EqualVecs x.Vertices y.Vertices h) rfl ?_
  simp only [go_sem]
  cases x; cases y; rw [Bool.eq_iff_iff]; simp [and_assoc]

theorem s_r23_EqualFixture (x y : Fixture) (h : Fixture.sm x) : CallsA Try.prog F_r23_EqualFixture [.agg x.enc, .agg y.enc] [] (.sc (.bool (decide (x = y)))) [] := by
  refine callsI_of (rs := [_]) hm Try.func34 (by kernel_rfl) (by kernel_rfl) is_r23_EqualFixture (by kernel_rfl : tmpsOf Try.f34.results.toList = some [4]) (by decide) (by kernel_rfl) ?_
  simp only [c_r23_EqualFixture, go_sem]
  refine CallGi_flat (s_r12_Equal x.Shape y.Shape h) rfl ?_
  simp only [go_sem]
  cases x; cases y; rw [Bool.eq_iff_iff]; simp [and_assoc]

theorem s_r23_Equal (x y : Body) (h : Body.sm x) : CallsA Try.prog F_r23_Equal [.agg x.enc, .agg y.enc] [] (.sc (.bool (decide (x = y)))) [] := by
  have hb := h.1
  refine callsI_of (rs := [_]) hm Try.func15 (by kernel_rfl) (by kernel_rfl) is_r23_Equal (by kernel_rfl : tmpsOf Try.f15.results.toList = some [4]) (by decide) (by kernel_rfl) ?_
  simp only [c_r23_Equal, go_sem]
  split
  · rename_i hc
    exact (decide_eq_false fun e => by subst e; simp at hc).symm
  · rename_i hc
    simp at hc
    have hlen : x.Fixtures.length = y.Fixtures.length := by omega
    refine Wpi_loop hm (ι := {i : Nat // i ≤ x.Fixtures.length ∧ x.Fixtures.take i = y.Fixtures.take i}) (fun i => [(2, .share, .ptr 48 0 0 1), (3, .share, .ptr 64 0 0 1), (5, .share, .sc (.int .i64 i.1))])
      (fun i => [(48, .box x.enc), (64, .box y.enc)]) (fun i => x.Fixtures.length - i.1) ⟨0, by omega, rfl⟩ ?_ ?_
    · refine weakE_of [] [] (by simp) (by simp [assoc]) (by simp) ?_
      simp only [go_sem]
    · rintro ⟨i, hi, ht⟩
      simp only [c_r23_Equalb0, go_sem]
      by_cases hlt : i < x.Fixtures.length
      · have hltm : i < y.Fixtures.length := by omega
        rw [if_pos (by rw [if_pos (by omega)]; exact decide_eq_true (by omega))]
        refine ⟨ok_, ok_, ?_⟩
        refine CallGi_flat (s_r23_EqualFixture (x.Fixtures.getD i default) (y.Fixtures.getD i default) (h.2 _ (mem_getD _ hlt))) rfl ?_
        simp only [go_sem]
        by_cases he : x.Fixtures.getD i default = y.Fixtures.getD i default
        · rw [if_neg (by rw [decide_eq_true he]; simp)]
          refine loop_next ⟨i + 1, by omega, l_take_succ default ht hlt hltm he⟩ (by show x.Fixtures.length - (i + 1) < x.Fixtures.length - i; omega) (weakE_of [] [] (by simp) (by simp [assoc]) (by simp) ?_)
          simp only [go_sem]
          exact (by rw [IntKind.wrap_i64]; omega)
        · rw [if_pos (decide_eq_false he)]
          exact (decide_eq_false fun e => he (by rw [e])).symm
      · rw [if_neg (by rw [if_neg (by omega)]; simp)]
        have hil : i = x.Fixtures.length := by omega
        subst hil
        have hp := l_eq_of hlen ht
        split
        · rename_i hc
          exact (decide_eq_false fun e => by subst e; simp at hc).symm
        · rename_i hc2
          clear hc hlen ht hi hlt hb h
          obtain ⟨x0, x1, ⟨⟨x2, x3⟩, x4⟩, ⟨x5, x6⟩, x7, ⟨x8, x9⟩, x10, x11, x12, x13, x14, x15, x16, x17, x18, x19⟩ := x
          obtain ⟨y0, y1, ⟨⟨y2, y3⟩, y4⟩, ⟨y5, y6⟩, y7, ⟨y8, y9⟩, y10, y11, y12, y13, y14, y15, y16, y17, y18, y19⟩ := y
          simp only at hp
          subst hp
          simp at hc2
          rw [Bool.eq_iff_iff]
          simp [hc2, and_assoc]

end Go.Abs
