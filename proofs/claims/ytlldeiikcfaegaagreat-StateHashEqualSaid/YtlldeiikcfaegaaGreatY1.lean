/- A part of the walk: contracts of functions that the statement reaches. -/
import Derived.Test.YtlldeiikcfaegaaGreatAbsC
import Derived.Test.YtlldeiikcfaegaaGreatX6
import Derived.Test.YtlldeiikcfaegaaGreatHO
set_option linter.unusedSimpArgs false
set_option linter.unusedVariables false
set_option linter.unnecessarySimpa false
set_option maxRecDepth 100000
set_option maxHeartbeats 2000000
set_option linter.unusedSimpArgs false
set_option linter.unusedVariables false
namespace Go.Abs
open Go.Proofs
open Api

theorem s_slices_Equal_Vec (l m : List Vec) (hl : l.length ≤ 1048576) : CallsA Tryz.prog F_slices_Equal_Vec [encD 2 Vec.enc default l, encD 2 Vec.enc default m] [] (.sc (.bool (decide (l = m)))) [] := by
  refine callsI_of (rs := [_]) hm Tryz.func294 (by kernel_rfl) (by kernel_rfl) is_slices_Equal_Vec (by kernel_rfl : tmpsOf Tryz.f294.results.toList = some [4]) (by decide) (by kernel_rfl) ?_
  simp only [c_slices_Equal_Vec, go_sem]
  split
  · rename_i hne
    exact (decide_eq_false (l_ne_len fun e => by rw [e] at hne; simp at hne)).symm
  · rename_i hne
    have hlen : l.length = m.length := by simp at hne; omega
    refine Wpi_loop hm (ι := {i : Nat // i ≤ l.length ∧ l.take i = m.take i}) (fun i => [(0, .share, encD 2 Vec.enc default l), (1, .share, encD 2 Vec.enc default m), (12, .share, .sc (.int .i64 l.length)), (13, .share, .sc (.int .i64 i.1))])
      (fun i => []) (fun i => l.length - i.1) ⟨0, by omega, rfl⟩ ?_ ?_
    · refine weakE_of [] [] (by simp) (by simp [assoc]) (by simp) ?_
      simp only [go_sem]
      try trivial
    · rintro ⟨i, hi, ht⟩
      simp only [c_slices_Equal_Vecb0, Vec.beq, go_sem]
      split
      · rename_i hlt
        have hlt : i < l.length := by omega
        have hltm : i < m.length := by omega
        refine ⟨ok_, ok_, ?_⟩
        by_cases he : l.getD i default = m.getD i default
        · rw [if_neg (by rw [decide_eq_true he]; simp)]
          refine loop_next ⟨i + 1, by omega, l_take_succ default ht hlt hltm he⟩ (by show l.length - (i + 1) < l.length - i; omega) (weakE_ [] [] ?_)
          simp only [go_sem]
          exact (by rw [IntKind.wrap_i64]; omega)
        · rw [if_pos (by rw [decide_eq_false he])]
          exact (decide_eq_false (l_ne_of default he)).symm
      · rename_i hge
        have hil : i = l.length := by omega
        subst hil
        exact (decide_eq_true (l_eq_of hlen ht)).symm

theorem s_slices_Equal_ContactPoint (l m : List ContactPoint) (hl : l.length ≤ 1048576) : CallsA Tryz.prog F_slices_Equal_ContactPoint [encD 6 ContactPoint.enc default l, encD 6 ContactPoint.enc default m] [] (.sc (.bool (decide (l = m)))) [] := by
  refine callsI_of (rs := [_]) hm Tryz.func195 (by kernel_rfl) (by kernel_rfl) is_slices_Equal_ContactPoint (by kernel_rfl : tmpsOf Tryz.f195.results.toList = some [4]) (by decide) (by kernel_rfl) ?_
  simp only [c_slices_Equal_ContactPoint, go_sem]
  split
  · rename_i hne
    exact (decide_eq_false (l_ne_len fun e => by rw [e] at hne; simp at hne)).symm
  · rename_i hne
    have hlen : l.length = m.length := by simp at hne; omega
    refine Wpi_loop hm (ι := {i : Nat // i ≤ l.length ∧ l.take i = m.take i}) (fun i => [(0, .share, encD 6 ContactPoint.enc default l), (1, .share, encD 6 ContactPoint.enc default m), (12, .share, .sc (.int .i64 l.length)), (13, .share, .sc (.int .i64 i.1))])
      (fun i => []) (fun i => l.length - i.1) ⟨0, by omega, rfl⟩ ?_ ?_
    · refine weakE_of [] [] (by simp) (by simp [assoc]) (by simp) ?_
      simp only [go_sem]
      try trivial
    · rintro ⟨i, hi, ht⟩
      simp only [c_slices_Equal_ContactPointb0, ContactPoint.beq, go_sem]
      split
      · rename_i hlt
        have hlt : i < l.length := by omega
        have hltm : i < m.length := by omega
        refine ⟨ok_, ok_, ?_⟩
        by_cases he : l.getD i default = m.getD i default
        · rw [if_neg (by rw [decide_eq_true he]; simp)]
          refine loop_next ⟨i + 1, by omega, l_take_succ default ht hlt hltm he⟩ (by show l.length - (i + 1) < l.length - i; omega) (weakE_ [] [] ?_)
          simp only [go_sem]
          exact (by rw [IntKind.wrap_i64]; omega)
        · rw [if_pos (by rw [decide_eq_false he])]
          exact (decide_eq_false (l_ne_of default he)).symm
      · rename_i hge
        have hil : i = l.length := by omega
        subst hil
        exact (decide_eq_true (l_eq_of hlen ht)).symm

theorem s_slices_Equal_Joint (l m : List Joint) (hl : l.length ≤ 1048576) : CallsA Tryz.prog F_slices_Equal_Joint [encD 24 Joint.enc default l, encD 24 Joint.enc default m] [] (.sc (.bool (decide (l = m)))) [] := by
  refine callsI_of (rs := [_]) hm Tryz.func120 (by kernel_rfl) (by kernel_rfl) is_slices_Equal_Joint (by kernel_rfl : tmpsOf Tryz.f120.results.toList = some [4]) (by decide) (by kernel_rfl) ?_
  simp only [c_slices_Equal_Joint, go_sem]
  split
  · rename_i hne
    exact (decide_eq_false (l_ne_len fun e => by rw [e] at hne; simp at hne)).symm
  · rename_i hne
    have hlen : l.length = m.length := by simp at hne; omega
    refine Wpi_loop hm (ι := {i : Nat // i ≤ l.length ∧ l.take i = m.take i}) (fun i => [(0, .share, encD 24 Joint.enc default l), (1, .share, encD 24 Joint.enc default m), (12, .share, .sc (.int .i64 l.length)), (13, .share, .sc (.int .i64 i.1))])
      (fun i => []) (fun i => l.length - i.1) ⟨0, by omega, rfl⟩ ?_ ?_
    · refine weakE_of [] [] (by simp) (by simp [assoc]) (by simp) ?_
      simp only [go_sem]
      try trivial
    · rintro ⟨i, hi, ht⟩
      simp only [c_slices_Equal_Jointb0, Joint.beq, go_sem]
      split
      · rename_i hlt
        have hlt : i < l.length := by omega
        have hltm : i < m.length := by omega
        refine ⟨ok_, ok_, ?_⟩
        by_cases he : l.getD i default = m.getD i default
        · rw [if_neg (by rw [decide_eq_true he]; simp)]
          refine loop_next ⟨i + 1, by omega, l_take_succ default ht hlt hltm he⟩ (by show l.length - (i + 1) < l.length - i; omega) (weakE_ [] [] ?_)
          simp only [go_sem]
          exact (by rw [IntKind.wrap_i64]; omega)
        · rw [if_pos (by rw [decide_eq_false he])]
          exact (decide_eq_false (l_ne_of default he)).symm
      · rename_i hge
        have hil : i = l.length := by omega
        subst hil
        exact (decide_eq_true (l_eq_of hlen ht)).symm

theorem s_slices_Equal_PairKey (l m : List PairKey) (hl : l.length ≤ 1048576) : CallsA Tryz.prog F_slices_Equal_PairKey [encD 4 PairKey.enc default l, encD 4 PairKey.enc default m] [] (.sc (.bool (decide (l = m)))) [] := by
  refine callsI_of (rs := [_]) hm Tryz.func122 (by kernel_rfl) (by kernel_rfl) is_slices_Equal_PairKey (by kernel_rfl : tmpsOf Tryz.f122.results.toList = some [4]) (by decide) (by kernel_rfl) ?_
  simp only [c_slices_Equal_PairKey, go_sem]
  split
  · rename_i hne
    exact (decide_eq_false (l_ne_len fun e => by rw [e] at hne; simp at hne)).symm
  · rename_i hne
    have hlen : l.length = m.length := by simp at hne; omega
    refine Wpi_loop hm (ι := {i : Nat // i ≤ l.length ∧ l.take i = m.take i}) (fun i => [(0, .share, encD 4 PairKey.enc default l), (1, .share, encD 4 PairKey.enc default m), (12, .share, .sc (.int .i64 l.length)), (13, .share, .sc (.int .i64 i.1))])
      (fun i => []) (fun i => l.length - i.1) ⟨0, by omega, rfl⟩ ?_ ?_
    · refine weakE_of [] [] (by simp) (by simp [assoc]) (by simp) ?_
      simp only [go_sem]
      try trivial
    · rintro ⟨i, hi, ht⟩
      simp only [c_slices_Equal_PairKeyb0, PairKey.beq, go_sem]
      split
      · rename_i hlt
        have hlt : i < l.length := by omega
        have hltm : i < m.length := by omega
        refine ⟨ok_, ok_, ?_⟩
        by_cases he : l.getD i default = m.getD i default
        · rw [if_neg (by rw [decide_eq_true he]; simp)]
          refine loop_next ⟨i + 1, by omega, l_take_succ default ht hlt hltm he⟩ (by show l.length - (i + 1) < l.length - i; omega) (weakE_ [] [] ?_)
          simp only [go_sem]
          exact (by rw [IntKind.wrap_i64]; omega)
        · rw [if_pos (by rw [decide_eq_false he])]
          exact (decide_eq_false (l_ne_of default he)).symm
      · rename_i hge
        have hil : i = l.length := by omega
        subst hil
        exact (decide_eq_true (l_eq_of hlen ht)).symm

theorem s_shape_Equal (x y : Shape) (h : Shape.sm x) : CallsA Tryz.prog F_shape_Equal [.agg x.enc, .agg y.enc] [] (.sc (.bool (decide (x = y)))) [] := by
  refine callsI_of (rs := [_]) hm Tryz.func258 (by kernel_rfl) (by kernel_rfl) is_shape_Equal (by kernel_rfl : tmpsOf Tryz.f258.results.toList = some [4]) (by decide) (by kernel_rfl) ?_
  simp only [c_shape_Equal, go_sem]
  refine CallGi_flat (s_slices_Equal_Vec x.Vertices y.Vertices h) rfl ?_
  simp only [go_sem]
  cases x; cases y; rw [Bool.eq_iff_iff]; simp [and_assoc]
theorem s_manifold_Equal (x y : Manifold) (h : Manifold.sm x) : CallsA Tryz.prog F_manifold_Equal [.agg x.enc, .agg y.enc] [] (.sc (.bool (decide (x = y)))) [] := by
  refine callsI_of (rs := [_]) hm Tryz.func118 (by kernel_rfl) (by kernel_rfl) is_manifold_Equal (by kernel_rfl : tmpsOf Tryz.f118.results.toList = some [4]) (by decide) (by kernel_rfl) ?_
  simp only [c_manifold_Equal, Vec.beq, go_sem]
  refine CallGi_flat (s_slices_Equal_ContactPoint x.Points y.Points h) rfl ?_
  simp only [go_sem]
  cases x; cases y; rw [Bool.eq_iff_iff]; simp [and_assoc]
theorem s_body_equalFixtures (x y : Fixture) (h : Fixture.sm x) : CallsA Tryz.prog F_body_equalFixtures [.agg x.enc, .agg y.enc] [] (.sc (.bool (decide (x = y)))) [] := by
  refine callsI_of (rs := [_]) hm Tryz.func193 (by kernel_rfl) (by kernel_rfl) is_body_equalFixtures (by kernel_rfl : tmpsOf Tryz.f193.results.toList = some [4]) (by decide) (by kernel_rfl) ?_
  simp only [c_body_equalFixtures, go_sem]
  refine CallGi_flat (s_shape_Equal x.Shape y.Shape h) rfl ?_
  simp only [go_sem]
  cases x; cases y; rw [Bool.eq_iff_iff]; simp
  grind
theorem s_body_Equal (x y : Body) (h : Body.sm x) : CallsA Tryz.prog F_body_Equal [.agg x.enc, .agg y.enc] [] (.sc (.bool (decide (x = y)))) [] := by
  have hb := h.1
  refine callsI_of (rs := [_]) hm Tryz.func115 (by kernel_rfl) (by kernel_rfl) is_body_Equal (by kernel_rfl : tmpsOf Tryz.f115.results.toList = some [4]) (by decide) (by kernel_rfl) ?_
  simp only [c_body_Equal, go_sem]
  split
  · rename_i hc
    exact (decide_eq_false fun e => by subst e; simp at hc).symm
  · rename_i hc
    simp at hc
    have hlen : x.Fixtures.length = y.Fixtures.length := by omega
    refine Wpi_loop hm (ι := {i : Nat // i ≤ x.Fixtures.length ∧ x.Fixtures.take i = y.Fixtures.take i}) (fun i => [(2, .share, .ptr 48 0 0 1), (3, .share, .ptr 64 0 0 1), (21, .share, encD 10 Fixture.enc default x.Fixtures), (22, .share, .sc (.int .i64 x.Fixtures.length)), (23, .share, .sc (.int .i64 i.1))])
      (fun i => [(48, .box x.enc), (64, .box y.enc)]) (fun i => x.Fixtures.length - i.1) ⟨0, by omega, rfl⟩ ?_ ?_
    · refine weakE_of [] [] (by simp) (by simp [assoc]) (by simp) ?_
      simp only [go_sem]
      try trivial
    · rintro ⟨i, hi, ht⟩
      simp only [c_body_Equalb0, go_sem]
      by_cases hlt : i < x.Fixtures.length
      · have hltm : i < y.Fixtures.length := by omega
        rw [if_pos (by omega)]
        refine ⟨ok_, ok_, ?_⟩
        refine CallGi_flat (s_body_equalFixtures (x.Fixtures.getD i default) (y.Fixtures.getD i default) (h.2 _ (mem_getD _ hlt))) rfl ?_
        simp only [go_sem]
        by_cases he : x.Fixtures.getD i default = y.Fixtures.getD i default
        · rw [if_neg (by rw [decide_eq_true he]; simp)]
          refine loop_next ⟨i + 1, by omega, l_take_succ default ht hlt hltm he⟩ (by show x.Fixtures.length - (i + 1) < x.Fixtures.length - i; omega) (weakE_of [] [] (by simp) (by simp [assoc]) (by simp) ?_)
          simp only [go_sem]
          exact (by rw [IntKind.wrap_i64]; omega)
        · rw [if_pos (decide_eq_false he)]
          exact (decide_eq_false fun e => he (by rw [e])).symm
      · rw [if_neg (by omega)]
        have hil : i = x.Fixtures.length := by omega
        subst hil
        have hp := l_eq_of hlen ht
        clear hc hlen ht hi hlt hb h
        obtain ⟨x0, x1, ⟨⟨x2, x3⟩, x4⟩, ⟨x5, x6⟩, x7, ⟨x8, x9⟩, x10, x11, x12, x13, x14, x15, x16, x17, x18, x19⟩ := x
        obtain ⟨y0, y1, ⟨⟨y2, y3⟩, y4⟩, ⟨y5, y6⟩, y7, ⟨y8, y9⟩, y10, y11, y12, y13, y14, y15, y16, y17, y18, y19⟩ := y
        simp only at hp
        subst hp
        rw [Bool.eq_iff_iff]
        simp
        grind

end Go.Abs
