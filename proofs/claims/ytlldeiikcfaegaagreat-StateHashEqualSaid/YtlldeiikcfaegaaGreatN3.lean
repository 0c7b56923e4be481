/- A part of the walk: contracts of functions that the statement reaches. -/
import Derived.Test.YtlldeiikcfaegaaGreatAbsC
import Derived.Test.YtlldeiikcfaegaaGreatY1
import Derived.Test.YtlldeiikcfaegaaGreatX6
set_option linter.unusedSimpArgs false
set_option linter.unusedVariables false
set_option linter.unnecessarySimpa false
set_option maxRecDepth 100000
set_option maxHeartbeats 2000000
set_option linter.unusedSimpArgs false
set_option linter.unusedVariables false
namespace Go.Abs
open Go.Proofs
open Api
theorem s_world_Equal_f1 (x y : Contact) (h : Manifold.sm x.Manifold) : CallsA Tryz.prog F_world_Equal_f1 [.agg x.enc, .agg y.enc] [] (.sc (.bool (decide (x = y)))) [] := by
  refine callsI_of (rs := [_]) hm Tryz.func117 (by kernel_rfl) (by kernel_rfl) is_world_Equal_f1 (by kernel_rfl : tmpsOf Tryz.f117.results.toList = some [4]) (by decide) (by kernel_rfl) ?_
  simp only [c_world_Equal_f1, PairKey.beq, go_sem]
  refine CallGi_flat (s_manifold_Equal x.Manifold y.Manifold h) rfl ?_
  simp only [go_sem]
  cases x; cases y; rw [Bool.eq_iff_iff]; simp

theorem s_slices_EqualFunc_Body (l m : List Body) (hl : l.length ≤ 1048576) (hs : ∀ x ∈ l, Body.sm x) : CallsA Tryz.prog F_slices_EqualFunc_Body [encD 20 Body.enc default l, encD 20 Body.enc default m, .fn (.func F_body_Equal) [] []] [] (.sc (.bool (decide (l = m)))) [] := by
  refine callsI_of (rs := [_]) hm Tryz.func119 (by kernel_rfl) (by kernel_rfl) is_slices_EqualFunc_Body (by kernel_rfl : tmpsOf Tryz.f119.results.toList = some [6]) (by decide) (by kernel_rfl) ?_
  simp only [c_slices_EqualFunc_Body, go_sem]
  split
  · rename_i hne
    exact (decide_eq_false (l_ne_len fun e => by rw [e] at hne; simp at hne)).symm
  · rename_i hne
    have hlen : l.length = m.length := by simp at hne; omega
    refine Wpi_loop hm (ι := {i : Nat // i ≤ l.length ∧ l.take i = m.take i}) (fun i => [(1, .share, encD 20 Body.enc default m), (2, .share, .fn (.func F_body_Equal) [] []), (15, .share, encD 20 Body.enc default l), (16, .share, .sc (.int .i64 l.length)), (17, .share, .sc (.int .i64 i.1))])
      (fun i => []) (fun i => l.length - i.1) ⟨0, by omega, rfl⟩ ?_ ?_
    · refine weakE_of [] [] (by simp) (by simp [assoc]) (by simp) ?_
      simp only [go_sem]
      try trivial
    · rintro ⟨i, hi, ht⟩
      simp only [c_slices_EqualFunc_Bodyb0, go_sem]
      split
      · rename_i hlt
        have hlt : i < l.length := by omega
        have hltm : i < m.length := by omega
        refine ⟨ok_, ok_, ?_⟩
        refine CallGi_flat (s_body_Equal (l.getD i default) (m.getD i default) (hs _ (mem_getD default hlt))) rfl ?_
        simp only [go_sem]
        by_cases he : l.getD i default = m.getD i default
        · rw [if_neg (by rw [decide_eq_true he]; simp)]
          refine loop_next ⟨i + 1, by omega, l_take_succ default ht hlt hltm he⟩ (by show l.length - (i + 1) < l.length - i; omega) (weakE_ [] [] ?_)
          simp only [go_sem]
          exact (by rw [IntKind.wrap_i64]; omega)
        · rw [if_pos (by rw [decide_eq_false he])]
          exact (decide_eq_false (l_ne_of default he)).symm
      · rename_i hge
        have hil : i = l.length := by omega
        subst hil
        exact (decide_eq_true (l_eq_of hlen ht)).symm

theorem s_slices_EqualFunc_Contact (l m : List Contact) (hl : l.length ≤ 1048576) (hs : ∀ x ∈ l, (fun c => Manifold.sm c.Manifold) x) : CallsA Tryz.prog F_slices_EqualFunc_Contact [encD 7 Contact.enc default l, encD 7 Contact.enc default m, .fn (.func F_world_Equal_f1) [] []] [] (.sc (.bool (decide (l = m)))) [] := by
  refine callsI_of (rs := [_]) hm Tryz.func121 (by kernel_rfl) (by kernel_rfl) is_slices_EqualFunc_Contact (by kernel_rfl : tmpsOf Tryz.f121.results.toList = some [6]) (by decide) (by kernel_rfl) ?_
  simp only [c_slices_EqualFunc_Contact, go_sem]
  split
  · rename_i hne
    exact (decide_eq_false (l_ne_len fun e => by rw [e] at hne; simp at hne)).symm
  · rename_i hne
    have hlen : l.length = m.length := by simp at hne; omega
    refine Wpi_loop hm (ι := {i : Nat // i ≤ l.length ∧ l.take i = m.take i}) (fun i => [(1, .share, encD 7 Contact.enc default m), (2, .share, .fn (.func F_world_Equal_f1) [] []), (15, .share, encD 7 Contact.enc default l), (16, .share, .sc (.int .i64 l.length)), (17, .share, .sc (.int .i64 i.1))])
      (fun i => []) (fun i => l.length - i.1) ⟨0, by omega, rfl⟩ ?_ ?_
    · refine weakE_of [] [] (by simp) (by simp [assoc]) (by simp) ?_
      simp only [go_sem]
      try trivial
    · rintro ⟨i, hi, ht⟩
      simp only [c_slices_EqualFunc_Contactb0, go_sem]
      split
      · rename_i hlt
        have hlt : i < l.length := by omega
        have hltm : i < m.length := by omega
        refine ⟨ok_, ok_, ?_⟩
        refine CallGi_flat (s_world_Equal_f1 (l.getD i default) (m.getD i default) (hs _ (mem_getD default hlt))) rfl ?_
        simp only [go_sem]
        by_cases he : l.getD i default = m.getD i default
        · rw [if_neg (by rw [decide_eq_true he]; simp)]
          refine loop_next ⟨i + 1, by omega, l_take_succ default ht hlt hltm he⟩ (by show l.length - (i + 1) < l.length - i; omega) (weakE_ [] [] ?_)
          simp only [go_sem]
          exact (by rw [IntKind.wrap_i64]; omega)
        · rw [if_pos (by rw [decide_eq_false he])]
          exact (decide_eq_false (l_ne_of default he)).symm
      · rename_i hge
        have hil : i = l.length := by omega
        subst hil
        exact (decide_eq_true (l_eq_of hlen ht)).symm
theorem s_world_Equal (x y : Api.World) (h : Wsm x) : CallsA Tryz.prog F_world_Equal [.agg x.enc, .agg y.enc] [] (.sc (.bool (decide (x = y)))) [] := by
  obtain ⟨h1, h2, h3, h4, h5, h6⟩ := h
  refine callsI_of (rs := [_]) hm Tryz.func52 (by kernel_rfl) (by kernel_rfl) is_world_Equal (by kernel_rfl : tmpsOf Tryz.f52.results.toList = some [4]) (by decide) (by kernel_rfl) ?_
  simp only [c_world_Equal, Settings.beq, go_sem]
  refine CallGi_flat (s_slices_EqualFunc_Body x.Bodies y.Bodies h1 h5) rfl ?_
  simp only [go_sem]
  refine CallGi_flat (s_slices_Equal_Joint x.Joints y.Joints h2) rfl ?_
  simp only [go_sem]
  refine CallGi_flat (s_slices_EqualFunc_Contact x.Contacts y.Contacts h3 h6) rfl ?_
  simp only [go_sem]
  refine CallGi_flat (s_slices_Equal_PairKey x.Overlaps y.Overlaps h4) rfl ?_
  simp only [go_sem]
  obtain ⟨a1, a2, a3, a4, a5, a6, a7⟩ := x
  obtain ⟨b1, b2, b3, b4, b5, b6, b7⟩ := y
  rw [Bool.eq_iff_iff]
  simp
  grind

end Go.Abs
