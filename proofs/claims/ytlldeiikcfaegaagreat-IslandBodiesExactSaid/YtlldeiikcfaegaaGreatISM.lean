/- A part of the walk: contracts of functions that the statement reaches. -/
import Derived.Test.YtlldeiikcfaegaaGreatAbsC
import Derived.Test.YtlldeiikcfaegaaGreatX3
set_option linter.unusedSimpArgs false
set_option linter.unusedVariables false
set_option linter.unnecessarySimpa false
set_option maxRecDepth 100000
set_option maxHeartbeats 2000000
set_option linter.unusedSimpArgs false
set_option linter.unusedVariables false
namespace Go.Abs
open Go.Proofs
open Api
theorem l_all_succ {α : Type} {l : List α} {p : α → Bool} {i : Nat} (d : α) (h : (l.take i).all p = true) (hi : i < l.length) (hp : p (l.getD i d) = true) : (l.take (i + 1)).all p = true := by
  rw [take_snoc d hi, List.all_append, h]; simpa using hp
theorem l_all_false {α : Type} {l : List α} {p : α → Bool} {i : Nat} (d : α) (hi : i < l.length) (hp : p (l.getD i d) = false) : l.all p = false := by
  rw [List.all_eq_false]; exact ⟨_, mem_getD d hi, by rw [hp]; simp⟩
theorem l_all_end {α : Type} {l : List α} {p : α → Bool} (h : (l.take l.length).all p = true) : l.all p = true := by rwa [List.take_length] at h

def fewP (c : Contact) : Bool := decide (c.Manifold.Points.length ≤ 6)
def few (l : List Contact) : Bool := l.all fewP && decide (l.length ≤ 40)
theorem s_r27_FewPoints (l : List Contact) (hl : l.length ≤ 1048576) : CallsA Tryz.prog F_r27_FewPoints [encD 7 Contact.enc default l] [] (.sc (.bool (few l))) [] := by
  refine callsI_of (rs := [_]) hm Tryz.func61 (by kernel_rfl) (by kernel_rfl) is_r27_FewPoints (by kernel_rfl : tmpsOf Tryz.f61.results.toList = some [2]) (by decide) (by kernel_rfl) ?_
  simp only [c_r27_FewPoints, go_sem]
  refine Wpi_loop hm (ι := {i : Nat // i ≤ l.length ∧ (l.take i).all fewP = true}) (fun i => [(0, .share, encD 7 Contact.enc default l), (3, .share, .sc (.int .i64 i.1))])
    (fun i => []) (fun i => l.length - i.1) ⟨0, by omega, rfl⟩ ?_ ?_
  · refine weakE_of [] [] (by simp) (by simp [assoc]) (by simp) ?_
    simp only [go_sem]
  · rintro ⟨i, hi, ht⟩
    simp only [c_r27_FewPointsb0, go_sem]
    split
    · rename_i hlt
      have hlt : i < l.length := by omega
      refine ⟨ok_, ?_⟩
      by_cases he : (l.getD i default).Manifold.Points.length ≤ 6
      · rw [if_neg (by omega)]
        refine loop_next ⟨i + 1, by omega, l_all_succ default ht hlt (decide_eq_true he)⟩ (by show l.length - (i + 1) < l.length - i; omega) (weakE_of [] [] (by simp) (by simp [assoc]) (by simp) ?_)
        simp only [go_sem]
        exact (by rw [IntKind.wrap_i64]; omega)
      · rw [if_pos (by omega)]
        unfold few
        rw [l_all_false default hlt (decide_eq_false he)]; rfl
    · rename_i hge
      have hil : i = l.length := by omega
      subst hil
      unfold few
      rw [l_all_end ht, Bool.true_and]
      exact decide_eq_decide.2 (by omega)

def smallF (f : Fixture) : Bool := decide (f.Shape.Vertices.length ≤ 10)
def smallB (b : Body) : Bool := decide (b.Fixtures.length ≤ 4) && b.Fixtures.all smallF
def isSmall (w : Api.World) : Bool := decide (w.Bodies.length ≤ 8) && decide (w.Joints.length ≤ 8) && decide (w.Contacts.length ≤ 20) && decide (w.Overlaps.length ≤ 20) && decide (w.Settings.Iterations ≤ 16) && (w.Bodies.all smallB && few w.Contacts)
theorem isSmall_sm {w : Api.World} (h : isSmall w = true) : Wsm w := by
  simp only [isSmall, few, Bool.and_eq_true, decide_eq_true_eq] at h
  obtain ⟨⟨⟨⟨⟨h1, h2⟩, h3⟩, h4⟩, _⟩, h5, h6, _⟩ := h
  refine ⟨by omega, by omega, by omega, by omega, fun b hb => ?_, fun c hc => ?_⟩
  · have := List.all_eq_true.1 h5 b hb
    simp only [smallB, Bool.and_eq_true, decide_eq_true_eq] at this
    refine ⟨by omega, fun f hf => ?_⟩
    have := List.all_eq_true.1 this.2 f hf
    simp only [smallF, decide_eq_true_eq] at this
    unfold Fixture.sm Shape.sm; omega
  · have := List.all_eq_true.1 h6 c hc
    simp only [fewP, decide_eq_true_eq] at this
    unfold Manifold.sm; omega

theorem s_r27_IsSmall (w : Api.World) : CallsA Tryz.prog F_r27_IsSmall [.agg w.enc] [] (.sc (.bool (isSmall w))) [] := by
  refine callsI_of (rs := [_]) hm Tryz.func23 (by kernel_rfl) (by kernel_rfl) is_r27_IsSmall (by kernel_rfl : tmpsOf Tryz.f23.results.toList = some [2]) (by decide) (by kernel_rfl) ?_
  simp only [c_r27_IsSmall, go_sem]
  by_cases hc : w.Bodies.length ≤ 8 ∧ w.Joints.length ≤ 8 ∧ w.Contacts.length ≤ 20 ∧ w.Overlaps.length ≤ 20 ∧ w.Settings.Iterations ≤ 16
  · obtain ⟨c1, c2, c3, c4, c5⟩ := hc
    have hsm : isSmall w = (w.Bodies.all smallB && few w.Contacts) := by simp [isSmall, c1, c2, c3, c4, c5]
    rw [hsm]
    rw [if_neg (by simp; omega)]
    refine Wpi_loop hm (ι := {i : Nat // i ≤ w.Bodies.length ∧ (w.Bodies.take i).all smallB = true}) (fun i => [(1, .share, .ptr 32 0 0 1), (3, .share, .sc (.int .i64 i.1))])
      (fun i => [(32, .box w.enc)]) (fun i => w.Bodies.length - i.1) ⟨0, by omega, rfl⟩ ?_ ?_
    · refine weakE_of [] [] (by simp) (by simp [assoc]) (by simp) ?_
      simp only [go_sem]
    · rintro ⟨i, hi, ht⟩
      simp only [c_r27_IsSmallb1, go_sem]
      split
      · rename_i hlt
        have hlt : i < w.Bodies.length := by omega
        refine ⟨ok_, ?_⟩
        by_cases he : (w.Bodies.getD i default).Fixtures.length ≤ 4
        · rw [if_neg (by omega)]
          refine Wpi_loop hm (ι := {k : Nat // k ≤ (w.Bodies.getD i default).Fixtures.length ∧ ((w.Bodies.getD i default).Fixtures.take k).all smallF = true}) (fun k => [(1, .share, .ptr 32 0 0 1), (3, .share, .sc (.int .i64 i)), (4, .share, .sc (.int .i64 k.1))])
            (fun i => [(32, .box w.enc)]) (fun k => (w.Bodies.getD i default).Fixtures.length - k.1) ⟨0, by omega, rfl⟩ ?_ ?_
          · refine weakE_of [] [] (by simp) (by simp [assoc]) (by simp) ?_
            simp only [go_sem]
          · rintro ⟨k, hk, hkt⟩
            simp only [c_r27_IsSmallb0, go_sem]
            refine ⟨ok_, ?_⟩
            split
            · rename_i hklt
              have hklt : k < (w.Bodies.getD i default).Fixtures.length := by omega
              refine ⟨ok_, ok_, ?_⟩
              by_cases hf : ((w.Bodies.getD i default).Fixtures.getD k default).Shape.Vertices.length ≤ 10
              · rw [if_neg (by omega)]
                refine loop_next ⟨k + 1, by omega, l_all_succ default hkt hklt (decide_eq_true hf)⟩ (by show (w.Bodies.getD i default).Fixtures.length - (k + 1) < (w.Bodies.getD i default).Fixtures.length - k; omega) (weakE_of [] [] (by simp) (by simp [assoc]) (by simp) ?_)
                simp only [go_sem]
                exact (by rw [IntKind.wrap_i64]; omega)
              · rw [if_pos (by omega)]
                have : smallB (w.Bodies.getD i default) = false := by unfold smallB; rw [l_all_false default hklt (decide_eq_false hf)]; simp
                rw [l_all_false default hlt this]; rfl
            · rename_i hge
              have hil : k = (w.Bodies.getD i default).Fixtures.length := by omega
              subst hil
              have hb : smallB (w.Bodies.getD i default) = true := by unfold smallB; rw [l_all_end hkt, decide_eq_true he]; rfl
              refine loop_next ⟨i + 1, by omega, l_all_succ default ht hlt hb⟩ (by show w.Bodies.length - (i + 1) < w.Bodies.length - i; omega) (weakE_of [] [] (by simp) (by simp [assoc]) (by simp) ?_)
              simp only [go_sem]
              exact (by rw [IntKind.wrap_i64]; omega)
        · rw [if_pos (by omega)]
          have : smallB (w.Bodies.getD i default) = false := by unfold smallB; rw [decide_eq_false he]; rfl
          rw [l_all_false default hlt this]; rfl
      · rename_i hge
        have hil : i = w.Bodies.length := by omega
        subst hil
        rw [l_all_end ht, Bool.true_and]
        refine CallGi_flat (s_r27_FewPoints w.Contacts (by omega)) rfl ?_
        simp only [go_sem]
  · have hsm : isSmall w = false := by
      rw [← Bool.not_eq_true]; intro h; apply hc
      simp only [isSmall, Bool.and_eq_true, decide_eq_true_eq] at h
      omega
    rw [hsm]
    rw [if_pos (by simp; omega)]

def isSmallI (x : Island) : Bool := decide (x.Bodies.length ≤ 12) && decide (x.Contacts.length ≤ 24) && decide (x.Joints.length ≤ 12)
theorem s_r36_IsSmallIsland (x : Island) : CallsA Tryz.prog F_r36_IsSmallIsland [.agg x.enc] [] (.sc (.bool (isSmallI x))) [] := by
  refine callsI_of (rs := [_]) hm Tryz.func39 (by kernel_rfl) (by kernel_rfl) is_r36_IsSmallIsland (by kernel_rfl : tmpsOf Tryz.f39.results.toList = some [2]) (by decide) (by kernel_rfl) ?_
  simp only [c_r36_IsSmallIsland, go_sem]
  rw [Bool.eq_iff_iff]; unfold isSmallI
  by_cases h : x.Bodies.length ≤ 12
  · rw [if_pos (by omega)]; simp [h]; omega
  · rw [if_neg (by omega)]; simp [h]


end Go.Abs
