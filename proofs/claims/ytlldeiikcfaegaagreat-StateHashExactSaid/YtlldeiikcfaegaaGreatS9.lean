/- A part of the walk: contracts of functions that the statement reaches. -/
import Derived.Test.YtlldeiikcfaegaaGreatAbsC
import Derived.Test.YtlldeiikcfaegaaGreatS7
import Derived.Test.YtlldeiikcfaegaaGreatX3
set_option linter.unusedSimpArgs false
set_option linter.unusedVariables false
set_option linter.unnecessarySimpa false
set_option maxRecDepth 100000
set_option maxHeartbeats 2000000
set_option linter.unusedSimpArgs false
set_option linter.unusedVariables false
namespace Go.Abs
open Go.Proofs
open Api
theorem l_all_succ {α : Type} {l : List α} {p : α → Bool} {i : Nat} (d : α) (h : (l.take i).all p = true) (hi : i < l.length) (hp : p (l.getD i d) = true) : (l.take (i + 1)).all p = true := by
  rw [take_snoc d hi, List.all_append, h]; simpa using hp
theorem l_all_false {α : Type} {l : List α} {p : α → Bool} {i : Nat} (d : α) (hi : i < l.length) (hp : p (l.getD i d) = false) : l.all p = false := by
  rw [List.all_eq_false]; exact ⟨_, mem_getD d hi, by rw [hp]; simp⟩
theorem l_all_end {α : Type} {l : List α} {p : α → Bool} (h : (l.take l.length).all p = true) : l.all p = true := by rwa [List.take_length] at h
def fewF (f : Fixture) : Bool := decide (f.Shape.Vertices.length ≤ 20)
def fewB (b : Body) : Bool := decide (b.Fixtures.length ≤ 8) && b.Fixtures.all fewF
def few22 (n : Nat) (l : List Body) : Bool := decide (l.length ≤ n) && l.all fewB
theorem s_r22_Few (n : Nat) (l : List Body) (hn : n ≤ 1000) : CallsA Tryz.prog F_r22_Few [encD 20 Body.enc default l, .sc (.int .i64 n)] [] (.sc (.bool (few22 n l))) [] := by
  refine callsI_of (rs := [_]) hm Tryz.func55 (by kernel_rfl) (by kernel_rfl) is_r22_Few (by kernel_rfl : tmpsOf Tryz.f55.results.toList = some [4]) (by decide) (by kernel_rfl) ?_
  simp only [c_r22_Few, go_sem]
  by_cases hc : l.length ≤ n
  · have hsm : few22 n l = l.all fewB := by simp [few22, hc]
    rw [hsm, if_neg (by omega)]
    refine Wpi_loop hm (ι := {i : Nat // i ≤ l.length ∧ (l.take i).all fewB = true}) (fun i => [(0, .share, encD 20 Body.enc default l), (5, .share, .sc (.int .i64 i.1))])
      (fun i => []) (fun i => l.length - i.1) ⟨0, by omega, rfl⟩ ?_ ?_
    · refine weakE_of [] [] (by simp) (by simp [assoc]) (by simp) ?_
      simp only [go_sem]
    · rintro ⟨i, hi, ht⟩
      simp only [c_r22_Fewb1, go_sem]
      split
      · rename_i hlt
        have hlt : i < l.length := by omega
        refine ⟨ok_, ?_⟩
        by_cases he : (l.getD i default).Fixtures.length ≤ 8
        · rw [if_neg (by omega)]
          refine Wpi_loop hm (ι := {k : Nat // k ≤ (l.getD i default).Fixtures.length ∧ ((l.getD i default).Fixtures.take k).all fewF = true}) (fun k => [(0, .share, encD 20 Body.enc default l), (5, .share, .sc (.int .i64 i)), (6, .share, .sc (.int .i64 k.1))])
            (fun i => []) (fun k => (l.getD i default).Fixtures.length - k.1) ⟨0, by omega, rfl⟩ ?_ ?_
          · refine weakE_of [] [] (by simp) (by simp [assoc]) (by simp) ?_
            simp only [go_sem]
          · rintro ⟨k, hk, hkt⟩
            simp only [c_r22_Fewb0, go_sem]
            refine ⟨ok_, ?_⟩
            split
            · rename_i hklt
              have hklt : k < (l.getD i default).Fixtures.length := by omega
              refine ⟨ok_, ok_, ?_⟩
              by_cases hf : ((l.getD i default).Fixtures.getD k default).Shape.Vertices.length ≤ 20
              · rw [if_neg (by omega)]
                refine loop_next ⟨k + 1, by omega, l_all_succ default hkt hklt (decide_eq_true hf)⟩ (by show (l.getD i default).Fixtures.length - (k + 1) < (l.getD i default).Fixtures.length - k; omega) (weakE_of [] [] (by simp) (by simp [assoc]) (by simp) ?_)
                simp only [go_sem]
                exact (by rw [IntKind.wrap_i64]; omega)
              · rw [if_pos (by omega)]
                have : fewB (l.getD i default) = false := by unfold fewB; rw [l_all_false default hklt (decide_eq_false hf)]; simp
                rw [l_all_false default hlt this]
            · rename_i hge
              have hil : k = (l.getD i default).Fixtures.length := by omega
              subst hil
              have hb : fewB (l.getD i default) = true := by unfold fewB; rw [l_all_end hkt, decide_eq_true he]; rfl
              refine loop_next ⟨i + 1, by omega, l_all_succ default ht hlt hb⟩ (by show l.length - (i + 1) < l.length - i; omega) (weakE_of [] [] (by simp) (by simp [assoc]) (by simp) ?_)
              simp only [go_sem]
              exact (by rw [IntKind.wrap_i64]; omega)
        · rw [if_pos (by omega)]
          have : fewB (l.getD i default) = false := by unfold fewB; rw [decide_eq_false he]; rfl
          rw [l_all_false default hlt this]
      · rename_i hge
        have hil : i = l.length := by omega
        subst hil
        rw [l_all_end ht]
  · have hsm : few22 n l = false := by simp [few22, hc]
    rw [hsm, if_pos (by omega)]
def fewC (c : Contact) : Bool := decide (c.Manifold.Points.length ≤ 8)
def few25 (w : Api.World) : Bool := decide (w.Joints.length ≤ 40) && decide (w.Contacts.length ≤ 80) && decide (w.Overlaps.length ≤ 80) && few22 40 w.Bodies && w.Contacts.all fewC
theorem few22_sm {n : Nat} {l : List Body} (h : few22 n l = true) : l.length ≤ n ∧ ∀ b ∈ l, Body.sm b := by
  simp only [few22, Bool.and_eq_true, decide_eq_true_eq] at h
  refine ⟨h.1, fun b hb => ?_⟩
  have := List.all_eq_true.1 h.2 b hb
  simp only [fewB, Bool.and_eq_true, decide_eq_true_eq] at this
  refine ⟨by omega, fun f hf => ?_⟩
  have := List.all_eq_true.1 this.2 f hf
  simp only [fewF, decide_eq_true_eq] at this
  unfold Fixture.sm Shape.sm; omega
theorem few25_sm {w : Api.World} (h : few25 w = true) : Wsm w := by
  simp only [few25, Bool.and_eq_true, decide_eq_true_eq] at h
  obtain ⟨⟨⟨⟨h1, h2⟩, h3⟩, h4⟩, h5⟩ := h
  obtain ⟨h6, h7⟩ := few22_sm h4
  refine ⟨by omega, by omega, by omega, by omega, h7, fun c hc => ?_⟩
  have := List.all_eq_true.1 h5 c hc
  simp only [fewC, decide_eq_true_eq] at this
  unfold Manifold.sm; omega
theorem s_r25_Few (w : Api.World) : CallsA Tryz.prog F_r25_Few [.agg w.enc] [] (.sc (.bool (few25 w))) [] := by
  refine callsI_of (rs := [_]) hm Tryz.func15 (by kernel_rfl) (by kernel_rfl) is_r25_Few (by kernel_rfl : tmpsOf Tryz.f15.results.toList = some [2]) (by decide) (by kernel_rfl) ?_
  simp only [c_r25_Few, go_sem]
  by_cases hc : w.Joints.length ≤ 40 ∧ w.Contacts.length ≤ 80 ∧ w.Overlaps.length ≤ 80
  · obtain ⟨c1, c2, c3⟩ := hc
    have e1 : (40 < (w.Joints.length : Int)) = False := eq_false (by omega)
    have e2 : (80 < (w.Contacts.length : Int)) = False := eq_false (by omega)
    have e3 : (80 < (w.Overlaps.length : Int)) = False := eq_false (by omega)
    simp only [e1, e2, e3, decide_false, go_sem]
    refine CallGi_flat (s_r22_Few 40 w.Bodies (by omega)) rfl ?_
    simp only [e1, e2, e3, decide_false, Bool.false_or, go_sem]
    cases hb : few22 40 w.Bodies with
    | false =>
      rw [if_pos (by rfl)]
      unfold few25; rw [hb]; simp
    | true =>
      have hsm : few25 w = w.Contacts.all fewC := by unfold few25; rw [hb, decide_eq_true c1, decide_eq_true c2, decide_eq_true c3]; rfl
      rw [hsm, if_neg (by simp)]
      refine Wpi_loop hm (ι := {i : Nat // i ≤ w.Contacts.length ∧ (w.Contacts.take i).all fewC = true}) (fun i => [(1, .share, .ptr 32 0 0 1), (3, .share, .sc (.int .i64 i.1))])
        (fun i => [(32, .box w.enc)]) (fun i => w.Contacts.length - i.1) ⟨0, by omega, rfl⟩ ?_ ?_
      · refine weakE_of [] [] (by simp) (by simp [assoc]) (by simp) ?_
        simp only [go_sem]
      · rintro ⟨i, hi, ht⟩
        simp only [c_r25_Fewb0, go_sem]
        split
        · rename_i hlt
          have hlt : i < w.Contacts.length := by omega
          refine ⟨ok_, ?_⟩
          by_cases he : (w.Contacts.getD i default).Manifold.Points.length ≤ 8
          · rw [if_neg (by omega)]
            refine loop_next ⟨i + 1, by omega, l_all_succ default ht hlt (decide_eq_true he)⟩ (by show w.Contacts.length - (i + 1) < w.Contacts.length - i; omega) (weakE_of [] [] (by simp) (by simp [assoc]) (by simp) ?_)
            simp only [go_sem]
            exact (by rw [IntKind.wrap_i64]; omega)
          · rw [if_pos (by omega), l_all_false default hlt (decide_eq_false he)]
        · rename_i hge
          have hil : i = w.Contacts.length := by omega
          subst hil
          rw [l_all_end ht]
  · have hsm : few25 w = false := by
      rw [← Bool.not_eq_true]; intro h; apply hc
      simp only [few25, Bool.and_eq_true, decide_eq_true_eq] at h
      omega
    rw [hsm]
    have hg : ((if 40 < (w.Joints.length : Int) then true else decide (80 < (w.Contacts.length : Int))) || decide (80 < (w.Overlaps.length : Int))) = true := by
      by_cases h1 : 40 < (w.Joints.length : Int)
      · rw [if_pos h1]; rfl
      · rw [if_neg h1]
        by_cases h2 : 80 < (w.Contacts.length : Int)
        · rw [decide_eq_true h2]; rfl
        · rw [decide_eq_true (by omega : 80 < (w.Overlaps.length : Int))]; simp
    refine CallGi_skip (by rw [hg]; rfl) (.sc (.bool false)) ?_
    simp only [hg, go_sem]
end Go.Abs
