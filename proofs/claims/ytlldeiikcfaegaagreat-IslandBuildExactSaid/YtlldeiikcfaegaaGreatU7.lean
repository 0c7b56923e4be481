/- A part of the walk: contracts of functions that the statement reaches. -/
import Derived.Test.YtlldeiikcfaegaaGreatAbsC
import Derived.Test.YtlldeiikcfaegaaGreatU6
set_option linter.unusedSimpArgs false
set_option linter.unusedVariables false
set_option linter.unnecessarySimpa false
set_option maxRecDepth 100000
set_option maxHeartbeats 2000000
set_option linter.unusedSimpArgs false
set_option linter.unusedVariables false
namespace Go.Abs
open Go.Proofs
open Api
theorem insI_ge (l : List Int) (n : Int) : l.length ≤ (insI l n).length := by
  induction l with
  | nil => simp
  | cons a l ih => unfold insI; split; (simp; omega); split <;> simp
def hasI (l : List Int) (k : Int) : Bool := l.any fun y => k == y
def innK (w : Api.World) (l : List Int) (k : Int) (n : Nat) : List Int := if ((!(hasI l k)) && (l.take n).any fun y => d_r36_adjacent w y k) = true then insI l k else l
def compK (w : Api.World) (l : List Int) (k : Int) : List Int := if ((!(hasI l k)) && l.any fun y => d_r36_adjacent w y k) = true then insI l k else l
def rndK (w : Api.World) (l : List Int) : Nat → List Int
  | 0 => l
  | k + 1 => compK w (rndK w l k) (k : Int)
def compR (w : Api.World) (i : Int) : Nat → List Int
  | 0 => [i]
  | r + 1 => rndK w (compR w i r) w.Bodies.length
theorem compK_len (w : Api.World) (l : List Int) (k : Int) : (compK w l k).length ≤ l.length + 1 := by unfold compK; split; exact insI_len _ _; omega
theorem innK_len (w : Api.World) (l : List Int) (k : Int) (n : Nat) : (innK w l k n).length ≤ l.length + 1 := by unfold innK; split; exact insI_len _ _; omega
theorem rndK_len (w : Api.World) (l : List Int) : ∀ k, (rndK w l k).length ≤ l.length + k
  | 0 => Nat.le_refl _
  | k + 1 => by have := rndK_len w l k; have := compK_len w (rndK w l k) k; show (compK w (rndK w l k) (k : Int)).length ≤ _; omega
theorem compR_len (w : Api.World) (i : Int) : ∀ r, (compR w i r).length ≤ 1 + r * w.Bodies.length
  | 0 => by simp [compR]
  | r + 1 => by have := compR_len w i r; have := rndK_len w (compR w i r) w.Bodies.length; show (rndK w (compR w i r) w.Bodies.length).length ≤ _; rw [Nat.add_mul]; omega
theorem hasI_ins {l : List Int} {k : Int} : hasI (insI l k) k = true := by
  unfold hasI; rw [List.any_eq_true]; exact ⟨k, insI_mem.2 (.inl rfl), by simp⟩
theorem innK_end {w : Api.World} {l : List Int} {k : Int} {n : Nat} (h : l.length ≤ n) : innK w l k n = compK w l k := by unfold innK compK; rw [List.take_of_length_le h]
theorem innK_hit {w : Api.World} {l : List Int} {k : Int} {n : Nat} (h : ((!(hasI l k)) && (l.take n).any fun y => d_r36_adjacent w y k) = true) : innK w l k n = insI l k ∧ innK w l k (n + 1) = insI l k := by
  refine ⟨by unfold innK; rw [if_pos h], ?_⟩
  unfold innK; rw [if_pos]
  rw [Bool.and_eq_true] at h ⊢
  refine ⟨h.1, ?_⟩
  rw [List.any_eq_true] at h ⊢
  obtain ⟨_, y, hy, hp⟩ := h
  exact ⟨y, List.take_subset_take_left l (by omega) hy, hp⟩
theorem s_r36_component (w : Api.World) (i : Int) (hw : Wsm w) (h8 : w.Bodies.length ≤ 8) : CallsA Tryz.prog F_r36_component [.agg w.enc, .sc (.int .i64 i)] [] (encD 1 encInt 0 (compR w i w.Bodies.length)) [] := by
  refine callsI_of (rs := [_]) hm Tryz.func93 (by kernel_rfl) (by kernel_rfl) is_r36_component (by kernel_rfl : tmpsOf Tryz.f93.results.toList = some [4]) (by decide) (by kernel_rfl) ?_
  simp only [c_r36_component, go_sem]
  refine Wpi_loop hm (ι := {r : Nat // r ≤ w.Bodies.length}) (fun r => [(2, .share, .ptr 48 0 0 1), (5, if r.1 = 0 then .thaw else .share, encD 1 encInt 0 (compR w i r.1)), (6, .share, .sc (.int .i64 r.1))])
    (fun _ => [(48, .box w.enc)]) (fun r => w.Bodies.length - r.1) ⟨0, by omega⟩ ?_ ?_
  · refine weakE_ [] [] ?_
    simp only [go_sem]
    exact avle_lit2 (l := ([i] : List Int)) (fun _ _ => rfl) rfl rfl rfl
  · rintro ⟨r, hr⟩
    have hlen := compR_len w i r
    have hlen : (compR w i r).length ≤ 1 + 8 * 8 := Nat.le_trans hlen (by have := Nat.mul_le_mul (show r ≤ 8 by omega) h8; omega)
    simp only [c_r36_componentb2, go_sem]
    by_cases hlt : (r : Int) < w.Bodies.length
    · rw [if_pos hlt]
      have hlt : r < w.Bodies.length := by omega
      refine Wpi_loop hm (ι := {k : Nat // k ≤ w.Bodies.length}) (fun k => [(2, .share, .ptr 48 0 0 1), (5, .share, encD 1 encInt 0 (rndK w (compR w i r) k.1)), (6, .share, .sc (.int .i64 r)), (7, .share, .sc (.int .i64 k.1))])
        (fun _ => [(48, .box w.enc)]) (fun k => w.Bodies.length - k.1) ⟨0, by omega⟩ ?_ ?_
      · refine weakE_ [] [] ?_
        simp only [go_sem]
        try rfl
      · rintro ⟨k, hk⟩
        have hrl := rndK_len w (compR w i r) k
        simp only [c_r36_componentb1, go_sem]
        by_cases hkl : (k : Int) < w.Bodies.length
        · rw [if_pos hkl]
          have hkl : k < w.Bodies.length := by omega
          generalize hL : rndK w (compR w i r) k = L at hrl ⊢
          refine Wpi_loop hm (ι := {n : Nat // n ≤ (innK w L k n).length ∧ n ≤ L.length + 1}) (fun n => [(2, .share, .ptr 48 0 0 1), (5, .share, encD 1 encInt 0 (innK w L k n.1)), (6, .share, .sc (.int .i64 r)), (7, .share, .sc (.int .i64 k)), (8, .share, .sc (.int .i64 n.1))])
            (fun _ => [(48, .box w.enc)]) (fun n => L.length + 1 - n.1) ⟨0, by omega, by omega⟩ ?_ ?_
          · refine weakE_ [] [] ?_
            simp only [go_sem]
            have e : innK w L k 0 = L := by unfold innK; rw [if_neg (by simp)]
            rw [e]
          · rintro ⟨n, hn, hn2⟩
            have hil := innK_len w L k n
            simp only [c_r36_componentb0, go_sem]
            by_cases hnl : (n : Int) < (innK w L k n).length
            · rw [if_pos hnl]
              have hnl : n < (innK w L k n).length := by omega
              refine CallGi_flat (s_r36_containsInt (innK w L k n) k (by omega)) rfl ?_
              simp only [go_sem]
              refine ⟨fun _ => ⟨by omega, by omega⟩, ?_⟩
              refine CallGi_flat (s_r36_adjacent w ((innK w L k n).getD n 0) k hw) rfl ?_
              simp only [go_sem]
              by_cases hh : ((!(hasI L k)) && (L.take n).any fun y => d_r36_adjacent w y k) = true
              · obtain ⟨e1, e2⟩ := innK_hit hh
                have hc : ((insI L k).any fun y => (k : Int) == y) = true := hasI_ins
                simp only [e1, hc]
                rw [if_neg (by simp)]
                refine loop_next ⟨n + 1, by rw [e2, ← e1]; omega, by omega⟩ (by show L.length + 1 - (n + 1) < L.length + 1 - n; omega) (weakE_ [] [] ?_)
                simp only [go_sem, e2]
                first | exact ⟨trivial, (by rw [IntKind.wrap_i64]; omega)⟩ | exact (by rw [IntKind.wrap_i64]; omega) | exact ⟨rfl, (by rw [IntKind.wrap_i64]; omega)⟩
              · have e1 : innK w L k n = L := by unfold innK; rw [if_neg hh]
                rw [e1] at hnl
                have hst : ((L.take (n + 1)).any fun y => d_r36_adjacent w y k) = (((L.take n).any fun y => d_r36_adjacent w y k) || d_r36_adjacent w (L.getD n 0) k) := by rw [take_snoc 0 hnl, List.any_append]; simp
                have hb : (L.any fun y => (k : Int) == y) = hasI L k := rfl
                simp only [e1, hb]
                by_cases hx : ((!(hasI L k)) && d_r36_adjacent w (L.getD n 0) k) = true
                · rw [if_pos hx]
                  rw [Bool.and_eq_true] at hx
                  have e2 : innK w L k (n + 1) = insI L k := by unfold innK; rw [if_pos (by rw [hst, hx.1, hx.2]; simp)]
                  refine CallGi_flat (s_r36_insertInt L k (by omega)) rfl ?_
                  simp only [go_sem]
                  have hge := insI_ge L k
                  refine loop_next ⟨n + 1, by rw [e2]; omega, by omega⟩ (by show L.length + 1 - (n + 1) < L.length + 1 - n; omega) (weakE_ [] [] ?_)
                  simp only [go_sem, e2]
                  first | exact ⟨trivial, (by rw [IntKind.wrap_i64]; omega)⟩ | exact (by rw [IntKind.wrap_i64]; omega) | exact ⟨rfl, (by rw [IntKind.wrap_i64]; omega)⟩
                · rw [if_neg hx]
                  have e2 : innK w L k (n + 1) = L := by
                    unfold innK; rw [if_neg]
                    rw [hst]
                    generalize d_r36_adjacent w (L.getD n 0) k = p at hx ⊢
                    generalize (L.take n).any (fun y => d_r36_adjacent w y k) = q at hh ⊢
                    generalize hasI L k = t at hx hh ⊢
                    revert hx hh; cases p <;> cases q <;> cases t <;> simp
                  refine loop_next ⟨n + 1, by rw [e2]; omega, by omega⟩ (by show L.length + 1 - (n + 1) < L.length + 1 - n; omega) (weakE_ [] [] ?_)
                  simp only [go_sem, e2]
                  first | exact ⟨trivial, (by rw [IntKind.wrap_i64]; omega)⟩ | exact (by rw [IntKind.wrap_i64]; omega) | exact ⟨rfl, (by rw [IntKind.wrap_i64]; omega)⟩
            · rw [if_neg hnl]
              have e1 : innK w L k n = compK w L k := innK_end (by
                refine Classical.byContradiction fun hlt2 => ?_
                have : L.length ≤ (innK w L k n).length := by
                  unfold innK; split
                  · exact insI_ge _ _
                  · exact Nat.le_refl _
                omega)
              have e2 : rndK w (compR w i r) (k + 1) = compK w L k := by rw [← hL]; rfl
              refine loop_next ⟨k + 1, by omega⟩ (by show w.Bodies.length - (k + 1) < w.Bodies.length - k; omega) (weakE_ [] [] ?_)
              simp only [go_sem, e1, e2]
              first | exact ⟨trivial, (by rw [IntKind.wrap_i64]; omega)⟩ | exact (by rw [IntKind.wrap_i64]; omega) | exact ⟨rfl, (by rw [IntKind.wrap_i64]; omega)⟩
        · rw [if_neg hkl]
          obtain rfl : k = w.Bodies.length := by omega
          refine loop_next ⟨r + 1, by omega⟩ (by show w.Bodies.length - (r + 1) < w.Bodies.length - r; omega) (weakE_ [] [] ?_)
          simp only [go_sem]
          exact ⟨rfl, (by rw [IntKind.wrap_i64]; omega)⟩
    · rw [if_neg hlt]
      obtain rfl : r = w.Bodies.length := by omega
      simp only [go_sem]

end Go.Abs
