/- A part of the walk: contracts of functions that the statement reaches. -/
import Derived.Test.YtlldeiikcfaegaaGreatAbsC
import Derived.Test.YtlldeiikcfaegaaGreatU12
set_option linter.unusedSimpArgs false
set_option linter.unusedVariables false
set_option linter.unnecessarySimpa false
set_option maxRecDepth 100000
set_option maxHeartbeats 2000000
set_option linter.unusedSimpArgs false
set_option linter.unusedVariables false
namespace Go.Abs
open Go.Proofs
open Api
theorem s_nmA (w : Api.World) (l : List Int) (a b : Int) (hw : w.Bodies.length ≤ 1048576) (hl : l.length ≤ 1048576) (hin : ∀ y ∈ l, 0 ≤ y ∧ y < (w.Bodies.length : Int)) :
    CallsA Tryz.prog F_r36_namesAny [.agg w.enc, encD 1 encInt 0 l, .sc (.int .i64 a), .sc (.int .i64 b)] [] (.sc (.bool (nmA w l a b))) [] := s_r36_namesAny w l a b hw hl hin
theorem outR_len (w : Api.World) : ∀ i, (outR w i).length ≤ i
  | 0 => Nat.le_refl _
  | i + 1 => by
    have := outR_len w i
    show (if kd w i = true ∧ findI (outR w i) (i : Int) < 0 then outR w i ++ [islR w (i : Int)] else outR w i).length ≤ _
    split
    · rw [List.length_append, List.length_singleton]; omega
    · omega
theorem outR_bod (w : Api.World) (h8 : w.Bodies.length ≤ 8) : ∀ i, ∀ x ∈ outR w i, x.Bodies.length ≤ 1048576
  | 0, x, hx => by cases hx
  | i + 1, x, hx => by
    have ih := outR_bod w h8 i
    have hx : x ∈ (if kd w i = true ∧ findI (outR w i) (i : Int) < 0 then outR w i ++ [islR w (i : Int)] else outR w i) := hx
    split at hx
    · rcases List.mem_append.1 hx with h | h
      · exact ih x h
      · rw [List.mem_singleton] at h; subst h
        have := compR_len w (i : Int) w.Bodies.length
        have h2 : (islR w (i : Int)).Bodies = compR w (i : Int) w.Bodies.length := rfl
        have h3 := Nat.mul_le_mul h8 h8
        rw [h2]; omega
    · exact ih x hx
theorem s_r36_Build_valid (w : Api.World) (hw : Wsm w) (h8 : w.Bodies.length ≤ 8) (hv : d_r25_Validate w = 0) : CallsA Tryz.prog F_r36_Build [.agg w.enc] [] (.sl 1 0 (outR w w.Bodies.length).length (outR w w.Bodies.length).length) [(1, .arr 3 (encQ Island.enc default (outR w w.Bodies.length)))] := by
  have hw0 := hw
  obtain ⟨w1, w2, w3, w4, w5, w6⟩ := hw0
  refine callsIO_of (rs := [_]) hm Tryz.func36 (by kernel_rfl) (by kernel_rfl) is_r36_Build (by kernel_rfl : tmpsOf Tryz.f36.results.toList = some [2]) (by decide) (by kernel_rfl) ?_
  simp only [c_r36_Build, go_sem]
  refine CallGi_flat (s_r25_Validate w hw) rfl ?_
  simp only [go_sem]
  rw [if_neg (by simp [hv])]
  refine Wpi_loop hm (ι := {i : Nat // i ≤ w.Bodies.length}) (fun i => [(1, .share, .ptr 32 0 0 1), (3, if i.1 = 0 then .adopt else .share, .sl 1 0 (outR w i.1).length (outR w i.1).length), (4, .share, .sc (.int .i64 i.1))])
    (fun i => [(32, .box w.enc), (1, .arr 3 (encQ Island.enc default (outR w i.1)))]) (fun i => w.Bodies.length - i.1) ⟨0, by omega⟩ ?_ ?_
  · refine weakE_ [] [1] ?_
    have o0 : outR w 0 = [] := rfl
    simp only [o0, List.length_nil, go_sem]
    try simp
  · rintro ⟨i, hi⟩
    have hol := outR_len w i
    simp only [c_r36_Buildb2, go_sem]
    by_cases hlt : (i : Int) < w.Bodies.length
    · rw [if_pos hlt]
      have hlt : i < w.Bodies.length := by omega
      refine CallGi_flat (s_r36_isDynamic w i w1) rfl ?_
      simp only [go_sem]
      have hfc := s_r36_Find (outR w i) (i : Int) (by omega) (outR_bod w h8 i)
      have hdk : d_r36_isDynamic w (i : Int) = kd w i := by
        rw [Bool.eq_iff_iff, isDyn_nat]; exact ⟨fun h => h.2, fun h => ⟨hlt, h⟩⟩
      rw [hdk]
      by_cases hc : kd w i = true ∧ findI (outR w i) (i : Int) < 0
      · have hstep : outR w (i + 1) = outR w i ++ [islR w (i : Int)] := if_pos hc
        simp only [hc.1]
        refine CallGi_keep hfc rfl (by simp only [argsC, go_sem]) ?_
        simp only [go_sem]
        rw [if_neg (by simp; omega)]
        refine CallGi_flat (s_r36_component w i hw h8) rfl ?_
        simp only [go_sem]
        have hR : islR w (i : Int) = ⟨compR w i w.Bodies.length, memb (nmC w (compR w i w.Bodies.length)) 0 w.Contacts.length, memb (nmJ w (compR w i w.Bodies.length)) 0 w.Joints.length⟩ := rfl
        have hci := (ci_compR hlt hc.1 w.Bodies.length).2.2
        have hcl := compR_len w (i : Int) w.Bodies.length
        have hcl : (compR w (i : Int) w.Bodies.length).length ≤ 1048576 := by have := Nat.mul_le_mul h8 h8; omega
        generalize compR w (i : Int) w.Bodies.length = L at *
        have hin : ∀ y ∈ L, 0 ≤ y ∧ y < (w.Bodies.length : Int) := fun y hy => by
          obtain ⟨j, rfl, hj, _⟩ := hci y hy
          omega
        have hol2 := outR_len w i
        generalize outR w i = R at *
        refine Wpi_loop hm (ι := {n : Nat // n ≤ w.Contacts.length}) (fun n => [(1, .share, .ptr 32 0 0 1), (3, .share, .sl 1 0 R.length R.length), (4, .share, .sc (.int .i64 i)), (5, .share, .ptr 96 0 0 1), (6, .share, .sc (.int .i64 n.1))])
          (fun n => [(32, .box w.enc), (1, .arr 3 (encQ Island.enc default R)), (96, .box [encD 1 encInt 0 L, .sl 2 0 (memb (nmC w L) 0 n.1).length (memb (nmC w L) 0 n.1).length, .sc (.slice none 0 0)]), (2, .arr 1 (encQ encInt 0 (memb (nmC w L) 0 n.1)))]) (fun n => w.Contacts.length - n.1) ⟨0, by omega⟩ ?_ ?_
        · refine weakE_ [] [2] ?_
          have m0 : memb (nmC w L) 0 0 = [] := rfl
          simp only [m0, List.length_nil, go_sem]
          try rfl
        · rintro ⟨n, hn⟩
          have hml := memb_len (nmC w L) 0 n
          simp only [c_r36_Buildb0, go_sem]
          by_cases hnl : (n : Int) < w.Contacts.length
          · rw [if_pos hnl]
            have hnl : n < w.Contacts.length := by omega
            refine ⟨ok_, ok_, ?_⟩
            refine CallGi_flat (s_nmA w L (w.Contacts.getD n default).Key.BodyA (w.Contacts.getD n default).Key.BodyB w1 hcl hin) rfl ?_
            simp only [go_sem]
            cases hq : nmA w L (w.Contacts.getD n default).Key.BodyA (w.Contacts.getD n default).Key.BodyB with
            | true =>
              have hp : nmC w L n = some 0 := if_pos hq
              simp only [go_sem]
              refine ⟨⟨by omega, by simp only [maxLen]; omega⟩, ?_⟩
              refine loop_next ⟨n + 1, by omega⟩ (by show w.Contacts.length - (n + 1) < w.Contacts.length - n; omega) (weakE_ [] [] ?_)
              simp only [memb_yes hp, List.length_append, List.length_singleton, go_sem]
              exact ⟨(by rw [IntKind.wrap_i64]; omega), q_app1 (n : Int) rfl rfl⟩
            | false =>
              have hp : memb (nmC w L) 0 (n + 1) = memb (nmC w L) 0 n := (memb_no (by unfold nmC; rw [hq]; simp)).symm
              simp only [go_sem]
              refine loop_next ⟨n + 1, by omega⟩ (by show w.Contacts.length - (n + 1) < w.Contacts.length - n; omega) (weakE_ [] [] ?_)
              simp only [hp, go_sem]
              exact (by rw [IntKind.wrap_i64]; omega)
          · rw [if_neg hnl]
            obtain rfl : n = w.Contacts.length := by omega
            clear hn hnl
            generalize memb (nmC w L) 0 w.Contacts.length = C at *
            refine Wpi_loop hm (ι := {n : Nat // n ≤ w.Joints.length}) (fun n => [(1, .share, .ptr 32 0 0 1), (3, .share, .sl 1 0 R.length R.length), (4, .share, .sc (.int .i64 i)), (5, .share, .ptr 96 0 0 1), (7, .share, .sc (.int .i64 n.1))])
              (fun n => [(32, .box w.enc), (1, .arr 3 (encQ Island.enc default R)), (96, .box [encD 1 encInt 0 L, .sl 2 0 C.length C.length, .sl 4 0 (memb (nmJ w L) 0 n.1).length (memb (nmJ w L) 0 n.1).length]), (2, .arr 1 (encQ encInt 0 C)), (4, .arr 1 (encQ encInt 0 (memb (nmJ w L) 0 n.1)))]) (fun n => w.Joints.length - n.1) ⟨0, by omega⟩ ?_ ?_
            · refine weakE_ [] [4] ?_
              have m0 : memb (nmJ w L) 0 0 = [] := rfl
              simp only [m0, List.length_nil, go_sem]
              try rfl
            · rintro ⟨n, hn⟩
              have hmj := memb_len (nmJ w L) 0 n
              simp only [c_r36_Buildb1, go_sem]
              by_cases hnl : (n : Int) < w.Joints.length
              · rw [if_pos hnl]
                have hnl : n < w.Joints.length := by omega
                refine ⟨ok_, ok_, ?_⟩
                refine CallGi_flat (s_nmA w L (w.Joints.getD n default).BodyA (w.Joints.getD n default).BodyB w1 hcl hin) rfl ?_
                simp only [go_sem]
                cases hq : nmA w L (w.Joints.getD n default).BodyA (w.Joints.getD n default).BodyB with
                | true =>
                  have hp : nmJ w L n = some 0 := if_pos hq
                  simp only [go_sem]
                  refine ⟨⟨by omega, by simp only [maxLen]; omega⟩, ?_⟩
                  refine loop_next ⟨n + 1, by omega⟩ (by show w.Joints.length - (n + 1) < w.Joints.length - n; omega) (weakE_ [] [] ?_)
                  simp only [memb_yes hp, List.length_append, List.length_singleton, go_sem]
                  exact ⟨(by rw [IntKind.wrap_i64]; omega), q_app1 (n : Int) rfl rfl⟩
                | false =>
                  have hp : memb (nmJ w L) 0 (n + 1) = memb (nmJ w L) 0 n := (memb_no (by unfold nmJ; rw [hq]; simp)).symm
                  simp only [go_sem]
                  refine loop_next ⟨n + 1, by omega⟩ (by show w.Joints.length - (n + 1) < w.Joints.length - n; omega) (weakE_ [] [] ?_)
                  simp only [hp, go_sem]
                  exact (by rw [IntKind.wrap_i64]; omega)
              · rw [if_neg hnl]
                obtain rfl : n = w.Joints.length := by omega
                generalize memb (nmJ w L) 0 w.Joints.length = J at *
                refine ⟨⟨by omega, by simp only [maxLen]; omega⟩, ?_⟩
                refine loop_next ⟨i + 1, by omega⟩ (by show w.Bodies.length - (i + 1) < w.Bodies.length - i; omega) (weakE_ [] [] ?_)
                simp only [hstep, hR, List.length_append, List.length_singleton, go_sem]
                refine ⟨(by rw [IntKind.wrap_i64]; omega), ?_⟩
                exact q_app1 (⟨L, C, J⟩ : Island) rfl rfl
      · have hstep : outR w (i + 1) = outR w i := if_neg hc
        refine CallGi_keep hfc rfl (by simp only [argsC, go_sem]) ?_
        simp only [go_sem]
        rw [if_pos (by cases hk : kd w i with
          | false => rfl
          | true => simp only [hk] at hc; simp at hc ⊢; omega)]
        refine loop_next ⟨i + 1, by omega⟩ (by show w.Bodies.length - (i + 1) < w.Bodies.length - i; omega) (weakE_ [] [] ?_)
        simp only [hstep, go_sem]
        exact (by rw [IntKind.wrap_i64]; omega)
    · rw [if_neg hlt]
      obtain rfl : i = w.Bodies.length := by omega
      refine retW_of [.share] [] [] rfl rfl (by simp [go_sem]) (by simp [assoc, go_sem]) (by simp [go_sem]) ?_
      simp only [go_sem]

end Go.Abs
