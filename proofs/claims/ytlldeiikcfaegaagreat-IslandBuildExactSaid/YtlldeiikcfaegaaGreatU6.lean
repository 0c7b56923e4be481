/- A part of the walk: contracts of functions that the statement reaches. -/
import Derived.Test.YtlldeiikcfaegaaGreatAbsC
import Derived.Test.YtlldeiikcfaegaaGreatU5
set_option linter.unusedSimpArgs false
set_option linter.unusedVariables false
set_option linter.unnecessarySimpa false
set_option maxRecDepth 100000
set_option maxHeartbeats 2000000
set_option linter.unusedSimpArgs false
set_option linter.unusedVariables false
namespace Go.Abs
open Go.Proofs
open Api
theorem s_r36_namesAny (w : Api.World) (l : List Int) (a b : Int) (hw : w.Bodies.length ≤ 1048576) (hl : l.length ≤ 1048576) (hin : ∀ y ∈ l, 0 ≤ y ∧ y < (w.Bodies.length : Int)) :
    CallsA Tryz.prog F_r36_namesAny [.agg w.enc, encD 1 encInt 0 l, .sc (.int .i64 a), .sc (.int .i64 b)] [] (.sc (.bool (l.any fun y => (idB w y.toNat == a) || (idB w y.toNat == b)))) [] := by
  refine callsI_of (rs := [_]) hm Tryz.func94 (by kernel_rfl) (by kernel_rfl) is_r36_namesAny (by kernel_rfl : tmpsOf Tryz.f94.results.toList = some [8]) (by decide) (by kernel_rfl) ?_
  simp only [c_r36_namesAny, go_sem]
  refine Wpi_loop hm (ι := {i : Nat // i ≤ l.length ∧ (l.take i).any (fun y => (idB w y.toNat == a) || (idB w y.toNat == b)) = false}) (fun i => [(1, .share, encD 1 encInt 0 l), (2, .share, .sc (.int .i64 a)), (3, .share, .sc (.int .i64 b)), (4, .share, .ptr 80 0 0 1), (9, .share, .sc (.int .i64 i.1))])
    (fun _ => [(80, .box w.enc)]) (fun i => l.length - i.1) ⟨0, by omega, rfl⟩ ?_ ?_
  · refine weakE_ [] [] ?_
    simp only [go_sem]
  · rintro ⟨i, hi, hn⟩
    simp only [c_r36_namesAnyb0, go_sem]
    by_cases hlt : (i : Int) < l.length
    · rw [if_pos hlt]
      have hlt : i < l.length := by omega
      have hb := hin _ (mem_getD 0 hlt)
      have hstep : (l.take (i + 1)).any (fun y => (idB w y.toNat == a) || (idB w y.toNat == b)) = ((idB w (l.getD i 0).toNat == a) || (idB w (l.getD i 0).toNat == b)) := by
        rw [take_snoc 0 hlt, List.any_append, hn]; simp
      refine ⟨⟨by omega, by omega⟩, hb, fun _ => ⟨by omega, by omega⟩, fun _ => hb, ?_⟩
      have hid : (w.Bodies.getD (l.getD i 0).toNat default).ID = idB w (l.getD i 0).toNat := rfl
      rw [hid]
      cases hc : ((idB w (l.getD i 0).toNat == a) || (idB w (l.getD i 0).toNat == b)) with
      | true =>
        rw [if_pos rfl]
        exact (List.any_eq_true.2 ⟨_, mem_getD 0 hlt, hc⟩).symm
      | false =>
        rw [if_neg (by simp)]
        refine loop_next ⟨i + 1, by omega, by rw [hstep, hc]⟩ (by show l.length - (i + 1) < l.length - i; omega) (weakE_ [] [] ?_)
        simp only [go_sem]
        exact (by rw [IntKind.wrap_i64]; omega)
    · rw [if_neg hlt]
      obtain rfl : i = l.length := by omega
      rw [List.take_length] at hn
      simp only [hn]

end Go.Abs
