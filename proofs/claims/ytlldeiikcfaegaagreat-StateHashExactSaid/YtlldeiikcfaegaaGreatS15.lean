/- A part of the walk: contracts of functions that the statement reaches. -/
import Derived.Test.YtlldeiikcfaegaaGreatAbsC
import Derived.Test.YtlldeiikcfaegaaGreatS5
set_option linter.unusedSimpArgs false
set_option linter.unusedVariables false
set_option linter.unnecessarySimpa false
set_option maxRecDepth 100000
set_option maxHeartbeats 2000000
set_option linter.unusedSimpArgs false
set_option linter.unusedVariables false
namespace Go.Abs
open Go.Proofs
open Api
theorem s_r25_FindBody (w : Api.World) (id : Int) (hw : w.Bodies.length ≤ 1048576) : CallsA Tryz.prog F_r25_FindBody [.agg w.enc, .sc (.int .i64 id)] [] (.sc (.int .i64 (findB w id))) [] := by
  refine callsI_of (rs := [_]) hm Tryz.func184 (by kernel_rfl) (by kernel_rfl) is_r25_FindBody (by kernel_rfl : tmpsOf Tryz.f184.results.toList = some [4]) (by decide) (by kernel_rfl) ?_
  simp only [c_r25_FindBody, go_sem]
  refine Wpi_loop hm (ι := {i : Nat // i ≤ w.Bodies.length ∧ ∀ j, j < i → ((w.Bodies.getD j default).ID == id) = false}) (fun i => [(1, .share, .sc (.int .i64 id)), (2, .share, .ptr 48 0 0 1), (5, .share, .sc (.int .i64 i.1))])
    (fun i => [(48, .box w.enc)]) (fun i => w.Bodies.length - i.1) ⟨0, by omega, fun j hj => by omega⟩ ?_ ?_
  · refine weakE_ [] [] ?_
    simp only [go_sem]
  · rintro ⟨i, hi, hs⟩
    simp only [c_r25_FindBodyb0, go_sem]
    split
    · rename_i hlt
      have hlt : i < w.Bodies.length := by omega
      refine ⟨ok_, ?_⟩
      cases hx : ((w.Bodies.getD i default).ID == id) with
      | true =>
        rw [if_pos rfl]
        exact (idxG_at hlt hs hx).symm
      | false =>
        rw [if_neg (by simp)]
        refine loop_next ⟨i + 1, by omega, fun j hj => by rcases Nat.lt_succ_iff_lt_or_eq.1 hj with h | rfl; exact hs j h; exact hx⟩ (by show w.Bodies.length - (i + 1) < w.Bodies.length - i; omega) (weakE_ [] [] ?_)
        simp only [go_sem]
        exact (by rw [IntKind.wrap_i64]; omega)
    · rename_i hge
      exact (idxG_none fun j hj => hs j (by omega)).symm
end Go.Abs
