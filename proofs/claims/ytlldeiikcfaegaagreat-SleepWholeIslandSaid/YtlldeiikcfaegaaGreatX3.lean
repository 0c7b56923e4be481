/- A part of the walk: contracts of functions that the statement reaches. -/
import Derived.Test.YtlldeiikcfaegaaGreatAbsC
import Derived.Test.YtlldeiikcfaegaaGreatX2
set_option linter.unusedSimpArgs false
set_option linter.unusedVariables false
set_option linter.unnecessarySimpa false
set_option maxRecDepth 100000
set_option maxHeartbeats 2000000
set_option linter.unusedSimpArgs false
set_option linter.unusedVariables false
namespace Go.Abs
open Go.Proofs
open Api
/-- a world whose slices are objects a to d -/
def Wown (w : Api.World) (a b c d : Nat) : AV := .agg [.sc (.int .i64 w.Settings.TimeStep), .sc (.int .i64 w.Settings.Gravity.X), .sc (.int .i64 w.Settings.Gravity.Y), .sc (.int .i64 w.Settings.Iterations), .sc (.int .i64 w.Settings.SleepSteps),
  .sl a 0 w.Bodies.length w.Bodies.length, .sl b 0 w.Joints.length w.Joints.length, .sl c 0 w.Contacts.length w.Contacts.length, .sl d 0 w.Overlaps.length w.Overlaps.length, .sc (.int .i64 w.NextID), .sc (.int .i64 w.Frame)]
def Wobj (w : Api.World) (a b c d : Nat) : List (Nat × AObj) := [(a, .arr 20 (encQ Body.enc default w.Bodies)), (b, .arr 24 (encQ Joint.enc default w.Joints)), (c, .arr 7 (encQ Contact.enc default w.Contacts)), (d, .arr 4 (encQ PairKey.enc default w.Overlaps))]
attribute [go_sem] Wown Wobj
theorem set_getD {α : Type} (l : List α) (i : Nat) (d : α) (h : i < l.length) : l.set i (l.getD i d) = l := by
  simp [List.getD, h]

theorem s_world_Clone (w : Api.World) (h : Wsm w) : CallsA Tryz.prog F_world_Clone [.agg w.enc] [] (Wown w 1 2 3 4) (Wobj w 1 2 3 4) := by
  obtain ⟨h1, h2, h3, h4, h5, h6⟩ := h
  refine callsIRO'_of (rs := [_]) (N := 56) hm Tryz.func185 (by kernel_rfl) (by kernel_rfl) is_world_Clone (by kernel_rfl) (by kernel_rfl : rvOf Tryz.prog Tryz.f185.results.toList = some [(2, some (some 11))]) (by decide) (by kernel_rfl) ?_
  simp only [c_world_Clone, go_sem]
  refine CallGi_obj [false] [(1, 1)] (s_slices_Clone_Body w.Bodies h1) (by simp) (by simp) (by simp) (by simp) ?_
  simp only [go_sem]
  refine CallGi_obj [false] [(1, 2)] (s_slices_Clone_Joint w.Joints h2) (by simp) (by simp) (by simp) (by simp) ?_
  simp only [go_sem]
  refine CallGi_obj [false] [(1, 3)] (s_slices_Clone_Contact w.Contacts h3) (by simp) (by simp) (by simp) (by simp) ?_
  simp only [go_sem]
  refine CallGi_obj [false] [(1, 4)] (s_slices_Clone_PairKey w.Overlaps h4) (by simp) (by simp) (by simp) (by simp) ?_
  simp only [go_sem]
  refine Wpi_loop hm (ι := {i : Nat // i ≤ w.Bodies.length}) (fun i => [(1, .share, .ptr 32 0 0 1), (2, .share, .ptr 48 0 0 1), (24, .share, .sl 1 0 w.Bodies.length w.Bodies.length), (25, .share, .sc (.int .i64 w.Bodies.length)), (26, .share, .sc (.int .i64 i.1))])
    (fun i => (32, .box [.sc (.int .i64 w.Settings.TimeStep), .sc (.int .i64 w.Settings.Gravity.X), .sc (.int .i64 w.Settings.Gravity.Y), .sc (.int .i64 w.Settings.Iterations), .sc (.int .i64 w.Settings.SleepSteps),
  .sl 1 0 w.Bodies.length w.Bodies.length, .sl 2 0 w.Joints.length w.Joints.length, .sl 3 0 w.Contacts.length w.Contacts.length, .sl 4 0 w.Overlaps.length w.Overlaps.length, .sc (.int .i64 w.NextID), .sc (.int .i64 w.Frame)]) :: (48, .box World.zero) :: Wobj w 1 2 3 4) (fun i => w.Bodies.length - i.1) ⟨0, by omega⟩ ?_ ?_
  · refine weakE_of [] [] (by simp [Wobj]) (by simp [assoc, Wobj]) (by simp) ?_
    simp only [go_sem]
  · rintro ⟨i, hi⟩
    simp only [c_world_Cloneb0, go_sem]
    split
    · rename_i hlt
      have hlt : i < w.Bodies.length := by omega
      refine ⟨⟨by omega, by omega⟩, ?_⟩
      refine CallGi_flat (s_body_Clone (w.Bodies.getD i default) (h5 _ (mem_getD _ hlt))) rfl ?_
      simp only [go_sem]
      refine ⟨ok_, ?_⟩
      refine loop_next ⟨i + 1, by omega⟩ (by show w.Bodies.length - (i + 1) < w.Bodies.length - i; omega) (weakE_ [] [] ?_)
      simp only [go_sem]
      exact ⟨(by rw [IntKind.wrap_i64]; omega), q_set (w.Bodies.getD i default) hlt rfl (set_getD _ _ _ hlt)⟩
    · rename_i hge
      obtain rfl : i = w.Bodies.length := by omega
      refine Wpi_loop hm (ι := {i : Nat // i ≤ w.Contacts.length}) (fun i => [(1, .share, .ptr 32 0 0 1), (2, .share, .ptr 48 0 0 1), (39, .share, .sl 3 0 w.Contacts.length w.Contacts.length), (40, .share, .sc (.int .i64 w.Contacts.length)), (41, .share, .sc (.int .i64 i.1))])
        (fun i => (32, .box [.sc (.int .i64 w.Settings.TimeStep), .sc (.int .i64 w.Settings.Gravity.X), .sc (.int .i64 w.Settings.Gravity.Y), .sc (.int .i64 w.Settings.Iterations), .sc (.int .i64 w.Settings.SleepSteps),
  .sl 1 0 w.Bodies.length w.Bodies.length, .sl 2 0 w.Joints.length w.Joints.length, .sl 3 0 w.Contacts.length w.Contacts.length, .sl 4 0 w.Overlaps.length w.Overlaps.length, .sc (.int .i64 w.NextID), .sc (.int .i64 w.Frame)]) :: (48, .box World.zero) :: Wobj w 1 2 3 4) (fun i => w.Contacts.length - i.1) ⟨0, by omega⟩ ?_ ?_
      · refine weakE_of [] [] (by simp [Wobj]) (by simp [assoc, Wobj]) (by simp) ?_
        simp only [go_sem]
      · rintro ⟨i, hi⟩
        simp only [c_world_Cloneb1, go_sem]
        split
        · rename_i hlt
          have hlt : i < w.Contacts.length := by omega
          refine ⟨⟨by omega, by omega⟩, ?_⟩
          refine CallGi_flat (s_manifold_Clone (w.Contacts.getD i default).Manifold (h6 _ (mem_getD _ hlt))) rfl ?_
          simp only [go_sem]
          refine ⟨ok_, ?_⟩
          refine loop_next ⟨i + 1, by omega⟩ (by show w.Contacts.length - (i + 1) < w.Contacts.length - i; omega) (weakE_ [] [] ?_)
          simp only [go_sem]
          exact ⟨(by rw [IntKind.wrap_i64]; omega), q_set (w.Contacts.getD i default) hlt rfl (set_getD _ _ _ hlt)⟩
        · rename_i hge
          obtain rfl : i = w.Contacts.length := by omega
          refine retW_of [.share] [] [] rfl rfl (by simp [Wobj]) (by simp [assoc, Wobj]) (by simp) ?_
          simp only [go_sem]

end Go.Abs
