/- A part of the walk: contracts of functions that the statement reaches. -/
import Derived.Test.YtlldeiikcfaegaaGreatAbsC
import Derived.Test.YtlldeiikcfaegaaGreatX2
set_option linter.unusedSimpArgs false
set_option linter.unusedVariables false
set_option linter.unnecessarySimpa false
set_option maxRecDepth 100000
set_option maxHeartbeats 2000000
set_option linter.unusedSimpArgs false
set_option linter.unusedVariables false
namespace Go.Abs
open Go.Proofs
open Api
theorem s_r12_Clone (s : Shape) (h : Shape.sm s) : CallsA Tryz.prog F_r12_Clone [.agg s.enc] [] (.agg s.enc) [] := by
  unfold Shape.sm at h
  refine callsIR'_of (rs := [_]) (N := 12) hm Tryz.func196 (by kernel_rfl) (by kernel_rfl) is_r12_Clone (by kernel_rfl) (by kernel_rfl : rvOf Tryz.prog Tryz.f196.results.toList = some [(2, some (some 3))]) (by decide) (by kernel_rfl) ?_
  simp only [c_r12_Clone, go_sem]
  exact ⟨by omega, (by simp only [maxLen]; omega)⟩

theorem s_r16_Clone (s : Manifold) (h : Manifold.sm s) : CallsA Tryz.prog F_r16_Clone [.agg s.enc] [] (.agg s.enc) [] := by
  unfold Manifold.sm at h
  refine callsIR'_of (rs := [_]) (N := 10) hm Tryz.func124 (by kernel_rfl) (by kernel_rfl) is_r16_Clone (by kernel_rfl) (by kernel_rfl : rvOf Tryz.prog Tryz.f124.results.toList = some [(2, some (some 3))]) (by decide) (by kernel_rfl) ?_
  simp only [c_r16_Clone, go_sem]
  exact ⟨by omega, (by simp only [maxLen]; omega)⟩

theorem s_r23_Clone (b : Body) (h : Body.sm b) : CallsA Tryz.prog F_r23_Clone [.agg b.enc] [] (.agg b.enc) [] := by
  have hb := h.1
  refine callsIR'_of (rs := [_]) (N := 29) hm Tryz.func123 (by kernel_rfl) (by kernel_rfl) is_r23_Clone (by kernel_rfl) (by kernel_rfl : rvOf Tryz.prog Tryz.f123.results.toList = some [(2, some (some 20))]) (by decide) (by kernel_rfl) ?_
  simp only [c_r23_Clone, go_sem]
  refine Wpi_loop hm (ι := {i : Nat // i ≤ b.Fixtures.length}) (fun i => [(1, .share, .ptr 32 0 0 1), (2, .share, .ptr 48 0 0 1), (3, if i.1 = 0 then .adopt else .share, .sl 1 0 i.1 i.1), (4, .share, .sc (.int .i64 i.1))])
    (fun i => [(32, .box b.enc), (48, .box Body.zero), (1, .arr 10 (encQ Fixture.enc default (b.Fixtures.take i.1)))]) (fun i => b.Fixtures.length - i.1) ⟨0, by omega⟩ ?_ ?_
  · refine weakE_of [] [1] (by simp) (by simp [assoc]) (by simp) ?_
    simp only [go_sem]
  · rintro ⟨i, hi⟩
    simp only [c_r23_Cloneb0, go_sem]
    split
    · rename_i hlt
      have hlt : i < b.Fixtures.length := by omega
      refine ⟨⟨by omega, by omega⟩, ?_⟩
      refine CallGi_flat (s_r12_Clone (b.Fixtures.getD i default).Shape (h.2 _ (mem_getD _ hlt))) rfl ?_
      simp only [go_sem]
      refine ⟨ok_, ?_⟩
      refine loop_next ⟨i + 1, by omega⟩ (by show b.Fixtures.length - (i + 1) < b.Fixtures.length - i; omega) (weakE_ [] [] ?_)
      simp only [go_sem]
      exact ⟨by omega, (by rw [IntKind.wrap_i64]; omega), q_app1 (b.Fixtures.getD i default) rfl (take_snoc default hlt)⟩
    · rename_i hge
      obtain rfl : i = b.Fixtures.length := by omega
      simp only [List.take_length, Nat.min_self, go_sem]

/-- a world whose slices are objects a to d -/
def Wown (w : Api.World) (a b c d : Nat) : AV := .agg [.sc (.int .i64 w.Settings.TimeStep), .sc (.int .i64 w.Settings.Gravity.X), .sc (.int .i64 w.Settings.Gravity.Y), .sc (.int .i64 w.Settings.Iterations), .sc (.int .i64 w.Settings.SleepSteps),
  .sl a 0 w.Bodies.length w.Bodies.length, .sl b 0 w.Joints.length w.Joints.length, .sl c 0 w.Contacts.length w.Contacts.length, .sl d 0 w.Overlaps.length w.Overlaps.length, .sc (.int .i64 w.NextID), .sc (.int .i64 w.Frame)]
def Wobj (w : Api.World) (a b c d : Nat) : List (Nat × AObj) := [(a, .arr 20 (encQ Body.enc default w.Bodies)), (b, .arr 24 (encQ Joint.enc default w.Joints)), (c, .arr 7 (encQ Contact.enc default w.Contacts)), (d, .arr 4 (encQ PairKey.enc default w.Overlaps))]
attribute [go_sem] Wown Wobj
theorem s_r25_Clone (w : Api.World) (h : Wsm w) : CallsA Tryz.prog F_r25_Clone [.agg w.enc] [] (Wown w 1 2 3 4) (Wobj w 1 2 3 4) := by
  obtain ⟨h1, h2, h3, h4, h5, h6⟩ := h
  refine callsIRO'_of (rs := [_]) (N := 64) hm Tryz.func54 (by kernel_rfl) (by kernel_rfl) is_r25_Clone (by kernel_rfl) (by kernel_rfl : rvOf Tryz.prog Tryz.f54.results.toList = some [(2, some (some 11))]) (by decide) (by kernel_rfl) ?_
  simp only [c_r25_Clone, go_sem]
  refine Wpi_loop hm (ι := {i : Nat // i ≤ w.Bodies.length}) (fun i => [(1, .share, .ptr 32 0 0 1), (2, .share, .ptr 48 0 0 1), (3, .share, .ptr 64 0 0 1), (4, .share, .sc (.int .i64 i.1))])
    (fun i => [(32, .box w.enc), (48, .box World.zero), (64, .box (w.enc.take 5 ++ [.sl 1 0 i.1 i.1, encD 24 Joint.enc default w.Joints, .sc (.slice none 0 0), encD 4 PairKey.enc default w.Overlaps, .sc (.int .i64 w.NextID), .sc (.int .i64 w.Frame)])),
      (1, .arr 20 (encQ Body.enc default (w.Bodies.take i.1)))]) (fun i => w.Bodies.length - i.1) ⟨0, by omega⟩ ?_ ?_
  · refine weakE_of [] [1] (by simp) (by simp [assoc]) (by simp) ?_
    simp only [go_sem]
  · rintro ⟨i, hi⟩
    simp only [c_r25_Cloneb0, go_sem]
    split
    · rename_i hlt
      have hlt : i < w.Bodies.length := by omega
      refine ⟨⟨by omega, by omega⟩, ?_⟩
      refine CallGi_flat (s_r23_Clone (w.Bodies.getD i default) (h5 _ (mem_getD _ hlt))) rfl ?_
      simp only [go_sem]
      refine ⟨ok_, ?_⟩
      refine loop_next ⟨i + 1, by omega⟩ (by show w.Bodies.length - (i + 1) < w.Bodies.length - i; omega) (weakE_ [] [] ?_)
      simp only [go_sem]
      (repeat' (with_reducible apply And.intro)) <;> first | omega | (rw [IntKind.wrap_i64]; omega) | (simp only [maxLen]; omega) | exact q_app1 (w.Bodies.getD i default) rfl (take_snoc default hlt)
    · rename_i hge
      obtain rfl : i = w.Bodies.length := by omega
      simp only [List.take_length, Nat.min_self, go_sem]
      refine ⟨ok_, ?_⟩
      refine Wpi_loop hm (ι := {i : Nat // i ≤ w.Contacts.length}) (fun i => [(1, .share, .ptr 32 0 0 1), (2, .share, .ptr 48 0 0 1), (3, .share, .ptr 64 0 0 1), (5, .share, .sc (.int .i64 i.1))])
        (fun i => [(32, .box w.enc), (48, .box World.zero), (64, .box (w.enc.take 5 ++ [.sl 1 0 w.Bodies.length w.Bodies.length, .sl 2 0 w.Joints.length w.Joints.length, .sl 3 0 i.1 i.1, encD 4 PairKey.enc default w.Overlaps, .sc (.int .i64 w.NextID), .sc (.int .i64 w.Frame)])), (1, .arr 20 (encQ Body.enc default w.Bodies)), (2, .arr 24 (encQ Joint.enc default w.Joints)), (3, .arr 7 (encQ Contact.enc default (w.Contacts.take i.1)))]) (fun i => w.Contacts.length - i.1) ⟨0, by omega⟩ ?_ ?_
      · refine weakE_of [(2, 448)] [3] (by simp) (by simp [assoc]) (by simp) ?_
        simp only [go_sem]
      · rintro ⟨i, hi⟩
        simp only [c_r25_Cloneb1, go_sem]
        split
        · rename_i hlt
          have hlt : i < w.Contacts.length := by omega
          refine ⟨⟨by omega, by omega⟩, ⟨by omega, by omega⟩, ?_⟩
          refine CallGi_flat (s_r16_Clone (w.Contacts.getD i default).Manifold (h6 _ (mem_getD _ hlt))) rfl ?_
          simp only [go_sem]
          refine ⟨ok_, ?_⟩
          refine loop_next ⟨i + 1, by omega⟩ (by show w.Contacts.length - (i + 1) < w.Contacts.length - i; omega) (weakE_ [] [] ?_)
          simp only [go_sem]
          (repeat' (with_reducible apply And.intro)) <;> first | omega | (rw [IntKind.wrap_i64]; omega) | (simp only [maxLen]; omega) | exact q_app1 (w.Contacts.getD i default) rfl (take_snoc default hlt)
        · rename_i hge
          obtain rfl : i = w.Contacts.length := by omega
          simp only [List.take_length, Nat.min_self, go_sem]
          refine ⟨ok_, ?_⟩
          refine retW_of [.share] [(4, 944), (2, 2)] [] rfl rfl (by simp [go_sem]) (by simp [go_sem]) (by simp) ?_
          simp only [go_sem]

end Go.Abs
