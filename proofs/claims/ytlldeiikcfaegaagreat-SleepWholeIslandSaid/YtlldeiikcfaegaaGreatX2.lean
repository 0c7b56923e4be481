/- A part of the walk: contracts of functions that the statement reaches. -/
import Derived.Test.YtlldeiikcfaegaaGreatAbsC
import Derived.Test.YtlldeiikcfaegaaGreatX1
set_option linter.unusedSimpArgs false
set_option linter.unusedVariables false
set_option linter.unnecessarySimpa false
set_option maxRecDepth 100000
set_option maxHeartbeats 2000000
set_option linter.unusedSimpArgs false
set_option linter.unusedVariables false
namespace Go.Abs
open Go.Proofs
open Api
def Shape.sm (s : Shape) : Prop := s.Vertices.length ≤ 1048576
def Fixture.sm (f : Fixture) : Prop := Shape.sm f.Shape
def Body.sm (b : Body) : Prop := b.Fixtures.length ≤ 1048576 ∧ ∀ f ∈ b.Fixtures, Fixture.sm f
def Manifold.sm (m : Manifold) : Prop := m.Points.length ≤ 1048576
def Wsm (w : Api.World) : Prop := w.Bodies.length ≤ 1048576 ∧ w.Joints.length ≤ 1048576 ∧ w.Contacts.length ≤ 1048576 ∧ w.Overlaps.length ≤ 1048576 ∧ (∀ b ∈ w.Bodies, Body.sm b) ∧ ∀ c ∈ w.Contacts, Manifold.sm c.Manifold

theorem s_shape_Clone (s : Shape) (h : Shape.sm s) : CallsA Tryz.prog F_shape_Clone [.agg s.enc] [] (.agg s.enc) [] := by
  refine callsIR'_of (rs := [_]) (N := 8) hm Tryz.func290 (by kernel_rfl) (by kernel_rfl) is_shape_Clone (by kernel_rfl) (by kernel_rfl : rvOf Tryz.prog Tryz.f290.results.toList = some [(2, some (some 3))]) (by decide) (by kernel_rfl) ?_
  simp only [c_shape_Clone, go_sem]
  refine CallGi_obj [false] [(1, 96)] (s_slices_Clone_Vec s.Vertices h) (by simp) (by simp) (by simp) (by simp) ?_
  simp only [go_sem]

theorem s_manifold_Clone (s : Manifold) (h : Manifold.sm s) : CallsA Tryz.prog F_manifold_Clone [.agg s.enc] [] (.agg s.enc) [] := by
  refine callsIR'_of (rs := [_]) (N := 8) hm Tryz.func255 (by kernel_rfl) (by kernel_rfl) is_manifold_Clone (by kernel_rfl) (by kernel_rfl : rvOf Tryz.prog Tryz.f255.results.toList = some [(2, some (some 3))]) (by decide) (by kernel_rfl) ?_
  simp only [c_manifold_Clone, go_sem]
  refine CallGi_obj [false] [(1, 96)] (s_slices_Clone_ContactPoint s.Points h) (by simp) (by simp) (by simp) (by simp) ?_
  simp only [go_sem]

theorem s_body_Clone (b : Body) (h : Body.sm b) : CallsA Tryz.prog F_body_Clone [.agg b.enc] [] (.agg b.enc) [] := by
  refine callsIR'_of (rs := [_]) (N := 25) hm Tryz.func254 (by kernel_rfl) (by kernel_rfl) is_body_Clone (by kernel_rfl) (by kernel_rfl : rvOf Tryz.prog Tryz.f254.results.toList = some [(2, some (some 20))]) (by decide) (by kernel_rfl) ?_
  simp only [c_body_Clone, go_sem]
  refine Wpi_loop hm (ι := {i : Nat // i ≤ b.Fixtures.length}) (fun i => [(1, .share, .ptr 32 0 0 1), (2, .share, .ptr 48 0 0 1), (3, if i.1 = 0 then .adopt else .share, .sl 1 0 i.1 i.1), (7, .share, encD 10 Fixture.enc default b.Fixtures), (8, .share, .sc (.int .i64 b.Fixtures.length)), (9, .share, .sc (.int .i64 i.1))])
    (fun i => [(32, .box b.enc), (48, .box Body.zero), (1, .arr 10 (encQ Fixture.enc default (b.Fixtures.take i.1)))]) (fun i => b.Fixtures.length - i.1) ⟨0, by omega⟩ ?_ ?_
  · refine weakE_of [] [1] (by simp) (by simp [assoc]) (by simp) ?_
    simp only [go_sem]
  · rintro ⟨i, hi⟩
    simp only [c_body_Cloneb0, go_sem]
    split
    · rename_i hlt
      have hlt : i < b.Fixtures.length := by omega
      refine ⟨⟨by omega, by omega⟩, ?_⟩
      refine CallGi_flat (s_shape_Clone (b.Fixtures.getD i default).Shape (h.2 _ (mem_getD _ hlt))) rfl ?_
      simp only [go_sem]
      have hb := h.1
      refine ⟨ok_, ?_⟩
      refine loop_next ⟨i + 1, by omega⟩ (by show b.Fixtures.length - (i + 1) < b.Fixtures.length - i; omega) (weakE_ [] [] ?_)
      simp only [go_sem]
      exact ⟨by omega, (by rw [IntKind.wrap_i64]; omega), q_app1 (b.Fixtures.getD i default) rfl (take_snoc default hlt)⟩
    · rename_i hge
      obtain rfl : i = b.Fixtures.length := by omega
      simp only [List.take_length, Nat.min_self, go_sem]

end Go.Abs
