/- A part of the walk: contracts of functions that the statement reaches. -/
import Derived.Test.YtlldeiikcfaegaaGreatAbsC
import Derived.Test.YtlldeiikcfaegaaGreatI3
import Derived.Test.YtlldeiikcfaegaaGreatW1
import Derived.Test.YtlldeiikcfaegaaGreatISM
set_option linter.unusedSimpArgs false
set_option linter.unusedVariables false
set_option linter.unnecessarySimpa false
set_option maxRecDepth 100000
set_option maxHeartbeats 2000000
set_option linter.unusedSimpArgs false
set_option linter.unusedVariables false
namespace Go.Abs
open Go.Proofs
open Api
theorem buildL_len (w : Api.World) : (buildL w).length ≤ w.Bodies.length := by
  unfold buildL; split
  · rw [List.length_map, List.length_range]; exact nb_le _ _ _
  · simp
theorem buildL_mem {w : Api.World} {x : Island} (h : x ∈ buildL w) : x.Bodies.length ≤ w.Bodies.length ∧ x.Contacts.length ≤ w.Contacts.length ∧ x.Joints.length ≤ w.Joints.length := by
  unfold buildL at h; split at h
  · rw [List.mem_map] at h
    obtain ⟨q, _, rfl⟩ := h
    exact ⟨memb_len _ _ _, memb_len _ _ _, memb_len _ _ _⟩
  · cases h
def findI (l : List Island) (a : Int) : Int := idxG default (fun x : Island => x.Bodies.any fun y => a == y) l
theorem okO_id (id : Int) : okO [(1, .box [.sc (.int .i64 id)])] := by
  refine ⟨by simp [go_sem], ?_⟩
  simp [go_sem, idsL, AV.ids]
theorem s_island_Find_f1 (a : Int) (x : Island) (hx : x.Bodies.length ≤ 1048576) : CallsA Tryz.prog F_island_Find_f1 [.agg x.enc, .ptr 1 0 0 1] [(1, .box [.sc (.int .i64 a)])] (.sc (.bool (x.Bodies.any fun y => a == y))) [(1, .box [.sc (.int .i64 a)])] := by
  refine callsIO_of (rs := [_]) hm Tryz.func96 (by kernel_rfl) (by kernel_rfl) is_island_Find_f1 (by kernel_rfl : tmpsOf Tryz.f96.results.toList = some [3]) (by decide) (by kernel_rfl) ?_
  simp only [c_island_Find_f1, go_sem]
  refine CallGi_flat (s_slices_Contains_int x.Bodies a hx) rfl ?_
  simp only [go_sem]
  refine retW_of [.share] [] [] rfl rfl (by simp [go_sem]) (by simp [assoc, go_sem]) (by simp [go_sem]) ?_
  simp only [go_sem]
theorem s_island_Find (l : List Island) (a : Int) (hl : l.length ≤ 1048576) (hx : ∀ x ∈ l, x.Bodies.length ≤ 1048576) : CallsA Tryz.prog F_island_Find [encD 3 Island.enc default l, .sc (.int .i64 a)] [] (.sc (.int .i64 (findI l a))) [] := by
  refine callsIO_of (rs := [_]) hm Tryz.func37 (by kernel_rfl) (by kernel_rfl) is_island_Find (by kernel_rfl : tmpsOf Tryz.f37.results.toList = some [4]) (by decide) (by kernel_rfl) ?_
  simp only [c_island_Find, go_sem]
  refine CallGi_obj [true, true] [(1, 64)] (s_slices_IndexFunc_Island l F_island_Find_f1 [] [.ptr 1 0 0 1] [(1, .box [.sc (.int .i64 a)])] (fun x => x.Bodies.any fun y => a == y) (by omega) (okO_id a) (by simp [go_sem, AV.ids]) (fun x h => s_island_Find_f1 a x (hx x h))) (by simp) (by simp) (by simp) (by simp [go_sem]) ?_
  simp only [go_sem]
  refine retW_of [.share] [] [] rfl rfl (by simp [go_sem]) (by simp [assoc, go_sem]) (by simp [go_sem]) ?_
  simp only [go_sem]
  rfl
def conB (w : Api.World) (a b : Int) : Bool := decide (0 ≤ findI (buildL w) a) && (findI (buildL w) a == findI (buildL w) b)
theorem s_Find_build (w : Api.World) (hw : Wsm w) (a : Int) : CallsA Tryz.prog F_island_Find [encD 3 Island.enc default (buildL w), .sc (.int .i64 a)] [] (.sc (.int .i64 (findI (buildL w) a))) [] :=
  s_island_Find _ a (by have := buildL_len w; have := hw.1; omega) fun x hx => by have := (buildL_mem hx).1; have := hw.1; omega
theorem s_island_Connected (w : Api.World) (a b : Int) (hw : Wsm w) : CallsA Tryz.prog F_island_Connected [.agg w.enc, .sc (.int .i64 a), .sc (.int .i64 b)] [] (.sc (.bool (conB w a b))) [] := by
  refine callsI_of (rs := [_]) hm Tryz.func38 (by kernel_rfl) (by kernel_rfl) is_island_Connected (by kernel_rfl : tmpsOf Tryz.f38.results.toList = some [6]) (by decide) (by kernel_rfl) ?_
  simp only [c_island_Connected, go_sem]
  refine CallGi_flat (s_Build w hw) rfl ?_
  simp only [go_sem]
  refine CallGi_flat (s_Find_build w hw a) rfl ?_
  simp only [go_sem]
  refine CallGi_flat (s_Find_build w hw b) rfl ?_
  simp only [go_sem]
  unfold conB
  split <;> simp [*]

end Go.Abs
