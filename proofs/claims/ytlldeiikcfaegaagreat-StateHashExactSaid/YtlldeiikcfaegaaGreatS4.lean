/- A part of the walk: contracts of functions that the statement reaches. -/
import Derived.Test.YtlldeiikcfaegaaGreatAbsC
import Derived.Test.YtlldeiikcfaegaaGreatS3
import Derived.Test.YtlldeiikcfaegaaGreatHO
set_option linter.unusedSimpArgs false
set_option linter.unusedVariables false
set_option linter.unnecessarySimpa false
set_option maxRecDepth 100000
set_option maxHeartbeats 2000000
set_option linter.unusedSimpArgs false
set_option linter.unusedVariables false
namespace Go.Abs
open Go.Proofs
open Api
def idxG {α : Type} (d : α) (p : α → Bool) (l : List α) : Int := match (List.range l.length).find? (fun i => p (l.getD i d)) with | some i => i | none => -1
theorem idxG_at {α : Type} {d : α} {p : α → Bool} {l : List α} {i : Nat} (hi : i < l.length) (h : ∀ j, j < i → p (l.getD j d) = false) (hp : p (l.getD i d) = true) : idxG d p l = i := by
  have : (List.range l.length).find? (fun i => p (l.getD i d)) = some i := by
    rw [List.find?_range_eq_some]
    exact ⟨hp, by simpa using hi, fun j hj => by simp only [h j hj, Bool.not_false]⟩
  unfold idxG; rw [this]
theorem idxG_none {α : Type} {d : α} {p : α → Bool} {l : List α} (h : ∀ j, j < l.length → p (l.getD j d) = false) : idxG d p l = -1 := by
  have : (List.range l.length).find? (fun i => p (l.getD i d)) = none := by
    rw [List.find?_range_eq_none]
    exact fun j hj => by simp only [h j hj, Bool.not_false]
  unfold idxG; rw [this]
theorem idxG_lt {α : Type} {d : α} {p : α → Bool} {l : List α} : -1 ≤ idxG d p l ∧ (idxG d p l) < l.length := by
  unfold idxG
  cases hf : (List.range l.length).find? (fun i => p (l.getD i d)) with
  | none => simp; omega
  | some i => have := List.mem_of_find?_eq_some hf; rw [List.mem_range] at this; simp; omega
/-- the first body at which a function answers yes -/
theorem s_slices_IndexFunc_Body (l : List Body) (f : FuncId) (first cap : List AV) (O : List (Nat × AObj)) (p : Body → Bool) (hl : l.length ≤ 1048576) (hO : okO O)
    (hids : ∀ i ∈ (AV.fn (.func f) first cap).ids, (ofL O i).isSome)
    (hp : ∀ x ∈ l, CallsA Tryz.prog f (first ++ [.agg x.enc] ++ cap) O (.sc (.bool (p x))) O) :
    CallsA Tryz.prog F_slices_IndexFunc_Body [encD 20 Body.enc default l, .fn (.func f) first cap] O (.sc (.int .i64 (idxG default p l))) O := by
  have hren : (AV.fn (.func f) first cap).ren id = .fn (.func f) first cap := AV.ren_id _
  have hargs : ∀ x : Body, ∀ a ∈ first ++ [.agg x.enc] ++ cap, ∀ i ∈ a.ids, (ofL O i).isSome := fun x a ha i hi => by
    simp only [List.mem_append, List.mem_singleton] at ha
    refine hids i ?_
    simp only [AV.ids, List.mem_append]
    rcases ha with (ha | rfl) | ha
    · obtain ⟨k, hk⟩ := List.getElem?_of_mem ha; exact .inl (mem_idsL hk i hi)
    · simp [AV.ids, go_sem] at hi
    · obtain ⟨k, hk⟩ := List.getElem?_of_mem ha; exact .inr (mem_idsL hk i hi)
  refine callsIO_of (rs := [_]) hm Tryz.func180 (by kernel_rfl) (by kernel_rfl) is_slices_IndexFunc_Body (by kernel_rfl : tmpsOf Tryz.f180.results.toList = some [4]) (by decide) (by kernel_rfl) ?_
  simp only [c_slices_IndexFunc_Body, go_sem]
  refine Wpi_loop hm (ι := {i : Nat // i ≤ l.length ∧ ∀ j, j < i → p (l.getD j default) = false}) (fun i => [(0, .share, encD 20 Body.enc default l), (1, .share, .fn (.func f) first cap), (7, .share, .sc (.int .i64 l.length)), (8, .share, .sc (.int .i64 i.1))])
    (fun i => O) (fun i => l.length - i.1) ⟨0, by omega, fun j hj => by omega⟩ ?_ ?_
  · refine weakE_same hO rfl ?_
    simp only [go_sem]
    exact ⟨by rw [renL_id, renL_id], fun i hi => hids i hi⟩
  · rintro ⟨i, hi, hs⟩
    simp only [c_slices_IndexFunc_Bodyb0, go_sem]
    split
    · rename_i hlt
      have hlt : i < l.length := by omega
      refine ⟨ok_, ?_⟩
      have hx : CallsA Tryz.prog f (first ++ .agg (l.getD i default).enc :: cap) O (.sc (.bool (p (l.getD i default)))) O := by
        have := hp (l.getD i default) (mem_getD default hlt)
        rwa [List.append_assoc] at this
      refine CallGi_same hx hO rfl (fun a ha => hargs (l.getD i default) a (by rw [List.append_assoc]; exact ha)) rfl ?_
      simp only [go_sem]
      cases hpx : p (l.getD i default) with
      | true =>
        rw [if_pos rfl]
        refine retW_same [.share] rfl rfl hO (wrm_self hO) ?_
        simp only [go_sem]
        exact (idxG_at hlt hs hpx).symm
      | false =>
        rw [if_neg (by simp)]
        refine loop_next ⟨i + 1, by omega, fun j hj => by rcases Nat.lt_succ_iff_lt_or_eq.1 hj with h | rfl; exact hs j h; exact hpx⟩ (by show l.length - (i + 1) < l.length - i; omega) (weakE_same hO (wrm_self hO) ?_)
        simp only [go_sem]
        exact ⟨by rw [renL_id, renL_id], fun i hi => hids i hi, (by rw [IntKind.wrap_i64]; omega)⟩
    · rename_i hge
      refine retW_same [.share] rfl rfl hO rfl ?_
      simp only [go_sem]
      exact (idxG_none fun j hj => hs j (by omega)).symm

def findB (w : Api.World) (id : Int) : Int := idxG default (fun b : Body => b.ID == id) w.Bodies
theorem okO_fb (id : Int) : okO [(1, .box [.sc (.int .i64 id)])] := by
  refine ⟨by simp [go_sem], ?_⟩
  simp [go_sem, idsL, AV.ids]
theorem s_world_FindBody_f1 (id : Int) (b : Body) : CallsA Tryz.prog F_world_FindBody_f1 [.agg b.enc, .ptr 1 0 0 1] [(1, .box [.sc (.int .i64 id)])] (.sc (.bool (b.ID == id))) [(1, .box [.sc (.int .i64 id)])] := by
  refine callsIO_of (rs := [_]) hm Tryz.func181 (by kernel_rfl) (by kernel_rfl) is_world_FindBody_f1 (by kernel_rfl : tmpsOf Tryz.f181.results.toList = some [3]) (by decide) (by kernel_rfl) ?_
  simp only [c_world_FindBody_f1, go_sem]
  refine retW_of [.share] [] [] rfl rfl (by simp [go_sem]) (by simp [assoc, go_sem]) (by simp [go_sem]) ?_
  simp only [go_sem]
theorem s_world_FindBody (w : Api.World) (id : Int) (hw : w.Bodies.length ≤ 1048576) : CallsA Tryz.prog F_world_FindBody [.agg w.enc, .sc (.int .i64 id)] [] (.sc (.int .i64 (findB w id))) [] := by
  refine callsIO_of (rs := [_]) hm Tryz.func100 (by kernel_rfl) (by kernel_rfl) is_world_FindBody (by kernel_rfl : tmpsOf Tryz.f100.results.toList = some [4]) (by decide) (by kernel_rfl) ?_
  simp only [c_world_FindBody, go_sem]
  refine CallGi_obj [true, true] [(1, 64)] (s_slices_IndexFunc_Body w.Bodies F_world_FindBody_f1 [] [.ptr 1 0 0 1] [(1, .box [.sc (.int .i64 id)])] (fun b => b.ID == id) hw (okO_fb id) (by simp [go_sem, AV.ids]) (fun b _ => s_world_FindBody_f1 id b)) (by simp) (by simp) (by simp) (by simp [go_sem]) ?_
  simp only [go_sem]
  refine retW_of [.share] [] [] rfl rfl (by simp [go_sem]) (by simp [assoc, go_sem]) (by simp [go_sem]) ?_
  simp only [go_sem]
  rfl

end Go.Abs
