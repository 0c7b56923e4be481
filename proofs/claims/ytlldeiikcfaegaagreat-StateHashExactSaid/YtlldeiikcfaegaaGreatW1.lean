/- A part of the walk: contracts of functions that the statement reaches. -/
import Derived.Test.YtlldeiikcfaegaaGreatAbsC
import Derived.Test.YtlldeiikcfaegaaGreatV1
import Derived.Test.YtlldeiikcfaegaaGreatS4
set_option linter.unusedSimpArgs false
set_option linter.unusedVariables false
set_option linter.unnecessarySimpa false
set_option maxRecDepth 100000
set_option maxHeartbeats 2000000
set_option linter.unusedSimpArgs false
set_option linter.unusedVariables false
namespace Go.Abs
open Go.Proofs
open Api
attribute [go_sem] Option.toList_none Option.toList_some
theorem idxG_any {α : Type} {d : α} (p : α → Bool) (l : List α) : decide (0 ≤ idxG d p l) = l.any p := by
  cases h : l.any p with
  | true =>
    rw [List.any_eq_true] at h
    obtain ⟨x, hx, hp⟩ := h
    obtain ⟨k, hk, rfl⟩ := List.getElem_of_mem hx
    unfold idxG
    cases hf : (List.range l.length).find? (fun i => p (l.getD i d)) with
    | none =>
      rw [List.find?_range_eq_none] at hf
      have := hf k hk
      simp [List.getD, hk, hp] at this
    | some i => simp
  | false =>
    rw [List.any_eq_false] at h
    rw [idxG_none fun j hj => by simpa using h _ (mem_getD d hj)]; decide


theorem s_slices_IndexFunc_Vec (l : List Vec) (f : FuncId) (first cap : List AV) (O : List (Nat × AObj)) (p : Vec → Bool) (hl : l.length ≤ 4194304) (hO : okO O)
    (hids : ∀ i ∈ (AV.fn (.func f) first cap).ids, (ofL O i).isSome)
    (hp : ∀ x ∈ l, CallsA Tryz.prog f (first ++ [.agg x.enc] ++ cap) O (.sc (.bool (p x))) O) :
    CallsA Tryz.prog F_slices_IndexFunc_Vec [encD 2 Vec.enc default l, .fn (.func f) first cap] O (.sc (.int .i64 (idxG default p l))) O := by
  have hren : (AV.fn (.func f) first cap).ren id = .fn (.func f) first cap := AV.ren_id _
  have hargs : ∀ x : Vec, ∀ a ∈ first ++ [.agg x.enc] ++ cap, ∀ i ∈ a.ids, (ofL O i).isSome := fun x a ha i hi => by
    simp only [List.mem_append, List.mem_singleton] at ha
    refine hids i ?_
    simp only [AV.ids, List.mem_append]
    rcases ha with (ha | rfl) | ha
    · obtain ⟨k, hk⟩ := List.getElem?_of_mem ha; exact .inl (mem_idsL hk i hi)
    · simp [AV.ids, go_sem] at hi
    · obtain ⟨k, hk⟩ := List.getElem?_of_mem ha; exact .inr (mem_idsL hk i hi)
  refine callsIO_of (rs := [_]) hm Tryz.func316 (by kernel_rfl) (by kernel_rfl) is_slices_IndexFunc_Vec (by kernel_rfl : tmpsOf Tryz.f316.results.toList = some [4]) (by decide) (by kernel_rfl) ?_
  simp only [c_slices_IndexFunc_Vec, go_sem]
  refine Wpi_loop hm (ι := {i : Nat // i ≤ l.length ∧ ∀ j, j < i → p (l.getD j default) = false}) (fun i => [(0, .share, encD 2 Vec.enc default l), (1, .share, .fn (.func f) first cap), (7, .share, .sc (.int .i64 l.length)), (8, .share, .sc (.int .i64 i.1))])
    (fun i => O) (fun i => l.length - i.1) ⟨0, by omega, fun j hj => by omega⟩ ?_ ?_
  · refine weakE_same hO rfl ?_
    simp only [go_sem]
    exact ⟨by rw [renL_id, renL_id], fun i hi => hids i hi⟩
  · rintro ⟨i, hi, hs⟩
    simp only [c_slices_IndexFunc_Vecb0, go_sem]
    split
    · rename_i hlt
      have hlt : i < l.length := by omega
      refine ⟨ok_, ?_⟩
      have hx : CallsA Tryz.prog f (first ++ .agg (l.getD i default).enc :: cap) O (.sc (.bool (p (l.getD i default)))) O := by
        have := hp (l.getD i default) (mem_getD default hlt)
        rwa [List.append_assoc] at this
      refine CallGi_same hx hO rfl (fun a ha => hargs (l.getD i default) a (by rw [List.append_assoc]; exact ha)) rfl ?_
      simp only [go_sem]
      cases hpx : p (l.getD i default) with
      | true =>
        rw [if_pos rfl]
        refine retW_same [.share] rfl rfl hO (wrm_self hO) ?_
        simp only [go_sem]
        exact (idxG_at hlt hs hpx).symm
      | false =>
        rw [if_neg (by simp)]
        refine loop_next ⟨i + 1, by omega, fun j hj => by rcases Nat.lt_succ_iff_lt_or_eq.1 hj with h | rfl; exact hs j h; exact hpx⟩ (by show l.length - (i + 1) < l.length - i; omega) (weakE_same hO (wrm_self hO) ?_)
        simp only [go_sem]
        exact ⟨by rw [renL_id, renL_id], fun i hi => hids i hi, (by rw [IntKind.wrap_i64]; omega)⟩
    · rename_i hge
      refine retW_same [.share] rfl rfl hO rfl ?_
      simp only [go_sem]
      exact (idxG_none fun j hj => hs j (by omega)).symm
theorem s_slices_ContainsFunc_Vec (l : List Vec) (f : FuncId) (first cap : List AV) (O : List (Nat × AObj)) (p : Vec → Bool) (hl : l.length ≤ 4194304) (hO : okO O)
    (hids : ∀ i ∈ (AV.fn (.func f) first cap).ids, (ofL O i).isSome)
    (hp : ∀ x ∈ l, CallsA Tryz.prog f (first ++ [.agg x.enc] ++ cap) O (.sc (.bool (p x))) O) :
    CallsA Tryz.prog F_slices_ContainsFunc_Vec [encD 2 Vec.enc default l, .fn (.func f) first cap] O (.sc (.bool (l.any p))) O := by
  refine callsIO_of (rs := [_]) hm Tryz.func297 (by kernel_rfl) (by kernel_rfl) is_slices_ContainsFunc_Vec (by kernel_rfl : tmpsOf Tryz.f297.results.toList = some [4]) (by decide) (by kernel_rfl) ?_
  simp only [c_slices_ContainsFunc_Vec, go_sem]
  refine CallGi_same (s_slices_IndexFunc_Vec l f first cap O p hl hO hids hp) hO rfl ?_ rfl ?_
  · intro a ha
    simp only [List.mem_cons, List.not_mem_nil, or_false] at ha
    rcases ha with rfl | rfl
    · intro i hi; simp [AV.ids] at hi
    · exact hids
  · simp only [go_sem]
    refine retW_same [.share] rfl rfl hO (wrm_self hO) ?_
    simp only [go_sem]
    exact idxG_any p l


theorem s_slices_IndexFunc_ContactPoint (l : List ContactPoint) (f : FuncId) (first cap : List AV) (O : List (Nat × AObj)) (p : ContactPoint → Bool) (hl : l.length ≤ 4194304) (hO : okO O)
    (hids : ∀ i ∈ (AV.fn (.func f) first cap).ids, (ofL O i).isSome)
    (hp : ∀ x ∈ l, CallsA Tryz.prog f (first ++ [.agg x.enc] ++ cap) O (.sc (.bool (p x))) O) :
    CallsA Tryz.prog F_slices_IndexFunc_ContactPoint [encD 6 ContactPoint.enc default l, .fn (.func f) first cap] O (.sc (.int .i64 (idxG default p l))) O := by
  have hren : (AV.fn (.func f) first cap).ren id = .fn (.func f) first cap := AV.ren_id _
  have hargs : ∀ x : ContactPoint, ∀ a ∈ first ++ [.agg x.enc] ++ cap, ∀ i ∈ a.ids, (ofL O i).isSome := fun x a ha i hi => by
    simp only [List.mem_append, List.mem_singleton] at ha
    refine hids i ?_
    simp only [AV.ids, List.mem_append]
    rcases ha with (ha | rfl) | ha
    · obtain ⟨k, hk⟩ := List.getElem?_of_mem ha; exact .inl (mem_idsL hk i hi)
    · simp [AV.ids, go_sem] at hi
    · obtain ⟨k, hk⟩ := List.getElem?_of_mem ha; exact .inr (mem_idsL hk i hi)
  refine callsIO_of (rs := [_]) hm Tryz.func268 (by kernel_rfl) (by kernel_rfl) is_slices_IndexFunc_ContactPoint (by kernel_rfl : tmpsOf Tryz.f268.results.toList = some [4]) (by decide) (by kernel_rfl) ?_
  simp only [c_slices_IndexFunc_ContactPoint, go_sem]
  refine Wpi_loop hm (ι := {i : Nat // i ≤ l.length ∧ ∀ j, j < i → p (l.getD j default) = false}) (fun i => [(0, .share, encD 6 ContactPoint.enc default l), (1, .share, .fn (.func f) first cap), (7, .share, .sc (.int .i64 l.length)), (8, .share, .sc (.int .i64 i.1))])
    (fun i => O) (fun i => l.length - i.1) ⟨0, by omega, fun j hj => by omega⟩ ?_ ?_
  · refine weakE_same hO rfl ?_
    simp only [go_sem]
    exact ⟨by rw [renL_id, renL_id], fun i hi => hids i hi⟩
  · rintro ⟨i, hi, hs⟩
    simp only [c_slices_IndexFunc_ContactPointb0, go_sem]
    split
    · rename_i hlt
      have hlt : i < l.length := by omega
      refine ⟨ok_, ?_⟩
      have hx : CallsA Tryz.prog f (first ++ .agg (l.getD i default).enc :: cap) O (.sc (.bool (p (l.getD i default)))) O := by
        have := hp (l.getD i default) (mem_getD default hlt)
        rwa [List.append_assoc] at this
      refine CallGi_same hx hO rfl (fun a ha => hargs (l.getD i default) a (by rw [List.append_assoc]; exact ha)) rfl ?_
      simp only [go_sem]
      cases hpx : p (l.getD i default) with
      | true =>
        rw [if_pos rfl]
        refine retW_same [.share] rfl rfl hO (wrm_self hO) ?_
        simp only [go_sem]
        exact (idxG_at hlt hs hpx).symm
      | false =>
        rw [if_neg (by simp)]
        refine loop_next ⟨i + 1, by omega, fun j hj => by rcases Nat.lt_succ_iff_lt_or_eq.1 hj with h | rfl; exact hs j h; exact hpx⟩ (by show l.length - (i + 1) < l.length - i; omega) (weakE_same hO (wrm_self hO) ?_)
        simp only [go_sem]
        exact ⟨by rw [renL_id, renL_id], fun i hi => hids i hi, (by rw [IntKind.wrap_i64]; omega)⟩
    · rename_i hge
      refine retW_same [.share] rfl rfl hO rfl ?_
      simp only [go_sem]
      exact (idxG_none fun j hj => hs j (by omega)).symm
theorem s_slices_ContainsFunc_ContactPoint (l : List ContactPoint) (f : FuncId) (first cap : List AV) (O : List (Nat × AObj)) (p : ContactPoint → Bool) (hl : l.length ≤ 4194304) (hO : okO O)
    (hids : ∀ i ∈ (AV.fn (.func f) first cap).ids, (ofL O i).isSome)
    (hp : ∀ x ∈ l, CallsA Tryz.prog f (first ++ [.agg x.enc] ++ cap) O (.sc (.bool (p x))) O) :
    CallsA Tryz.prog F_slices_ContainsFunc_ContactPoint [encD 6 ContactPoint.enc default l, .fn (.func f) first cap] O (.sc (.bool (l.any p))) O := by
  refine callsIO_of (rs := [_]) hm Tryz.func212 (by kernel_rfl) (by kernel_rfl) is_slices_ContainsFunc_ContactPoint (by kernel_rfl : tmpsOf Tryz.f212.results.toList = some [4]) (by decide) (by kernel_rfl) ?_
  simp only [c_slices_ContainsFunc_ContactPoint, go_sem]
  refine CallGi_same (s_slices_IndexFunc_ContactPoint l f first cap O p hl hO hids hp) hO rfl ?_ rfl ?_
  · intro a ha
    simp only [List.mem_cons, List.not_mem_nil, or_false] at ha
    rcases ha with rfl | rfl
    · intro i hi; simp [AV.ids] at hi
    · exact hids
  · simp only [go_sem]
    refine retW_same [.share] rfl rfl hO (wrm_self hO) ?_
    simp only [go_sem]
    exact idxG_any p l


theorem s_slices_IndexFunc_PairKey (l : List PairKey) (f : FuncId) (first cap : List AV) (O : List (Nat × AObj)) (p : PairKey → Bool) (hl : l.length ≤ 4194304) (hO : okO O)
    (hids : ∀ i ∈ (AV.fn (.func f) first cap).ids, (ofL O i).isSome)
    (hp : ∀ x ∈ l, CallsA Tryz.prog f (first ++ [.agg x.enc] ++ cap) O (.sc (.bool (p x))) O) :
    CallsA Tryz.prog F_slices_IndexFunc_PairKey [encD 4 PairKey.enc default l, .fn (.func f) first cap] O (.sc (.int .i64 (idxG default p l))) O := by
  have hren : (AV.fn (.func f) first cap).ren id = .fn (.func f) first cap := AV.ren_id _
  have hargs : ∀ x : PairKey, ∀ a ∈ first ++ [.agg x.enc] ++ cap, ∀ i ∈ a.ids, (ofL O i).isSome := fun x a ha i hi => by
    simp only [List.mem_append, List.mem_singleton] at ha
    refine hids i ?_
    simp only [AV.ids, List.mem_append]
    rcases ha with (ha | rfl) | ha
    · obtain ⟨k, hk⟩ := List.getElem?_of_mem ha; exact .inl (mem_idsL hk i hi)
    · simp [AV.ids, go_sem] at hi
    · obtain ⟨k, hk⟩ := List.getElem?_of_mem ha; exact .inr (mem_idsL hk i hi)
  refine callsIO_of (rs := [_]) hm Tryz.func216 (by kernel_rfl) (by kernel_rfl) is_slices_IndexFunc_PairKey (by kernel_rfl : tmpsOf Tryz.f216.results.toList = some [4]) (by decide) (by kernel_rfl) ?_
  simp only [c_slices_IndexFunc_PairKey, go_sem]
  refine Wpi_loop hm (ι := {i : Nat // i ≤ l.length ∧ ∀ j, j < i → p (l.getD j default) = false}) (fun i => [(0, .share, encD 4 PairKey.enc default l), (1, .share, .fn (.func f) first cap), (7, .share, .sc (.int .i64 l.length)), (8, .share, .sc (.int .i64 i.1))])
    (fun i => O) (fun i => l.length - i.1) ⟨0, by omega, fun j hj => by omega⟩ ?_ ?_
  · refine weakE_same hO rfl ?_
    simp only [go_sem]
    exact ⟨by rw [renL_id, renL_id], fun i hi => hids i hi⟩
  · rintro ⟨i, hi, hs⟩
    simp only [c_slices_IndexFunc_PairKeyb0, go_sem]
    split
    · rename_i hlt
      have hlt : i < l.length := by omega
      refine ⟨ok_, ?_⟩
      have hx : CallsA Tryz.prog f (first ++ .agg (l.getD i default).enc :: cap) O (.sc (.bool (p (l.getD i default)))) O := by
        have := hp (l.getD i default) (mem_getD default hlt)
        rwa [List.append_assoc] at this
      refine CallGi_same hx hO rfl (fun a ha => hargs (l.getD i default) a (by rw [List.append_assoc]; exact ha)) rfl ?_
      simp only [go_sem]
      cases hpx : p (l.getD i default) with
      | true =>
        rw [if_pos rfl]
        refine retW_same [.share] rfl rfl hO (wrm_self hO) ?_
        simp only [go_sem]
        exact (idxG_at hlt hs hpx).symm
      | false =>
        rw [if_neg (by simp)]
        refine loop_next ⟨i + 1, by omega, fun j hj => by rcases Nat.lt_succ_iff_lt_or_eq.1 hj with h | rfl; exact hs j h; exact hpx⟩ (by show l.length - (i + 1) < l.length - i; omega) (weakE_same hO (wrm_self hO) ?_)
        simp only [go_sem]
        exact ⟨by rw [renL_id, renL_id], fun i hi => hids i hi, (by rw [IntKind.wrap_i64]; omega)⟩
    · rename_i hge
      refine retW_same [.share] rfl rfl hO rfl ?_
      simp only [go_sem]
      exact (idxG_none fun j hj => hs j (by omega)).symm
theorem s_slices_ContainsFunc_PairKey (l : List PairKey) (f : FuncId) (first cap : List AV) (O : List (Nat × AObj)) (p : PairKey → Bool) (hl : l.length ≤ 4194304) (hO : okO O)
    (hids : ∀ i ∈ (AV.fn (.func f) first cap).ids, (ofL O i).isSome)
    (hp : ∀ x ∈ l, CallsA Tryz.prog f (first ++ [.agg x.enc] ++ cap) O (.sc (.bool (p x))) O) :
    CallsA Tryz.prog F_slices_ContainsFunc_PairKey [encD 4 PairKey.enc default l, .fn (.func f) first cap] O (.sc (.bool (l.any p))) O := by
  refine callsIO_of (rs := [_]) hm Tryz.func144 (by kernel_rfl) (by kernel_rfl) is_slices_ContainsFunc_PairKey (by kernel_rfl : tmpsOf Tryz.f144.results.toList = some [4]) (by decide) (by kernel_rfl) ?_
  simp only [c_slices_ContainsFunc_PairKey, go_sem]
  refine CallGi_same (s_slices_IndexFunc_PairKey l f first cap O p hl hO hids hp) hO rfl ?_ rfl ?_
  · intro a ha
    simp only [List.mem_cons, List.not_mem_nil, or_false] at ha
    rcases ha with rfl | rfl
    · intro i hi; simp [AV.ids] at hi
    · exact hids
  · simp only [go_sem]
    refine retW_same [.share] rfl rfl hO (wrm_self hO) ?_
    simp only [go_sem]
    exact idxG_any p l


end Go.Abs
