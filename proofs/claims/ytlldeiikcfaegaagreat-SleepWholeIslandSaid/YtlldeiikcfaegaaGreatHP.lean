/- A part of the walk: contracts of functions that the statement reaches. -/
import Derived.Test.YtlldeiikcfaegaaGreatAbsC
import Derived.Test.YtlldeiikcfaegaaGreatHO
set_option linter.unusedSimpArgs false
set_option linter.unusedVariables false
set_option linter.unnecessarySimpa false
set_option maxRecDepth 100000
set_option maxHeartbeats 2000000
set_option linter.unusedSimpArgs false
set_option linter.unusedVariables false
namespace Go.Abs
open Go.Proofs
open Api
/-- a call whose contract is about objects of the state, and leaves them as they are -/
theorem CallGi_sub {P : Program} {m : Nat → Option AObj} {f : FuncId} {avs : List AV} {b : Bool} {Q : ContR} {O : List (Nat × AObj)} {r : AV} (hc : CallsA P f avs O r O) (h : okO O) (hm : ∀ p ∈ O, m p.1 = some p.2)
    (ha : ∀ a ∈ avs, ∀ i ∈ a.ids, (ofL O i).isSome) (hb : b = true) (hK : @Ri Q b ⟨some r, O⟩) : @CallGi P m f avs b Q := by
  rw [← renO_id O] at hK
  refine ⟨⟨some r, renO id O⟩, fun _ => ?_, fun _ => hb, hK⟩
  have := CallDoes.mk (P := P) (m := m) (avs.map fun _ => true) avs O r O id [] false hc (argsOk_same ha)
    (fun i o hi => by rw [aobj_ren_id]; exact hm _ (ofL_mem' h.1 hi))
    (fun i cs hi j hj => h.2 _ (ofL_mem' h.1 hi) cs rfl j hj) (fun i hi => hi) (fun i hi => .inl hi) (by simpa using h.1) (fun e => by cases e)
  simpa [AV.ren_id] using this
/-- the same over a slice of the state's own -/
theorem s_slices_IndexFunc_int_own (k : Nat) (l : List Int) (f : FuncId) (first cap : List AV) (O : List (Nat × AObj)) (p : Int → Bool) (hl : l.length ≤ 1000000000) (hO : okO O) (hk : ofL O k = some (.arr 1 (encQ encInt 0 l)))
    (hids : ∀ i ∈ (AV.fn (.func f) first cap).ids, (ofL O i).isSome)
    (hp : ∀ x ∈ l, CallsA Tryz.prog f (first ++ [.sc (.int .i64 x)] ++ cap) O (.sc (.bool (p x))) O) :
    CallsA Tryz.prog F_slices_IndexFunc_int [.sl k 0 l.length l.length, .fn (.func f) first cap] O (.sc (.int .i64 (idxF p l))) O := by
  have hren : (AV.fn (.func f) first cap).ren id = .fn (.func f) first cap := AV.ren_id _
  have hargs : ∀ x : Int, ∀ a ∈ first ++ [.sc (.int .i64 x)] ++ cap, ∀ i ∈ a.ids, (ofL O i).isSome := fun x a ha i hi => by
    simp only [List.mem_append, List.mem_singleton] at ha
    refine hids i ?_
    simp only [AV.ids, List.mem_append]
    rcases ha with (ha | rfl) | ha
    · obtain ⟨k, hk⟩ := List.getElem?_of_mem ha; exact .inl (mem_idsL hk i hi)
    · simp [AV.ids] at hi
    · obtain ⟨k, hk⟩ := List.getElem?_of_mem ha; exact .inr (mem_idsL hk i hi)
  refine callsIO_of (rs := [_]) hm Tryz.func257 (by kernel_rfl) (by kernel_rfl) is_slices_IndexFunc_int (by kernel_rfl : tmpsOf Tryz.f257.results.toList = some [4]) (by decide) (by kernel_rfl) ?_
  simp only [c_slices_IndexFunc_int, go_sem]
  refine Wpi_loop hm (ι := {i : Nat // i ≤ l.length ∧ ∀ j, j < i → p (l.getD j 0) = false}) (fun i => [(0, .share, .sl k 0 l.length l.length), (1, .share, .fn (.func f) first cap), (7, .share, .sc (.int .i64 l.length)), (8, .share, .sc (.int .i64 i.1))])
    (fun i => O) (fun i => l.length - i.1) ⟨0, by omega, fun j hj => by omega⟩ ?_ ?_
  · refine weakE_same hO rfl ?_
    simp only [go_sem]
    exact ⟨rfl, (by show (ofL O k).isSome = true; rw [hk]; rfl), hren.symm, fun i hi => hids i hi⟩
  · rintro ⟨i, hi, hs⟩
    have hk' := hk
    simp only [stOf]
    generalize hmo : ofL O = mo at hk' ⊢
    simp only [c_slices_IndexFunc_intb0, go_sem, hk']
    split
    · rename_i hlt
      have hlt : i < l.length := by omega
      refine ⟨ok_, ?_⟩
      have hx : CallsA Tryz.prog f (first ++ .sc (.int .i64 (l.getD i 0)) :: cap) O (.sc (.bool (p (l.getD i 0)))) O := by
        have := hp (l.getD i 0) (mem_getD 0 hlt)
        rwa [List.append_assoc] at this
      refine CallGi_same hx hO hmo.symm (fun a ha => hargs (l.getD i 0) a (by rw [List.append_assoc]; exact ha)) rfl ?_
      have hself : wrm mo (renO id O) = ofL O := by rw [← hmo]; exact wrm_self hO
      simp only [go_sem]
      cases hpx : p (l.getD i 0) with
      | true =>
        rw [if_pos rfl]
        refine retW_same [.share] rfl rfl hO hself ?_
        simp only [go_sem]
        exact (idxF_at hlt hs hpx).symm
      | false =>
        rw [if_neg (by simp)]
        refine loop_next ⟨i + 1, by omega, fun j hj => by rcases Nat.lt_succ_iff_lt_or_eq.1 hj with h | rfl; exact hs j h; exact hpx⟩ (by show l.length - (i + 1) < l.length - i; omega) (weakE_same hO hself ?_)
        simp only [go_sem]
        exact ⟨rfl, (by show (ofL O k).isSome = true; rw [hk]; rfl), hren.symm, fun i hi => hids i hi, (by rw [IntKind.wrap_i64]; omega)⟩
    · rename_i hge
      refine retW_same [.share] rfl rfl hO hmo.symm ?_
      simp only [go_sem]
      exact (idxF_none fun j hj => hs j (by omega)).symm
theorem s_slices_ContainsFunc_int_own (k : Nat) (l : List Int) (f : FuncId) (first cap : List AV) (O : List (Nat × AObj)) (p : Int → Bool) (hl : l.length ≤ 1000000000) (hO : okO O) (hk : ofL O k = some (.arr 1 (encQ encInt 0 l)))
    (hids : ∀ i ∈ (AV.fn (.func f) first cap).ids, (ofL O i).isSome)
    (hp : ∀ x ∈ l, CallsA Tryz.prog f (first ++ [.sc (.int .i64 x)] ++ cap) O (.sc (.bool (p x))) O) :
    CallsA Tryz.prog F_slices_ContainsFunc_int [.sl k 0 l.length l.length, .fn (.func f) first cap] O (.sc (.bool (l.any p))) O := by
  refine callsIO_of (rs := [_]) hm Tryz.func188 (by kernel_rfl) (by kernel_rfl) is_slices_ContainsFunc_int (by kernel_rfl : tmpsOf Tryz.f188.results.toList = some [4]) (by decide) (by kernel_rfl) ?_
  simp only [c_slices_ContainsFunc_int, go_sem]
  refine CallGi_same (s_slices_IndexFunc_int_own k l f first cap O p hl hO hk hids hp) hO rfl ?_ rfl ?_
  · intro a ha
    simp only [List.mem_cons, List.not_mem_nil, or_false] at ha
    rcases ha with rfl | rfl
    · intro i hi; simp only [AV.ids, List.mem_singleton] at hi; subst hi; rw [hk]; rfl
    · exact hids
  · simp only [go_sem]
    refine retW_same [.share] rfl rfl hO (wrm_self hO) ?_
    simp only [go_sem]
    exact idxF_any p l

end Go.Abs
