/- A part of the walk: contracts of functions that the statement reaches. -/
import Derived.Test.YtlldeiikcfaegaaGreatAbsC
import Derived.Test.YtlldeiikcfaegaaGreatS2
set_option linter.unusedSimpArgs false
set_option linter.unusedVariables false
set_option linter.unnecessarySimpa false
set_option maxRecDepth 100000
set_option maxHeartbeats 2000000
set_option linter.unusedSimpArgs false
set_option linter.unusedVariables false
namespace Go.Abs
open Go.Proofs
open Api
/-- objects that mention each other alone -/
def okO (O : List (Nat × AObj)) : Prop := (O.map (·.1)).Nodup ∧ ∀ p ∈ O, ∀ cs, p.2 = .box cs → ∀ j ∈ idsL cs, (ofL O j).isSome
theorem ofL_mem_eq {O : List (Nat × AObj)} (hn : (O.map (·.1)).Nodup) {i : Nat} {o : AObj} (h : (i, o) ∈ O) : ofL O i = some o := by
  rw [ofL_get O hn]
  have : O.find? (fun p => p.1 == i) = some (i, o) := by
    induction O with
    | nil => cases h
    | cons p O ih =>
      simp only [List.map_cons, List.nodup_cons] at hn
      rcases List.mem_cons.1 h with e | h'
      · subst e; simp
      · have hne : p.1 ≠ i := fun e => hn.1 (e ▸ List.mem_map_of_mem (f := (·.1)) h')
        simp only [List.find?_cons, beq_eq_false_iff_ne.2 hne]
        exact ih hn.2 h'
  rw [this]; rfl
theorem boxLe_refl {O : List (Nat × AObj)} : ∀ {cs : List AV}, (∀ j ∈ idsL cs, (ofL O j).isSome) → BoxLe id [] O cs cs
  | [], _ => .nil
  | c :: cs, h => by
    refine .cons ?_ (boxLe_refl fun j hj => h j (by simp [idsL, hj]))
    have : CellLe id [] O (c.ren id) c := .share fun j hj => ⟨h j (by simp [idsL, hj]), by simp⟩
    rwa [AV.ren_id] at this
theorem objsOk_refl {O : List (Nat × AObj)} (h : okO O) : ∀ (l : List (Nat × AObj)), (∀ p ∈ l, p ∈ O) → objsOk (ofL O) id [] O l
  | [], _ => trivial
  | (i, o) :: l, hl => by
    refine ⟨?_, objsOk_refl h l fun p hp => hl p (List.mem_cons_of_mem _ hp)⟩
    have hio := hl (i, o) (List.mem_cons_self ..)
    rw [if_neg (by simp)]
    simp only [id, ofL_mem_eq h.1 hio]
    cases o with
    | box cs => exact .inl ⟨cs, cs, rfl, rfl, boxLe_refl (h.2 _ hio cs rfl)⟩
    | _ => exact .inr ⟨(fun cs e => by cases e), (fun cs e => by cases e), .inl rfl⟩
theorem weakE_same {σ : St} {T : Slots} {O : List (Nat × AObj)} (h : okO O) (hobj : σ.objs = ofL O) (hs : slotsC σ id [] O T [] fun wr => wr = []) : WeakE (O.map (·.1)) σ T O := by
  refine ⟨id, [], h.1, (by have e : (List.map (fun x => x.fst) O).filter (fun i => !([] : List Nat).contains i) = List.map (fun x => x.fst) O := List.filter_eq_self.2 (fun a _ => by simp); simp only [e, List.map_id]; exact h.1), fun k hk => ⟨by simp, rfl, ?_⟩, slotsC_ok (fun wr hwr => ?_) T [] hs⟩
  · rw [List.mem_map] at hk
    obtain ⟨p, hp, rfl⟩ := hk
    rw [ofL_mem_eq h.1 hp]; rfl
  · subst hwr
    have : wrm σ.objs [] = ofL O := hobj
    rw [this]
    exact objsOk_refl h O fun _ hp => hp
theorem retW_same {σ : St} {ts : List Nat} {rs : List AV} {O : List (Nat × AObj)} (md : List Mode) (hm : md.length = ts.length) (hr : rs.length = ts.length) (h : okO O) (hobj : σ.objs = ofL O) (hs : slotsC σ id [] O (zip3 ts md rs) [] fun wr => wr = []) :
    RetW (O.map (·.1)) σ ts rs O := ⟨md, hm, hr, weakE_same h hobj hs⟩
theorem aobj_ren_id (o : AObj) : o.ren id = o := by
  cases o <;> simp only [AObj.ren]
  rw [renL_id]
theorem renO_id (O : List (Nat × AObj)) : renO id O = O := by
  induction O with
  | nil => rfl
  | cons p O ih =>
    show (id p.1, p.2.ren id) :: renO id O = p :: O
    rw [ih, aobj_ren_id]; rfl
theorem wrm_self {O : List (Nat × AObj)} (h : okO O) : wrm (ofL O) (renO id O) = ofL O := by
  rw [renO_id]
  funext x
  rw [wrm_get O _ h.1]
  cases hf : O.find? (fun p => p.1 == x) with
  | none => rfl
  | some p =>
    have h1 := List.find?_some hf
    simp only [beq_iff_eq] at h1
    subst h1
    exact (ofL_mem_eq h.1 (List.mem_of_find?_eq_some hf)).symm
theorem argsOk_same {m : Nat → Option AObj} {O : List (Nat × AObj)} : ∀ {avs : List AV}, (∀ a ∈ avs, ∀ i ∈ a.ids, (ofL O i).isSome) → ArgsOk m id O (avs.map fun _ => true) avs avs []
  | [], _ => rfl
  | a :: avs, h => ⟨AV.ren_id a, h a (List.mem_cons_self ..), argsOk_same fun b hb => h b (List.mem_cons_of_mem _ hb)⟩
/-- a call whose contract is about the very objects of the state -/
theorem CallGi_same {P : Program} {m : Nat → Option AObj} {f : FuncId} {avs : List AV} {b : Bool} {Q : ContR} {O : List (Nat × AObj)} {r : AV} (hc : CallsA P f avs O r O) (h : okO O) (hm : m = ofL O)
    (ha : ∀ a ∈ avs, ∀ i ∈ a.ids, (ofL O i).isSome) (hb : b = true) (hK : @Ri Q b ⟨some r, renO id O⟩) : @CallGi P m f avs b Q := by
  refine ⟨⟨some r, renO id O⟩, fun _ => ?_, fun _ => hb, hK⟩
  have := CallDoes.mk (P := P) (m := m) (avs.map fun _ => true) avs O r O id [] false hc (argsOk_same ha)
    (fun i o hi => by rw [aobj_ren_id]; subst hm; exact hi)
    (fun i cs hi j hj => h.2 _ (ofL_mem' h.1 hi) cs rfl j hj) (fun i hi => hi) (fun i hi => .inl hi) (by simpa using h.1) (fun e => by cases e)
  simpa [AV.ren_id] using this

def idxF (p : Int → Bool) (l : List Int) : Int := match (List.range l.length).find? (fun i => p (l.getD i 0)) with | some i => i | none => -1
theorem idxF_at {p : Int → Bool} {l : List Int} {i : Nat} (hi : i < l.length) (h : ∀ j, j < i → p (l.getD j 0) = false) (hp : p (l.getD i 0) = true) : idxF p l = i := by
  have : (List.range l.length).find? (fun i => p (l.getD i 0)) = some i := by
    rw [List.find?_range_eq_some]
    exact ⟨hp, by simpa using hi, fun j hj => by simp only [h j hj, Bool.not_false]⟩
  unfold idxF; rw [this]
theorem idxF_none {p : Int → Bool} {l : List Int} (h : ∀ j, j < l.length → p (l.getD j 0) = false) : idxF p l = -1 := by
  have : (List.range l.length).find? (fun i => p (l.getD i 0)) = none := by
    rw [List.find?_range_eq_none]
    exact fun j hj => by simp only [h j hj, Bool.not_false]
  unfold idxF; rw [this]
theorem idxF_any (p : Int → Bool) (l : List Int) : decide (0 ≤ idxF p l) = l.any p := by
  cases h : l.any p with
  | true =>
    rw [List.any_eq_true] at h
    obtain ⟨x, hx, hp⟩ := h
    obtain ⟨k, hk, rfl⟩ := List.getElem_of_mem hx
    unfold idxF
    cases hf : (List.range l.length).find? (fun i => p (l.getD i 0)) with
    | none =>
      rw [List.find?_range_eq_none] at hf
      have := hf k hk
      simp [List.getD, hk, hp] at this
    | some i => simp
  | false =>
    rw [List.any_eq_false] at h
    rw [idxF_none fun j hj => by simpa using h _ (mem_getD 0 hj)]; decide

/-- the first element at which a function answers yes; the function may look at the objects O -/
theorem s_slices_IndexFunc_int (l : List Int) (f : FuncId) (first cap : List AV) (O : List (Nat × AObj)) (p : Int → Bool) (hl : l.length ≤ 1000000000) (hO : okO O)
    (hids : ∀ i ∈ (AV.fn (.func f) first cap).ids, (ofL O i).isSome)
    (hp : ∀ x ∈ l, CallsA Tryz.prog f (first ++ [.sc (.int .i64 x)] ++ cap) O (.sc (.bool (p x))) O) :
    CallsA Tryz.prog F_slices_IndexFunc_int [encD 1 encInt 0 l, .fn (.func f) first cap] O (.sc (.int .i64 (idxF p l))) O := by
  have hren : (AV.fn (.func f) first cap).ren id = .fn (.func f) first cap := AV.ren_id _
  have hargs : ∀ x : Int, ∀ a ∈ first ++ [.sc (.int .i64 x)] ++ cap, ∀ i ∈ a.ids, (ofL O i).isSome := fun x a ha i hi => by
    simp only [List.mem_append, List.mem_singleton] at ha
    refine hids i ?_
    simp only [AV.ids, List.mem_append]
    rcases ha with (ha | rfl) | ha
    · obtain ⟨k, hk⟩ := List.getElem?_of_mem ha; exact .inl (mem_idsL hk i hi)
    · simp [AV.ids] at hi
    · obtain ⟨k, hk⟩ := List.getElem?_of_mem ha; exact .inr (mem_idsL hk i hi)
  refine callsIO_of (rs := [_]) hm Tryz.func257 (by kernel_rfl) (by kernel_rfl) is_slices_IndexFunc_int (by kernel_rfl : tmpsOf Tryz.f257.results.toList = some [4]) (by decide) (by kernel_rfl) ?_
  simp only [c_slices_IndexFunc_int, go_sem]
  refine Wpi_loop hm (ι := {i : Nat // i ≤ l.length ∧ ∀ j, j < i → p (l.getD j 0) = false}) (fun i => [(0, .share, encD 1 encInt 0 l), (1, .share, .fn (.func f) first cap), (7, .share, .sc (.int .i64 l.length)), (8, .share, .sc (.int .i64 i.1))])
    (fun i => O) (fun i => l.length - i.1) ⟨0, by omega, fun j hj => by omega⟩ ?_ ?_
  · refine weakE_same hO rfl ?_
    simp only [go_sem]
    exact ⟨by rw [renL_id, renL_id], fun i hi => hids i hi⟩
  · rintro ⟨i, hi, hs⟩
    simp only [c_slices_IndexFunc_intb0, go_sem]
    split
    · rename_i hlt
      have hlt : i < l.length := by omega
      refine ⟨ok_, ?_⟩
      have hx : CallsA Tryz.prog f (first ++ .sc (.int .i64 (l.getD i 0)) :: cap) O (.sc (.bool (p (l.getD i 0)))) O := by
        have := hp (l.getD i 0) (mem_getD 0 hlt)
        rwa [List.append_assoc] at this
      refine CallGi_same hx hO rfl (fun a ha => hargs (l.getD i 0) a (by rw [List.append_assoc]; exact ha)) rfl ?_
      simp only [go_sem]
      cases hpx : p (l.getD i 0) with
      | true =>
        rw [if_pos rfl]
        refine retW_same [.share] rfl rfl hO (wrm_self hO) ?_
        simp only [go_sem]
        exact (idxF_at hlt hs hpx).symm
      | false =>
        rw [if_neg (by simp)]
        refine loop_next ⟨i + 1, by omega, fun j hj => by rcases Nat.lt_succ_iff_lt_or_eq.1 hj with h | rfl; exact hs j h; exact hpx⟩ (by show l.length - (i + 1) < l.length - i; omega) (weakE_same hO (wrm_self hO) ?_)
        simp only [go_sem]
        exact ⟨by rw [renL_id, renL_id], fun i hi => hids i hi, (by rw [IntKind.wrap_i64]; omega)⟩
    · rename_i hge
      refine retW_same [.share] rfl rfl hO rfl ?_
      simp only [go_sem]
      exact (idxF_none fun j hj => hs j (by omega)).symm
theorem s_slices_ContainsFunc_int (l : List Int) (f : FuncId) (first cap : List AV) (O : List (Nat × AObj)) (p : Int → Bool) (hl : l.length ≤ 1000000000) (hO : okO O)
    (hids : ∀ i ∈ (AV.fn (.func f) first cap).ids, (ofL O i).isSome)
    (hp : ∀ x ∈ l, CallsA Tryz.prog f (first ++ [.sc (.int .i64 x)] ++ cap) O (.sc (.bool (p x))) O) :
    CallsA Tryz.prog F_slices_ContainsFunc_int [encD 1 encInt 0 l, .fn (.func f) first cap] O (.sc (.bool (l.any p))) O := by
  refine callsIO_of (rs := [_]) hm Tryz.func188 (by kernel_rfl) (by kernel_rfl) is_slices_ContainsFunc_int (by kernel_rfl : tmpsOf Tryz.f188.results.toList = some [4]) (by decide) (by kernel_rfl) ?_
  simp only [c_slices_ContainsFunc_int, go_sem]
  refine CallGi_same (s_slices_IndexFunc_int l f first cap O p hl hO hids hp) hO rfl ?_ rfl ?_
  · intro a ha
    simp only [List.mem_cons, List.not_mem_nil, or_false] at ha
    rcases ha with rfl | rfl
    · intro i hi; simp [AV.ids] at hi
    · exact hids
  · simp only [go_sem]
    refine retW_same [.share] rfl rfl hO (wrm_self hO) ?_
    simp only [go_sem]
    exact idxF_any p l

end Go.Abs
