/- A part of the walk: contracts of functions that the statement reaches. -/
import Derived.Test.YtlldeiikcfaegaaGreatAbsC
import Derived.Test.YtlldeiikcfaegaaGreatS5
set_option linter.unusedSimpArgs false
set_option linter.unusedVariables false
set_option linter.unnecessarySimpa false
set_option maxRecDepth 100000
set_option maxHeartbeats 2000000
set_option linter.unusedSimpArgs false
set_option linter.unusedVariables false
namespace Go.Abs
open Go.Proofs
open Api
/-- a call that is not carried out -/
theorem CallGi_skip {P : Program} {m : Nat → Option AObj} {f : FuncId} {avs : List AV} {b : Bool} {Q : ContR} (hb : b = false) (r : AV) (hK : @Ri Q b ⟨some r, []⟩) : @CallGi P m f avs b Q :=
  ⟨⟨some r, []⟩, (fun h => by rw [hb] at h; cases h), (fun h => absurd rfl h), hK⟩
def drO (w : Api.World) (x : Island) (l : List Int) : List (Nat × AObj) := (32, .box [.ptr 6 0 0 1]) :: gobj w x l
attribute [go_sem] drO
theorem okO_drO (w : Api.World) (x : Island) (l : List Int) : okO (drO w x l) := by
  refine ⟨by simp [go_sem], ?_⟩
  simp [go_sem, idsL, AV.ids]
theorem s_sleep_group_driven_f1 (w : Api.World) (x : Island) (l : List Int) (i : Int) (h0 : 0 ≤ i) (h1 : i < w.Bodies.length) : CallsA Tryz.prog F_sleep_group_driven_f1 [.sc (.int .i64 i), .ptr 32 0 0 1] (drO w x l) (.sc (.bool (drvB (getB w i)))) (drO w x l) := by
  refine callsIO_of (rs := [_]) hm Tryz.func190 (by kernel_rfl) (by kernel_rfl) is_sleep_group_driven_f1 (by kernel_rfl : tmpsOf Tryz.f190.results.toList = some [3]) (by decide) (by kernel_rfl) ?_
  simp only [c_sleep_group_driven_f1, go_sem]
  refine ⟨⟨h0, h1⟩, ?_⟩
  refine CallGi_sub (s_sleep_group_driver w x l (getB w i)) (okO_gobj w x l) (by simp [go_sem]) (by simp [go_sem, AV.ids]) rfl ?_
  simp only [go_sem]
  refine retW_of [.share] [] [] rfl rfl (by simp [go_sem]) (by simp [assoc, go_sem]) (by simp [go_sem]) ?_
  simp only [go_sem]
def motor (w : Api.World) (i : Int) : Bool := if 0 ≤ i ∧ i < w.Joints.length then (w.Joints.getD i.toNat default).EnableMotor else false
theorem s_sleep_group_driven_f2 (w : Api.World) (x : Island) (l : List Int) (i : Int) : CallsA Tryz.prog F_sleep_group_driven_f2 [.sc (.int .i64 i), .ptr 32 0 0 1] (drO w x l) (.sc (.bool (motor w i))) (drO w x l) := by
  refine callsIO_of (rs := [_]) hm Tryz.func192 (by kernel_rfl) (by kernel_rfl) is_sleep_group_driven_f2 (by kernel_rfl : tmpsOf Tryz.f192.results.toList = some [3]) (by decide) (by kernel_rfl) ?_
  simp only [c_sleep_group_driven_f2, go_sem]
  refine ⟨fun h => (by by_cases h0 : 0 ≤ i; (rw [if_pos h0] at h; exact ⟨h0, of_decide_eq_true h⟩); (rw [if_neg h0] at h; cases h)), ?_⟩
  refine retW_of [.share] [] [] rfl rfl (by simp [go_sem]) (by simp [assoc, go_sem]) (by simp [go_sem]) ?_
  simp only [go_sem]
  unfold motor
  by_cases h0 : 0 ≤ i
  · by_cases h1 : i < (w.Joints.length : Int)
    · simp only [h0, h1, and_self, if_true, decide_true, Bool.true_and]
    · simp only [h0, h1, and_false, if_true, if_false, decide_false, Bool.false_eq_true, Bool.false_and]
  · simp only [h0, false_and, if_false, Bool.false_eq_true, Bool.false_and]
theorem noDsl_int (l : List Int) : (AObj.arr 1 (encQ encInt 0 l)).NoDsl := fun k hk => rfl
theorem avle_pre {z m : Nat} {l r : List Int} {g : Nat → List AV} (hm : m = l.length) (hg : ∀ i, g i = encInt ((l ++ r).getD i 0)) : avle (.dsl z m g) (.dsl z l.length (encAt encInt 0 l)) := by
  subst hm
  simp only [avle, true_and]
  intro i hi
  have : (l ++ r).getD i 0 = l.getD i 0 := by simp [List.getD, List.getElem?_append, hi]
  simp only [encAt, hg, this]
  exact avleL_refl _
theorem addI_mem {n : Nat} {l : List Int} {i x : Int} (h : x ∈ addI n l i) : x ∈ l ∨ (x = i ∧ 0 ≤ i ∧ i < n) := by
  unfold addI at h
  split at h
  · rename_i hc
    rw [List.mem_append, List.mem_singleton] at h
    rcases h with h | h
    · exact .inl h
    · exact .inr ⟨h, hc⟩
  · exact .inl h
theorem addID_in {w : Api.World} {l : List Int} {id : Int} (h : ∀ x ∈ l, 0 ≤ x ∧ x < (w.Bodies.length : Int)) : ∀ x ∈ addID w l id, 0 ≤ x ∧ x < (w.Bodies.length : Int) := by
  intro x hx
  unfold addID at hx
  split at hx
  · rcases addI_mem hx with h1 | ⟨rfl, h1⟩
    · exact h x h1
    · exact h1
  · exact h x hx
theorem fold_in {f : List Int → Int → List Int} {Q : Int → Prop} (hf : ∀ l i, (∀ x ∈ l, Q x) → ∀ x ∈ f l i, Q x) (l : List Int) : ∀ (acc : List Int), (∀ x ∈ acc, Q x) → ∀ x ∈ l.foldl f acc, Q x := by
  induction l with
  | nil => exact fun acc h => h
  | cons a l ih => exact fun acc h => ih (f acc a) (hf acc a h)
theorem bod3_in (w : Api.World) (x : Island) : ∀ i ∈ bod3 w x, 0 ≤ i ∧ i < (w.Bodies.length : Int) := by
  refine fold_in (fun l i h => ?_) _ _ (fold_in (fun l i h => ?_) _ _ (fold_in (fun l i h x hx => ?_) _ _ (by simp)))
  · unfold bodJ; split
    · exact addID_in (addID_in h)
    · exact h
  · unfold bodC; split
    · exact addID_in (addID_in h)
    · exact h
  · rcases addI_mem hx with h1 | ⟨rfl, h1⟩
    · exact h x h1
    · exact h1
theorem bodL_mem {w : Api.World} {x : Island} {i : Int} : i ∈ bodL w x ↔ i ∈ bod3 w x := by unfold bodL; rw [cmpct_mem, msort_mem]
theorem bodL_len (w : Api.World) (x : Island) : (bodL w x).length ≤ (bod3 w x).length := by unfold bodL; have := cmpct_len (msort (bod3 w x)); rwa [msort_len] at this
theorem bod3_len {w : Api.World} {x : Island} (hx : Ism x) : (bod3 w x).length ≤ 8000000 := by
  obtain ⟨x1, x2, x3⟩ := hx
  have h1 := fold_len (addI_len w.Bodies.length) x.Bodies []
  have h2 := fold_len (bodC_len w) x.Contacts (bod1 w x)
  have h3 := fold_len (bodJ_len w) x.Joints (bod2 w x)
  simp only [List.length_nil] at h1
  unfold bod3 
  unfold bod2 at h3 ⊢
  unfold bod1 at h2 h3 ⊢
  omega
/-- is the island driven? -/
def drivenB (w : Api.World) (x : Island) : Bool := (bodL w x).any (fun i => drvB (getB w i)) || x.Joints.any (motor w)
theorem s_sleep_group_driven (w : Api.World) (x : Island) (l : List Int) (hw : Wsm w) (hx : Ism x) : CallsA Tryz.prog F_sleep_group_driven [.ptr 6 0 0 1] (gobj w x l) (.sc (.bool (drivenB w x))) (gobj w x l) := by
  have hb3 := bod3_len (w := w) hx
  have hbl := bodL_len w x
  refine callsIO_of (rs := [_]) hm Tryz.func113 (by kernel_rfl) (by kernel_rfl) is_sleep_group_driven (by kernel_rfl : tmpsOf Tryz.f113.results.toList = some [2]) (by decide) (by kernel_rfl) ?_
  simp only [c_sleep_group_driven, go_sem]
  refine CallGi_objK [(1, 7)] (s_island_Bodies w x hw hx) rfl (by simp only [List.mem_singleton, forall_eq]; exact noDsl_int _) (by simp) (by simp) (by simp only [argsC, go_sem]) (by simp [go_sem]) rfl ?_
  simp only [go_sem]
  refine CallGi_obj [false, true] [] (s_slices_ContainsFunc_int (bodL w x) F_sleep_group_driven_f1 [] [.ptr 32 0 0 1] (drO w x l) (fun i => drvB (getB w i)) (by omega) (okO_drO w x l) (by simp [go_sem, AV.ids]) (fun i hi => s_sleep_group_driven_f1 w x l i (bod3_in w x i (bodL_mem.1 hi)).1 (bod3_in w x i (bodL_mem.1 hi)).2)) (by simp [go_sem]) (by simp [go_sem]) (by simp [go_sem]) (by simp [go_sem]) ?_
  simp only [go_sem]
  refine ⟨by rw [List.length_append, List.length_replicate]; omega, avle_pre rfl fun _ => rfl, ?_⟩
  cases hmv : (bodL w x).any (fun i => drvB (getB w i)) with
  | true =>
    refine CallGi_skip (by simp [hmv]) (.sc (.bool false)) ?_
    simp only [go_sem]
    refine retW_of [.share] [] [] rfl rfl (by simp [go_sem]) (by simp [assoc, go_sem]) (by simp [go_sem]) ?_
    simp only [go_sem, drivenB, hmv, Bool.true_or]
  | false =>
    refine CallGi_sub (s_slices_ContainsFunc_int x.Joints F_sleep_group_driven_f2 [] [.ptr 32 0 0 1] (drO w x l) (motor w) (by have := hx.2.2; omega) (okO_drO w x l) (by simp [go_sem, AV.ids]) (fun i hi => s_sleep_group_driven_f2 w x l i)) (okO_drO w x l) (by simp [go_sem]) (by simp [go_sem, AV.ids]) (by simp [hmv]) ?_
    simp only [go_sem]
    refine retW_of [.share] [] [] rfl rfl (by simp [go_sem]) (by simp [assoc, go_sem]) (by simp [go_sem]) ?_
    simp only [go_sem, drivenB, hmv, Bool.false_or]

def awakeB (w : Api.World) (x : Island) (l : List Int) : Bool := (l.any fun i => !(getB w i).Asleep) || drivenB w x
theorem s_sleep_group_awake (w : Api.World) (x : Island) (l : List Int) (hw : Wsm w) (hx : Ism x) (hl : l.length ≤ 1048576) (hi : ∀ i ∈ l, 0 ≤ i ∧ i < w.Bodies.length) : CallsA Tryz.prog F_sleep_group_awake [.ptr 6 0 0 1] (gobj w x l) (.sc (.bool (awakeB w x l))) (gobj w x l) := by
  refine callsIO_of (rs := [_]) hm Tryz.func109 (by kernel_rfl) (by kernel_rfl) is_sleep_group_awake (by kernel_rfl : tmpsOf Tryz.f109.results.toList = some [2]) (by decide) (by kernel_rfl) ?_
  simp only [c_sleep_group_awake, go_sem]
  refine CallGi_sub (s_sleep_group_any w x l F_sleep_group_active (fun b => !b.Asleep) (s_sleep_group_active w x l) hl hi) (okO_gobj w x l) (by simp [go_sem]) (by simp [go_sem, AV.ids]) rfl ?_
  simp only [go_sem]
  cases hmv : (l.any fun i => !(getB w i).Asleep) with
  | true =>
    refine CallGi_skip (by simp [hmv]) (.sc (.bool false)) ?_
    simp only [go_sem]
    refine retW_of [.share] [] [] rfl rfl (by simp [go_sem]) (by simp [assoc, go_sem]) (by simp [go_sem]) ?_
    simp only [go_sem, awakeB, hmv, Bool.true_or]
  | false =>
    refine CallGi_sub (s_sleep_group_driven w x l hw hx) (okO_gobj w x l) (by simp [go_sem]) (by simp [go_sem, AV.ids]) (by simp [hmv]) ?_
    simp only [go_sem]
    refine retW_of [.share] [] [] rfl rfl (by simp [go_sem]) (by simp [assoc, go_sem]) (by simp [go_sem]) ?_
    simp only [go_sem, awakeB, hmv, Bool.false_or]
def indX (w : Api.World) (x : Island) : List Int := inds x.Bodies w.Bodies.length
theorem indX_in (w : Api.World) (x : Island) : ∀ i ∈ indX w x, 0 ≤ i ∧ i < (w.Bodies.length : Int) := fun i hi => (inds_mem.1 hi).2
theorem indX_len {w : Api.World} {x : Island} (hx : Ism x) : (indX w x).length ≤ 1048576 := by have := inds_len x.Bodies w.Bodies.length; have := hx.1; unfold indX; omega

end Go.Abs
