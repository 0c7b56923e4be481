/- A part of the walk: contracts of functions that the statement reaches. -/
import Derived.Test.YtlldeiikcfaegaaGreatAbsC
import Derived.Test.YtlldeiikcfaegaaGreatY4
import Derived.Test.YtlldeiikcfaegaaGreatS9
import Derived.Test.YtlldeiikcfaegaaGreatE3
set_option linter.unusedSimpArgs false
set_option linter.unusedVariables false
set_option linter.unnecessarySimpa false
set_option maxRecDepth 100000
set_option maxHeartbeats 2000000
set_option linter.unusedSimpArgs false
set_option linter.unusedVariables false
namespace Go.Abs
open Go.Proofs
open Api
theorem find_range {α : Type} (d : α) (p : α → Bool) (l : List α) : l.find? p = ((List.range l.length).find? fun i => p (l.getD i d)).map fun i => l.getD i d := by
  cases hf : (List.range l.length).find? (fun i => p (l.getD i d)) with
  | none =>
    rw [List.find?_range_eq_none] at hf
    rw [Option.map_none, List.find?_eq_none]
    intro x hx
    obtain ⟨i, hi, rfl⟩ := List.getElem_of_mem hx
    have := hf i hi
    simpa [List.getD, hi] using this
  | some i =>
    rw [List.find?_range_eq_some] at hf
    obtain ⟨h1, h2, h3⟩ := hf
    rw [List.mem_range] at h2
    rw [Option.map_some, List.find?_eq_some_iff_getElem]
    refine ⟨h1, i, h2, by simp [List.getD, h2], fun j hj => ?_⟩
    have := h3 j hj
    have hjl : j < l.length := by omega
    simpa [List.getD, hjl] using this
theorem bF_findB (w : Api.World) (id : Int) : bF w.Bodies id = if findB w id < 0 then none else some (w.Bodies.getD (findB w id).toNat default) := by
  have hp : (fun b : Body => id == b.ID) = fun b : Body => b.ID == id := by funext b; rw [Bool.eq_iff_iff, beq_iff_eq, beq_iff_eq]; exact ⟨Eq.symm, Eq.symm⟩
  unfold bF findB idxG
  rw [hp, find_range default]
  cases hf : (List.range w.Bodies.length).find? (fun i => (w.Bodies.getD i default).ID == id) with
  | none => simp
  | some i => simp
theorem cP_symm (a b : List Body) (id : Int) : cP b a id = cP a b id := by
  unfold cP
  cases bF a id <;> cases bF b id <;> simp [eq_comm]
theorem cR_cP {a b : Api.World} {id : Int} (h : 0 ≤ findB a id) : cR a b id = cP a.Bodies b.Bodies id := by
  have ha : ¬ findB a id < 0 := by omega
  unfold cR cP
  simp only [bF_findB, ha, if_false]
  by_cases hb : findB b id < 0
  · simp only [hb, if_true]
  · simp only [hb, if_false]
theorem idsP_mem {a b bs : List Body} {y : Int} : y ∈ idsP a b bs ↔ ∃ x ∈ bs, x.ID = y ∧ cP a b y = true := by
  unfold idsP
  rw [List.mem_map]
  constructor
  · rintro ⟨x, hx, rfl⟩
    rw [List.mem_filter] at hx
    exact ⟨x, hx.1, rfl, hx.2⟩
  · rintro ⟨x, hx, rfl, h⟩
    exact ⟨x, List.mem_filter.2 ⟨hx, h⟩, rfl⟩
theorem chgL_mem {a b : Api.World} {y : Int} : y ∈ chgL a b ↔ ∃ x ∈ a.Bodies ++ b.Bodies, x.ID = y ∧ cP a.Bodies b.Bodies y = true := by
  unfold chgL; rw [cmpct_mem, msort_mem, idsP_mem]
theorem chgL_str (a b : Api.World) : StrS (chgL a b) := compact_str (msort_le _)
theorem chgR_mem {a b : Api.World} {y : Int} : ∀ {bs : List Body} {l : List Int}, y ∈ chgR a b l bs ↔ y ∈ l ∨ ∃ x ∈ bs, x.ID = y ∧ cR a b y = true
  | [], l => by simp [chgR]
  | x :: bs, l => by
    have ih := chgR_mem (a := a) (b := b) (y := y) (bs := bs) (l := if cR a b x.ID = true then insI l x.ID else l)
    have e : chgR a b l (x :: bs) = chgR a b (if cR a b x.ID = true then insI l x.ID else l) bs := rfl
    rw [e, ih]
    have hm : y ∈ (if cR a b x.ID = true then insI l x.ID else l) ↔ y ∈ l ∨ (x.ID = y ∧ cR a b y = true) := by
      split
      · rename_i h
        rw [insI_mem]
        constructor
        · rintro (rfl | h1)
          · exact .inr ⟨rfl, h⟩
          · exact .inl h1
        · rintro (h1 | ⟨rfl, _⟩)
          · exact .inr h1
          · exact .inl rfl
      · rename_i h
        constructor
        · exact .inl
        · rintro (h1 | ⟨rfl, h2⟩)
          · exact h1
          · exact absurd h2 h
    rw [hm]
    constructor
    · rintro ((h | h) | ⟨z, hz, h⟩)
      · exact .inl h
      · exact .inr ⟨x, List.mem_cons_self .., h⟩
      · exact .inr ⟨z, List.mem_cons_of_mem _ hz, h⟩
    · rintro (h | ⟨z, hz, h⟩)
      · exact .inl (.inl h)
      · rcases List.mem_cons.1 hz with rfl | hz
        · exact .inl (.inr h)
        · exact .inr ⟨z, hz, h⟩
theorem chgR_str {a b : Api.World} : ∀ {bs : List Body} {l : List Int}, StrS l → StrS (chgR a b l bs)
  | [], l, h => h
  | x :: bs, l, h => by
    have e : chgR a b l (x :: bs) = chgR a b (if cR a b x.ID = true then insI l x.ID else l) bs := rfl
    rw [e]
    refine chgR_str ?_
    split
    · exact insI_str h
    · exact h
theorem find_of_mem {w : Api.World} {x : Body} (h : x ∈ w.Bodies) : 0 ≤ findB w x.ID := by
  obtain ⟨i, hi, rfl⟩ := List.getElem_of_mem h
  exact findB_ex hi (by unfold idB; simp [List.getD, hi])
theorem chg_ref (a b : Api.World) : chgR b a (chgR a b [] a.Bodies) b.Bodies = chgL a b := by
  refine str_ext (chgR_str (chgR_str List.Pairwise.nil)) (chgL_str a b) fun y => ?_
  rw [chgR_mem, chgR_mem, chgL_mem]
  constructor
  · rintro ((h | ⟨x, hx, rfl, h⟩) | ⟨x, hx, rfl, h⟩)
    · cases h
    · exact ⟨x, List.mem_append_left _ hx, rfl, by rw [← cR_cP (find_of_mem hx)]; exact h⟩
    · exact ⟨x, List.mem_append_right _ hx, rfl, by rw [← cP_symm, ← cR_cP (find_of_mem hx)]; exact h⟩
  · rintro ⟨x, hx, rfl, h⟩
    rcases List.mem_append.1 hx with hx | hx
    · exact .inl (.inr ⟨x, hx, rfl, by rw [cR_cP (find_of_mem hx)]; exact h⟩)
    · exact .inr ⟨x, hx, rfl, by rw [cR_cP (find_of_mem hx), cP_symm]; exact h⟩
theorem chg_symm (a b : Api.World) : chgL b a = chgL a b := by
  refine str_ext (chgL_str b a) (chgL_str a b) fun y => ?_
  rw [chgL_mem, chgL_mem]
  constructor
  · rintro ⟨x, hx, h1, h2⟩
    exact ⟨x, by rw [List.mem_append] at hx ⊢; exact hx.symm, h1, by rw [← cP_symm]; exact h2⟩
  · rintro ⟨x, hx, h1, h2⟩
    exact ⟨x, by rw [List.mem_append] at hx ⊢; exact hx.symm, h1, by rw [cP_symm]; exact h2⟩
theorem chg_self (a : Api.World) : chgL a a = [] := by
  refine List.eq_nil_iff_forall_not_mem.2 fun y hy => ?_
  obtain ⟨x, hx, rfl, h⟩ := chgL_mem.1 hy
  have hx : x ∈ a.Bodies := by rw [List.mem_append] at hx; exact hx.elim id id
  unfold cP at h
  rw [bF_findB, if_neg (by have := find_of_mem hx; omega)] at h
  simp at h
theorem chgL_len (a b : Api.World) : (chgL a b).length ≤ a.Bodies.length + b.Bodies.length := by
  have h1 := cmpct_len (msort (idsP a.Bodies b.Bodies (a.Bodies ++ b.Bodies)))
  have h2 := msort_len (idsP a.Bodies b.Bodies (a.Bodies ++ b.Bodies))
  have h3 := idsP_len a.Bodies b.Bodies (a.Bodies ++ b.Bodies)
  rw [List.length_append] at h3
  unfold chgL; omega
theorem s_r46_Changed (a b : Api.World) (ha : Wsm a) (hb : Wsm b) : CallsA Tryz.prog F_r46_ChangedBodies [.agg a.enc, .agg b.enc] [] (encD 1 encInt 0 (chgL a b)) [] := by
  rw [← chg_ref]; exact s_r46_ChangedBodies a b ha hb
theorem s_law46_StateHashChangedBodies (a b : Api.World) : CallsA Tryz.prog F_law46_StateHashChangedBodies [.agg a.enc, .agg b.enc] [] (.sc (.bool true)) [] := by
  refine callsI_of (rs := [_]) hm Tryz.func13 (by kernel_rfl) (by kernel_rfl) is_law46_StateHashChangedBodies (by kernel_rfl : tmpsOf Tryz.f13.results.toList = some [4]) (by decide) (by kernel_rfl) ?_
  simp only [c_law46_StateHashChangedBodies, go_sem]
  refine CallGi_flat (s_r25_Few a) rfl ?_
  simp only [go_sem]
  cases hfa : few25 a with
  | false =>
    refine CallGi_skip (by simp) (.sc (.bool true)) ?_
    simp only [go_sem]
    refine CallGi_flat s_law46_example rfl ?_
    simp only [go_sem]
  | true =>
    refine CallGi_flat (s_r25_Few b) rfl ?_
    simp only [go_sem]
    cases hfb : few25 b with
    | false =>
      simp only [go_sem]
      refine CallGi_flat s_law46_example rfl ?_
      simp only [go_sem]
    | true =>
      have ha := few25_sm hfa
      have hb := few25_sm hfb
      simp only [go_sem]
      refine CallGi_flat (s_ChangedBodies a b ha hb) rfl ?_
      simp only [go_sem]
      refine CallGi_flat (s_r46_Changed a b ha hb) rfl ?_
      simp only [go_sem]
      have hB := s_ChangedBodies b a hb ha
      rw [chg_symm] at hB
      refine CallGi_flat hB rfl ?_
      simp only [go_sem]
      have hS := s_ChangedBodies a a ha ha
      rw [chg_self] at hS
      refine CallGi_flat hS rfl ?_
      simp only [List.length_nil, go_sem]
      rw [if_neg (by simp)]
      have hl := chgL_len a b
      have ha1 := ha.1
      have hb1 := hb.1
      generalize chgL a b = l at *
      refine Wpi_loop hm (ι := {i : Nat // i ≤ l.length}) (fun i => [(5, .share, encD 1 encInt 0 l), (6, .share, encD 1 encInt 0 l), (7, .share, encD 1 encInt 0 l), (8, .share, .sc (.int .i64 i.1))])
        (fun _ => []) (fun i => l.length - i.1) ⟨0, by omega⟩ ?_ ?_
      · refine weakE_ [] [] ?_
        simp only [go_sem]
        try rfl
      · rintro ⟨i, hi⟩
        simp only [c_law46_StateHashChangedBodiesb0, go_sem]
        by_cases hlt : i < l.length
        · rw [if_pos (by omega)]
          refine ⟨ok_, ok_, fun _ => ok_, fun _ => ok_, ?_⟩
          rw [if_neg (by simp)]
          refine loop_next ⟨i + 1, by omega⟩ (by show l.length - (i + 1) < l.length - i; omega) (weakE_ [] [] ?_)
          simp only [go_sem]
          exact (by rw [IntKind.wrap_i64]; omega)
        · rw [if_neg (by omega)]
          refine CallGi_flat s_law46_example rfl ?_
          simp only [go_sem]

end Go.Abs
