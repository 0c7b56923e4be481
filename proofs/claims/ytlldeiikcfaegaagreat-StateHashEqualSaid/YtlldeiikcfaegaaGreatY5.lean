/- A part of the walk: contracts of functions that the statement reaches. -/
import Derived.Test.YtlldeiikcfaegaaGreatAbsC
import Derived.Test.YtlldeiikcfaegaaGreatY4
import Derived.Test.YtlldeiikcfaegaaGreatS9
import Derived.Test.YtlldeiikcfaegaaGreatE3
set_option linter.unusedSimpArgs false
set_option linter.unusedVariables false
set_option linter.unnecessarySimpa false
set_option maxRecDepth 100000
set_option maxHeartbeats 2000000
set_option linter.unusedSimpArgs false
set_option linter.unusedVariables false
namespace Go.Abs
open Go.Proofs
open Api
theorem find_range {α : Type} (d : α) (p : α → Bool) (l : List α) : l.find? p = ((List.range l.length).find? fun i => p (l.getD i d)).map fun i => l.getD i d := by
  cases hf : (List.range l.length).find? (fun i => p (l.getD i d)) with
  | none =>
    rw [List.find?_range_eq_none] at hf
    rw [Option.map_none, List.find?_eq_none]
    intro x hx
    obtain ⟨i, hi, rfl⟩ := List.getElem_of_mem hx
    have := hf i hi
    simpa [List.getD, hi] using this
  | some i =>
    rw [List.find?_range_eq_some] at hf
    obtain ⟨h1, h2, h3⟩ := hf
    rw [List.mem_range] at h2
    rw [Option.map_some, List.find?_eq_some_iff_getElem]
    refine ⟨h1, i, h2, by simp [List.getD, h2], fun j hj => ?_⟩
    have := h3 j hj
    have hjl : j < l.length := by omega
    simpa [List.getD, hjl] using this
theorem bF_findB (w : Api.World) (id : Int) : bF w.Bodies id = if findB w id < 0 then none else some (w.Bodies.getD (findB w id).toNat default) := by
  have hp : (fun b : Body => id == b.ID) = fun b : Body => b.ID == id := by funext b; rw [Bool.eq_iff_iff, beq_iff_eq, beq_iff_eq]; exact ⟨Eq.symm, Eq.symm⟩
  unfold bF findB idxG
  rw [hp, find_range default]
  cases hf : (List.range w.Bodies.length).find? (fun i => (w.Bodies.getD i default).ID == id) with
  | none => simp
  | some i => simp
theorem idsP_mem {a b bs : List Body} {y : Int} : y ∈ idsP a b bs ↔ ∃ x ∈ bs, x.ID = y ∧ cP a b y = true := by
  unfold idsP
  rw [List.mem_map]
  constructor
  · rintro ⟨x, hx, rfl⟩
    rw [List.mem_filter] at hx
    exact ⟨x, hx.1, rfl, hx.2⟩
  · rintro ⟨x, hx, rfl, h⟩
    exact ⟨x, List.mem_filter.2 ⟨hx, h⟩, rfl⟩
theorem chgL_mem {a b : Api.World} {y : Int} : y ∈ chgL a b ↔ ∃ x ∈ a.Bodies ++ b.Bodies, x.ID = y ∧ cP a.Bodies b.Bodies y = true := by
  unfold chgL; rw [cmpct_mem, msort_mem, idsP_mem]
theorem find_of_mem {w : Api.World} {x : Body} (h : x ∈ w.Bodies) : 0 ≤ findB w x.ID := by
  obtain ⟨i, hi, rfl⟩ := List.getElem_of_mem h
  exact findB_ex hi (by unfold idB; simp [List.getD, hi])
theorem chg_self (a : Api.World) : chgL a a = [] := by
  refine List.eq_nil_iff_forall_not_mem.2 fun y hy => ?_
  obtain ⟨x, hx, rfl, h⟩ := chgL_mem.1 hy
  have hx : x ∈ a.Bodies := by rw [List.mem_append] at hx; exact hx.elim id id
  unfold cP at h
  rw [bF_findB, if_neg (by have := find_of_mem hx; omega)] at h
  simp at h
end Go.Abs
