/- A part of the walk: contracts of functions that the statement reaches. -/
import Derived.Test.YtlldeiikcfaegaaGreatAbsC
import Derived.Test.YtlldeiikcfaegaaGreatS3
import Derived.Test.YtlldeiikcfaegaaGreatSK
set_option linter.unusedSimpArgs false
set_option linter.unusedVariables false
set_option linter.unnecessarySimpa false
set_option maxRecDepth 100000
set_option maxHeartbeats 2000000
set_option linter.unusedSimpArgs false
set_option linter.unusedVariables false
namespace Go.Abs
open Go.Proofs
open Api
def idxG {α : Type} (d : α) (p : α → Bool) (l : List α) : Int := match (List.range l.length).find? (fun i => p (l.getD i d)) with | some i => i | none => -1
theorem idxG_at {α : Type} {d : α} {p : α → Bool} {l : List α} {i : Nat} (hi : i < l.length) (h : ∀ j, j < i → p (l.getD j d) = false) (hp : p (l.getD i d) = true) : idxG d p l = i := by
  have : (List.range l.length).find? (fun i => p (l.getD i d)) = some i := by
    rw [List.find?_range_eq_some]
    exact ⟨hp, by simpa using hi, fun j hj => by simp only [h j hj, Bool.not_false]⟩
  unfold idxG; rw [this]
theorem idxG_none {α : Type} {d : α} {p : α → Bool} {l : List α} (h : ∀ j, j < l.length → p (l.getD j d) = false) : idxG d p l = -1 := by
  have : (List.range l.length).find? (fun i => p (l.getD i d)) = none := by
    rw [List.find?_range_eq_none]
    exact fun j hj => by simp only [h j hj, Bool.not_false]
  unfold idxG; rw [this]
theorem idxG_lt {α : Type} {d : α} {p : α → Bool} {l : List α} : -1 ≤ idxG d p l ∧ (idxG d p l) < l.length := by
  unfold idxG
  cases hf : (List.range l.length).find? (fun i => p (l.getD i d)) with
  | none => simp; omega
  | some i => have := List.mem_of_find?_eq_some hf; rw [List.mem_range] at this; simp; omega
def findB (w : Api.World) (id : Int) : Int := idxG default (fun b : Body => b.ID == id) w.Bodies
end Go.Abs
