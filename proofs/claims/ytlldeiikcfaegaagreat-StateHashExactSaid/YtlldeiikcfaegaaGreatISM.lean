/- A part of the walk: contracts of functions that the statement reaches. -/
import Derived.Test.YtlldeiikcfaegaaGreatAbsC
import Derived.Test.YtlldeiikcfaegaaGreatX3
set_option linter.unusedSimpArgs false
set_option linter.unusedVariables false
set_option linter.unnecessarySimpa false
set_option maxRecDepth 100000
set_option maxHeartbeats 2000000
set_option linter.unusedSimpArgs false
set_option linter.unusedVariables false
namespace Go.Abs
open Go.Proofs
open Api
theorem l_all_succ {α : Type} {l : List α} {p : α → Bool} {i : Nat} (d : α) (h : (l.take i).all p = true) (hi : i < l.length) (hp : p (l.getD i d) = true) : (l.take (i + 1)).all p = true := by
  rw [take_snoc d hi, List.all_append, h]; simpa using hp
theorem l_all_false {α : Type} {l : List α} {p : α → Bool} {i : Nat} (d : α) (hi : i < l.length) (hp : p (l.getD i d) = false) : l.all p = false := by
  rw [List.all_eq_false]; exact ⟨_, mem_getD d hi, by rw [hp]; simp⟩
theorem l_all_end {α : Type} {l : List α} {p : α → Bool} (h : (l.take l.length).all p = true) : l.all p = true := by rwa [List.take_length] at h

end Go.Abs
