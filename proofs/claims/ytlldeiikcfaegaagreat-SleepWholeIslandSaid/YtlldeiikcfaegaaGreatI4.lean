/- A part of the walk: contracts of functions that the statement reaches. -/
import Derived.Test.YtlldeiikcfaegaaGreatAbsC
import Derived.Test.YtlldeiikcfaegaaGreatI3
import Derived.Test.YtlldeiikcfaegaaGreatW1
import Derived.Test.YtlldeiikcfaegaaGreatISM
set_option linter.unusedSimpArgs false
set_option linter.unusedVariables false
set_option linter.unnecessarySimpa false
set_option maxRecDepth 100000
set_option maxHeartbeats 2000000
set_option linter.unusedSimpArgs false
set_option linter.unusedVariables false
namespace Go.Abs
open Go.Proofs
open Api
theorem memb_mem {p : Nat → Option Nat} {q : Nat} {a : Int} : ∀ {k}, a ∈ memb p q k ↔ ∃ j : Nat, a = (j : Int) ∧ j < k ∧ p j = some q
  | 0 => by simp [memb]
  | k + 1 => by
    unfold memb
    split
    · rename_i h
      rw [List.mem_append, memb_mem (k := k)]
      simp only [List.mem_singleton]
      constructor
      · rintro (⟨j, h1, h2, h3⟩ | h1)
        · exact ⟨j, h1, by omega, h3⟩
        · exact ⟨k, h1, by omega, h⟩
      · rintro ⟨j, h1, h2, h3⟩
        rcases Nat.lt_or_ge j k with h4 | h4
        · exact .inl ⟨j, h1, h4, h3⟩
        · obtain rfl : j = k := by omega
          exact .inr h1
    · rename_i h
      rw [memb_mem (k := k)]
      constructor
      · rintro ⟨j, h1, h2, h3⟩; exact ⟨j, h1, by omega, h3⟩
      · rintro ⟨j, h1, h2, h3⟩
        rcases Nat.lt_or_ge j k with h4 | h4
        · exact ⟨j, h1, h4, h3⟩
        · obtain rfl : j = k := by omega
          exact absurd h3 h
theorem buildL_len (w : Api.World) : (buildL w).length ≤ w.Bodies.length := by
  unfold buildL; split
  · rw [List.length_map, List.length_range]; exact nb_le _ _ _
  · simp
theorem buildL_mem {w : Api.World} {x : Island} (h : x ∈ buildL w) : x.Bodies.length ≤ w.Bodies.length ∧ x.Contacts.length ≤ w.Contacts.length ∧ x.Joints.length ≤ w.Joints.length := by
  unfold buildL at h; split at h
  · rw [List.mem_map] at h
    obtain ⟨q, _, rfl⟩ := h
    exact ⟨memb_len _ _ _, memb_len _ _ _, memb_len _ _ _⟩
  · cases h
end Go.Abs
