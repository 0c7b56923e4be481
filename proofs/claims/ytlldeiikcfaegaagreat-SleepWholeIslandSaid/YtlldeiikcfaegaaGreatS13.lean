/- A part of the walk: contracts of functions that the statement reaches. -/
import Derived.Test.YtlldeiikcfaegaaGreatAbsC
import Derived.Test.YtlldeiikcfaegaaGreatS12
set_option linter.unusedSimpArgs false
set_option linter.unusedVariables false
set_option linter.unnecessarySimpa false
set_option maxRecDepth 100000
set_option maxHeartbeats 2000000
set_option linter.unusedSimpArgs false
set_option linter.unusedVariables false
namespace Go.Abs
open Go.Proofs
open Api
theorem wakeW_sm {w : Api.World} (hw : Wsm w) (x : Island) : Wsm (wakeW w x) := by
  obtain ⟨w1, w2, w3, w4, w5, w6⟩ := hw
  have hd : Body.sm default := ⟨by decide, fun f hf => by cases hf⟩
  have key : ∀ (l : List Int) (s : List Body × List (Int × Int)), (∀ b ∈ s.1, Body.sm b) → ∀ b ∈ (l.foldl wkStep s).1, Body.sm b := by
    intro l
    induction l with
    | nil => exact fun s h => h
    | cons a l ih =>
      intro s h
      refine ih _ fun b hb => ?_
      unfold wkStep at hb
      split at hb
      · rcases List.mem_or_eq_of_mem_set hb with h1 | rfl
        · exact h b h1
        · show Body.sm (s.1.getD a.toNat default)
          rcases getD_mem_or s.1 a.toNat default with h2 | h2
          · exact h _ h2
          · rw [h2]; exact hd
      · exact h b hb
  refine ⟨?_, w2, w3, w4, ?_, w6⟩
  · show (wkR w x).1.length ≤ _
    rw [wkR_len]; exact w1
  · show ∀ b ∈ (wkR w x).1, Body.sm b
    unfold wkR; split
    · exact key _ (w.Bodies, []) w5
    · exact w5

end Go.Abs
