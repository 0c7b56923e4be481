/- A part of the walk: contracts of functions that the statement reaches. -/
import Derived.Test.YtlldeiikcfaegaaGreatAbsC
import Derived.Test.YtlldeiikcfaegaaGreatI7
set_option linter.unusedSimpArgs false
set_option linter.unusedVariables false
set_option linter.unnecessarySimpa false
set_option maxRecDepth 100000
set_option maxHeartbeats 2000000
set_option linter.unusedSimpArgs false
set_option linter.unusedVariables false
namespace Go.Abs
open Go.Proofs
open Api
def idB (w : Api.World) (i : Nat) : Int := (w.Bodies.getD i default).ID
theorem ids_up (w : Api.World) : ∀ (k : Nat) (s : Int), itrE (d_world_validBodies_L1 w) k 0 = .inl s → (∀ i, i < k → idB w i ≤ s) ∧ ∀ i j, i < j → j < k → idB w i < idB w j
  | 0, s, _ => ⟨fun i hi => by omega, fun i j h1 h2 => by omega⟩
  | k + 1, s, h => by
    simp only [itrE] at h
    cases hk : itrE (d_world_validBodies_L1 w) k 0 with
    | inr r => rw [hk] at h; cases h
    | inl s' =>
      rw [hk] at h
      obtain ⟨a1, a2⟩ := ids_up w k s' hk
      simp only [d_world_validBodies_L1] at h
      split at h
      · cases h
      · rename_i hc
        injection h with h
        simp only [Bool.or_eq_true, decide_eq_true_eq, not_or] at hc
        have h1 : s' < idB w k := by unfold idB; omega
        have h2 : idB w k = s := h
        refine ⟨fun i hi => ?_, fun i j hij hj => ?_⟩
        · rcases Nat.lt_or_ge i k with h3 | h3
          · have := a1 i h3; omega
          · obtain rfl : i = k := by omega
            omega
        · rcases Nat.lt_or_ge j k with h3 | h3
          · exact a2 i j hij h3
          · obtain rfl : j = k := by omega
            have := a1 i hij; omega
theorem ids_inj {w : Api.World} (hv : d_world_Validate w = 0) {i j : Nat} (hi : i < w.Bodies.length) (hj : j < w.Bodies.length) (h : idB w i = idB w j) : i = j := by
  have hb := ((val_iff w).1 hv).2.2.2.1
  unfold d_world_validBodies at hb
  cases hk : itrE (d_world_validBodies_L1 w) w.Bodies.length 0 with
  | inr r =>
    rw [hk] at hb
    exfalso
    have key : ∀ (n : Nat) (s : Int) (r : Bool), itrE (d_world_validBodies_L1 w) n s = .inr r → r = false := by
      intro n
      induction n with
      | zero => intro s r h; cases h
      | succ n ih =>
        intro s r h
        simp only [itrE] at h
        cases hn : itrE (d_world_validBodies_L1 w) n s with
        | inr r' => rw [hn] at h; injection h with h; subst h; exact ih s _ hn
        | inl s' =>
          rw [hn] at h
          simp only [d_world_validBodies_L1] at h
          split at h
          · injection h with h; exact h.symm
          · cases h
    have := key _ _ _ hk
    subst this; cases hb
  | inl s =>
    have hu := (ids_up w _ s hk).2
    rcases Nat.lt_trichotomy i j with h1 | h1 | h1
    · have := hu i j h1 hj; omega
    · exact h1
    · have := hu j i h1 hi; omega
theorem findB_spec {w : Api.World} {a : Int} (h : 0 ≤ findB w a) : (findB w a).toNat < w.Bodies.length ∧ idB w (findB w a).toNat = a := by
  unfold findB idxG at h ⊢
  cases hf : (List.range w.Bodies.length).find? (fun i => (w.Bodies.getD i default).ID == a) with
  | none => rw [hf] at h; simp at h
  | some i =>
    have h1 := List.mem_of_find?_eq_some hf
    have h2 := List.find?_some hf
    rw [List.mem_range] at h1
    exact ⟨h1, by simpa [idB] using h2⟩
theorem findB_ex {w : Api.World} {a : Int} {i : Nat} (hi : i < w.Bodies.length) (h : idB w i = a) : 0 ≤ findB w a := by
  unfold findB idxG
  cases hf : (List.range w.Bodies.length).find? (fun i => (w.Bodies.getD i default).ID == a) with
  | none =>
    rw [List.find?_range_eq_none] at hf
    have := hf i hi
    unfold idB at h
    rw [h] at this; simp at this
  | some i => simp
/-- a sum over the first k numbers -/
def cs (f : Nat → Nat) : Nat → Nat
  | 0 => 0
  | k + 1 => cs f k + f k
end Go.Abs
