/- A part of the walk: contracts of functions that the statement reaches. -/
import Derived.Test.YtlldeiikcfaegaaGreatAbsC
import Derived.Test.YtlldeiikcfaegaaGreatI5
set_option linter.unusedSimpArgs false
set_option linter.unusedVariables false
set_option linter.unnecessarySimpa false
set_option maxRecDepth 100000
set_option maxHeartbeats 2000000
set_option linter.unusedSimpArgs false
set_option linter.unusedVariables false
namespace Go.Abs
open Go.Proofs
open Api
/-- the world without contacts and joints -/
def bare (w : Api.World) : Api.World := { w with Contacts := [], Joints := [] }
theorem bare_sm {w : Api.World} (h : Wsm w) : Wsm (bare w) := ⟨h.1, by simp [bare], by simp [bare], h.2.2.2.1, h.2.2.2.2.1, by simp [bare]⟩
theorem val_iff (w : Api.World) : d_world_Validate w = 0 ↔ d_world_ValidateSettings w.Settings = 0 ∧ (w.Bodies.length ≤ 32 ∧ w.Joints.length ≤ 32 ∧ w.Contacts.length ≤ 8192 ∧ w.Overlaps.length ≤ 8192) ∧ (inR w.NextID 1 1099511627776 = true ∧ inR w.Frame 0 1099511627776 = true) ∧
    d_world_validBodies w = true ∧ d_world_validJoints w = true ∧ okContacts w = true := by
  unfold d_world_Validate
  simp only []
  by_cases h1 : d_world_ValidateSettings w.Settings = 0
  · rw [if_neg (by simp [h1])]
    by_cases h2 : w.Bodies.length ≤ 32 ∧ w.Joints.length ≤ 32 ∧ w.Contacts.length ≤ 8192 ∧ w.Overlaps.length ≤ 8192
    · rw [if_neg (by simp only [Bool.or_eq_true, decide_eq_true_eq]; omega)]
      cases inR w.NextID 1 1099511627776 <;> cases inR w.Frame 0 1099511627776 <;> cases d_world_validBodies w <;> cases d_world_validJoints w <;> cases okContacts w <;> simp [h1, h2]
    · rw [if_pos (by simp only [Bool.or_eq_true, decide_eq_true_eq]; omega)]
      exact ⟨fun h => by simp at h, fun h => absurd h.2.1 h2⟩
  · rw [if_pos (by simpa using h1)]
    exact ⟨fun h => by simp at h, fun h => absurd h.1 h1⟩
theorem bare_val {w : Api.World} (h : d_world_Validate w = 0) : d_world_Validate (bare w) = 0 := by
  rw [val_iff] at h ⊢
  obtain ⟨h1, ⟨h2, h3, h4, h5⟩, h6, h7, h8, h9⟩ := h
  refine ⟨h1, ⟨h2, by simp [bare], by simp [bare], h5⟩, h6, h7, rfl, ?_⟩
  unfold okContacts at h9 ⊢
  simp only [Bool.and_eq_true, Bool.not_eq_true', List.any_append, Bool.or_eq_false_iff] at h9 ⊢
  obtain ⟨⟨⟨_, _⟩, h3⟩, _, h5⟩ := h9
  exact ⟨⟨⟨rfl, rfl⟩, h3⟩, rfl, h5⟩
theorem bare_conn (w : Api.World) : conn (bare w) = idL w.Bodies.length := rfl
theorem bare_root (w : Api.World) {i : Nat} (h : i < w.Bodies.length) : root (idL w.Bodies.length) i = i := root_fix (by rw [Int.toNat_natCast]; exact idL_get h)
theorem bare_isR (w : Api.World) {i : Nat} (h : i < w.Bodies.length) : isR (bare w) (idL w.Bodies.length) i = kd w i := by
  unfold isR
  rw [idL_get h]; simp; rfl
/-- the number of dynamic bodies before i -/
def nd (w : Api.World) : Nat → Nat
  | 0 => 0
  | i + 1 => if kd w i = true then nd w i + 1 else nd w i
theorem bare_nb (w : Api.World) : ∀ {i : Nat}, i ≤ w.Bodies.length → nb (bare w) (idL w.Bodies.length) i = nd w i
  | 0, _ => rfl
  | i + 1, h => by
    show (if isR (bare w) _ i = true then _ + 1 else _) = if kd w i = true then _ + 1 else _
    rw [bare_isR w (by omega), bare_nb w (by omega)]
theorem bare_pB (w : Api.World) {i : Nat} (h : i < w.Bodies.length) : pB (bare w) (idL w.Bodies.length) i = if kd w i = true then some (nd w i) else none := by
  unfold pB
  rw [bare_root w h, Int.toNat_natCast, bare_nb w (by omega)]; rfl
theorem nd_lt {w : Api.World} {i j : Nat} (h : kd w i = true) (hj : i < j) : nd w i < nd w j := by
  have mono : ∀ j, nd w j ≤ nd w (j + 1) := fun j => by show nd w j ≤ if kd w j = true then nd w j + 1 else nd w j; split <;> omega
  have hs : nd w (i + 1) = nd w i + 1 := by show (if kd w i = true then nd w i + 1 else nd w i) = _; rw [if_pos h]
  induction j with
  | zero => omega
  | succ j ih =>
    rcases Nat.lt_or_ge i j with h1 | h1
    · have := ih h1; have := mono j; omega
    · obtain rfl : i = j := by omega
      omega
/-- the island of a dynamic body alone -/
theorem bare_memb (w : Api.World) {i : Nat} (hi : i < w.Bodies.length) (hk : kd w i = true) : ∀ {k : Nat}, k ≤ w.Bodies.length → memb (pB (bare w) (idL w.Bodies.length)) (nd w i) k = if i < k then [(i : Int)] else []
  | 0, _ => rfl
  | k + 1, h => by
    have ih := bare_memb w hi hk (k := k) (by omega)
    have hp := bare_pB w (i := k) (by omega)
    rcases Nat.lt_trichotomy k i with h1 | h1 | h1
    · rw [← memb_no, ih, if_neg (by omega), if_neg (by omega)]
      rw [hp]; split
      · rename_i hkk
        have := nd_lt hkk h1
        intro e; injection e with e; omega
      · simp
    · subst h1
      rw [memb_yes (by rw [hp, if_pos hk]), ih, if_neg (by omega), if_pos (by omega)]; rfl
    · rw [← memb_no, ih, if_pos (by omega), if_pos (by omega)]
      rw [hp]; split
      · have := nd_lt hk h1
        intro e; injection e with e; omega
      · simp
theorem bare_build {w : Api.World} (hv : d_world_Validate w = 0) : (buildL (bare w)).length = nd w w.Bodies.length ∧ ∀ i, i < w.Bodies.length → kd w i = true → ((buildL (bare w)).getD (nd w i) default).Bodies = [(i : Int)] := by
  have hn := bare_nb w (Nat.le_refl w.Bodies.length)
  have hl : buildL (bare w) = (List.range (nd w w.Bodies.length)).map fun q => ⟨memb (pB (bare w) (idL w.Bodies.length)) q w.Bodies.length, memb (pC (bare w) (idL w.Bodies.length)) q 0, memb (pJ (bare w) (idL w.Bodies.length)) q 0⟩ := by
    unfold buildL; rw [if_pos (bare_val hv), bare_conn]
    show (List.range (nb (bare w) (idL w.Bodies.length) w.Bodies.length)).map _ = _
    rw [hn]; rfl
  refine ⟨by rw [hl]; simp, fun i hi hk => ?_⟩
  have hlt := nd_lt hk hi
  have hm := bare_memb w hi hk (Nat.le_refl _)
  rw [if_pos hi] at hm
  rw [hl]
  simp [List.getD, hlt, hm]

end Go.Abs
