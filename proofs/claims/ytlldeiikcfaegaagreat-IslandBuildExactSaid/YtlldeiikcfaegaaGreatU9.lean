/- A part of the walk: contracts of functions that the statement reaches. -/
import Derived.Test.YtlldeiikcfaegaaGreatAbsC
import Derived.Test.YtlldeiikcfaegaaGreatU8
set_option linter.unusedSimpArgs false
set_option linter.unusedVariables false
set_option linter.unnecessarySimpa false
set_option maxRecDepth 100000
set_option maxHeartbeats 2000000
set_option linter.unusedSimpArgs false
set_option linter.unusedVariables false
namespace Go.Abs
open Go.Proofs
open Api
theorem set_root {g : List Int} (hg : UF g) {p q : Int} (hq0 : 0 ≤ q) (hqp : q ≤ p) (hp1 : p < (g.length : Int)) (hp : g.getD p.toNat 0 = p) (hq : g.getD q.toNat 0 = q) (hg' : UF (g.set p.toNat q)) :
    ∀ (k : Nat) (z : Int), z.toNat ≤ k → 0 ≤ z → z < (g.length : Int) → root (g.set p.toNat q) z = if root g z = p then q else root g z
  | k, z, hk, h0, h1 => by
    have hgz : (g.set p.toNat q).getD z.toNat 0 = if z.toNat = p.toNat then q else g.getD z.toNat 0 := getD_set _ _ _ _ _ (by omega)
    have hgq : (g.set p.toNat q).getD q.toNat 0 = q := by
      rw [getD_set _ _ _ _ _ (by omega)]; split
      · rfl
      · exact hq
    by_cases he : g.getD z.toNat 0 = z
    · rw [root_fix (g := g) he]
      by_cases hz : z = p
      · subst hz
        rw [if_pos rfl]
        rw [if_pos rfl] at hgz
        by_cases hqz : q = z
        · subst hqz; exact root_fix hgz
        · rw [← root_step hg' h0 (by rw [List.length_set]; exact h1) (by rw [hgz]; exact hqz), hgz, root_fix hgq]
      · rw [if_neg hz]
        rw [if_neg (by omega)] at hgz
        exact root_fix (by rw [hgz, he])
    · obtain ⟨a, b⟩ := hg z.toNat (by omega)
      have hzp : z ≠ p := fun e => he (by rw [e]; exact hp)
      rw [if_neg (by omega)] at hgz
      rw [← root_step hg h0 h1 he, ← root_step hg' h0 (by rw [List.length_set]; exact h1) (by rw [hgz]; exact he), hgz]
      cases k with
      | zero => omega
      | succ k => exact set_root hg hq0 hqp hp1 hp hq hg' k _ (by omega) a (by omega)
/-- the links of the first so many contacts and joints -/
theorem uni_root {w : Api.World} {g : List Int} (hg : UF g) (hl : g.length = w.Bodies.length) {a b : Int} (h : (dynB w a && dynB w b) = true) {z : Int} (h0 : 0 ≤ z) (h1 : z < (g.length : Int)) :
    root (uni w g a b) z = if root g z = imax (root g (findB w a)) (root g (findB w b)) then imin (root g (findB w a)) (root g (findB w b)) else root g z := by
  have hu := uni_uf hg hl a b
  rw [Bool.and_eq_true] at h
  obtain ⟨a0, a1⟩ := dyn_rng h.1
  obtain ⟨b0, b1⟩ := dyn_rng h.2
  obtain ⟨x0, x1, x2⟩ := root_in hg a0 (by omega)
  obtain ⟨y0, y1, y2⟩ := root_in hg b0 (by omega)
  have hd : (dynB w a && dynB w b) = true := by rw [h.1, h.2]; rfl
  unfold uni at hu ⊢
  rw [if_pos hd] at hu ⊢
  generalize root g (findB w a) = x at *
  generalize root g (findB w b) = y at *
  have hm : imax x y = x ∧ imin x y = y ∧ y ≤ x ∨ imax x y = y ∧ imin x y = x ∧ x ≤ y := by unfold imax imin; split <;> split <;> first | (left; omega) | (right; omega)
  rcases hm with ⟨e1, e2, e3⟩ | ⟨e1, e2, e3⟩
  · rw [e1, e2] at hu ⊢
    exact set_root hg y0 e3 (by omega) x2 y2 hu _ z (Nat.le_refl _) h0 h1
  · rw [e1, e2] at hu ⊢
    exact set_root hg x0 e3 (by omega) y2 x2 hu _ z (Nat.le_refl _) h0 h1

end Go.Abs
