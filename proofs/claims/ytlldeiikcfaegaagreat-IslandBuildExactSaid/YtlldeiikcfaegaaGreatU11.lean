/- A part of the walk: contracts of functions that the statement reaches. -/
import Derived.Test.YtlldeiikcfaegaaGreatAbsC
import Derived.Test.YtlldeiikcfaegaaGreatU10
set_option linter.unusedSimpArgs false
set_option linter.unusedVariables false
set_option linter.unnecessarySimpa false
set_option maxRecDepth 100000
set_option maxHeartbeats 2000000
set_option linter.unusedSimpArgs false
set_option linter.unusedVariables false
namespace Go.Abs
open Go.Proofs
open Api
theorem insI_lenN {l : List Int} {n : Int} (h : n ∉ l) : (insI l n).length = l.length + 1 := by
  induction l with
  | nil => rfl
  | cons a l ih =>
    rw [List.mem_cons, not_or] at h
    unfold insI
    split
    · rw [List.length_cons, List.length_cons, ih h.2]
    · rw [if_neg (fun e => h.1 e.symm)]; rfl
theorem hasI_mem {l : List Int} {k : Int} : hasI l k = true ↔ k ∈ l := by
  unfold hasI; rw [List.any_eq_true]
  constructor
  · rintro ⟨y, hy, h⟩; rw [beq_iff_eq] at h; subst h; exact hy
  · intro h; exact ⟨k, h, by simp⟩
theorem compK_grow (w : Api.World) (l : List Int) (k : Int) : compK w l k = l ∨ (k ∉ l ∧ compK w l k = insI l k) := by
  unfold compK; split
  · rename_i h
    rw [Bool.and_eq_true, Bool.not_eq_true'] at h
    exact .inr ⟨fun hk => by rw [hasI_mem.2 hk] at h; exact absurd h.1 (by simp), rfl⟩
  · exact .inl rfl
theorem rndK_grow (w : Api.World) (l : List Int) : ∀ k, rndK w l k = l ∨ l.length < (rndK w l k).length
  | 0 => .inl rfl
  | k + 1 => by
    have ih := rndK_grow w l k
    show compK w (rndK w l k) k = l ∨ l.length < (compK w (rndK w l k) (k : Int)).length
    rcases compK_grow w (rndK w l k) k with h | ⟨h1, h2⟩
    · rw [h]; exact ih
    · rw [h2, insI_lenN h1]
      rcases ih with ih | ih
      · rw [ih]; exact .inr (by omega)
      · exact .inr (by omega)
theorem rndK_stay {w : Api.World} {l : List Int} : ∀ {k : Nat}, rndK w l k = l → ∀ j, j < k → compK w l (j : Int) = l
  | k + 1, h, j, hj => by
    have hk : rndK w l k = l := by
      rcases rndK_grow w l k with h1 | h1
      · exact h1
      · exfalso
        have h2 : l.length < (rndK w l (k + 1)).length := by
          show l.length < (compK w (rndK w l k) (k : Int)).length
          rcases compK_grow w (rndK w l k) k with h3 | ⟨h3, h4⟩
          · rw [h3]; exact h1
          · rw [h4, insI_lenN h3]; omega
        rw [h] at h2; omega
    have hs : compK w l (k : Int) = l := by
      have : compK w (rndK w l k) (k : Int) = l := h
      rwa [hk] at this
    rcases Nat.lt_or_ge j k with h1 | h1
    · exact rndK_stay hk j h1
    · obtain rfl : j = k := by omega
      exact hs
def Clo (w : Api.World) (l : List Int) : Prop := ∀ k : Nat, k < w.Bodies.length → (k : Int) ∉ l → ∀ y ∈ l, d_r36_adjacent w y k = false
theorem clo_of {w : Api.World} {l : List Int} (h : rndK w l w.Bodies.length = l) : Clo w l := fun k hk hn y hy => by
  have hs := rndK_stay h k hk
  cases ha : d_r36_adjacent w y k with
  | false => rfl
  | true =>
    exfalso
    unfold compK at hs
    rw [if_pos] at hs
    · apply hn; rw [← hs]; exact insI_mem.2 (.inl rfl)
    · rw [Bool.and_eq_true]
      refine ⟨?_, List.any_eq_true.2 ⟨y, hy, ha⟩⟩
      cases hh : hasI l (k : Int) with
      | false => rfl
      | true => exact absurd (hasI_mem.1 hh) hn
theorem comp_rounds (w : Api.World) (i : Int) : ∀ r, (∃ r', r' ≤ r ∧ compR w i r = compR w i r' ∧ rndK w (compR w i r') w.Bodies.length = compR w i r') ∨ r + 1 ≤ (compR w i r).length
  | 0 => .inr (by simp [compR])
  | r + 1 => by
    rcases comp_rounds w i r with ⟨r', h1, h2, h3⟩ | h
    · refine .inl ⟨r', by omega, ?_, h3⟩
      show rndK w (compR w i r) w.Bodies.length = _
      rw [h2, h3]
    · rcases rndK_grow w (compR w i r) w.Bodies.length with h1 | h1
      · exact .inl ⟨r, by omega, h1, h1⟩
      · exact .inr (by show r + 1 + 1 ≤ (rndK w (compR w i r) w.Bodies.length).length; omega)
/-- what a stage of the component holds -/
def CI (w : Api.World) (i : Nat) (l : List Int) : Prop := StrS l ∧ (i : Int) ∈ l ∧ ∀ y ∈ l, ∃ j : Nat, y = j ∧ j < w.Bodies.length ∧ kd w j = true ∧ Rch w (links w) i j
theorem adj_rch {w : Api.World} {x y : Nat} (h : d_r36_adjacent w x y = true) : ∃ e ∈ links w, lnk w x y e.1 e.2 := by
  rcases (adj_iff w x y).1 h with ⟨c, hc, hl⟩ | ⟨j, hj, hl⟩
  · exact ⟨(c.Key.BodyA, c.Key.BodyB), List.mem_append_left _ (List.mem_map.2 ⟨c, hc, rfl⟩), hl⟩
  · exact ⟨(j.BodyA, j.BodyB), List.mem_append_right _ (List.mem_map.2 ⟨j, hj, rfl⟩), hl⟩
theorem rch_adj {w : Api.World} {x y : Nat} {e : Int × Int} (he : e ∈ links w) (hl : lnk w x y e.1 e.2) : d_r36_adjacent w x y = true := by
  rw [adj_iff]
  rcases List.mem_append.1 he with h | h
  · obtain ⟨c, hc, rfl⟩ := List.mem_map.1 h; exact .inl ⟨c, hc, hl⟩
  · obtain ⟨j, hj, rfl⟩ := List.mem_map.1 h; exact .inr ⟨j, hj, hl⟩
theorem ci_comp {w : Api.World} {i : Nat} {l : List Int} (h : CI w i l) {k : Nat} : CI w i (compK w l k) := by
  obtain ⟨h1, h2, h3⟩ := h
  unfold compK
  split
  · rename_i hh
    rw [Bool.and_eq_true, List.any_eq_true] at hh
    obtain ⟨_, y, hy, ha⟩ := hh
    obtain ⟨j, rfl, hj, hkj, hr⟩ := h3 y hy
    obtain ⟨e, he, hl⟩ := adj_rch ha
    refine ⟨insI_str h1, insI_mem.2 (.inr h2), fun z hz => ?_⟩
    rcases insI_mem.1 hz with rfl | hz
    · exact ⟨k, rfl, hl.2.2.2.1, hl.2.1, hr.tail he hl⟩
    · exact h3 z hz
  · exact ⟨h1, h2, h3⟩
theorem ci_rnd {w : Api.World} {i : Nat} {l : List Int} (h : CI w i l) : ∀ k, CI w i (rndK w l k)
  | 0 => h
  | k + 1 => ci_comp (ci_rnd h k)
theorem ci_compR {w : Api.World} {i : Nat} (hi : i < w.Bodies.length) (hk : kd w i = true) : ∀ r, CI w i (compR w i r)
  | 0 => ⟨List.pairwise_singleton _ _, by simp [compR], fun y hy => by
      have : y = (i : Int) := by simpa [compR] using hy
      exact ⟨i, this, hi, hk, .refl _⟩⟩
  | r + 1 => ci_rnd (ci_compR hi hk r) _
theorem str_len : ∀ {l : List Int} {a n : Nat}, StrS l → (∀ y ∈ l, (a : Int) ≤ y ∧ y < (n : Int)) → l.length ≤ n - a
  | [], _, _, _, _ => Nat.zero_le _
  | b :: l, a, n, h, hb => by
    have hb0 := hb b (List.mem_cons_self ..)
    have h2 := (List.pairwise_cons.1 h)
    have := str_len (l := l) (a := b.toNat + 1) (n := n) h2.2 (fun y hy => ⟨by have := h2.1 y hy; omega, (hb y (List.mem_cons_of_mem _ hy)).2⟩)
    rw [List.length_cons]; omega
theorem comp_clo {w : Api.World} {i : Nat} (hi : i < w.Bodies.length) (hk : kd w i = true) : Clo w (compR w i w.Bodies.length) := by
  rcases comp_rounds w i w.Bodies.length with ⟨r', _, h2, h3⟩ | h
  · rw [h2]; exact clo_of h3
  · exfalso
    obtain ⟨h1, _, h3⟩ := ci_compR hi hk w.Bodies.length
    have := str_len (a := 0) (n := w.Bodies.length) h1 (fun y hy => by
      obtain ⟨j, rfl, hj, _⟩ := h3 y hy
      omega)
    omega
/-- the reference's component is the class of a body -/
theorem comp_mem {w : Api.World} {i : Nat} (hi : i < w.Bodies.length) (hk : kd w i = true) {y : Int} : y ∈ compR w i w.Bodies.length ↔ ∃ j : Nat, y = j ∧ j < w.Bodies.length ∧ kd w j = true ∧ Rch w (links w) i j := by
  obtain ⟨h1, h2, h3⟩ := ci_compR hi hk w.Bodies.length
  refine ⟨h3 y, ?_⟩
  rintro ⟨j, rfl, hj, hkj, hr⟩
  have hc := comp_clo hi hk
  clear h3
  induction hr with
  | refl => exact h2
  | @tail u z e h4 he hl ih =>
    have hu := ih hl.2.2.1 hl.1
    refine Classical.byContradiction fun hn => ?_
    have := hc z hj hn _ hu
    rw [rch_adj he hl] at this; cases this

end Go.Abs
