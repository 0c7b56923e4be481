/- A part of the walk: contracts of functions that the statement reaches. -/
import Derived.Test.YtlldeiikcfaegaaGreatAbsC
import Derived.Test.YtlldeiikcfaegaaGreatS5
set_option linter.unusedSimpArgs false
set_option linter.unusedVariables false
set_option linter.unnecessarySimpa false
set_option maxRecDepth 100000
set_option maxHeartbeats 2000000
set_option linter.unusedSimpArgs false
set_option linter.unusedVariables false
namespace Go.Abs
open Go.Proofs
open Api
theorem avle_of {α : Type} {enc : α → List AV} {d : α} {z n : Nat} {g : Nat → List AV} {l : List α} {m : Nat} (hm : m = l.length) (hn : n = m) (h : ∀ j, j < n → g j = enc (l.getD j d)) : avle (.dsl z n g) (.dsl z m (encAt enc d l)) := by
  subst hm; subst hn
  rw [avle_dsl_dsl]
  refine ⟨rfl, rfl, fun i hi => ?_⟩
  rw [h i hi]; exact avleL_refl _
theorem getD_app_lt {α : Type} {l r : List α} {j : Nat} {d : α} (h : j < l.length) : (l ++ r).getD j d = l.getD j d := by
  simp [List.getD, List.getElem?_append_left h]
theorem getD_app_ge {α : Type} {l r : List α} {j : Nat} {d : α} (h : l.length ≤ j) : (l ++ r).getD j d = r.getD (j - l.length) d := by
  simp [List.getD, List.getElem?_append_right h]
theorem getD_take {α : Type} {l : List α} {i j : Nat} {d : α} (h : j < i) : (l.take i).getD j d = l.getD j d := by
  simp [List.getD, List.getElem?_take, h]
theorem getD_drop {α : Type} {l : List α} {i j : Nat} {d : α} : (l.drop i).getD j d = l.getD (i + j) d := by
  simp [List.getD]
theorem ite_dec {p q : Prop} [Decidable p] [Decidable q] : (if p then decide q else false) = decide (p ∧ q) := by
  by_cases hp : p <;> simp [hp]
theorem ite_decb {p : Prop} [Decidable p] {q : Bool} : (if p then q else false) = (decide p && q) := by
  by_cases hp : p <;> simp [hp]
theorem insI_at {n : Int} : ∀ {l : List Int} {k : Nat}, k ≤ l.length → (∀ j, j < k → l.getD j 0 < n) → insI l n = l.take k ++ insI (l.drop k) n
  | l, 0, _, _ => by simp
  | [], k + 1, h, _ => by simp at h
  | a :: l, k + 1, h, hj => by
    have h0 : a < n := by have := hj 0 (by omega); simpa [List.getD] using this
    have ih := insI_at (n := n) (l := l) (k := k) (by simpa using h) (fun j hj' => by have := hj (j + 1) (by omega); simpa [List.getD] using this)
    rw [insI, if_pos h0, ih]; rfl
theorem insI_here {n : Int} {l : List Int} {k : Nat} (h : k < l.length) (hj : ∀ j, j < k → l.getD j 0 < n) (he : l.getD k 0 = n) : insI l n = l := by
  rw [insI_at (Nat.le_of_lt h) hj, List.drop_eq_getElem_cons h]
  have : l[k] = n := by rw [← he]; simp [List.getD, h]
  rw [insI, if_neg (by omega), if_pos this, ← List.drop_eq_getElem_cons h, List.take_append_drop]
theorem insI_new {n : Int} {l : List Int} {k : Nat} (h : k ≤ l.length) (hj : ∀ j, j < k → l.getD j 0 < n) (he : k < l.length → n < l.getD k 0) : insI l n = l.take k ++ n :: l.drop k := by
  rw [insI_at h hj]
  congr 1
  rcases Nat.lt_or_eq_of_le h with hlt | rfl
  · rw [List.drop_eq_getElem_cons hlt]
    have : l[k] = l.getD k 0 := by simp [List.getD, hlt]
    have := he hlt
    rw [insI, if_neg (by omega), if_neg (by omega)]
  · rw [List.drop_length]; rfl
theorem s_r25_FindBody (w : Api.World) (id : Int) (hw : w.Bodies.length ≤ 1048576) : CallsA Tryz.prog F_r25_FindBody [.agg w.enc, .sc (.int .i64 id)] [] (.sc (.int .i64 (findB w id))) [] := by
  refine callsI_of (rs := [_]) hm Tryz.func184 (by kernel_rfl) (by kernel_rfl) is_r25_FindBody (by kernel_rfl : tmpsOf Tryz.f184.results.toList = some [4]) (by decide) (by kernel_rfl) ?_
  simp only [c_r25_FindBody, go_sem]
  refine Wpi_loop hm (ι := {i : Nat // i ≤ w.Bodies.length ∧ ∀ j, j < i → ((w.Bodies.getD j default).ID == id) = false}) (fun i => [(1, .share, .sc (.int .i64 id)), (2, .share, .ptr 48 0 0 1), (5, .share, .sc (.int .i64 i.1))])
    (fun i => [(48, .box w.enc)]) (fun i => w.Bodies.length - i.1) ⟨0, by omega, fun j hj => by omega⟩ ?_ ?_
  · refine weakE_ [] [] ?_
    simp only [go_sem]
  · rintro ⟨i, hi, hs⟩
    simp only [c_r25_FindBodyb0, go_sem]
    split
    · rename_i hlt
      have hlt : i < w.Bodies.length := by omega
      refine ⟨ok_, ?_⟩
      cases hx : ((w.Bodies.getD i default).ID == id) with
      | true =>
        rw [if_pos rfl]
        exact (idxG_at hlt hs hx).symm
      | false =>
        rw [if_neg (by simp)]
        refine loop_next ⟨i + 1, by omega, fun j hj => by rcases Nat.lt_succ_iff_lt_or_eq.1 hj with h | rfl; exact hs j h; exact hx⟩ (by show w.Bodies.length - (i + 1) < w.Bodies.length - i; omega) (weakE_ [] [] ?_)
        simp only [go_sem]
        exact (by rw [IntKind.wrap_i64]; omega)
    · rename_i hge
      exact (idxG_none fun j hj => hs j (by omega)).symm
theorem insI_len (l : List Int) (n : Int) : (insI l n).length ≤ l.length + 1 := by
  induction l with
  | nil => simp [insI]
  | cons a l ih => unfold insI; split; (simp; omega); split <;> simp
end Go.Abs
