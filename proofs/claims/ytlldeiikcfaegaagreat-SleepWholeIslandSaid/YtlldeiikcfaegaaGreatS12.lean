/- A part of the walk: contracts of functions that the statement reaches. -/
import Derived.Test.YtlldeiikcfaegaaGreatAbsC
import Derived.Test.YtlldeiikcfaegaaGreatS10
set_option linter.unusedSimpArgs false
set_option linter.unusedVariables false
set_option linter.unnecessarySimpa false
set_option maxRecDepth 100000
set_option maxHeartbeats 2000000
set_option linter.unusedSimpArgs false
set_option linter.unusedVariables false
namespace Go.Abs
open Go.Proofs
open Api
theorem getD_set_ne {α : Type} {l : List α} {i k : Nat} {a d : α} (h : i ≠ k) : (l.set k a).getD i d = l.getD i d := by
  simp [List.getD, List.getElem?_set_ne (Ne.symm h)]
theorem getD_set_self {α : Type} {l : List α} {k : Nat} {a d : α} (h : k < l.length) : (l.set k a).getD k d = a := by
  simp [List.getD, h]
theorem wk_awake (l : List Int) : ∀ (s : List Body × List (Int × Int)), (∀ i ∈ l, 0 ≤ i ∧ i < (s.1.length : Int)) → ∀ i : Nat, ((i : Int) ∈ l ∨ (s.1.getD i default).Asleep = false) → ((l.foldl wkStep s).1.getD i default).Asleep = false := by
  induction l with
  | nil => intro s h i hi; simpa using hi
  | cons a l ih =>
    intro s h i hi
    obtain ⟨h0, h1⟩ := h a (by simp)
    have hlen := (wkStep_len s a).1
    rw [List.foldl_cons]
    refine ih (wkStep s a) (fun i hi => by rw [hlen]; exact h i (by simp [hi])) i ?_
    by_cases hia : (i : Int) = a
    · right
      have e : a.toNat = i := by omega
      unfold wkStep
      rw [e]
      split
      · rw [getD_set_self (by omega)]; rfl
      · rename_i hs; simpa using hs
    · rcases hi with hi | hi
      · left; simpa [hia] using hi
      · right
        unfold wkStep
        split
        · rw [getD_set_ne (by omega)]; exact hi
        · exact hi
theorem up_asleep (l : List Int) : ∀ (s : List Body) (i : Nat), ((l.foldl (fun bs i => bs.set i.toNat (updIdle (bs.getD i.toNat default))) s).getD i default).Asleep = (s.getD i default).Asleep := by
  induction l with
  | nil => intro s i; rfl
  | cons a l ih =>
    intro s i
    rw [List.foldl_cons, ih]
    by_cases hia : i = a.toNat
    · subst hia
      by_cases hl : a.toNat < s.length
      · rw [getD_set_self hl]; rfl
      · rw [List.set_eq_of_length_le (by omega)]
    · rw [getD_set_ne hia]
def wakeW (w : Api.World) (x : Island) : Api.World := withB w (wkR w x).1
def updW (w : Api.World) (x : Island) : Api.World := withB w (updR w x).1
theorem wkR_len (w : Api.World) (x : Island) : (wkR w x).1.length = w.Bodies.length := by
  unfold wkR; split
  · exact (wkF_len w _).1
  · rfl
theorem updR_len (w : Api.World) (x : Island) : (updR w x).1.length = w.Bodies.length := by
  unfold updR; split
  · split
    · rw [(slF_len _ _).1, upF_len]
    · exact upF_len w _
  · rfl
end Go.Abs
