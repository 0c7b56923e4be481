/- A part of the walk: contracts of functions that the statement reaches. -/
import Derived.Test.YtpbnhfancncoiaaAbsD
import Derived.Test.YtpbnhfancncoiaaX6
set_option linter.unusedSimpArgs false
set_option linter.unusedVariables false
set_option linter.unnecessarySimpa false
set_option maxRecDepth 100000
set_option maxHeartbeats 2000000
set_option linter.unusedSimpArgs false
set_option linter.unusedVariables false
namespace Go.Abs
open Go.Proofs
open Api
/-- objects that mention each other alone -/
def okO (O : List (Nat × AObj)) : Prop := (O.map (·.1)).Nodup ∧ ∀ p ∈ O, ∀ cs, p.2 = .box cs → ∀ j ∈ idsL cs, (ofL O j).isSome
theorem ofL_mem_eq {O : List (Nat × AObj)} (hn : (O.map (·.1)).Nodup) {i : Nat} {o : AObj} (h : (i, o) ∈ O) : ofL O i = some o := by
  rw [ofL_get O hn]
  have : O.find? (fun p => p.1 == i) = some (i, o) := by
    induction O with
    | nil => cases h
    | cons p O ih =>
      simp only [List.map_cons, List.nodup_cons] at hn
      rcases List.mem_cons.1 h with e | h'
      · subst e; simp
      · have hne : p.1 ≠ i := fun e => hn.1 (e ▸ List.mem_map_of_mem (f := (·.1)) h')
        simp only [List.find?_cons, beq_eq_false_iff_ne.2 hne]
        exact ih hn.2 h'
  rw [this]; rfl
theorem aobj_ren_id (o : AObj) : o.ren id = o := by
  cases o <;> simp only [AObj.ren]
  rw [renL_id]
theorem renO_id (O : List (Nat × AObj)) : renO id O = O := by
  induction O with
  | nil => rfl
  | cons p O ih =>
    show (id p.1, p.2.ren id) :: renO id O = p :: O
    rw [ih, aobj_ren_id]; rfl
theorem argsOk_same {m : Nat → Option AObj} {O : List (Nat × AObj)} : ∀ {avs : List AV}, (∀ a ∈ avs, ∀ i ∈ a.ids, (ofL O i).isSome) → ArgsOk m id O (avs.map fun _ => true) avs avs []
  | [], _ => rfl
  | a :: avs, h => ⟨AV.ren_id a, h a (List.mem_cons_self ..), argsOk_same fun b hb => h b (List.mem_cons_of_mem _ hb)⟩
end Go.Abs
