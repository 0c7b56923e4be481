/- A part of the walk: contracts of functions that the statement reaches. -/
import Derived.Test.YtlldeiikcfaegaaGreatAbsC
import Derived.Test.YtlldeiikcfaegaaGreatU7
set_option linter.unusedSimpArgs false
set_option linter.unusedVariables false
set_option linter.unnecessarySimpa false
set_option maxRecDepth 100000
set_option maxHeartbeats 2000000
set_option linter.unusedSimpArgs false
set_option linter.unusedVariables false
namespace Go.Abs
open Go.Proofs
open Api
theorem adj_eq (w : Api.World) (x y : Int) : d_r36_adjacent w x y = (d_r36_isDynamic w x && d_r36_isDynamic w y && ((w.Contacts.any fun c => d_r36_connects w x y c.Key.BodyA c.Key.BodyB) || (w.Joints.any fun j => d_r36_connects w x y j.BodyA j.BodyB))) := by
  unfold d_r36_adjacent
  rw [itrE_all (f := d_r36_adjacent_L1 w x y) (r := true) (p := fun i => d_r36_connects w x y (w.Contacts.getD i default).Key.BodyA (w.Contacts.getD i default).Key.BodyB) (fun i => rfl),
    itrE_all (f := d_r36_adjacent_L2 w x y) (r := true) (p := fun i => d_r36_connects w x y (w.Joints.getD i default).BodyA (w.Joints.getD i default).BodyB) (fun i => rfl),
    range_any (p := fun c : Contact => d_r36_connects w x y c.Key.BodyA c.Key.BodyB), range_any (p := fun j : Joint => d_r36_connects w x y j.BodyA j.BodyB)]
  cases d_r36_isDynamic w x <;> cases d_r36_isDynamic w y <;> cases (w.Contacts.any fun c => d_r36_connects w x y c.Key.BodyA c.Key.BodyB) <;> cases (w.Joints.any fun j => d_r36_connects w x y j.BodyA j.BodyB) <;> rfl
/-- a link between two bodies, by their IDs -/
def lnk (w : Api.World) (x y : Nat) (a b : Int) : Prop := kd w x = true ∧ kd w y = true ∧ x < w.Bodies.length ∧ y < w.Bodies.length ∧ ((idB w x = a ∧ idB w y = b) ∨ (idB w x = b ∧ idB w y = a))
theorem isDyn_nat (w : Api.World) (x : Nat) : d_r36_isDynamic w (x : Int) = true ↔ x < w.Bodies.length ∧ kd w x = true := by
  unfold d_r36_isDynamic kd
  simp
theorem adj_iff (w : Api.World) (x y : Nat) : d_r36_adjacent w x y = true ↔ (∃ c ∈ w.Contacts, lnk w x y c.Key.BodyA c.Key.BodyB) ∨ ∃ j ∈ w.Joints, lnk w x y j.BodyA j.BodyB := by
  rw [adj_eq, Bool.and_eq_true, Bool.and_eq_true, isDyn_nat, isDyn_nat, Bool.or_eq_true, List.any_eq_true, List.any_eq_true]
  have hc : ∀ a b, d_r36_connects w x y a b = true ↔ ((idB w x = a ∧ idB w y = b) ∨ (idB w x = b ∧ idB w y = a)) := fun a b => by
    unfold d_r36_connects idB; simp
  simp only [hc]
  unfold lnk
  constructor
  · rintro ⟨⟨⟨h1, h2⟩, h3, h4⟩, ⟨c, hc, h⟩ | ⟨c, hc, h⟩⟩
    · exact .inl ⟨c, hc, h2, h4, h1, h3, h⟩
    · exact .inr ⟨c, hc, h2, h4, h1, h3, h⟩
  · rintro (⟨c, hc, h2, h4, h1, h3, h⟩ | ⟨c, hc, h2, h4, h1, h3, h⟩)
    · exact ⟨⟨⟨h1, h2⟩, h3, h4⟩, .inl ⟨c, hc, h⟩⟩
    · exact ⟨⟨⟨h1, h2⟩, h3, h4⟩, .inr ⟨c, hc, h⟩⟩
theorem lnk_symm {w : Api.World} {x y : Nat} {a b : Int} (h : lnk w x y a b) : lnk w y x a b := by
  obtain ⟨h1, h2, h3, h4, h5⟩ := h
  exact ⟨h2, h1, h4, h3, h5.elim (fun h => .inr ⟨h.2, h.1⟩) fun h => .inl ⟨h.2, h.1⟩⟩
/-- where the IDs are all different, a dynamic body is the one that is found -/
theorem dyn_find {w : Api.World} (hv : d_world_Validate w = 0) {x : Nat} (hx : x < w.Bodies.length) (hk : kd w x = true) : findB w (idB w x) = x ∧ dynB w (idB w x) = true := by
  have h0 := findB_ex hx rfl
  obtain ⟨h1, h2⟩ := findB_spec h0
  have he := ids_inj hv h1 hx h2
  have hf : findB w (idB w x) = x := by omega
  refine ⟨hf, ?_⟩
  unfold dynB
  rw [hf, Int.toNat_natCast]
  unfold kd at hk
  rw [hk]; simp

end Go.Abs
