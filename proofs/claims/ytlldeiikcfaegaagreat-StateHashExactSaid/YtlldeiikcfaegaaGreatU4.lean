/- A part of the walk: contracts of functions that the statement reaches. -/
import Derived.Test.YtlldeiikcfaegaaGreatAbsC
import Derived.Test.YtlldeiikcfaegaaGreatU3
set_option linter.unusedSimpArgs false
set_option linter.unusedVariables false
set_option linter.unnecessarySimpa false
set_option maxRecDepth 100000
set_option maxHeartbeats 2000000
set_option linter.unusedSimpArgs false
set_option linter.unusedVariables false
namespace Go.Abs
open Go.Proofs
open Api
theorem keysR_eq (l : List Contact) : d_r25_Keys l = l.map fun c => c.Key := by
  have h : ∀ n, n ≤ l.length → itr (d_r25_Keys_L1 l) n [] = (l.take n).map fun c => c.Key := by
    intro n
    induction n with
    | zero => intro _; rfl
    | succ n ih =>
      intro hn
      rw [itr_succ, ih (by omega), take_snoc default (by omega), List.map_append]; rfl
  unfold d_r25_Keys
  simp only [h l.length (Nat.le_refl _), List.take_length]
theorem keys_pos {l : List PairKey} (h : d_r22_ValidKeys l = true) : ∀ k ∈ l, 0 ≤ k.FixtureA ∧ 0 ≤ k.FixtureB := by
  unfold d_r22_ValidKeys at h
  rw [itrE_all (r := false) (p := fun i => ((((((decide ((l.getD i default).BodyB ≤ (l.getD i default).BodyA)) || (decide ((l.getD i default).FixtureA < 0))) || (decide (3 < (l.getD i default).FixtureA))) || (decide ((l.getD i default).FixtureB < 0))) || (decide (3 < (l.getD i default).FixtureB))) || ((decide (0 < (i : Int))) && (!(d_r22_Less (l.getD (IntKind.i64.wrap ((i : Int) - 1)).toNat default) (l.getD i default)))))) (fun i => rfl)] at h
  intro k hk
  obtain ⟨i, hi, rfl⟩ := List.getElem_of_mem hk
  generalize hx : (List.range l.length).any _ = A at h
  cases A with
  | true => cases h
  | false =>
    rw [List.any_eq_false] at hx
    have := hx i (List.mem_range.2 hi)
    have hg : l.getD i default = l[i] := by simp [List.getD, hi]
    rw [hg] at this
    grind
theorem resolved_eq (w : Api.World) (l : List PairKey) (h : ∀ k ∈ l, 0 ≤ k.FixtureA ∧ 0 ≤ k.FixtureB) : d_r25_resolved w l = !(l.any (fixOut w)) := by
  unfold d_r25_resolved
  rw [itrE_all (r := false) (p := fun i => (!(d_r25_exists w (l.getD i default).BodyA (l.getD i default).FixtureA)) || (!(d_r25_exists w (l.getD i default).BodyB (l.getD i default).FixtureB))) (fun i => rfl),
    range_any (p := fun k : PairKey => (!(d_r25_exists w k.BodyA k.FixtureA)) || (!(d_r25_exists w k.BodyB k.FixtureB)))]
  have e : (l.any fun k : PairKey => (!(d_r25_exists w k.BodyA k.FixtureA)) || (!(d_r25_exists w k.BodyB k.FixtureB))) = l.any (fixOut w) := by
    induction l with
    | nil => rfl
    | cons k l ih =>
      rw [List.any_cons, List.any_cons, ih fun k hk => h k (List.mem_cons_of_mem _ hk)]
      obtain ⟨h1, h2⟩ := h k (List.mem_cons_self ..)
      congr 1
      unfold fixOut d_world_fixturesExist d_r25_exists
      simp only []
      have e1 : decide (0 ≤ k.FixtureA) = true := decide_eq_true h1
      have e2 : decide (0 ≤ k.FixtureB) = true := decide_eq_true h2
      rw [e1, e2]
      cases decide (0 ≤ findB w k.BodyA) <;> cases decide (0 ≤ findB w k.BodyB) <;> simp
  rw [e]
  cases l.any (fixOut w) <;> rfl
theorem cont_loop (w : Api.World) : itrE (d_r25_validContacts_L1 w) w.Contacts.length () = if (w.Contacts.any fun c => !(d_world_validManifold c.Manifold)) = true then .inr false else .inl () := by
  rw [itrE_all (r := false) (p := fun i => !(d_world_validManifold (w.Contacts.getD i default).Manifold)), range_any (p := fun c : Contact => !(d_world_validManifold c.Manifold))]
  intro i
  simp only [d_r25_validContacts_L1, manifold_eq]
  cases d_r25_validPoints (w.Contacts.getD i default).Manifold <;> rfl
theorem contacts_eq (w : Api.World) (hc : w.Contacts.length ≤ 4194304) (ho : w.Overlaps.length ≤ 4194304) : okContacts w = d_r25_validContacts w := by
  unfold okContacts d_r25_validContacts
  rw [cont_loop]
  have hk : d_r25_Keys w.Contacts = keysC w := keysR_eq _
  simp only [hk]
  rw [keysV_eq (keysC w) (by simp [keysC]; omega), keysV_eq w.Overlaps ho, List.any_append]
  have ha : (w.Contacts.all fun c => d_world_validManifold c.Manifold) = !(w.Contacts.any fun c => !(d_world_validManifold c.Manifold)) := by
    rw [List.all_eq_not_any_not]
  rw [ha]
  cases h1 : d_r22_ValidKeys (keysC w) with
  | false => simp
  | true =>
    cases h2 : d_r22_ValidKeys w.Overlaps with
    | false => simp
    | true =>
      rw [resolved_eq w _ (keys_pos h1), resolved_eq w _ (keys_pos h2)]
      generalize (keysC w).any (fixOut w) = a
      generalize w.Overlaps.any (fixOut w) = b
      generalize (w.Contacts.any fun c => !(d_world_validManifold c.Manifold)) = c
      cases a <;> cases b <;> cases c <;> rfl
theorem validate_eq (w : Api.World) : d_world_Validate w = d_r25_Validate w := by
  unfold d_world_Validate d_r25_Validate
  simp only [settings_eq, bodies_eq, joints_eq]
  split
  · rfl
  · split
    · rfl
    · rename_i h
      have h1 : w.Contacts.length ≤ 4194304 := by simp at h; omega
      have h2 : w.Overlaps.length ≤ 4194304 := by simp at h; omega
      rw [contacts_eq w h1 h2]

end Go.Abs
