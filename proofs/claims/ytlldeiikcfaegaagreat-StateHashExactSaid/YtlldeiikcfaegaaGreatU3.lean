/- A part of the walk: contracts of functions that the statement reaches. -/
import Derived.Test.YtlldeiikcfaegaaGreatAbsC
import Derived.Test.YtlldeiikcfaegaaGreatU2
set_option linter.unusedSimpArgs false
set_option linter.unusedVariables false
set_option linter.unnecessarySimpa false
set_option maxRecDepth 100000
set_option maxHeartbeats 2000000
set_option linter.unusedSimpArgs false
set_option linter.unusedVariables false
namespace Go.Abs
open Go.Proofs
open Api
theorem cmp_int (x y : Int) : d_cmp_Compare_int x y = if x < y then -1 else if y < x then 1 else 0 := by
  unfold d_cmp_Compare_int d_cmp_isNaN_int
  simp
theorem or_int (a b c d : Int) : d_cmp_Or_int [a, b, c, d] = if a ≠ 0 then a else if b ≠ 0 then b else if c ≠ 0 then c else d := by
  unfold d_cmp_Or_int
  show (match itrE (d_cmp_Or_int_L1 [a, b, c, d]) 4 () with | .inr r => r | .inl s1 => 0) = _
  simp only [itrE, d_cmp_Or_int_L1]
  by_cases ha : a = 0 <;> by_cases hb : b = 0 <;> by_cases hc : c = 0 <;> by_cases hd : d = 0 <;> simp [ha, hb, hc, hd]
theorem less_eq (a b : PairKey) : d_broadphase_Less a b = d_r22_Less a b := by
  unfold d_broadphase_Less d_broadphase_compare d_r22_Less
  simp only [or_int, cmp_int]
  grind
theorem valid_not (k : PairKey) : (!(d_broadphase_valid k)) = (((((decide (k.BodyB ≤ k.BodyA)) || (decide (k.FixtureA < 0))) || (decide (3 < k.FixtureA))) || (decide (k.FixtureB < 0))) || (decide (3 < k.FixtureB))) := by
  unfold d_broadphase_valid
  rw [Bool.eq_iff_iff]
  simp
  grind
theorem less_same (p k : PairKey) : (((k.BodyA == p.BodyA) && ((k.FixtureA == p.FixtureA) && ((k.BodyB == p.BodyB) && (k.FixtureB == p.FixtureB)))) || !(d_r22_Less p k)) = !(d_r22_Less p k) := by
  unfold d_r22_Less
  grind
def tupK (k : PairKey) : Int × Int × Int × Int := (k.BodyA, k.FixtureA, k.BodyB, k.FixtureB)
theorem keys_loop (l : List PairKey) : ∀ n, n ≤ 4194304 → match itrE (d_broadphase_ValidKeys_L1 l) n (0, 0, 0, 0) with
    | .inl s => itrE (d_r22_ValidKeys_L1 l) n () = .inl () ∧ (0 < n → s = tupK (l.getD (n - 1) default))
    | .inr r => itrE (d_r22_ValidKeys_L1 l) n () = .inr r
  | 0, _ => ⟨rfl, fun h => absurd h (by omega)⟩
  | n + 1, hb => by
    have ih := keys_loop l n (by omega)
    simp only [itrE]
    cases hn : itrE (d_broadphase_ValidKeys_L1 l) n (0, 0, 0, 0) with
    | inr r => rw [hn] at ih; simp only [ih]
    | inl s =>
      rw [hn] at ih
      obtain ⟨h1, h2⟩ := ih
      simp only [h1]
      have hwr : (IntKind.i64.wrap ((n : Int) - 1)).toNat = n - 1 := by rw [IntKind.wrap_i64]; omega
      simp only [d_broadphase_ValidKeys_L1, d_r22_ValidKeys_L1, hwr, less_eq, valid_not]
      by_cases h0 : 0 < n
      · have hs := h2 h0
        subst hs
        have e : decide (0 < (n : Int)) = true := by rw [decide_eq_true_iff]; omega
        have := less_same (l.getD (n - 1) default) (l.getD n default)
        simp only [tupK, e, Bool.true_and, this]
        split <;> rename_i heq <;> split at heq <;> simp_all [tupK]
      · have e : decide (0 < (n : Int)) = false := by rw [decide_eq_false_iff_not]; omega
        simp only [e, Bool.false_and]
        split <;> rename_i heq <;> split at heq <;> simp_all [tupK]
theorem keysV_eq (l : List PairKey) (h : l.length ≤ 4194304) : d_broadphase_ValidKeys l = d_r22_ValidKeys l := by
  have := keys_loop l l.length h
  unfold d_broadphase_ValidKeys d_r22_ValidKeys
  cases hn : itrE (d_broadphase_ValidKeys_L1 l) l.length (0, 0, 0, 0) with
  | inr r => rw [hn] at this; rw [this]
  | inl s => rw [hn] at this; rw [this.1]
theorem sat_eq (l : List Int) : d_world_saturated l = l.all fun n => inR n (-536870911) 536870911 := by
  unfold d_world_saturated d_world_saturated_f1
  induction l with
  | nil => rfl
  | cons a l ih => simp only [List.any_cons, List.all_cons, ← ih]; cases inR a (-536870911) 536870911 <;> simp
theorem points_loop (m : Manifold) : itrE (d_r25_validPoints_L1 m) m.Points.length () = if (m.Points.any fun p => d_world_validManifold_f1 p) = true then .inr false else .inl () := by
  rw [itrE_all (r := false) (p := fun i => d_world_validManifold_f1 (m.Points.getD i default)), range_any (p := fun p : ContactPoint => d_world_validManifold_f1 p)]
  intro i
  simp only [d_r25_validPoints_L1, d_world_validManifold_f1, sat_eq, d_r25_saturated, List.all_cons, List.all_nil, Bool.and_true]
  generalize m.Points.getD i default = p
  have e : inR p.NormalImpulse 0 536870911 = (!(decide (p.NormalImpulse < 0)) && inR p.NormalImpulse (-536870911) 536870911) := by
    unfold inR; rw [Bool.eq_iff_iff]; simp; grind
  rw [e]
  grind
theorem manifold_eq (m : Manifold) : d_world_validManifold m = d_r25_validPoints m := by
  unfold d_world_validManifold d_r25_validPoints
  rw [points_loop]
  simp only [sat_eq, d_r25_saturated, List.all_cons, List.all_nil, Bool.and_true]
  grind

end Go.Abs
