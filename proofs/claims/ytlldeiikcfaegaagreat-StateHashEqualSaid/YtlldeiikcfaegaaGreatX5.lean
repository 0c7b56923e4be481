/- A part of the walk: contracts of functions that the statement reaches. -/
import Derived.Test.YtlldeiikcfaegaaGreatAbsC
import Derived.Test.YtlldeiikcfaegaaGreatX3
set_option linter.unusedSimpArgs false
set_option linter.unusedVariables false
set_option linter.unnecessarySimpa false
set_option maxRecDepth 100000
set_option maxHeartbeats 2000000
set_option linter.unusedSimpArgs false
set_option linter.unusedVariables false
namespace Go.Abs
open Go.Proofs
open Api
theorem l_take_succ {α : Type} {l m : List α} {i : Nat} (d : α) (h : l.take i = m.take i) (hl : i < l.length) (hm : i < m.length) (he : l.getD i d = m.getD i d) : l.take (i + 1) = m.take (i + 1) := by
  rw [take_snoc d hl, take_snoc d hm, h, he]
theorem l_eq_of {α : Type} {l m : List α} (hlen : l.length = m.length) (h : l.take l.length = m.take l.length) : l = m := by
  rw [List.take_length] at h; rw [hlen, List.take_length] at h; exact h
theorem l_ne_of {α : Type} {l m : List α} {i : Nat} (d : α) (h : l.getD i d ≠ m.getD i d) : l ≠ m := fun e => h (by rw [e])
theorem l_ne_len {α : Type} {l m : List α} (h : l.length ≠ m.length) : l ≠ m := fun e => h (by rw [e])
theorem Vec.beq (x y : Vec) : (x.X == y.X && x.Y == y.Y) = decide (x = y) := by
  cases x; cases y; rw [Bool.eq_iff_iff]; simp
theorem PairKey.beq (x y : PairKey) : (x.BodyA == y.BodyA && (x.FixtureA == y.FixtureA && (x.BodyB == y.BodyB && x.FixtureB == y.FixtureB))) = decide (x = y) := by
  cases x; cases y; rw [Bool.eq_iff_iff]; simp
theorem ContactPoint.beq (x y : ContactPoint) : (x.Point.X == y.Point.X && (x.Point.Y == y.Point.Y && (x.Separation == y.Separation && (x.ID == y.ID && (x.NormalImpulse == y.NormalImpulse && x.TangentImpulse == y.TangentImpulse))))) = decide (x = y) := by
  obtain ⟨⟨a, b⟩, c, d, e, f⟩ := x; obtain ⟨⟨a', b'⟩, c', d', e', f'⟩ := y; rw [Bool.eq_iff_iff]; simp [and_assoc]

end Go.Abs
