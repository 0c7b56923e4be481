/- A part of the walk: contracts of functions that the statement reaches. -/
import Derived.Test.YtpbnhfancncoiaaAbsD
import Derived.Test.YtpbnhfancncoiaaF0
import Derived.Test.YtpbnhfancncoiaaF8
set_option linter.unusedSimpArgs false
set_option linter.unusedVariables false
set_option linter.unnecessarySimpa false
set_option maxRecDepth 100000
set_option maxHeartbeats 2000000
set_option linter.unusedSimpArgs false
set_option linter.unusedVariables false
namespace Go.Abs
open Go.Proofs
open Api
def exC : Contact := { Key := ⟨1, 0, 2, 0⟩, Manifold := { Normal := ⟨0, 0⟩, Points := [] } }
def exL : List Int := [9, 1, 1, 0, 1, 2, 0, 0, 0, 0]
theorem exL_b : bytes exL := by unfold bytes exL; decide
theorem exC_bytes : ([9] : List Int) ++ ctcB exC = exL := by decide
theorem exC_read : rContact exL 1 = .ok (exC, 10) := by rfl
theorem s_law45_example : CallsA Try.prog F_law45_example [] [] (.sc (.bool true)) [] := by
  have h1 := s_AppendContact [9] exC (by decide) (by decide)
  have h2 := s_ReadContact exL 1 (by decide) exL_b
  rw [exC_bytes] at h1
  rw [exC_read] at h2
  refine callsI_of (rs := [_]) hm Try.func6 (by kernel_rfl) (by kernel_rfl) is_law45_example (by kernel_rfl : tmpsOf Try.f6.results.toList = some [0]) (by decide) (by kernel_rfl) ?_
  simp only [c_law45_example, go_sem, ↓reduceIte, Nat.reduceEqDiff, reduceCtorEq, Nat.reduceAdd, Nat.reduceLeDiff, Nat.reduceMul, Nat.reduceSub, Int.reduceToNat]
  refine CallGi_thaw h1 ?_
  simp only [argsC, go_sem, ↓reduceIte, Nat.reduceEqDiff, reduceCtorEq, Nat.reduceAdd, Nat.reduceLeDiff, Nat.reduceMul, Nat.reduceSub, Int.reduceToNat]
  refine ⟨avle_lit2 (l := ([9] : List Int)) (fun _ _ => rfl) rfl rfl rfl, ⟨rfl, rfl, rfl, rfl, rfl, rfl, avle_nilD rfl⟩, ?_⟩
  refine CallGi_flat h2 rfl ?_
  have hl : exL.length = 10 := rfl
  have hs : strB { n := (7 - 0 : Int).toNat, g := fun i => [AV.sc (Value.int IntKind.u8 (exL.getD i 0))] } = ⟨#[9, 1, 1, 0, 1, 2, 0]⟩ := by rfl
  simp only [t3d, exC, hl, hs, Option.toList_some, Option.toList_none, Int.cast_ofNat_Int, Int.reduceLT, Int.reduceLE, List.nil_append, List.append_nil, beq_self_eq_true, go_sem, ↓reduceIte, Nat.reduceEqDiff, reduceCtorEq, Nat.reduceAdd, Nat.reduceLeDiff, Nat.reduceMul, Nat.reduceSub, Int.reduceToNat]
  exact fun i _ => ⟨_, rfl⟩

end Go.Abs
