/- A part of the walk: contracts of functions that the statement reaches. -/
import Derived.Test.YtpbnhfancncoiaaAbsD
import Derived.Test.YtpbnhfancncoiaaE6
set_option linter.unusedSimpArgs false
set_option linter.unusedVariables false
set_option linter.unnecessarySimpa false
set_option maxRecDepth 100000
set_option maxHeartbeats 2000000
set_option linter.unusedSimpArgs false
set_option linter.unusedVariables false
namespace Go.Abs
open Go.Proofs
open Api
theorem s_newEncoder_own (b : List Int) (hb : b.length ≤ 400000000000) : CallsA Try.prog F_snapshot_newEncoder [encD 1 encU8 0 b] [] (.ptr 1 0 0 1) [(1, .box [.sl 2 0 b.length b.length]), (2, .arr 1 (encQ encU8 0 b))] := by
  refine callsIO_of (rs := [_]) hm Try.func22 (by kernel_rfl) (by kernel_rfl) is_snapshot_newEncoder (by kernel_rfl : tmpsOf Try.f22.results.toList = some [2]) (by decide) (by kernel_rfl) ?_
  simp only [c_snapshot_newEncoder, go_sem, ↓reduceIte, Nat.reduceEqDiff, reduceCtorEq, Nat.reduceAdd, Nat.reduceLeDiff, Nat.reduceMul, Nat.reduceSub, Int.reduceToNat]
  refine ⟨⟨by omega, (by simp only [maxLen]; omega)⟩, ?_⟩
  refine retW_of [.share] [(1, 112), (2, 80)] [] rfl rfl (by simp [go_sem]) (by simp [assoc, go_sem]) (by simp [go_sem]) ?_
  simp only [go_sem, ↓reduceIte, Nat.reduceEqDiff, reduceCtorEq, Nat.reduceAdd, Nat.reduceLeDiff, Nat.reduceMul, Nat.reduceSub, Int.reduceToNat]
theorem s_newEncoder (b : List Int) (hb : b.length ≤ 400000000000) : CallsA Try.prog F_snapshot_newEncoder [encD 1 encU8 0 b] [] (.ptr 1 0 0 1) [(1, .box [encD 1 encU8 0 b]), (2, .frz 1 (encQ encU8 0 b))] := by
  refine CallsA.thawBox (s_newEncoder_own b hb) (id := 1) (k := 2) (z := 1) (s := encQ encU8 0 b) (cs := [.sl 2 0 b.length b.length]) rfl rfl (by decide) ?_ ?_
  · exact ⟨fun _ => rfl, trivial⟩
  · have e : (fun i => (encQ encU8 0 b).g (0 + i)) = encAt encU8 0 b := by funext i; rw [Nat.zero_add]; rfl
    have e2 : thawCells 2 1 (encQ encU8 0 b) [.sl 2 0 b.length b.length] = [encD 1 encU8 0 b] := by
      show [if 2 = 2 then AV.dsl 1 b.length (fun i => (encQ encU8 0 b).g (0 + i)) else AV.sl 2 0 b.length b.length] = _
      rw [if_pos rfl, e]; rfl
    rw [e2]
    funext x
    by_cases h1 : x = 1
    · subst h1; simp [ofL, wrm, upd]
    · by_cases h2 : x = 2
      · subst h2; simp [ofL, wrm, upd]
      · simp [ofL, wrm, upd, h1, h2]
theorem s_AppendContact (b : List Int) (x : Contact) (hb : b.length ≤ 100000000000) (hx : x.Manifold.Points.length ≤ 1048576) : CallsA Try.prog F_snapshot_AppendContact [encD 1 encU8 0 b, .agg x.enc] [] (encD 1 encU8 0 (b ++ ctcB x)) [] := by
  refine callsI_of (rs := [_]) hm Try.func11 (by kernel_rfl) (by kernel_rfl) is_snapshot_AppendContact (by kernel_rfl : tmpsOf Try.f11.results.toList = some [4]) (by decide) (by kernel_rfl) ?_
  simp only [c_snapshot_AppendContact, go_sem, ↓reduceIte, Nat.reduceEqDiff, reduceCtorEq, Nat.reduceAdd, Nat.reduceLeDiff, Nat.reduceMul, Nat.reduceSub, Int.reduceToNat]
  refine CallGi_obj [true] [] (s_newEncoder b (by omega)) (by simp) (by simp [go_sem]) (by simp [go_sem]) (by simp) ?_
  simp only [argsOC, go_sem, ↓reduceIte, Nat.reduceEqDiff, reduceCtorEq, Nat.reduceAdd, Nat.reduceLeDiff, Nat.reduceMul, Nat.reduceSub, Int.reduceToNat]
  refine CallGi_subw (s_enc_contact b x (by omega) hx) (okO_eO _) rfl (by simp [go_sem]) (by simp [go_sem, AV.ids]) rfl ?_
  simp only [go_sem, ↓reduceIte, Nat.reduceEqDiff, reduceCtorEq, Nat.reduceAdd, Nat.reduceLeDiff, Nat.reduceMul, Nat.reduceSub, Int.reduceToNat]
end Go.Abs
