/- A part of the walk: contracts of functions that the statement reaches. -/
import Derived.Test.YtpbnhfancncoiaaAbsD
import Derived.Test.YtpbnhfancncoiaaF7
set_option linter.unusedSimpArgs false
set_option linter.unusedVariables false
set_option linter.unnecessarySimpa false
set_option maxRecDepth 100000
set_option maxHeartbeats 2000000
set_option linter.unusedSimpArgs false
set_option linter.unusedVariables false
namespace Go.Abs
open Go.Proofs
open Api
def NErr {α : Type} (p : Int → Except Int (α × Int)) : Prop := ∀ t e, p t = .error e → e ≠ 0
theorem nerr_int (b : List Int) : NErr (rInt b) := fun t e h => rInt_err h
theorem nerr_vec (b : List Int) : NErr (rVec b) := fun t e h => rVec_err h
theorem nerr_bool (b : List Int) : NErr (rBool b) := fun t e h => rBool_err h
theorem nerr_rN {α : Type} {p : Int → Except Int (α × Int)} (hp : NErr p) (t : Int) : ∀ n e, rN p t n = .error e → e ≠ 0
  | 0, e, h => by cases h
  | n + 1, e, h => by
    simp only [rN] at h
    split at h
    · rename_i hr; cases h; exact nerr_rN hp t n _ hr
    · split at h
      · rename_i hr; cases h; exact hp _ _ hr
      · cases h
theorem nerr_len (b : List Int) : NErr (rLen b) := by
  intro t e h
  unfold rLen at h
  split at h
  · rename_i hr; cases h; exact rInt_err hr
  · split at h
    · cases h; decide
    · split at h
      · cases h; decide
      · cases h
theorem nerr_sl {α : Type} {p : Int → Except Int (α × Int)} (hp : NErr p) (b : List Int) : NErr (rSl p b) := by
  intro t e h
  unfold rSl at h
  split at h
  · rename_i hr; cases h; exact nerr_len b _ _ hr
  · exact nerr_rN hp _ _ _ h
theorem nerr_RB {α β : Type} {r : Except Int (α × Int)} {f : α → Int → Except Int β} (hr : ∀ e, r = .error e → e ≠ 0) (hf : ∀ x t e, f x t = .error e → e ≠ 0) (e : Int) (h : RB r f = .error e) : e ≠ 0 := by
  cases r with
  | error e' => cases h; exact hr _ rfl
  | ok x => exact hf _ _ _ h
theorem nerr_Key (b : List Int) : NErr (rKey b) := by
  intro t e h
  exact nerr_RB (nerr_int b _) (fun _ _ => nerr_RB (nerr_int b _) (fun _ _ => nerr_RB (nerr_int b _) (fun _ _ => nerr_RB (nerr_int b _) (fun _ _ _ h => by cases h)))) e h
theorem nerr_ContactPoint (b : List Int) : NErr (rContactPoint b) := by
  intro t e h
  exact nerr_RB (nerr_vec b _) (fun _ _ => nerr_RB (nerr_int b _) (fun _ _ => nerr_RB (nerr_int b _) (fun _ _ => nerr_RB (nerr_int b _) (fun _ _ => nerr_RB (nerr_int b _) (fun _ _ _ h => by cases h))))) e h
theorem nerr_Contact (b : List Int) : NErr (rContact b) := by
  intro t e h
  exact nerr_RB (nerr_Key b _) (fun _ _ => nerr_RB (nerr_vec b _) (fun _ _ => nerr_RB (nerr_sl (nerr_ContactPoint b) b _) (fun _ _ _ h => by cases h))) e h
theorem nerr_Fixture (b : List Int) : NErr (rFixture b) := by
  intro t e h
  exact nerr_RB (nerr_int b _) (fun _ _ => nerr_RB (nerr_int b _) (fun _ _ => nerr_RB (nerr_sl (nerr_vec b) b _) (fun _ _ => nerr_RB (nerr_int b _) (fun _ _ => nerr_RB (nerr_int b _) (fun _ _ => nerr_RB (nerr_int b _) (fun _ _ => nerr_RB (nerr_bool b _) (fun _ _ => nerr_RB (nerr_int b _) (fun _ _ => nerr_RB (nerr_int b _) (fun _ _ => nerr_RB (nerr_int b _) (fun _ _ _ h => by cases h)))))))))) e h
theorem nerr_Body (b : List Int) : NErr (rBody b) := by
  intro t e h
  exact nerr_RB (nerr_int b _) (fun _ _ => nerr_RB (nerr_int b _) (fun _ _ => nerr_RB (nerr_vec b _) (fun _ _ => nerr_RB (nerr_int b _) (fun _ _ => nerr_RB (nerr_vec b _) (fun _ _ => nerr_RB (nerr_int b _) (fun _ _ => nerr_RB (nerr_vec b _) (fun _ _ => nerr_RB (nerr_int b _) (fun _ _ => nerr_RB (nerr_int b _) (fun _ _ => nerr_RB (nerr_int b _) (fun _ _ => nerr_RB (nerr_int b _) (fun _ _ => nerr_RB (nerr_bool b _) (fun _ _ => nerr_RB (nerr_bool b _) (fun _ _ => nerr_RB (nerr_bool b _) (fun _ _ => nerr_RB (nerr_bool b _) (fun _ _ => nerr_RB (nerr_int b _) (fun _ _ => nerr_RB (nerr_sl (nerr_Fixture b) b _) (fun _ _ _ h => by cases h))))))))))))))))) e h
theorem nerr_Joint (b : List Int) : NErr (rJoint b) := by
  intro t e h
  exact nerr_RB (nerr_int b _) (fun _ _ => nerr_RB (nerr_int b _) (fun _ _ => nerr_RB (nerr_int b _) (fun _ _ => nerr_RB (nerr_int b _) (fun _ _ => nerr_RB (nerr_vec b _) (fun _ _ => nerr_RB (nerr_vec b _) (fun _ _ => nerr_RB (nerr_vec b _) (fun _ _ => nerr_RB (nerr_int b _) (fun _ _ => nerr_RB (nerr_bool b _) (fun _ _ => nerr_RB (nerr_int b _) (fun _ _ => nerr_RB (nerr_int b _) (fun _ _ => nerr_RB (nerr_bool b _) (fun _ _ => nerr_RB (nerr_int b _) (fun _ _ => nerr_RB (nerr_int b _) (fun _ _ => nerr_RB (nerr_int b _) (fun _ _ => nerr_RB (nerr_int b _) (fun _ _ => nerr_RB (nerr_bool b _) (fun _ _ => nerr_RB (nerr_rN (nerr_int b) _ 4) (fun _ _ _ h => by cases h)))))))))))))))))) e h
theorem s_ReadContact (b : List Int) (at' : Int) (hb : b.length ≤ 549755813888) (hB : bytes b) : CallsA Try.prog F_snapshot_ReadContact [encD 1 encU8 0 b, .sc (.int .i64 at')] [] (.tup [.agg (t3d (rContact b at')).1.enc, .sc (.int .i64 (t3d (rContact b at')).2.1), .sc (.int .i64 (t3d (rContact b at')).2.2)]) [] := by
  refine callsIR'_of (rs := [_, _, _]) (N := 13) hm Try.func18 (by kernel_rfl) (by kernel_rfl) is_snapshot_ReadContact (by kernel_rfl) (by kernel_rfl : rvOf Try.prog Try.f18.results.toList = some [(4, some (some 7)), (5, none), (6, none)]) (by decide) (by kernel_rfl) ?_
  simp only [c_snapshot_ReadContact, go_sem, ↓reduceIte, Nat.reduceEqDiff, reduceCtorEq, Nat.reduceAdd, Nat.reduceLeDiff, Nat.reduceMul, Nat.reduceSub, Int.reduceToNat]
  refine CallGi_flat (s_decodeAt_Contact b at' F_snapshot_decoder_contact (rContact b) (fun t => s_dec_contact b t hb hB) (nerr_Contact b)) rfl ?_
  simp only [go_sem, ↓reduceIte, Nat.reduceEqDiff, reduceCtorEq, Nat.reduceAdd, Nat.reduceLeDiff, Nat.reduceMul, Nat.reduceSub, Int.reduceToNat]
theorem s_ReadBody (b : List Int) (at' : Int) (hb : b.length ≤ 549755813888) (hB : bytes b) : CallsA Try.prog F_snapshot_ReadBody [encD 1 encU8 0 b, .sc (.int .i64 at')] [] (.tup [.agg (t3d (rBody b at')).1.enc, .sc (.int .i64 (t3d (rBody b at')).2.1), .sc (.int .i64 (t3d (rBody b at')).2.2)]) [] := by
  refine callsIR'_of (rs := [_, _, _]) (N := 13) hm Try.func13 (by kernel_rfl) (by kernel_rfl) is_snapshot_ReadBody (by kernel_rfl) (by kernel_rfl : rvOf Try.prog Try.f13.results.toList = some [(4, some (some 20)), (5, none), (6, none)]) (by decide) (by kernel_rfl) ?_
  simp only [c_snapshot_ReadBody, go_sem, ↓reduceIte, Nat.reduceEqDiff, reduceCtorEq, Nat.reduceAdd, Nat.reduceLeDiff, Nat.reduceMul, Nat.reduceSub, Int.reduceToNat]
  refine CallGi_flat (s_decodeAt_Body b at' F_snapshot_decoder_body (rBody b) (fun t => s_dec_body b t hb hB) (nerr_Body b)) rfl ?_
  simp only [go_sem, ↓reduceIte, Nat.reduceEqDiff, reduceCtorEq, Nat.reduceAdd, Nat.reduceLeDiff, Nat.reduceMul, Nat.reduceSub, Int.reduceToNat]
theorem s_ReadJoint (b : List Int) (at' : Int) (hb : b.length ≤ 549755813888) (hB : bytes b) : CallsA Try.prog F_snapshot_ReadJoint [encD 1 encU8 0 b, .sc (.int .i64 at')] [] (.tup [.agg (t3d (rJoint b at')).1.enc, .sc (.int .i64 (t3d (rJoint b at')).2.1), .sc (.int .i64 (t3d (rJoint b at')).2.2)]) [] := by
  refine callsIR'_of (rs := [_, _, _]) (N := 13) hm Try.func16 (by kernel_rfl) (by kernel_rfl) is_snapshot_ReadJoint (by kernel_rfl) (by kernel_rfl : rvOf Try.prog Try.f16.results.toList = some [(4, some (some 24)), (5, none), (6, none)]) (by decide) (by kernel_rfl) ?_
  simp only [c_snapshot_ReadJoint, go_sem, ↓reduceIte, Nat.reduceEqDiff, reduceCtorEq, Nat.reduceAdd, Nat.reduceLeDiff, Nat.reduceMul, Nat.reduceSub, Int.reduceToNat]
  refine CallGi_flat (s_decodeAt_Joint b at' F_snapshot_decoder_joint (rJoint b) (fun t => s_dec_joint b t hb hB) (nerr_Joint b)) rfl ?_
  simp only [go_sem, ↓reduceIte, Nat.reduceEqDiff, reduceCtorEq, Nat.reduceAdd, Nat.reduceLeDiff, Nat.reduceMul, Nat.reduceSub, Int.reduceToNat]

end Go.Abs
