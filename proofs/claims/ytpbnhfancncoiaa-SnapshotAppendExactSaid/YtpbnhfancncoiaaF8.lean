/- A part of the walk: contracts of functions that the statement reaches. -/
import Derived.Test.YtpbnhfancncoiaaAbsD
import Derived.Test.YtpbnhfancncoiaaF7
set_option linter.unusedSimpArgs false
set_option linter.unusedVariables false
set_option linter.unnecessarySimpa false
set_option maxRecDepth 100000
set_option maxHeartbeats 2000000
set_option linter.unusedSimpArgs false
set_option linter.unusedVariables false
namespace Go.Abs
open Go.Proofs
open Api
def NErr {α : Type} (p : Int → Except Int (α × Int)) : Prop := ∀ t e, p t = .error e → e ≠ 0
theorem nerr_int (b : List Int) : NErr (rInt b) := fun t e h => rInt_err h
theorem nerr_vec (b : List Int) : NErr (rVec b) := fun t e h => rVec_err h
theorem nerr_rN {α : Type} {p : Int → Except Int (α × Int)} (hp : NErr p) (t : Int) : ∀ n e, rN p t n = .error e → e ≠ 0
  | 0, e, h => by cases h
  | n + 1, e, h => by
    simp only [rN] at h
    split at h
    · rename_i hr; cases h; exact nerr_rN hp t n _ hr
    · split at h
      · rename_i hr; cases h; exact hp _ _ hr
      · cases h
theorem nerr_len (b : List Int) : NErr (rLen b) := by
  intro t e h
  unfold rLen at h
  split at h
  · rename_i hr; cases h; exact rInt_err hr
  · split at h
    · cases h; decide
    · split at h
      · cases h; decide
      · cases h
theorem nerr_sl {α : Type} {p : Int → Except Int (α × Int)} (hp : NErr p) (b : List Int) : NErr (rSl p b) := by
  intro t e h
  unfold rSl at h
  split at h
  · rename_i hr; cases h; exact nerr_len b _ _ hr
  · exact nerr_rN hp _ _ _ h
theorem nerr_RB {α β : Type} {r : Except Int (α × Int)} {f : α → Int → Except Int β} (hr : ∀ e, r = .error e → e ≠ 0) (hf : ∀ x t e, f x t = .error e → e ≠ 0) (e : Int) (h : RB r f = .error e) : e ≠ 0 := by
  cases r with
  | error e' => cases h; exact hr _ rfl
  | ok x => exact hf _ _ _ h
theorem nerr_Key (b : List Int) : NErr (rKey b) := by
  intro t e h
  exact nerr_RB (nerr_int b _) (fun _ _ => nerr_RB (nerr_int b _) (fun _ _ => nerr_RB (nerr_int b _) (fun _ _ => nerr_RB (nerr_int b _) (fun _ _ _ h => by cases h)))) e h
theorem nerr_ContactPoint (b : List Int) : NErr (rContactPoint b) := by
  intro t e h
  exact nerr_RB (nerr_vec b _) (fun _ _ => nerr_RB (nerr_int b _) (fun _ _ => nerr_RB (nerr_int b _) (fun _ _ => nerr_RB (nerr_int b _) (fun _ _ => nerr_RB (nerr_int b _) (fun _ _ _ h => by cases h))))) e h
theorem nerr_Contact (b : List Int) : NErr (rContact b) := by
  intro t e h
  exact nerr_RB (nerr_Key b _) (fun _ _ => nerr_RB (nerr_vec b _) (fun _ _ => nerr_RB (nerr_sl (nerr_ContactPoint b) b _) (fun _ _ _ h => by cases h))) e h
theorem s_ReadContact (b : List Int) (at' : Int) (hb : b.length ≤ 549755813888) (hB : bytes b) : CallsA Try.prog F_snapshot_ReadContact [encD 1 encU8 0 b, .sc (.int .i64 at')] [] (.tup [.agg (t3d (rContact b at')).1.enc, .sc (.int .i64 (t3d (rContact b at')).2.1), .sc (.int .i64 (t3d (rContact b at')).2.2)]) [] := by
  refine callsIR'_of (rs := [_, _, _]) (N := 13) hm Try.func18 (by kernel_rfl) (by kernel_rfl) is_snapshot_ReadContact (by kernel_rfl) (by kernel_rfl : rvOf Try.prog Try.f18.results.toList = some [(4, some (some 7)), (5, none), (6, none)]) (by decide) (by kernel_rfl) ?_
  simp only [c_snapshot_ReadContact, go_sem, ↓reduceIte, Nat.reduceEqDiff, reduceCtorEq, Nat.reduceAdd, Nat.reduceLeDiff, Nat.reduceMul, Nat.reduceSub, Int.reduceToNat]
  refine CallGi_flat (s_decodeAt_Contact b at' F_snapshot_decoder_contact (rContact b) (fun t => s_dec_contact b t hb hB) (nerr_Contact b)) rfl ?_
  simp only [go_sem, ↓reduceIte, Nat.reduceEqDiff, reduceCtorEq, Nat.reduceAdd, Nat.reduceLeDiff, Nat.reduceMul, Nat.reduceSub, Int.reduceToNat]
end Go.Abs
