/- A part of the walk: contracts of functions that the statement reaches. -/
import Derived.Test.YtlldeiikcfaegaaGreatAbsC
import Derived.Test.YtlldeiikcfaegaaGreatS13
set_option linter.unusedSimpArgs false
set_option linter.unusedVariables false
set_option linter.unnecessarySimpa false
set_option maxRecDepth 100000
set_option maxHeartbeats 2000000
set_option linter.unusedSimpArgs false
set_option linter.unusedVariables false
namespace Go.Abs
open Go.Proofs
open Api
theorem wk_other (l : List Int) : ∀ (s : List Body × List (Int × Int)) (i : Nat), (∀ j ∈ l, 0 ≤ j) → (i : Int) ∉ l → ((l.foldl wkStep s).1.getD i default) = s.1.getD i default := by
  induction l with
  | nil => intro s i _ _; rfl
  | cons a l ih =>
    intro s i h hi
    rw [List.foldl_cons, ih (wkStep s a) i (fun j hj => h j (by simp [hj])) (fun h' => hi (by simp [h']))]
    unfold wkStep
    split
    · have := h a (by simp)
      exact getD_set_ne fun e => hi (by subst e; rw [Int.toNat_of_nonneg this]; simp)
    · rfl
theorem up_other (l : List Int) : ∀ (s : List Body) (i : Nat), (∀ j ∈ l, 0 ≤ j) → (i : Int) ∉ l → ((l.foldl (fun bs i => bs.set i.toNat (updIdle (bs.getD i.toNat default))) s).getD i default) = s.getD i default := by
  induction l with
  | nil => intro s i _ _; rfl
  | cons a l ih =>
    intro s i h hi
    rw [List.foldl_cons, ih _ i (fun j hj => h j (by simp [hj])) (fun h' => hi (by simp [h']))]
    have := h a (by simp)
    exact getD_set_ne fun e => hi (by subst e; rw [Int.toNat_of_nonneg this]; simp)
theorem sl_other (l : List Int) : ∀ (s : List Body × List (Int × Int)) (i : Nat), (∀ j ∈ l, 0 ≤ j) → (i : Int) ∉ l → ((l.foldl slStep s).1.getD i default) = s.1.getD i default := by
  induction l with
  | nil => intro s i _ _; rfl
  | cons a l ih =>
    intro s i h hi
    rw [List.foldl_cons, ih (slStep s a) i (fun j hj => h j (by simp [hj])) (fun h' => hi (by simp [h']))]
    have := h a (by simp)
    exact getD_set_ne fun e => hi (by subst e; rw [Int.toNat_of_nonneg this]; simp)
theorem indX_not {w : Api.World} {x : Island} {i : Nat} (h : (x.Bodies.any fun y => y == (i : Int)) = false) : (i : Int) ∉ indX w x := fun hi => by
  have := (inds_mem.1 hi).1
  rw [List.any_eq_false] at h
  exact h _ this (by simp)
theorem wake_out {w : Api.World} {x : Island} {i : Nat} (h : (x.Bodies.any fun y => y == (i : Int)) = false) : (wkR w x).1.getD i default = w.Bodies.getD i default := by
  unfold wkR; split
  · exact wk_other (indX w x) (w.Bodies, []) i (fun j hj => (indX_in w x j hj).1) (indX_not h)
  · rfl
theorem upd_out {w : Api.World} {x : Island} {i : Nat} (h : (x.Bodies.any fun y => y == (i : Int)) = false) : (updR w x).1.getD i default = w.Bodies.getD i default := by
  have hu : (upF w (indX w x)).getD i default = w.Bodies.getD i default := up_other (indX w x) w.Bodies i (fun j hj => (indX_in w x j hj).1) (indX_not h)
  unfold updR; split
  · split
    · exact (sl_other (indX w x) (upF w (indX w x), []) i (fun j hj => (indX_in w x j hj).1) (indX_not h)).trans hu
    · exact hu
  · rfl
theorem updW_sm {w : Api.World} (hw : Wsm w) (x : Island) : Wsm (updW w x) := by
  obtain ⟨u1, u2, u3, u4, u5, u6⟩ := upF_sm hw (indX w x)
  have hd : Body.sm default := ⟨by decide, fun f hf => by cases hf⟩
  have key : ∀ (l : List Int) (s : List Body × List (Int × Int)), (∀ b ∈ s.1, Body.sm b) → ∀ b ∈ (l.foldl slStep s).1, Body.sm b := by
    intro l
    induction l with
    | nil => exact fun s h => h
    | cons a l ih =>
      intro s h
      refine ih _ fun b hb => ?_
      rcases List.mem_or_eq_of_mem_set hb with h1 | rfl
      · exact h b h1
      · show Body.sm (s.1.getD a.toNat default)
        rcases getD_mem_or s.1 a.toNat default with h2 | h2
        · exact h _ h2
        · rw [h2]; exact hd
  refine ⟨?_, hw.2.1, hw.2.2.1, hw.2.2.2.1, ?_, hw.2.2.2.2.2⟩
  · show (updR w x).1.length ≤ _
    rw [updR_len]; exact hw.1
  · show ∀ b ∈ (updR w x).1, Body.sm b
    unfold updR; split
    · split
      · exact key _ (upF w (indX w x), []) u5
      · exact u5
    · exact hw.2.2.2.2.1
def ObD (w : Api.World) (x : Island) (a b : Api.World) : List (Nat × AObj) := (48, .box w.enc) :: (64, .box x.enc) :: (112, .box [.sc (.int .i64 a.Settings.TimeStep), .sc (.int .i64 a.Settings.Gravity.X), .sc (.int .i64 a.Settings.Gravity.Y), .sc (.int .i64 a.Settings.Iterations), .sc (.int .i64 a.Settings.SleepSteps),
  .sl 1 0 a.Bodies.length a.Bodies.length, .sl 2 0 a.Joints.length a.Joints.length, .sl 3 0 a.Contacts.length a.Contacts.length, .sl 4 0 a.Overlaps.length a.Overlaps.length, .sc (.int .i64 a.NextID), .sc (.int .i64 a.Frame)]) ::
  (144, .box [.sc (.int .i64 b.Settings.TimeStep), .sc (.int .i64 b.Settings.Gravity.X), .sc (.int .i64 b.Settings.Gravity.Y), .sc (.int .i64 b.Settings.Iterations), .sc (.int .i64 b.Settings.SleepSteps),
  .sl 11 0 b.Bodies.length b.Bodies.length, .sl 12 0 b.Joints.length b.Joints.length, .sl 13 0 b.Contacts.length b.Contacts.length, .sl 14 0 b.Overlaps.length b.Overlaps.length, .sc (.int .i64 b.NextID), .sc (.int .i64 b.Frame)]) :: (Wobj a 1 2 3 4 ++ Wobj b 11 12 13 14)
attribute [go_sem] ObD
end Go.Abs
