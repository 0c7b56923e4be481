/- A part of the walk: contracts of functions that the statement reaches. -/
import Derived.Test.YtpbnhfancncoiaaAbsD
import Derived.Test.YtpbnhfancncoiaaF5
import Derived.Test.YtpbnhfancncoiaaF8
set_option linter.unusedSimpArgs false
set_option linter.unusedVariables false
set_option linter.unnecessarySimpa false
set_option maxRecDepth 100000
set_option maxHeartbeats 2000000
set_option linter.unusedSimpArgs false
set_option linter.unusedVariables false
namespace Go.Abs
open Go.Proofs
open Api
/-- the reference's readers: a state is an offset or an error -/
abbrev RS := Except Int Int
def qInt (b : List Int) : RS → Int × RS
  | .error e => (0, .error e)
  | .ok t => match rInt b t with
    | .error e => (0, .error e)
    | .ok x => (x.1, .ok x.2)
def qBool (b : List Int) : RS → Bool × RS
  | .error e => (false, .error e)
  | .ok t => match rBool b t with
    | .error e => (false, .error e)
    | .ok x => (x.1, .ok x.2)
def qVec (b : List Int) (s : RS) : Vec × RS := (⟨(qInt b s).1, (qInt b (qInt b s).2).1⟩, (qInt b (qInt b s).2).2)
def qInts (b : List Int) (s : RS) : Nat → List Int × RS
  | 0 => ([], s)
  | n + 1 => ((qInts b s n).1 ++ [(qInt b (qInts b s n).2).1], (qInt b (qInts b s n).2).2)
theorem qInts_len (b : List Int) (s : RS) : ∀ n, (qInts b s n).1.length = n
  | 0 => rfl
  | n + 1 => by simp [qInts, qInts_len b s n]
def qCount (b : List Int) (s : RS) : Int × RS := match (qInt b s).2 with
  | .error e => (0, .error e)
  | .ok t => if (qInt b s).1 < 0 then (0, .error 3) else if 8192 < (qInt b s).1 then (0, .error 5) else ((qInt b s).1, .ok t)
def qN {α : Type} (q : RS → α × RS) (s : RS) : Nat → List α × RS
  | 0 => ([], s)
  | n + 1 => match (qN q s n).2 with
    | .error e => ((qN q s n).1, .error e)
    | .ok t => ((qN q s n).1 ++ [(q (.ok t)).1], (q (.ok t)).2)
def qSl {α : Type} (q : RS → α × RS) (b : List Int) (s : RS) : List α × RS := qN q (qCount b s).2 (qCount b s).1.toNat
def Agr {α : Type} (q : RS → α × RS) (p : Int → Except Int (α × Int)) : Prop :=
  (∀ e, (q (.error e)).2 = .error e) ∧ (∀ t x, p t = .ok x → q (.ok t) = (x.1, .ok x.2)) ∧ ∀ t e, p t = .error e → (q (.ok t)).2 = .error e
theorem agr_int (b : List Int) : Agr (qInt b) (rInt b) :=
  ⟨fun _ => rfl, fun t x h => by simp only [qInt, h], fun t e h => by simp only [qInt, h]⟩
theorem agr_bool (b : List Int) : Agr (qBool b) (rBool b) :=
  ⟨fun _ => rfl, fun t x h => by simp only [qBool, h], fun t e h => by simp only [qBool, h]⟩
theorem agr_vec (b : List Int) : Agr (qVec b) (rVec b) := by
  refine ⟨fun _ => rfl, fun t x h => ?_, fun t e h => ?_⟩
  · unfold rVec at h
    split at h
    · cases h
    · rename_i x0 t0 h0
      split at h
      · cases h
      · rename_i x1 t1 h1
        cases h
        simp only [qVec, (agr_int b).2.1 _ _ h0, (agr_int b).2.1 _ _ h1]
  · unfold rVec at h
    split at h
    · rename_i e0 h0
      cases h
      show (qInt b (qInt b (.ok t)).2).2 = _
      rw [(agr_int b).2.2 _ _ h0]; rfl
    · rename_i x0 t0 h0
      split at h
      · rename_i e1 h1
        cases h
        simp only [qVec, (agr_int b).2.1 _ _ h0, (agr_int b).2.2 _ _ h1]
      · cases h
theorem qN_err {α : Type} (q : RS → α × RS) (e : Int) : ∀ n, qN q (.error e) n = ([], .error e)
  | 0 => rfl
  | n + 1 => by simp only [qN, qN_err q e n]
theorem agr_N {α : Type} {q : RS → α × RS} {p : Int → Except Int (α × Int)} (h : Agr q p) (t : Int) : ∀ n, (∀ x, rN p t n = .ok x → qN q (.ok t) n = (x.1, .ok x.2)) ∧ ∀ e, rN p t n = .error e → (qN q (.ok t) n).2 = .error e
  | 0 => ⟨fun x hx => by cases hx; rfl, fun e he => by cases he⟩
  | n + 1 => by
    obtain ⟨i1, i2⟩ := agr_N h t n
    refine ⟨fun x hx => ?_, fun e he => ?_⟩
    · simp only [rN] at hx
      split at hx
      · cases hx
      · rename_i y hy
        split at hx
        · cases hx
        · rename_i z hz
          cases hx
          simp only [qN, i1 _ hy, h.2.1 _ _ hz]
    · simp only [rN] at he
      split at he
      · rename_i e1 hy
        cases he
        simp only [qN, i2 _ hy]
      · rename_i y hy
        split at he
        · rename_i e1 hz
          cases he
          simp only [qN, i1 _ hy, h.2.2 _ _ hz]
        · cases he
theorem agr_count (b : List Int) : Agr (qCount b) (rLen b) := by
  refine ⟨fun _ => rfl, fun t x h => ?_, fun t e h => ?_⟩
  · obtain ⟨h1, h2, h3⟩ := rLen_ok h
    simp only [qCount, (agr_int b).2.1 _ _ h3]
    rw [if_neg (by omega), if_neg (by omega)]
  · unfold rLen at h
    split at h
    · rename_i e0 h0
      cases h
      simp only [qCount, (agr_int b).2.2 _ _ h0]
    · rename_i x h0
      simp only [qCount, (agr_int b).2.1 _ _ h0]
      split at h
      · rename_i h1
        cases h
        rw [if_pos h1]
      · rename_i h1
        split at h
        · rename_i h2
          cases h
          rw [if_neg h1, if_pos h2]
        · cases h
theorem agr_Sl {α : Type} {q : RS → α × RS} {p : Int → Except Int (α × Int)} (h : Agr q p) (b : List Int) : Agr (qSl q b) (rSl p b) := by
  refine ⟨fun e => ?_, fun t x hx => ?_, fun t e he => ?_⟩
  · have : qCount b (.error e) = (0, .error e) := rfl
    simp only [qSl, this, qN_err]
  · unfold rSl at hx
    split at hx
    · cases hx
    · rename_i y hy
      simp only [qSl, (agr_count b).2.1 _ _ hy]
      exact (agr_N h _ _).1 _ hx
  · unfold rSl at he
    split at he
    · rename_i e0 hy
      cases he
      simp only [qSl, (agr_count b).2.2 _ _ hy, qN_err]
    · rename_i y hy
      simp only [qSl, (agr_count b).2.1 _ _ hy]
      exact (agr_N h _ _).2 _ he
theorem agr_ints (b : List Int) : ∀ n, Agr (fun s => qInts b s n) (fun t => rN (rInt b) t n)
  | 0 => ⟨fun _ => rfl, fun t x h => by cases h; rfl, fun t e h => by cases h⟩
  | n + 1 => by
    obtain ⟨i0, i1, i2⟩ := agr_ints b n
    refine ⟨fun e => ?_, fun t x hx => ?_, fun t e he => ?_⟩
    · simp only [qInts, i0]; rfl
    · simp only [rN] at hx
      split at hx
      · cases hx
      · rename_i y hy
        split at hx
        · cases hx
        · rename_i z hz
          cases hx
          have := i1 _ _ hy
          simp only [qInts, this, (agr_int b).2.1 _ _ hz]
    · simp only [rN] at he
      split at he
      · rename_i e1 hy
        cases he
        have := i2 _ _ hy
        simp only [qInts, this]; rfl
      · rename_i y hy
        split at he
        · rename_i e1 hz
          cases he
          have := i1 _ _ hy
          simp only [qInts, this, (agr_int b).2.2 _ _ hz]
        · cases he
def q3 {α : Type} [Inhabited α] (r : α × RS) : α × Int × Int := match r.2 with | .ok t => (r.1, t, 0) | .error e => (default, 0, e)

end Go.Abs
