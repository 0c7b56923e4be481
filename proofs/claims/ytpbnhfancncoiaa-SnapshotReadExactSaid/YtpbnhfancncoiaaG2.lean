/- A part of the walk: contracts of functions that the statement reaches. -/
import Derived.Test.YtpbnhfancncoiaaAbsD
import Derived.Test.YtpbnhfancncoiaaG1
set_option linter.unusedSimpArgs false
set_option linter.unusedVariables false
set_option linter.unnecessarySimpa false
set_option maxRecDepth 100000
set_option maxHeartbeats 2000000
set_option linter.unusedSimpArgs false
set_option linter.unusedVariables false
namespace Go.Abs
open Go.Proofs
open Api
theorem RB_ok {α β : Type} {r : Except Int (α × Int)} {f : α → Int → Except Int β} {y : β} (h : RB r f = .ok y) : ∃ x t, r = .ok (x, t) ∧ f x t = .ok y := by
  cases r with
  | error e => cases h
  | ok x => exact ⟨x.1, x.2, rfl, h⟩
theorem RB_error {α β : Type} {r : Except Int (α × Int)} {f : α → Int → Except Int β} {e : Int} (h : RB r f = .error e) : r = .error e ∨ ∃ x t, r = .ok (x, t) ∧ f x t = .error e := by
  cases r with
  | error e' => cases h; exact .inl rfl
  | ok x => exact .inr ⟨x.1, x.2, rfl, h⟩
theorem rVec_ok {b : List Int} {t t' : Int} {v : Vec} (h : rVec b t = .ok (v, t')) : ∃ t1, rInt b t = .ok (v.X, t1) ∧ rInt b t1 = .ok (v.Y, t') := by
  unfold rVec at h
  split at h
  · cases h
  · rename_i x t1 h1
    split at h
    · cases h
    · rename_i y t2 h2
      cases h
      exact ⟨t1, h1, h2⟩
theorem rVec_error {b : List Int} {t : Int} {e : Int} (h : rVec b t = .error e) : rInt b t = .error e ∨ ∃ x t1, rInt b t = .ok (x, t1) ∧ rInt b t1 = .error e := by
  unfold rVec at h
  split at h
  · rename_i h1; cases h; exact .inl h1
  · rename_i x t1 h1
    split at h
    · rename_i h2; cases h; exact .inr ⟨x, t1, h1, h2⟩
    · cases h
theorem qI {b : List Int} {s : RS} {n : Nat} {l : List Int} {t : Int} {x : Int × Int} (h : qInts b s n = (l, .ok t)) (hx : rInt b t = .ok x) : qInts b s (n + 1) = (l ++ [x.1], .ok x.2) := by
  simp only [qInts, h, (agr_int b).2.1 _ _ hx]
theorem qE {b : List Int} {s : RS} {n : Nat} {l : List Int} {t e : Int} (h : qInts b s n = (l, .ok t)) (hx : rInt b t = .error e) (k : Nat) : (qInts b s (n + 1 + k)).2 = .error e := by
  induction k with
  | zero => simp only [Nat.add_zero, qInts, h, (agr_int b).2.2 _ _ hx]
  | succ k ih => 
    rw [← Nat.add_assoc]
    simp only [qInts, ih]; rfl
def qKey (b : List Int) (s : RS) : PairKey × RS :=
  let y0 := qInts b s 4
  (⟨y0.1.getD 0 0, y0.1.getD 1 0, y0.1.getD 2 0, y0.1.getD 3 0⟩, y0.2)
theorem agr_Key (b : List Int) : Agr (qKey b) (rKey b) := by
  have p0 := (agr_ints b 4).1
  refine ⟨fun e => ?_, fun t x h => ?_, fun t e h => ?_⟩
  · simp only [qKey, p0]
  · obtain ⟨x0, t0, h0, h⟩ := RB_ok h
    obtain ⟨x1, t1, h1, h⟩ := RB_ok h
    obtain ⟨x2, t2, h2, h⟩ := RB_ok h
    obtain ⟨x3, t3, h3, h⟩ := RB_ok h
    have e0 : qInts b (.ok t) 4 = ([x0, x1, x2, x3], .ok t3) := (qI (qI (qI (qI (rfl : qInts b (.ok t) 0 = ([], .ok t)) h0) h1) h2) h3)
    cases h
    simp only [qKey, e0]
    first | done | rfl
  · rcases RB_error h with h0 | ⟨x0, t0, h0, h⟩
    · have f := qE (rfl : qInts b (.ok t) 0 = ([], .ok t)) h0 3
      try simp only [Nat.reduceAdd] at f
      simp only [qKey, f]
    rcases RB_error h with h1 | ⟨x1, t1, h1, h⟩
    · have f := qE (qI (rfl : qInts b (.ok t) 0 = ([], .ok t)) h0) h1 2
      try simp only [Nat.reduceAdd] at f
      simp only [qKey, f]
    rcases RB_error h with h2 | ⟨x2, t2, h2, h⟩
    · have f := qE (qI (qI (rfl : qInts b (.ok t) 0 = ([], .ok t)) h0) h1) h2 1
      try simp only [Nat.reduceAdd] at f
      simp only [qKey, f]
    rcases RB_error h with h3 | ⟨x3, t3, h3, h⟩
    · have f := qE (qI (qI (qI (rfl : qInts b (.ok t) 0 = ([], .ok t)) h0) h1) h2) h3 0
      try simp only [Nat.reduceAdd] at f
      simp only [qKey, f]
    have e0 : qInts b (.ok t) 4 = ([x0, x1, x2, x3], .ok t3) := (qI (qI (qI (qI (rfl : qInts b (.ok t) 0 = ([], .ok t)) h0) h1) h2) h3)
    cases h
def qContactPoint (b : List Int) (s : RS) : ContactPoint × RS :=
  let y0 := qInts b s 6
  (⟨⟨y0.1.getD 0 0, y0.1.getD 1 0⟩, y0.1.getD 2 0, y0.1.getD 3 0, y0.1.getD 4 0, y0.1.getD 5 0⟩, y0.2)
theorem agr_ContactPoint (b : List Int) : Agr (qContactPoint b) (rContactPoint b) := by
  have p0 := (agr_ints b 6).1
  refine ⟨fun e => ?_, fun t x h => ?_, fun t e h => ?_⟩
  · simp only [qContactPoint, p0]
  · obtain ⟨x0, t0, h0, h⟩ := RB_ok h
    obtain ⟨uh0, hah0, hbh0⟩ := rVec_ok h0
    obtain ⟨x1, t1, h1, h⟩ := RB_ok h
    obtain ⟨x2, t2, h2, h⟩ := RB_ok h
    obtain ⟨x3, t3, h3, h⟩ := RB_ok h
    obtain ⟨x4, t4, h4, h⟩ := RB_ok h
    have e0 : qInts b (.ok t) 6 = ([x0.X, x0.Y, x1, x2, x3, x4], .ok t4) := (qI (qI (qI (qI (qI (qI (rfl : qInts b (.ok t) 0 = ([], .ok t)) hah0) hbh0) h1) h2) h3) h4)
    cases h
    simp only [qContactPoint, e0]
    first | done | rfl
  · rcases RB_error h with h0 | ⟨x0, t0, h0, h⟩
    · rcases rVec_error h0 with ha | ⟨w, u, ha, hb⟩
      · have f := qE (rfl : qInts b (.ok t) 0 = ([], .ok t)) ha 5
        try simp only [Nat.reduceAdd] at f
        simp only [qContactPoint, f]
      · have f := qE (qI (rfl : qInts b (.ok t) 0 = ([], .ok t)) ha) hb 4
        try simp only [Nat.reduceAdd] at f
        simp only [qContactPoint, f]
    obtain ⟨uh0, hah0, hbh0⟩ := rVec_ok h0
    rcases RB_error h with h1 | ⟨x1, t1, h1, h⟩
    · have f := qE (qI (qI (rfl : qInts b (.ok t) 0 = ([], .ok t)) hah0) hbh0) h1 3
      try simp only [Nat.reduceAdd] at f
      simp only [qContactPoint, f]
    rcases RB_error h with h2 | ⟨x2, t2, h2, h⟩
    · have f := qE (qI (qI (qI (rfl : qInts b (.ok t) 0 = ([], .ok t)) hah0) hbh0) h1) h2 2
      try simp only [Nat.reduceAdd] at f
      simp only [qContactPoint, f]
    rcases RB_error h with h3 | ⟨x3, t3, h3, h⟩
    · have f := qE (qI (qI (qI (qI (rfl : qInts b (.ok t) 0 = ([], .ok t)) hah0) hbh0) h1) h2) h3 1
      try simp only [Nat.reduceAdd] at f
      simp only [qContactPoint, f]
    rcases RB_error h with h4 | ⟨x4, t4, h4, h⟩
    · have f := qE (qI (qI (qI (qI (qI (rfl : qInts b (.ok t) 0 = ([], .ok t)) hah0) hbh0) h1) h2) h3) h4 0
      try simp only [Nat.reduceAdd] at f
      simp only [qContactPoint, f]
    have e0 : qInts b (.ok t) 6 = ([x0.X, x0.Y, x1, x2, x3, x4], .ok t4) := (qI (qI (qI (qI (qI (qI (rfl : qInts b (.ok t) 0 = ([], .ok t)) hah0) hbh0) h1) h2) h3) h4)
    cases h
def qContact (b : List Int) (s : RS) : Contact × RS :=
  let y0 := qKey b s
  let y1 := qVec b y0.2
  let y2 := qSl (qContactPoint b) b y1.2
  ({ Key := y0.1, Manifold := { Normal := y1.1, Points := y2.1 } }, y2.2)
theorem agr_Contact (b : List Int) : Agr (qContact b) (rContact b) := by
  have p0 := (agr_Key b).1
  have p1 := (agr_vec b).1
  have p2 := (agr_Sl (agr_ContactPoint b) b).1
  refine ⟨fun e => ?_, fun t x h => ?_, fun t e h => ?_⟩
  · simp only [qContact, p0, p1, p2]
  · obtain ⟨x0, t0, h0, h⟩ := RB_ok h
    have e0 := (agr_Key b).2.1 _ _ h0
    dsimp only at e0
    obtain ⟨x1, t1, h1, h⟩ := RB_ok h
    have e1 := (agr_vec b).2.1 _ _ h1
    dsimp only at e1
    obtain ⟨x2, t2, h2, h⟩ := RB_ok h
    have e2 := (agr_Sl (agr_ContactPoint b) b).2.1 _ _ h2
    dsimp only at e2
    cases h
    simp only [qContact, e0, e1, e2]
    first | done | rfl
  · rcases RB_error h with h0 | ⟨x0, t0, h0, h⟩
    · have f := (agr_Key b).2.2 _ _ h0
      try simp only [Nat.reduceAdd] at f
      simp only [qContact, f, p1, p2]
    have e0 := (agr_Key b).2.1 _ _ h0
    dsimp only at e0
    rcases RB_error h with h1 | ⟨x1, t1, h1, h⟩
    · have f := (agr_vec b).2.2 _ _ h1
      try simp only [Nat.reduceAdd] at f
      simp only [qContact, e0, f, p2]
    have e1 := (agr_vec b).2.1 _ _ h1
    dsimp only at e1
    rcases RB_error h with h2 | ⟨x2, t2, h2, h⟩
    · have f := (agr_Sl (agr_ContactPoint b) b).2.2 _ _ h2
      try simp only [Nat.reduceAdd] at f
      simp only [qContact, e0, e1, f]
    have e2 := (agr_Sl (agr_ContactPoint b) b).2.1 _ _ h2
    dsimp only at e2
    cases h
def qFixture (b : List Int) (s : RS) : Fixture × RS :=
  let y0 := qInts b s 2
  let y1 := qSl (qVec b) b y0.2
  let y2 := qInts b y1.2 3
  let y3 := qBool b y2.2
  let y4 := qInts b y3.2 3
  ({ Shape := { Kind := y0.1.getD 0 0, Radius := y0.1.getD 1 0, Vertices := y1.1 }, Density := y2.1.getD 0 0, Friction := y2.1.getD 1 0, Restitution := y2.1.getD 2 0, Sensor := y3.1, Category := y4.1.getD 0 0, Mask := y4.1.getD 1 0, Group := y4.1.getD 2 0 }, y4.2)
theorem agr_Fixture (b : List Int) : Agr (qFixture b) (rFixture b) := by
  have p0 := (agr_ints b 2).1
  have p1 := (agr_Sl (agr_vec b) b).1
  have p2 := (agr_ints b 3).1
  have p3 := (agr_bool b).1
  have p4 := (agr_ints b 3).1
  refine ⟨fun e => ?_, fun t x h => ?_, fun t e h => ?_⟩
  · simp only [qFixture, p0, p1, p2, p3, p4]
  · obtain ⟨x0, t0, h0, h⟩ := RB_ok h
    obtain ⟨x1, t1, h1, h⟩ := RB_ok h
    have e0 : qInts b (.ok t) 2 = ([x0, x1], .ok t1) := (qI (qI (rfl : qInts b (.ok t) 0 = ([], .ok t)) h0) h1)
    obtain ⟨x2, t2, h2, h⟩ := RB_ok h
    have e1 := (agr_Sl (agr_vec b) b).2.1 _ _ h2
    dsimp only at e1
    obtain ⟨x3, t3, h3, h⟩ := RB_ok h
    obtain ⟨x4, t4, h4, h⟩ := RB_ok h
    obtain ⟨x5, t5, h5, h⟩ := RB_ok h
    have e2 : qInts b (.ok t2) 3 = ([x3, x4, x5], .ok t5) := (qI (qI (qI (rfl : qInts b (.ok t2) 0 = ([], .ok t2)) h3) h4) h5)
    obtain ⟨x6, t6, h6, h⟩ := RB_ok h
    have e3 := (agr_bool b).2.1 _ _ h6
    dsimp only at e3
    obtain ⟨x7, t7, h7, h⟩ := RB_ok h
    obtain ⟨x8, t8, h8, h⟩ := RB_ok h
    obtain ⟨x9, t9, h9, h⟩ := RB_ok h
    have e4 : qInts b (.ok t6) 3 = ([x7, x8, x9], .ok t9) := (qI (qI (qI (rfl : qInts b (.ok t6) 0 = ([], .ok t6)) h7) h8) h9)
    cases h
    simp only [qFixture, e0, e1, e2, e3, e4]
    first | done | rfl
  · rcases RB_error h with h0 | ⟨x0, t0, h0, h⟩
    · have f := qE (rfl : qInts b (.ok t) 0 = ([], .ok t)) h0 1
      try simp only [Nat.reduceAdd] at f
      simp only [qFixture, f, p1, p2, p3, p4]
    rcases RB_error h with h1 | ⟨x1, t1, h1, h⟩
    · have f := qE (qI (rfl : qInts b (.ok t) 0 = ([], .ok t)) h0) h1 0
      try simp only [Nat.reduceAdd] at f
      simp only [qFixture, f, p1, p2, p3, p4]
    have e0 : qInts b (.ok t) 2 = ([x0, x1], .ok t1) := (qI (qI (rfl : qInts b (.ok t) 0 = ([], .ok t)) h0) h1)
    rcases RB_error h with h2 | ⟨x2, t2, h2, h⟩
    · have f := (agr_Sl (agr_vec b) b).2.2 _ _ h2
      try simp only [Nat.reduceAdd] at f
      simp only [qFixture, e0, f, p2, p3, p4]
    have e1 := (agr_Sl (agr_vec b) b).2.1 _ _ h2
    dsimp only at e1
    rcases RB_error h with h3 | ⟨x3, t3, h3, h⟩
    · have f := qE (rfl : qInts b (.ok t2) 0 = ([], .ok t2)) h3 2
      try simp only [Nat.reduceAdd] at f
      simp only [qFixture, e0, e1, f, p3, p4]
    rcases RB_error h with h4 | ⟨x4, t4, h4, h⟩
    · have f := qE (qI (rfl : qInts b (.ok t2) 0 = ([], .ok t2)) h3) h4 1
      try simp only [Nat.reduceAdd] at f
      simp only [qFixture, e0, e1, f, p3, p4]
    rcases RB_error h with h5 | ⟨x5, t5, h5, h⟩
    · have f := qE (qI (qI (rfl : qInts b (.ok t2) 0 = ([], .ok t2)) h3) h4) h5 0
      try simp only [Nat.reduceAdd] at f
      simp only [qFixture, e0, e1, f, p3, p4]
    have e2 : qInts b (.ok t2) 3 = ([x3, x4, x5], .ok t5) := (qI (qI (qI (rfl : qInts b (.ok t2) 0 = ([], .ok t2)) h3) h4) h5)
    rcases RB_error h with h6 | ⟨x6, t6, h6, h⟩
    · have f := (agr_bool b).2.2 _ _ h6
      try simp only [Nat.reduceAdd] at f
      simp only [qFixture, e0, e1, e2, f, p4]
    have e3 := (agr_bool b).2.1 _ _ h6
    dsimp only at e3
    rcases RB_error h with h7 | ⟨x7, t7, h7, h⟩
    · have f := qE (rfl : qInts b (.ok t6) 0 = ([], .ok t6)) h7 2
      try simp only [Nat.reduceAdd] at f
      simp only [qFixture, e0, e1, e2, e3, f]
    rcases RB_error h with h8 | ⟨x8, t8, h8, h⟩
    · have f := qE (qI (rfl : qInts b (.ok t6) 0 = ([], .ok t6)) h7) h8 1
      try simp only [Nat.reduceAdd] at f
      simp only [qFixture, e0, e1, e2, e3, f]
    rcases RB_error h with h9 | ⟨x9, t9, h9, h⟩
    · have f := qE (qI (qI (rfl : qInts b (.ok t6) 0 = ([], .ok t6)) h7) h8) h9 0
      try simp only [Nat.reduceAdd] at f
      simp only [qFixture, e0, e1, e2, e3, f]
    have e4 : qInts b (.ok t6) 3 = ([x7, x8, x9], .ok t9) := (qI (qI (qI (rfl : qInts b (.ok t6) 0 = ([], .ok t6)) h7) h8) h9)
    cases h
def qBody (b : List Int) (s : RS) : Body × RS :=
  let y0 := qInts b s 8
  let y1 := qInts b y0.2 6
  let y2 := qBool b y1.2
  let y3 := qBool b y2.2
  let y4 := qBool b y3.2
  let y5 := qBool b y4.2
  let y6 := qInt b y5.2
  let y7 := qSl (qFixture b) b y6.2
  ({ ID := y0.1.getD 0 0, Kind := y0.1.getD 1 0, Transform := { Position := ⟨y0.1.getD 2 0, y0.1.getD 3 0⟩, Angle := y0.1.getD 4 0 }, Velocity := ⟨y0.1.getD 5 0, y0.1.getD 6 0⟩, AngularVelocity := y0.1.getD 7 0, Force := ⟨y1.1.getD 0 0, y1.1.getD 1 0⟩, Torque := y1.1.getD 2 0, LinearDamping := y1.1.getD 3 0, AngularDamping := y1.1.getD 4 0, GravityScale := y1.1.getD 5 0, Bullet := y2.1, FixedRotation := y3.1, NoSleep := y4.1, Asleep := y5.1, IdleSteps := y6.1, Fixtures := y7.1 }, y7.2)
theorem agr_Body (b : List Int) : Agr (qBody b) (rBody b) := by
  have p0 := (agr_ints b 8).1
  have p1 := (agr_ints b 6).1
  have p2 := (agr_bool b).1
  have p3 := (agr_bool b).1
  have p4 := (agr_bool b).1
  have p5 := (agr_bool b).1
  have p6 := (agr_int b).1
  have p7 := (agr_Sl (agr_Fixture b) b).1
  refine ⟨fun e => ?_, fun t x h => ?_, fun t e h => ?_⟩
  · simp only [qBody, p0, p1, p2, p3, p4, p5, p6, p7]
  · obtain ⟨x0, t0, h0, h⟩ := RB_ok h
    obtain ⟨x1, t1, h1, h⟩ := RB_ok h
    obtain ⟨x2, t2, h2, h⟩ := RB_ok h
    obtain ⟨uh2, hah2, hbh2⟩ := rVec_ok h2
    obtain ⟨x3, t3, h3, h⟩ := RB_ok h
    obtain ⟨x4, t4, h4, h⟩ := RB_ok h
    obtain ⟨uh4, hah4, hbh4⟩ := rVec_ok h4
    obtain ⟨x5, t5, h5, h⟩ := RB_ok h
    have e0 : qInts b (.ok t) 8 = ([x0, x1, x2.X, x2.Y, x3, x4.X, x4.Y, x5], .ok t5) := (qI (qI (qI (qI (qI (qI (qI (qI (rfl : qInts b (.ok t) 0 = ([], .ok t)) h0) h1) hah2) hbh2) h3) hah4) hbh4) h5)
    obtain ⟨x6, t6, h6, h⟩ := RB_ok h
    obtain ⟨uh6, hah6, hbh6⟩ := rVec_ok h6
    obtain ⟨x7, t7, h7, h⟩ := RB_ok h
    obtain ⟨x8, t8, h8, h⟩ := RB_ok h
    obtain ⟨x9, t9, h9, h⟩ := RB_ok h
    obtain ⟨x10, t10, h10, h⟩ := RB_ok h
    have e1 : qInts b (.ok t5) 6 = ([x6.X, x6.Y, x7, x8, x9, x10], .ok t10) := (qI (qI (qI (qI (qI (qI (rfl : qInts b (.ok t5) 0 = ([], .ok t5)) hah6) hbh6) h7) h8) h9) h10)
    obtain ⟨x11, t11, h11, h⟩ := RB_ok h
    have e2 := (agr_bool b).2.1 _ _ h11
    dsimp only at e2
    obtain ⟨x12, t12, h12, h⟩ := RB_ok h
    have e3 := (agr_bool b).2.1 _ _ h12
    dsimp only at e3
    obtain ⟨x13, t13, h13, h⟩ := RB_ok h
    have e4 := (agr_bool b).2.1 _ _ h13
    dsimp only at e4
    obtain ⟨x14, t14, h14, h⟩ := RB_ok h
    have e5 := (agr_bool b).2.1 _ _ h14
    dsimp only at e5
    obtain ⟨x15, t15, h15, h⟩ := RB_ok h
    have e6 := (agr_int b).2.1 _ _ h15
    dsimp only at e6
    obtain ⟨x16, t16, h16, h⟩ := RB_ok h
    have e7 := (agr_Sl (agr_Fixture b) b).2.1 _ _ h16
    dsimp only at e7
    cases h
    simp only [qBody, e0, e1, e2, e3, e4, e5, e6, e7]
    first | done | rfl
  · rcases RB_error h with h0 | ⟨x0, t0, h0, h⟩
    · have f := qE (rfl : qInts b (.ok t) 0 = ([], .ok t)) h0 7
      try simp only [Nat.reduceAdd] at f
      simp only [qBody, f, p1, p2, p3, p4, p5, p6, p7]
    rcases RB_error h with h1 | ⟨x1, t1, h1, h⟩
    · have f := qE (qI (rfl : qInts b (.ok t) 0 = ([], .ok t)) h0) h1 6
      try simp only [Nat.reduceAdd] at f
      simp only [qBody, f, p1, p2, p3, p4, p5, p6, p7]
    rcases RB_error h with h2 | ⟨x2, t2, h2, h⟩
    · rcases rVec_error h2 with ha | ⟨w, u, ha, hb⟩
      · have f := qE (qI (qI (rfl : qInts b (.ok t) 0 = ([], .ok t)) h0) h1) ha 5
        try simp only [Nat.reduceAdd] at f
        simp only [qBody, f, p1, p2, p3, p4, p5, p6, p7]
      · have f := qE (qI (qI (qI (rfl : qInts b (.ok t) 0 = ([], .ok t)) h0) h1) ha) hb 4
        try simp only [Nat.reduceAdd] at f
        simp only [qBody, f, p1, p2, p3, p4, p5, p6, p7]
    obtain ⟨uh2, hah2, hbh2⟩ := rVec_ok h2
    rcases RB_error h with h3 | ⟨x3, t3, h3, h⟩
    · have f := qE (qI (qI (qI (qI (rfl : qInts b (.ok t) 0 = ([], .ok t)) h0) h1) hah2) hbh2) h3 3
      try simp only [Nat.reduceAdd] at f
      simp only [qBody, f, p1, p2, p3, p4, p5, p6, p7]
    rcases RB_error h with h4 | ⟨x4, t4, h4, h⟩
    · rcases rVec_error h4 with ha | ⟨w, u, ha, hb⟩
      · have f := qE (qI (qI (qI (qI (qI (rfl : qInts b (.ok t) 0 = ([], .ok t)) h0) h1) hah2) hbh2) h3) ha 2
        try simp only [Nat.reduceAdd] at f
        simp only [qBody, f, p1, p2, p3, p4, p5, p6, p7]
      · have f := qE (qI (qI (qI (qI (qI (qI (rfl : qInts b (.ok t) 0 = ([], .ok t)) h0) h1) hah2) hbh2) h3) ha) hb 1
        try simp only [Nat.reduceAdd] at f
        simp only [qBody, f, p1, p2, p3, p4, p5, p6, p7]
    obtain ⟨uh4, hah4, hbh4⟩ := rVec_ok h4
    rcases RB_error h with h5 | ⟨x5, t5, h5, h⟩
    · have f := qE (qI (qI (qI (qI (qI (qI (qI (rfl : qInts b (.ok t) 0 = ([], .ok t)) h0) h1) hah2) hbh2) h3) hah4) hbh4) h5 0
      try simp only [Nat.reduceAdd] at f
      simp only [qBody, f, p1, p2, p3, p4, p5, p6, p7]
    have e0 : qInts b (.ok t) 8 = ([x0, x1, x2.X, x2.Y, x3, x4.X, x4.Y, x5], .ok t5) := (qI (qI (qI (qI (qI (qI (qI (qI (rfl : qInts b (.ok t) 0 = ([], .ok t)) h0) h1) hah2) hbh2) h3) hah4) hbh4) h5)
    rcases RB_error h with h6 | ⟨x6, t6, h6, h⟩
    · rcases rVec_error h6 with ha | ⟨w, u, ha, hb⟩
      · have f := qE (rfl : qInts b (.ok t5) 0 = ([], .ok t5)) ha 5
        try simp only [Nat.reduceAdd] at f
        simp only [qBody, e0, f, p2, p3, p4, p5, p6, p7]
      · have f := qE (qI (rfl : qInts b (.ok t5) 0 = ([], .ok t5)) ha) hb 4
        try simp only [Nat.reduceAdd] at f
        simp only [qBody, e0, f, p2, p3, p4, p5, p6, p7]
    obtain ⟨uh6, hah6, hbh6⟩ := rVec_ok h6
    rcases RB_error h with h7 | ⟨x7, t7, h7, h⟩
    · have f := qE (qI (qI (rfl : qInts b (.ok t5) 0 = ([], .ok t5)) hah6) hbh6) h7 3
      try simp only [Nat.reduceAdd] at f
      simp only [qBody, e0, f, p2, p3, p4, p5, p6, p7]
    rcases RB_error h with h8 | ⟨x8, t8, h8, h⟩
    · have f := qE (qI (qI (qI (rfl : qInts b (.ok t5) 0 = ([], .ok t5)) hah6) hbh6) h7) h8 2
      try simp only [Nat.reduceAdd] at f
      simp only [qBody, e0, f, p2, p3, p4, p5, p6, p7]
    rcases RB_error h with h9 | ⟨x9, t9, h9, h⟩
    · have f := qE (qI (qI (qI (qI (rfl : qInts b (.ok t5) 0 = ([], .ok t5)) hah6) hbh6) h7) h8) h9 1
      try simp only [Nat.reduceAdd] at f
      simp only [qBody, e0, f, p2, p3, p4, p5, p6, p7]
    rcases RB_error h with h10 | ⟨x10, t10, h10, h⟩
    · have f := qE (qI (qI (qI (qI (qI (rfl : qInts b (.ok t5) 0 = ([], .ok t5)) hah6) hbh6) h7) h8) h9) h10 0
      try simp only [Nat.reduceAdd] at f
      simp only [qBody, e0, f, p2, p3, p4, p5, p6, p7]
    have e1 : qInts b (.ok t5) 6 = ([x6.X, x6.Y, x7, x8, x9, x10], .ok t10) := (qI (qI (qI (qI (qI (qI (rfl : qInts b (.ok t5) 0 = ([], .ok t5)) hah6) hbh6) h7) h8) h9) h10)
    rcases RB_error h with h11 | ⟨x11, t11, h11, h⟩
    · have f := (agr_bool b).2.2 _ _ h11
      try simp only [Nat.reduceAdd] at f
      simp only [qBody, e0, e1, f, p3, p4, p5, p6, p7]
    have e2 := (agr_bool b).2.1 _ _ h11
    dsimp only at e2
    rcases RB_error h with h12 | ⟨x12, t12, h12, h⟩
    · have f := (agr_bool b).2.2 _ _ h12
      try simp only [Nat.reduceAdd] at f
      simp only [qBody, e0, e1, e2, f, p4, p5, p6, p7]
    have e3 := (agr_bool b).2.1 _ _ h12
    dsimp only at e3
    rcases RB_error h with h13 | ⟨x13, t13, h13, h⟩
    · have f := (agr_bool b).2.2 _ _ h13
      try simp only [Nat.reduceAdd] at f
      simp only [qBody, e0, e1, e2, e3, f, p5, p6, p7]
    have e4 := (agr_bool b).2.1 _ _ h13
    dsimp only at e4
    rcases RB_error h with h14 | ⟨x14, t14, h14, h⟩
    · have f := (agr_bool b).2.2 _ _ h14
      try simp only [Nat.reduceAdd] at f
      simp only [qBody, e0, e1, e2, e3, e4, f, p6, p7]
    have e5 := (agr_bool b).2.1 _ _ h14
    dsimp only at e5
    rcases RB_error h with h15 | ⟨x15, t15, h15, h⟩
    · have f := (agr_int b).2.2 _ _ h15
      try simp only [Nat.reduceAdd] at f
      simp only [qBody, e0, e1, e2, e3, e4, e5, f, p7]
    have e6 := (agr_int b).2.1 _ _ h15
    dsimp only at e6
    rcases RB_error h with h16 | ⟨x16, t16, h16, h⟩
    · have f := (agr_Sl (agr_Fixture b) b).2.2 _ _ h16
      try simp only [Nat.reduceAdd] at f
      simp only [qBody, e0, e1, e2, e3, e4, e5, e6, f]
    have e7 := (agr_Sl (agr_Fixture b) b).2.1 _ _ h16
    dsimp only at e7
    cases h
def qJoint (b : List Int) (s : RS) : Joint × RS :=
  let y0 := qInts b s 11
  let y1 := qBool b y0.2
  let y2 := qInts b y1.2 2
  let y3 := qBool b y2.2
  let y4 := qInts b y3.2 4
  let y5 := qBool b y4.2
  let y6 := qInts b y5.2 4
  ({ ID := y0.1.getD 0 0, Kind := y0.1.getD 1 0, BodyA := y0.1.getD 2 0, BodyB := y0.1.getD 3 0, AnchorA := ⟨y0.1.getD 4 0, y0.1.getD 5 0⟩, AnchorB := ⟨y0.1.getD 6 0, y0.1.getD 7 0⟩, Axis := ⟨y0.1.getD 8 0, y0.1.getD 9 0⟩, ReferenceAngle := y0.1.getD 10 0, EnableLimit := y1.1, Lower := y2.1.getD 0 0, Upper := y2.1.getD 1 0, EnableMotor := y3.1, MotorSpeed := y4.1.getD 0 0, MaxForce := y4.1.getD 1 0, Softness := y4.1.getD 2 0, BreakForce := y4.1.getD 3 0, CollideConnected := y5.1, Impulses := ⟨y6.1.getD 0 0, y6.1.getD 1 0, y6.1.getD 2 0, y6.1.getD 3 0⟩ }, y6.2)
theorem agr_Joint (b : List Int) : Agr (qJoint b) (rJoint b) := by
  have p0 := (agr_ints b 11).1
  have p1 := (agr_bool b).1
  have p2 := (agr_ints b 2).1
  have p3 := (agr_bool b).1
  have p4 := (agr_ints b 4).1
  have p5 := (agr_bool b).1
  have p6 := (agr_ints b 4).1
  refine ⟨fun e => ?_, fun t x h => ?_, fun t e h => ?_⟩
  · simp only [qJoint, p0, p1, p2, p3, p4, p5, p6]
  · obtain ⟨x0, t0, h0, h⟩ := RB_ok h
    obtain ⟨x1, t1, h1, h⟩ := RB_ok h
    obtain ⟨x2, t2, h2, h⟩ := RB_ok h
    obtain ⟨x3, t3, h3, h⟩ := RB_ok h
    obtain ⟨x4, t4, h4, h⟩ := RB_ok h
    obtain ⟨uh4, hah4, hbh4⟩ := rVec_ok h4
    obtain ⟨x5, t5, h5, h⟩ := RB_ok h
    obtain ⟨uh5, hah5, hbh5⟩ := rVec_ok h5
    obtain ⟨x6, t6, h6, h⟩ := RB_ok h
    obtain ⟨uh6, hah6, hbh6⟩ := rVec_ok h6
    obtain ⟨x7, t7, h7, h⟩ := RB_ok h
    have e0 : qInts b (.ok t) 11 = ([x0, x1, x2, x3, x4.X, x4.Y, x5.X, x5.Y, x6.X, x6.Y, x7], .ok t7) := (qI (qI (qI (qI (qI (qI (qI (qI (qI (qI (qI (rfl : qInts b (.ok t) 0 = ([], .ok t)) h0) h1) h2) h3) hah4) hbh4) hah5) hbh5) hah6) hbh6) h7)
    obtain ⟨x8, t8, h8, h⟩ := RB_ok h
    have e1 := (agr_bool b).2.1 _ _ h8
    dsimp only at e1
    obtain ⟨x9, t9, h9, h⟩ := RB_ok h
    obtain ⟨x10, t10, h10, h⟩ := RB_ok h
    have e2 : qInts b (.ok t8) 2 = ([x9, x10], .ok t10) := (qI (qI (rfl : qInts b (.ok t8) 0 = ([], .ok t8)) h9) h10)
    obtain ⟨x11, t11, h11, h⟩ := RB_ok h
    have e3 := (agr_bool b).2.1 _ _ h11
    dsimp only at e3
    obtain ⟨x12, t12, h12, h⟩ := RB_ok h
    obtain ⟨x13, t13, h13, h⟩ := RB_ok h
    obtain ⟨x14, t14, h14, h⟩ := RB_ok h
    obtain ⟨x15, t15, h15, h⟩ := RB_ok h
    have e4 : qInts b (.ok t11) 4 = ([x12, x13, x14, x15], .ok t15) := (qI (qI (qI (qI (rfl : qInts b (.ok t11) 0 = ([], .ok t11)) h12) h13) h14) h15)
    obtain ⟨x16, t16, h16, h⟩ := RB_ok h
    have e5 := (agr_bool b).2.1 _ _ h16
    dsimp only at e5
    obtain ⟨x17, t17, h17, h⟩ := RB_ok h
    have e6 := (agr_ints b 4).2.1 _ _ h17
    dsimp only at e6
    cases h
    simp only [qJoint, e0, e1, e2, e3, e4, e5, e6]
    first | done | rfl
  · rcases RB_error h with h0 | ⟨x0, t0, h0, h⟩
    · have f := qE (rfl : qInts b (.ok t) 0 = ([], .ok t)) h0 10
      try simp only [Nat.reduceAdd] at f
      simp only [qJoint, f, p1, p2, p3, p4, p5, p6]
    rcases RB_error h with h1 | ⟨x1, t1, h1, h⟩
    · have f := qE (qI (rfl : qInts b (.ok t) 0 = ([], .ok t)) h0) h1 9
      try simp only [Nat.reduceAdd] at f
      simp only [qJoint, f, p1, p2, p3, p4, p5, p6]
    rcases RB_error h with h2 | ⟨x2, t2, h2, h⟩
    · have f := qE (qI (qI (rfl : qInts b (.ok t) 0 = ([], .ok t)) h0) h1) h2 8
      try simp only [Nat.reduceAdd] at f
      simp only [qJoint, f, p1, p2, p3, p4, p5, p6]
    rcases RB_error h with h3 | ⟨x3, t3, h3, h⟩
    · have f := qE (qI (qI (qI (rfl : qInts b (.ok t) 0 = ([], .ok t)) h0) h1) h2) h3 7
      try simp only [Nat.reduceAdd] at f
      simp only [qJoint, f, p1, p2, p3, p4, p5, p6]
    rcases RB_error h with h4 | ⟨x4, t4, h4, h⟩
    · rcases rVec_error h4 with ha | ⟨w, u, ha, hb⟩
      · have f := qE (qI (qI (qI (qI (rfl : qInts b (.ok t) 0 = ([], .ok t)) h0) h1) h2) h3) ha 6
        try simp only [Nat.reduceAdd] at f
        simp only [qJoint, f, p1, p2, p3, p4, p5, p6]
      · have f := qE (qI (qI (qI (qI (qI (rfl : qInts b (.ok t) 0 = ([], .ok t)) h0) h1) h2) h3) ha) hb 5
        try simp only [Nat.reduceAdd] at f
        simp only [qJoint, f, p1, p2, p3, p4, p5, p6]
    obtain ⟨uh4, hah4, hbh4⟩ := rVec_ok h4
    rcases RB_error h with h5 | ⟨x5, t5, h5, h⟩
    · rcases rVec_error h5 with ha | ⟨w, u, ha, hb⟩
      · have f := qE (qI (qI (qI (qI (qI (qI (rfl : qInts b (.ok t) 0 = ([], .ok t)) h0) h1) h2) h3) hah4) hbh4) ha 4
        try simp only [Nat.reduceAdd] at f
        simp only [qJoint, f, p1, p2, p3, p4, p5, p6]
      · have f := qE (qI (qI (qI (qI (qI (qI (qI (rfl : qInts b (.ok t) 0 = ([], .ok t)) h0) h1) h2) h3) hah4) hbh4) ha) hb 3
        try simp only [Nat.reduceAdd] at f
        simp only [qJoint, f, p1, p2, p3, p4, p5, p6]
    obtain ⟨uh5, hah5, hbh5⟩ := rVec_ok h5
    rcases RB_error h with h6 | ⟨x6, t6, h6, h⟩
    · rcases rVec_error h6 with ha | ⟨w, u, ha, hb⟩
      · have f := qE (qI (qI (qI (qI (qI (qI (qI (qI (rfl : qInts b (.ok t) 0 = ([], .ok t)) h0) h1) h2) h3) hah4) hbh4) hah5) hbh5) ha 2
        try simp only [Nat.reduceAdd] at f
        simp only [qJoint, f, p1, p2, p3, p4, p5, p6]
      · have f := qE (qI (qI (qI (qI (qI (qI (qI (qI (qI (rfl : qInts b (.ok t) 0 = ([], .ok t)) h0) h1) h2) h3) hah4) hbh4) hah5) hbh5) ha) hb 1
        try simp only [Nat.reduceAdd] at f
        simp only [qJoint, f, p1, p2, p3, p4, p5, p6]
    obtain ⟨uh6, hah6, hbh6⟩ := rVec_ok h6
    rcases RB_error h with h7 | ⟨x7, t7, h7, h⟩
    · have f := qE (qI (qI (qI (qI (qI (qI (qI (qI (qI (qI (rfl : qInts b (.ok t) 0 = ([], .ok t)) h0) h1) h2) h3) hah4) hbh4) hah5) hbh5) hah6) hbh6) h7 0
      try simp only [Nat.reduceAdd] at f
      simp only [qJoint, f, p1, p2, p3, p4, p5, p6]
    have e0 : qInts b (.ok t) 11 = ([x0, x1, x2, x3, x4.X, x4.Y, x5.X, x5.Y, x6.X, x6.Y, x7], .ok t7) := (qI (qI (qI (qI (qI (qI (qI (qI (qI (qI (qI (rfl : qInts b (.ok t) 0 = ([], .ok t)) h0) h1) h2) h3) hah4) hbh4) hah5) hbh5) hah6) hbh6) h7)
    rcases RB_error h with h8 | ⟨x8, t8, h8, h⟩
    · have f := (agr_bool b).2.2 _ _ h8
      try simp only [Nat.reduceAdd] at f
      simp only [qJoint, e0, f, p2, p3, p4, p5, p6]
    have e1 := (agr_bool b).2.1 _ _ h8
    dsimp only at e1
    rcases RB_error h with h9 | ⟨x9, t9, h9, h⟩
    · have f := qE (rfl : qInts b (.ok t8) 0 = ([], .ok t8)) h9 1
      try simp only [Nat.reduceAdd] at f
      simp only [qJoint, e0, e1, f, p3, p4, p5, p6]
    rcases RB_error h with h10 | ⟨x10, t10, h10, h⟩
    · have f := qE (qI (rfl : qInts b (.ok t8) 0 = ([], .ok t8)) h9) h10 0
      try simp only [Nat.reduceAdd] at f
      simp only [qJoint, e0, e1, f, p3, p4, p5, p6]
    have e2 : qInts b (.ok t8) 2 = ([x9, x10], .ok t10) := (qI (qI (rfl : qInts b (.ok t8) 0 = ([], .ok t8)) h9) h10)
    rcases RB_error h with h11 | ⟨x11, t11, h11, h⟩
    · have f := (agr_bool b).2.2 _ _ h11
      try simp only [Nat.reduceAdd] at f
      simp only [qJoint, e0, e1, e2, f, p4, p5, p6]
    have e3 := (agr_bool b).2.1 _ _ h11
    dsimp only at e3
    rcases RB_error h with h12 | ⟨x12, t12, h12, h⟩
    · have f := qE (rfl : qInts b (.ok t11) 0 = ([], .ok t11)) h12 3
      try simp only [Nat.reduceAdd] at f
      simp only [qJoint, e0, e1, e2, e3, f, p5, p6]
    rcases RB_error h with h13 | ⟨x13, t13, h13, h⟩
    · have f := qE (qI (rfl : qInts b (.ok t11) 0 = ([], .ok t11)) h12) h13 2
      try simp only [Nat.reduceAdd] at f
      simp only [qJoint, e0, e1, e2, e3, f, p5, p6]
    rcases RB_error h with h14 | ⟨x14, t14, h14, h⟩
    · have f := qE (qI (qI (rfl : qInts b (.ok t11) 0 = ([], .ok t11)) h12) h13) h14 1
      try simp only [Nat.reduceAdd] at f
      simp only [qJoint, e0, e1, e2, e3, f, p5, p6]
    rcases RB_error h with h15 | ⟨x15, t15, h15, h⟩
    · have f := qE (qI (qI (qI (rfl : qInts b (.ok t11) 0 = ([], .ok t11)) h12) h13) h14) h15 0
      try simp only [Nat.reduceAdd] at f
      simp only [qJoint, e0, e1, e2, e3, f, p5, p6]
    have e4 : qInts b (.ok t11) 4 = ([x12, x13, x14, x15], .ok t15) := (qI (qI (qI (qI (rfl : qInts b (.ok t11) 0 = ([], .ok t11)) h12) h13) h14) h15)
    rcases RB_error h with h16 | ⟨x16, t16, h16, h⟩
    · have f := (agr_bool b).2.2 _ _ h16
      try simp only [Nat.reduceAdd] at f
      simp only [qJoint, e0, e1, e2, e3, e4, f, p6]
    have e5 := (agr_bool b).2.1 _ _ h16
    dsimp only at e5
    rcases RB_error h with h17 | ⟨x17, t17, h17, h⟩
    · have f := (agr_ints b 4).2.2 _ _ h17
      try simp only [Nat.reduceAdd] at f
      simp only [qJoint, e0, e1, e2, e3, e4, e5, f]
    have e6 := (agr_ints b 4).2.1 _ _ h17
    dsimp only at e6
    cases h
end Go.Abs
