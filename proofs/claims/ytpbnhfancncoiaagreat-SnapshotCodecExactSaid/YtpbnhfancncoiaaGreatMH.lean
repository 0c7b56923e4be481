/- A part of the proof: contracts of functions that the statement reaches. -/
import Derived.Test.YtpbnhfancncoiaaGreatMG
import Derived.Laws.Strings
set_option linter.unusedSimpArgs false
set_option linter.unusedVariables false
set_option linter.unnecessarySimpa false
set_option maxRecDepth 100000
set_option maxHeartbeats 2000000
section
namespace Go.Abs
open Go.Proofs
open Api
theorem RB_ok {α β : Type} {r : Except Int (α × Int)} {f : α → Int → Except Int β} {y : β} (h : RB r f = .ok y) : ∃ x t, r = .ok (x, t) ∧ f x t = .ok y := by
  cases r with
  | error e => cases h
  | ok x => exact ⟨x.1, x.2, rfl, h⟩
theorem RB_error {α β : Type} {r : Except Int (α × Int)} {f : α → Int → Except Int β} {e : Int} (h : RB r f = .error e) : r = .error e ∨ ∃ x t, r = .ok (x, t) ∧ f x t = .error e := by
  cases r with
  | error e' => cases h; exact .inl rfl
  | ok x => exact .inr ⟨x.1, x.2, rfl, h⟩
theorem rVec_ok {b : List Int} {t t' : Int} {v : Vec} (h : rVec b t = .ok (v, t')) : ∃ t1, rInt b t = .ok (v.X, t1) ∧ rInt b t1 = .ok (v.Y, t') := by
  unfold rVec at h
  split at h
  · cases h
  · rename_i x t1 h1
    split at h
    · cases h
    · rename_i y t2 h2
      cases h
      exact ⟨t1, h1, h2⟩
theorem rVec_error {b : List Int} {t : Int} {e : Int} (h : rVec b t = .error e) : rInt b t = .error e ∨ ∃ x t1, rInt b t = .ok (x, t1) ∧ rInt b t1 = .error e := by
  unfold rVec at h
  split at h
  · rename_i h1; cases h; exact .inl h1
  · rename_i x t1 h1
    split at h
    · rename_i h2; cases h; exact .inr ⟨x, t1, h1, h2⟩
    · cases h
theorem qI {b : List Int} {s : RS} {n : Nat} {l : List Int} {t : Int} {x : Int × Int} (h : qInts b s n = (l, .ok t)) (hx : rInt b t = .ok x) : qInts b s (n + 1) = (l ++ [x.1], .ok x.2) := by
  simp only [qInts, h, (agr_int b).2.1 _ _ hx]
theorem qE {b : List Int} {s : RS} {n : Nat} {l : List Int} {t e : Int} (h : qInts b s n = (l, .ok t)) (hx : rInt b t = .error e) (k : Nat) : (qInts b s (n + 1 + k)).2 = .error e := by
  induction k with
  | zero => simp only [Nat.add_zero, qInts, h, (agr_int b).2.2 _ _ hx]
  | succ k ih => 
    rw [← Nat.add_assoc]
    simp only [qInts, ih]; rfl
def qKey (b : List Int) (s : RS) : PairKey × RS :=
  let y0 := qInts b s 4
  (⟨y0.1.getD 0 0, y0.1.getD 1 0, y0.1.getD 2 0, y0.1.getD 3 0⟩, y0.2)
theorem agr_Key (b : List Int) : Agr (qKey b) (rKey b) := by
  have p0 := (agr_ints b 4).1
  refine ⟨fun e => ?_, fun t x h => ?_, fun t e h => ?_⟩
  · simp only [qKey, p0]
  · obtain ⟨x0, t0, h0, h⟩ := RB_ok h
    obtain ⟨x1, t1, h1, h⟩ := RB_ok h
    obtain ⟨x2, t2, h2, h⟩ := RB_ok h
    obtain ⟨x3, t3, h3, h⟩ := RB_ok h
    have e0 : qInts b (.ok t) 4 = ([x0, x1, x2, x3], .ok t3) := (qI (qI (qI (qI (rfl : qInts b (.ok t) 0 = ([], .ok t)) h0) h1) h2) h3)
    cases h
    simp only [qKey, e0]
    first | done | rfl
  · rcases RB_error h with h0 | ⟨x0, t0, h0, h⟩
    · have f := qE (rfl : qInts b (.ok t) 0 = ([], .ok t)) h0 3
      try simp only [Nat.reduceAdd] at f
      simp only [qKey, f]
    rcases RB_error h with h1 | ⟨x1, t1, h1, h⟩
    · have f := qE (qI (rfl : qInts b (.ok t) 0 = ([], .ok t)) h0) h1 2
      try simp only [Nat.reduceAdd] at f
      simp only [qKey, f]
    rcases RB_error h with h2 | ⟨x2, t2, h2, h⟩
    · have f := qE (qI (qI (rfl : qInts b (.ok t) 0 = ([], .ok t)) h0) h1) h2 1
      try simp only [Nat.reduceAdd] at f
      simp only [qKey, f]
    rcases RB_error h with h3 | ⟨x3, t3, h3, h⟩
    · have f := qE (qI (qI (qI (rfl : qInts b (.ok t) 0 = ([], .ok t)) h0) h1) h2) h3 0
      try simp only [Nat.reduceAdd] at f
      simp only [qKey, f]
    have e0 : qInts b (.ok t) 4 = ([x0, x1, x2, x3], .ok t3) := (qI (qI (qI (qI (rfl : qInts b (.ok t) 0 = ([], .ok t)) h0) h1) h2) h3)
    cases h
def qContactPoint (b : List Int) (s : RS) : ContactPoint × RS :=
  let y0 := qInts b s 6
  (⟨⟨y0.1.getD 0 0, y0.1.getD 1 0⟩, y0.1.getD 2 0, y0.1.getD 3 0, y0.1.getD 4 0, y0.1.getD 5 0⟩, y0.2)
theorem agr_ContactPoint (b : List Int) : Agr (qContactPoint b) (rContactPoint b) := by
  have p0 := (agr_ints b 6).1
  refine ⟨fun e => ?_, fun t x h => ?_, fun t e h => ?_⟩
  · simp only [qContactPoint, p0]
  · obtain ⟨x0, t0, h0, h⟩ := RB_ok h
    obtain ⟨uh0, hah0, hbh0⟩ := rVec_ok h0
    obtain ⟨x1, t1, h1, h⟩ := RB_ok h
    obtain ⟨x2, t2, h2, h⟩ := RB_ok h
    obtain ⟨x3, t3, h3, h⟩ := RB_ok h
    obtain ⟨x4, t4, h4, h⟩ := RB_ok h
    have e0 : qInts b (.ok t) 6 = ([x0.X, x0.Y, x1, x2, x3, x4], .ok t4) := (qI (qI (qI (qI (qI (qI (rfl : qInts b (.ok t) 0 = ([], .ok t)) hah0) hbh0) h1) h2) h3) h4)
    cases h
    simp only [qContactPoint, e0]
    first | done | rfl
  · rcases RB_error h with h0 | ⟨x0, t0, h0, h⟩
    · rcases rVec_error h0 with ha | ⟨w, u, ha, hb⟩
      · have f := qE (rfl : qInts b (.ok t) 0 = ([], .ok t)) ha 5
        try simp only [Nat.reduceAdd] at f
        simp only [qContactPoint, f]
      · have f := qE (qI (rfl : qInts b (.ok t) 0 = ([], .ok t)) ha) hb 4
        try simp only [Nat.reduceAdd] at f
        simp only [qContactPoint, f]
    obtain ⟨uh0, hah0, hbh0⟩ := rVec_ok h0
    rcases RB_error h with h1 | ⟨x1, t1, h1, h⟩
    · have f := qE (qI (qI (rfl : qInts b (.ok t) 0 = ([], .ok t)) hah0) hbh0) h1 3
      try simp only [Nat.reduceAdd] at f
      simp only [qContactPoint, f]
    rcases RB_error h with h2 | ⟨x2, t2, h2, h⟩
    · have f := qE (qI (qI (qI (rfl : qInts b (.ok t) 0 = ([], .ok t)) hah0) hbh0) h1) h2 2
      try simp only [Nat.reduceAdd] at f
      simp only [qContactPoint, f]
    rcases RB_error h with h3 | ⟨x3, t3, h3, h⟩
    · have f := qE (qI (qI (qI (qI (rfl : qInts b (.ok t) 0 = ([], .ok t)) hah0) hbh0) h1) h2) h3 1
      try simp only [Nat.reduceAdd] at f
      simp only [qContactPoint, f]
    rcases RB_error h with h4 | ⟨x4, t4, h4, h⟩
    · have f := qE (qI (qI (qI (qI (qI (rfl : qInts b (.ok t) 0 = ([], .ok t)) hah0) hbh0) h1) h2) h3) h4 0
      try simp only [Nat.reduceAdd] at f
      simp only [qContactPoint, f]
    have e0 : qInts b (.ok t) 6 = ([x0.X, x0.Y, x1, x2, x3, x4], .ok t4) := (qI (qI (qI (qI (qI (qI (rfl : qInts b (.ok t) 0 = ([], .ok t)) hah0) hbh0) h1) h2) h3) h4)
    cases h
def qContact (b : List Int) (s : RS) : Contact × RS :=
  let y0 := qKey b s
  let y1 := qVec b y0.2
  let y2 := qSl (qContactPoint b) b y1.2
  ({ Key := y0.1, Manifold := { Normal := y1.1, Points := y2.1 } }, y2.2)
theorem agr_Contact (b : List Int) : Agr (qContact b) (rContact b) := by
  have p0 := (agr_Key b).1
  have p1 := (agr_vec b).1
  have p2 := (agr_Sl (agr_ContactPoint b) b).1
  refine ⟨fun e => ?_, fun t x h => ?_, fun t e h => ?_⟩
  · simp only [qContact, p0, p1, p2]
  · obtain ⟨x0, t0, h0, h⟩ := RB_ok h
    have e0 := (agr_Key b).2.1 _ _ h0
    dsimp only at e0
    obtain ⟨x1, t1, h1, h⟩ := RB_ok h
    have e1 := (agr_vec b).2.1 _ _ h1
    dsimp only at e1
    obtain ⟨x2, t2, h2, h⟩ := RB_ok h
    have e2 := (agr_Sl (agr_ContactPoint b) b).2.1 _ _ h2
    dsimp only at e2
    cases h
    simp only [qContact, e0, e1, e2]
    first | done | rfl
  · rcases RB_error h with h0 | ⟨x0, t0, h0, h⟩
    · have f := (agr_Key b).2.2 _ _ h0
      try simp only [Nat.reduceAdd] at f
      simp only [qContact, f, p1, p2]
    have e0 := (agr_Key b).2.1 _ _ h0
    dsimp only at e0
    rcases RB_error h with h1 | ⟨x1, t1, h1, h⟩
    · have f := (agr_vec b).2.2 _ _ h1
      try simp only [Nat.reduceAdd] at f
      simp only [qContact, e0, f, p2]
    have e1 := (agr_vec b).2.1 _ _ h1
    dsimp only at e1
    rcases RB_error h with h2 | ⟨x2, t2, h2, h⟩
    · have f := (agr_Sl (agr_ContactPoint b) b).2.2 _ _ h2
      try simp only [Nat.reduceAdd] at f
      simp only [qContact, e0, e1, f]
    have e2 := (agr_Sl (agr_ContactPoint b) b).2.1 _ _ h2
    dsimp only at e2
    cases h
def qFixture (b : List Int) (s : RS) : Fixture × RS :=
  let y0 := qInts b s 2
  let y1 := qSl (qVec b) b y0.2
  let y2 := qInts b y1.2 3
  let y3 := qBool b y2.2
  let y4 := qInts b y3.2 3
  ({ Shape := { Kind := y0.1.getD 0 0, Radius := y0.1.getD 1 0, Vertices := y1.1 }, Density := y2.1.getD 0 0, Friction := y2.1.getD 1 0, Restitution := y2.1.getD 2 0, Sensor := y3.1, Category := y4.1.getD 0 0, Mask := y4.1.getD 1 0, Group := y4.1.getD 2 0 }, y4.2)
theorem agr_Fixture (b : List Int) : Agr (qFixture b) (rFixture b) := by
  have p0 := (agr_ints b 2).1
  have p1 := (agr_Sl (agr_vec b) b).1
  have p2 := (agr_ints b 3).1
  have p3 := (agr_bool b).1
  have p4 := (agr_ints b 3).1
  refine ⟨fun e => ?_, fun t x h => ?_, fun t e h => ?_⟩
  · simp only [qFixture, p0, p1, p2, p3, p4]
  · obtain ⟨x0, t0, h0, h⟩ := RB_ok h
    obtain ⟨x1, t1, h1, h⟩ := RB_ok h
    have e0 : qInts b (.ok t) 2 = ([x0, x1], .ok t1) := (qI (qI (rfl : qInts b (.ok t) 0 = ([], .ok t)) h0) h1)
    obtain ⟨x2, t2, h2, h⟩ := RB_ok h
    have e1 := (agr_Sl (agr_vec b) b).2.1 _ _ h2
    dsimp only at e1
    obtain ⟨x3, t3, h3, h⟩ := RB_ok h
    obtain ⟨x4, t4, h4, h⟩ := RB_ok h
    obtain ⟨x5, t5, h5, h⟩ := RB_ok h
    have e2 : qInts b (.ok t2) 3 = ([x3, x4, x5], .ok t5) := (qI (qI (qI (rfl : qInts b (.ok t2) 0 = ([], .ok t2)) h3) h4) h5)
    obtain ⟨x6, t6, h6, h⟩ := RB_ok h
    have e3 := (agr_bool b).2.1 _ _ h6
    dsimp only at e3
    obtain ⟨x7, t7, h7, h⟩ := RB_ok h
    obtain ⟨x8, t8, h8, h⟩ := RB_ok h
    obtain ⟨x9, t9, h9, h⟩ := RB_ok h
    have e4 : qInts b (.ok t6) 3 = ([x7, x8, x9], .ok t9) := (qI (qI (qI (rfl : qInts b (.ok t6) 0 = ([], .ok t6)) h7) h8) h9)
    cases h
    simp only [qFixture, e0, e1, e2, e3, e4]
    first | done | rfl
  · rcases RB_error h with h0 | ⟨x0, t0, h0, h⟩
    · have f := qE (rfl : qInts b (.ok t) 0 = ([], .ok t)) h0 1
      try simp only [Nat.reduceAdd] at f
      simp only [qFixture, f, p1, p2, p3, p4]
    rcases RB_error h with h1 | ⟨x1, t1, h1, h⟩
    · have f := qE (qI (rfl : qInts b (.ok t) 0 = ([], .ok t)) h0) h1 0
      try simp only [Nat.reduceAdd] at f
      simp only [qFixture, f, p1, p2, p3, p4]
    have e0 : qInts b (.ok t) 2 = ([x0, x1], .ok t1) := (qI (qI (rfl : qInts b (.ok t) 0 = ([], .ok t)) h0) h1)
    rcases RB_error h with h2 | ⟨x2, t2, h2, h⟩
    · have f := (agr_Sl (agr_vec b) b).2.2 _ _ h2
      try simp only [Nat.reduceAdd] at f
      simp only [qFixture, e0, f, p2, p3, p4]
    have e1 := (agr_Sl (agr_vec b) b).2.1 _ _ h2
    dsimp only at e1
    rcases RB_error h with h3 | ⟨x3, t3, h3, h⟩
    · have f := qE (rfl : qInts b (.ok t2) 0 = ([], .ok t2)) h3 2
      try simp only [Nat.reduceAdd] at f
      simp only [qFixture, e0, e1, f, p3, p4]
    rcases RB_error h with h4 | ⟨x4, t4, h4, h⟩
    · have f := qE (qI (rfl : qInts b (.ok t2) 0 = ([], .ok t2)) h3) h4 1
      try simp only [Nat.reduceAdd] at f
      simp only [qFixture, e0, e1, f, p3, p4]
    rcases RB_error h with h5 | ⟨x5, t5, h5, h⟩
    · have f := qE (qI (qI (rfl : qInts b (.ok t2) 0 = ([], .ok t2)) h3) h4) h5 0
      try simp only [Nat.reduceAdd] at f
      simp only [qFixture, e0, e1, f, p3, p4]
    have e2 : qInts b (.ok t2) 3 = ([x3, x4, x5], .ok t5) := (qI (qI (qI (rfl : qInts b (.ok t2) 0 = ([], .ok t2)) h3) h4) h5)
    rcases RB_error h with h6 | ⟨x6, t6, h6, h⟩
    · have f := (agr_bool b).2.2 _ _ h6
      try simp only [Nat.reduceAdd] at f
      simp only [qFixture, e0, e1, e2, f, p4]
    have e3 := (agr_bool b).2.1 _ _ h6
    dsimp only at e3
    rcases RB_error h with h7 | ⟨x7, t7, h7, h⟩
    · have f := qE (rfl : qInts b (.ok t6) 0 = ([], .ok t6)) h7 2
      try simp only [Nat.reduceAdd] at f
      simp only [qFixture, e0, e1, e2, e3, f]
    rcases RB_error h with h8 | ⟨x8, t8, h8, h⟩
    · have f := qE (qI (rfl : qInts b (.ok t6) 0 = ([], .ok t6)) h7) h8 1
      try simp only [Nat.reduceAdd] at f
      simp only [qFixture, e0, e1, e2, e3, f]
    rcases RB_error h with h9 | ⟨x9, t9, h9, h⟩
    · have f := qE (qI (qI (rfl : qInts b (.ok t6) 0 = ([], .ok t6)) h7) h8) h9 0
      try simp only [Nat.reduceAdd] at f
      simp only [qFixture, e0, e1, e2, e3, f]
    have e4 : qInts b (.ok t6) 3 = ([x7, x8, x9], .ok t9) := (qI (qI (qI (rfl : qInts b (.ok t6) 0 = ([], .ok t6)) h7) h8) h9)
    cases h
def qBody (b : List Int) (s : RS) : Body × RS :=
  let y0 := qInts b s 8
  let y1 := qInts b y0.2 6
  let y2 := qBool b y1.2
  let y3 := qBool b y2.2
  let y4 := qBool b y3.2
  let y5 := qBool b y4.2
  let y6 := qInt b y5.2
  let y7 := qSl (qFixture b) b y6.2
  ({ ID := y0.1.getD 0 0, Kind := y0.1.getD 1 0, Transform := { Position := ⟨y0.1.getD 2 0, y0.1.getD 3 0⟩, Angle := y0.1.getD 4 0 }, Velocity := ⟨y0.1.getD 5 0, y0.1.getD 6 0⟩, AngularVelocity := y0.1.getD 7 0, Force := ⟨y1.1.getD 0 0, y1.1.getD 1 0⟩, Torque := y1.1.getD 2 0, LinearDamping := y1.1.getD 3 0, AngularDamping := y1.1.getD 4 0, GravityScale := y1.1.getD 5 0, Bullet := y2.1, FixedRotation := y3.1, NoSleep := y4.1, Asleep := y5.1, IdleSteps := y6.1, Fixtures := y7.1 }, y7.2)
theorem agr_Body (b : List Int) : Agr (qBody b) (rBody b) := by
  have p0 := (agr_ints b 8).1
  have p1 := (agr_ints b 6).1
  have p2 := (agr_bool b).1
  have p3 := (agr_bool b).1
  have p4 := (agr_bool b).1
  have p5 := (agr_bool b).1
  have p6 := (agr_int b).1
  have p7 := (agr_Sl (agr_Fixture b) b).1
  refine ⟨fun e => ?_, fun t x h => ?_, fun t e h => ?_⟩
  · simp only [qBody, p0, p1, p2, p3, p4, p5, p6, p7]
  · obtain ⟨x0, t0, h0, h⟩ := RB_ok h
    obtain ⟨x1, t1, h1, h⟩ := RB_ok h
    obtain ⟨x2, t2, h2, h⟩ := RB_ok h
    obtain ⟨uh2, hah2, hbh2⟩ := rVec_ok h2
    obtain ⟨x3, t3, h3, h⟩ := RB_ok h
    obtain ⟨x4, t4, h4, h⟩ := RB_ok h
    obtain ⟨uh4, hah4, hbh4⟩ := rVec_ok h4
    obtain ⟨x5, t5, h5, h⟩ := RB_ok h
    have e0 : qInts b (.ok t) 8 = ([x0, x1, x2.X, x2.Y, x3, x4.X, x4.Y, x5], .ok t5) := (qI (qI (qI (qI (qI (qI (qI (qI (rfl : qInts b (.ok t) 0 = ([], .ok t)) h0) h1) hah2) hbh2) h3) hah4) hbh4) h5)
    obtain ⟨x6, t6, h6, h⟩ := RB_ok h
    obtain ⟨uh6, hah6, hbh6⟩ := rVec_ok h6
    obtain ⟨x7, t7, h7, h⟩ := RB_ok h
    obtain ⟨x8, t8, h8, h⟩ := RB_ok h
    obtain ⟨x9, t9, h9, h⟩ := RB_ok h
    obtain ⟨x10, t10, h10, h⟩ := RB_ok h
    have e1 : qInts b (.ok t5) 6 = ([x6.X, x6.Y, x7, x8, x9, x10], .ok t10) := (qI (qI (qI (qI (qI (qI (rfl : qInts b (.ok t5) 0 = ([], .ok t5)) hah6) hbh6) h7) h8) h9) h10)
    obtain ⟨x11, t11, h11, h⟩ := RB_ok h
    have e2 := (agr_bool b).2.1 _ _ h11
    dsimp only at e2
    obtain ⟨x12, t12, h12, h⟩ := RB_ok h
    have e3 := (agr_bool b).2.1 _ _ h12
    dsimp only at e3
    obtain ⟨x13, t13, h13, h⟩ := RB_ok h
    have e4 := (agr_bool b).2.1 _ _ h13
    dsimp only at e4
    obtain ⟨x14, t14, h14, h⟩ := RB_ok h
    have e5 := (agr_bool b).2.1 _ _ h14
    dsimp only at e5
    obtain ⟨x15, t15, h15, h⟩ := RB_ok h
    have e6 := (agr_int b).2.1 _ _ h15
    dsimp only at e6
    obtain ⟨x16, t16, h16, h⟩ := RB_ok h
    have e7 := (agr_Sl (agr_Fixture b) b).2.1 _ _ h16
    dsimp only at e7
    cases h
    simp only [qBody, e0, e1, e2, e3, e4, e5, e6, e7]
    first | done | rfl
  · rcases RB_error h with h0 | ⟨x0, t0, h0, h⟩
    · have f := qE (rfl : qInts b (.ok t) 0 = ([], .ok t)) h0 7
      try simp only [Nat.reduceAdd] at f
      simp only [qBody, f, p1, p2, p3, p4, p5, p6, p7]
    rcases RB_error h with h1 | ⟨x1, t1, h1, h⟩
    · have f := qE (qI (rfl : qInts b (.ok t) 0 = ([], .ok t)) h0) h1 6
      try simp only [Nat.reduceAdd] at f
      simp only [qBody, f, p1, p2, p3, p4, p5, p6, p7]
    rcases RB_error h with h2 | ⟨x2, t2, h2, h⟩
    · rcases rVec_error h2 with ha | ⟨w, u, ha, hb⟩
      · have f := qE (qI (qI (rfl : qInts b (.ok t) 0 = ([], .ok t)) h0) h1) ha 5
        try simp only [Nat.reduceAdd] at f
        simp only [qBody, f, p1, p2, p3, p4, p5, p6, p7]
      · have f := qE (qI (qI (qI (rfl : qInts b (.ok t) 0 = ([], .ok t)) h0) h1) ha) hb 4
        try simp only [Nat.reduceAdd] at f
        simp only [qBody, f, p1, p2, p3, p4, p5, p6, p7]
    obtain ⟨uh2, hah2, hbh2⟩ := rVec_ok h2
    rcases RB_error h with h3 | ⟨x3, t3, h3, h⟩
    · have f := qE (qI (qI (qI (qI (rfl : qInts b (.ok t) 0 = ([], .ok t)) h0) h1) hah2) hbh2) h3 3
      try simp only [Nat.reduceAdd] at f
      simp only [qBody, f, p1, p2, p3, p4, p5, p6, p7]
    rcases RB_error h with h4 | ⟨x4, t4, h4, h⟩
    · rcases rVec_error h4 with ha | ⟨w, u, ha, hb⟩
      · have f := qE (qI (qI (qI (qI (qI (rfl : qInts b (.ok t) 0 = ([], .ok t)) h0) h1) hah2) hbh2) h3) ha 2
        try simp only [Nat.reduceAdd] at f
        simp only [qBody, f, p1, p2, p3, p4, p5, p6, p7]
      · have f := qE (qI (qI (qI (qI (qI (qI (rfl : qInts b (.ok t) 0 = ([], .ok t)) h0) h1) hah2) hbh2) h3) ha) hb 1
        try simp only [Nat.reduceAdd] at f
        simp only [qBody, f, p1, p2, p3, p4, p5, p6, p7]
    obtain ⟨uh4, hah4, hbh4⟩ := rVec_ok h4
    rcases RB_error h with h5 | ⟨x5, t5, h5, h⟩
    · have f := qE (qI (qI (qI (qI (qI (qI (qI (rfl : qInts b (.ok t) 0 = ([], .ok t)) h0) h1) hah2) hbh2) h3) hah4) hbh4) h5 0
      try simp only [Nat.reduceAdd] at f
      simp only [qBody, f, p1, p2, p3, p4, p5, p6, p7]
    have e0 : qInts b (.ok t) 8 = ([x0, x1, x2.X, x2.Y, x3, x4.X, x4.Y, x5], .ok t5) := (qI (qI (qI (qI (qI (qI (qI (qI (rfl : qInts b (.ok t) 0 = ([], .ok t)) h0) h1) hah2) hbh2) h3) hah4) hbh4) h5)
    rcases RB_error h with h6 | ⟨x6, t6, h6, h⟩
    · rcases rVec_error h6 with ha | ⟨w, u, ha, hb⟩
      · have f := qE (rfl : qInts b (.ok t5) 0 = ([], .ok t5)) ha 5
        try simp only [Nat.reduceAdd] at f
        simp only [qBody, e0, f, p2, p3, p4, p5, p6, p7]
      · have f := qE (qI (rfl : qInts b (.ok t5) 0 = ([], .ok t5)) ha) hb 4
        try simp only [Nat.reduceAdd] at f
        simp only [qBody, e0, f, p2, p3, p4, p5, p6, p7]
    obtain ⟨uh6, hah6, hbh6⟩ := rVec_ok h6
    rcases RB_error h with h7 | ⟨x7, t7, h7, h⟩
    · have f := qE (qI (qI (rfl : qInts b (.ok t5) 0 = ([], .ok t5)) hah6) hbh6) h7 3
      try simp only [Nat.reduceAdd] at f
      simp only [qBody, e0, f, p2, p3, p4, p5, p6, p7]
    rcases RB_error h with h8 | ⟨x8, t8, h8, h⟩
    · have f := qE (qI (qI (qI (rfl : qInts b (.ok t5) 0 = ([], .ok t5)) hah6) hbh6) h7) h8 2
      try simp only [Nat.reduceAdd] at f
      simp only [qBody, e0, f, p2, p3, p4, p5, p6, p7]
    rcases RB_error h with h9 | ⟨x9, t9, h9, h⟩
    · have f := qE (qI (qI (qI (qI (rfl : qInts b (.ok t5) 0 = ([], .ok t5)) hah6) hbh6) h7) h8) h9 1
      try simp only [Nat.reduceAdd] at f
      simp only [qBody, e0, f, p2, p3, p4, p5, p6, p7]
    rcases RB_error h with h10 | ⟨x10, t10, h10, h⟩
    · have f := qE (qI (qI (qI (qI (qI (rfl : qInts b (.ok t5) 0 = ([], .ok t5)) hah6) hbh6) h7) h8) h9) h10 0
      try simp only [Nat.reduceAdd] at f
      simp only [qBody, e0, f, p2, p3, p4, p5, p6, p7]
    have e1 : qInts b (.ok t5) 6 = ([x6.X, x6.Y, x7, x8, x9, x10], .ok t10) := (qI (qI (qI (qI (qI (qI (rfl : qInts b (.ok t5) 0 = ([], .ok t5)) hah6) hbh6) h7) h8) h9) h10)
    rcases RB_error h with h11 | ⟨x11, t11, h11, h⟩
    · have f := (agr_bool b).2.2 _ _ h11
      try simp only [Nat.reduceAdd] at f
      simp only [qBody, e0, e1, f, p3, p4, p5, p6, p7]
    have e2 := (agr_bool b).2.1 _ _ h11
    dsimp only at e2
    rcases RB_error h with h12 | ⟨x12, t12, h12, h⟩
    · have f := (agr_bool b).2.2 _ _ h12
      try simp only [Nat.reduceAdd] at f
      simp only [qBody, e0, e1, e2, f, p4, p5, p6, p7]
    have e3 := (agr_bool b).2.1 _ _ h12
    dsimp only at e3
    rcases RB_error h with h13 | ⟨x13, t13, h13, h⟩
    · have f := (agr_bool b).2.2 _ _ h13
      try simp only [Nat.reduceAdd] at f
      simp only [qBody, e0, e1, e2, e3, f, p5, p6, p7]
    have e4 := (agr_bool b).2.1 _ _ h13
    dsimp only at e4
    rcases RB_error h with h14 | ⟨x14, t14, h14, h⟩
    · have f := (agr_bool b).2.2 _ _ h14
      try simp only [Nat.reduceAdd] at f
      simp only [qBody, e0, e1, e2, e3, e4, f, p6, p7]
    have e5 := (agr_bool b).2.1 _ _ h14
    dsimp only at e5
    rcases RB_error h with h15 | ⟨x15, t15, h15, h⟩
    · have f := (agr_int b).2.2 _ _ h15
      try simp only [Nat.reduceAdd] at f
      simp only [qBody, e0, e1, e2, e3, e4, e5, f, p7]
    have e6 := (agr_int b).2.1 _ _ h15
    dsimp only at e6
    rcases RB_error h with h16 | ⟨x16, t16, h16, h⟩
    · have f := (agr_Sl (agr_Fixture b) b).2.2 _ _ h16
      try simp only [Nat.reduceAdd] at f
      simp only [qBody, e0, e1, e2, e3, e4, e5, e6, f]
    have e7 := (agr_Sl (agr_Fixture b) b).2.1 _ _ h16
    dsimp only at e7
    cases h
def qJoint (b : List Int) (s : RS) : Joint × RS :=
  let y0 := qInts b s 11
  let y1 := qBool b y0.2
  let y2 := qInts b y1.2 2
  let y3 := qBool b y2.2
  let y4 := qInts b y3.2 4
  let y5 := qBool b y4.2
  let y6 := qInts b y5.2 4
  ({ ID := y0.1.getD 0 0, Kind := y0.1.getD 1 0, BodyA := y0.1.getD 2 0, BodyB := y0.1.getD 3 0, AnchorA := ⟨y0.1.getD 4 0, y0.1.getD 5 0⟩, AnchorB := ⟨y0.1.getD 6 0, y0.1.getD 7 0⟩, Axis := ⟨y0.1.getD 8 0, y0.1.getD 9 0⟩, ReferenceAngle := y0.1.getD 10 0, EnableLimit := y1.1, Lower := y2.1.getD 0 0, Upper := y2.1.getD 1 0, EnableMotor := y3.1, MotorSpeed := y4.1.getD 0 0, MaxForce := y4.1.getD 1 0, Softness := y4.1.getD 2 0, BreakForce := y4.1.getD 3 0, CollideConnected := y5.1, Impulses := ⟨y6.1.getD 0 0, y6.1.getD 1 0, y6.1.getD 2 0, y6.1.getD 3 0⟩ }, y6.2)
theorem agr_Joint (b : List Int) : Agr (qJoint b) (rJoint b) := by
  have p0 := (agr_ints b 11).1
  have p1 := (agr_bool b).1
  have p2 := (agr_ints b 2).1
  have p3 := (agr_bool b).1
  have p4 := (agr_ints b 4).1
  have p5 := (agr_bool b).1
  have p6 := (agr_ints b 4).1
  refine ⟨fun e => ?_, fun t x h => ?_, fun t e h => ?_⟩
  · simp only [qJoint, p0, p1, p2, p3, p4, p5, p6]
  · obtain ⟨x0, t0, h0, h⟩ := RB_ok h
    obtain ⟨x1, t1, h1, h⟩ := RB_ok h
    obtain ⟨x2, t2, h2, h⟩ := RB_ok h
    obtain ⟨x3, t3, h3, h⟩ := RB_ok h
    obtain ⟨x4, t4, h4, h⟩ := RB_ok h
    obtain ⟨uh4, hah4, hbh4⟩ := rVec_ok h4
    obtain ⟨x5, t5, h5, h⟩ := RB_ok h
    obtain ⟨uh5, hah5, hbh5⟩ := rVec_ok h5
    obtain ⟨x6, t6, h6, h⟩ := RB_ok h
    obtain ⟨uh6, hah6, hbh6⟩ := rVec_ok h6
    obtain ⟨x7, t7, h7, h⟩ := RB_ok h
    have e0 : qInts b (.ok t) 11 = ([x0, x1, x2, x3, x4.X, x4.Y, x5.X, x5.Y, x6.X, x6.Y, x7], .ok t7) := (qI (qI (qI (qI (qI (qI (qI (qI (qI (qI (qI (rfl : qInts b (.ok t) 0 = ([], .ok t)) h0) h1) h2) h3) hah4) hbh4) hah5) hbh5) hah6) hbh6) h7)
    obtain ⟨x8, t8, h8, h⟩ := RB_ok h
    have e1 := (agr_bool b).2.1 _ _ h8
    dsimp only at e1
    obtain ⟨x9, t9, h9, h⟩ := RB_ok h
    obtain ⟨x10, t10, h10, h⟩ := RB_ok h
    have e2 : qInts b (.ok t8) 2 = ([x9, x10], .ok t10) := (qI (qI (rfl : qInts b (.ok t8) 0 = ([], .ok t8)) h9) h10)
    obtain ⟨x11, t11, h11, h⟩ := RB_ok h
    have e3 := (agr_bool b).2.1 _ _ h11
    dsimp only at e3
    obtain ⟨x12, t12, h12, h⟩ := RB_ok h
    obtain ⟨x13, t13, h13, h⟩ := RB_ok h
    obtain ⟨x14, t14, h14, h⟩ := RB_ok h
    obtain ⟨x15, t15, h15, h⟩ := RB_ok h
    have e4 : qInts b (.ok t11) 4 = ([x12, x13, x14, x15], .ok t15) := (qI (qI (qI (qI (rfl : qInts b (.ok t11) 0 = ([], .ok t11)) h12) h13) h14) h15)
    obtain ⟨x16, t16, h16, h⟩ := RB_ok h
    have e5 := (agr_bool b).2.1 _ _ h16
    dsimp only at e5
    obtain ⟨x17, t17, h17, h⟩ := RB_ok h
    have e6 := (agr_ints b 4).2.1 _ _ h17
    dsimp only at e6
    cases h
    simp only [qJoint, e0, e1, e2, e3, e4, e5, e6]
    first | done | rfl
  · rcases RB_error h with h0 | ⟨x0, t0, h0, h⟩
    · have f := qE (rfl : qInts b (.ok t) 0 = ([], .ok t)) h0 10
      try simp only [Nat.reduceAdd] at f
      simp only [qJoint, f, p1, p2, p3, p4, p5, p6]
    rcases RB_error h with h1 | ⟨x1, t1, h1, h⟩
    · have f := qE (qI (rfl : qInts b (.ok t) 0 = ([], .ok t)) h0) h1 9
      try simp only [Nat.reduceAdd] at f
      simp only [qJoint, f, p1, p2, p3, p4, p5, p6]
    rcases RB_error h with h2 | ⟨x2, t2, h2, h⟩
    · have f := qE (qI (qI (rfl : qInts b (.ok t) 0 = ([], .ok t)) h0) h1) h2 8
      try simp only [Nat.reduceAdd] at f
      simp only [qJoint, f, p1, p2, p3, p4, p5, p6]
    rcases RB_error h with h3 | ⟨x3, t3, h3, h⟩
    · have f := qE (qI (qI (qI (rfl : qInts b (.ok t) 0 = ([], .ok t)) h0) h1) h2) h3 7
      try simp only [Nat.reduceAdd] at f
      simp only [qJoint, f, p1, p2, p3, p4, p5, p6]
    rcases RB_error h with h4 | ⟨x4, t4, h4, h⟩
    · rcases rVec_error h4 with ha | ⟨w, u, ha, hb⟩
      · have f := qE (qI (qI (qI (qI (rfl : qInts b (.ok t) 0 = ([], .ok t)) h0) h1) h2) h3) ha 6
        try simp only [Nat.reduceAdd] at f
        simp only [qJoint, f, p1, p2, p3, p4, p5, p6]
      · have f := qE (qI (qI (qI (qI (qI (rfl : qInts b (.ok t) 0 = ([], .ok t)) h0) h1) h2) h3) ha) hb 5
        try simp only [Nat.reduceAdd] at f
        simp only [qJoint, f, p1, p2, p3, p4, p5, p6]
    obtain ⟨uh4, hah4, hbh4⟩ := rVec_ok h4
    rcases RB_error h with h5 | ⟨x5, t5, h5, h⟩
    · rcases rVec_error h5 with ha | ⟨w, u, ha, hb⟩
      · have f := qE (qI (qI (qI (qI (qI (qI (rfl : qInts b (.ok t) 0 = ([], .ok t)) h0) h1) h2) h3) hah4) hbh4) ha 4
        try simp only [Nat.reduceAdd] at f
        simp only [qJoint, f, p1, p2, p3, p4, p5, p6]
      · have f := qE (qI (qI (qI (qI (qI (qI (qI (rfl : qInts b (.ok t) 0 = ([], .ok t)) h0) h1) h2) h3) hah4) hbh4) ha) hb 3
        try simp only [Nat.reduceAdd] at f
        simp only [qJoint, f, p1, p2, p3, p4, p5, p6]
    obtain ⟨uh5, hah5, hbh5⟩ := rVec_ok h5
    rcases RB_error h with h6 | ⟨x6, t6, h6, h⟩
    · rcases rVec_error h6 with ha | ⟨w, u, ha, hb⟩
      · have f := qE (qI (qI (qI (qI (qI (qI (qI (qI (rfl : qInts b (.ok t) 0 = ([], .ok t)) h0) h1) h2) h3) hah4) hbh4) hah5) hbh5) ha 2
        try simp only [Nat.reduceAdd] at f
        simp only [qJoint, f, p1, p2, p3, p4, p5, p6]
      · have f := qE (qI (qI (qI (qI (qI (qI (qI (qI (qI (rfl : qInts b (.ok t) 0 = ([], .ok t)) h0) h1) h2) h3) hah4) hbh4) hah5) hbh5) ha) hb 1
        try simp only [Nat.reduceAdd] at f
        simp only [qJoint, f, p1, p2, p3, p4, p5, p6]
    obtain ⟨uh6, hah6, hbh6⟩ := rVec_ok h6
    rcases RB_error h with h7 | ⟨x7, t7, h7, h⟩
    · have f := qE (qI (qI (qI (qI (qI (qI (qI (qI (qI (qI (rfl : qInts b (.ok t) 0 = ([], .ok t)) h0) h1) h2) h3) hah4) hbh4) hah5) hbh5) hah6) hbh6) h7 0
      try simp only [Nat.reduceAdd] at f
      simp only [qJoint, f, p1, p2, p3, p4, p5, p6]
    have e0 : qInts b (.ok t) 11 = ([x0, x1, x2, x3, x4.X, x4.Y, x5.X, x5.Y, x6.X, x6.Y, x7], .ok t7) := (qI (qI (qI (qI (qI (qI (qI (qI (qI (qI (qI (rfl : qInts b (.ok t) 0 = ([], .ok t)) h0) h1) h2) h3) hah4) hbh4) hah5) hbh5) hah6) hbh6) h7)
    rcases RB_error h with h8 | ⟨x8, t8, h8, h⟩
    · have f := (agr_bool b).2.2 _ _ h8
      try simp only [Nat.reduceAdd] at f
      simp only [qJoint, e0, f, p2, p3, p4, p5, p6]
    have e1 := (agr_bool b).2.1 _ _ h8
    dsimp only at e1
    rcases RB_error h with h9 | ⟨x9, t9, h9, h⟩
    · have f := qE (rfl : qInts b (.ok t8) 0 = ([], .ok t8)) h9 1
      try simp only [Nat.reduceAdd] at f
      simp only [qJoint, e0, e1, f, p3, p4, p5, p6]
    rcases RB_error h with h10 | ⟨x10, t10, h10, h⟩
    · have f := qE (qI (rfl : qInts b (.ok t8) 0 = ([], .ok t8)) h9) h10 0
      try simp only [Nat.reduceAdd] at f
      simp only [qJoint, e0, e1, f, p3, p4, p5, p6]
    have e2 : qInts b (.ok t8) 2 = ([x9, x10], .ok t10) := (qI (qI (rfl : qInts b (.ok t8) 0 = ([], .ok t8)) h9) h10)
    rcases RB_error h with h11 | ⟨x11, t11, h11, h⟩
    · have f := (agr_bool b).2.2 _ _ h11
      try simp only [Nat.reduceAdd] at f
      simp only [qJoint, e0, e1, e2, f, p4, p5, p6]
    have e3 := (agr_bool b).2.1 _ _ h11
    dsimp only at e3
    rcases RB_error h with h12 | ⟨x12, t12, h12, h⟩
    · have f := qE (rfl : qInts b (.ok t11) 0 = ([], .ok t11)) h12 3
      try simp only [Nat.reduceAdd] at f
      simp only [qJoint, e0, e1, e2, e3, f, p5, p6]
    rcases RB_error h with h13 | ⟨x13, t13, h13, h⟩
    · have f := qE (qI (rfl : qInts b (.ok t11) 0 = ([], .ok t11)) h12) h13 2
      try simp only [Nat.reduceAdd] at f
      simp only [qJoint, e0, e1, e2, e3, f, p5, p6]
    rcases RB_error h with h14 | ⟨x14, t14, h14, h⟩
    · have f := qE (qI (qI (rfl : qInts b (.ok t11) 0 = ([], .ok t11)) h12) h13) h14 1
      try simp only [Nat.reduceAdd] at f
      simp only [qJoint, e0, e1, e2, e3, f, p5, p6]
    rcases RB_error h with h15 | ⟨x15, t15, h15, h⟩
    · have f := qE (qI (qI (qI (rfl : qInts b (.ok t11) 0 = ([], .ok t11)) h12) h13) h14) h15 0
      try simp only [Nat.reduceAdd] at f
      simp only [qJoint, e0, e1, e2, e3, f, p5, p6]
    have e4 : qInts b (.ok t11) 4 = ([x12, x13, x14, x15], .ok t15) := (qI (qI (qI (qI (rfl : qInts b (.ok t11) 0 = ([], .ok t11)) h12) h13) h14) h15)
    rcases RB_error h with h16 | ⟨x16, t16, h16, h⟩
    · have f := (agr_bool b).2.2 _ _ h16
      try simp only [Nat.reduceAdd] at f
      simp only [qJoint, e0, e1, e2, e3, e4, f, p6]
    have e5 := (agr_bool b).2.1 _ _ h16
    dsimp only at e5
    rcases RB_error h with h17 | ⟨x17, t17, h17, h⟩
    · have f := (agr_ints b 4).2.2 _ _ h17
      try simp only [Nat.reduceAdd] at f
      simp only [qJoint, e0, e1, e2, e3, e4, e5, f]
    have e6 := (agr_ints b 4).2.1 _ _ h17
    dsimp only at e6
    cases h
def qWorld (b : List Int) (s : RS) : Api.World × RS :=
  let y0 := qInts b s 5
  let y1 := qSl (qBody b) b y0.2
  let y2 := qSl (qJoint b) b y1.2
  let y3 := qSl (qContact b) b y2.2
  let y4 := qSl (qKey b) b y3.2
  let y5 := qInts b y4.2 2
  ({ Settings := { TimeStep := y0.1.getD 0 0, Gravity := ⟨y0.1.getD 1 0, y0.1.getD 2 0⟩, Iterations := y0.1.getD 3 0, SleepSteps := y0.1.getD 4 0 }, Bodies := y1.1, Joints := y2.1, Contacts := y3.1, Overlaps := y4.1, NextID := y5.1.getD 0 0, Frame := y5.1.getD 1 0 }, y5.2)
theorem agr_World (b : List Int) : Agr (qWorld b) (rWorld b) := by
  have p0 := (agr_ints b 5).1
  have p1 := (agr_Sl (agr_Body b) b).1
  have p2 := (agr_Sl (agr_Joint b) b).1
  have p3 := (agr_Sl (agr_Contact b) b).1
  have p4 := (agr_Sl (agr_Key b) b).1
  have p5 := (agr_ints b 2).1
  refine ⟨fun e => ?_, fun t x h => ?_, fun t e h => ?_⟩
  · simp only [qWorld, p0, p1, p2, p3, p4, p5]
  · obtain ⟨x0, t0, h0, h⟩ := RB_ok h
    obtain ⟨x1, t1, h1, h⟩ := RB_ok h
    obtain ⟨uh1, hah1, hbh1⟩ := rVec_ok h1
    obtain ⟨x2, t2, h2, h⟩ := RB_ok h
    obtain ⟨x3, t3, h3, h⟩ := RB_ok h
    have e0 : qInts b (.ok t) 5 = ([x0, x1.X, x1.Y, x2, x3], .ok t3) := (qI (qI (qI (qI (qI (rfl : qInts b (.ok t) 0 = ([], .ok t)) h0) hah1) hbh1) h2) h3)
    obtain ⟨x4, t4, h4, h⟩ := RB_ok h
    have e1 := (agr_Sl (agr_Body b) b).2.1 _ _ h4
    dsimp only at e1
    obtain ⟨x5, t5, h5, h⟩ := RB_ok h
    have e2 := (agr_Sl (agr_Joint b) b).2.1 _ _ h5
    dsimp only at e2
    obtain ⟨x6, t6, h6, h⟩ := RB_ok h
    have e3 := (agr_Sl (agr_Contact b) b).2.1 _ _ h6
    dsimp only at e3
    obtain ⟨x7, t7, h7, h⟩ := RB_ok h
    have e4 := (agr_Sl (agr_Key b) b).2.1 _ _ h7
    dsimp only at e4
    obtain ⟨x8, t8, h8, h⟩ := RB_ok h
    obtain ⟨x9, t9, h9, h⟩ := RB_ok h
    have e5 : qInts b (.ok t7) 2 = ([x8, x9], .ok t9) := (qI (qI (rfl : qInts b (.ok t7) 0 = ([], .ok t7)) h8) h9)
    cases h
    simp only [qWorld, e0, e1, e2, e3, e4, e5]
    first | done | rfl
  · rcases RB_error h with h0 | ⟨x0, t0, h0, h⟩
    · have f := qE (rfl : qInts b (.ok t) 0 = ([], .ok t)) h0 4
      try simp only [Nat.reduceAdd] at f
      simp only [qWorld, f, p1, p2, p3, p4, p5]
    rcases RB_error h with h1 | ⟨x1, t1, h1, h⟩
    · rcases rVec_error h1 with ha | ⟨w, u, ha, hb⟩
      · have f := qE (qI (rfl : qInts b (.ok t) 0 = ([], .ok t)) h0) ha 3
        try simp only [Nat.reduceAdd] at f
        simp only [qWorld, f, p1, p2, p3, p4, p5]
      · have f := qE (qI (qI (rfl : qInts b (.ok t) 0 = ([], .ok t)) h0) ha) hb 2
        try simp only [Nat.reduceAdd] at f
        simp only [qWorld, f, p1, p2, p3, p4, p5]
    obtain ⟨uh1, hah1, hbh1⟩ := rVec_ok h1
    rcases RB_error h with h2 | ⟨x2, t2, h2, h⟩
    · have f := qE (qI (qI (qI (rfl : qInts b (.ok t) 0 = ([], .ok t)) h0) hah1) hbh1) h2 1
      try simp only [Nat.reduceAdd] at f
      simp only [qWorld, f, p1, p2, p3, p4, p5]
    rcases RB_error h with h3 | ⟨x3, t3, h3, h⟩
    · have f := qE (qI (qI (qI (qI (rfl : qInts b (.ok t) 0 = ([], .ok t)) h0) hah1) hbh1) h2) h3 0
      try simp only [Nat.reduceAdd] at f
      simp only [qWorld, f, p1, p2, p3, p4, p5]
    have e0 : qInts b (.ok t) 5 = ([x0, x1.X, x1.Y, x2, x3], .ok t3) := (qI (qI (qI (qI (qI (rfl : qInts b (.ok t) 0 = ([], .ok t)) h0) hah1) hbh1) h2) h3)
    rcases RB_error h with h4 | ⟨x4, t4, h4, h⟩
    · have f := (agr_Sl (agr_Body b) b).2.2 _ _ h4
      try simp only [Nat.reduceAdd] at f
      simp only [qWorld, e0, f, p2, p3, p4, p5]
    have e1 := (agr_Sl (agr_Body b) b).2.1 _ _ h4
    dsimp only at e1
    rcases RB_error h with h5 | ⟨x5, t5, h5, h⟩
    · have f := (agr_Sl (agr_Joint b) b).2.2 _ _ h5
      try simp only [Nat.reduceAdd] at f
      simp only [qWorld, e0, e1, f, p3, p4, p5]
    have e2 := (agr_Sl (agr_Joint b) b).2.1 _ _ h5
    dsimp only at e2
    rcases RB_error h with h6 | ⟨x6, t6, h6, h⟩
    · have f := (agr_Sl (agr_Contact b) b).2.2 _ _ h6
      try simp only [Nat.reduceAdd] at f
      simp only [qWorld, e0, e1, e2, f, p4, p5]
    have e3 := (agr_Sl (agr_Contact b) b).2.1 _ _ h6
    dsimp only at e3
    rcases RB_error h with h7 | ⟨x7, t7, h7, h⟩
    · have f := (agr_Sl (agr_Key b) b).2.2 _ _ h7
      try simp only [Nat.reduceAdd] at f
      simp only [qWorld, e0, e1, e2, e3, f, p5]
    have e4 := (agr_Sl (agr_Key b) b).2.1 _ _ h7
    dsimp only at e4
    rcases RB_error h with h8 | ⟨x8, t8, h8, h⟩
    · have f := qE (rfl : qInts b (.ok t7) 0 = ([], .ok t7)) h8 1
      try simp only [Nat.reduceAdd] at f
      simp only [qWorld, e0, e1, e2, e3, e4, f]
    rcases RB_error h with h9 | ⟨x9, t9, h9, h⟩
    · have f := qE (qI (rfl : qInts b (.ok t7) 0 = ([], .ok t7)) h8) h9 0
      try simp only [Nat.reduceAdd] at f
      simp only [qWorld, e0, e1, e2, e3, e4, f]
    have e5 : qInts b (.ok t7) 2 = ([x8, x9], .ok t9) := (qI (qI (rfl : qInts b (.ok t7) 0 = ([], .ok t7)) h8) h9)
    cases h
end Go.Abs
end
section
namespace Go.Abs
open Go.Proofs
open Api
theorem s_r07_ReadInt (b : List Int) (at' : Int) (hb : b.length ≤ 549755813888) (hB : bytes b) :
    CallsA Tryz.prog F_r07_ReadInt [encD 1 encU8 0 b, .sc (.int .i64 at')] [] (.tup [.sc (.int .i64 (t3 (rInt b at')).1), .sc (.int .i64 (t3 (rInt b at')).2.1), .sc (.int .i64 (t3 (rInt b at')).2.2)]) [] := by
  refine enT hm shOk Tryz.func152 rfl rfl ?_
  simp only [go_sem]
  by_cases h0 : at' < 0
  · have h2 : rInt b at' = .error 2 := by unfold rInt; rw [if_pos (.inl h0)]
    simp only [h0, h2, t3, decide_true, go_sem]
  by_cases h1 : (b.length : Int) < at'
  · have h2 : rInt b at' = .error 2 := by unfold rInt; rw [if_pos (.inr h1)]
    simp only [h0, h1, h2, t3, decide_true, decide_false, go_sem]
  by_cases h0' : at' = b.length
  · have h2 : rInt b at' = .error 4 := by unfold rInt; rw [if_neg (by omega), if_pos h0']
    simp only [h0, h1, h2, t3, decide_true, decide_false, go_sem]
    simp only [h0', beq_self_eq_true, go_sem]
  have hh := bytes_getD hB at'.toNat
  have hr : rInt b at' = rBig b at' (decide (16 < b.getD at'.toNat 0)) (if 16 < b.getD at'.toNat 0 then b.getD at'.toNat 0 - 16 else b.getD at'.toNat 0) := by unfold rInt; rw [if_neg (by omega), if_neg h0']
  rw [hr]
  have hne : (at' == (b.length : Int)) = false := by simpa using h0'
  simp only [h0, h1, hne, decide_false, go_sem]
  refine ⟨by omega, ?_⟩
  generalize hH : b.getD at'.toNat 0 = H at *
  clear hr hne
  have w0 : IntKind.i64.wrap H = H := by rw [IntKind.wrap_i64]; omega
  have w5 : IntKind.i64.wrap (IntKind.i64.wrap (b.length - at') - 1) = b.length - at' - 1 := by simp only [IntKind.wrap_i64]; omega
  have w2 : IntKind.i64.wrap (H - 16) = H - 16 := by rw [IntKind.wrap_i64]; omega
  by_cases h16 : H = 16
  · have h3 : rBig b at' (decide (16 < H)) (if 16 < H then H - 16 else H) = .error 3 := by subst h16; rfl
    rw [h3]
    subst h16
    have e0 : IntKind.i64.wrap (16 - 16) = 0 := by decide
    simp only [w0, t3, e0, Int.le_refl, (show ¬ (8 : Int) < 0 by decide), (show ¬ (0 : Int) < 0 by decide), decide_true, decide_false, beq_self_eq_true, go_sem]
    try simp
  by_cases hm16 : 16 < H
  · simp only [hm16, (show (16 : Int) ≤ H by omega), w0, w2, w5, decide_true, decide_false, go_sem]
    generalize hk : H - 16 = k at *
    have hk0 : 0 ≤ k := by omega
    by_cases h8 : 8 < k
    · have h3 : rBig b at' true k = .error 3 := by unfold rBig; rw [if_pos h8]
      simp only [h8, h3, t3, (show (k == 0) = false by simp; omega), go_sem]
      try exact ⟨fun h => by simp at h, rfl, rfl, rfl⟩
    have hn : ¬ k < 0 := by omega
    have hz : (k == 0) = decide (k = 0) := rfl
    by_cases h9 : (b.length : Int) - at' - 1 < k
    · have h3 : rBig b at' true k = .error 4 := by unfold rBig; rw [if_neg h8, if_pos h9]
      simp only [h8, hn, h3, h9, t3, (show (k == 0) = false by simp; omega), go_sem]
      try simp
    simp only [h8, hn, h9, (show (k == 0) = false by simp; omega), go_sem]
    try simp only [implies_true, true_and]
    obtain ⟨p, rfl⟩ := Int.eq_ofNat_of_zero_le (show 0 ≤ at' by omega)
    obtain ⟨q, rfl⟩ := Int.eq_ofNat_of_zero_le hk0
    have hLl : ((b.drop (p + 1)).take q).length = q := take_drop_len (by omega)
    refine Wpi_loop hm (ι := {i : Nat // i ≤ q}) (fun i => [(0, .share, encD 1 encU8 0 b), (1, .share, .sc (.int .i64 p)), (7, .share, .sc (.int .i64 q)), (8, .share, .sc (.bool true)), (9, .share, .sc (.int .u64 (beU (((b.drop (p + 1)).take q).take i.1)))), (10, .share, .sc (.int .i64 ((i.1 : Int) + 1)))])
      (fun i => []) (fun i => q - i.1) ⟨0, by omega⟩ ?_ ?_
    · refine weakE_ [] [] ?_
      simp only [List.take_zero, go_sem]
      try exact ⟨rfl, rfl⟩
    · rintro ⟨i, hi⟩
      have hsn := beU_snoc (l := (b.drop (p + 1)).take q) (i := i)
      have hrg := beU_range (l := (b.drop (p + 1)).take q) (fun x hx => hB x (List.mem_of_mem_drop (List.mem_of_mem_take hx))) i (by omega)
      have hcc := bytes_getD (b := (b.drop (p + 1)).take q) (fun x hx => hB x (List.mem_of_mem_drop (List.mem_of_mem_take hx))) i
      simp only [go_sem]
      by_cases hlt : i < q
      · rw [if_pos (by omega)]
        have wi : IntKind.i64.wrap ((p : Int) + ((i : Int) + 1)) = ((p + 1 + i : Nat) : Int) := by rw [IntKind.wrap_i64]; omega
        have hc2 : ((b.drop (p + 1)).take q).getD i 0 = b.getD (p + 1 + i) 0 := take_drop_get hlt
        rw [hc2] at hsn hcc
        refine ⟨by rw [wi]; omega, ?_⟩
        refine loop_next ⟨i + 1, by omega⟩ (by show q - (i + 1) < q - i; omega) (weakE_ [] [] ?_)
        simp only [wi, Int.toNat_natCast, go_sem]
        have h7 := pow256_le (show i ≤ 7 by omega)
        refine ⟨?_, by rw [IntKind.wrap_i64]; omega⟩
        rw [hsn (by omega)]
        simp only [IntKind.wrap_u64]
        omega
      · rw [if_neg (by omega)]
        obtain rfl : i = q := by omega
        clear hsn
        rw [List.take_of_length_le (by omega)] at hrg
        have h8' := pow256_le8 (show i ≤ 8 by omega)
        simp only [List.take_of_length_le (show ((b.drop (p + 1)).take i).length ≤ i by omega)]
        generalize hu : beU ((b.drop (p + 1)).take i) = u at *
        simp only [hm16, if_true, if_false, decide_true, decide_false]
        have hb3 : 0 ≤ u ∧ u < 18446744073709551616 := by omega
        have hz0 : 0 < i → u = 0 → b.getD (p + 1) 0 = 0 := fun hi0 hu0 => by
          have := beU_zero (l := (b.drop (p + 1)).take i) (fun x hx => hB x (List.mem_of_mem_drop (List.mem_of_mem_take hx))) (by rw [hu]; exact hu0)
          rwa [take_drop_get hi0] at this
        have w1 : IntKind.i64.wrap ((p : Int) + 1) = ((p + 1 : Nat) : Int) := by rw [IntKind.wrap_i64]; omega
        have hrB : rBig b p true i = if (0 < (i : Int) ∧ b.getD (p + 1) 0 = 0) ∨ (true = false ∧ 9223372036854775808 ≤ u) ∨ (true = true ∧ 9223372036854775808 < u) then .error 3 else .ok (if true = true then -u else u, (p : Int) + 1 + i) := by
          unfold rBig; rw [if_neg h8, if_neg h9]; simp only [Int.toNat_natCast, hu]
        refine ⟨fun h => by rw [w1]; omega, ?_⟩
        simp only [w1, Int.toNat_natCast]
        rw [hrB]
        by_cases hc : (0 < (i : Int) ∧ b.getD (p + 1) 0 = 0) ∨ (true = false ∧ 9223372036854775808 ≤ u) ∨ (true = true ∧ 9223372036854775808 < u)
        · rw [if_pos hc, if_pos]
          · exact ⟨rfl, rfl, rfl⟩
          · rcases hc with ⟨hc1, hc2⟩ | ⟨hx, hc1⟩ | ⟨hx, hc1⟩
            · rw [if_pos hc1, hc2]; rfl
            · first | exact absurd hx (by decide) | (rw [decide_eq_true (by omega), Bool.or_true])
            · first | exact absurd hx (by decide) | (rw [decide_eq_true (by omega), Bool.or_true])
        · rw [if_neg hc, if_neg]
          · simp only [t3]
            have hle : ¬ 9223372036854775808 < u := fun h => hc (.inr (.inr ⟨rfl, h⟩))
            have hu1 : 1 ≤ u := by
              rcases Int.lt_or_le u 1 with h | h
              · exact absurd (.inl ⟨by omega, hz0 (by omega) (by omega)⟩) hc
              · exact h
            refine ⟨?_, ?_, trivial⟩
            · simp only [IntKind.wrap_i64, IntKind.wrap_u64, if_true]; omega
            · rw [IntKind.wrap_i64]; omega
          · intro hb4
            refine hc ?_
            simp only [Bool.or_eq_true, decide_eq_true_eq] at hb4
            rcases hb4 with hb4 | hb4
            · split at hb4
              · rename_i h0i; exact .inl ⟨h0i, by simpa using hb4⟩
              · cases hb4
            · first | exact .inr (.inr ⟨rfl, hb4⟩) | exact .inr (.inl ⟨rfl, by omega⟩)
  · simp only [hm16, (show ¬ (16 : Int) ≤ H by omega), w0, w2, w5, decide_true, decide_false, go_sem]
    generalize hk : H = k at *
    have hk0 : 0 ≤ k := by omega
    by_cases h8 : 8 < k
    · have h3 : rBig b at' false k = .error 3 := by unfold rBig; rw [if_pos h8]
      simp only [h8, h3, t3, go_sem]
      try exact ⟨fun h => by simp at h, rfl, rfl, rfl⟩
    have hn : ¬ k < 0 := by omega
    have hz : (k == 0) = decide (k = 0) := rfl
    by_cases h9 : (b.length : Int) - at' - 1 < k
    · have h3 : rBig b at' false k = .error 4 := by unfold rBig; rw [if_neg h8, if_pos h9]
      simp only [h8, hn, h3, h9, t3, go_sem]
      try simp
    simp only [h8, hn, h9, go_sem]
    try simp only [implies_true, true_and]
    obtain ⟨p, rfl⟩ := Int.eq_ofNat_of_zero_le (show 0 ≤ at' by omega)
    obtain ⟨q, rfl⟩ := Int.eq_ofNat_of_zero_le hk0
    have hLl : ((b.drop (p + 1)).take q).length = q := take_drop_len (by omega)
    refine Wpi_loop hm (ι := {i : Nat // i ≤ q}) (fun i => [(0, .share, encD 1 encU8 0 b), (1, .share, .sc (.int .i64 p)), (7, .share, .sc (.int .i64 q)), (8, .share, .sc (.bool false)), (9, .share, .sc (.int .u64 (beU (((b.drop (p + 1)).take q).take i.1)))), (10, .share, .sc (.int .i64 ((i.1 : Int) + 1)))])
      (fun i => []) (fun i => q - i.1) ⟨0, by omega⟩ ?_ ?_
    · refine weakE_ [] [] ?_
      simp only [List.take_zero, go_sem]
      try exact ⟨rfl, rfl⟩
    · rintro ⟨i, hi⟩
      have hsn := beU_snoc (l := (b.drop (p + 1)).take q) (i := i)
      have hrg := beU_range (l := (b.drop (p + 1)).take q) (fun x hx => hB x (List.mem_of_mem_drop (List.mem_of_mem_take hx))) i (by omega)
      have hcc := bytes_getD (b := (b.drop (p + 1)).take q) (fun x hx => hB x (List.mem_of_mem_drop (List.mem_of_mem_take hx))) i
      simp only [go_sem]
      by_cases hlt : i < q
      · rw [if_pos (by omega)]
        have wi : IntKind.i64.wrap ((p : Int) + ((i : Int) + 1)) = ((p + 1 + i : Nat) : Int) := by rw [IntKind.wrap_i64]; omega
        have hc2 : ((b.drop (p + 1)).take q).getD i 0 = b.getD (p + 1 + i) 0 := take_drop_get hlt
        rw [hc2] at hsn hcc
        refine ⟨by rw [wi]; omega, ?_⟩
        refine loop_next ⟨i + 1, by omega⟩ (by show q - (i + 1) < q - i; omega) (weakE_ [] [] ?_)
        simp only [wi, Int.toNat_natCast, go_sem]
        have h7 := pow256_le (show i ≤ 7 by omega)
        refine ⟨?_, by rw [IntKind.wrap_i64]; omega⟩
        rw [hsn (by omega)]
        simp only [IntKind.wrap_u64]
        omega
      · rw [if_neg (by omega)]
        obtain rfl : i = q := by omega
        clear hsn
        rw [List.take_of_length_le (by omega)] at hrg
        have h8' := pow256_le8 (show i ≤ 8 by omega)
        simp only [List.take_of_length_le (show ((b.drop (p + 1)).take i).length ≤ i by omega)]
        generalize hu : beU ((b.drop (p + 1)).take i) = u at *
        simp only [hm16, if_true, if_false, decide_true, decide_false]
        have hb3 : 0 ≤ u ∧ u < 18446744073709551616 := by omega
        have hz0 : 0 < i → u = 0 → b.getD (p + 1) 0 = 0 := fun hi0 hu0 => by
          have := beU_zero (l := (b.drop (p + 1)).take i) (fun x hx => hB x (List.mem_of_mem_drop (List.mem_of_mem_take hx))) (by rw [hu]; exact hu0)
          rwa [take_drop_get hi0] at this
        have w1 : IntKind.i64.wrap ((p : Int) + 1) = ((p + 1 : Nat) : Int) := by rw [IntKind.wrap_i64]; omega
        have hrB : rBig b p false i = if (0 < (i : Int) ∧ b.getD (p + 1) 0 = 0) ∨ (false = false ∧ 9223372036854775808 ≤ u) ∨ (false = true ∧ 9223372036854775808 < u) then .error 3 else .ok (if false = true then -u else u, (p : Int) + 1 + i) := by
          unfold rBig; rw [if_neg h8, if_neg h9]; simp only [Int.toNat_natCast, hu]
        refine ⟨fun h => by rw [w1]; omega, ?_⟩
        simp only [w1, Int.toNat_natCast]
        rw [hrB]
        by_cases hc : (0 < (i : Int) ∧ b.getD (p + 1) 0 = 0) ∨ (false = false ∧ 9223372036854775808 ≤ u) ∨ (false = true ∧ 9223372036854775808 < u)
        · rw [if_pos hc, if_pos]
          · exact ⟨rfl, rfl, rfl⟩
          · rcases hc with ⟨hc1, hc2⟩ | ⟨hx, hc1⟩ | ⟨hx, hc1⟩
            · rw [if_pos hc1, hc2]; rfl
            · first | exact absurd hx (by decide) | (rw [decide_eq_true (by omega), Bool.or_true])
            · first | exact absurd hx (by decide) | (rw [decide_eq_true (by omega), Bool.or_true])
        · rw [if_neg hc, if_neg]
          · simp only [t3]
            have hle : ¬ 9223372036854775808 ≤ u := fun h => hc (.inr (.inl ⟨rfl, h⟩))
            refine ⟨?_, ?_, trivial⟩
            · simp only [IntKind.wrap_i64, Bool.false_eq_true, if_false]; omega
            · rw [IntKind.wrap_i64]; omega
          · intro hb4
            refine hc ?_
            simp only [Bool.or_eq_true, decide_eq_true_eq] at hb4
            rcases hb4 with hb4 | hb4
            · split at hb4
              · rename_i h0i; exact .inl ⟨h0i, by simpa using hb4⟩
              · cases hb4
            · first | exact .inr (.inr ⟨rfl, hb4⟩) | exact .inr (.inl ⟨rfl, by omega⟩)
end Go.Abs
end
section
namespace Go.Abs
open Go.Proofs
open Api
theorem s_r07_ReadBool (b : List Int) (at' : Int) (hb : b.length ≤ 549755813888) :
    CallsA Tryz.prog F_r07_ReadBool [encD 1 encU8 0 b, .sc (.int .i64 at')] [] (.tup [.sc (.bool (t3b (rBool b at')).1), .sc (.int .i64 (t3b (rBool b at')).2.1), .sc (.int .i64 (t3b (rBool b at')).2.2)]) [] := by
  refine enT hm shOk Tryz.func153 rfl rfl ?_
  simp only [go_sem]
  by_cases h0 : at' < 0
  · have h2 : rBool b at' = .error 2 := by unfold rBool rByte; simp only [h0, true_or, if_true]
    simp only [h0, h2, t3b, decide_true, go_sem]
  by_cases h1 : (b.length : Int) < at'
  · have h2 : rBool b at' = .error 2 := by unfold rBool rByte; simp only [h1, or_true, if_true]
    simp only [h0, h1, h2, t3b, decide_true, decide_false, go_sem]
  by_cases h3 : at' = b.length
  · have h2 : rBool b at' = .error 4 := by unfold rBool rByte; simp only [h3, Int.lt_irrefl, or_false]; rw [if_neg (by omega)]; simp only [if_true]
    simp only [h0, h1, h2, t3b, decide_true, decide_false, go_sem]
    simp only [h3, beq_self_eq_true, go_sem]
  · have hne : (at' == (b.length : Int)) = false := by simpa using h3
    have h2 : rBool b at' = if 1 < b.getD at'.toNat 0 then .error 3 else .ok (b.getD at'.toNat 0 == 1, at' + 1) := by unfold rBool rByte; simp only [h0, h1, h3, or_self, if_false]
    rw [h2]
    by_cases h4 : 1 < b.getD at'.toNat 0
    · simp only [h0, h1, h4, hne, t3b, decide_true, decide_false, go_sem]
      omega
    · simp only [h0, h1, h4, hne, t3b, decide_true, decide_false, go_sem]
      refine ⟨by omega, by omega, ?_⟩
      rw [IntKind.wrap_i64]; omega
def nz (e : Int) : Int := if e = 0 then 1 else e
theorem nz_ne (e : Int) : (nz e != 0) = true := by unfold nz; split <;> simp_all
theorem nz_eq (e : Int) : (nz e == 0) = false := by unfold nz; split <;> simp_all
theorem nz_of {e : Int} (h : e ≠ 0) : nz e = e := by unfold nz; rw [if_neg h]
def rdB (b : List Int) : RS → List Int
  | .ok _ => b
  | .error _ => []
def rdO : RS → Int
  | .ok t => t
  | .error _ => 0
def rdE : RS → Int
  | .ok _ => 0
  | .error e => nz e
def rdr (b : List Int) (s : RS) : List AV := [encD 1 encU8 0 (rdB b s), .sc (.int .i64 (rdO s)), .sc (.int .i64 (rdE s))]
attribute [go_sem] rdr
theorem z00 : ((0 : Int) == 0) = true := rfl
theorem s_r45_readInt (b : List Int) (s : RS) (hb : b.length ≤ 549755813888) (hB : bytes b) : CallsA Tryz.prog F_r45_readInt [.agg (rdr b s)] [] (.tup [.sc (.int .i64 (qInt b s).1), .agg (rdr b (qInt b s).2)]) [] := by
  refine enRT 29 [(2, none), (3, some (some 3))] hm shOk Tryz.func120 rfl ?_
  cases s with
  | error e =>
    simp only [rdB, rdO, rdE, nz_ne, qInt, go_sem]
    try exact ⟨rfl, avle_refl _⟩
  | ok t =>
    simp only [rdB, rdO, rdE, n00, go_sem]
    refine CallGi_flat (s_r07_ReadInt b t hb hB) rfl ?_
    simp only [go_sem]
    cases hr : rInt b t with
    | error e =>
      have he := rInt_err hr
      have hne : (e != 0) = true := by simpa using he
      simp only [t3, qInt, hr, hne, rdB, rdO, rdE, nz_of he, go_sem]
      exact avle_nilD rfl
    | ok x =>
      simp only [t3, qInt, hr, n00, rdB, rdO, rdE, go_sem]
      try exact avle_refl _
theorem s_r45_readBool (b : List Int) (s : RS) (hb : b.length ≤ 549755813888) (hB : bytes b) : CallsA Tryz.prog F_r45_readBool [.agg (rdr b s)] [] (.tup [.sc (.bool (qBool b s).1), .agg (rdr b (qBool b s).2)]) [] := by
  refine enRT 29 [(2, none), (3, some (some 3))] hm shOk Tryz.func121 rfl ?_
  cases s with
  | error e =>
    simp only [rdB, rdO, rdE, nz_ne, qBool, go_sem]
    try exact ⟨rfl, avle_refl _⟩
  | ok t =>
    simp only [rdB, rdO, rdE, n00, go_sem]
    refine CallGi_flat (s_r07_ReadBool b t hb) rfl ?_
    simp only [go_sem]
    cases hr : rBool b t with
    | error e =>
      have he := rBool_err hr
      have hne : (e != 0) = true := by simpa using he
      simp only [t3b, qBool, hr, hne, rdB, rdO, rdE, nz_of he, go_sem]
      exact avle_nilD rfl
    | ok x =>
      simp only [t3b, qBool, hr, n00, rdB, rdO, rdE, go_sem]
      try exact avle_refl _
theorem s_r45_readCount (b : List Int) (s : RS) (hb : b.length ≤ 549755813888) (hB : bytes b) : CallsA Tryz.prog F_r45_readCount [.agg (rdr b s)] [] (.tup [.sc (.int .i64 (qCount b s).1), .agg (rdr b (qCount b s).2)]) [] := by
  refine enRT 29 [(2, none), (3, some (some 3))] hm shOk Tryz.func73 rfl ?_
  simp only [go_sem]
  refine CallGi_flat (s_r45_readInt b s hb hB) rfl ?_
  simp only [go_sem]
  unfold qCount
  cases hq : (qInt b s).2 with
  | error e =>
    have h0 : (qInt b s).1 = 0 := by
      cases s with
      | error e' => rfl
      | ok t =>
        simp only [qInt] at hq ⊢
        cases hr : rInt b t with
        | error e' => rfl
        | ok x => rw [hr] at hq; cases hq
    simp only [h0, rdB, rdO, rdE, nz_eq, go_sem]
    simp
  | ok t =>
    by_cases h1 : (qInt b s).1 < 0
    · simp only [h1, rdB, rdO, rdE, z00, decide_true, go_sem]
      exact ⟨avle_nilD rfl, rfl⟩
    · by_cases h2 : 8192 < (qInt b s).1
      · simp only [h1, h2, rdB, rdO, rdE, z00, decide_true, decide_false, go_sem]
        exact ⟨avle_nilD rfl, rfl⟩
      · simp only [h1, h2, rdB, rdO, rdE, z00, decide_true, decide_false, go_sem]
theorem s_r45_readVec (b : List Int) (s : RS) (hb : b.length ≤ 549755813888) (hB : bytes b) : CallsA Tryz.prog F_r45_readVec [.agg (rdr b s)] [] (.tup [.agg (qVec b s).1.enc, .agg (rdr b (qVec b s).2)]) [] := by
  refine enRT 22 [(2, some (some 2)), (3, some (some 3))] hm shOk Tryz.func123 rfl ?_
  simp only [go_sem]
  refine CallGi_flat (s_r45_readInt b s hb hB) rfl ?_
  simp only [go_sem]
  refine CallGi_flat (s_r45_readInt b (qInt b s).2 hb hB) rfl ?_
  simp only [qVec, go_sem]
theorem qInts_c (b : List Int) (s : RS) (n : Nat) : qInts b s (n + 1) = ((qInts b s n).1 ++ [(qInt b (qInts b s n).2).1], (qInt b (qInts b s n).2).2) := rfl
theorem s_r45_readInts (b : List Int) (s : RS) (n : Nat) (hn : n ≤ 1000) (hb : b.length ≤ 549755813888) (hB : bytes b) : CallsA Tryz.prog F_r45_readInts [.agg (rdr b s), .sc (.int .i64 n)] [] (.tup [encD 1 encInt 0 (qInts b s n).1, .agg (rdr b (qInts b s n).2)]) [] := by
  refine enRT 27 [(4, none), (5, some (some 3))] hm shOk Tryz.func72 rfl ?_
  simp only [go_sem]
  refine Wpi_loop hm (ι := {i : Nat // i ≤ n}) (fun i => [(1, .share, .sc (.int .i64 n)), (2, .share, .ptr 48 0 0 1), (4, .share, .sc (.slice none 0 0)), (5, .share, .ptr 96 0 0 1), (6, if i.1 = 0 then .adopt else .share, .sl 1 0 i.1 i.1), (7, .share, .sc (.int .i64 i.1))])
    (fun i => [(48, .box (rdr b (qInts b s i.1).2)), (96, .box [.sc (.slice none 0 0), .sc (.int .i64 0), .sc (.int .i64 0)]), (1, .arr 1 (encQ encInt 0 (qInts b s i.1).1))]) (fun i => n - i.1) ⟨0, by omega⟩ ?_ ?_
  · refine weakE_ [] [1] ?_
    simp only [qInts, List.length_nil, go_sem]
  · rintro ⟨i, hi⟩
    simp only [go_sem]
    by_cases hlt : i < n
    · rw [if_pos (by omega)]
      refine CallGi_flat (s_r45_readInt b (qInts b s i).2 hb hB) rfl ?_
      simp only [go_sem]
      have hl := qInts_len b s i
      refine ⟨⟨hl.symm, hl.symm, by rw [hl]; omega, by rw [hl]; simp only [maxLen]; omega⟩, ?_⟩
      refine loop_next ⟨i + 1, by omega⟩ (by show n - (i + 1) < n - i; omega) (weakE_ [] [] ?_)
      have hst := qInts_c b s i
      simp only [hst, hl, go_sem]
      refine ⟨(by rw [IntKind.wrap_i64]; omega), q_app1 (qInt b (qInts b s i).2).1 rfl rfl⟩
    · rw [if_neg (by omega)]
      obtain rfl : i = n := by omega
      have hl := qInts_len b s i
      exact ⟨⟨hl.symm, by rw [hl]; exact avle_refl _⟩, avle_refl _, rfl, rfl⟩
end Go.Abs
end
section
namespace Go.Abs
open Go.Proofs
open Api
theorem qCount_range (b : List Int) (s : RS) : 0 ≤ (qCount b s).1 ∧ (qCount b s).1 ≤ 8192 := by
  unfold qCount
  split
  · exact ⟨Int.le_refl _, by show (0 : Int) ≤ 8192; decide⟩
  · split
    · exact ⟨Int.le_refl _, by show (0 : Int) ≤ 8192; decide⟩
    · split
      · exact ⟨Int.le_refl _, by show (0 : Int) ≤ 8192; decide⟩
      · exact ⟨by omega, by omega⟩
theorem qN_stop {α : Type} {q : RS → α × RS} {s : RS} {i : Nat} {e : Int} (h : (qN q s i).2 = .error e) : ∀ n, i ≤ n → qN q s n = qN q s i
  | 0, hn => by obtain rfl : i = 0 := by omega
                rfl
  | n + 1, hn => by
    by_cases hi : i = n + 1
    · rw [hi]
    · have := qN_stop h n (by omega)
      simp only [qN, this, h]
      rw [← h]
theorem qN_go {α : Type} {q : RS → α × RS} {s : RS} {i : Nat} {t : Int} (h : (qN q s i).2 = .ok t) : qN q s (i + 1) = ((qN q s i).1 ++ [(q (qN q s i).2).1], (q (qN q s i).2).2) := by
  simp only [qN, h]
theorem rdE_ok {s : RS} (h : (rdE s == 0) = true) : ∃ t, s = .ok t := by
  cases s with
  | ok t => exact ⟨t, rfl⟩
  | error e => rw [show rdE (.error e) = nz e from rfl, nz_eq] at h; cases h
theorem s_r45_readKey (b : List Int) (s : RS) (hb : b.length ≤ 549755813888) (hB : bytes b) : CallsA Tryz.prog F_r45_readKey [.agg (rdr b s)] [] (.tup [.agg (qKey b s).1.enc, .agg (rdr b (qKey b s).2)]) [] := by
  refine enRT 25 [(2, some (some 4)), (3, some (some 3))] hm shOk Tryz.func77 rfl ?_
  simp only [go_sem]
  refine CallGi_flat (s_r45_readInts b s 4 (by decide) hb hB) rfl ?_
  simp only [qInts_len, Int.cast_ofNat_Int, Int.reduceLT, Int.reduceLE, Int.le_refl, qKey, go_sem]
theorem s_r45_readFixture (b : List Int) (s : RS) (hb : b.length ≤ 549755813888) (hB : bytes b) : CallsA Tryz.prog F_r45_readFixture [.agg (rdr b s)] [] (.tup [.agg (qFixture b s).1.enc, .agg (rdr b (qFixture b s).2)]) [] := by
  refine enRT 105 [(2, some (some 10)), (3, some (some 3))] hm shOk Tryz.func122 rfl ?_
  simp only [go_sem]
  refine CallGi_flat (s_r45_readInts b s 2 (by decide) hb hB) rfl ?_
  have e0 := qInts_len b s 2
  generalize h0 : qInts b s 2 = y0 at *
  simp only [qInts_len, Int.cast_ofNat_Int, Int.reduceLT, Int.reduceLE, Int.le_refl, Int.toNat_natCast, e0, go_sem]
  refine CallGi_flat (s_r45_readCount b y0.2 hb hB) rfl ?_
  have r1 := qCount_range b y0.2
  generalize g1 : qCount b y0.2 = c1 at *
  simp only [qInts_len, Int.cast_ofNat_Int, Int.reduceLT, Int.reduceLE, Int.le_refl, Int.toNat_natCast, e0, go_sem]
  obtain ⟨n1, hn1⟩ := Int.eq_ofNat_of_zero_le r1.1
  rw [hn1]
  refine Wpi_loop hm (ι := {i : Nat // i ≤ n1 ∧ (qN (qVec b) c1.2 i).1.length = i}) (fun i => [(2, .share, .ptr 48 0 0 1), (3, .share, .ptr 64 0 0 1), (4, .share, .ptr 80 0 0 1), (7, .share, .sc (.int .i64 n1)), (8, .share, .ptr 144 0 0 1), (9, .share, .sc (.int .i64 i.1))])
    (fun i => [(48, .box Fixture.zero), (64, .box [.sc (.slice none 0 0), .sc (.int .i64 0), .sc (.int .i64 0)]), (80, .box [.sc (.int .i64 (y0.1.getD 0 0)), .sc (.int .i64 (y0.1.getD 1 0)), .sl 1 0 i.1 i.1, .sc (.int .i64 0), .sc (.int .i64 0), .sc (.int .i64 0), .sc (.bool false), .sc (.int .i64 0), .sc (.int .i64 0), .sc (.int .i64 0)]), (144, .box (rdr b (qN (qVec b) c1.2 i.1).2)), (1, .arr 2 (encQ Vec.enc default (qN (qVec b) c1.2 i.1).1))]) (fun i => n1 - i.1) ⟨0, by omega, rfl⟩ ?_ ?_
  · refine weakE_ [] [1] ?_
    simp only [qN, List.length_nil, Fixture.zero, e0, go_sem]
    try simp only [and_self]
    first | done | trivial | exact ⟨avle_refl _, trivial⟩ | (repeat' (with_reducible apply And.intro)) <;> first | rfl | exact avle_refl _ | exact q_same rfl | trivial
  rintro ⟨i, hi, hl⟩
  have hl : (qN (qVec b) c1.2 i).1.length = i := hl
  simp only [qInts_len, Int.cast_ofNat_Int, Int.reduceLT, Int.reduceLE, Int.le_refl, Int.toNat_natCast, go_sem]
  have hfin : ¬ ((if (i : Int) < (n1 : Int) then rdE (qN (qVec b) c1.2 i).2 == 0 else false) = true) → qSl (qVec b) b y0.2 = (qN (qVec b) c1.2 i) := fun hx => by
    unfold qSl
    rw [g1, hn1, Int.toNat_natCast]
    by_cases hlt : (i : Int) < (n1 : Int)
    · rw [if_pos hlt] at hx
      cases hq : (qN (qVec b) c1.2 i).2 with
      | ok t => rw [hq] at hx; exact absurd rfl hx
      | error e => exact qN_stop hq _ hi
    · obtain rfl : i = n1 := by omega
      rfl
  by_cases hx : (if (i : Int) < (n1 : Int) then rdE (qN (qVec b) c1.2 i).2 == 0 else false) = true
  · clear hfin
    rw [if_pos hx]
    have hlt : i < n1 := by
      rcases Nat.lt_or_ge i n1 with h | h
      · exact h
      · rw [if_neg (by omega)] at hx; cases hx
    rw [if_pos (by omega)] at hx
    obtain ⟨t, ht⟩ := rdE_ok hx
    have hst := qN_go ht
    have hl2 : (qN (qVec b) c1.2 (i + 1)).1.length = i + 1 := by rw [hst, List.length_append, hl]; rfl
    refine CallGi_flat (s_r45_readVec b (qN (qVec b) c1.2 i).2 hb hB) rfl ?_
    simp only [qInts_len, Int.cast_ofNat_Int, Int.reduceLT, Int.reduceLE, Int.le_refl, Int.toNat_natCast, e0, go_sem]
    refine ⟨⟨hl.symm, hl.symm, by rw [hl]; omega, by rw [hl]; simp only [maxLen]; omega⟩, ?_⟩
    refine loop_next ⟨i + 1, by omega, hl2⟩ (by show n1 - (i + 1) < n1 - i; omega) (weakE_ [] [] ?_)
    simp only [hst, hl, Fixture.zero, qInts_len, Int.cast_ofNat_Int, Int.reduceLT, Int.reduceLE, Int.le_refl, Int.toNat_natCast, go_sem]
    refine ⟨(by rw [IntKind.wrap_i64]; omega), ?_⟩
    (repeat' (with_reducible apply And.intro)) <;> first | rfl | exact avle_refl _ | exact q_app1 (qVec b (qN (qVec b) c1.2 i).2).1 rfl rfl | exact q_same rfl
  rw [if_neg hx]
  have h1 := hfin hx
  clear hx hfin
  generalize (qN (qVec b) c1.2 i) = y1 at *
  refine CallGi_flat (s_r45_readInts b y1.2 3 (by decide) hb hB) rfl ?_
  have e2 := qInts_len b y1.2 3
  generalize h2 : qInts b y1.2 3 = y2 at *
  simp only [qInts_len, Int.cast_ofNat_Int, Int.reduceLT, Int.reduceLE, Int.le_refl, Int.toNat_natCast, e0, e2, go_sem]
  refine CallGi_flat (s_r45_readBool b y2.2 hb hB) rfl ?_
  generalize h3 : qBool b y2.2 = y3 at *
  simp only [qInts_len, Int.cast_ofNat_Int, Int.reduceLT, Int.reduceLE, Int.le_refl, Int.toNat_natCast, e0, e2, go_sem]
  refine CallGi_flat (s_r45_readInts b y3.2 3 (by decide) hb hB) rfl ?_
  have e4 := qInts_len b y3.2 3
  generalize h4 : qInts b y3.2 3 = y4 at *
  simp only [qInts_len, Int.cast_ofNat_Int, Int.reduceLT, Int.reduceLE, Int.le_refl, Int.toNat_natCast, e0, e2, e4, go_sem]
  simp only [qFixture, h0, h1, h2, h3, h4, qInts_len, Int.cast_ofNat_Int, Int.reduceLT, Int.reduceLE, Int.le_refl, Int.toNat_natCast, go_sem]
  first | done | exact ⟨hl.symm, by rw [hl]; exact avle_refl _⟩ | exact ⟨⟨hl.symm, by rw [hl]; exact avle_refl _⟩, avle_refl _, rfl, rfl⟩ | exact avle_refl _ | trace_state
theorem s_r45_readContact (b : List Int) (s : RS) (hb : b.length ≤ 549755813888) (hB : bytes b) : CallsA Tryz.prog F_r45_readContact [.agg (rdr b s)] [] (.tup [.agg (qContact b s).1.enc, .agg (rdr b (qContact b s).2)]) [] := by
  refine enRT 79 [(2, some (some 7)), (3, some (some 3))] hm shOk Tryz.func76 rfl ?_
  simp only [go_sem]
  refine CallGi_flat (s_r45_readKey b s hb hB) rfl ?_
  generalize h0 : qKey b s = y0 at *
  simp only [qInts_len, Int.cast_ofNat_Int, Int.reduceLT, Int.reduceLE, Int.le_refl, Int.toNat_natCast, go_sem]
  refine CallGi_flat (s_r45_readVec b y0.2 hb hB) rfl ?_
  generalize h1 : qVec b y0.2 = y1 at *
  simp only [qInts_len, Int.cast_ofNat_Int, Int.reduceLT, Int.reduceLE, Int.le_refl, Int.toNat_natCast, go_sem]
  refine CallGi_flat (s_r45_readCount b y1.2 hb hB) rfl ?_
  have r2 := qCount_range b y1.2
  generalize g2 : qCount b y1.2 = c2 at *
  simp only [qInts_len, Int.cast_ofNat_Int, Int.reduceLT, Int.reduceLE, Int.le_refl, Int.toNat_natCast, go_sem]
  obtain ⟨n2, hn2⟩ := Int.eq_ofNat_of_zero_le r2.1
  rw [hn2]
  refine Wpi_loop hm (ι := {i : Nat // i ≤ n2 ∧ (qN (qContactPoint b) c2.2 i).1.length = i}) (fun i => [(2, .share, .ptr 48 0 0 1), (3, .share, .ptr 64 0 0 1), (4, .share, .ptr 80 0 0 1), (9, .share, .sc (.int .i64 n2)), (10, .share, .ptr 176 0 0 1), (11, .share, .sc (.int .i64 i.1))])
    (fun i => [(48, .box Contact.zero), (64, .box [.sc (.slice none 0 0), .sc (.int .i64 0), .sc (.int .i64 0)]), (80, .box [.sc (.int .i64 y0.1.BodyA), .sc (.int .i64 y0.1.FixtureA), .sc (.int .i64 y0.1.BodyB), .sc (.int .i64 y0.1.FixtureB), .sc (.int .i64 y1.1.X), .sc (.int .i64 y1.1.Y), .sl 1 0 i.1 i.1]), (176, .box (rdr b (qN (qContactPoint b) c2.2 i.1).2)), (1, .arr 6 (encQ ContactPoint.enc default (qN (qContactPoint b) c2.2 i.1).1))]) (fun i => n2 - i.1) ⟨0, by omega, rfl⟩ ?_ ?_
  · refine weakE_ [] [1] ?_
    simp only [qN, List.length_nil, Contact.zero, go_sem]
    try simp only [and_self]
    first | done | trivial | exact ⟨avle_refl _, trivial⟩ | (repeat' (with_reducible apply And.intro)) <;> first | rfl | exact avle_refl _ | exact q_same rfl | trivial
  rintro ⟨i, hi, hl⟩
  have hl : (qN (qContactPoint b) c2.2 i).1.length = i := hl
  simp only [qInts_len, Int.cast_ofNat_Int, Int.reduceLT, Int.reduceLE, Int.le_refl, Int.toNat_natCast, go_sem]
  have hfin : ¬ ((if (i : Int) < (n2 : Int) then rdE (qN (qContactPoint b) c2.2 i).2 == 0 else false) = true) → qSl (qContactPoint b) b y1.2 = (qN (qContactPoint b) c2.2 i) := fun hx => by
    unfold qSl
    rw [g2, hn2, Int.toNat_natCast]
    by_cases hlt : (i : Int) < (n2 : Int)
    · rw [if_pos hlt] at hx
      cases hq : (qN (qContactPoint b) c2.2 i).2 with
      | ok t => rw [hq] at hx; exact absurd rfl hx
      | error e => exact qN_stop hq _ hi
    · obtain rfl : i = n2 := by omega
      rfl
  by_cases hx : (if (i : Int) < (n2 : Int) then rdE (qN (qContactPoint b) c2.2 i).2 == 0 else false) = true
  · clear hfin
    rw [if_pos hx]
    have hlt : i < n2 := by
      rcases Nat.lt_or_ge i n2 with h | h
      · exact h
      · rw [if_neg (by omega)] at hx; cases hx
    rw [if_pos (by omega)] at hx
    obtain ⟨t, ht⟩ := rdE_ok hx
    have hst := qN_go ht
    have hl2 : (qN (qContactPoint b) c2.2 (i + 1)).1.length = i + 1 := by rw [hst, List.length_append, hl]; rfl
    refine CallGi_flat (s_r45_readInts b (qN (qContactPoint b) c2.2 i).2 6 (by decide) hb hB) rfl ?_
    simp only [qInts_len, Int.cast_ofNat_Int, Int.reduceLT, Int.reduceLE, Int.le_refl, Int.toNat_natCast, go_sem]
    refine ⟨⟨hl.symm, hl.symm, by rw [hl]; omega, by rw [hl]; simp only [maxLen]; omega⟩, ?_⟩
    refine loop_next ⟨i + 1, by omega, hl2⟩ (by show n2 - (i + 1) < n2 - i; omega) (weakE_ [] [] ?_)
    simp only [hst, hl, Contact.zero, qInts_len, Int.cast_ofNat_Int, Int.reduceLT, Int.reduceLE, Int.le_refl, Int.toNat_natCast, qContactPoint, go_sem]
    refine ⟨(by rw [IntKind.wrap_i64]; omega), ?_⟩
    (repeat' (with_reducible apply And.intro)) <;> first | rfl | exact avle_refl _ | exact q_app1 (qContactPoint b (qN (qContactPoint b) c2.2 i).2).1 rfl rfl | exact q_same rfl
  rw [if_neg hx]
  have h2 := hfin hx
  clear hx hfin
  generalize (qN (qContactPoint b) c2.2 i) = y2 at *
  simp only [qContact, h0, h1, h2, qInts_len, Int.cast_ofNat_Int, Int.reduceLT, Int.reduceLE, Int.le_refl, Int.toNat_natCast, go_sem]
  first | done | exact ⟨hl.symm, by rw [hl]; exact avle_refl _⟩ | exact ⟨⟨hl.symm, by rw [hl]; exact avle_refl _⟩, avle_refl _, rfl, rfl⟩ | exact avle_refl _ | trace_state
theorem s_r45_readBody (b : List Int) (s : RS) (hb : b.length ≤ 549755813888) (hB : bytes b) : CallsA Tryz.prog F_r45_readBody [.agg (rdr b s)] [] (.tup [.agg (qBody b s).1.enc, .agg (rdr b (qBody b s).2)]) [] := by
  refine enRT 154 [(2, some (some 20)), (3, some (some 3))] hm shOk Tryz.func74 rfl ?_
  simp only [go_sem]
  refine CallGi_flat (s_r45_readInts b s 8 (by decide) hb hB) rfl ?_
  have e0 := qInts_len b s 8
  generalize h0 : qInts b s 8 = y0 at *
  simp only [qInts_len, Int.cast_ofNat_Int, Int.reduceLT, Int.reduceLE, Int.le_refl, Int.toNat_natCast, e0, go_sem]
  refine CallGi_flat (s_r45_readInts b y0.2 6 (by decide) hb hB) rfl ?_
  have e1 := qInts_len b y0.2 6
  generalize h1 : qInts b y0.2 6 = y1 at *
  simp only [qInts_len, Int.cast_ofNat_Int, Int.reduceLT, Int.reduceLE, Int.le_refl, Int.toNat_natCast, e0, e1, go_sem]
  refine CallGi_flat (s_r45_readBool b y1.2 hb hB) rfl ?_
  generalize h2 : qBool b y1.2 = y2 at *
  simp only [qInts_len, Int.cast_ofNat_Int, Int.reduceLT, Int.reduceLE, Int.le_refl, Int.toNat_natCast, e0, e1, go_sem]
  refine CallGi_flat (s_r45_readBool b y2.2 hb hB) rfl ?_
  generalize h3 : qBool b y2.2 = y3 at *
  simp only [qInts_len, Int.cast_ofNat_Int, Int.reduceLT, Int.reduceLE, Int.le_refl, Int.toNat_natCast, e0, e1, go_sem]
  refine CallGi_flat (s_r45_readBool b y3.2 hb hB) rfl ?_
  generalize h4 : qBool b y3.2 = y4 at *
  simp only [qInts_len, Int.cast_ofNat_Int, Int.reduceLT, Int.reduceLE, Int.le_refl, Int.toNat_natCast, e0, e1, go_sem]
  refine CallGi_flat (s_r45_readBool b y4.2 hb hB) rfl ?_
  generalize h5 : qBool b y4.2 = y5 at *
  simp only [qInts_len, Int.cast_ofNat_Int, Int.reduceLT, Int.reduceLE, Int.le_refl, Int.toNat_natCast, e0, e1, go_sem]
  refine CallGi_flat (s_r45_readInt b y5.2 hb hB) rfl ?_
  generalize h6 : qInt b y5.2 = y6 at *
  simp only [qInts_len, Int.cast_ofNat_Int, Int.reduceLT, Int.reduceLE, Int.le_refl, Int.toNat_natCast, e0, e1, go_sem]
  refine CallGi_flat (s_r45_readCount b y6.2 hb hB) rfl ?_
  have r7 := qCount_range b y6.2
  generalize g7 : qCount b y6.2 = c7 at *
  simp only [qInts_len, Int.cast_ofNat_Int, Int.reduceLT, Int.reduceLE, Int.le_refl, Int.toNat_natCast, e0, e1, go_sem]
  obtain ⟨n7, hn7⟩ := Int.eq_ofNat_of_zero_le r7.1
  rw [hn7]
  refine Wpi_loop hm (ι := {i : Nat // i ≤ n7 ∧ (qN (qFixture b) c7.2 i).1.length = i}) (fun i => [(2, .share, .ptr 48 0 0 1), (3, .share, .ptr 64 0 0 1), (4, .share, .ptr 80 0 0 1), (19, .share, .sc (.int .i64 n7)), (20, .share, .ptr 336 0 0 1), (21, .share, .sc (.int .i64 i.1))])
    (fun i => [(48, .box Body.zero), (64, .box [.sc (.slice none 0 0), .sc (.int .i64 0), .sc (.int .i64 0)]), (80, .box [.sc (.int .i64 (y0.1.getD 0 0)), .sc (.int .i64 (y0.1.getD 1 0)), .sc (.int .i64 (y0.1.getD 2 0)), .sc (.int .i64 (y0.1.getD 3 0)), .sc (.int .i64 (y0.1.getD 4 0)), .sc (.int .i64 (y0.1.getD 5 0)), .sc (.int .i64 (y0.1.getD 6 0)), .sc (.int .i64 (y0.1.getD 7 0)), .sc (.int .i64 (y1.1.getD 0 0)), .sc (.int .i64 (y1.1.getD 1 0)), .sc (.int .i64 (y1.1.getD 2 0)), .sc (.int .i64 (y1.1.getD 3 0)), .sc (.int .i64 (y1.1.getD 4 0)), .sc (.int .i64 (y1.1.getD 5 0)), .sc (.bool y2.1), .sc (.bool y3.1), .sc (.bool y4.1), .sc (.bool y5.1), .sc (.int .i64 y6.1), .sl 1 0 i.1 i.1]), (336, .box (rdr b (qN (qFixture b) c7.2 i.1).2)), (1, .arr 10 (encQ Fixture.enc default (qN (qFixture b) c7.2 i.1).1))]) (fun i => n7 - i.1) ⟨0, by omega, rfl⟩ ?_ ?_
  · refine weakE_ [] [1] ?_
    simp only [qN, List.length_nil, Body.zero, e0, e1, go_sem]
    try simp only [and_self]
    first | done | trivial | exact ⟨avle_refl _, trivial⟩ | (repeat' (with_reducible apply And.intro)) <;> first | rfl | exact avle_refl _ | exact q_same rfl | trivial
  rintro ⟨i, hi, hl⟩
  have hl : (qN (qFixture b) c7.2 i).1.length = i := hl
  simp only [qInts_len, Int.cast_ofNat_Int, Int.reduceLT, Int.reduceLE, Int.le_refl, Int.toNat_natCast, go_sem]
  have hfin : ¬ ((if (i : Int) < (n7 : Int) then rdE (qN (qFixture b) c7.2 i).2 == 0 else false) = true) → qSl (qFixture b) b y6.2 = (qN (qFixture b) c7.2 i) := fun hx => by
    unfold qSl
    rw [g7, hn7, Int.toNat_natCast]
    by_cases hlt : (i : Int) < (n7 : Int)
    · rw [if_pos hlt] at hx
      cases hq : (qN (qFixture b) c7.2 i).2 with
      | ok t => rw [hq] at hx; exact absurd rfl hx
      | error e => exact qN_stop hq _ hi
    · obtain rfl : i = n7 := by omega
      rfl
  by_cases hx : (if (i : Int) < (n7 : Int) then rdE (qN (qFixture b) c7.2 i).2 == 0 else false) = true
  · clear hfin
    rw [if_pos hx]
    have hlt : i < n7 := by
      rcases Nat.lt_or_ge i n7 with h | h
      · exact h
      · rw [if_neg (by omega)] at hx; cases hx
    rw [if_pos (by omega)] at hx
    obtain ⟨t, ht⟩ := rdE_ok hx
    have hst := qN_go ht
    have hl2 : (qN (qFixture b) c7.2 (i + 1)).1.length = i + 1 := by rw [hst, List.length_append, hl]; rfl
    refine CallGi_flat (s_r45_readFixture b (qN (qFixture b) c7.2 i).2 hb hB) rfl ?_
    simp only [qInts_len, Int.cast_ofNat_Int, Int.reduceLT, Int.reduceLE, Int.le_refl, Int.toNat_natCast, e0, e1, go_sem]
    refine ⟨⟨hl.symm, hl.symm, by rw [hl]; omega, by rw [hl]; simp only [maxLen]; omega⟩, ?_⟩
    refine loop_next ⟨i + 1, by omega, hl2⟩ (by show n7 - (i + 1) < n7 - i; omega) (weakE_ [] [] ?_)
    simp only [hst, hl, Body.zero, qInts_len, Int.cast_ofNat_Int, Int.reduceLT, Int.reduceLE, Int.le_refl, Int.toNat_natCast, go_sem]
    refine ⟨(by rw [IntKind.wrap_i64]; omega), ?_⟩
    (repeat' (with_reducible apply And.intro)) <;> first | rfl | exact avle_refl _ | exact q_app1 (qFixture b (qN (qFixture b) c7.2 i).2).1 rfl rfl | exact q_same rfl
  rw [if_neg hx]
  have h7 := hfin hx
  clear hx hfin
  generalize (qN (qFixture b) c7.2 i) = y7 at *
  simp only [qBody, h0, h1, h2, h3, h4, h5, h6, h7, qInts_len, Int.cast_ofNat_Int, Int.reduceLT, Int.reduceLE, Int.le_refl, Int.toNat_natCast, go_sem]
  first | done | exact ⟨hl.symm, by rw [hl]; exact avle_refl _⟩ | exact ⟨⟨hl.symm, by rw [hl]; exact avle_refl _⟩, avle_refl _, rfl, rfl⟩ | exact avle_refl _ | trace_state
theorem s_r45_readJoint (b : List Int) (s : RS) (hb : b.length ≤ 549755813888) (hB : bytes b) : CallsA Tryz.prog F_r45_readJoint [.agg (rdr b s)] [] (.tup [.agg (qJoint b s).1.enc, .agg (rdr b (qJoint b s).2)]) [] := by
  refine enRT 144 [(2, some (some 24)), (3, some (some 3))] hm shOk Tryz.func75 rfl ?_
  simp only [go_sem]
  refine CallGi_flat (s_r45_readInts b s 11 (by decide) hb hB) rfl ?_
  have e0 := qInts_len b s 11
  generalize h0 : qInts b s 11 = y0 at *
  simp only [qInts_len, Int.cast_ofNat_Int, Int.reduceLT, Int.reduceLE, Int.le_refl, Int.toNat_natCast, e0, go_sem]
  refine CallGi_flat (s_r45_readBool b y0.2 hb hB) rfl ?_
  generalize h1 : qBool b y0.2 = y1 at *
  simp only [qInts_len, Int.cast_ofNat_Int, Int.reduceLT, Int.reduceLE, Int.le_refl, Int.toNat_natCast, e0, go_sem]
  refine CallGi_flat (s_r45_readInts b y1.2 2 (by decide) hb hB) rfl ?_
  have e2 := qInts_len b y1.2 2
  generalize h2 : qInts b y1.2 2 = y2 at *
  simp only [qInts_len, Int.cast_ofNat_Int, Int.reduceLT, Int.reduceLE, Int.le_refl, Int.toNat_natCast, e0, e2, go_sem]
  refine CallGi_flat (s_r45_readBool b y2.2 hb hB) rfl ?_
  generalize h3 : qBool b y2.2 = y3 at *
  simp only [qInts_len, Int.cast_ofNat_Int, Int.reduceLT, Int.reduceLE, Int.le_refl, Int.toNat_natCast, e0, e2, go_sem]
  refine CallGi_flat (s_r45_readInts b y3.2 4 (by decide) hb hB) rfl ?_
  have e4 := qInts_len b y3.2 4
  generalize h4 : qInts b y3.2 4 = y4 at *
  simp only [qInts_len, Int.cast_ofNat_Int, Int.reduceLT, Int.reduceLE, Int.le_refl, Int.toNat_natCast, e0, e2, e4, go_sem]
  refine CallGi_flat (s_r45_readBool b y4.2 hb hB) rfl ?_
  generalize h5 : qBool b y4.2 = y5 at *
  simp only [qInts_len, Int.cast_ofNat_Int, Int.reduceLT, Int.reduceLE, Int.le_refl, Int.toNat_natCast, e0, e2, e4, go_sem]
  refine CallGi_flat (s_r45_readInts b y5.2 4 (by decide) hb hB) rfl ?_
  have e6 := qInts_len b y5.2 4
  generalize h6 : qInts b y5.2 4 = y6 at *
  simp only [qInts_len, Int.cast_ofNat_Int, Int.reduceLT, Int.reduceLE, Int.le_refl, Int.toNat_natCast, e0, e2, e4, e6, go_sem]
  simp only [qJoint, h0, h1, h2, h3, h4, h5, h6, qInts_len, Int.cast_ofNat_Int, Int.reduceLT, Int.reduceLE, Int.le_refl, Int.toNat_natCast, go_sem]
  first | done | exact ⟨hl.symm, by rw [hl]; exact avle_refl _⟩ | exact ⟨⟨hl.symm, by rw [hl]; exact avle_refl _⟩, avle_refl _, rfl, rfl⟩ | exact avle_refl _ | trace_state
end Go.Abs
end
section
namespace Go.Abs
open Go.Proofs
open Api
def fewP (c : Contact) : Bool := decide (c.Manifold.Points.length ≤ 6)
def few (l : List Contact) : Bool := l.all fewP && decide (l.length ≤ 40)
theorem s_r27_FewPoints (l : List Contact) (hl : l.length ≤ 1048576) : CallsA Tryz.prog F_r27_FewPoints [encD 7 Contact.enc default l] [] (.sc (.bool (few l))) [] := by
  refine en1 hm shOk Tryz.func15 rfl rfl ?_
  simp only [go_sem]
  refine Wpi_loop hm (ι := {i : Nat // i ≤ l.length ∧ (l.take i).all fewP = true}) (fun i => [(0, .share, encD 7 Contact.enc default l), (3, .share, .sc (.int .i64 i.1))])
    (fun i => []) (fun i => l.length - i.1) ⟨0, by omega, rfl⟩ ?_ ?_
  · refine weakE_of [] [] (by simp) (by simp [assoc]) (by simp) ?_
    simp only [go_sem]
  · rintro ⟨i, hi, ht⟩
    simp only [go_sem]
    split
    · rename_i hlt
      have hlt : i < l.length := by omega
      refine ⟨ok_, ?_⟩
      by_cases he : (l.getD i default).Manifold.Points.length ≤ 6
      · rw [if_neg (by omega)]
        refine loop_next ⟨i + 1, by omega, l_all_succ default ht hlt (decide_eq_true he)⟩ (by show l.length - (i + 1) < l.length - i; omega) (weakE_of [] [] (by simp) (by simp [assoc]) (by simp) ?_)
        simp only [go_sem]
        exact (by rw [IntKind.wrap_i64]; omega)
      · rw [if_pos (by omega)]
        unfold few
        rw [l_all_false default hlt (decide_eq_false he)]; rfl
    · rename_i hge
      have hil : i = l.length := by omega
      subst hil
      unfold few
      rw [l_all_end ht, Bool.true_and]
      exact decide_eq_decide.2 (by omega)
def smallF (f : Fixture) : Bool := decide (f.Shape.Vertices.length ≤ 10)
def smallB (b : Body) : Bool := decide (b.Fixtures.length ≤ 4) && b.Fixtures.all smallF
def isSmall (w : Api.World) : Bool := decide (w.Bodies.length ≤ 8) && decide (w.Joints.length ≤ 8) && decide (w.Contacts.length ≤ 20) && decide (w.Overlaps.length ≤ 20) && decide (w.Settings.Iterations ≤ 16) && (w.Bodies.all smallB && few w.Contacts)
theorem isSmall_sm {w : Api.World} (h : isSmall w = true) : Wsm w := by
  simp only [isSmall, few, Bool.and_eq_true, decide_eq_true_eq] at h
  obtain ⟨⟨⟨⟨⟨h1, h2⟩, h3⟩, h4⟩, _⟩, h5, h6, _⟩ := h
  refine ⟨by omega, by omega, by omega, by omega, fun b hb => ?_, fun c hc => ?_⟩
  · have := List.all_eq_true.1 h5 b hb
    simp only [smallB, Bool.and_eq_true, decide_eq_true_eq] at this
    refine ⟨by omega, fun f hf => ?_⟩
    have := List.all_eq_true.1 this.2 f hf
    simp only [smallF, decide_eq_true_eq] at this
    unfold Fixture.sm Shape.sm; omega
  · have := List.all_eq_true.1 h6 c hc
    simp only [fewP, decide_eq_true_eq] at this
    unfold Manifold.sm; omega
theorem s_r27_IsSmall (w : Api.World) : CallsA Tryz.prog F_r27_IsSmall [.agg w.enc] [] (.sc (.bool (isSmall w))) [] := by
  refine en1 hm shOk Tryz.func6 rfl rfl ?_
  simp only [go_sem]
  by_cases hc : w.Bodies.length ≤ 8 ∧ w.Joints.length ≤ 8 ∧ w.Contacts.length ≤ 20 ∧ w.Overlaps.length ≤ 20 ∧ w.Settings.Iterations ≤ 16
  · obtain ⟨c1, c2, c3, c4, c5⟩ := hc
    have hsm : isSmall w = (w.Bodies.all smallB && few w.Contacts) := by simp [isSmall, c1, c2, c3, c4, c5]
    rw [hsm]
    rw [if_neg (by simp; omega)]
    refine Wpi_loop hm (ι := {i : Nat // i ≤ w.Bodies.length ∧ (w.Bodies.take i).all smallB = true}) (fun i => [(1, .share, .ptr 32 0 0 1), (3, .share, .sc (.int .i64 i.1))])
      (fun i => [(32, .box w.enc)]) (fun i => w.Bodies.length - i.1) ⟨0, by omega, rfl⟩ ?_ ?_
    · refine weakE_of [] [] (by simp) (by simp [assoc]) (by simp) ?_
      simp only [go_sem]
    · rintro ⟨i, hi, ht⟩
      simp only [go_sem]
      split
      · rename_i hlt
        have hlt : i < w.Bodies.length := by omega
        refine ⟨ok_, ?_⟩
        by_cases he : (w.Bodies.getD i default).Fixtures.length ≤ 4
        · rw [if_neg (by omega)]
          refine Wpi_loop hm (ι := {k : Nat // k ≤ (w.Bodies.getD i default).Fixtures.length ∧ ((w.Bodies.getD i default).Fixtures.take k).all smallF = true}) (fun k => [(1, .share, .ptr 32 0 0 1), (3, .share, .sc (.int .i64 i)), (4, .share, .sc (.int .i64 k.1))])
            (fun i => [(32, .box w.enc)]) (fun k => (w.Bodies.getD i default).Fixtures.length - k.1) ⟨0, by omega, rfl⟩ ?_ ?_
          · refine weakE_of [] [] (by simp) (by simp [assoc]) (by simp) ?_
            simp only [go_sem]
          · rintro ⟨k, hk, hkt⟩
            simp only [go_sem]
            refine ⟨ok_, ?_⟩
            split
            · rename_i hklt
              have hklt : k < (w.Bodies.getD i default).Fixtures.length := by omega
              refine ⟨ok_, ok_, ?_⟩
              by_cases hf : ((w.Bodies.getD i default).Fixtures.getD k default).Shape.Vertices.length ≤ 10
              · rw [if_neg (by omega)]
                refine loop_next ⟨k + 1, by omega, l_all_succ default hkt hklt (decide_eq_true hf)⟩ (by show (w.Bodies.getD i default).Fixtures.length - (k + 1) < (w.Bodies.getD i default).Fixtures.length - k; omega) (weakE_of [] [] (by simp) (by simp [assoc]) (by simp) ?_)
                simp only [go_sem]
                exact (by rw [IntKind.wrap_i64]; omega)
              · rw [if_pos (by omega)]
                have : smallB (w.Bodies.getD i default) = false := by unfold smallB; rw [l_all_false default hklt (decide_eq_false hf)]; simp
                rw [l_all_false default hlt this]; rfl
            · rename_i hge
              have hil : k = (w.Bodies.getD i default).Fixtures.length := by omega
              subst hil
              have hb : smallB (w.Bodies.getD i default) = true := by unfold smallB; rw [l_all_end hkt, decide_eq_true he]; rfl
              refine loop_next ⟨i + 1, by omega, l_all_succ default ht hlt hb⟩ (by show w.Bodies.length - (i + 1) < w.Bodies.length - i; omega) (weakE_of [] [] (by simp) (by simp [assoc]) (by simp) ?_)
              simp only [go_sem]
              exact (by rw [IntKind.wrap_i64]; omega)
        · rw [if_pos (by omega)]
          have : smallB (w.Bodies.getD i default) = false := by unfold smallB; rw [decide_eq_false he]; rfl
          rw [l_all_false default hlt this]; rfl
      · rename_i hge
        have hil : i = w.Bodies.length := by omega
        subst hil
        rw [l_all_end ht, Bool.true_and]
        refine CallGi_flat (s_r27_FewPoints w.Contacts (by omega)) rfl ?_
        simp only [go_sem]
  · have hsm : isSmall w = false := by
      rw [← Bool.not_eq_true]; intro h; apply hc
      simp only [isSmall, Bool.and_eq_true, decide_eq_true_eq] at h
      omega
    rw [hsm]
    rw [if_pos (by simp; omega)]
end Go.Abs
end
section
namespace Go.Abs
open Go.Proofs
open Api
def u8s (l : List Int) : List UInt8 := l.map fun k => UInt8.ofNat k.toNat
theorem strB_list {n : Nat} {g : Nat → List AV} {l : List Int} (hn : n = l.length) (hg : ∀ i, i < n → g i = encU8 (l.getD i 0)) : (strB ⟨n, g⟩).toList = u8s l := by
  rw [ByteArray.toList_eq]
  show (((List.range n).map fun i => byteOf (g i)).toArray).toList = _
  subst hn
  refine List.ext_getElem (by simp [u8s]) fun i h1 h2 => ?_
  have hi : i < l.length := by simpa [u8s] using h2
  simp only [List.toList_toArray, List.getElem_map, List.getElem_range, u8s]
  rw [hg i hi]
  have : l.getD i 0 = l[i] := by simp [List.getD, hi]
  rw [this]; rfl
theorem u8s_inj : ∀ {l m : List Int}, bytes l → bytes m → u8s l = u8s m → l = m
  | [], [], _, _, _ => rfl
  | [], _ :: _, _, _, h => by simp [u8s] at h
  | _ :: _, [], _, _, h => by simp [u8s] at h
  | a :: l, b :: m, hl, hm', h => by
    simp only [u8s, List.map_cons, List.cons.injEq] at h
    have ha := hl a (List.mem_cons_self ..)
    have hb := hm' b (List.mem_cons_self ..)
    have e : a = b := by
      have := congrArg UInt8.toNat h.1
      simp only [UInt8.toNat_ofNat'] at this
      omega
    rw [e, u8s_inj (fun x hx => hl x (List.mem_cons_of_mem _ hx)) (fun x hx => hm' x (List.mem_cons_of_mem _ hx)) h.2]
theorem u8s_beq {l m : List Int} (hl : bytes l) (hm' : bytes m) : (u8s l == u8s m) = decide (l = m) := by
  rw [Bool.eq_iff_iff, beq_iff_eq, decide_eq_true_eq]
  exact ⟨u8s_inj hl hm', fun h => by rw [h]⟩
theorem crc_bytes (n : Nat) : bytes (crcBytes n) := by
  intro x hx
  simp only [crcBytes, List.mem_cons, List.not_mem_nil, or_false] at hx
  rcases hx with rfl | rfl | rfl | rfl <;> omega
theorem seal_bytes {l : List Int} (h : bytes l) : bytes (sealB l) := by
  intro x hx
  rcases List.mem_append.1 hx with hx | hx
  · exact h x hx
  · exact crc_bytes _ x hx
theorem take_bytes {l : List Int} {n : Nat} (h : bytes l) : bytes (l.take n) := fun x hx => h x (List.mem_of_mem_take hx)
theorem take_getD {l : List Int} {n i : Nat} (h : i < n) : (l.take n).getD i 0 = l.getD i 0 := by
  simp only [List.getD, List.getElem?_take, h, if_true]
def opR (b : List Int) : Except Int (List Int) :=
  if b.length < 4 then .error 4 else if sealB (b.take (b.length - 4)) = b then .ok (b.take (b.length - 4)) else .error 22
def t2l (r : Except Int (List Int)) : List Int × Int := match r with | .ok x => (x, 0) | .error e => ([], e)
theorem s_checksum_Open (b : List Int) (hb : b.length ≤ 900000000) (hB : bytes b) : CallsA Tryz.prog F_checksum_Open [encD 1 encU8 0 b] [] (.tup [encD 1 encU8 0 (t2l (opR b)).1, .sc (.int .i64 (t2l (opR b)).2)]) [] := by
  refine enT hm shOk Tryz.func30 rfl rfl ?_
  simp only [go_sem]
  have w1 : IntKind.i64.wrap ((b.length : Int) - 4) = (b.length : Int) - 4 := by rw [IntKind.wrap_i64]; omega
  rw [w1]
  by_cases h0 : b.length < 4
  · have hr : opR b = .error 4 := by unfold opR; rw [if_pos h0]
    rw [if_pos (by omega), hr]
    simp only [t2l, go_sem]
    exact avle_nilD rfl
  rw [if_neg (by omega)]
  obtain ⟨n, hn⟩ : ∃ n, b.length = n + 4 := ⟨b.length - 4, by omega⟩
  have e1 : (b.length : Int) - 4 = n := by omega
  have e2 : b.length - 4 = n := by omega
  rw [e1]
  have hl : (b.take n).length = n := by rw [List.length_take]; omega
  simp only [Option.toList_some, Option.toList_none, Int.sub_zero, Int.toNat_natCast, go_sem]
  refine ⟨by omega, ?_⟩
  refine CallGi_thaw (s_checksum_Seal (b.take n) (by omega)) ?_
  simp only [argsC, go_sem]
  have hB1 := seal_bytes (take_bytes (n := n) hB)
  have d1 : (strB (encQ encU8 0 (sealB (b.take n)))).toList = u8s (sealB (b.take n)) := strB_list rfl fun _ _ => rfl
  have d2 : (strB (encQ encU8 0 b)).toList = u8s b := strB_list rfl fun _ _ => rfl
  rw [d1, d2, u8s_beq hB1 hB]
  refine ⟨dslv hl.symm (by rw [List.length_take] at hl; exact hl) (fun i hi => by rw [take_getD hi]), fun i _ => ⟨_, rfl⟩, fun i _ => ⟨_, rfl⟩, ?_⟩
  by_cases he : sealB (b.take n) = b
  · have hr : opR b = .ok (b.take n) := by unfold opR; rw [if_neg h0, e2, if_pos he]
    rw [if_neg (by simpa using he), hr]
    refine ⟨by omega, by simp only [maxLen]; omega, dslv (l := b.take n) (by omega) (by show (b.take n).length = _; omega) (fun i hi => by rw [take_getD (by omega)]), rfl⟩
  · have hr : opR b = .error 22 := by unfold opR; rw [if_neg h0, e2, if_neg he]
    rw [if_pos (by simpa using he), hr]
    exact ⟨avle_nilD rfl, rfl⟩
theorem s_r09_EqualBytes (l m : List Int) (hl : bytes l) (hm' : bytes m) (h1 : l.length ≤ 1000000000) (h2 : m.length ≤ 1000000000) : CallsA Tryz.prog F_r09_EqualBytes [encD 1 encU8 0 l, encD 1 encU8 0 m] [] (.sc (.bool (decide (l = m)))) [] := by
  refine en1 hm shOk Tryz.func71 rfl rfl ?_
  simp only [go_sem]
  have d1 : (strB (encQ encU8 0 l)).toList = u8s l := strB_list rfl fun _ _ => rfl
  have d2 : (strB (encQ encU8 0 m)).toList = u8s m := strB_list rfl fun _ _ => rfl
  simp only [d1, d2, u8s_beq hl hm']
  exact ⟨fun i _ => ⟨_, rfl⟩, fun i _ => ⟨_, rfl⟩, trivial⟩
theorem s_r09_Open (b : List Int) (hb : b.length ≤ 900000000) (hB : bytes b) : CallsA Tryz.prog F_r09_Open [encD 1 encU8 0 b] [] (.tup [encD 1 encU8 0 (t2l (opR b)).1, .sc (.int .i64 (t2l (opR b)).2)]) [] := by
  refine enT hm shOk Tryz.func37 rfl rfl ?_
  simp only [go_sem]
  have w1 : IntKind.i64.wrap ((b.length : Int) - 4) = (b.length : Int) - 4 := by rw [IntKind.wrap_i64]; omega
  by_cases h0 : b.length < 4
  · have hr : opR b = .error 4 := by unfold opR; rw [if_pos h0]
    rw [if_pos (by omega), hr]
    simp only [t2l, go_sem]
    exact avle_nilD rfl
  rw [if_neg (by omega)]
  obtain ⟨n, hn⟩ : ∃ n, b.length = n + 4 := ⟨b.length - 4, by omega⟩
  have e1 : (b.length : Int) - 4 = n := by omega
  have e2 : b.length - 4 = n := by omega
  rw [w1, e1]
  have hl : (b.take n).length = n := by rw [List.length_take]; omega
  simp only [Option.toList_some, Option.toList_none, Int.sub_zero, Int.toNat_natCast, go_sem]
  refine ⟨by omega, ?_⟩
  refine CallGi_thaw (s_r09_Seal (b.take n) (by omega)) ?_
  simp only [argsC, go_sem]
  refine ⟨dslv hl.symm (by rw [List.length_take] at hl; exact hl) (fun i hi => by rw [take_getD hi]), ?_⟩
  have hB1 := seal_bytes (take_bytes (n := n) hB)
  have hsl : (sealB (b.take n)).length ≤ 1000000000 := by unfold sealB; rw [List.length_append, hl]; show n + 4 ≤ _; omega
  refine CallGi_flat (s_r09_EqualBytes _ _ hB1 hB hsl (by omega)) rfl ?_
  simp only [go_sem]
  by_cases he : sealB (b.take n) = b
  · have hr : opR b = .ok (b.take n) := by unfold opR; rw [if_neg h0, e2, if_pos he]
    rw [if_neg (by simpa using he), hr]
    simp only [Option.toList_some, Option.toList_none, Int.sub_zero, Int.toNat_natCast, go_sem]
    exact ⟨⟨by omega, by omega, by omega⟩, ⟨by omega, by simp only [maxLen]; omega⟩, dslv (l := b.take n) (by omega) (by show (b.take n).length = _; omega) (fun i hi => by rw [take_getD (by omega)]), rfl⟩
  · have hr : opR b = .error 22 := by unfold opR; rw [if_neg h0, e2, if_neg he]
    rw [if_pos (by simpa using he), hr]
    exact ⟨avle_nilD rfl, rfl⟩
end Go.Abs
end
section
namespace Go.Abs
open Go.Proofs
open Api
theorem s_r45_readWorld (b : List Int) (s : RS) (hb : b.length ≤ 549755813888) (hB : bytes b) : CallsA Tryz.prog F_r45_readWorld [.agg (rdr b s)] [] (.tup [.agg (qWorld b s).1.enc, .agg (rdr b (qWorld b s).2)]) [] := by
  refine enRT 175 [(2, some (some 11)), (3, some (some 3))] hm shOk Tryz.func38 rfl ?_
  simp only [go_sem]
  refine CallGi_flat (s_r45_readInts b s 5 (by decide) hb hB) rfl ?_
  have e0 := qInts_len b s 5
  generalize h0 : qInts b s 5 = y0 at *
  simp only [qInts_len, Int.cast_ofNat_Int, Int.reduceLT, Int.reduceLE, Int.le_refl, Int.toNat_natCast, e0, go_sem]
  refine CallGi_flat (s_r45_readCount b y0.2 hb hB) rfl ?_
  have r1 := qCount_range b y0.2
  generalize g1 : qCount b y0.2 = c1 at *
  simp only [qInts_len, Int.cast_ofNat_Int, Int.reduceLT, Int.reduceLE, Int.le_refl, Int.toNat_natCast, e0, go_sem]
  obtain ⟨n1, hn1⟩ := Int.eq_ofNat_of_zero_le r1.1
  rw [hn1]
  refine Wpi_loop hm (ι := {i : Nat // i ≤ n1 ∧ (qN (qBody b) c1.2 i).1.length = i}) (fun i => [(2, .share, .ptr 48 0 0 1), (3, .share, .ptr 64 0 0 1), (4, .share, .ptr 80 0 0 1), (7, .share, .sc (.int .i64 n1)), (8, .share, .ptr 144 0 0 1), (9, .share, .sc (.int .i64 i.1))])
    (fun i => [(48, .box World.zero), (64, .box [.sc (.slice none 0 0), .sc (.int .i64 0), .sc (.int .i64 0)]), (80, .box [.sc (.int .i64 (y0.1.getD 0 0)), .sc (.int .i64 (y0.1.getD 1 0)), .sc (.int .i64 (y0.1.getD 2 0)), .sc (.int .i64 (y0.1.getD 3 0)), .sc (.int .i64 (y0.1.getD 4 0)), .sl 1 0 i.1 i.1, .sc (.slice none 0 0), .sc (.slice none 0 0), .sc (.slice none 0 0), .sc (.int .i64 0), .sc (.int .i64 0)]), (144, .box (rdr b (qN (qBody b) c1.2 i.1).2)), (1, .arr 20 (encQ Body.enc default (qN (qBody b) c1.2 i.1).1))]) (fun i => n1 - i.1) ⟨0, by omega, rfl⟩ ?_ ?_
  · refine weakE_ [] [1] ?_
    simp only [qN, List.length_nil, World.zero, e0, go_sem]
    try simp only [and_self]
    first | done | trivial | exact ⟨avle_refl _, trivial⟩ | (repeat' (with_reducible apply And.intro)) <;> first | rfl | exact avle_refl _ | exact q_same rfl | trivial
  rintro ⟨i, hi, hl⟩
  have hl : (qN (qBody b) c1.2 i).1.length = i := hl
  simp only [qInts_len, Int.cast_ofNat_Int, Int.reduceLT, Int.reduceLE, Int.le_refl, Int.toNat_natCast, go_sem]
  have hfin : ¬ ((if (i : Int) < (n1 : Int) then rdE (qN (qBody b) c1.2 i).2 == 0 else false) = true) → qSl (qBody b) b y0.2 = (qN (qBody b) c1.2 i) := fun hx => by
    unfold qSl
    rw [g1, hn1, Int.toNat_natCast]
    by_cases hlt : (i : Int) < (n1 : Int)
    · rw [if_pos hlt] at hx
      cases hq : (qN (qBody b) c1.2 i).2 with
      | ok t => rw [hq] at hx; exact absurd rfl hx
      | error e => exact qN_stop hq _ hi
    · obtain rfl : i = n1 := by omega
      rfl
  by_cases hx : (if (i : Int) < (n1 : Int) then rdE (qN (qBody b) c1.2 i).2 == 0 else false) = true
  · clear hfin
    rw [if_pos hx]
    have hlt : i < n1 := by
      rcases Nat.lt_or_ge i n1 with h | h
      · exact h
      · rw [if_neg (by omega)] at hx; cases hx
    rw [if_pos (by omega)] at hx
    obtain ⟨t, ht⟩ := rdE_ok hx
    have hst := qN_go ht
    have hl2 : (qN (qBody b) c1.2 (i + 1)).1.length = i + 1 := by rw [hst, List.length_append, hl]; rfl
    refine CallGi_flat (s_r45_readBody b (qN (qBody b) c1.2 i).2 hb hB) rfl ?_
    simp only [qInts_len, Int.cast_ofNat_Int, Int.reduceLT, Int.reduceLE, Int.le_refl, Int.toNat_natCast, e0, go_sem]
    refine ⟨⟨hl.symm, hl.symm, by rw [hl]; omega, by rw [hl]; simp only [maxLen]; omega⟩, ?_⟩
    refine loop_next ⟨i + 1, by omega, hl2⟩ (by show n1 - (i + 1) < n1 - i; omega) (weakE_ [] [] ?_)
    simp only [hst, hl, World.zero, qInts_len, Int.cast_ofNat_Int, Int.reduceLT, Int.reduceLE, Int.le_refl, Int.toNat_natCast, go_sem]
    (repeat' (with_reducible apply And.intro)) <;> first | rfl | exact (by rw [IntKind.wrap_i64]; omega) | exact avle_refl _ | exact q_app1 (qBody b (qN (qBody b) c1.2 i).2).1 rfl rfl | exact q_same rfl
  rw [if_neg hx]
  have h1 := hfin hx
  clear hx hfin
  generalize (qN (qBody b) c1.2 i) = y1 at *
  subst hl
  refine CallGi_flat (s_r45_readCount b y1.2 hb hB) rfl ?_
  have r2 := qCount_range b y1.2
  generalize g2 : qCount b y1.2 = c2 at *
  simp only [qInts_len, Int.cast_ofNat_Int, Int.reduceLT, Int.reduceLE, Int.le_refl, Int.toNat_natCast, e0, go_sem]
  obtain ⟨n2, hn2⟩ := Int.eq_ofNat_of_zero_le r2.1
  rw [hn2]
  refine Wpi_loop hm (ι := {i : Nat // i ≤ n2 ∧ (qN (qJoint b) c2.2 i).1.length = i}) (fun i => [(2, .share, .ptr 48 0 0 1), (3, .share, .ptr 64 0 0 1), (4, .share, .ptr 80 0 0 1), (12, .share, .sc (.int .i64 n2)), (13, .share, .ptr 224 0 0 1), (14, .share, .sc (.int .i64 i.1))])
    (fun i => [(48, .box World.zero), (64, .box [.sc (.slice none 0 0), .sc (.int .i64 0), .sc (.int .i64 0)]), (80, .box [.sc (.int .i64 (y0.1.getD 0 0)), .sc (.int .i64 (y0.1.getD 1 0)), .sc (.int .i64 (y0.1.getD 2 0)), .sc (.int .i64 (y0.1.getD 3 0)), .sc (.int .i64 (y0.1.getD 4 0)), .sl 1 0 y1.1.length y1.1.length, .sl 2 0 i.1 i.1, .sc (.slice none 0 0), .sc (.slice none 0 0), .sc (.int .i64 0), .sc (.int .i64 0)]), (224, .box (rdr b (qN (qJoint b) c2.2 i.1).2)), (2, .arr 24 (encQ Joint.enc default (qN (qJoint b) c2.2 i.1).1)), (1, .arr 20 (encQ Body.enc default y1.1))]) (fun i => n2 - i.1) ⟨0, by omega, rfl⟩ ?_ ?_
  · refine weakE_ [] [2] ?_
    simp only [qN, List.length_nil, World.zero, e0, go_sem]
    try simp only [and_self]
    first | done | trivial | exact ⟨avle_refl _, trivial⟩ | (repeat' (with_reducible apply And.intro)) <;> first | rfl | exact avle_refl _ | exact q_same rfl | trivial
  rintro ⟨i, hi, hl⟩
  have hl : (qN (qJoint b) c2.2 i).1.length = i := hl
  simp only [qInts_len, Int.cast_ofNat_Int, Int.reduceLT, Int.reduceLE, Int.le_refl, Int.toNat_natCast, go_sem]
  have hfin : ¬ ((if (i : Int) < (n2 : Int) then rdE (qN (qJoint b) c2.2 i).2 == 0 else false) = true) → qSl (qJoint b) b y1.2 = (qN (qJoint b) c2.2 i) := fun hx => by
    unfold qSl
    rw [g2, hn2, Int.toNat_natCast]
    by_cases hlt : (i : Int) < (n2 : Int)
    · rw [if_pos hlt] at hx
      cases hq : (qN (qJoint b) c2.2 i).2 with
      | ok t => rw [hq] at hx; exact absurd rfl hx
      | error e => exact qN_stop hq _ hi
    · obtain rfl : i = n2 := by omega
      rfl
  by_cases hx : (if (i : Int) < (n2 : Int) then rdE (qN (qJoint b) c2.2 i).2 == 0 else false) = true
  · clear hfin
    rw [if_pos hx]
    have hlt : i < n2 := by
      rcases Nat.lt_or_ge i n2 with h | h
      · exact h
      · rw [if_neg (by omega)] at hx; cases hx
    rw [if_pos (by omega)] at hx
    obtain ⟨t, ht⟩ := rdE_ok hx
    have hst := qN_go ht
    have hl2 : (qN (qJoint b) c2.2 (i + 1)).1.length = i + 1 := by rw [hst, List.length_append, hl]; rfl
    refine CallGi_flat (s_r45_readJoint b (qN (qJoint b) c2.2 i).2 hb hB) rfl ?_
    simp only [qInts_len, Int.cast_ofNat_Int, Int.reduceLT, Int.reduceLE, Int.le_refl, Int.toNat_natCast, e0, go_sem]
    refine ⟨⟨hl.symm, hl.symm, by rw [hl]; omega, by rw [hl]; simp only [maxLen]; omega⟩, ?_⟩
    refine loop_next ⟨i + 1, by omega, hl2⟩ (by show n2 - (i + 1) < n2 - i; omega) (weakE_ [] [] ?_)
    simp only [hst, hl, World.zero, qInts_len, Int.cast_ofNat_Int, Int.reduceLT, Int.reduceLE, Int.le_refl, Int.toNat_natCast, go_sem]
    (repeat' (with_reducible apply And.intro)) <;> first | rfl | exact (by rw [IntKind.wrap_i64]; omega) | exact avle_refl _ | exact q_app1 (qJoint b (qN (qJoint b) c2.2 i).2).1 rfl rfl | exact q_same rfl
  rw [if_neg hx]
  have h2 := hfin hx
  clear hx hfin
  generalize (qN (qJoint b) c2.2 i) = y2 at *
  subst hl
  refine CallGi_flat (s_r45_readCount b y2.2 hb hB) rfl ?_
  have r3 := qCount_range b y2.2
  generalize g3 : qCount b y2.2 = c3 at *
  simp only [qInts_len, Int.cast_ofNat_Int, Int.reduceLT, Int.reduceLE, Int.le_refl, Int.toNat_natCast, e0, go_sem]
  obtain ⟨n3, hn3⟩ := Int.eq_ofNat_of_zero_le r3.1
  rw [hn3]
  refine Wpi_loop hm (ι := {i : Nat // i ≤ n3 ∧ (qN (qContact b) c3.2 i).1.length = i}) (fun i => [(2, .share, .ptr 48 0 0 1), (3, .share, .ptr 64 0 0 1), (4, .share, .ptr 80 0 0 1), (17, .share, .sc (.int .i64 n3)), (18, .share, .ptr 304 0 0 1), (19, .share, .sc (.int .i64 i.1))])
    (fun i => [(48, .box World.zero), (64, .box [.sc (.slice none 0 0), .sc (.int .i64 0), .sc (.int .i64 0)]), (80, .box [.sc (.int .i64 (y0.1.getD 0 0)), .sc (.int .i64 (y0.1.getD 1 0)), .sc (.int .i64 (y0.1.getD 2 0)), .sc (.int .i64 (y0.1.getD 3 0)), .sc (.int .i64 (y0.1.getD 4 0)), .sl 1 0 y1.1.length y1.1.length, .sl 2 0 y2.1.length y2.1.length, .sl 3 0 i.1 i.1, .sc (.slice none 0 0), .sc (.int .i64 0), .sc (.int .i64 0)]), (304, .box (rdr b (qN (qContact b) c3.2 i.1).2)), (3, .arr 7 (encQ Contact.enc default (qN (qContact b) c3.2 i.1).1)), (1, .arr 20 (encQ Body.enc default y1.1)), (2, .arr 24 (encQ Joint.enc default y2.1))]) (fun i => n3 - i.1) ⟨0, by omega, rfl⟩ ?_ ?_
  · refine weakE_ [] [3] ?_
    simp only [qN, List.length_nil, World.zero, e0, go_sem]
    try simp only [and_self]
    first | done | trivial | exact ⟨avle_refl _, trivial⟩ | (repeat' (with_reducible apply And.intro)) <;> first | rfl | exact avle_refl _ | exact q_same rfl | trivial
  rintro ⟨i, hi, hl⟩
  have hl : (qN (qContact b) c3.2 i).1.length = i := hl
  simp only [qInts_len, Int.cast_ofNat_Int, Int.reduceLT, Int.reduceLE, Int.le_refl, Int.toNat_natCast, go_sem]
  have hfin : ¬ ((if (i : Int) < (n3 : Int) then rdE (qN (qContact b) c3.2 i).2 == 0 else false) = true) → qSl (qContact b) b y2.2 = (qN (qContact b) c3.2 i) := fun hx => by
    unfold qSl
    rw [g3, hn3, Int.toNat_natCast]
    by_cases hlt : (i : Int) < (n3 : Int)
    · rw [if_pos hlt] at hx
      cases hq : (qN (qContact b) c3.2 i).2 with
      | ok t => rw [hq] at hx; exact absurd rfl hx
      | error e => exact qN_stop hq _ hi
    · obtain rfl : i = n3 := by omega
      rfl
  by_cases hx : (if (i : Int) < (n3 : Int) then rdE (qN (qContact b) c3.2 i).2 == 0 else false) = true
  · clear hfin
    rw [if_pos hx]
    have hlt : i < n3 := by
      rcases Nat.lt_or_ge i n3 with h | h
      · exact h
      · rw [if_neg (by omega)] at hx; cases hx
    rw [if_pos (by omega)] at hx
    obtain ⟨t, ht⟩ := rdE_ok hx
    have hst := qN_go ht
    have hl2 : (qN (qContact b) c3.2 (i + 1)).1.length = i + 1 := by rw [hst, List.length_append, hl]; rfl
    refine CallGi_flat (s_r45_readContact b (qN (qContact b) c3.2 i).2 hb hB) rfl ?_
    simp only [qInts_len, Int.cast_ofNat_Int, Int.reduceLT, Int.reduceLE, Int.le_refl, Int.toNat_natCast, e0, go_sem]
    refine ⟨⟨hl.symm, hl.symm, by rw [hl]; omega, by rw [hl]; simp only [maxLen]; omega⟩, ?_⟩
    refine loop_next ⟨i + 1, by omega, hl2⟩ (by show n3 - (i + 1) < n3 - i; omega) (weakE_ [] [] ?_)
    simp only [hst, hl, World.zero, qInts_len, Int.cast_ofNat_Int, Int.reduceLT, Int.reduceLE, Int.le_refl, Int.toNat_natCast, go_sem]
    (repeat' (with_reducible apply And.intro)) <;> first | rfl | exact (by rw [IntKind.wrap_i64]; omega) | exact avle_refl _ | exact q_app1 (qContact b (qN (qContact b) c3.2 i).2).1 rfl rfl | exact q_same rfl
  rw [if_neg hx]
  have h3 := hfin hx
  clear hx hfin
  generalize (qN (qContact b) c3.2 i) = y3 at *
  subst hl
  refine CallGi_flat (s_r45_readCount b y3.2 hb hB) rfl ?_
  have r4 := qCount_range b y3.2
  generalize g4 : qCount b y3.2 = c4 at *
  simp only [qInts_len, Int.cast_ofNat_Int, Int.reduceLT, Int.reduceLE, Int.le_refl, Int.toNat_natCast, e0, go_sem]
  obtain ⟨n4, hn4⟩ := Int.eq_ofNat_of_zero_le r4.1
  rw [hn4]
  refine Wpi_loop hm (ι := {i : Nat // i ≤ n4 ∧ (qN (qKey b) c4.2 i).1.length = i}) (fun i => [(2, .share, .ptr 48 0 0 1), (3, .share, .ptr 64 0 0 1), (4, .share, .ptr 80 0 0 1), (22, .share, .sc (.int .i64 n4)), (23, .share, .ptr 384 0 0 1), (24, .share, .sc (.int .i64 i.1))])
    (fun i => [(48, .box World.zero), (64, .box [.sc (.slice none 0 0), .sc (.int .i64 0), .sc (.int .i64 0)]), (80, .box [.sc (.int .i64 (y0.1.getD 0 0)), .sc (.int .i64 (y0.1.getD 1 0)), .sc (.int .i64 (y0.1.getD 2 0)), .sc (.int .i64 (y0.1.getD 3 0)), .sc (.int .i64 (y0.1.getD 4 0)), .sl 1 0 y1.1.length y1.1.length, .sl 2 0 y2.1.length y2.1.length, .sl 3 0 y3.1.length y3.1.length, .sl 4 0 i.1 i.1, .sc (.int .i64 0), .sc (.int .i64 0)]), (384, .box (rdr b (qN (qKey b) c4.2 i.1).2)), (4, .arr 4 (encQ PairKey.enc default (qN (qKey b) c4.2 i.1).1)), (1, .arr 20 (encQ Body.enc default y1.1)), (2, .arr 24 (encQ Joint.enc default y2.1)), (3, .arr 7 (encQ Contact.enc default y3.1))]) (fun i => n4 - i.1) ⟨0, by omega, rfl⟩ ?_ ?_
  · refine weakE_ [] [4] ?_
    simp only [qN, List.length_nil, World.zero, e0, go_sem]
    try simp only [and_self]
    first | done | trivial | exact ⟨avle_refl _, trivial⟩ | (repeat' (with_reducible apply And.intro)) <;> first | rfl | exact avle_refl _ | exact q_same rfl | trivial
  rintro ⟨i, hi, hl⟩
  have hl : (qN (qKey b) c4.2 i).1.length = i := hl
  simp only [qInts_len, Int.cast_ofNat_Int, Int.reduceLT, Int.reduceLE, Int.le_refl, Int.toNat_natCast, go_sem]
  have hfin : ¬ ((if (i : Int) < (n4 : Int) then rdE (qN (qKey b) c4.2 i).2 == 0 else false) = true) → qSl (qKey b) b y3.2 = (qN (qKey b) c4.2 i) := fun hx => by
    unfold qSl
    rw [g4, hn4, Int.toNat_natCast]
    by_cases hlt : (i : Int) < (n4 : Int)
    · rw [if_pos hlt] at hx
      cases hq : (qN (qKey b) c4.2 i).2 with
      | ok t => rw [hq] at hx; exact absurd rfl hx
      | error e => exact qN_stop hq _ hi
    · obtain rfl : i = n4 := by omega
      rfl
  by_cases hx : (if (i : Int) < (n4 : Int) then rdE (qN (qKey b) c4.2 i).2 == 0 else false) = true
  · clear hfin
    rw [if_pos hx]
    have hlt : i < n4 := by
      rcases Nat.lt_or_ge i n4 with h | h
      · exact h
      · rw [if_neg (by omega)] at hx; cases hx
    rw [if_pos (by omega)] at hx
    obtain ⟨t, ht⟩ := rdE_ok hx
    have hst := qN_go ht
    have hl2 : (qN (qKey b) c4.2 (i + 1)).1.length = i + 1 := by rw [hst, List.length_append, hl]; rfl
    refine CallGi_flat (s_r45_readKey b (qN (qKey b) c4.2 i).2 hb hB) rfl ?_
    simp only [qInts_len, Int.cast_ofNat_Int, Int.reduceLT, Int.reduceLE, Int.le_refl, Int.toNat_natCast, e0, go_sem]
    refine ⟨⟨hl.symm, hl.symm, by rw [hl]; omega, by rw [hl]; simp only [maxLen]; omega⟩, ?_⟩
    refine loop_next ⟨i + 1, by omega, hl2⟩ (by show n4 - (i + 1) < n4 - i; omega) (weakE_ [] [] ?_)
    simp only [hst, hl, World.zero, qInts_len, Int.cast_ofNat_Int, Int.reduceLT, Int.reduceLE, Int.le_refl, Int.toNat_natCast, go_sem]
    (repeat' (with_reducible apply And.intro)) <;> first | rfl | exact (by rw [IntKind.wrap_i64]; omega) | exact avle_refl _ | exact q_app1 (qKey b (qN (qKey b) c4.2 i).2).1 rfl rfl | exact q_same rfl
  rw [if_neg hx]
  have h4 := hfin hx
  clear hx hfin
  generalize (qN (qKey b) c4.2 i) = y4 at *
  subst hl
  refine CallGi_flat (s_r45_readInts b y4.2 2 (by decide) hb hB) rfl ?_
  have e5 := qInts_len b y4.2 2
  generalize h5 : qInts b y4.2 2 = y5 at *
  simp only [qInts_len, Int.cast_ofNat_Int, Int.reduceLT, Int.reduceLE, Int.le_refl, Int.toNat_natCast, e0, e5, go_sem]
  simp only [qWorld, h0, h1, h2, h3, h4, h5, qInts_len, Int.cast_ofNat_Int, Int.reduceLT, Int.reduceLE, Int.le_refl, Int.toNat_natCast, go_sem]
  first | done | exact ⟨⟨rfl, avle_refl _, rfl, avle_refl _, rfl, avle_refl _, rfl, avle_refl _, rfl, rfl⟩, avle_refl _, rfl, rfl⟩ | exact ⟨hl.symm, by rw [hl]; exact avle_refl _⟩ | exact ⟨⟨hl.symm, by rw [hl]; exact avle_refl _⟩, avle_refl _, rfl, rfl⟩ | exact avle_refl _ | trace_state
end Go.Abs
end
section
namespace Go.Abs
open Go.Proofs
open Api
theorem rN_all {α : Type} {p : Int → Except Int (α × Int)} {Q : α → Prop} (hp : ∀ t x t', p t = .ok (x, t') → Q x) (t : Int) : ∀ n l t', rN p t n = .ok (l, t') → ∀ x ∈ l, Q x
  | 0, l, t', h, x, hx => by cases h; cases hx
  | n + 1, l, t', h, x, hx => by
    simp only [rN] at h
    split at h
    · cases h
    · rename_i y hy
      split at h
      · cases h
      · rename_i z hz
        cases h
        rcases List.mem_append.1 hx with hx | hx
        · exact rN_all hp t n _ _ hy x hx
        · obtain rfl := List.mem_singleton.1 hx
          exact hp _ _ _ hz
theorem rSl_all {α : Type} {p : Int → Except Int (α × Int)} {b : List Int} {Q : α → Prop} (hp : ∀ t x t', p t = .ok (x, t') → Q x) {t t' : Int} {l : List α} (h : rSl p b t = .ok (l, t')) : (∀ x ∈ l, Q x) ∧ l.length ≤ 8192 := by
  unfold rSl at h
  split at h
  · cases h
  · rename_i x hx
    obtain ⟨h1, h2, h3⟩ := rLen_ok hx
    have hl := rN_len h
    simp only at hl
    exact ⟨rN_all hp _ _ _ _ h, by omega⟩
theorem rFixture_sm {b : List Int} {t t' : Int} {x : Fixture} (h : rFixture b t = .ok (x, t')) : Fixture.sm x := by
  unfold rFixture at h
  obtain ⟨x0, t0, h0, h⟩ := RB_ok h
  obtain ⟨x1, t1, h1, h⟩ := RB_ok h
  obtain ⟨x2, t2, h2, h⟩ := RB_ok h
  obtain ⟨x3, t3, h3, h⟩ := RB_ok h
  obtain ⟨x4, t4, h4, h⟩ := RB_ok h
  obtain ⟨x5, t5, h5, h⟩ := RB_ok h
  obtain ⟨x6, t6, h6, h⟩ := RB_ok h
  obtain ⟨x7, t7, h7, h⟩ := RB_ok h
  obtain ⟨x8, t8, h8, h⟩ := RB_ok h
  obtain ⟨x9, t9, h9, h⟩ := RB_ok h
  cases h
  have := (rSl_all (Q := fun _ => True) (fun _ _ _ _ => trivial) h2).2
  show x2.length ≤ 1048576
  omega
theorem rBody_sm {b : List Int} {t t' : Int} {x : Body} (h : rBody b t = .ok (x, t')) : Body.sm x := by
  unfold rBody at h
  obtain ⟨x0, t0, h0, h⟩ := RB_ok h
  obtain ⟨x1, t1, h1, h⟩ := RB_ok h
  obtain ⟨x2, t2, h2, h⟩ := RB_ok h
  obtain ⟨x3, t3, h3, h⟩ := RB_ok h
  obtain ⟨x4, t4, h4, h⟩ := RB_ok h
  obtain ⟨x5, t5, h5, h⟩ := RB_ok h
  obtain ⟨x6, t6, h6, h⟩ := RB_ok h
  obtain ⟨x7, t7, h7, h⟩ := RB_ok h
  obtain ⟨x8, t8, h8, h⟩ := RB_ok h
  obtain ⟨x9, t9, h9, h⟩ := RB_ok h
  obtain ⟨x10, t10, h10, h⟩ := RB_ok h
  obtain ⟨x11, t11, h11, h⟩ := RB_ok h
  obtain ⟨x12, t12, h12, h⟩ := RB_ok h
  obtain ⟨x13, t13, h13, h⟩ := RB_ok h
  obtain ⟨x14, t14, h14, h⟩ := RB_ok h
  obtain ⟨x15, t15, h15, h⟩ := RB_ok h
  obtain ⟨x16, t16, h16, h⟩ := RB_ok h
  cases h
  obtain ⟨k1, k2⟩ := rSl_all (Q := Fixture.sm) (fun _ _ _ h => rFixture_sm h) h16
  exact ⟨by show x16.length ≤ 1048576; omega, k1⟩
theorem rContact_sm {b : List Int} {t t' : Int} {x : Contact} (h : rContact b t = .ok (x, t')) : Manifold.sm x.Manifold := by
  unfold rContact at h
  obtain ⟨x0, t0, h0, h⟩ := RB_ok h
  obtain ⟨x1, t1, h1, h⟩ := RB_ok h
  obtain ⟨x2, t2, h2, h⟩ := RB_ok h
  cases h
  have := (rSl_all (Q := fun _ => True) (fun _ _ _ _ => trivial) h2).2
  show x2.length ≤ 1048576
  omega
theorem bytes_of {b : List Int} (h : ∀ a ∈ b, (Lit.int .u8 a).wf = true) : bytes b := fun a ha => by
  have h := h a ha
  simp only [Lit.wf, IntKind.min, IntKind.max, Bool.and_eq_true, decide_eq_true_eq] at h
  simp [IntKind.bits, IntKind.signed] at h
  omega
end Go.Abs
end
section
namespace Go.Abs
open Go.Proofs
open Api
theorem rWorld_sm {b : List Int} {t t' : Int} {x : Api.World} (h : rWorld b t = .ok (x, t')) : Wsm x := by
  unfold rWorld at h
  obtain ⟨x0, t0, h0, h⟩ := RB_ok h
  obtain ⟨x1, t1, h1, h⟩ := RB_ok h
  obtain ⟨x2, t2, h2, h⟩ := RB_ok h
  obtain ⟨x3, t3, h3, h⟩ := RB_ok h
  obtain ⟨x4, t4, h4, h⟩ := RB_ok h
  obtain ⟨x5, t5, h5, h⟩ := RB_ok h
  obtain ⟨x6, t6, h6, h⟩ := RB_ok h
  obtain ⟨x7, t7, h7, h⟩ := RB_ok h
  obtain ⟨x8, t8, h8, h⟩ := RB_ok h
  obtain ⟨x9, t9, h9, h⟩ := RB_ok h
  cases h
  obtain ⟨k1, k2⟩ := rSl_all (Q := Body.sm) (fun _ _ _ h => rBody_sm h) h4
  obtain ⟨l1, _⟩ := rSl_all (Q := fun _ => True) (fun _ _ _ _ => trivial) h5
  obtain ⟨m1, m2⟩ := rSl_all (Q := fun c => Manifold.sm c.Manifold) (fun _ _ _ h => rContact_sm h) h6
  obtain ⟨n1, _⟩ := rSl_all (Q := fun _ => True) (fun _ _ _ _ => trivial) h7
  exact ⟨by show x4.length ≤ _; omega, by show x5.length ≤ _; omega, by show x6.length ≤ _; omega, by show x7.length ≤ _; omega, k1, m1⟩
def decR (b : List Int) : Api.World × Int := match opR b with
  | .error e => (default, e)
  | .ok c => match rWorld c 0 with
    | .error e => (default, e)
    | .ok x => if x.2 < (c.length : Int) then (default, 3) else if d_world_Validate x.1 = 0 then (x.1, 0) else (default, 18)
theorem opR_ok {b c : List Int} (h : opR b = .ok c) : 4 ≤ b.length ∧ c = b.take (b.length - 4) ∧ sealB c = b := by
  unfold opR at h
  split at h
  · cases h
  · split at h
    · rename_i h1 h2; cases h; exact ⟨by omega, rfl, h2⟩
    · cases h
theorem opR_err {b : List Int} {e : Int} (h : opR b = .error e) : e ≠ 0 := by
  unfold opR at h
  split at h
  · cases h; decide
  · split at h
    · cases h
    · cases h; decide
theorem s_snapshot_Decode (b : List Int) (hb : b.length ≤ 900000000) (hB : bytes b) : CallsA Tryz.prog F_snapshot_Decode [encD 1 encU8 0 b] [] (.tup [.agg (decR b).1.enc, .sc (.int .i64 (decR b).2)]) [] := by
  have h1 := s_checksum_Open b hb hB
  refine enRT 40 [(2, some (some 11)), (3, none)] hm shOk Tryz.func10 rfl ?_
  simp only [go_sem]
  cases ho : opR b with
  | error e =>
    have he := opR_err ho
    have hd : decR b = (default, e) := by unfold decR; rw [ho]
    have hne : (e != 0) = true := by simpa using he
    rw [ho] at h1
    simp only [t2l] at h1
    refine CallGi_flat h1 rfl ?_
    simp only [hd, hne, go_sem]
    first | done | (try simp only [go_sem]) <;> ((repeat' (with_reducible apply And.intro)) <;> first | rfl | exact avle_nilD rfl | exact avle_refl _)
  | ok c =>
    obtain ⟨hc1, hc2, hc3⟩ := opR_ok ho
    have hcl : c.length ≤ 549755813888 := by rw [hc2, List.length_take]; omega
    have hcB : bytes c := by rw [hc2]; exact take_bytes hB
    rw [ho] at h1
    simp only [t2l] at h1
    refine CallGi_flat h1 rfl ?_
    simp only [n00, go_sem]
    have h2 := s_decodeAt_World c 0 F_snapshot_decoder_world (rWorld c) (fun t => s_dec_world c t hcl hcB) (nerr_World c)
    cases hr : rWorld c 0 with
    | error e =>
      have he := nerr_World c _ _ hr
      have hd : decR b = (default, e) := by unfold decR; rw [ho]; simp only [hr]
      have hne : (e != 0) = true := by simpa using he
      rw [hr] at h2
      simp only [t3d] at h2
      refine CallGi_flat h2 rfl ?_
      simp only [hd, hne, go_sem]
      first | done | (try simp only [go_sem]) <;> ((repeat' (with_reducible apply And.intro)) <;> first | rfl | exact avle_nilD rfl | exact avle_refl _)
    | ok x =>
      have hsm := rWorld_sm (t' := x.2) (x := x.1) hr
      rw [hr] at h2
      simp only [t3d] at h2
      refine CallGi_flat h2 rfl ?_
      simp only [n00, go_sem]
      by_cases hlt : x.2 < (c.length : Int)
      · have hd : decR b = (default, 3) := by unfold decR; rw [ho]; simp only [hr, if_pos hlt]
        rw [if_pos hlt]
        simp only [hd, go_sem]
        first | done | (try simp only [go_sem]) <;> ((repeat' (with_reducible apply And.intro)) <;> first | rfl | exact avle_nilD rfl | exact avle_refl _)
      · rw [if_neg hlt]
        skip
        refine CallGi_flat (s_world_Validate x.1 hsm) rfl ?_
        simp only [go_sem]
        by_cases hv : d_world_Validate x.1 = 0
        · have hd : decR b = (x.1, 0) := by unfold decR; rw [ho]; simp only [hr, if_neg hlt, if_pos hv]
          rw [if_neg (by simpa using hv)]
          simp only [hd, go_sem]
          first | done | (try simp only [go_sem]) <;> ((repeat' (with_reducible apply And.intro)) <;> first | rfl | exact avle_nilD rfl | exact avle_refl _)
        · have hd : decR b = (default, 18) := by unfold decR; rw [ho]; simp only [hr, if_neg hlt, if_neg hv]
          rw [if_pos (by simpa using hv)]
          simp only [hd, go_sem]
          first | done | (try simp only [go_sem]) <;> ((repeat' (with_reducible apply And.intro)) <;> first | rfl | exact avle_nilD rfl | exact avle_refl _)
theorem s_r45_Decode (b : List Int) (hb : b.length ≤ 900000000) (hB : bytes b) : CallsA Tryz.prog F_r45_Decode [encD 1 encU8 0 b] [] (.tup [.agg (decR b).1.enc, .sc (.int .i64 (decR b).2)]) [] := by
  have h1 := s_r09_Open b hb hB
  refine enRT 40 [(2, some (some 11)), (3, none)] hm shOk Tryz.func13 rfl ?_
  simp only [go_sem]
  cases ho : opR b with
  | error e =>
    have he := opR_err ho
    have hd : decR b = (default, e) := by unfold decR; rw [ho]
    have hne : (e != 0) = true := by simpa using he
    rw [ho] at h1
    simp only [t2l] at h1
    refine CallGi_flat h1 rfl ?_
    simp only [hd, hne, go_sem]
    first | done | (try simp only [go_sem]) <;> ((repeat' (with_reducible apply And.intro)) <;> first | rfl | exact avle_nilD rfl | exact avle_refl _)
  | ok c =>
    obtain ⟨hc1, hc2, hc3⟩ := opR_ok ho
    have hcl : c.length ≤ 549755813888 := by rw [hc2, List.length_take]; omega
    have hcB : bytes c := by rw [hc2]; exact take_bytes hB
    rw [ho] at h1
    simp only [t2l] at h1
    refine CallGi_flat h1 rfl ?_
    simp only [n00, go_sem]
    have h2 := s_r45_readWorld c (.ok 0) hcl hcB
    simp only [rdr, rdB, rdO, rdE] at h2
    cases hr : rWorld c 0 with
    | error e =>
      have he := nerr_World c _ _ hr
      have hd : decR b = (default, e) := by unfold decR; rw [ho]; simp only [hr]
      have hne : (e != 0) = true := by simpa using he
      have h3 := (agr_World c).2.2 _ _ hr
      rw [h3] at h2
      simp only [rdB, rdO, rdE, nz_of he] at h2
      refine CallGi_flat h2 rfl ?_
      simp only [hd, hne, go_sem]
      first | done | (try simp only [go_sem]) <;> ((repeat' (with_reducible apply And.intro)) <;> first | rfl | exact avle_nilD rfl | exact avle_refl _)
    | ok x =>
      have hsm := rWorld_sm (t' := x.2) (x := x.1) hr
      have h3 := (agr_World c).2.1 _ _ hr
      rw [h3] at h2
      simp only [rdB, rdO, rdE] at h2
      refine CallGi_flat h2 rfl ?_
      simp only [n00, go_sem]
      by_cases hlt : x.2 < (c.length : Int)
      · have hd : decR b = (default, 3) := by unfold decR; rw [ho]; simp only [hr, if_pos hlt]
        rw [if_pos hlt]
        simp only [hd, go_sem]
        first | done | (try simp only [go_sem]) <;> ((repeat' (with_reducible apply And.intro)) <;> first | rfl | exact avle_nilD rfl | exact avle_refl _)
      · rw [if_neg hlt]
        have hve := (validate_eq x.1).symm
        refine CallGi_flat (s_r25_Validate x.1 hsm) rfl ?_
        simp only [hve, go_sem]
        by_cases hv : d_world_Validate x.1 = 0
        · have hd : decR b = (x.1, 0) := by unfold decR; rw [ho]; simp only [hr, if_neg hlt, if_pos hv]
          rw [if_neg (by simpa using hv)]
          simp only [hd, go_sem]
          first | done | (try simp only [go_sem]) <;> ((repeat' (with_reducible apply And.intro)) <;> first | rfl | exact avle_nilD rfl | exact avle_refl _)
        · have hd : decR b = (default, 18) := by unfold decR; rw [ho]; simp only [hr, if_neg hlt, if_neg hv]
          rw [if_pos (by simpa using hv)]
          simp only [hd, go_sem]
          first | done | (try simp only [go_sem]) <;> ((repeat' (with_reducible apply And.intro)) <;> first | rfl | exact avle_nilD rfl | exact avle_refl _)
end Go.Abs
end
section
namespace Go.Abs
open Go.Proofs
open Api
theorem isSmall_few {w : Api.World} (h : isSmall w = true) : Wfew w := by
  simp only [isSmall, few, Bool.and_eq_true, decide_eq_true_eq] at h
  obtain ⟨⟨⟨⟨⟨h1, h2⟩, h3⟩, h4⟩, _⟩, h5, h6, _⟩ := h
  refine ⟨by omega, fun b hb => ?_, by omega, by omega, fun c hc => ?_, by omega⟩
  · have := List.all_eq_true.1 h5 b hb
    simp only [smallB, Bool.and_eq_true, decide_eq_true_eq] at this
    refine ⟨by omega, fun f hf => ?_⟩
    have := List.all_eq_true.1 this.2 f hf
    simp only [smallF, decide_eq_true_eq] at this
    omega
  · have := List.all_eq_true.1 h6 c hc
    simp only [fewP, decide_eq_true_eq] at this
    omega
theorem decR_sm (b : List Int) : Wsm (decR b).1 := by
  have hz : Wsm default := ⟨Nat.zero_le _, Nat.zero_le _, Nat.zero_le _, Nat.zero_le _, (fun _ h => nomatch h : ∀ b ∈ ([] : List Body), _), (fun _ h => nomatch h : ∀ c ∈ ([] : List Contact), _)⟩
  unfold decR
  split
  · exact hz
  · split
    · exact hz
    · rename_i x hr
      split
      · exact hz
      · split
        · exact rWorld_sm (t' := x.2) (x := x.1) hr
        · exact hz
theorem CallGi_skip5 {P : Program} {m : Nat → Option AObj} {f : FuncId} {avs : List AV} {b : Bool} {Q : ContR} (hb : b = false) (r : AV) (hK : @Ri Q b ⟨some r, []⟩) : @CallGi P m f avs b Q :=
  ⟨⟨some r, []⟩, fun h => (by rw [hb] at h; cases h), fun h => absurd rfl h, hK⟩
theorem i_beqT (a : Int) : (a == a) = true := by simp
theorem l_beqT (a : List UInt8) : (a == a) = true := by simp
theorem decT {α : Type} [DecidableEq α] (a : α) : decide (a = a) = true := by simp
theorem s_law45_SnapshotCodecExact (b : List Int) (w : Api.World) (hb : bytes b) : CallsA Tryz.prog F_law45_SnapshotCodecExact [encD 1 encU8 0 b, .agg w.enc] [] (.sc (.bool true)) [] := by
  refine en1 hm shOk Tryz.func4 rfl rfl ?_
  simp only [go_sem]
  by_cases h2 : (3000 : Int) < (b.length : Int)
  · simp only [h2, decide_true, go_sem]
    refine CallGi_skip5 rfl (.sc (.bool true)) ?_
    simp only [h2, decide_true, go_sem]
    refine CallGi_flat s_law45_example rfl ?_
    simp only [go_sem]
  simp only [h2, decide_false, go_sem]
  refine CallGi_flat (s_r27_IsSmall w) rfl ?_
  simp only [h2, decide_false, go_sem]
  cases hs : isSmall w with
  | false =>
    simp only [h2, decide_false, go_sem]
    refine CallGi_flat s_law45_example rfl ?_
    simp only [go_sem]
  | true =>
    have hw := isSmall_sm hs
    have hf := isSmall_few hs
    have hsl : (sealB b).length ≤ 900000000 := by unfold sealB; rw [List.length_append]; show _ + 4 ≤ _; omega
    simp only [h2, decide_false, go_sem]
    refine CallGi_flat (s_r09_Seal b (by omega)) rfl ?_
    simp only [go_sem]
    refine CallGi_flat (s_snapshot_Decode (sealB b) hsl (seal_bytes hb)) rfl ?_
    simp only [go_sem]
    refine CallGi_flat (s_r45_Decode (sealB b) hsl (seal_bytes hb)) rfl ?_
    simp only [go_sem]
    refine CallGi_flat (s_snapshot_Encode w hw hf) rfl ?_
    simp only [go_sem]
    refine CallGi_flat (s_r45_Encode w hw hf) rfl ?_
    simp only [i_beqT, go_sem]
    refine CallGi_flat (s_r25_Equal _ _ (decR_sm _)) rfl ?_
    simp only [decT, i_beqT, l_beqT, go_sem]
    refine ⟨fun i _ => ⟨_, rfl⟩, fun i _ => ⟨_, rfl⟩, ?_⟩
    refine CallGi_flat s_law45_example rfl ?_
    simp only [go_sem]
end Go.Abs
end
