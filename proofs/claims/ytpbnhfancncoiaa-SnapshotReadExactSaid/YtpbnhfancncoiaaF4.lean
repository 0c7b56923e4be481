/- A part of the walk: contracts of functions that the statement reaches. -/
import Derived.Test.YtpbnhfancncoiaaAbsD
import Derived.Test.YtpbnhfancncoiaaF3
set_option linter.unusedSimpArgs false
set_option linter.unusedVariables false
set_option linter.unnecessarySimpa false
set_option maxRecDepth 100000
set_option maxHeartbeats 2000000
set_option linter.unusedSimpArgs false
set_option linter.unusedVariables false
namespace Go.Abs
open Go.Proofs
open Api
def RB {α β : Type} (r : Except Int (α × Int)) (f : α → Int → Except Int β) : Except Int β := match r with | .error e => .error e | .ok x => f x.1 x.2
def rKey (b : List Int) (t0 : Int) : Except Int (PairKey × Int) :=
  RB (rInt b t0) fun x0 t1 =>
  RB (rInt b t1) fun x1 t2 =>
  RB (rInt b t2) fun x2 t3 =>
  RB (rInt b t3) fun x3 t4 =>
  .ok (⟨x0, x1, x2, x3⟩, t4)
theorem s_dec_key (b : List Int) (t0 : Int) (hb : b.length ≤ 549755813888) (hB : bytes b) : CallsT Try.prog evD F_snapshot_decoder_key [.ptr 1 0 0 1] (dO b t0) (tRes (fun x : PairKey × Int => [.agg x.1.enc]) (fun x => dO b x.2) (rKey b t0)) := by
  refine callsT_of (N := 12) hm Try.func63 (by kernel_rfl) (by kernel_rfl) is_snapshot_decoder_key (by kernel_rfl) (by kernel_rfl : rvOf Try.prog Try.f63.results.toList = some [(2, some (some 4))]) (by decide) (by kernel_rfl) ?_
  simp only [c_snapshot_decoder_key, go_sem, ↓reduceIte, Nat.reduceEqDiff, reduceCtorEq, Nat.reduceAdd, Nat.reduceLeDiff, Nat.reduceMul, Nat.reduceSub, Int.reduceToNat]
  refine CallGiT_sub (s_dec_int b t0 hb hB) rfl (okO_dO _ _) (fun _ => rfl) (by simp [go_sem]) (by simp [go_sem, AV.ids]) rfl (fun e he => tRes_err (by simp only [rKey, RB, he])) (fun y h0 => ?_)
  obtain ⟨x0, t1⟩ := y
  simp only [go_sem, ↓reduceIte, Nat.reduceEqDiff, reduceCtorEq, Nat.reduceAdd, Nat.reduceLeDiff, Nat.reduceMul, Nat.reduceSub, Int.reduceToNat]
  refine CallGiT_sub (s_dec_int b t1 hb hB) rfl (okO_dO _ _) (fun _ => rfl) (by simp [go_sem]) (by simp [go_sem, AV.ids]) rfl (fun e he => tRes_err (by simp only [rKey, RB, h0, he])) (fun y h1 => ?_)
  obtain ⟨x1, t2⟩ := y
  simp only [go_sem, ↓reduceIte, Nat.reduceEqDiff, reduceCtorEq, Nat.reduceAdd, Nat.reduceLeDiff, Nat.reduceMul, Nat.reduceSub, Int.reduceToNat]
  refine CallGiT_sub (s_dec_int b t2 hb hB) rfl (okO_dO _ _) (fun _ => rfl) (by simp [go_sem]) (by simp [go_sem, AV.ids]) rfl (fun e he => tRes_err (by simp only [rKey, RB, h0, h1, he])) (fun y h2 => ?_)
  obtain ⟨x2, t3⟩ := y
  simp only [go_sem, ↓reduceIte, Nat.reduceEqDiff, reduceCtorEq, Nat.reduceAdd, Nat.reduceLeDiff, Nat.reduceMul, Nat.reduceSub, Int.reduceToNat]
  refine CallGiT_sub (s_dec_int b t3 hb hB) rfl (okO_dO _ _) (fun _ => rfl) (by simp [go_sem]) (by simp [go_sem, AV.ids]) rfl (fun e he => tRes_err (by simp only [rKey, RB, h0, h1, h2, he])) (fun y h3 => ?_)
  obtain ⟨x3, t4⟩ := y
  simp only [go_sem, ↓reduceIte, Nat.reduceEqDiff, reduceCtorEq, Nat.reduceAdd, Nat.reduceLeDiff, Nat.reduceMul, Nat.reduceSub, Int.reduceToNat]
  refine retT_ok (⟨x0, x1, x2, x3⟩, t4) (by simp only [rKey, RB, h0, h1, h2, h3]) ?_
  simp only [retR, go_sem, ↓reduceIte, Nat.reduceEqDiff, reduceCtorEq, Nat.reduceAdd, Nat.reduceLeDiff, Nat.reduceMul, Nat.reduceSub, Int.reduceToNat]
  refine retW_of [.share] [] [] rfl rfl (by simp [go_sem]) (by simp [assoc, go_sem]) (by simp [go_sem]) ?_
  simp only [go_sem, ↓reduceIte, Nat.reduceEqDiff, reduceCtorEq, Nat.reduceAdd, Nat.reduceLeDiff, Nat.reduceMul, Nat.reduceSub, Int.reduceToNat]
def rContactPoint (b : List Int) (t0 : Int) : Except Int (ContactPoint × Int) :=
  RB (rVec b t0) fun x0 t1 =>
  RB (rInt b t1) fun x1 t2 =>
  RB (rInt b t2) fun x2 t3 =>
  RB (rInt b t3) fun x3 t4 =>
  RB (rInt b t4) fun x4 t5 =>
  .ok (⟨x0, x1, x2, x3, x4⟩, t5)
theorem s_dec_contactPoint (b : List Int) (t0 : Int) (hb : b.length ≤ 549755813888) (hB : bytes b) : CallsT Try.prog evD F_snapshot_decoder_contactPoint [.ptr 1 0 0 1] (dO b t0) (tRes (fun x : ContactPoint × Int => [.agg x.1.enc]) (fun x => dO b x.2) (rContactPoint b t0)) := by
  refine callsT_of (N := 14) hm Try.func65 (by kernel_rfl) (by kernel_rfl) is_snapshot_decoder_contactPoint (by kernel_rfl) (by kernel_rfl : rvOf Try.prog Try.f65.results.toList = some [(2, some (some 6))]) (by decide) (by kernel_rfl) ?_
  simp only [c_snapshot_decoder_contactPoint, go_sem, ↓reduceIte, Nat.reduceEqDiff, reduceCtorEq, Nat.reduceAdd, Nat.reduceLeDiff, Nat.reduceMul, Nat.reduceSub, Int.reduceToNat]
  refine CallGiT_sub (s_dec_vec b t0 hb hB) rfl (okO_dO _ _) (fun _ => rfl) (by simp [go_sem]) (by simp [go_sem, AV.ids]) rfl (fun e he => tRes_err (by simp only [rContactPoint, RB, he])) (fun y h0 => ?_)
  obtain ⟨x0, t1⟩ := y
  simp only [go_sem, ↓reduceIte, Nat.reduceEqDiff, reduceCtorEq, Nat.reduceAdd, Nat.reduceLeDiff, Nat.reduceMul, Nat.reduceSub, Int.reduceToNat]
  refine CallGiT_sub (s_dec_int b t1 hb hB) rfl (okO_dO _ _) (fun _ => rfl) (by simp [go_sem]) (by simp [go_sem, AV.ids]) rfl (fun e he => tRes_err (by simp only [rContactPoint, RB, h0, he])) (fun y h1 => ?_)
  obtain ⟨x1, t2⟩ := y
  simp only [go_sem, ↓reduceIte, Nat.reduceEqDiff, reduceCtorEq, Nat.reduceAdd, Nat.reduceLeDiff, Nat.reduceMul, Nat.reduceSub, Int.reduceToNat]
  refine CallGiT_sub (s_dec_int b t2 hb hB) rfl (okO_dO _ _) (fun _ => rfl) (by simp [go_sem]) (by simp [go_sem, AV.ids]) rfl (fun e he => tRes_err (by simp only [rContactPoint, RB, h0, h1, he])) (fun y h2 => ?_)
  obtain ⟨x2, t3⟩ := y
  simp only [go_sem, ↓reduceIte, Nat.reduceEqDiff, reduceCtorEq, Nat.reduceAdd, Nat.reduceLeDiff, Nat.reduceMul, Nat.reduceSub, Int.reduceToNat]
  refine CallGiT_sub (s_dec_int b t3 hb hB) rfl (okO_dO _ _) (fun _ => rfl) (by simp [go_sem]) (by simp [go_sem, AV.ids]) rfl (fun e he => tRes_err (by simp only [rContactPoint, RB, h0, h1, h2, he])) (fun y h3 => ?_)
  obtain ⟨x3, t4⟩ := y
  simp only [go_sem, ↓reduceIte, Nat.reduceEqDiff, reduceCtorEq, Nat.reduceAdd, Nat.reduceLeDiff, Nat.reduceMul, Nat.reduceSub, Int.reduceToNat]
  refine CallGiT_sub (s_dec_int b t4 hb hB) rfl (okO_dO _ _) (fun _ => rfl) (by simp [go_sem]) (by simp [go_sem, AV.ids]) rfl (fun e he => tRes_err (by simp only [rContactPoint, RB, h0, h1, h2, h3, he])) (fun y h4 => ?_)
  obtain ⟨x4, t5⟩ := y
  simp only [go_sem, ↓reduceIte, Nat.reduceEqDiff, reduceCtorEq, Nat.reduceAdd, Nat.reduceLeDiff, Nat.reduceMul, Nat.reduceSub, Int.reduceToNat]
  refine retT_ok (⟨x0, x1, x2, x3, x4⟩, t5) (by simp only [rContactPoint, RB, h0, h1, h2, h3, h4]) ?_
  simp only [retR, go_sem, ↓reduceIte, Nat.reduceEqDiff, reduceCtorEq, Nat.reduceAdd, Nat.reduceLeDiff, Nat.reduceMul, Nat.reduceSub, Int.reduceToNat]
  refine retW_of [.share] [] [] rfl rfl (by simp [go_sem]) (by simp [assoc, go_sem]) (by simp [go_sem]) ?_
  simp only [go_sem, ↓reduceIte, Nat.reduceEqDiff, reduceCtorEq, Nat.reduceAdd, Nat.reduceLeDiff, Nat.reduceMul, Nat.reduceSub, Int.reduceToNat]
def rContact (b : List Int) (t0 : Int) : Except Int (Contact × Int) :=
  RB (rKey b t0) fun x0 t1 =>
  RB (rVec b t1) fun x1 t2 =>
  RB (rSl (rContactPoint b) b t2) fun x2 t3 =>
  .ok ({ Key := x0, Manifold := { Normal := x1, Points := x2 } }, t3)
theorem s_dec_contact (b : List Int) (t0 : Int) (hb : b.length ≤ 549755813888) (hB : bytes b) : CallsT Try.prog evD F_snapshot_decoder_contact [.ptr 1 0 0 1] (dO b t0) (tRes (fun x : Contact × Int => [.agg x.1.enc]) (fun x => dO b x.2) (rContact b t0)) := by
  refine callsT_of (N := 18) hm Try.func39 (by kernel_rfl) (by kernel_rfl) is_snapshot_decoder_contact (by kernel_rfl) (by kernel_rfl : rvOf Try.prog Try.f39.results.toList = some [(2, some (some 7))]) (by decide) (by kernel_rfl) ?_
  simp only [c_snapshot_decoder_contact, go_sem, ↓reduceIte, Nat.reduceEqDiff, reduceCtorEq, Nat.reduceAdd, Nat.reduceLeDiff, Nat.reduceMul, Nat.reduceSub, Int.reduceToNat]
  refine CallGiT_sub (s_dec_key b t0 hb hB) rfl (okO_dO _ _) (fun _ => rfl) (by simp [go_sem]) (by simp [go_sem, AV.ids]) rfl (fun e he => tRes_err (by simp only [rContact, RB, he])) (fun y h0 => ?_)
  obtain ⟨x0, t1⟩ := y
  simp only [go_sem, ↓reduceIte, Nat.reduceEqDiff, reduceCtorEq, Nat.reduceAdd, Nat.reduceLeDiff, Nat.reduceMul, Nat.reduceSub, Int.reduceToNat]
  refine CallGiT_sub (s_dec_vec b t1 hb hB) rfl (okO_dO _ _) (fun _ => rfl) (by simp [go_sem]) (by simp [go_sem, AV.ids]) rfl (fun e he => tRes_err (by simp only [rContact, RB, h0, he])) (fun y h1 => ?_)
  obtain ⟨x1, t2⟩ := y
  simp only [go_sem, ↓reduceIte, Nat.reduceEqDiff, reduceCtorEq, Nat.reduceAdd, Nat.reduceLeDiff, Nat.reduceMul, Nat.reduceSub, Int.reduceToNat]
  refine CallGiT_sub (s_dec_slice_ContactPoint b t2 hb hB (rContactPoint b) F_snapshot_decoder_contactPoint (fun t => s_dec_contactPoint b t hb hB)) rfl (okO_dO _ _) (fun _ => rfl) (by simp [go_sem]) (by simp [go_sem, AV.ids]) rfl (fun e he => tRes_err (by simp only [rContact, RB, h0, h1, he])) (fun y h2 => ?_)
  obtain ⟨x2, t3⟩ := y
  simp only [go_sem, ↓reduceIte, Nat.reduceEqDiff, reduceCtorEq, Nat.reduceAdd, Nat.reduceLeDiff, Nat.reduceMul, Nat.reduceSub, Int.reduceToNat]
  refine retT_ok ({ Key := x0, Manifold := { Normal := x1, Points := x2 } }, t3) (by simp only [rContact, RB, h0, h1, h2]) ?_
  simp only [retR, go_sem, ↓reduceIte, Nat.reduceEqDiff, reduceCtorEq, Nat.reduceAdd, Nat.reduceLeDiff, Nat.reduceMul, Nat.reduceSub, Int.reduceToNat]
  refine retW_of [.share] [] [] rfl rfl (by simp [go_sem]) (by simp [assoc, go_sem]) (by simp [go_sem]) ?_
  simp only [go_sem, ↓reduceIte, Nat.reduceEqDiff, reduceCtorEq, Nat.reduceAdd, Nat.reduceLeDiff, Nat.reduceMul, Nat.reduceSub, Int.reduceToNat]
def rFixture (b : List Int) (t0 : Int) : Except Int (Fixture × Int) :=
  RB (rInt b t0) fun x0 t1 =>
  RB (rInt b t1) fun x1 t2 =>
  RB (rSl (rVec b) b t2) fun x2 t3 =>
  RB (rInt b t3) fun x3 t4 =>
  RB (rInt b t4) fun x4 t5 =>
  RB (rInt b t5) fun x5 t6 =>
  RB (rBool b t6) fun x6 t7 =>
  RB (rInt b t7) fun x7 t8 =>
  RB (rInt b t8) fun x8 t9 =>
  RB (rInt b t9) fun x9 t10 =>
  .ok ({ Shape := { Kind := x0, Radius := x1, Vertices := x2 }, Density := x3, Friction := x4, Restitution := x5, Sensor := x6, Category := x7, Mask := x8, Group := x9 }, t10)
theorem s_dec_fixture (b : List Int) (t0 : Int) (hb : b.length ≤ 549755813888) (hB : bytes b) : CallsT Try.prog evD F_snapshot_decoder_fixture [.ptr 1 0 0 1] (dO b t0) (tRes (fun x : Fixture × Int => [.agg x.1.enc]) (fun x => dO b x.2) (rFixture b t0)) := by
  refine callsT_of (N := 40) hm Try.func54 (by kernel_rfl) (by kernel_rfl) is_snapshot_decoder_fixture (by kernel_rfl) (by kernel_rfl : rvOf Try.prog Try.f54.results.toList = some [(2, some (some 10))]) (by decide) (by kernel_rfl) ?_
  simp only [c_snapshot_decoder_fixture, go_sem, ↓reduceIte, Nat.reduceEqDiff, reduceCtorEq, Nat.reduceAdd, Nat.reduceLeDiff, Nat.reduceMul, Nat.reduceSub, Int.reduceToNat]
  refine CallGiT_sub (s_dec_int b t0 hb hB) rfl (okO_dO _ _) (fun _ => rfl) (by simp [go_sem]) (by simp [go_sem, AV.ids]) rfl (fun e he => tRes_err (by simp only [rFixture, RB, he])) (fun y h0 => ?_)
  obtain ⟨x0, t1⟩ := y
  simp only [go_sem, ↓reduceIte, Nat.reduceEqDiff, reduceCtorEq, Nat.reduceAdd, Nat.reduceLeDiff, Nat.reduceMul, Nat.reduceSub, Int.reduceToNat]
  refine CallGiT_sub (s_dec_int b t1 hb hB) rfl (okO_dO _ _) (fun _ => rfl) (by simp [go_sem]) (by simp [go_sem, AV.ids]) rfl (fun e he => tRes_err (by simp only [rFixture, RB, h0, he])) (fun y h1 => ?_)
  obtain ⟨x1, t2⟩ := y
  simp only [go_sem, ↓reduceIte, Nat.reduceEqDiff, reduceCtorEq, Nat.reduceAdd, Nat.reduceLeDiff, Nat.reduceMul, Nat.reduceSub, Int.reduceToNat]
  refine CallGiT_sub (s_dec_slice_Vec b t2 hb hB (rVec b) F_snapshot_decoder_vec (fun t => s_dec_vec b t hb hB)) rfl (okO_dO _ _) (fun _ => rfl) (by simp [go_sem]) (by simp [go_sem, AV.ids]) rfl (fun e he => tRes_err (by simp only [rFixture, RB, h0, h1, he])) (fun y h2 => ?_)
  obtain ⟨x2, t3⟩ := y
  simp only [go_sem, ↓reduceIte, Nat.reduceEqDiff, reduceCtorEq, Nat.reduceAdd, Nat.reduceLeDiff, Nat.reduceMul, Nat.reduceSub, Int.reduceToNat]
  refine CallGiT_sub (s_dec_int b t3 hb hB) rfl (okO_dO _ _) (fun _ => rfl) (by simp [go_sem]) (by simp [go_sem, AV.ids]) rfl (fun e he => tRes_err (by simp only [rFixture, RB, h0, h1, h2, he])) (fun y h3 => ?_)
  obtain ⟨x3, t4⟩ := y
  simp only [go_sem, ↓reduceIte, Nat.reduceEqDiff, reduceCtorEq, Nat.reduceAdd, Nat.reduceLeDiff, Nat.reduceMul, Nat.reduceSub, Int.reduceToNat]
  refine CallGiT_sub (s_dec_int b t4 hb hB) rfl (okO_dO _ _) (fun _ => rfl) (by simp [go_sem]) (by simp [go_sem, AV.ids]) rfl (fun e he => tRes_err (by simp only [rFixture, RB, h0, h1, h2, h3, he])) (fun y h4 => ?_)
  obtain ⟨x4, t5⟩ := y
  simp only [go_sem, ↓reduceIte, Nat.reduceEqDiff, reduceCtorEq, Nat.reduceAdd, Nat.reduceLeDiff, Nat.reduceMul, Nat.reduceSub, Int.reduceToNat]
  refine CallGiT_sub (s_dec_int b t5 hb hB) rfl (okO_dO _ _) (fun _ => rfl) (by simp [go_sem]) (by simp [go_sem, AV.ids]) rfl (fun e he => tRes_err (by simp only [rFixture, RB, h0, h1, h2, h3, h4, he])) (fun y h5 => ?_)
  obtain ⟨x5, t6⟩ := y
  simp only [go_sem, ↓reduceIte, Nat.reduceEqDiff, reduceCtorEq, Nat.reduceAdd, Nat.reduceLeDiff, Nat.reduceMul, Nat.reduceSub, Int.reduceToNat]
  refine CallGiT_sub (s_dec_bool b t6 hb) rfl (okO_dO _ _) (fun _ => rfl) (by simp [go_sem]) (by simp [go_sem, AV.ids]) rfl (fun e he => tRes_err (by simp only [rFixture, RB, h0, h1, h2, h3, h4, h5, he])) (fun y h6 => ?_)
  obtain ⟨x6, t7⟩ := y
  simp only [go_sem, ↓reduceIte, Nat.reduceEqDiff, reduceCtorEq, Nat.reduceAdd, Nat.reduceLeDiff, Nat.reduceMul, Nat.reduceSub, Int.reduceToNat]
  refine CallGiT_sub (s_dec_int b t7 hb hB) rfl (okO_dO _ _) (fun _ => rfl) (by simp [go_sem]) (by simp [go_sem, AV.ids]) rfl (fun e he => tRes_err (by simp only [rFixture, RB, h0, h1, h2, h3, h4, h5, h6, he])) (fun y h7 => ?_)
  obtain ⟨x7, t8⟩ := y
  simp only [go_sem, ↓reduceIte, Nat.reduceEqDiff, reduceCtorEq, Nat.reduceAdd, Nat.reduceLeDiff, Nat.reduceMul, Nat.reduceSub, Int.reduceToNat]
  refine CallGiT_sub (s_dec_int b t8 hb hB) rfl (okO_dO _ _) (fun _ => rfl) (by simp [go_sem]) (by simp [go_sem, AV.ids]) rfl (fun e he => tRes_err (by simp only [rFixture, RB, h0, h1, h2, h3, h4, h5, h6, h7, he])) (fun y h8 => ?_)
  obtain ⟨x8, t9⟩ := y
  simp only [go_sem, ↓reduceIte, Nat.reduceEqDiff, reduceCtorEq, Nat.reduceAdd, Nat.reduceLeDiff, Nat.reduceMul, Nat.reduceSub, Int.reduceToNat]
  refine CallGiT_sub (s_dec_int b t9 hb hB) rfl (okO_dO _ _) (fun _ => rfl) (by simp [go_sem]) (by simp [go_sem, AV.ids]) rfl (fun e he => tRes_err (by simp only [rFixture, RB, h0, h1, h2, h3, h4, h5, h6, h7, h8, he])) (fun y h9 => ?_)
  obtain ⟨x9, t10⟩ := y
  simp only [go_sem, ↓reduceIte, Nat.reduceEqDiff, reduceCtorEq, Nat.reduceAdd, Nat.reduceLeDiff, Nat.reduceMul, Nat.reduceSub, Int.reduceToNat]
  refine retT_ok ({ Shape := { Kind := x0, Radius := x1, Vertices := x2 }, Density := x3, Friction := x4, Restitution := x5, Sensor := x6, Category := x7, Mask := x8, Group := x9 }, t10) (by simp only [rFixture, RB, h0, h1, h2, h3, h4, h5, h6, h7, h8, h9]) ?_
  simp only [retR, go_sem, ↓reduceIte, Nat.reduceEqDiff, reduceCtorEq, Nat.reduceAdd, Nat.reduceLeDiff, Nat.reduceMul, Nat.reduceSub, Int.reduceToNat]
  refine retW_of [.share] [] [] rfl rfl (by simp [go_sem]) (by simp [assoc, go_sem]) (by simp [go_sem]) ?_
  simp only [go_sem, ↓reduceIte, Nat.reduceEqDiff, reduceCtorEq, Nat.reduceAdd, Nat.reduceLeDiff, Nat.reduceMul, Nat.reduceSub, Int.reduceToNat]
def rBody (b : List Int) (t0 : Int) : Except Int (Body × Int) :=
  RB (rInt b t0) fun x0 t1 =>
  RB (rInt b t1) fun x1 t2 =>
  RB (rVec b t2) fun x2 t3 =>
  RB (rInt b t3) fun x3 t4 =>
  RB (rVec b t4) fun x4 t5 =>
  RB (rInt b t5) fun x5 t6 =>
  RB (rVec b t6) fun x6 t7 =>
  RB (rInt b t7) fun x7 t8 =>
  RB (rInt b t8) fun x8 t9 =>
  RB (rInt b t9) fun x9 t10 =>
  RB (rInt b t10) fun x10 t11 =>
  RB (rBool b t11) fun x11 t12 =>
  RB (rBool b t12) fun x12 t13 =>
  RB (rBool b t13) fun x13 t14 =>
  RB (rBool b t14) fun x14 t15 =>
  RB (rInt b t15) fun x15 t16 =>
  RB (rSl (rFixture b) b t16) fun x16 t17 =>
  .ok ({ ID := x0, Kind := x1, Transform := { Position := x2, Angle := x3 }, Velocity := x4, AngularVelocity := x5, Force := x6, Torque := x7, LinearDamping := x8, AngularDamping := x9, GravityScale := x10, Bullet := x11, FixedRotation := x12, NoSleep := x13, Asleep := x14, IdleSteps := x15, Fixtures := x16 }, t17)
theorem s_dec_body (b : List Int) (t0 : Int) (hb : b.length ≤ 549755813888) (hB : bytes b) : CallsT Try.prog evD F_snapshot_decoder_body [.ptr 1 0 0 1] (dO b t0) (tRes (fun x : Body × Int => [.agg x.1.enc]) (fun x => dO b x.2) (rBody b t0)) := by
  refine callsT_of (N := 60) hm Try.func32 (by kernel_rfl) (by kernel_rfl) is_snapshot_decoder_body (by kernel_rfl) (by kernel_rfl : rvOf Try.prog Try.f32.results.toList = some [(2, some (some 20))]) (by decide) (by kernel_rfl) ?_
  simp only [c_snapshot_decoder_body, go_sem, ↓reduceIte, Nat.reduceEqDiff, reduceCtorEq, Nat.reduceAdd, Nat.reduceLeDiff, Nat.reduceMul, Nat.reduceSub, Int.reduceToNat]
  refine CallGiT_sub (s_dec_int b t0 hb hB) rfl (okO_dO _ _) (fun _ => rfl) (by simp [go_sem]) (by simp [go_sem, AV.ids]) rfl (fun e he => tRes_err (by simp only [rBody, RB, he])) (fun y h0 => ?_)
  obtain ⟨x0, t1⟩ := y
  simp only [go_sem, ↓reduceIte, Nat.reduceEqDiff, reduceCtorEq, Nat.reduceAdd, Nat.reduceLeDiff, Nat.reduceMul, Nat.reduceSub, Int.reduceToNat]
  refine CallGiT_sub (s_dec_int b t1 hb hB) rfl (okO_dO _ _) (fun _ => rfl) (by simp [go_sem]) (by simp [go_sem, AV.ids]) rfl (fun e he => tRes_err (by simp only [rBody, RB, h0, he])) (fun y h1 => ?_)
  obtain ⟨x1, t2⟩ := y
  simp only [go_sem, ↓reduceIte, Nat.reduceEqDiff, reduceCtorEq, Nat.reduceAdd, Nat.reduceLeDiff, Nat.reduceMul, Nat.reduceSub, Int.reduceToNat]
  refine CallGiT_sub (s_dec_vec b t2 hb hB) rfl (okO_dO _ _) (fun _ => rfl) (by simp [go_sem]) (by simp [go_sem, AV.ids]) rfl (fun e he => tRes_err (by simp only [rBody, RB, h0, h1, he])) (fun y h2 => ?_)
  obtain ⟨x2, t3⟩ := y
  simp only [go_sem, ↓reduceIte, Nat.reduceEqDiff, reduceCtorEq, Nat.reduceAdd, Nat.reduceLeDiff, Nat.reduceMul, Nat.reduceSub, Int.reduceToNat]
  refine CallGiT_sub (s_dec_int b t3 hb hB) rfl (okO_dO _ _) (fun _ => rfl) (by simp [go_sem]) (by simp [go_sem, AV.ids]) rfl (fun e he => tRes_err (by simp only [rBody, RB, h0, h1, h2, he])) (fun y h3 => ?_)
  obtain ⟨x3, t4⟩ := y
  simp only [go_sem, ↓reduceIte, Nat.reduceEqDiff, reduceCtorEq, Nat.reduceAdd, Nat.reduceLeDiff, Nat.reduceMul, Nat.reduceSub, Int.reduceToNat]
  refine CallGiT_sub (s_dec_vec b t4 hb hB) rfl (okO_dO _ _) (fun _ => rfl) (by simp [go_sem]) (by simp [go_sem, AV.ids]) rfl (fun e he => tRes_err (by simp only [rBody, RB, h0, h1, h2, h3, he])) (fun y h4 => ?_)
  obtain ⟨x4, t5⟩ := y
  simp only [go_sem, ↓reduceIte, Nat.reduceEqDiff, reduceCtorEq, Nat.reduceAdd, Nat.reduceLeDiff, Nat.reduceMul, Nat.reduceSub, Int.reduceToNat]
  refine CallGiT_sub (s_dec_int b t5 hb hB) rfl (okO_dO _ _) (fun _ => rfl) (by simp [go_sem]) (by simp [go_sem, AV.ids]) rfl (fun e he => tRes_err (by simp only [rBody, RB, h0, h1, h2, h3, h4, he])) (fun y h5 => ?_)
  obtain ⟨x5, t6⟩ := y
  simp only [go_sem, ↓reduceIte, Nat.reduceEqDiff, reduceCtorEq, Nat.reduceAdd, Nat.reduceLeDiff, Nat.reduceMul, Nat.reduceSub, Int.reduceToNat]
  refine CallGiT_sub (s_dec_vec b t6 hb hB) rfl (okO_dO _ _) (fun _ => rfl) (by simp [go_sem]) (by simp [go_sem, AV.ids]) rfl (fun e he => tRes_err (by simp only [rBody, RB, h0, h1, h2, h3, h4, h5, he])) (fun y h6 => ?_)
  obtain ⟨x6, t7⟩ := y
  simp only [go_sem, ↓reduceIte, Nat.reduceEqDiff, reduceCtorEq, Nat.reduceAdd, Nat.reduceLeDiff, Nat.reduceMul, Nat.reduceSub, Int.reduceToNat]
  refine CallGiT_sub (s_dec_int b t7 hb hB) rfl (okO_dO _ _) (fun _ => rfl) (by simp [go_sem]) (by simp [go_sem, AV.ids]) rfl (fun e he => tRes_err (by simp only [rBody, RB, h0, h1, h2, h3, h4, h5, h6, he])) (fun y h7 => ?_)
  obtain ⟨x7, t8⟩ := y
  simp only [go_sem, ↓reduceIte, Nat.reduceEqDiff, reduceCtorEq, Nat.reduceAdd, Nat.reduceLeDiff, Nat.reduceMul, Nat.reduceSub, Int.reduceToNat]
  refine CallGiT_sub (s_dec_int b t8 hb hB) rfl (okO_dO _ _) (fun _ => rfl) (by simp [go_sem]) (by simp [go_sem, AV.ids]) rfl (fun e he => tRes_err (by simp only [rBody, RB, h0, h1, h2, h3, h4, h5, h6, h7, he])) (fun y h8 => ?_)
  obtain ⟨x8, t9⟩ := y
  simp only [go_sem, ↓reduceIte, Nat.reduceEqDiff, reduceCtorEq, Nat.reduceAdd, Nat.reduceLeDiff, Nat.reduceMul, Nat.reduceSub, Int.reduceToNat]
  refine CallGiT_sub (s_dec_int b t9 hb hB) rfl (okO_dO _ _) (fun _ => rfl) (by simp [go_sem]) (by simp [go_sem, AV.ids]) rfl (fun e he => tRes_err (by simp only [rBody, RB, h0, h1, h2, h3, h4, h5, h6, h7, h8, he])) (fun y h9 => ?_)
  obtain ⟨x9, t10⟩ := y
  simp only [go_sem, ↓reduceIte, Nat.reduceEqDiff, reduceCtorEq, Nat.reduceAdd, Nat.reduceLeDiff, Nat.reduceMul, Nat.reduceSub, Int.reduceToNat]
  refine CallGiT_sub (s_dec_int b t10 hb hB) rfl (okO_dO _ _) (fun _ => rfl) (by simp [go_sem]) (by simp [go_sem, AV.ids]) rfl (fun e he => tRes_err (by simp only [rBody, RB, h0, h1, h2, h3, h4, h5, h6, h7, h8, h9, he])) (fun y h10 => ?_)
  obtain ⟨x10, t11⟩ := y
  simp only [go_sem, ↓reduceIte, Nat.reduceEqDiff, reduceCtorEq, Nat.reduceAdd, Nat.reduceLeDiff, Nat.reduceMul, Nat.reduceSub, Int.reduceToNat]
  refine CallGiT_sub (s_dec_bool b t11 hb) rfl (okO_dO _ _) (fun _ => rfl) (by simp [go_sem]) (by simp [go_sem, AV.ids]) rfl (fun e he => tRes_err (by simp only [rBody, RB, h0, h1, h2, h3, h4, h5, h6, h7, h8, h9, h10, he])) (fun y h11 => ?_)
  obtain ⟨x11, t12⟩ := y
  simp only [go_sem, ↓reduceIte, Nat.reduceEqDiff, reduceCtorEq, Nat.reduceAdd, Nat.reduceLeDiff, Nat.reduceMul, Nat.reduceSub, Int.reduceToNat]
  refine CallGiT_sub (s_dec_bool b t12 hb) rfl (okO_dO _ _) (fun _ => rfl) (by simp [go_sem]) (by simp [go_sem, AV.ids]) rfl (fun e he => tRes_err (by simp only [rBody, RB, h0, h1, h2, h3, h4, h5, h6, h7, h8, h9, h10, h11, he])) (fun y h12 => ?_)
  obtain ⟨x12, t13⟩ := y
  simp only [go_sem, ↓reduceIte, Nat.reduceEqDiff, reduceCtorEq, Nat.reduceAdd, Nat.reduceLeDiff, Nat.reduceMul, Nat.reduceSub, Int.reduceToNat]
  refine CallGiT_sub (s_dec_bool b t13 hb) rfl (okO_dO _ _) (fun _ => rfl) (by simp [go_sem]) (by simp [go_sem, AV.ids]) rfl (fun e he => tRes_err (by simp only [rBody, RB, h0, h1, h2, h3, h4, h5, h6, h7, h8, h9, h10, h11, h12, he])) (fun y h13 => ?_)
  obtain ⟨x13, t14⟩ := y
  simp only [go_sem, ↓reduceIte, Nat.reduceEqDiff, reduceCtorEq, Nat.reduceAdd, Nat.reduceLeDiff, Nat.reduceMul, Nat.reduceSub, Int.reduceToNat]
  refine CallGiT_sub (s_dec_bool b t14 hb) rfl (okO_dO _ _) (fun _ => rfl) (by simp [go_sem]) (by simp [go_sem, AV.ids]) rfl (fun e he => tRes_err (by simp only [rBody, RB, h0, h1, h2, h3, h4, h5, h6, h7, h8, h9, h10, h11, h12, h13, he])) (fun y h14 => ?_)
  obtain ⟨x14, t15⟩ := y
  simp only [go_sem, ↓reduceIte, Nat.reduceEqDiff, reduceCtorEq, Nat.reduceAdd, Nat.reduceLeDiff, Nat.reduceMul, Nat.reduceSub, Int.reduceToNat]
  refine CallGiT_sub (s_dec_int b t15 hb hB) rfl (okO_dO _ _) (fun _ => rfl) (by simp [go_sem]) (by simp [go_sem, AV.ids]) rfl (fun e he => tRes_err (by simp only [rBody, RB, h0, h1, h2, h3, h4, h5, h6, h7, h8, h9, h10, h11, h12, h13, h14, he])) (fun y h15 => ?_)
  obtain ⟨x15, t16⟩ := y
  simp only [go_sem, ↓reduceIte, Nat.reduceEqDiff, reduceCtorEq, Nat.reduceAdd, Nat.reduceLeDiff, Nat.reduceMul, Nat.reduceSub, Int.reduceToNat]
  refine CallGiT_sub (s_dec_slice_Fixture b t16 hb hB (rFixture b) F_snapshot_decoder_fixture (fun t => s_dec_fixture b t hb hB)) rfl (okO_dO _ _) (fun _ => rfl) (by simp [go_sem]) (by simp [go_sem, AV.ids]) rfl (fun e he => tRes_err (by simp only [rBody, RB, h0, h1, h2, h3, h4, h5, h6, h7, h8, h9, h10, h11, h12, h13, h14, h15, he])) (fun y h16 => ?_)
  obtain ⟨x16, t17⟩ := y
  simp only [go_sem, ↓reduceIte, Nat.reduceEqDiff, reduceCtorEq, Nat.reduceAdd, Nat.reduceLeDiff, Nat.reduceMul, Nat.reduceSub, Int.reduceToNat]
  refine retT_ok ({ ID := x0, Kind := x1, Transform := { Position := x2, Angle := x3 }, Velocity := x4, AngularVelocity := x5, Force := x6, Torque := x7, LinearDamping := x8, AngularDamping := x9, GravityScale := x10, Bullet := x11, FixedRotation := x12, NoSleep := x13, Asleep := x14, IdleSteps := x15, Fixtures := x16 }, t17) (by simp only [rBody, RB, h0, h1, h2, h3, h4, h5, h6, h7, h8, h9, h10, h11, h12, h13, h14, h15, h16]) ?_
  simp only [retR, go_sem, ↓reduceIte, Nat.reduceEqDiff, reduceCtorEq, Nat.reduceAdd, Nat.reduceLeDiff, Nat.reduceMul, Nat.reduceSub, Int.reduceToNat]
  refine retW_of [.share] [] [] rfl rfl (by simp [go_sem]) (by simp [assoc, go_sem]) (by simp [go_sem]) ?_
  simp only [go_sem, ↓reduceIte, Nat.reduceEqDiff, reduceCtorEq, Nat.reduceAdd, Nat.reduceLeDiff, Nat.reduceMul, Nat.reduceSub, Int.reduceToNat]

end Go.Abs
