/- A part of the walk: contracts of functions that the statement reaches. -/
import Derived.Test.YtpbnhfancncoiaaAbsD
import Derived.Test.YtpbnhfancncoiaaF4
set_option linter.unusedSimpArgs false
set_option linter.unusedVariables false
set_option linter.unnecessarySimpa false
set_option maxRecDepth 100000
set_option maxHeartbeats 2000000
set_option linter.unusedSimpArgs false
set_option linter.unusedVariables false
namespace Go.Abs
open Go.Proofs
open Api
def rJoint (b : List Int) (t0 : Int) : Except Int (Joint × Int) :=
  RB (rInt b t0) fun x0 t1 =>
  RB (rInt b t1) fun x1 t2 =>
  RB (rInt b t2) fun x2 t3 =>
  RB (rInt b t3) fun x3 t4 =>
  RB (rVec b t4) fun x4 t5 =>
  RB (rVec b t5) fun x5 t6 =>
  RB (rVec b t6) fun x6 t7 =>
  RB (rInt b t7) fun x7 t8 =>
  RB (rBool b t8) fun x8 t9 =>
  RB (rInt b t9) fun x9 t10 =>
  RB (rInt b t10) fun x10 t11 =>
  RB (rBool b t11) fun x11 t12 =>
  RB (rInt b t12) fun x12 t13 =>
  RB (rInt b t13) fun x13 t14 =>
  RB (rInt b t14) fun x14 t15 =>
  RB (rInt b t15) fun x15 t16 =>
  RB (rBool b t16) fun x16 t17 =>
  RB (rN (rInt b) t17 4) fun l t => .ok ({ ID := x0, Kind := x1, BodyA := x2, BodyB := x3, AnchorA := x4, AnchorB := x5, Axis := x6, ReferenceAngle := x7, EnableLimit := x8, Lower := x9, Upper := x10, EnableMotor := x11, MotorSpeed := x12, MaxForce := x13, Softness := x14, BreakForce := x15, CollideConnected := x16, Impulses := ⟨l.getD 0 0, l.getD 1 0, l.getD 2 0, l.getD 3 0⟩ }, t)
theorem s_dec_joint (b : List Int) (t0 : Int) (hb : b.length ≤ 549755813888) (hB : bytes b) : CallsT Try.prog evD F_snapshot_decoder_joint [.ptr 1 0 0 1] (dO b t0) (tRes (fun x : Joint × Int => [.agg x.1.enc]) (fun x => dO b x.2) (rJoint b t0)) := by
  refine callsT_of (N := 66) hm Try.func36 (by kernel_rfl) (by kernel_rfl) is_snapshot_decoder_joint (by kernel_rfl) (by kernel_rfl : rvOf Try.prog Try.f36.results.toList = some [(2, some (some 24))]) (by decide) (by kernel_rfl) ?_
  simp only [c_snapshot_decoder_joint, go_sem, ↓reduceIte, Nat.reduceEqDiff, reduceCtorEq, Nat.reduceAdd, Nat.reduceLeDiff, Nat.reduceMul, Nat.reduceSub, Int.reduceToNat]
  refine CallGiT_sub (s_dec_int b t0 hb hB) rfl (okO_dO _ _) (fun _ => rfl) (by simp [go_sem]) (by simp [go_sem, AV.ids]) rfl (fun e he => tRes_err (by simp only [rJoint, RB, he])) (fun y h0 => ?_)
  obtain ⟨x0, t1⟩ := y
  simp only [go_sem, ↓reduceIte, Nat.reduceEqDiff, reduceCtorEq, Nat.reduceAdd, Nat.reduceLeDiff, Nat.reduceMul, Nat.reduceSub, Int.reduceToNat]
  refine CallGiT_sub (s_dec_int b t1 hb hB) rfl (okO_dO _ _) (fun _ => rfl) (by simp [go_sem]) (by simp [go_sem, AV.ids]) rfl (fun e he => tRes_err (by simp only [rJoint, RB, h0, he])) (fun y h1 => ?_)
  obtain ⟨x1, t2⟩ := y
  simp only [go_sem, ↓reduceIte, Nat.reduceEqDiff, reduceCtorEq, Nat.reduceAdd, Nat.reduceLeDiff, Nat.reduceMul, Nat.reduceSub, Int.reduceToNat]
  refine CallGiT_sub (s_dec_int b t2 hb hB) rfl (okO_dO _ _) (fun _ => rfl) (by simp [go_sem]) (by simp [go_sem, AV.ids]) rfl (fun e he => tRes_err (by simp only [rJoint, RB, h0, h1, he])) (fun y h2 => ?_)
  obtain ⟨x2, t3⟩ := y
  simp only [go_sem, ↓reduceIte, Nat.reduceEqDiff, reduceCtorEq, Nat.reduceAdd, Nat.reduceLeDiff, Nat.reduceMul, Nat.reduceSub, Int.reduceToNat]
  refine CallGiT_sub (s_dec_int b t3 hb hB) rfl (okO_dO _ _) (fun _ => rfl) (by simp [go_sem]) (by simp [go_sem, AV.ids]) rfl (fun e he => tRes_err (by simp only [rJoint, RB, h0, h1, h2, he])) (fun y h3 => ?_)
  obtain ⟨x3, t4⟩ := y
  simp only [go_sem, ↓reduceIte, Nat.reduceEqDiff, reduceCtorEq, Nat.reduceAdd, Nat.reduceLeDiff, Nat.reduceMul, Nat.reduceSub, Int.reduceToNat]
  refine CallGiT_sub (s_dec_vec b t4 hb hB) rfl (okO_dO _ _) (fun _ => rfl) (by simp [go_sem]) (by simp [go_sem, AV.ids]) rfl (fun e he => tRes_err (by simp only [rJoint, RB, h0, h1, h2, h3, he])) (fun y h4 => ?_)
  obtain ⟨x4, t5⟩ := y
  simp only [go_sem, ↓reduceIte, Nat.reduceEqDiff, reduceCtorEq, Nat.reduceAdd, Nat.reduceLeDiff, Nat.reduceMul, Nat.reduceSub, Int.reduceToNat]
  refine CallGiT_sub (s_dec_vec b t5 hb hB) rfl (okO_dO _ _) (fun _ => rfl) (by simp [go_sem]) (by simp [go_sem, AV.ids]) rfl (fun e he => tRes_err (by simp only [rJoint, RB, h0, h1, h2, h3, h4, he])) (fun y h5 => ?_)
  obtain ⟨x5, t6⟩ := y
  simp only [go_sem, ↓reduceIte, Nat.reduceEqDiff, reduceCtorEq, Nat.reduceAdd, Nat.reduceLeDiff, Nat.reduceMul, Nat.reduceSub, Int.reduceToNat]
  refine CallGiT_sub (s_dec_vec b t6 hb hB) rfl (okO_dO _ _) (fun _ => rfl) (by simp [go_sem]) (by simp [go_sem, AV.ids]) rfl (fun e he => tRes_err (by simp only [rJoint, RB, h0, h1, h2, h3, h4, h5, he])) (fun y h6 => ?_)
  obtain ⟨x6, t7⟩ := y
  simp only [go_sem, ↓reduceIte, Nat.reduceEqDiff, reduceCtorEq, Nat.reduceAdd, Nat.reduceLeDiff, Nat.reduceMul, Nat.reduceSub, Int.reduceToNat]
  refine CallGiT_sub (s_dec_int b t7 hb hB) rfl (okO_dO _ _) (fun _ => rfl) (by simp [go_sem]) (by simp [go_sem, AV.ids]) rfl (fun e he => tRes_err (by simp only [rJoint, RB, h0, h1, h2, h3, h4, h5, h6, he])) (fun y h7 => ?_)
  obtain ⟨x7, t8⟩ := y
  simp only [go_sem, ↓reduceIte, Nat.reduceEqDiff, reduceCtorEq, Nat.reduceAdd, Nat.reduceLeDiff, Nat.reduceMul, Nat.reduceSub, Int.reduceToNat]
  refine CallGiT_sub (s_dec_bool b t8 hb) rfl (okO_dO _ _) (fun _ => rfl) (by simp [go_sem]) (by simp [go_sem, AV.ids]) rfl (fun e he => tRes_err (by simp only [rJoint, RB, h0, h1, h2, h3, h4, h5, h6, h7, he])) (fun y h8 => ?_)
  obtain ⟨x8, t9⟩ := y
  simp only [go_sem, ↓reduceIte, Nat.reduceEqDiff, reduceCtorEq, Nat.reduceAdd, Nat.reduceLeDiff, Nat.reduceMul, Nat.reduceSub, Int.reduceToNat]
  refine CallGiT_sub (s_dec_int b t9 hb hB) rfl (okO_dO _ _) (fun _ => rfl) (by simp [go_sem]) (by simp [go_sem, AV.ids]) rfl (fun e he => tRes_err (by simp only [rJoint, RB, h0, h1, h2, h3, h4, h5, h6, h7, h8, he])) (fun y h9 => ?_)
  obtain ⟨x9, t10⟩ := y
  simp only [go_sem, ↓reduceIte, Nat.reduceEqDiff, reduceCtorEq, Nat.reduceAdd, Nat.reduceLeDiff, Nat.reduceMul, Nat.reduceSub, Int.reduceToNat]
  refine CallGiT_sub (s_dec_int b t10 hb hB) rfl (okO_dO _ _) (fun _ => rfl) (by simp [go_sem]) (by simp [go_sem, AV.ids]) rfl (fun e he => tRes_err (by simp only [rJoint, RB, h0, h1, h2, h3, h4, h5, h6, h7, h8, h9, he])) (fun y h10 => ?_)
  obtain ⟨x10, t11⟩ := y
  simp only [go_sem, ↓reduceIte, Nat.reduceEqDiff, reduceCtorEq, Nat.reduceAdd, Nat.reduceLeDiff, Nat.reduceMul, Nat.reduceSub, Int.reduceToNat]
  refine CallGiT_sub (s_dec_bool b t11 hb) rfl (okO_dO _ _) (fun _ => rfl) (by simp [go_sem]) (by simp [go_sem, AV.ids]) rfl (fun e he => tRes_err (by simp only [rJoint, RB, h0, h1, h2, h3, h4, h5, h6, h7, h8, h9, h10, he])) (fun y h11 => ?_)
  obtain ⟨x11, t12⟩ := y
  simp only [go_sem, ↓reduceIte, Nat.reduceEqDiff, reduceCtorEq, Nat.reduceAdd, Nat.reduceLeDiff, Nat.reduceMul, Nat.reduceSub, Int.reduceToNat]
  refine CallGiT_sub (s_dec_int b t12 hb hB) rfl (okO_dO _ _) (fun _ => rfl) (by simp [go_sem]) (by simp [go_sem, AV.ids]) rfl (fun e he => tRes_err (by simp only [rJoint, RB, h0, h1, h2, h3, h4, h5, h6, h7, h8, h9, h10, h11, he])) (fun y h12 => ?_)
  obtain ⟨x12, t13⟩ := y
  simp only [go_sem, ↓reduceIte, Nat.reduceEqDiff, reduceCtorEq, Nat.reduceAdd, Nat.reduceLeDiff, Nat.reduceMul, Nat.reduceSub, Int.reduceToNat]
  refine CallGiT_sub (s_dec_int b t13 hb hB) rfl (okO_dO _ _) (fun _ => rfl) (by simp [go_sem]) (by simp [go_sem, AV.ids]) rfl (fun e he => tRes_err (by simp only [rJoint, RB, h0, h1, h2, h3, h4, h5, h6, h7, h8, h9, h10, h11, h12, he])) (fun y h13 => ?_)
  obtain ⟨x13, t14⟩ := y
  simp only [go_sem, ↓reduceIte, Nat.reduceEqDiff, reduceCtorEq, Nat.reduceAdd, Nat.reduceLeDiff, Nat.reduceMul, Nat.reduceSub, Int.reduceToNat]
  refine CallGiT_sub (s_dec_int b t14 hb hB) rfl (okO_dO _ _) (fun _ => rfl) (by simp [go_sem]) (by simp [go_sem, AV.ids]) rfl (fun e he => tRes_err (by simp only [rJoint, RB, h0, h1, h2, h3, h4, h5, h6, h7, h8, h9, h10, h11, h12, h13, he])) (fun y h14 => ?_)
  obtain ⟨x14, t15⟩ := y
  simp only [go_sem, ↓reduceIte, Nat.reduceEqDiff, reduceCtorEq, Nat.reduceAdd, Nat.reduceLeDiff, Nat.reduceMul, Nat.reduceSub, Int.reduceToNat]
  refine CallGiT_sub (s_dec_int b t15 hb hB) rfl (okO_dO _ _) (fun _ => rfl) (by simp [go_sem]) (by simp [go_sem, AV.ids]) rfl (fun e he => tRes_err (by simp only [rJoint, RB, h0, h1, h2, h3, h4, h5, h6, h7, h8, h9, h10, h11, h12, h13, h14, he])) (fun y h15 => ?_)
  obtain ⟨x15, t16⟩ := y
  simp only [go_sem, ↓reduceIte, Nat.reduceEqDiff, reduceCtorEq, Nat.reduceAdd, Nat.reduceLeDiff, Nat.reduceMul, Nat.reduceSub, Int.reduceToNat]
  refine CallGiT_sub (s_dec_bool b t16 hb) rfl (okO_dO _ _) (fun _ => rfl) (by simp [go_sem]) (by simp [go_sem, AV.ids]) rfl (fun e he => tRes_err (by simp only [rJoint, RB, h0, h1, h2, h3, h4, h5, h6, h7, h8, h9, h10, h11, h12, h13, h14, h15, he])) (fun y h16 => ?_)
  obtain ⟨x16, t17⟩ := y
  simp only [go_sem, ↓reduceIte, Nat.reduceEqDiff, reduceCtorEq, Nat.reduceAdd, Nat.reduceLeDiff, Nat.reduceMul, Nat.reduceSub, Int.reduceToNat]
  have hsp : rJoint b t0 = RB (rN (rInt b) t17 4) fun l t => .ok ({ ID := x0, Kind := x1, BodyA := x2, BodyB := x3, AnchorA := x4, AnchorB := x5, Axis := x6, ReferenceAngle := x7, EnableLimit := x8, Lower := x9, Upper := x10, EnableMotor := x11, MotorSpeed := x12, MaxForce := x13, Softness := x14, BreakForce := x15, CollideConnected := x16, Impulses := ⟨l.getD 0 0, l.getD 1 0, l.getD 2 0, l.getD 3 0⟩ }, t) := by simp only [rJoint, RB, h0, h1, h2, h3, h4, h5, h6, h7, h8, h9, h10, h11, h12, h13, h14, h15, h16]
  refine WpiT_loop hm (ι := {i : Nat × List Int × Int // i.1 ≤ 4 ∧ rN (rInt b) t17 i.1 = .ok i.2}) (fun i => [(0, .share, .ptr 1 0 0 1), (2, .share, .ptr 48 0 0 1), (3, .share, .ptr 64 0 0 1), (56, .share, .sc (.int .i64 i.1.1))])
    (fun i => [(1, .box [encD 1 encU8 0 b, .sc (.int .i64 i.1.2.2)]), (48, .box (Joint.zero)), (64, .box [.sc (.int .i64 x0), .sc (.int .i64 x1), .sc (.int .i64 x2), .sc (.int .i64 x3), .sc (.int .i64 x4.X), .sc (.int .i64 x4.Y), .sc (.int .i64 x5.X), .sc (.int .i64 x5.Y), .sc (.int .i64 x6.X), .sc (.int .i64 x6.Y), .sc (.int .i64 x7), .sc (.bool x8), .sc (.int .i64 x9), .sc (.int .i64 x10), .sc (.bool x11), .sc (.int .i64 x12), .sc (.int .i64 x13), .sc (.int .i64 x14), .sc (.int .i64 x15), .sc (.bool x16), .sc (.int .i64 (i.1.2.1.getD 0 0)), .sc (.int .i64 (i.1.2.1.getD 1 0)), .sc (.int .i64 (i.1.2.1.getD 2 0)), .sc (.int .i64 (i.1.2.1.getD 3 0))])]) (fun i => 4 - i.1.1) ⟨(0, [], t17), Nat.zero_le 4, rfl⟩ ?_ ?_
  · refine weakE_of [] [] (by simp [go_sem]) (by simp [assoc, go_sem]) (by simp [go_sem]) ?_
    simp only [List.getD, List.getElem?_nil, Option.getD_none, Joint.zero, go_sem, ↓reduceIte, Nat.reduceEqDiff, reduceCtorEq, Nat.reduceAdd, Nat.reduceLeDiff, Nat.reduceMul, Nat.reduceSub, Int.reduceToNat]
    try simp
  · rintro ⟨⟨i, l, t⟩, hi, hr⟩
    have hl : l.length = i := rN_len hr
    have hi : i ≤ 4 := hi
    have hr : rN (rInt b) t17 i = .ok (l, t) := hr
    have hc : i = 0 ∨ i = 1 ∨ i = 2 ∨ i = 3 ∨ i = 4 := by omega
    clear hi
    rcases hc with rfl | rfl | rfl | rfl | rfl
    · match l, hl, hr with
      | [], _, hr =>
        simp only [c_snapshot_decoder_jointb0, go_sem, ↓reduceIte, Nat.reduceEqDiff, reduceCtorEq, Nat.reduceAdd, Nat.reduceLeDiff, Nat.reduceMul, Nat.reduceSub, Int.reduceToNat]
        rw [if_pos (by decide)]
        refine CallGiT_sub (s_dec_int b t hb hB) rfl (okO_dO _ _) (fun _ => rfl) (by simp [go_sem]) (by simp [go_sem, AV.ids]) rfl (fun e he => tRes_err ?_) (fun x he => ?_)
        · rw [hsp, rN_err (i := 1) (e := e) (by rw [rN, hr]; simp only [he]) (by decide)]; rfl
        · have hr2 : rN (rInt b) t17 1 = .ok ([] ++ [x.1], x.2) := by rw [rN, hr]; simp only [he]
          simp only [List.getD, List.getElem?_nil, List.getElem?_cons_zero, List.getElem?_cons_succ, Option.getD_none, Option.getD_some, Int.toNat_natCast, go_sem, ↓reduceIte, Nat.reduceEqDiff, reduceCtorEq, Nat.reduceAdd, Nat.reduceLeDiff, Nat.reduceMul, Nat.reduceSub, Int.reduceToNat]
          refine ⟨(by (repeat' (with_reducible apply And.intro)) <;> first | omega | (simp only [maxLen]; omega)), ?_⟩
          refine loop_next ⟨(1, [] ++ [x.1], x.2), (by omega : 1 ≤ 4), hr2⟩ (by show 4 - 1 < 4 - 0; decide) (weakE_of [] [] (by simp [go_sem]) (by simp [assoc, go_sem]) (by simp [go_sem]) ?_)
          simp only [List.getD, List.getElem?_nil, List.getElem?_cons_zero, List.getElem?_cons_succ, Option.getD_none, Option.getD_some, Int.toNat_natCast, List.cons_append, List.nil_append, go_sem, ↓reduceIte, Nat.reduceEqDiff, reduceCtorEq, Nat.reduceAdd, Nat.reduceLeDiff, Nat.reduceMul, Nat.reduceSub, Int.reduceToNat]
          decide
    · match l, hl, hr with
      | [a0], _, hr =>
        simp only [c_snapshot_decoder_jointb0, go_sem, ↓reduceIte, Nat.reduceEqDiff, reduceCtorEq, Nat.reduceAdd, Nat.reduceLeDiff, Nat.reduceMul, Nat.reduceSub, Int.reduceToNat]
        rw [if_pos (by decide)]
        refine CallGiT_sub (s_dec_int b t hb hB) rfl (okO_dO _ _) (fun _ => rfl) (by simp [go_sem]) (by simp [go_sem, AV.ids]) rfl (fun e he => tRes_err ?_) (fun x he => ?_)
        · rw [hsp, rN_err (i := 2) (e := e) (by rw [rN, hr]; simp only [he]) (by decide)]; rfl
        · have hr2 : rN (rInt b) t17 2 = .ok ([a0] ++ [x.1], x.2) := by rw [rN, hr]; simp only [he]
          simp only [List.getD, List.getElem?_nil, List.getElem?_cons_zero, List.getElem?_cons_succ, Option.getD_none, Option.getD_some, Int.toNat_natCast, go_sem, ↓reduceIte, Nat.reduceEqDiff, reduceCtorEq, Nat.reduceAdd, Nat.reduceLeDiff, Nat.reduceMul, Nat.reduceSub, Int.reduceToNat]
          refine ⟨(by (repeat' (with_reducible apply And.intro)) <;> first | omega | (simp only [maxLen]; omega)), ?_⟩
          refine loop_next ⟨(2, [a0] ++ [x.1], x.2), (by omega : 2 ≤ 4), hr2⟩ (by show 4 - 2 < 4 - 1; decide) (weakE_of [] [] (by simp [go_sem]) (by simp [assoc, go_sem]) (by simp [go_sem]) ?_)
          simp only [List.getD, List.getElem?_nil, List.getElem?_cons_zero, List.getElem?_cons_succ, Option.getD_none, Option.getD_some, Int.toNat_natCast, List.cons_append, List.nil_append, go_sem, ↓reduceIte, Nat.reduceEqDiff, reduceCtorEq, Nat.reduceAdd, Nat.reduceLeDiff, Nat.reduceMul, Nat.reduceSub, Int.reduceToNat]
          decide
    · match l, hl, hr with
      | [a0, a1], _, hr =>
        simp only [c_snapshot_decoder_jointb0, go_sem, ↓reduceIte, Nat.reduceEqDiff, reduceCtorEq, Nat.reduceAdd, Nat.reduceLeDiff, Nat.reduceMul, Nat.reduceSub, Int.reduceToNat]
        rw [if_pos (by decide)]
        refine CallGiT_sub (s_dec_int b t hb hB) rfl (okO_dO _ _) (fun _ => rfl) (by simp [go_sem]) (by simp [go_sem, AV.ids]) rfl (fun e he => tRes_err ?_) (fun x he => ?_)
        · rw [hsp, rN_err (i := 3) (e := e) (by rw [rN, hr]; simp only [he]) (by decide)]; rfl
        · have hr2 : rN (rInt b) t17 3 = .ok ([a0, a1] ++ [x.1], x.2) := by rw [rN, hr]; simp only [he]
          simp only [List.getD, List.getElem?_nil, List.getElem?_cons_zero, List.getElem?_cons_succ, Option.getD_none, Option.getD_some, Int.toNat_natCast, go_sem, ↓reduceIte, Nat.reduceEqDiff, reduceCtorEq, Nat.reduceAdd, Nat.reduceLeDiff, Nat.reduceMul, Nat.reduceSub, Int.reduceToNat]
          refine ⟨(by (repeat' (with_reducible apply And.intro)) <;> first | omega | (simp only [maxLen]; omega)), ?_⟩
          refine loop_next ⟨(3, [a0, a1] ++ [x.1], x.2), (by omega : 3 ≤ 4), hr2⟩ (by show 4 - 3 < 4 - 2; decide) (weakE_of [] [] (by simp [go_sem]) (by simp [assoc, go_sem]) (by simp [go_sem]) ?_)
          simp only [List.getD, List.getElem?_nil, List.getElem?_cons_zero, List.getElem?_cons_succ, Option.getD_none, Option.getD_some, Int.toNat_natCast, List.cons_append, List.nil_append, go_sem, ↓reduceIte, Nat.reduceEqDiff, reduceCtorEq, Nat.reduceAdd, Nat.reduceLeDiff, Nat.reduceMul, Nat.reduceSub, Int.reduceToNat]
          decide
    · match l, hl, hr with
      | [a0, a1, a2], _, hr =>
        simp only [c_snapshot_decoder_jointb0, go_sem, ↓reduceIte, Nat.reduceEqDiff, reduceCtorEq, Nat.reduceAdd, Nat.reduceLeDiff, Nat.reduceMul, Nat.reduceSub, Int.reduceToNat]
        rw [if_pos (by decide)]
        refine CallGiT_sub (s_dec_int b t hb hB) rfl (okO_dO _ _) (fun _ => rfl) (by simp [go_sem]) (by simp [go_sem, AV.ids]) rfl (fun e he => tRes_err ?_) (fun x he => ?_)
        · rw [hsp, rN_err (i := 4) (e := e) (by rw [rN, hr]; simp only [he]) (by decide)]; rfl
        · have hr2 : rN (rInt b) t17 4 = .ok ([a0, a1, a2] ++ [x.1], x.2) := by rw [rN, hr]; simp only [he]
          simp only [List.getD, List.getElem?_nil, List.getElem?_cons_zero, List.getElem?_cons_succ, Option.getD_none, Option.getD_some, Int.toNat_natCast, go_sem, ↓reduceIte, Nat.reduceEqDiff, reduceCtorEq, Nat.reduceAdd, Nat.reduceLeDiff, Nat.reduceMul, Nat.reduceSub, Int.reduceToNat]
          refine ⟨(by (repeat' (with_reducible apply And.intro)) <;> first | omega | (simp only [maxLen]; omega)), ?_⟩
          refine loop_next ⟨(4, [a0, a1, a2] ++ [x.1], x.2), (by omega : 4 ≤ 4), hr2⟩ (by show 4 - 4 < 4 - 3; decide) (weakE_of [] [] (by simp [go_sem]) (by simp [assoc, go_sem]) (by simp [go_sem]) ?_)
          simp only [List.getD, List.getElem?_nil, List.getElem?_cons_zero, List.getElem?_cons_succ, Option.getD_none, Option.getD_some, Int.toNat_natCast, List.cons_append, List.nil_append, go_sem, ↓reduceIte, Nat.reduceEqDiff, reduceCtorEq, Nat.reduceAdd, Nat.reduceLeDiff, Nat.reduceMul, Nat.reduceSub, Int.reduceToNat]
          decide
    · match l, hl, hr with
      | [a0, a1, a2, a3], _, hr =>
        simp only [c_snapshot_decoder_jointb0, go_sem, ↓reduceIte, Nat.reduceEqDiff, reduceCtorEq, Nat.reduceAdd, Nat.reduceLeDiff, Nat.reduceMul, Nat.reduceSub, Int.reduceToNat]
        rw [if_neg (by decide)]
        simp only [List.getD, List.getElem?_nil, List.getElem?_cons_zero, List.getElem?_cons_succ, Option.getD_none, Option.getD_some, Joint.zero, go_sem, ↓reduceIte, Nat.reduceEqDiff, reduceCtorEq, Nat.reduceAdd, Nat.reduceLeDiff, Nat.reduceMul, Nat.reduceSub, Int.reduceToNat]
        refine retT_ok ({ ID := x0, Kind := x1, BodyA := x2, BodyB := x3, AnchorA := x4, AnchorB := x5, Axis := x6, ReferenceAngle := x7, EnableLimit := x8, Lower := x9, Upper := x10, EnableMotor := x11, MotorSpeed := x12, MaxForce := x13, Softness := x14, BreakForce := x15, CollideConnected := x16, Impulses := ⟨[a0, a1, a2, a3].getD 0 0, [a0, a1, a2, a3].getD 1 0, [a0, a1, a2, a3].getD 2 0, [a0, a1, a2, a3].getD 3 0⟩ }, t) (by rw [hsp, hr]; rfl) ?_
        simp only [retR, go_sem, ↓reduceIte, Nat.reduceEqDiff, reduceCtorEq, Nat.reduceAdd, Nat.reduceLeDiff, Nat.reduceMul, Nat.reduceSub, Int.reduceToNat]
        refine retW_of [.share] [] [] rfl rfl (by simp [go_sem]) (by simp [assoc, go_sem]) (by simp [go_sem]) ?_
        simp only [List.getD, List.getElem?_nil, List.getElem?_cons_zero, List.getElem?_cons_succ, Option.getD_none, Option.getD_some, go_sem, ↓reduceIte, Nat.reduceEqDiff, reduceCtorEq, Nat.reduceAdd, Nat.reduceLeDiff, Nat.reduceMul, Nat.reduceSub, Int.reduceToNat]

end Go.Abs
