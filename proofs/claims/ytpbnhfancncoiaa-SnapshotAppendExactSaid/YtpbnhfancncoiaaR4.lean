/- A part of the walk: contracts of functions that the statement reaches. -/
import Derived.Test.YtpbnhfancncoiaaAbsD
import Derived.Test.YtpbnhfancncoiaaF9
set_option linter.unusedSimpArgs false
set_option linter.unusedVariables false
set_option linter.unnecessarySimpa false
set_option maxRecDepth 100000
set_option maxHeartbeats 2000000
set_option linter.unusedSimpArgs false
set_option linter.unusedVariables false
namespace Go.Abs
open Go.Proofs
open Api
def okF (f : Fixture) : Bool := decide (f.Shape.Vertices.length ≤ 10)
def sm30 (x : Body) : Bool := decide (x.Fixtures.length ≤ 6) && (x.Fixtures.take 6).all okF
theorem all_take_succ {α : Type} {p : α → Bool} {l : List α} {i : Nat} (d : α) (h : i < l.length) : (l.take (i + 1)).all p = ((l.take i).all p && p (l.getD i d)) := by
  rw [take_snoc d h, List.all_append]; simp
theorem s_r30_isSmallBody (x : Body) (hx : x.Fixtures.length ≤ maxLen) : CallsA Try.prog F_r30_isSmallBody [.agg x.enc] [] (.sc (.bool (sm30 x))) [] := by
  refine callsI_of (rs := [_]) hm Try.func21 (by kernel_rfl) (by kernel_rfl) is_r30_isSmallBody (by kernel_rfl : tmpsOf Try.f21.results.toList = some [2]) (by decide) (by kernel_rfl) ?_
  simp only [c_r30_isSmallBody, go_sem, ↓reduceIte, Nat.reduceEqDiff, reduceCtorEq, Nat.reduceAdd, Nat.reduceLeDiff, Nat.reduceMul, Nat.reduceSub, Int.reduceToNat]
  refine Wpi_loop hm (ι := {i : Nat // i ≤ x.Fixtures.length ∧ i ≤ 6 ∧ (x.Fixtures.take i).all okF = true}) (fun i => [(1, .share, .ptr 32 0 0 1), (2, .share, .sc (.bool false)), (3, .share, .sc (.int .i64 i.1))])
    (fun i => [(32, .box x.enc)]) (fun i => 6 - i.1) ⟨0, by omega, by omega, rfl⟩ ?_ ?_
  · refine weakE_of [] [] (by simp [go_sem]) (by simp [assoc, go_sem]) (by simp [go_sem]) ?_
    simp only [go_sem, ↓reduceIte, Nat.reduceEqDiff, reduceCtorEq, Nat.reduceAdd, Nat.reduceLeDiff, Nat.reduceMul, Nat.reduceSub, Int.reduceToNat]
    try simp
  · rintro ⟨i, hi, h6, ha⟩
    simp only [c_r30_isSmallBodyb0, go_sem, ↓reduceIte, Nat.reduceEqDiff, reduceCtorEq, Nat.reduceAdd, Nat.reduceLeDiff, Nat.reduceMul, Nat.reduceSub, Int.reduceToNat]
    by_cases hc : i < x.Fixtures.length ∧ i < 6
    · rw [if_pos (by rw [if_pos (by omega)]; simp; omega)]
      refine ⟨by omega, ?_⟩
      have hst := all_take_succ (p := okF) default hc.1
      by_cases hv : (10 : Int) < ((x.Fixtures.getD i default).Shape.Vertices.length : Int)
      · rw [if_pos hv]
        have hf : okF (x.Fixtures.getD i default) = false := decide_eq_false (by omega)
        have : (x.Fixtures.take 6).all okF = false := by
          rw [List.all_eq_false]
          refine ⟨x.Fixtures.getD i default, ?_, by rw [hf]; decide⟩
          have hm := mem_getD (l := x.Fixtures.take 6) default (i := i) (by rw [List.length_take]; omega)
          have he : (x.Fixtures.take 6).getD i default = x.Fixtures.getD i default := by simp only [List.getD, List.getElem?_take]; rw [if_pos hc.2]
          rwa [he] at hm
        unfold sm30; rw [this, Bool.and_false]
      · rw [if_neg hv]
        have hf : okF (x.Fixtures.getD i default) = true := decide_eq_true (by omega)
        refine loop_next ⟨i + 1, by omega, by omega, by rw [hst, ha, hf]; rfl⟩ (by show 6 - (i + 1) < 6 - i; omega) (weakE_of [] [] (by simp [go_sem]) (by simp [assoc, go_sem]) (by simp [go_sem]) ?_)
        simp only [go_sem, ↓reduceIte, Nat.reduceEqDiff, reduceCtorEq, Nat.reduceAdd, Nat.reduceLeDiff, Nat.reduceMul, Nat.reduceSub, Int.reduceToNat]
        exact (by rw [IntKind.wrap_i64]; omega)
    · rw [if_neg (by intro hh; split at hh; (simp at hh; omega); cases hh)]
      unfold sm30
      have : x.Fixtures.length ≤ 6 → (x.Fixtures.take 6).all okF = true := fun h => by
        have hi : i = x.Fixtures.length := by omega
        rw [hi, List.take_length] at ha
        rw [List.take_of_length_le h]; exact ha
      by_cases h : x.Fixtures.length ≤ 6
      · rw [this h, decide_eq_true h, decide_eq_true (by omega)]; rfl
      · rw [decide_eq_false h, decide_eq_false (by omega)]; rfl
theorem CallGi_skip4 {P : Program} {m : Nat → Option AObj} {f : FuncId} {avs : List AV} {b : Bool} {Q : ContR} (hb : b = false) (r : AV) (hK : @Ri Q b ⟨some r, []⟩) : @CallGi P m f avs b Q :=
  ⟨⟨some r, []⟩, fun h => (by rw [hb] at h; cases h), fun h => absurd rfl h, hK⟩
theorem s_r30_IsSmall (x : Body) (hx : x.Fixtures.length ≤ maxLen) : CallsA Try.prog F_r30_IsSmall [.agg x.enc, .agg x.enc] [] (.sc (.bool (sm30 x))) [] := by
  refine callsI_of (rs := [_]) hm Try.func5 (by kernel_rfl) (by kernel_rfl) is_r30_IsSmall (by kernel_rfl : tmpsOf Try.f5.results.toList = some [4]) (by decide) (by kernel_rfl) ?_
  simp only [c_r30_IsSmall, go_sem, ↓reduceIte, Nat.reduceEqDiff, reduceCtorEq, Nat.reduceAdd, Nat.reduceLeDiff, Nat.reduceMul, Nat.reduceSub, Int.reduceToNat]
  refine CallGi_flat (s_r30_isSmallBody x hx) rfl ?_
  simp only [go_sem, ↓reduceIte, Nat.reduceEqDiff, reduceCtorEq, Nat.reduceAdd, Nat.reduceLeDiff, Nat.reduceMul, Nat.reduceSub, Int.reduceToNat]
  by_cases h : sm30 x = true
  · simp only [h, go_sem, ↓reduceIte, Nat.reduceEqDiff, reduceCtorEq, Nat.reduceAdd, Nat.reduceLeDiff, Nat.reduceMul, Nat.reduceSub, Int.reduceToNat]
    refine CallGi_flat (s_r30_isSmallBody x hx) rfl ?_
    simp only [h, go_sem, ↓reduceIte, Nat.reduceEqDiff, reduceCtorEq, Nat.reduceAdd, Nat.reduceLeDiff, Nat.reduceMul, Nat.reduceSub, Int.reduceToNat]
  · have h : sm30 x = false := by simpa using h
    simp only [h, go_sem, ↓reduceIte, Nat.reduceEqDiff, reduceCtorEq, Nat.reduceAdd, Nat.reduceLeDiff, Nat.reduceMul, Nat.reduceSub, Int.reduceToNat]
    refine CallGi_skip4 rfl (.sc (.bool false)) ?_
    simp only [go_sem, ↓reduceIte, Nat.reduceEqDiff, reduceCtorEq, Nat.reduceAdd, Nat.reduceLeDiff, Nat.reduceMul, Nat.reduceSub, Int.reduceToNat]
    exact ⟨fun hh => (by rw [h] at hh; cases hh), h.symm⟩
theorem sm30_few {x : Body} (h : sm30 x = true) : Bfew x := by
  unfold sm30 at h
  rw [Bool.and_eq_true, decide_eq_true_eq, List.all_eq_true] at h
  obtain ⟨h1, h2⟩ := h
  rw [List.take_of_length_le h1] at h2
  refine ⟨by omega, fun f hf => ?_⟩
  have := h2 f hf
  unfold okF at this
  rw [decide_eq_true_eq] at this
  omega
def jR4 (x : Body) (a b : Int) : Joint := { ID := a, Kind := b, BodyA := x.ID, BodyB := x.IdleSteps, AnchorA := x.Velocity, AnchorB := x.Force, Axis := x.Transform.Position, ReferenceAngle := x.Transform.Angle, EnableLimit := x.Bullet, Lower := x.LinearDamping, Upper := x.AngularDamping, EnableMotor := x.FixedRotation, MotorSpeed := x.AngularVelocity, MaxForce := x.Torque, Softness := x.GravityScale, BreakForce := a, CollideConnected := x.NoSleep, Impulses := ⟨x.AngularVelocity, x.GravityScale, a, b⟩ }
def tR4 (x : Body) (a b : Int) : Contact := { Key := ⟨a, b, x.ID, x.IdleSteps⟩, Manifold := { Normal := x.Velocity, Points := [⟨x.Transform.Position, x.AngularVelocity, a, b, x.GravityScale⟩] } }
def tl_R4 : ACode := (.seq (.region true [⟨(some 91), .mov (.t 0), none, []⟩, ⟨(some 92), .load (some 20) (.t 4), none, []⟩, ⟨(some 93), .call 7 [(.t 91), (.t 92)], none, []⟩, ⟨(some 94), .bstr (.t 93), none, []⟩, ⟨(some 95), .mov (.t 0), none, []⟩, ⟨(some 96), .load (some 20) (.t 4), none, [2]⟩, ⟨(some 97), .call 8 [(.t 95), (.t 96)], none, [3]⟩, ⟨(some 98), .bstr (.t 97), none, []⟩, ⟨(some 99), .eqs false (.t 94) (.t 98), none, []⟩, ⟨(some 100), .mov (.t 99), none, []⟩, ⟨(some 101), .mov (.t 0), (some (100, true)), []⟩, ⟨(some 102), .load (some 24) (.t 7), (some (100, true)), []⟩, ⟨(some 103), .call 9 [(.t 101), (.t 102)], (some (100, true)), []⟩, ⟨(some 104), .bstr (.t 103), (some (100, true)), []⟩, ⟨(some 105), .mov (.t 0), (some (100, true)), []⟩, ⟨(some 106), .load (some 24) (.t 7), (some (100, true)), [12]⟩, ⟨(some 107), .call 10 [(.t 105), (.t 106)], (some (100, true)), [13]⟩, ⟨(some 108), .bstr (.t 107), (some (100, true)), []⟩, ⟨(some 109), .eqs false (.t 104) (.t 108), (some (100, true)), []⟩, ⟨(some 110), .pick (.t 100) (.t 109) (.k (.sc (.bool false))), none, []⟩, ⟨(some 111), .mov (.t 110), none, []⟩, ⟨(some 112), .mov (.t 0), (some (111, true)), []⟩, ⟨(some 113), .load (some 7) (.t 8), (some (111, true)), []⟩, ⟨(some 114), .call 11 [(.t 112), (.t 113)], (some (111, true)), []⟩, ⟨(some 115), .bstr (.t 114), (some (111, true)), []⟩, ⟨(some 116), .mov (.t 0), (some (111, true)), []⟩, ⟨(some 117), .load (some 7) (.t 8), (some (111, true)), [23]⟩, ⟨(some 118), .call 12 [(.t 116), (.t 117)], (some (111, true)), [24]⟩, ⟨(some 119), .bstr (.t 118), (some (111, true)), []⟩, ⟨(some 120), .eqs false (.t 115) (.t 119), (some (111, true)), []⟩, ⟨(some 121), .pick (.t 111) (.t 120) (.k (.sc (.bool false))), none, []⟩, ⟨(some 122), .mov (.t 121), none, []⟩, ⟨(some 123), .call 6 [], (some (122, true)), []⟩, ⟨(some 124), .pick (.t 122) (.t 123) (.k (.sc (.bool false))), none, []⟩, ⟨(some 6), .mov (.t 124), none, []⟩])
  .ret)
def cm_R4 : ACode := (.seq (.region false [⟨(some 4), .box (.t 1), none, []⟩, ⟨(some 5), .box (.t 2), none, []⟩, ⟨(some 6), .mov (.k (.sc (.bool false))), none, []⟩])
  (.seq (.seq (.region false [⟨(some 9), .mov (.t 0), none, []⟩, ⟨(some 10), .len (.t 9), none, []⟩, ⟨(some 11), .bin .gtr (.t 10) (.k (.sc (.int .i64 200))), none, []⟩, ⟨(some 12), .mov (.t 11), none, []⟩, ⟨(some 13), .load (some 20) (.t 4), (some (12, false)), []⟩, ⟨(some 14), .load (some 20) (.t 4), (some (12, false)), []⟩, ⟨(some 15), .call 5 [(.t 13), (.t 14)], (some (12, false)), []⟩, ⟨(some 16), .un .not (.t 15), (some (12, false)), []⟩, ⟨(some 17), .pick (.t 12) (.k (.sc (.bool true))) (.t 16), none, []⟩])
  (.cond (.t 17) (.seq (.region false [⟨(some 18), .call 6 [], none, []⟩, ⟨(some 6), .mov (.t 18), none, []⟩])
  .ret) .skip))
  (.seq (.region false [⟨(some 19), .aaddr 2 1 (.t 5) (.k (.sc (.int .i64 0))), none, []⟩, ⟨(some 20), .load none (.t 19), none, []⟩, ⟨(some 21), .aaddr 2 1 (.t 5) (.k (.sc (.int .i64 1))), none, []⟩, ⟨(some 22), .load none (.t 21), none, []⟩, ⟨(some 23), .faddr 0 (.t 4), none, []⟩, ⟨(some 24), .load none (.t 23), none, []⟩, ⟨(some 25), .faddr 18 (.t 4), none, []⟩, ⟨(some 26), .load none (.t 25), none, []⟩, ⟨(some 27), .faddr 5 (.t 4), none, []⟩, ⟨(some 28), .load (some 2) (.t 27), none, []⟩, ⟨(some 29), .faddr 8 (.t 4), none, []⟩, ⟨(some 30), .load (some 2) (.t 29), none, []⟩, ⟨(some 31), .faddr 2 (.t 4), none, []⟩, ⟨(some 32), .faddr 0 (.t 31), none, []⟩, ⟨(some 33), .load (some 2) (.t 32), none, []⟩, ⟨(some 34), .faddr 2 (.t 4), none, []⟩, ⟨(some 35), .faddr 2 (.t 34), none, []⟩, ⟨(some 36), .load none (.t 35), none, []⟩, ⟨(some 37), .faddr 14 (.t 4), none, []⟩, ⟨(some 38), .load none (.t 37), none, []⟩, ⟨(some 39), .faddr 11 (.t 4), none, []⟩, ⟨(some 40), .load none (.t 39), none, []⟩, ⟨(some 41), .faddr 12 (.t 4), none, []⟩, ⟨(some 42), .load none (.t 41), none, []⟩, ⟨(some 43), .faddr 15 (.t 4), none, []⟩, ⟨(some 44), .load none (.t 43), none, []⟩, ⟨(some 45), .faddr 7 (.t 4), none, []⟩, ⟨(some 46), .load none (.t 45), none, []⟩, ⟨(some 47), .faddr 10 (.t 4), none, []⟩, ⟨(some 48), .load none (.t 47), none, []⟩, ⟨(some 49), .faddr 13 (.t 4), none, []⟩, ⟨(some 50), .load none (.t 49), none, []⟩, ⟨(some 51), .aaddr 2 1 (.t 5) (.k (.sc (.int .i64 0))), none, []⟩, ⟨(some 52), .load none (.t 51), none, []⟩, ⟨(some 53), .faddr 16 (.t 4), none, []⟩, ⟨(some 54), .load none (.t 53), none, []⟩, ⟨(some 55), .faddr 7 (.t 4), none, []⟩, ⟨(some 56), .load none (.t 55), none, []⟩, ⟨(some 57), .faddr 13 (.t 4), none, []⟩, ⟨(some 58), .load none (.t 57), none, []⟩, ⟨(some 59), .aaddr 2 1 (.t 5) (.k (.sc (.int .i64 0))), none, []⟩, ⟨(some 60), .load none (.t 59), none, []⟩, ⟨(some 61), .aaddr 2 1 (.t 5) (.k (.sc (.int .i64 1))), none, []⟩, ⟨(some 62), .load none (.t 61), none, []⟩, ⟨(some 63), .build [(.int .i64 0), (.int .i64 0), (.int .i64 0), (.int .i64 0)] [(0, 1, (.t 56)), (1, 1, (.t 58)), (2, 1, (.t 60)), (3, 1, (.t 62))], none, []⟩, ⟨(some 64), .build [(.int .i64 0), (.int .i64 0), (.int .i64 0), (.int .i64 0), (.int .i64 0), (.int .i64 0), (.int .i64 0), (.int .i64 0), (.int .i64 0), (.int .i64 0), (.int .i64 0), (.bool false), (.int .i64 0), (.int .i64 0), (.bool false), (.int .i64 0), (.int .i64 0), (.int .i64 0), (.int .i64 0), (.bool false), (.int .i64 0), (.int .i64 0), (.int .i64 0), (.int .i64 0)] [(0, 1, (.t 20)), (1, 1, (.t 22)), (2, 1, (.t 24)), (3, 1, (.t 26)), (4, 2, (.t 28)), (6, 2, (.t 30)), (8, 2, (.t 33)), (10, 1, (.t 36)), (11, 1, (.t 38)), (12, 1, (.t 40)), (13, 1, (.t 42)), (14, 1, (.t 44)), (15, 1, (.t 46)), (16, 1, (.t 48)), (17, 1, (.t 50)), (18, 1, (.t 52)), (19, 1, (.t 54)), (20, 4, (.t 63))], none, []⟩, ⟨(some 7), .alloc [(.int .i64 0), (.int .i64 0), (.int .i64 0), (.int .i64 0), (.int .i64 0), (.int .i64 0), (.int .i64 0), (.int .i64 0), (.int .i64 0), (.int .i64 0), (.int .i64 0), (.bool false), (.int .i64 0), (.int .i64 0), (.bool false), (.int .i64 0), (.int .i64 0), (.int .i64 0), (.int .i64 0), (.bool false), (.int .i64 0), (.int .i64 0), (.int .i64 0), (.int .i64 0)], none, []⟩, ⟨none, .store 24 (.t 7) (.t 64), none, []⟩])
  (.seq (.region false [⟨(some 65), .aaddr 2 1 (.t 5) (.k (.sc (.int .i64 0))), none, []⟩, ⟨(some 66), .load none (.t 65), none, []⟩, ⟨(some 67), .aaddr 2 1 (.t 5) (.k (.sc (.int .i64 1))), none, []⟩, ⟨(some 68), .load none (.t 67), none, []⟩, ⟨(some 69), .faddr 0 (.t 4), none, []⟩, ⟨(some 70), .load none (.t 69), none, []⟩, ⟨(some 71), .faddr 18 (.t 4), none, []⟩, ⟨(some 72), .load none (.t 71), none, []⟩, ⟨(some 73), .build [(.int .i64 0), (.int .i64 0), (.int .i64 0), (.int .i64 0)] [(0, 1, (.t 66)), (1, 1, (.t 68)), (2, 1, (.t 70)), (3, 1, (.t 72))], none, []⟩, ⟨(some 74), .faddr 5 (.t 4), none, []⟩, ⟨(some 75), .load (some 2) (.t 74), none, []⟩, ⟨(some 76), .faddr 2 (.t 4), none, []⟩, ⟨(some 77), .faddr 0 (.t 76), none, []⟩, ⟨(some 78), .load (some 2) (.t 77), none, []⟩, ⟨(some 79), .faddr 7 (.t 4), none, []⟩, ⟨(some 80), .load none (.t 79), none, []⟩, ⟨(some 81), .aaddr 2 1 (.t 5) (.k (.sc (.int .i64 0))), none, []⟩, ⟨(some 82), .load none (.t 81), none, []⟩, ⟨(some 83), .aaddr 2 1 (.t 5) (.k (.sc (.int .i64 1))), none, []⟩, ⟨(some 84), .load none (.t 83), none, []⟩, ⟨(some 85), .faddr 13 (.t 4), none, []⟩, ⟨(some 86), .load none (.t 85), none, []⟩, ⟨(some 87), .build [(.int .i64 0), (.int .i64 0), (.int .i64 0), (.int .i64 0), (.int .i64 0), (.int .i64 0)] [(0, 2, (.t 78)), (2, 1, (.t 80)), (3, 1, (.t 82)), (4, 1, (.t 84)), (5, 1, (.t 86))], none, []⟩, ⟨(some 88), .bslice 6 1 [(.int .i64 0), (.int .i64 0), (.int .i64 0), (.int .i64 0), (.int .i64 0), (.int .i64 0)] [(0, 6, (.t 87))], none, []⟩, ⟨(some 89), .build [(.int .i64 0), (.int .i64 0), (.slice none 0 0)] [(0, 2, (.t 75)), (2, 1, (.t 88))], none, []⟩, ⟨(some 90), .build [(.int .i64 0), (.int .i64 0), (.int .i64 0), (.int .i64 0), (.int .i64 0), (.int .i64 0), (.slice none 0 0)] [(0, 4, (.t 73)), (4, 3, (.t 89))], none, []⟩, ⟨(some 8), .alloc [(.int .i64 0), (.int .i64 0), (.int .i64 0), (.int .i64 0), (.int .i64 0), (.int .i64 0), (.slice none 0 0)], none, []⟩, ⟨none, .store 7 (.t 8) (.t 90), none, []⟩])
  (.mark tl_R4)))))
theorem is_R4 : compile Try.prog Try.f3.ntmps (Try.f3.body.getD .skip) = some cm_R4.strip := is_law45_SnapshotAppendExact.trans (congrArg some (by kernel_rfl))
theorem s_law45_SnapshotAppendExact (b : List Int) (x : Body) (a c : Int) (hx : x.Fixtures.length ≤ maxLen) : CallsA Try.prog F_law45_SnapshotAppendExact [encD 1 encU8 0 b, .agg x.enc, .agg [.sc (.int .i64 a), .sc (.int .i64 c)]] [] (.sc (.bool true)) [] := by
  have is_law45_SnapshotAppendExact := is_R4
  refine callsI_of (rs := [_]) hm Try.func3 (by kernel_rfl) (by kernel_rfl) is_law45_SnapshotAppendExact (by kernel_rfl : tmpsOf Try.f3.results.toList = some [6]) (by decide) (by kernel_rfl) ?_
  simp only [cm_R4, go_sem, ↓reduceIte, Nat.reduceEqDiff, reduceCtorEq, Nat.reduceAdd, Nat.reduceLeDiff, Nat.reduceMul, Nat.reduceSub, Int.reduceToNat]
  by_cases h2 : (200 : Int) < (b.length : Int)
  · simp only [h2, decide_true, go_sem, ↓reduceIte, Nat.reduceEqDiff, reduceCtorEq, Nat.reduceAdd, Nat.reduceLeDiff, Nat.reduceMul, Nat.reduceSub, Int.reduceToNat]
    refine CallGi_skip4 rfl (.sc (.bool true)) ?_
    simp only [h2, decide_true, go_sem, ↓reduceIte, Nat.reduceEqDiff, reduceCtorEq, Nat.reduceAdd, Nat.reduceLeDiff, Nat.reduceMul, Nat.reduceSub, Int.reduceToNat]
    refine CallGi_flat s_law45_example rfl ?_
    simp only [go_sem, ↓reduceIte, Nat.reduceEqDiff, reduceCtorEq, Nat.reduceAdd, Nat.reduceLeDiff, Nat.reduceMul, Nat.reduceSub, Int.reduceToNat]
  simp only [h2, decide_false, go_sem, ↓reduceIte, Nat.reduceEqDiff, reduceCtorEq, Nat.reduceAdd, Nat.reduceLeDiff, Nat.reduceMul, Nat.reduceSub, Int.reduceToNat]
  refine CallGi_flat (s_r30_IsSmall x hx) rfl ?_
  simp only [h2, decide_false, go_sem, ↓reduceIte, Nat.reduceEqDiff, reduceCtorEq, Nat.reduceAdd, Nat.reduceLeDiff, Nat.reduceMul, Nat.reduceSub, Int.reduceToNat]
  cases hs : sm30 x with
  | false =>
    simp only [h2, decide_false, go_sem, ↓reduceIte, Nat.reduceEqDiff, reduceCtorEq, Nat.reduceAdd, Nat.reduceLeDiff, Nat.reduceMul, Nat.reduceSub, Int.reduceToNat]
    refine CallGi_flat s_law45_example rfl ?_
    simp only [go_sem, ↓reduceIte, Nat.reduceEqDiff, reduceCtorEq, Nat.reduceAdd, Nat.reduceLeDiff, Nat.reduceMul, Nat.reduceSub, Int.reduceToNat]
  | true =>
    have hf := sm30_few hs
    have hb : b.length ≤ 200 := by omega
    simp only [h2, decide_false, Int.cast_ofNat_Int, Int.reduceLT, Int.reduceLE, go_sem, ↓reduceIte, Nat.reduceEqDiff, reduceCtorEq, Nat.reduceAdd, Nat.reduceLeDiff, Nat.reduceMul, Nat.reduceSub, Int.reduceToNat]
    refine Wpi_weak (T := [(0, .share, encD 1 encU8 0 b), (4, .share, .ptr 80 0 0 1), (6, .share, .sc (.bool false)), (7, .share, .ptr 128 0 0 1), (8, .share, .ptr 144 0 0 1), (88, .thaw, encD 6 ContactPoint.enc default [⟨x.Transform.Position, x.AngularVelocity, a, c, x.GravityScale⟩])])
      (O := [(80, .box x.enc), (128, .box (jR4 x a c).enc), (144, .box ((tR4 x a c).enc.take 6 ++ [.sl 1424 0 1 1])), (1424, .frz 6 (encQ ContactPoint.enc default [⟨x.Transform.Position, x.AngularVelocity, a, c, x.GravityScale⟩]))])
      ?_ ?_
    · refine weakE_of [] [] (by simp [go_sem]) (by simp [assoc, go_sem]) (by simp [go_sem]) ?_
      simp only [jR4, tR4, List.take, List.cons_append, List.nil_append, go_sem, ↓reduceIte, Nat.reduceEqDiff, reduceCtorEq, Nat.reduceAdd, Nat.reduceLeDiff, Nat.reduceMul, Nat.reduceSub, Int.reduceToNat]
      refine ⟨avle_lit2 (l := [(⟨x.Transform.Position, x.AngularVelocity, a, c, x.GravityScale⟩ : ContactPoint)]) (fun _ _ => rfl) rfl rfl rfl, rfl, rfl, fun i hi => ?_⟩
      match i, hi with
      | 0, _ => exact avleL_refl _
    · refine Wpi_of hm ?_
      simp only [tl_R4, tR4, jR4, List.take, List.cons_append, List.nil_append, go_sem, ↓reduceIte, Nat.reduceEqDiff, reduceCtorEq, Nat.reduceAdd, Nat.reduceLeDiff, Nat.reduceMul, Nat.reduceSub, Int.reduceToNat]
      refine CallGi_flat (s_AppendBody b x (by omega) hf) rfl ?_
      simp only [beq_self_eq_true, go_sem, ↓reduceIte, Nat.reduceEqDiff, reduceCtorEq, Nat.reduceAdd, Nat.reduceLeDiff, Nat.reduceMul, Nat.reduceSub, Int.reduceToNat]
      refine ⟨fun i _ => ⟨_, rfl⟩, ?_⟩
      refine CallGi_flat (s_r45_AppendBody b x (by omega) hf) rfl ?_
      simp only [beq_self_eq_true, go_sem, ↓reduceIte, Nat.reduceEqDiff, reduceCtorEq, Nat.reduceAdd, Nat.reduceLeDiff, Nat.reduceMul, Nat.reduceSub, Int.reduceToNat]
      refine ⟨fun i _ => ⟨_, rfl⟩, ?_⟩
      refine CallGi_flat (s_AppendJoint b (jR4 x a c) (by omega)) rfl ?_
      simp only [beq_self_eq_true, go_sem, ↓reduceIte, Nat.reduceEqDiff, reduceCtorEq, Nat.reduceAdd, Nat.reduceLeDiff, Nat.reduceMul, Nat.reduceSub, Int.reduceToNat]
      refine ⟨fun i _ => ⟨_, rfl⟩, ?_⟩
      refine CallGi_flat (s_r45_AppendJoint b (jR4 x a c) (by omega)) rfl ?_
      simp only [beq_self_eq_true, go_sem, ↓reduceIte, Nat.reduceEqDiff, reduceCtorEq, Nat.reduceAdd, Nat.reduceLeDiff, Nat.reduceMul, Nat.reduceSub, Int.reduceToNat]
      refine ⟨fun i _ => ⟨_, rfl⟩, ?_⟩
      refine CallGi_thaw (s_AppendContact b (tR4 x a c) (by omega) (by simp [tR4])) ?_
      simp only [argsC, beq_self_eq_true, go_sem, ↓reduceIte, Nat.reduceEqDiff, reduceCtorEq, Nat.reduceAdd, Nat.reduceLeDiff, Nat.reduceMul, Nat.reduceSub, Int.reduceToNat]
      refine ⟨⟨rfl, rfl, rfl, rfl, rfl, rfl, avle_refl _⟩, fun i _ => ⟨_, rfl⟩, ?_⟩
      refine CallGi_thaw (s_r45_AppendContact b (tR4 x a c) (by omega) (by simp [tR4])) ?_
      simp only [argsC, beq_self_eq_true, go_sem, ↓reduceIte, Nat.reduceEqDiff, reduceCtorEq, Nat.reduceAdd, Nat.reduceLeDiff, Nat.reduceMul, Nat.reduceSub, Int.reduceToNat]
      refine ⟨⟨rfl, rfl, rfl, rfl, rfl, rfl, avle_refl _⟩, fun i _ => ⟨_, rfl⟩, ?_⟩
      refine CallGi_flat s_law45_example rfl ?_
      simp only [beq_self_eq_true, go_sem, ↓reduceIte, Nat.reduceEqDiff, reduceCtorEq, Nat.reduceAdd, Nat.reduceLeDiff, Nat.reduceMul, Nat.reduceSub, Int.reduceToNat]

end Go.Abs
