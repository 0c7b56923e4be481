/- A part of the walk: contracts of functions that the statement reaches. -/
import Derived.Test.YtpbnhfancncoiaaAbsD
import Derived.Test.YtpbnhfancncoiaaG6
set_option linter.unusedSimpArgs false
set_option linter.unusedVariables false
set_option linter.unnecessarySimpa false
set_option maxRecDepth 100000
set_option maxHeartbeats 2000000
set_option linter.unusedSimpArgs false
set_option linter.unusedVariables false
namespace Go.Abs
open Go.Proofs
open Api
theorem qCount_range (b : List Int) (s : RS) : 0 ≤ (qCount b s).1 ∧ (qCount b s).1 ≤ 8192 := by
  unfold qCount
  split
  · exact ⟨Int.le_refl _, by show (0 : Int) ≤ 8192; decide⟩
  · split
    · exact ⟨Int.le_refl _, by show (0 : Int) ≤ 8192; decide⟩
    · split
      · exact ⟨Int.le_refl _, by show (0 : Int) ≤ 8192; decide⟩
      · exact ⟨by omega, by omega⟩
theorem qN_stop {α : Type} {q : RS → α × RS} {s : RS} {i : Nat} {e : Int} (h : (qN q s i).2 = .error e) : ∀ n, i ≤ n → qN q s n = qN q s i
  | 0, hn => by obtain rfl : i = 0 := by omega
                rfl
  | n + 1, hn => by
    by_cases hi : i = n + 1
    · rw [hi]
    · have := qN_stop h n (by omega)
      simp only [qN, this, h]
      rw [← h]
theorem qN_go {α : Type} {q : RS → α × RS} {s : RS} {i : Nat} {t : Int} (h : (qN q s i).2 = .ok t) : qN q s (i + 1) = ((qN q s i).1 ++ [(q (qN q s i).2).1], (q (qN q s i).2).2) := by
  simp only [qN, h]
theorem rdE_ok {s : RS} (h : (rdE s == 0) = true) : ∃ t, s = .ok t := by
  cases s with
  | ok t => exact ⟨t, rfl⟩
  | error e => rw [show rdE (.error e) = nz e from rfl, nz_eq] at h; cases h
theorem s_r45_readKey (b : List Int) (s : RS) (hb : b.length ≤ 549755813888) (hB : bytes b) : CallsA Try.prog F_r45_readKey [.agg (rdr b s)] [] (.tup [.agg (qKey b s).1.enc, .agg (rdr b (qKey b s).2)]) [] := by
  refine callsIR'_of (rs := [_, _]) (N := 25) hm Try.func66 (by kernel_rfl) (by kernel_rfl) is_r45_readKey (by kernel_rfl) (by kernel_rfl : rvOf Try.prog Try.f66.results.toList = some [(2, some (some 4)), (3, some (some 3))]) (by decide) (by kernel_rfl) ?_
  simp only [c_r45_readKey, go_sem, ↓reduceIte, Nat.reduceEqDiff, reduceCtorEq, Nat.reduceAdd, Nat.reduceLeDiff, Nat.reduceMul, Nat.reduceSub, Int.reduceToNat]
  refine CallGi_flat (s_r45_readInts b s 4 (by decide) hb hB) rfl ?_
  simp only [qInts_len, Int.cast_ofNat_Int, Int.reduceLT, Int.reduceLE, Int.le_refl, qKey, go_sem, ↓reduceIte, Nat.reduceEqDiff, reduceCtorEq, Nat.reduceAdd, Nat.reduceLeDiff, Nat.reduceMul, Nat.reduceSub, Int.reduceToNat]
theorem s_r45_readFixture (b : List Int) (s : RS) (hb : b.length ≤ 549755813888) (hB : bytes b) : CallsA Try.prog F_r45_readFixture [.agg (rdr b s)] [] (.tup [.agg (qFixture b s).1.enc, .agg (rdr b (qFixture b s).2)]) [] := by
  refine callsIR'_of (rs := [_, _]) (N := 105) hm Try.func59 (by kernel_rfl) (by kernel_rfl) is_r45_readFixture (by kernel_rfl) (by kernel_rfl : rvOf Try.prog Try.f59.results.toList = some [(2, some (some 10)), (3, some (some 3))]) (by decide) (by kernel_rfl) ?_
  simp only [c_r45_readFixture, go_sem, ↓reduceIte, Nat.reduceEqDiff, reduceCtorEq, Nat.reduceAdd, Nat.reduceLeDiff, Nat.reduceMul, Nat.reduceSub, Int.reduceToNat]
  refine CallGi_flat (s_r45_readInts b s 2 (by decide) hb hB) rfl ?_
  have e0 := qInts_len b s 2
  generalize h0 : qInts b s 2 = y0 at *
  simp only [qInts_len, Int.cast_ofNat_Int, Int.reduceLT, Int.reduceLE, Int.le_refl, Int.toNat_natCast, e0, go_sem, ↓reduceIte, Nat.reduceEqDiff, reduceCtorEq, Nat.reduceAdd, Nat.reduceLeDiff, Nat.reduceMul, Nat.reduceSub, Int.reduceToNat]
  refine CallGi_flat (s_r45_readCount b y0.2 hb hB) rfl ?_
  have r1 := qCount_range b y0.2
  generalize g1 : qCount b y0.2 = c1 at *
  simp only [qInts_len, Int.cast_ofNat_Int, Int.reduceLT, Int.reduceLE, Int.le_refl, Int.toNat_natCast, e0, go_sem, ↓reduceIte, Nat.reduceEqDiff, reduceCtorEq, Nat.reduceAdd, Nat.reduceLeDiff, Nat.reduceMul, Nat.reduceSub, Int.reduceToNat]
  obtain ⟨n1, hn1⟩ := Int.eq_ofNat_of_zero_le r1.1
  rw [hn1]
  refine Wpi_loop hm (ι := {i : Nat // i ≤ n1 ∧ (qN (qVec b) c1.2 i).1.length = i}) (fun i => [(2, .share, .ptr 48 0 0 1), (3, .share, .ptr 64 0 0 1), (4, .share, .ptr 80 0 0 1), (7, .share, .sc (.int .i64 n1)), (8, .share, .ptr 144 0 0 1), (9, .share, .sc (.int .i64 i.1))])
    (fun i => [(48, .box Fixture.zero), (64, .box [.sc (.slice none 0 0), .sc (.int .i64 0), .sc (.int .i64 0)]), (80, .box [.sc (.int .i64 (y0.1.getD 0 0)), .sc (.int .i64 (y0.1.getD 1 0)), .sl 1 0 i.1 i.1, .sc (.int .i64 0), .sc (.int .i64 0), .sc (.int .i64 0), .sc (.bool false), .sc (.int .i64 0), .sc (.int .i64 0), .sc (.int .i64 0)]), (144, .box (rdr b (qN (qVec b) c1.2 i.1).2)), (1, .arr 2 (encQ Vec.enc default (qN (qVec b) c1.2 i.1).1))]) (fun i => n1 - i.1) ⟨0, by omega, rfl⟩ ?_ ?_
  · refine weakE_of [] [1] (by simp [go_sem]) (by simp [assoc, go_sem]) (by simp [go_sem]) ?_
    simp only [qN, List.length_nil, Fixture.zero, e0, go_sem, ↓reduceIte, Nat.reduceEqDiff, reduceCtorEq, Nat.reduceAdd, Nat.reduceLeDiff, Nat.reduceMul, Nat.reduceSub, Int.reduceToNat]
    try simp only [and_self]
    first | done | trivial | exact ⟨avle_refl _, trivial⟩ | (repeat' (with_reducible apply And.intro)) <;> first | rfl | exact avle_refl _ | exact q_same rfl | trivial
  rintro ⟨i, hi, hl⟩
  have hl : (qN (qVec b) c1.2 i).1.length = i := hl
  simp only [c_r45_readFixtureb0, qInts_len, Int.cast_ofNat_Int, Int.reduceLT, Int.reduceLE, Int.le_refl, Int.toNat_natCast, go_sem, ↓reduceIte, Nat.reduceEqDiff, reduceCtorEq, Nat.reduceAdd, Nat.reduceLeDiff, Nat.reduceMul, Nat.reduceSub, Int.reduceToNat]
  have hfin : ¬ ((if (i : Int) < (n1 : Int) then rdE (qN (qVec b) c1.2 i).2 == 0 else false) = true) → qSl (qVec b) b y0.2 = (qN (qVec b) c1.2 i) := fun hx => by
    unfold qSl
    rw [g1, hn1, Int.toNat_natCast]
    by_cases hlt : (i : Int) < (n1 : Int)
    · rw [if_pos hlt] at hx
      cases hq : (qN (qVec b) c1.2 i).2 with
      | ok t => rw [hq] at hx; exact absurd rfl hx
      | error e => exact qN_stop hq _ hi
    · obtain rfl : i = n1 := by omega
      rfl
  by_cases hx : (if (i : Int) < (n1 : Int) then rdE (qN (qVec b) c1.2 i).2 == 0 else false) = true
  · clear hfin
    rw [if_pos hx]
    have hlt : i < n1 := by
      rcases Nat.lt_or_ge i n1 with h | h
      · exact h
      · rw [if_neg (by omega)] at hx; cases hx
    rw [if_pos (by omega)] at hx
    obtain ⟨t, ht⟩ := rdE_ok hx
    have hst := qN_go ht
    have hl2 : (qN (qVec b) c1.2 (i + 1)).1.length = i + 1 := by rw [hst, List.length_append, hl]; rfl
    refine CallGi_flat (s_r45_readVec b (qN (qVec b) c1.2 i).2 hb hB) rfl ?_
    simp only [qInts_len, Int.cast_ofNat_Int, Int.reduceLT, Int.reduceLE, Int.le_refl, Int.toNat_natCast, e0, go_sem, ↓reduceIte, Nat.reduceEqDiff, reduceCtorEq, Nat.reduceAdd, Nat.reduceLeDiff, Nat.reduceMul, Nat.reduceSub, Int.reduceToNat]
    refine ⟨⟨hl.symm, hl.symm, by rw [hl]; omega, by rw [hl]; simp only [maxLen]; omega⟩, ?_⟩
    refine loop_next ⟨i + 1, by omega, hl2⟩ (by show n1 - (i + 1) < n1 - i; omega) (weakE_of [] [] (by simp [go_sem]) (by simp [assoc, go_sem]) (by simp [go_sem]) ?_)
    simp only [hst, hl, Fixture.zero, qInts_len, Int.cast_ofNat_Int, Int.reduceLT, Int.reduceLE, Int.le_refl, Int.toNat_natCast, go_sem, ↓reduceIte, Nat.reduceEqDiff, reduceCtorEq, Nat.reduceAdd, Nat.reduceLeDiff, Nat.reduceMul, Nat.reduceSub, Int.reduceToNat]
    refine ⟨(by rw [IntKind.wrap_i64]; omega), ?_⟩
    (repeat' (with_reducible apply And.intro)) <;> first | rfl | exact avle_refl _ | exact q_app1 (qVec b (qN (qVec b) c1.2 i).2).1 rfl rfl | exact q_same rfl
  rw [if_neg hx]
  have h1 := hfin hx
  clear hx hfin
  generalize (qN (qVec b) c1.2 i) = y1 at *
  refine CallGi_flat (s_r45_readInts b y1.2 3 (by decide) hb hB) rfl ?_
  have e2 := qInts_len b y1.2 3
  generalize h2 : qInts b y1.2 3 = y2 at *
  simp only [qInts_len, Int.cast_ofNat_Int, Int.reduceLT, Int.reduceLE, Int.le_refl, Int.toNat_natCast, e0, e2, go_sem, ↓reduceIte, Nat.reduceEqDiff, reduceCtorEq, Nat.reduceAdd, Nat.reduceLeDiff, Nat.reduceMul, Nat.reduceSub, Int.reduceToNat]
  refine CallGi_flat (s_r45_readBool b y2.2 hb hB) rfl ?_
  generalize h3 : qBool b y2.2 = y3 at *
  simp only [qInts_len, Int.cast_ofNat_Int, Int.reduceLT, Int.reduceLE, Int.le_refl, Int.toNat_natCast, e0, e2, go_sem, ↓reduceIte, Nat.reduceEqDiff, reduceCtorEq, Nat.reduceAdd, Nat.reduceLeDiff, Nat.reduceMul, Nat.reduceSub, Int.reduceToNat]
  refine CallGi_flat (s_r45_readInts b y3.2 3 (by decide) hb hB) rfl ?_
  have e4 := qInts_len b y3.2 3
  generalize h4 : qInts b y3.2 3 = y4 at *
  simp only [qInts_len, Int.cast_ofNat_Int, Int.reduceLT, Int.reduceLE, Int.le_refl, Int.toNat_natCast, e0, e2, e4, go_sem, ↓reduceIte, Nat.reduceEqDiff, reduceCtorEq, Nat.reduceAdd, Nat.reduceLeDiff, Nat.reduceMul, Nat.reduceSub, Int.reduceToNat]
  simp only [qFixture, h0, h1, h2, h3, h4, qInts_len, Int.cast_ofNat_Int, Int.reduceLT, Int.reduceLE, Int.le_refl, Int.toNat_natCast, go_sem, ↓reduceIte, Nat.reduceEqDiff, reduceCtorEq, Nat.reduceAdd, Nat.reduceLeDiff, Nat.reduceMul, Nat.reduceSub, Int.reduceToNat]
  first | done | exact ⟨hl.symm, by rw [hl]; exact avle_refl _⟩ | exact ⟨⟨hl.symm, by rw [hl]; exact avle_refl _⟩, avle_refl _, rfl, rfl⟩ | exact avle_refl _ | trace_state
theorem s_r45_readContact (b : List Int) (s : RS) (hb : b.length ≤ 549755813888) (hB : bytes b) : CallsA Try.prog F_r45_readContact [.agg (rdr b s)] [] (.tup [.agg (qContact b s).1.enc, .agg (rdr b (qContact b s).2)]) [] := by
  refine callsIR'_of (rs := [_, _]) (N := 79) hm Try.func40 (by kernel_rfl) (by kernel_rfl) is_r45_readContact (by kernel_rfl) (by kernel_rfl : rvOf Try.prog Try.f40.results.toList = some [(2, some (some 7)), (3, some (some 3))]) (by decide) (by kernel_rfl) ?_
  simp only [c_r45_readContact, go_sem, ↓reduceIte, Nat.reduceEqDiff, reduceCtorEq, Nat.reduceAdd, Nat.reduceLeDiff, Nat.reduceMul, Nat.reduceSub, Int.reduceToNat]
  refine CallGi_flat (s_r45_readKey b s hb hB) rfl ?_
  generalize h0 : qKey b s = y0 at *
  simp only [qInts_len, Int.cast_ofNat_Int, Int.reduceLT, Int.reduceLE, Int.le_refl, Int.toNat_natCast, go_sem, ↓reduceIte, Nat.reduceEqDiff, reduceCtorEq, Nat.reduceAdd, Nat.reduceLeDiff, Nat.reduceMul, Nat.reduceSub, Int.reduceToNat]
  refine CallGi_flat (s_r45_readVec b y0.2 hb hB) rfl ?_
  generalize h1 : qVec b y0.2 = y1 at *
  simp only [qInts_len, Int.cast_ofNat_Int, Int.reduceLT, Int.reduceLE, Int.le_refl, Int.toNat_natCast, go_sem, ↓reduceIte, Nat.reduceEqDiff, reduceCtorEq, Nat.reduceAdd, Nat.reduceLeDiff, Nat.reduceMul, Nat.reduceSub, Int.reduceToNat]
  refine CallGi_flat (s_r45_readCount b y1.2 hb hB) rfl ?_
  have r2 := qCount_range b y1.2
  generalize g2 : qCount b y1.2 = c2 at *
  simp only [qInts_len, Int.cast_ofNat_Int, Int.reduceLT, Int.reduceLE, Int.le_refl, Int.toNat_natCast, go_sem, ↓reduceIte, Nat.reduceEqDiff, reduceCtorEq, Nat.reduceAdd, Nat.reduceLeDiff, Nat.reduceMul, Nat.reduceSub, Int.reduceToNat]
  obtain ⟨n2, hn2⟩ := Int.eq_ofNat_of_zero_le r2.1
  rw [hn2]
  refine Wpi_loop hm (ι := {i : Nat // i ≤ n2 ∧ (qN (qContactPoint b) c2.2 i).1.length = i}) (fun i => [(2, .share, .ptr 48 0 0 1), (3, .share, .ptr 64 0 0 1), (4, .share, .ptr 80 0 0 1), (9, .share, .sc (.int .i64 n2)), (10, .share, .ptr 176 0 0 1), (11, .share, .sc (.int .i64 i.1))])
    (fun i => [(48, .box Contact.zero), (64, .box [.sc (.slice none 0 0), .sc (.int .i64 0), .sc (.int .i64 0)]), (80, .box [.sc (.int .i64 y0.1.BodyA), .sc (.int .i64 y0.1.FixtureA), .sc (.int .i64 y0.1.BodyB), .sc (.int .i64 y0.1.FixtureB), .sc (.int .i64 y1.1.X), .sc (.int .i64 y1.1.Y), .sl 1 0 i.1 i.1]), (176, .box (rdr b (qN (qContactPoint b) c2.2 i.1).2)), (1, .arr 6 (encQ ContactPoint.enc default (qN (qContactPoint b) c2.2 i.1).1))]) (fun i => n2 - i.1) ⟨0, by omega, rfl⟩ ?_ ?_
  · refine weakE_of [] [1] (by simp [go_sem]) (by simp [assoc, go_sem]) (by simp [go_sem]) ?_
    simp only [qN, List.length_nil, Contact.zero, go_sem, ↓reduceIte, Nat.reduceEqDiff, reduceCtorEq, Nat.reduceAdd, Nat.reduceLeDiff, Nat.reduceMul, Nat.reduceSub, Int.reduceToNat]
    try simp only [and_self]
    first | done | trivial | exact ⟨avle_refl _, trivial⟩ | (repeat' (with_reducible apply And.intro)) <;> first | rfl | exact avle_refl _ | exact q_same rfl | trivial
  rintro ⟨i, hi, hl⟩
  have hl : (qN (qContactPoint b) c2.2 i).1.length = i := hl
  simp only [c_r45_readContactb0, qInts_len, Int.cast_ofNat_Int, Int.reduceLT, Int.reduceLE, Int.le_refl, Int.toNat_natCast, go_sem, ↓reduceIte, Nat.reduceEqDiff, reduceCtorEq, Nat.reduceAdd, Nat.reduceLeDiff, Nat.reduceMul, Nat.reduceSub, Int.reduceToNat]
  have hfin : ¬ ((if (i : Int) < (n2 : Int) then rdE (qN (qContactPoint b) c2.2 i).2 == 0 else false) = true) → qSl (qContactPoint b) b y1.2 = (qN (qContactPoint b) c2.2 i) := fun hx => by
    unfold qSl
    rw [g2, hn2, Int.toNat_natCast]
    by_cases hlt : (i : Int) < (n2 : Int)
    · rw [if_pos hlt] at hx
      cases hq : (qN (qContactPoint b) c2.2 i).2 with
      | ok t => rw [hq] at hx; exact absurd rfl hx
      | error e => exact qN_stop hq _ hi
    · obtain rfl : i = n2 := by omega
      rfl
  by_cases hx : (if (i : Int) < (n2 : Int) then rdE (qN (qContactPoint b) c2.2 i).2 == 0 else false) = true
  · clear hfin
    rw [if_pos hx]
    have hlt : i < n2 := by
      rcases Nat.lt_or_ge i n2 with h | h
      · exact h
      · rw [if_neg (by omega)] at hx; cases hx
    rw [if_pos (by omega)] at hx
    obtain ⟨t, ht⟩ := rdE_ok hx
    have hst := qN_go ht
    have hl2 : (qN (qContactPoint b) c2.2 (i + 1)).1.length = i + 1 := by rw [hst, List.length_append, hl]; rfl
    refine CallGi_flat (s_r45_readInts b (qN (qContactPoint b) c2.2 i).2 6 (by decide) hb hB) rfl ?_
    simp only [qInts_len, Int.cast_ofNat_Int, Int.reduceLT, Int.reduceLE, Int.le_refl, Int.toNat_natCast, go_sem, ↓reduceIte, Nat.reduceEqDiff, reduceCtorEq, Nat.reduceAdd, Nat.reduceLeDiff, Nat.reduceMul, Nat.reduceSub, Int.reduceToNat]
    refine ⟨⟨hl.symm, hl.symm, by rw [hl]; omega, by rw [hl]; simp only [maxLen]; omega⟩, ?_⟩
    refine loop_next ⟨i + 1, by omega, hl2⟩ (by show n2 - (i + 1) < n2 - i; omega) (weakE_of [] [] (by simp [go_sem]) (by simp [assoc, go_sem]) (by simp [go_sem]) ?_)
    simp only [hst, hl, Contact.zero, qInts_len, Int.cast_ofNat_Int, Int.reduceLT, Int.reduceLE, Int.le_refl, Int.toNat_natCast, qContactPoint, go_sem, ↓reduceIte, Nat.reduceEqDiff, reduceCtorEq, Nat.reduceAdd, Nat.reduceLeDiff, Nat.reduceMul, Nat.reduceSub, Int.reduceToNat]
    refine ⟨(by rw [IntKind.wrap_i64]; omega), ?_⟩
    (repeat' (with_reducible apply And.intro)) <;> first | rfl | exact avle_refl _ | exact q_app1 (qContactPoint b (qN (qContactPoint b) c2.2 i).2).1 rfl rfl | exact q_same rfl
  rw [if_neg hx]
  have h2 := hfin hx
  clear hx hfin
  generalize (qN (qContactPoint b) c2.2 i) = y2 at *
  simp only [qContact, h0, h1, h2, qInts_len, Int.cast_ofNat_Int, Int.reduceLT, Int.reduceLE, Int.le_refl, Int.toNat_natCast, go_sem, ↓reduceIte, Nat.reduceEqDiff, reduceCtorEq, Nat.reduceAdd, Nat.reduceLeDiff, Nat.reduceMul, Nat.reduceSub, Int.reduceToNat]
  first | done | exact ⟨hl.symm, by rw [hl]; exact avle_refl _⟩ | exact ⟨⟨hl.symm, by rw [hl]; exact avle_refl _⟩, avle_refl _, rfl, rfl⟩ | exact avle_refl _ | trace_state
theorem s_r45_readBody (b : List Int) (s : RS) (hb : b.length ≤ 549755813888) (hB : bytes b) : CallsA Try.prog F_r45_readBody [.agg (rdr b s)] [] (.tup [.agg (qBody b s).1.enc, .agg (rdr b (qBody b s).2)]) [] := by
  refine callsIR'_of (rs := [_, _]) (N := 154) hm Try.func33 (by kernel_rfl) (by kernel_rfl) is_r45_readBody (by kernel_rfl) (by kernel_rfl : rvOf Try.prog Try.f33.results.toList = some [(2, some (some 20)), (3, some (some 3))]) (by decide) (by kernel_rfl) ?_
  simp only [c_r45_readBody, go_sem, ↓reduceIte, Nat.reduceEqDiff, reduceCtorEq, Nat.reduceAdd, Nat.reduceLeDiff, Nat.reduceMul, Nat.reduceSub, Int.reduceToNat]
  refine CallGi_flat (s_r45_readInts b s 8 (by decide) hb hB) rfl ?_
  have e0 := qInts_len b s 8
  generalize h0 : qInts b s 8 = y0 at *
  simp only [qInts_len, Int.cast_ofNat_Int, Int.reduceLT, Int.reduceLE, Int.le_refl, Int.toNat_natCast, e0, go_sem, ↓reduceIte, Nat.reduceEqDiff, reduceCtorEq, Nat.reduceAdd, Nat.reduceLeDiff, Nat.reduceMul, Nat.reduceSub, Int.reduceToNat]
  refine CallGi_flat (s_r45_readInts b y0.2 6 (by decide) hb hB) rfl ?_
  have e1 := qInts_len b y0.2 6
  generalize h1 : qInts b y0.2 6 = y1 at *
  simp only [qInts_len, Int.cast_ofNat_Int, Int.reduceLT, Int.reduceLE, Int.le_refl, Int.toNat_natCast, e0, e1, go_sem, ↓reduceIte, Nat.reduceEqDiff, reduceCtorEq, Nat.reduceAdd, Nat.reduceLeDiff, Nat.reduceMul, Nat.reduceSub, Int.reduceToNat]
  refine CallGi_flat (s_r45_readBool b y1.2 hb hB) rfl ?_
  generalize h2 : qBool b y1.2 = y2 at *
  simp only [qInts_len, Int.cast_ofNat_Int, Int.reduceLT, Int.reduceLE, Int.le_refl, Int.toNat_natCast, e0, e1, go_sem, ↓reduceIte, Nat.reduceEqDiff, reduceCtorEq, Nat.reduceAdd, Nat.reduceLeDiff, Nat.reduceMul, Nat.reduceSub, Int.reduceToNat]
  refine CallGi_flat (s_r45_readBool b y2.2 hb hB) rfl ?_
  generalize h3 : qBool b y2.2 = y3 at *
  simp only [qInts_len, Int.cast_ofNat_Int, Int.reduceLT, Int.reduceLE, Int.le_refl, Int.toNat_natCast, e0, e1, go_sem, ↓reduceIte, Nat.reduceEqDiff, reduceCtorEq, Nat.reduceAdd, Nat.reduceLeDiff, Nat.reduceMul, Nat.reduceSub, Int.reduceToNat]
  refine CallGi_flat (s_r45_readBool b y3.2 hb hB) rfl ?_
  generalize h4 : qBool b y3.2 = y4 at *
  simp only [qInts_len, Int.cast_ofNat_Int, Int.reduceLT, Int.reduceLE, Int.le_refl, Int.toNat_natCast, e0, e1, go_sem, ↓reduceIte, Nat.reduceEqDiff, reduceCtorEq, Nat.reduceAdd, Nat.reduceLeDiff, Nat.reduceMul, Nat.reduceSub, Int.reduceToNat]
  refine CallGi_flat (s_r45_readBool b y4.2 hb hB) rfl ?_
  generalize h5 : qBool b y4.2 = y5 at *
  simp only [qInts_len, Int.cast_ofNat_Int, Int.reduceLT, Int.reduceLE, Int.le_refl, Int.toNat_natCast, e0, e1, go_sem, ↓reduceIte, Nat.reduceEqDiff, reduceCtorEq, Nat.reduceAdd, Nat.reduceLeDiff, Nat.reduceMul, Nat.reduceSub, Int.reduceToNat]
  refine CallGi_flat (s_r45_readInt b y5.2 hb hB) rfl ?_
  generalize h6 : qInt b y5.2 = y6 at *
  simp only [qInts_len, Int.cast_ofNat_Int, Int.reduceLT, Int.reduceLE, Int.le_refl, Int.toNat_natCast, e0, e1, go_sem, ↓reduceIte, Nat.reduceEqDiff, reduceCtorEq, Nat.reduceAdd, Nat.reduceLeDiff, Nat.reduceMul, Nat.reduceSub, Int.reduceToNat]
  refine CallGi_flat (s_r45_readCount b y6.2 hb hB) rfl ?_
  have r7 := qCount_range b y6.2
  generalize g7 : qCount b y6.2 = c7 at *
  simp only [qInts_len, Int.cast_ofNat_Int, Int.reduceLT, Int.reduceLE, Int.le_refl, Int.toNat_natCast, e0, e1, go_sem, ↓reduceIte, Nat.reduceEqDiff, reduceCtorEq, Nat.reduceAdd, Nat.reduceLeDiff, Nat.reduceMul, Nat.reduceSub, Int.reduceToNat]
  obtain ⟨n7, hn7⟩ := Int.eq_ofNat_of_zero_le r7.1
  rw [hn7]
  refine Wpi_loop hm (ι := {i : Nat // i ≤ n7 ∧ (qN (qFixture b) c7.2 i).1.length = i}) (fun i => [(2, .share, .ptr 48 0 0 1), (3, .share, .ptr 64 0 0 1), (4, .share, .ptr 80 0 0 1), (19, .share, .sc (.int .i64 n7)), (20, .share, .ptr 336 0 0 1), (21, .share, .sc (.int .i64 i.1))])
    (fun i => [(48, .box Body.zero), (64, .box [.sc (.slice none 0 0), .sc (.int .i64 0), .sc (.int .i64 0)]), (80, .box [.sc (.int .i64 (y0.1.getD 0 0)), .sc (.int .i64 (y0.1.getD 1 0)), .sc (.int .i64 (y0.1.getD 2 0)), .sc (.int .i64 (y0.1.getD 3 0)), .sc (.int .i64 (y0.1.getD 4 0)), .sc (.int .i64 (y0.1.getD 5 0)), .sc (.int .i64 (y0.1.getD 6 0)), .sc (.int .i64 (y0.1.getD 7 0)), .sc (.int .i64 (y1.1.getD 0 0)), .sc (.int .i64 (y1.1.getD 1 0)), .sc (.int .i64 (y1.1.getD 2 0)), .sc (.int .i64 (y1.1.getD 3 0)), .sc (.int .i64 (y1.1.getD 4 0)), .sc (.int .i64 (y1.1.getD 5 0)), .sc (.bool y2.1), .sc (.bool y3.1), .sc (.bool y4.1), .sc (.bool y5.1), .sc (.int .i64 y6.1), .sl 1 0 i.1 i.1]), (336, .box (rdr b (qN (qFixture b) c7.2 i.1).2)), (1, .arr 10 (encQ Fixture.enc default (qN (qFixture b) c7.2 i.1).1))]) (fun i => n7 - i.1) ⟨0, by omega, rfl⟩ ?_ ?_
  · refine weakE_of [] [1] (by simp [go_sem]) (by simp [assoc, go_sem]) (by simp [go_sem]) ?_
    simp only [qN, List.length_nil, Body.zero, e0, e1, go_sem, ↓reduceIte, Nat.reduceEqDiff, reduceCtorEq, Nat.reduceAdd, Nat.reduceLeDiff, Nat.reduceMul, Nat.reduceSub, Int.reduceToNat]
    try simp only [and_self]
    first | done | trivial | exact ⟨avle_refl _, trivial⟩ | (repeat' (with_reducible apply And.intro)) <;> first | rfl | exact avle_refl _ | exact q_same rfl | trivial
  rintro ⟨i, hi, hl⟩
  have hl : (qN (qFixture b) c7.2 i).1.length = i := hl
  simp only [c_r45_readBodyb0, qInts_len, Int.cast_ofNat_Int, Int.reduceLT, Int.reduceLE, Int.le_refl, Int.toNat_natCast, go_sem, ↓reduceIte, Nat.reduceEqDiff, reduceCtorEq, Nat.reduceAdd, Nat.reduceLeDiff, Nat.reduceMul, Nat.reduceSub, Int.reduceToNat]
  have hfin : ¬ ((if (i : Int) < (n7 : Int) then rdE (qN (qFixture b) c7.2 i).2 == 0 else false) = true) → qSl (qFixture b) b y6.2 = (qN (qFixture b) c7.2 i) := fun hx => by
    unfold qSl
    rw [g7, hn7, Int.toNat_natCast]
    by_cases hlt : (i : Int) < (n7 : Int)
    · rw [if_pos hlt] at hx
      cases hq : (qN (qFixture b) c7.2 i).2 with
      | ok t => rw [hq] at hx; exact absurd rfl hx
      | error e => exact qN_stop hq _ hi
    · obtain rfl : i = n7 := by omega
      rfl
  by_cases hx : (if (i : Int) < (n7 : Int) then rdE (qN (qFixture b) c7.2 i).2 == 0 else false) = true
  · clear hfin
    rw [if_pos hx]
    have hlt : i < n7 := by
      rcases Nat.lt_or_ge i n7 with h | h
      · exact h
      · rw [if_neg (by omega)] at hx; cases hx
    rw [if_pos (by omega)] at hx
    obtain ⟨t, ht⟩ := rdE_ok hx
    have hst := qN_go ht
    have hl2 : (qN (qFixture b) c7.2 (i + 1)).1.length = i + 1 := by rw [hst, List.length_append, hl]; rfl
    refine CallGi_flat (s_r45_readFixture b (qN (qFixture b) c7.2 i).2 hb hB) rfl ?_
    simp only [qInts_len, Int.cast_ofNat_Int, Int.reduceLT, Int.reduceLE, Int.le_refl, Int.toNat_natCast, e0, e1, go_sem, ↓reduceIte, Nat.reduceEqDiff, reduceCtorEq, Nat.reduceAdd, Nat.reduceLeDiff, Nat.reduceMul, Nat.reduceSub, Int.reduceToNat]
    refine ⟨⟨hl.symm, hl.symm, by rw [hl]; omega, by rw [hl]; simp only [maxLen]; omega⟩, ?_⟩
    refine loop_next ⟨i + 1, by omega, hl2⟩ (by show n7 - (i + 1) < n7 - i; omega) (weakE_of [] [] (by simp [go_sem]) (by simp [assoc, go_sem]) (by simp [go_sem]) ?_)
    simp only [hst, hl, Body.zero, qInts_len, Int.cast_ofNat_Int, Int.reduceLT, Int.reduceLE, Int.le_refl, Int.toNat_natCast, go_sem, ↓reduceIte, Nat.reduceEqDiff, reduceCtorEq, Nat.reduceAdd, Nat.reduceLeDiff, Nat.reduceMul, Nat.reduceSub, Int.reduceToNat]
    refine ⟨(by rw [IntKind.wrap_i64]; omega), ?_⟩
    (repeat' (with_reducible apply And.intro)) <;> first | rfl | exact avle_refl _ | exact q_app1 (qFixture b (qN (qFixture b) c7.2 i).2).1 rfl rfl | exact q_same rfl
  rw [if_neg hx]
  have h7 := hfin hx
  clear hx hfin
  generalize (qN (qFixture b) c7.2 i) = y7 at *
  simp only [qBody, h0, h1, h2, h3, h4, h5, h6, h7, qInts_len, Int.cast_ofNat_Int, Int.reduceLT, Int.reduceLE, Int.le_refl, Int.toNat_natCast, go_sem, ↓reduceIte, Nat.reduceEqDiff, reduceCtorEq, Nat.reduceAdd, Nat.reduceLeDiff, Nat.reduceMul, Nat.reduceSub, Int.reduceToNat]
  first | done | exact ⟨hl.symm, by rw [hl]; exact avle_refl _⟩ | exact ⟨⟨hl.symm, by rw [hl]; exact avle_refl _⟩, avle_refl _, rfl, rfl⟩ | exact avle_refl _ | trace_state
theorem s_r45_readJoint (b : List Int) (s : RS) (hb : b.length ≤ 549755813888) (hB : bytes b) : CallsA Try.prog F_r45_readJoint [.agg (rdr b s)] [] (.tup [.agg (qJoint b s).1.enc, .agg (rdr b (qJoint b s).2)]) [] := by
  refine callsIR'_of (rs := [_, _]) (N := 144) hm Try.func37 (by kernel_rfl) (by kernel_rfl) is_r45_readJoint (by kernel_rfl) (by kernel_rfl : rvOf Try.prog Try.f37.results.toList = some [(2, some (some 24)), (3, some (some 3))]) (by decide) (by kernel_rfl) ?_
  simp only [c_r45_readJoint, go_sem, ↓reduceIte, Nat.reduceEqDiff, reduceCtorEq, Nat.reduceAdd, Nat.reduceLeDiff, Nat.reduceMul, Nat.reduceSub, Int.reduceToNat]
  refine CallGi_flat (s_r45_readInts b s 11 (by decide) hb hB) rfl ?_
  have e0 := qInts_len b s 11
  generalize h0 : qInts b s 11 = y0 at *
  simp only [qInts_len, Int.cast_ofNat_Int, Int.reduceLT, Int.reduceLE, Int.le_refl, Int.toNat_natCast, e0, go_sem, ↓reduceIte, Nat.reduceEqDiff, reduceCtorEq, Nat.reduceAdd, Nat.reduceLeDiff, Nat.reduceMul, Nat.reduceSub, Int.reduceToNat]
  refine CallGi_flat (s_r45_readBool b y0.2 hb hB) rfl ?_
  generalize h1 : qBool b y0.2 = y1 at *
  simp only [qInts_len, Int.cast_ofNat_Int, Int.reduceLT, Int.reduceLE, Int.le_refl, Int.toNat_natCast, e0, go_sem, ↓reduceIte, Nat.reduceEqDiff, reduceCtorEq, Nat.reduceAdd, Nat.reduceLeDiff, Nat.reduceMul, Nat.reduceSub, Int.reduceToNat]
  refine CallGi_flat (s_r45_readInts b y1.2 2 (by decide) hb hB) rfl ?_
  have e2 := qInts_len b y1.2 2
  generalize h2 : qInts b y1.2 2 = y2 at *
  simp only [qInts_len, Int.cast_ofNat_Int, Int.reduceLT, Int.reduceLE, Int.le_refl, Int.toNat_natCast, e0, e2, go_sem, ↓reduceIte, Nat.reduceEqDiff, reduceCtorEq, Nat.reduceAdd, Nat.reduceLeDiff, Nat.reduceMul, Nat.reduceSub, Int.reduceToNat]
  refine CallGi_flat (s_r45_readBool b y2.2 hb hB) rfl ?_
  generalize h3 : qBool b y2.2 = y3 at *
  simp only [qInts_len, Int.cast_ofNat_Int, Int.reduceLT, Int.reduceLE, Int.le_refl, Int.toNat_natCast, e0, e2, go_sem, ↓reduceIte, Nat.reduceEqDiff, reduceCtorEq, Nat.reduceAdd, Nat.reduceLeDiff, Nat.reduceMul, Nat.reduceSub, Int.reduceToNat]
  refine CallGi_flat (s_r45_readInts b y3.2 4 (by decide) hb hB) rfl ?_
  have e4 := qInts_len b y3.2 4
  generalize h4 : qInts b y3.2 4 = y4 at *
  simp only [qInts_len, Int.cast_ofNat_Int, Int.reduceLT, Int.reduceLE, Int.le_refl, Int.toNat_natCast, e0, e2, e4, go_sem, ↓reduceIte, Nat.reduceEqDiff, reduceCtorEq, Nat.reduceAdd, Nat.reduceLeDiff, Nat.reduceMul, Nat.reduceSub, Int.reduceToNat]
  refine CallGi_flat (s_r45_readBool b y4.2 hb hB) rfl ?_
  generalize h5 : qBool b y4.2 = y5 at *
  simp only [qInts_len, Int.cast_ofNat_Int, Int.reduceLT, Int.reduceLE, Int.le_refl, Int.toNat_natCast, e0, e2, e4, go_sem, ↓reduceIte, Nat.reduceEqDiff, reduceCtorEq, Nat.reduceAdd, Nat.reduceLeDiff, Nat.reduceMul, Nat.reduceSub, Int.reduceToNat]
  refine CallGi_flat (s_r45_readInts b y5.2 4 (by decide) hb hB) rfl ?_
  have e6 := qInts_len b y5.2 4
  generalize h6 : qInts b y5.2 4 = y6 at *
  simp only [qInts_len, Int.cast_ofNat_Int, Int.reduceLT, Int.reduceLE, Int.le_refl, Int.toNat_natCast, e0, e2, e4, e6, go_sem, ↓reduceIte, Nat.reduceEqDiff, reduceCtorEq, Nat.reduceAdd, Nat.reduceLeDiff, Nat.reduceMul, Nat.reduceSub, Int.reduceToNat]
  simp only [qJoint, h0, h1, h2, h3, h4, h5, h6, qInts_len, Int.cast_ofNat_Int, Int.reduceLT, Int.reduceLE, Int.le_refl, Int.toNat_natCast, go_sem, ↓reduceIte, Nat.reduceEqDiff, reduceCtorEq, Nat.reduceAdd, Nat.reduceLeDiff, Nat.reduceMul, Nat.reduceSub, Int.reduceToNat]
  first | done | exact ⟨hl.symm, by rw [hl]; exact avle_refl _⟩ | exact ⟨⟨hl.symm, by rw [hl]; exact avle_refl _⟩, avle_refl _, rfl, rfl⟩ | exact avle_refl _ | trace_state

end Go.Abs
