/- A part of the walk: contracts of functions that the statement reaches. -/
import Derived.Test.YtpbnhfancncoiaaAbsD
import Derived.Test.YtpbnhfancncoiaaF2
set_option linter.unusedSimpArgs false
set_option linter.unusedVariables false
set_option linter.unnecessarySimpa false
set_option maxRecDepth 100000
set_option maxHeartbeats 2000000
set_option linter.unusedSimpArgs false
set_option linter.unusedVariables false
namespace Go.Abs
open Go.Proofs
open Api
def rN {α : Type} (p : Int → Except Int (α × Int)) (t : Int) : Nat → Except Int (List α × Int)
  | 0 => .ok ([], t)
  | n + 1 => match rN p t n with
    | .error e => .error e
    | .ok x => match p x.2 with
      | .error e => .error e
      | .ok y => .ok (x.1 ++ [y.1], y.2)
theorem rN_len {α : Type} {p : Int → Except Int (α × Int)} {t : Int} : ∀ {n : Nat} {x : List α × Int}, rN p t n = .ok x → x.1.length = n
  | 0, x, h => by cases h; rfl
  | n + 1, x, h => by
    simp only [rN] at h
    split at h
    · cases h
    · rename_i y hy
      split at h
      · cases h
      · cases h
        have := rN_len hy
        simp [this]
theorem rN_err {α : Type} {p : Int → Except Int (α × Int)} {t : Int} {i : Nat} {e : Int} (h : rN p t i = .error e) : ∀ {n : Nat}, i ≤ n → rN p t n = .error e
  | 0, hn => by obtain rfl : i = 0 := by omega
                exact h
  | n + 1, hn => by
    by_cases hi : i = n + 1
    · subst hi; exact h
    · simp only [rN]; rw [rN_err h (by omega)]
def rSl {α : Type} (p : Int → Except Int (α × Int)) (b : List Int) (at' : Int) : Except Int (List α × Int) :=
  match rLen b at' with
  | .error e => .error e
  | .ok x => rN p x.2 x.1.toNat

theorem s_dec_slice_Vec (b : List Int) (at' : Int) (hb : b.length ≤ 549755813888) (hB : bytes b) (p : Int → Except Int (Vec × Int)) (f : Nat)
    (hp : ∀ t, CallsT Try.prog evD f [.ptr 1 0 0 1] (dO b t) (tRes (fun x : Vec × Int => [.agg (Vec.enc x.1)]) (fun x => dO b x.2) (p t))) :
    CallsT Try.prog evD F_snapshot_slice_Vec [.ptr 1 0 0 1, .fn (.func f) [.ptr 1 0 0 1] []] (dO b at') (tRes (fun x : List Vec × Int => [encD 2 Vec.enc default x.1]) (fun x => dO b x.2) (rSl p b at')) := by
  refine callsT_of (N := 19) hm Try.func77 (by kernel_rfl) (by kernel_rfl) is_snapshot_slice_Vec (by kernel_rfl) (by kernel_rfl : rvOf Try.prog Try.f77.results.toList = some [(4, none)]) (by decide) (by kernel_rfl) ?_
  simp only [c_snapshot_slice_Vec, go_sem, ↓reduceIte, Nat.reduceEqDiff, reduceCtorEq, Nat.reduceAdd, Nat.reduceLeDiff, Nat.reduceMul, Nat.reduceSub, Int.reduceToNat]
  refine CallGiT_sub (s_dec_length b at' hb hB) rfl (okO_dO _ _) (fun _ => rfl) (by simp [go_sem]) (by simp [go_sem, AV.ids]) rfl (fun e he => tRes_err (by unfold rSl; rw [he])) (fun x he => ?_)
  obtain ⟨n0, t0⟩ := x
  obtain ⟨hn0, hn1, -⟩ := rLen_ok he
  obtain ⟨n, rfl⟩ := Int.eq_ofNat_of_zero_le hn0
  have hsp : rSl p b at' = rN p t0 n := by unfold rSl; rw [he]; rfl
  simp only [go_sem, ↓reduceIte, Nat.reduceEqDiff, reduceCtorEq, Nat.reduceAdd, Nat.reduceLeDiff, Nat.reduceMul, Nat.reduceSub, Int.reduceToNat]
  refine WpiT_loop hm (ι := {i : Nat × List Vec × Int // i.1 ≤ n ∧ rN p t0 i.1 = .ok i.2}) (fun i => [(1, .share, .fn (.func f) [.ptr 1 0 0 1] []), (6, if i.1.1 = 0 then .adopt else .share, .sl 2 0 i.1.1 i.1.1), (9, .share, .sc (.int .i64 n)), (10, .share, .sc (.int .i64 i.1.1))])
    (fun i => [(1, .box [encD 1 encU8 0 b, .sc (.int .i64 i.1.2.2)]), (2, .arr 2 (encQ Vec.enc default i.1.2.1))]) (fun i => n - i.1.1) ⟨(0, [], t0), by omega, rfl⟩ ?_ ?_
  · refine weakE_of [] [2] (by simp [go_sem]) (by simp [assoc, go_sem]) (by simp [go_sem]) ?_
    simp only [List.length_nil, go_sem, ↓reduceIte, Nat.reduceEqDiff, reduceCtorEq, Nat.reduceAdd, Nat.reduceLeDiff, Nat.reduceMul, Nat.reduceSub, Int.reduceToNat]
    try simp
  · rintro ⟨⟨i, l, t⟩, hi, hr⟩
    have hl : l.length = i := rN_len hr
    have hi : i ≤ n := hi
    have hr : rN p t0 i = .ok (l, t) := hr
    simp only [c_snapshot_slice_Vecb0, go_sem, ↓reduceIte, Nat.reduceEqDiff, reduceCtorEq, Nat.reduceAdd, Nat.reduceLeDiff, Nat.reduceMul, Nat.reduceSub, Int.reduceToNat]
    by_cases hlt : i < n
    · rw [if_pos (by omega)]
      refine CallGiT_sub (O := dO b t) (hp t) rfl (okO_dO _ _) (fun _ => rfl) (by simp [go_sem]) (by simp [go_sem, AV.ids]) rfl (fun e he' => tRes_err ?_) (fun x he' => ?_)
      · rw [hsp]
        refine rN_err (i := i + 1) ?_ (by omega)
        simp only [rN]; rw [hr]; simp only [he']
      · have hr2 : rN p t0 (i + 1) = .ok (l ++ [x.1], x.2) := by simp only [rN]; rw [hr]; simp only [he']
        simp only [go_sem, ↓reduceIte, Nat.reduceEqDiff, reduceCtorEq, Nat.reduceAdd, Nat.reduceLeDiff, Nat.reduceMul, Nat.reduceSub, Int.reduceToNat]
        refine ⟨⟨hl.symm, hl.symm, by omega, by simp only [maxLen]; omega⟩, ?_⟩
        refine loop_next ⟨(i + 1, l ++ [x.1], x.2), by omega, hr2⟩ (by show n - (i + 1) < n - i; omega) (weakE_of [] [] (by simp [go_sem]) (by simp [assoc, go_sem]) (by simp [go_sem]) ?_)
        simp only [go_sem, ↓reduceIte, Nat.reduceEqDiff, reduceCtorEq, Nat.reduceAdd, Nat.reduceLeDiff, Nat.reduceMul, Nat.reduceSub, Int.reduceToNat]
        refine ⟨by omega, (by rw [IntKind.wrap_i64]; omega), q_app1 x.1 rfl rfl⟩
    · rw [if_neg (by omega)]
      obtain rfl : i = n := by omega
      refine retT_ok (l, t) (hsp.trans hr) ?_
      simp only [retR, go_sem, ↓reduceIte, Nat.reduceEqDiff, reduceCtorEq, Nat.reduceAdd, Nat.reduceLeDiff, Nat.reduceMul, Nat.reduceSub, Int.reduceToNat]
      refine retW_of [.thaw] [] [] rfl rfl (by simp [go_sem]) (by simp [assoc, go_sem]) (by simp [go_sem]) ?_
      simp only [go_sem, ↓reduceIte, Nat.reduceEqDiff, reduceCtorEq, Nat.reduceAdd, Nat.reduceLeDiff, Nat.reduceMul, Nat.reduceSub, Int.reduceToNat]
      exact ⟨hl.symm, by rw [hl]; exact avle_refl _⟩

theorem s_dec_slice_ContactPoint (b : List Int) (at' : Int) (hb : b.length ≤ 549755813888) (hB : bytes b) (p : Int → Except Int (ContactPoint × Int)) (f : Nat)
    (hp : ∀ t, CallsT Try.prog evD f [.ptr 1 0 0 1] (dO b t) (tRes (fun x : ContactPoint × Int => [.agg (ContactPoint.enc x.1)]) (fun x => dO b x.2) (p t))) :
    CallsT Try.prog evD F_snapshot_slice_ContactPoint [.ptr 1 0 0 1, .fn (.func f) [.ptr 1 0 0 1] []] (dO b at') (tRes (fun x : List ContactPoint × Int => [encD 6 ContactPoint.enc default x.1]) (fun x => dO b x.2) (rSl p b at')) := by
  refine callsT_of (N := 19) hm Try.func64 (by kernel_rfl) (by kernel_rfl) is_snapshot_slice_ContactPoint (by kernel_rfl) (by kernel_rfl : rvOf Try.prog Try.f64.results.toList = some [(4, none)]) (by decide) (by kernel_rfl) ?_
  simp only [c_snapshot_slice_ContactPoint, go_sem, ↓reduceIte, Nat.reduceEqDiff, reduceCtorEq, Nat.reduceAdd, Nat.reduceLeDiff, Nat.reduceMul, Nat.reduceSub, Int.reduceToNat]
  refine CallGiT_sub (s_dec_length b at' hb hB) rfl (okO_dO _ _) (fun _ => rfl) (by simp [go_sem]) (by simp [go_sem, AV.ids]) rfl (fun e he => tRes_err (by unfold rSl; rw [he])) (fun x he => ?_)
  obtain ⟨n0, t0⟩ := x
  obtain ⟨hn0, hn1, -⟩ := rLen_ok he
  obtain ⟨n, rfl⟩ := Int.eq_ofNat_of_zero_le hn0
  have hsp : rSl p b at' = rN p t0 n := by unfold rSl; rw [he]; rfl
  simp only [go_sem, ↓reduceIte, Nat.reduceEqDiff, reduceCtorEq, Nat.reduceAdd, Nat.reduceLeDiff, Nat.reduceMul, Nat.reduceSub, Int.reduceToNat]
  refine WpiT_loop hm (ι := {i : Nat × List ContactPoint × Int // i.1 ≤ n ∧ rN p t0 i.1 = .ok i.2}) (fun i => [(1, .share, .fn (.func f) [.ptr 1 0 0 1] []), (6, if i.1.1 = 0 then .adopt else .share, .sl 2 0 i.1.1 i.1.1), (9, .share, .sc (.int .i64 n)), (10, .share, .sc (.int .i64 i.1.1))])
    (fun i => [(1, .box [encD 1 encU8 0 b, .sc (.int .i64 i.1.2.2)]), (2, .arr 6 (encQ ContactPoint.enc default i.1.2.1))]) (fun i => n - i.1.1) ⟨(0, [], t0), by omega, rfl⟩ ?_ ?_
  · refine weakE_of [] [2] (by simp [go_sem]) (by simp [assoc, go_sem]) (by simp [go_sem]) ?_
    simp only [List.length_nil, go_sem, ↓reduceIte, Nat.reduceEqDiff, reduceCtorEq, Nat.reduceAdd, Nat.reduceLeDiff, Nat.reduceMul, Nat.reduceSub, Int.reduceToNat]
    try simp
  · rintro ⟨⟨i, l, t⟩, hi, hr⟩
    have hl : l.length = i := rN_len hr
    have hi : i ≤ n := hi
    have hr : rN p t0 i = .ok (l, t) := hr
    simp only [c_snapshot_slice_ContactPointb0, go_sem, ↓reduceIte, Nat.reduceEqDiff, reduceCtorEq, Nat.reduceAdd, Nat.reduceLeDiff, Nat.reduceMul, Nat.reduceSub, Int.reduceToNat]
    by_cases hlt : i < n
    · rw [if_pos (by omega)]
      refine CallGiT_sub (O := dO b t) (hp t) rfl (okO_dO _ _) (fun _ => rfl) (by simp [go_sem]) (by simp [go_sem, AV.ids]) rfl (fun e he' => tRes_err ?_) (fun x he' => ?_)
      · rw [hsp]
        refine rN_err (i := i + 1) ?_ (by omega)
        simp only [rN]; rw [hr]; simp only [he']
      · have hr2 : rN p t0 (i + 1) = .ok (l ++ [x.1], x.2) := by simp only [rN]; rw [hr]; simp only [he']
        simp only [go_sem, ↓reduceIte, Nat.reduceEqDiff, reduceCtorEq, Nat.reduceAdd, Nat.reduceLeDiff, Nat.reduceMul, Nat.reduceSub, Int.reduceToNat]
        refine ⟨⟨hl.symm, hl.symm, by omega, by simp only [maxLen]; omega⟩, ?_⟩
        refine loop_next ⟨(i + 1, l ++ [x.1], x.2), by omega, hr2⟩ (by show n - (i + 1) < n - i; omega) (weakE_of [] [] (by simp [go_sem]) (by simp [assoc, go_sem]) (by simp [go_sem]) ?_)
        simp only [go_sem, ↓reduceIte, Nat.reduceEqDiff, reduceCtorEq, Nat.reduceAdd, Nat.reduceLeDiff, Nat.reduceMul, Nat.reduceSub, Int.reduceToNat]
        refine ⟨by omega, (by rw [IntKind.wrap_i64]; omega), q_app1 x.1 rfl rfl⟩
    · rw [if_neg (by omega)]
      obtain rfl : i = n := by omega
      refine retT_ok (l, t) (hsp.trans hr) ?_
      simp only [retR, go_sem, ↓reduceIte, Nat.reduceEqDiff, reduceCtorEq, Nat.reduceAdd, Nat.reduceLeDiff, Nat.reduceMul, Nat.reduceSub, Int.reduceToNat]
      refine retW_of [.thaw] [] [] rfl rfl (by simp [go_sem]) (by simp [assoc, go_sem]) (by simp [go_sem]) ?_
      simp only [go_sem, ↓reduceIte, Nat.reduceEqDiff, reduceCtorEq, Nat.reduceAdd, Nat.reduceLeDiff, Nat.reduceMul, Nat.reduceSub, Int.reduceToNat]
      exact ⟨hl.symm, by rw [hl]; exact avle_refl _⟩

theorem s_dec_slice_Fixture (b : List Int) (at' : Int) (hb : b.length ≤ 549755813888) (hB : bytes b) (p : Int → Except Int (Fixture × Int)) (f : Nat)
    (hp : ∀ t, CallsT Try.prog evD f [.ptr 1 0 0 1] (dO b t) (tRes (fun x : Fixture × Int => [.agg (Fixture.enc x.1)]) (fun x => dO b x.2) (p t))) :
    CallsT Try.prog evD F_snapshot_slice_Fixture [.ptr 1 0 0 1, .fn (.func f) [.ptr 1 0 0 1] []] (dO b at') (tRes (fun x : List Fixture × Int => [encD 10 Fixture.enc default x.1]) (fun x => dO b x.2) (rSl p b at')) := by
  refine callsT_of (N := 19) hm Try.func53 (by kernel_rfl) (by kernel_rfl) is_snapshot_slice_Fixture (by kernel_rfl) (by kernel_rfl : rvOf Try.prog Try.f53.results.toList = some [(4, none)]) (by decide) (by kernel_rfl) ?_
  simp only [c_snapshot_slice_Fixture, go_sem, ↓reduceIte, Nat.reduceEqDiff, reduceCtorEq, Nat.reduceAdd, Nat.reduceLeDiff, Nat.reduceMul, Nat.reduceSub, Int.reduceToNat]
  refine CallGiT_sub (s_dec_length b at' hb hB) rfl (okO_dO _ _) (fun _ => rfl) (by simp [go_sem]) (by simp [go_sem, AV.ids]) rfl (fun e he => tRes_err (by unfold rSl; rw [he])) (fun x he => ?_)
  obtain ⟨n0, t0⟩ := x
  obtain ⟨hn0, hn1, -⟩ := rLen_ok he
  obtain ⟨n, rfl⟩ := Int.eq_ofNat_of_zero_le hn0
  have hsp : rSl p b at' = rN p t0 n := by unfold rSl; rw [he]; rfl
  simp only [go_sem, ↓reduceIte, Nat.reduceEqDiff, reduceCtorEq, Nat.reduceAdd, Nat.reduceLeDiff, Nat.reduceMul, Nat.reduceSub, Int.reduceToNat]
  refine WpiT_loop hm (ι := {i : Nat × List Fixture × Int // i.1 ≤ n ∧ rN p t0 i.1 = .ok i.2}) (fun i => [(1, .share, .fn (.func f) [.ptr 1 0 0 1] []), (6, if i.1.1 = 0 then .adopt else .share, .sl 2 0 i.1.1 i.1.1), (9, .share, .sc (.int .i64 n)), (10, .share, .sc (.int .i64 i.1.1))])
    (fun i => [(1, .box [encD 1 encU8 0 b, .sc (.int .i64 i.1.2.2)]), (2, .arr 10 (encQ Fixture.enc default i.1.2.1))]) (fun i => n - i.1.1) ⟨(0, [], t0), by omega, rfl⟩ ?_ ?_
  · refine weakE_of [] [2] (by simp [go_sem]) (by simp [assoc, go_sem]) (by simp [go_sem]) ?_
    simp only [List.length_nil, go_sem, ↓reduceIte, Nat.reduceEqDiff, reduceCtorEq, Nat.reduceAdd, Nat.reduceLeDiff, Nat.reduceMul, Nat.reduceSub, Int.reduceToNat]
    try simp
  · rintro ⟨⟨i, l, t⟩, hi, hr⟩
    have hl : l.length = i := rN_len hr
    have hi : i ≤ n := hi
    have hr : rN p t0 i = .ok (l, t) := hr
    simp only [c_snapshot_slice_Fixtureb0, go_sem, ↓reduceIte, Nat.reduceEqDiff, reduceCtorEq, Nat.reduceAdd, Nat.reduceLeDiff, Nat.reduceMul, Nat.reduceSub, Int.reduceToNat]
    by_cases hlt : i < n
    · rw [if_pos (by omega)]
      refine CallGiT_sub (O := dO b t) (hp t) rfl (okO_dO _ _) (fun _ => rfl) (by simp [go_sem]) (by simp [go_sem, AV.ids]) rfl (fun e he' => tRes_err ?_) (fun x he' => ?_)
      · rw [hsp]
        refine rN_err (i := i + 1) ?_ (by omega)
        simp only [rN]; rw [hr]; simp only [he']
      · have hr2 : rN p t0 (i + 1) = .ok (l ++ [x.1], x.2) := by simp only [rN]; rw [hr]; simp only [he']
        simp only [go_sem, ↓reduceIte, Nat.reduceEqDiff, reduceCtorEq, Nat.reduceAdd, Nat.reduceLeDiff, Nat.reduceMul, Nat.reduceSub, Int.reduceToNat]
        refine ⟨⟨hl.symm, hl.symm, by omega, by simp only [maxLen]; omega⟩, ?_⟩
        refine loop_next ⟨(i + 1, l ++ [x.1], x.2), by omega, hr2⟩ (by show n - (i + 1) < n - i; omega) (weakE_of [] [] (by simp [go_sem]) (by simp [assoc, go_sem]) (by simp [go_sem]) ?_)
        simp only [go_sem, ↓reduceIte, Nat.reduceEqDiff, reduceCtorEq, Nat.reduceAdd, Nat.reduceLeDiff, Nat.reduceMul, Nat.reduceSub, Int.reduceToNat]
        refine ⟨by omega, (by rw [IntKind.wrap_i64]; omega), q_app1 x.1 rfl rfl⟩
    · rw [if_neg (by omega)]
      obtain rfl : i = n := by omega
      refine retT_ok (l, t) (hsp.trans hr) ?_
      simp only [retR, go_sem, ↓reduceIte, Nat.reduceEqDiff, reduceCtorEq, Nat.reduceAdd, Nat.reduceLeDiff, Nat.reduceMul, Nat.reduceSub, Int.reduceToNat]
      refine retW_of [.thaw] [] [] rfl rfl (by simp [go_sem]) (by simp [assoc, go_sem]) (by simp [go_sem]) ?_
      simp only [go_sem, ↓reduceIte, Nat.reduceEqDiff, reduceCtorEq, Nat.reduceAdd, Nat.reduceLeDiff, Nat.reduceMul, Nat.reduceSub, Int.reduceToNat]
      exact ⟨hl.symm, by rw [hl]; exact avle_refl _⟩


end Go.Abs
