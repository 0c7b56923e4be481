/- A part of the walk: contracts of functions that the statement reaches. -/
import Derived.Test.YtpbnhfancncoiaaAbsD
import Derived.Test.YtpbnhfancncoiaaE6
set_option linter.unusedSimpArgs false
set_option linter.unusedVariables false
set_option linter.unnecessarySimpa false
set_option maxRecDepth 100000
set_option maxHeartbeats 2000000
set_option linter.unusedSimpArgs false
set_option linter.unusedVariables false
namespace Go.Abs
open Go.Proofs
open Api
theorem abs_neg {n : Int} (h : n < 0) : IntKind.u64.wrap (IntKind.u64.wrap (IntKind.i64.wrap (0 - IntKind.i64.wrap (n + 1))) + 1) = (mag n : Int) := by
  unfold mag
  simp only [IntKind.wrap_u64, IntKind.wrap_i64]
  omega
theorem abs_pos {n : Int} (h : ¬ n < 0) : IntKind.u64.wrap n = (mag n : Int) := by
  unfold mag
  simp only [IntKind.wrap_u64]
  omega
theorem s_r07_abs (n : Int) : CallsA Try.prog F_r07_abs [.sc (.int .i64 n)] [] (.sc (.int .u64 (mag n))) [] := by
  refine callsI_of (rs := [_]) hm Try.func71 (by kernel_rfl) (by kernel_rfl) is_r07_abs (by kernel_rfl : tmpsOf Try.f71.results.toList = some [2]) (by decide) (by kernel_rfl) ?_
  simp only [c_r07_abs, go_sem]
  by_cases h : n < 0
  · rw [if_pos h]
    exact abs_neg h
  · rw [if_neg h]
    exact abs_pos h
theorem app1_g {b : List Int} {h : Int} {i : Nat} (hi : i < b.length + 1) : (Sq.app (encQ encU8 0 b) ⟨1, fun i => List.take 1 (List.drop (i * 1) [AV.sc (.int .u8 h)])⟩).g i = encU8 ((b ++ [h]).getD i 0) := by
  show (if i < b.length then encAt encU8 0 b i else List.take 1 (List.drop ((i - b.length) * 1) [AV.sc (.int .u8 h)])) = _
  rw [getD_append]
  by_cases hl : i < b.length
  · rw [if_pos hl, if_pos hl, encAt_app]
  · obtain rfl : i = b.length := by omega
    rw [if_neg hl, if_neg hl, Nat.sub_self]; rfl
theorem w8q (m : Nat) (h : m ≤ 8) : IntKind.u8.wrap (IntKind.u8.wrap (m : Int) + 16) = (m : Int) + 16 := by simp only [IntKind.wrap_u8]; omega
theorem rem256 (u : Nat) : IntKind.u8.wrap ((u : Int).tmod 256) = ((u % 256 : Nat) : Int) := by
  rw [Int.tmod_eq_emod_of_nonneg (by omega), IntKind.wrap_u8]; omega
theorem quo256 (u : Nat) (h : u < 18446744073709551616) : IntKind.u64.wrap ((u : Int).tdiv 256) = ((u / 256 : Nat) : Int) := by
  rw [Int.tdiv_eq_ediv_of_nonneg (by omega), IntKind.wrap_u64]; omega
theorem s_r07_AppendInt (b : List Int) (n : Int) (hb : b.length ≤ 549755813888) : CallsA Try.prog F_r07_AppendInt [encD 1 encU8 0 b, .sc (.int .i64 n)] [] (encD 1 encU8 0 (b ++ intB n)) [] := by
  refine callsI_of (rs := [_]) hm Try.func45 (by kernel_rfl) (by kernel_rfl) is_r07_AppendInt (by kernel_rfl : tmpsOf Try.f45.results.toList = some [4]) (by decide) (by kernel_rfl) ?_
  simp only [c_r07_AppendInt, go_sem]
  refine CallGi_flat (s_r07_abs n) rfl ?_
  simp only [go_sem]
  have hU := mag_lt n
  refine Wpi_loop hm (ι := {k : Nat // k ≤ 8 ∧ ∀ j, j < k → 0 < mag n / 256 ^ j}) (fun k => [(0, .share, encD 1 encU8 0 b), (1, .share, .sc (.int .i64 n)), (5, .thaw, encD 1 encU8 0 (lowD (mag n) k.1)), (6, .share, .sc (.int .u64 ((mag n / 256 ^ k.1 : Nat) : Int)))])
    (fun _ => []) (fun k => 8 - k.1) ⟨0, by omega, fun j hj => by omega⟩ ?_ ?_
  · refine weakE_ [] [] ?_
    simp only [go_sem]
    exact ⟨avle_nilD rfl, by rw [Nat.pow_zero, Nat.div_one]⟩
  · rintro ⟨k, hk, hp⟩
    have hll := lowD_len (mag n) k
    have hl1 : lowD (mag n) (k + 1) = ((mag n / 256 ^ k % 256 : Nat) : Int) :: lowD (mag n) k := rfl
    have hsh : mag n / 256 ^ (k + 1) = mag n / 256 ^ k / 256 := by rw [Nat.pow_succ, Nat.div_div_eq_div_mul]
    simp only [c_r07_AppendIntb0, go_sem]
    by_cases hz : 0 < mag n / 256 ^ k
    · have hk8 : k + 1 ≤ 8 := by
        rcases Nat.lt_or_ge k 8 with h | h
        · omega
        · obtain rfl : k = 8 := by omega
          exfalso
          have : mag n / 256 ^ 8 = 0 := Nat.div_eq_of_lt hU
          rw [this] at hz; exact absurd hz (by decide)
      have hp2 : ∀ j, j < k + 1 → 0 < mag n / 256 ^ j := fun j hj => by
        rcases Nat.lt_succ_iff_lt_or_eq.1 hj with h | rfl
        · exact hp j h
        · exact hz
      rw [if_pos (by exact Int.ofNat_lt.2 hz)]
      refine ⟨by decide, ⟨by omega, (by simp only [maxLen]; omega)⟩, by decide, ?_⟩
      refine loop_next ⟨k + 1, hk8, hp2⟩ (by show 8 - (k + 1) < 8 - k; omega) (weakE_ [] [] ?_)
      have hu : mag n / 256 ^ k < 18446744073709551616 := Nat.lt_of_le_of_lt (Nat.div_le_self _ _) hU
      simp only [hsh, hl1, go_sem]
      generalize mag n / 256 ^ k = u at *
      generalize lowD (mag n) k = D
      rw [rem256 u, quo256 u hu]
      generalize ((u % 256 : Nat) : Int) = c
      refine ⟨rfl, dsl_app (enc := encU8) (d := 0) (l := [c]) (m := D) rfl (fun i hi => ?_) rfl, rfl⟩
      have hi : i < 1 := hi
      obtain rfl : i = 0 := by omega
      rfl
    · have hz0 : mag n / 256 ^ k = 0 := Nat.eq_zero_of_not_pos hz
      rw [if_neg (by rw [hz0]; decide)]
      have hnd := ndig_eq hk hp hz0
      have hdig : lowD (mag n) k = digB n := by unfold digB; rw [hnd]
      have hiB : intB n = [((lowD (mag n) k).length : Int) + if n < 0 then 16 else 0] ++ lowD (mag n) k := by unfold intB; rw [hdig]; rfl
      by_cases hn : n < 0
      · rw [if_pos hn] at hiB ⊢
        rw [w8q _ (by rw [hll]; exact hk)]
        have hfin : b ++ intB n = (b ++ [((lowD (mag n) k).length : Int) + 16]) ++ lowD (mag n) k := by rw [hiB, List.append_assoc]
        refine ⟨⟨by omega, (by simp only [maxLen]; omega)⟩, ⟨by omega, (by simp only [maxLen]; omega)⟩, ⟨rfl, rfl, ?_⟩, ?_⟩
        · show (b.length + 1 + (lowD (mag n) k).length) * 1 ≤ _ ∧ b.length + 1 + (lowD (mag n) k).length ≤ _
          exact ⟨by omega, (by simp only [maxLen]; omega)⟩
        · have hnn : b.length + 1 = (b ++ [((lowD (mag n) k).length : Int) + 16]).length := by simp
          exact ⟨rfl, dsl_app (enc := encU8) (d := 0) (m := lowD (mag n) k) hnn (fun i hi => app1_g hi) hfin⟩
      · rw [if_neg hn] at hiB ⊢
        rw [w8n _ (by rw [hll]; exact hk)]
        have hfin : b ++ intB n = (b ++ [((lowD (mag n) k).length : Int) + 0]) ++ lowD (mag n) k := by rw [hiB, List.append_assoc]
        refine ⟨⟨by omega, (by simp only [maxLen]; omega)⟩, ⟨by omega, (by simp only [maxLen]; omega)⟩, ⟨rfl, rfl, ?_⟩, ?_⟩
        · show (b.length + 1 + (lowD (mag n) k).length) * 1 ≤ _ ∧ b.length + 1 + (lowD (mag n) k).length ≤ _
          exact ⟨by omega, (by simp only [maxLen]; omega)⟩
        · have hnn : b.length + 1 = (b ++ [((lowD (mag n) k).length : Int) + 0]).length := by simp
          exact ⟨rfl, dsl_app (enc := encU8) (d := 0) (m := lowD (mag n) k) hnn (fun i hi => app1_g hi) hfin⟩
theorem avle_ob {b : List Int} {l' : List Int} {h : Int} (hl : l' = b ++ [h]) : avle (.dsl 1 (b.length + 1) (Sq.app (encQ encU8 0 b) ⟨1, fun i => List.take 1 (List.drop (i * 1) [AV.sc (.int .u8 h)])⟩).g) (.dsl 1 l'.length (encAt encU8 0 l')) := by
  subst hl
  refine ⟨rfl, by simp, fun i hi => ?_⟩
  rw [app1_g hi, encAt_app]; exact avleL_refl _
theorem s_r07_AppendBool (b : List Int) (x : Bool) (hb : b.length ≤ 549755813888) : CallsA Try.prog F_r07_AppendBool [encD 1 encU8 0 b, .sc (.bool x)] [] (encD 1 encU8 0 (b ++ boolB x)) [] := by
  refine callsI_of (rs := [_]) hm Try.func26 (by kernel_rfl) (by kernel_rfl) is_r07_AppendBool (by kernel_rfl : tmpsOf Try.f26.results.toList = some [4]) (by decide) (by kernel_rfl) ?_
  simp only [c_r07_AppendBool, go_sem]
  refine ⟨⟨by omega, (by simp only [maxLen]; omega)⟩, ?_⟩
  cases x with
  | true =>
    rw [if_pos rfl]
    exact ⟨⟨by omega, (by simp only [maxLen]; omega)⟩, rfl, avle_ob rfl⟩
  | false =>
    rw [if_neg (by simp)]
    exact ⟨⟨by omega, (by simp only [maxLen]; omega)⟩, rfl, avle_ob rfl⟩
theorem s_r07_AppendVec (b : List Int) (v : Vec) (hb : b.length ≤ 500000000000) : CallsA Try.prog F_r07_AppendVec [encD 1 encU8 0 b, .agg v.enc] [] (encD 1 encU8 0 (b ++ vecB v)) [] := by
  have h1 := intB_len v.X
  refine callsI_of (rs := [_]) hm Try.func25 (by kernel_rfl) (by kernel_rfl) is_r07_AppendVec (by kernel_rfl : tmpsOf Try.f25.results.toList = some [4]) (by decide) (by kernel_rfl) ?_
  simp only [c_r07_AppendVec, go_sem]
  refine CallGi_flat (s_r07_AppendInt b v.X (by omega)) rfl ?_
  simp only [go_sem]
  refine CallGi_flat (s_r07_AppendInt (b ++ intB v.X) v.Y (by rw [List.length_append]; omega)) rfl ?_
  simp only [vecB, go_sem]
theorem s_r45_appendInts (b : List Int) (l : List Int) (hb : b.length + 10 * l.length ≤ 400000000000) : CallsA Try.prog F_r45_appendInts [encD 1 encU8 0 b, encD 1 encInt 0 l] [] (encD 1 encU8 0 (b ++ intsB l)) [] := by
  refine callsI_of (rs := [_]) hm Try.func24 (by kernel_rfl) (by kernel_rfl) is_r45_appendInts (by kernel_rfl : tmpsOf Try.f24.results.toList = some [4]) (by decide) (by kernel_rfl) ?_
  simp only [c_r45_appendInts, go_sem]
  refine Wpi_loop hm (ι := {i : Nat // i ≤ l.length}) (fun i => [(0, .share, encD 1 encU8 0 (b ++ (l.take i.1).flatMap intB)), (1, .share, encD 1 encInt 0 l), (5, .share, .sc (.int .i64 i.1))])
    (fun _ => []) (fun i => l.length - i.1) ⟨0, by omega⟩ ?_ ?_
  · refine weakE_ [] [] ?_
    simp only [List.take_zero, List.flatMap_nil, List.append_nil, go_sem]
    try trivial
  · rintro ⟨i, hi⟩
    simp only [c_r45_appendIntsb0, go_sem]
    by_cases hlt : i < l.length
    · rw [if_pos (by omega)]
      have hl := fm_len (f := intB) intB_len (l.take i)
      rw [List.length_take] at hl
      have hs := fm_snoc (f := intB) (l := l) 0 hlt
      refine ⟨ok_, ?_⟩
      refine CallGi_flat (s_r07_AppendInt (b ++ (l.take i).flatMap intB) (l.getD i 0) (by rw [List.length_append]; omega)) rfl ?_
      simp only [go_sem]
      refine loop_next ⟨i + 1, by omega⟩ (by show l.length - (i + 1) < l.length - i; omega) (weakE_ [] [] ?_)
      simp only [hs, go_sem]
      exact (by rw [IntKind.wrap_i64]; omega)
    · rw [if_neg (by omega)]
      obtain rfl : i = l.length := by omega
      simp only [List.take_length, intsB, go_sem]
theorem s_r45_appendKey (b : List Int) (k : PairKey) (hb : b.length ≤ 300000000000) : CallsA Try.prog F_r45_appendKey [encD 1 encU8 0 b, .agg k.enc] [] (encD 1 encU8 0 (b ++ keyB k)) [] := by
  refine callsI_of (rs := [_]) hm Try.func30 (by kernel_rfl) (by kernel_rfl) is_r45_appendKey (by kernel_rfl : tmpsOf Try.f30.results.toList = some [4]) (by decide) (by kernel_rfl) ?_
  simp only [c_r45_appendKey, go_sem]
  refine CallGi_thaw (s_r45_appendInts b [k.BodyA, k.FixtureA, k.BodyB, k.FixtureB] (by simp only [List.length_cons, List.length_nil]; omega)) ?_
  simp only [argsC, go_sem]
  refine ⟨avle_lit2 (l := [k.BodyA, k.FixtureA, k.BodyB, k.FixtureB]) (fun _ _ => rfl) rfl rfl rfl, ?_⟩
  simp only [keyB, go_sem]

end Go.Abs
