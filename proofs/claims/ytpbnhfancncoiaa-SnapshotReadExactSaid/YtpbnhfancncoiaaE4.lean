/- A part of the walk: contracts of functions that the statement reaches. -/
import Derived.Test.YtpbnhfancncoiaaAbsD
import Derived.Test.YtpbnhfancncoiaaE2
import Derived.Test.YtpbnhfancncoiaaHO
set_option linter.unusedSimpArgs false
set_option linter.unusedVariables false
set_option linter.unnecessarySimpa false
set_option maxRecDepth 100000
set_option maxHeartbeats 2000000
set_option linter.unusedSimpArgs false
set_option linter.unusedVariables false
namespace Go.Abs
open Go.Proofs
open Api
/-- the size of a number, modulo two to the 64 -/
def mag (n : Int) : Nat := n.natAbs % 18446744073709551616
theorem mag_lt (n : Int) : mag n < 18446744073709551616 := Nat.mod_lt _ (by decide)
def lowD (u : Nat) : Nat → List Int
  | 0 => []
  | k + 1 => ((u / 256 ^ k % 256 : Nat) : Int) :: lowD u k
theorem lowD_len (u : Nat) : ∀ k, (lowD u k).length = k
  | 0 => rfl
  | k + 1 => by rw [lowD, List.length_cons, lowD_len u k]
def ndig (u : Nat) : Nat := (List.range 9).countP fun j => decide (0 < u / 256 ^ j)
theorem ndig_eq {u k : Nat} (hk : k ≤ 8) (h : ∀ j, j < k → 0 < u / 256 ^ j) (h0 : u / 256 ^ k = 0) : ndig u = k := by
  have hp : ∀ j, (decide (0 < u / 256 ^ j)) = decide (j < k) := fun j => by
    rcases Nat.lt_or_ge j k with h1 | h1
    · rw [decide_eq_true h1, decide_eq_true (h j h1)]
    · rw [decide_eq_false (p := j < k) (by omega), decide_eq_false]
      have : u / 256 ^ j ≤ u / 256 ^ k := Nat.div_le_div_left (Nat.pow_le_pow_right (by decide) h1) (Nat.pow_pos (by decide))
      rw [h0] at this
      exact fun h2 => absurd (Nat.lt_of_lt_of_le h2 this) (Nat.lt_irrefl _)
  unfold ndig
  simp only [hp]
  match k, hk with
  | 0, _ => rfl
  | 1, _ => rfl
  | 2, _ => rfl
  | 3, _ => rfl
  | 4, _ => rfl
  | 5, _ => rfl
  | 6, _ => rfl
  | 7, _ => rfl
  | 8, _ => rfl
def digB (n : Int) : List Int := lowD (mag n) (ndig (mag n))
def intB (n : Int) : List Int := (((digB n).length : Int) + if n < 0 then 16 else 0) :: digB n
theorem ndig_le (u : Nat) : ndig u ≤ 9 := by unfold ndig; have := List.countP_le_length (p := fun j => decide (0 < u / 256 ^ j)) (l := List.range 9); rwa [List.length_range] at this
theorem intB_len (n : Int) : (intB n).length ≤ 10 := by
  have := ndig_le (mag n)
  unfold intB digB; rw [List.length_cons, lowD_len]; omega
theorem dsl_app {α : Type} {enc : α → List AV} {d : α} {l m l' : List α} {z n : Nat} {g : Nat → List AV} (hn : n = l.length) (hg : ∀ i, i < n → g i = enc (l.getD i d)) (hl : l' = l ++ m) :
    avle (.dsl z (n + m.length) (Sq.app ⟨n, g⟩ (encQ enc d m)).g) (.dsl z l'.length (encAt enc d l')) := by
  subst hn hl
  refine ⟨rfl, by simp, fun i hi => ?_⟩
  show avleL (if i < l.length then g i else encAt enc d m (i - l.length)) (encAt enc d (l ++ m) i)
  rw [encAt_app, encAt_app, getD_append]
  by_cases h : i < l.length
  · rw [if_pos h, if_pos h, hg i h]; exact avleL_refl _
  · rw [if_neg h, if_neg h]; exact avleL_refl _
theorem s_codec_magnitude (n : Int) : CallsA Try.prog F_codec_magnitude [.sc (.int .i64 n)] [] (.sc (.int .u64 (mag n))) [] := by
  refine callsI_of (rs := [_]) hm Try.func81 (by kernel_rfl) (by kernel_rfl) is_codec_magnitude (by kernel_rfl : tmpsOf Try.f81.results.toList = some [2]) (by decide) (by kernel_rfl) ?_
  simp only [c_codec_magnitude, go_sem]
  unfold mag
  by_cases h : n < 0
  · rw [if_pos h]
    simp only [IntKind.wrap_u64]
    omega
  · rw [if_neg h]
    simp only [IntKind.wrap_u64]
    omega
theorem s_codec_extend (b m : List Int) (hb : b.length ≤ 1099511627776) (hl : m.length ≤ 1099511627776) : CallsA Try.prog F_codec_extend [encD 1 encU8 0 b, encD 1 encU8 0 m] [] (encD 1 encU8 0 (b ++ m)) [] := by
  refine callsI_of (rs := [_]) hm Try.func82 (by kernel_rfl) (by kernel_rfl) is_codec_extend (by kernel_rfl : tmpsOf Try.f82.results.toList = some [4]) (by decide) (by kernel_rfl) ?_
  simp only [c_codec_extend, go_sem]
  simp only [Option.toList_some, Option.toList_none, Int.sub_zero, Int.toNat_natCast, go_sem]
  refine ⟨⟨by omega, by omega, by omega⟩, ⟨by omega, (by simp only [maxLen]; omega)⟩, ?_⟩
  exact dsl_app rfl (fun _ _ => rfl) rfl
theorem w8p (m : Nat) (h : m ≤ 8) : IntKind.u8.wrap (IntKind.i64.wrap ((m : Int) + 16)) = (m : Int) + 16 := by simp only [IntKind.wrap_u8, IntKind.wrap_i64]; omega
theorem w8n (m : Nat) (h : m ≤ 8) : IntKind.u8.wrap (m : Int) = (m : Int) + 0 := by simp only [IntKind.wrap_u8]; omega
theorem s_codec_AppendInt (b : List Int) (n : Int) (hb : b.length ≤ 549755813888) : CallsA Try.prog F_codec_AppendInt [encD 1 encU8 0 b, .sc (.int .i64 n)] [] (encD 1 encU8 0 (b ++ intB n)) [] := by
  refine callsI_of (rs := [_]) hm Try.func68 (by kernel_rfl) (by kernel_rfl) is_codec_AppendInt (by kernel_rfl : tmpsOf Try.f68.results.toList = some [4]) (by decide) (by kernel_rfl) ?_
  simp only [c_codec_AppendInt, go_sem]
  refine CallGi_flat (s_codec_magnitude n) rfl ?_
  simp only [go_sem]
  have hU := mag_lt n
  refine Wpi_loop hm (ι := {k : Nat // k ≤ 8 ∧ ∀ j, j < k → 0 < mag n / 256 ^ j}) (fun k => [(0, .share, encD 1 encU8 0 b), (1, .share, .sc (.int .i64 n)), (5, .thaw, encD 1 encU8 0 (lowD (mag n) k.1)), (6, .share, .sc (.int .u64 ((mag n / 256 ^ k.1 : Nat) : Int)))])
    (fun _ => []) (fun k => 8 - k.1) ⟨0, by omega, fun j hj => by omega⟩ ?_ ?_
  · refine weakE_ [] [] ?_
    simp only [go_sem]
    exact ⟨avle_nilD rfl, by rw [Nat.pow_zero, Nat.div_one]⟩
  · rintro ⟨k, hk, hp⟩
    have hll := lowD_len (mag n) k
    have hl1 : lowD (mag n) (k + 1) = ((mag n / 256 ^ k % 256 : Nat) : Int) :: lowD (mag n) k := rfl
    have hsh : mag n / 256 ^ (k + 1) = mag n / 256 ^ k / 256 := by rw [Nat.pow_succ, Nat.div_div_eq_div_mul]
    simp only [c_codec_AppendIntb0, go_sem]
    by_cases hz : 0 < mag n / 256 ^ k
    · have hk8 : k + 1 ≤ 8 := by
        rcases Nat.lt_or_ge k 8 with h | h
        · omega
        · obtain rfl : k = 8 := by omega
          exfalso
          have : mag n / 256 ^ 8 = 0 := Nat.div_eq_of_lt hU
          rw [this] at hz; exact absurd hz (by decide)
      have hp2 : ∀ j, j < k + 1 → 0 < mag n / 256 ^ j := fun j hj => by
        rcases Nat.lt_succ_iff_lt_or_eq.1 hj with h | rfl
        · exact hp j h
        · exact hz
      rw [if_pos (by exact Int.ofNat_lt.2 hz)]
      refine ⟨⟨by omega, (by simp only [maxLen]; omega)⟩, by omega, ?_⟩
      refine loop_next ⟨k + 1, hk8, hp2⟩ (by show 8 - (k + 1) < 8 - k; omega) (weakE_ [] [] ?_)
      simp only [hsh, hl1, go_sem]
      generalize mag n / 256 ^ k = u
      generalize lowD (mag n) k = D
      have ew : IntKind.u8.wrap (u : Int) = ((u % 256 : Nat) : Int) := by simp only [IntKind.wrap_u8]; omega
      have ed : Int.fdiv (u : Int) (2 ^ min 8 64) = ((u / 256 : Nat) : Int) := by
        have e8 : (2 : Int) ^ min 8 64 = 256 := by decide
        rw [e8, Int.fdiv_eq_ediv_of_nonneg _ (by decide)]; omega
      rw [ew, ed]
      generalize ((u % 256 : Nat) : Int) = c
      refine ⟨rfl, dsl_app (enc := encU8) (d := 0) (l := [c]) (m := D) rfl (fun i hi => ?_) rfl, rfl⟩
      have hi : i < 1 := hi
      obtain rfl : i = 0 := by omega
      rfl
    · have hz0 : mag n / 256 ^ k = 0 := Nat.eq_zero_of_not_pos hz
      rw [if_neg (by rw [hz0]; decide)]
      have hnd := ndig_eq hk hp hz0
      have hdig : lowD (mag n) k = digB n := by unfold digB; rw [hnd]
      have hiB : intB n = [((lowD (mag n) k).length : Int) + if n < 0 then 16 else 0] ++ lowD (mag n) k := by unfold intB; rw [hdig]; rfl
      by_cases hn : n < 0
      · rw [if_pos hn] at hiB ⊢
        refine CallGi_thaw (s_codec_extend b [((lowD (mag n) k).length : Int) + 16] (by omega) (by simp)) ?_
        simp only [argsC, go_sem]
        have hw8 : IntKind.u8.wrap (IntKind.i64.wrap (((lowD (mag n) k).length : Int) + 16)) = ((lowD (mag n) k).length : Int) + 16 := w8p _ (by rw [hll]; exact hk)
        simp only [hw8]
        refine ⟨avle_lit2 (l := [((lowD (mag n) k).length : Int) + 16]) (fun _ _ => rfl) rfl rfl rfl, ?_⟩
        refine CallGi_flat (s_codec_extend (b ++ [((lowD (mag n) k).length : Int) + 16]) (lowD (mag n) k) (by simp only [List.length_append, List.length_singleton]; omega) (by omega)) rfl ?_
        simp only [hiB, List.length_append, go_sem]
      · rw [if_neg hn] at hiB ⊢
        refine CallGi_thaw (s_codec_extend b [((lowD (mag n) k).length : Int) + 0] (by omega) (by simp)) ?_
        simp only [argsC, go_sem]
        have hw8 : IntKind.u8.wrap ((lowD (mag n) k).length : Int) = ((lowD (mag n) k).length : Int) + 0 := w8n _ (by rw [hll]; exact hk)
        simp only [hw8]
        refine ⟨avle_lit2 (l := [((lowD (mag n) k).length : Int) + 0]) (fun _ _ => rfl) rfl rfl rfl, ?_⟩
        refine CallGi_flat (s_codec_extend (b ++ [((lowD (mag n) k).length : Int) + 0]) (lowD (mag n) k) (by simp only [List.length_append, List.length_singleton]; omega) (by omega)) rfl ?_
        simp only [hiB, List.length_append, go_sem]
def vecB (v : Vec) : List Int := intB v.X ++ intB v.Y
def intsB (l : List Int) : List Int := l.flatMap intB
def vecsB (l : List Vec) : List Int := l.flatMap vecB
theorem vecB_len (v : Vec) : (vecB v).length ≤ 20 := by have := intB_len v.X; have := intB_len v.Y; unfold vecB; rw [List.length_append]; omega
theorem fm_len {α : Type} {f : α → List Int} {c : Nat} (h : ∀ a, (f a).length ≤ c) : ∀ l : List α, (l.flatMap f).length ≤ c * l.length
  | [] => by simp
  | a :: l => by have := fm_len h l; have := h a; rw [List.flatMap_cons, List.length_append, List.length_cons, Nat.mul_add]; omega
theorem intsB_len (l : List Int) : (intsB l).length ≤ 10 * l.length := fm_len intB_len l
theorem vecsB_len (l : List Vec) : (vecsB l).length ≤ 20 * l.length := fm_len vecB_len l
theorem fm_snoc {α : Type} {f : α → List Int} {l : List α} {i : Nat} (d : α) (h : i < l.length) : (l.take (i + 1)).flatMap f = (l.take i).flatMap f ++ f (l.getD i d) := by
  rw [take_snoc d h, List.flatMap_append, List.flatMap_singleton]
theorem s_codec_AppendVec (b : List Int) (v : Vec) (hb : b.length ≤ 500000000000) : CallsA Try.prog F_codec_AppendVec [encD 1 encU8 0 b, .agg v.enc] [] (encD 1 encU8 0 (b ++ vecB v)) [] := by
  have h1 := intB_len v.X
  refine callsI_of (rs := [_]) hm Try.func69 (by kernel_rfl) (by kernel_rfl) is_codec_AppendVec (by kernel_rfl : tmpsOf Try.f69.results.toList = some [4]) (by decide) (by kernel_rfl) ?_
  simp only [c_codec_AppendVec, go_sem]
  refine CallGi_flat (s_codec_AppendInt b v.X (by omega)) rfl ?_
  simp only [go_sem]
  refine CallGi_flat (s_codec_AppendInt (b ++ intB v.X) v.Y (by rw [List.length_append]; omega)) rfl ?_
  simp only [vecB, go_sem]

end Go.Abs
