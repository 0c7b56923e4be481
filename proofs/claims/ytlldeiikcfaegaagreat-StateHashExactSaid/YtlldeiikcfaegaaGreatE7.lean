/- A part of the walk: contracts of functions that the statement reaches. -/
import Derived.Test.YtlldeiikcfaegaaGreatAbsC
import Derived.Test.YtlldeiikcfaegaaGreatE6
set_option linter.unusedSimpArgs false
set_option linter.unusedVariables false
set_option linter.unnecessarySimpa false
set_option maxRecDepth 100000
set_option maxHeartbeats 2000000
set_option linter.unusedSimpArgs false
set_option linter.unusedVariables false
namespace Go.Abs
open Go.Proofs
open Api
theorem c32_toNat (b : BitVec 32) : IntKind.u32.wrap (b.toNat : Int) = b.toNat := by
  rw [IntKind.wrap_u32]; have := b.isLt; omega
theorem c32_ofInt (b : BitVec 32) : BitVec.ofInt 32 (b.toNat : Int) = b := by
  apply BitVec.eq_of_toNat_eq; have := b.isLt
  rw [BitVec.toNat_ofInt]; omega
theorem c32_ofWrap (n : Int) : BitVec.ofInt 32 (IntKind.u32.wrap n) = BitVec.ofInt 32 n := by
  apply BitVec.eq_of_toNat_eq
  rw [IntKind.wrap_u32, BitVec.toNat_ofInt, BitVec.toNat_ofInt]
  show (n % 4294967296 % 4294967296).toNat = (n % 4294967296).toNat
  omega
theorem c32_and (b : BitVec 32) : (b &&& BitVec.ofInt 32 1).toNat = b.toNat % 2 := by
  rw [BitVec.toNat_and, show (BitVec.ofInt 32 1).toNat = 1 from rfl, Nat.and_one_is_mod]
theorem c32_shr (b : BitVec 32) (k : Nat) : ((b.toNat : Int)).fdiv (2 ^ k) = ((b >>> k).toNat : Int) := by
  rw [BitVec.toNat_ushiftRight, Nat.shiftRight_eq_div_pow, Int.fdiv_eq_ediv_of_nonneg _ (Int.pow_nonneg (by omega))]
  norm_cast
theorem c32_shr1 (b : BitVec 32) : ((b.toNat : Int)).fdiv (2 ^ min 1 32) = ((b >>> 1).toNat : Int) := c32_shr b 1
theorem c32_half (b : BitVec 32) : IntKind.u32.wrap ((b.toNat : Int).tdiv 2) = ((b >>> 1).toNat : Int) := by
  rw [Int.tdiv_eq_ediv_of_nonneg (by omega), ← c32_toNat (b >>> 1), ← c32_shr, Int.fdiv_eq_ediv_of_nonneg _ (Int.pow_nonneg (by omega))]
  rfl
theorem c32_odd (b : BitVec 32) : ((b.toNat : Int).tmod 2) = ((b.toNat % 2 : Nat) : Int) := by
  rw [Int.tmod_eq_emod_of_nonneg (by omega)]; omega
theorem wrap_bit (n : Nat) (h : n < 2) : IntKind.u32.wrap (n : Int) = n := by rw [IntKind.wrap_u32]; omega
theorem c32_bit (d : BitVec 32) : (IntKind.u32.wrap (((BitVec.ofInt 32 (d.toNat : Int)) &&& BitVec.ofInt 32 1).toNat : Int) == 1) = decide (d.toNat % 2 = 1) := by
  rw [c32_ofInt, c32_and, wrap_bit _ (Nat.mod_lt _ (by decide)), Bool.eq_iff_iff, beq_iff_eq, decide_eq_true_eq]; omega
def crcS (c : BitVec 32) : BitVec 32 := if c.toNat % 2 = 1 then (c >>> 1) ^^^ BitVec.ofInt 32 2197175160 else c >>> 1
def crcK (c : BitVec 32) : Nat → BitVec 32
  | 0 => c
  | k + 1 => crcS (crcK c k)
theorem c32_x1 (d : BitVec 32) : IntKind.u32.wrap (((BitVec.ofInt 32 ((d.toNat : Int).fdiv (2 ^ min 1 32))) ^^^ BitVec.ofInt 32 2197175160).toNat : Int) = (d >>> 1 ^^^ BitVec.ofInt 32 2197175160).toNat := by
  rw [c32_shr1, c32_ofInt, c32_toNat]
theorem s_checksum_update (c : BitVec 32) : CallsA Tryz.prog F_checksum_update [.sc (.int .u32 c.toNat)] [] (.sc (.int .u32 (crcK c 8).toNat)) [] := by
  refine callsI_of (rs := [_]) hm Tryz.func204 (by kernel_rfl) (by kernel_rfl) is_checksum_update (by kernel_rfl : tmpsOf Tryz.f204.results.toList = some [2]) (by decide) (by kernel_rfl) ?_
  simp only [c_checksum_update, go_sem]
  refine Wpi_loop hm (ι := {k : Nat // k ≤ 8}) (fun k => [(0, .share, .sc (.int .u32 (crcK c k.1).toNat)), (4, .share, .sc (.int .i64 k.1))])
    (fun _ => []) (fun k => 8 - k.1) ⟨0, by omega⟩ ?_ ?_
  · refine weakE_ [] [] ?_
    simp only [go_sem]
    rfl
  · rintro ⟨k, hk⟩
    have hS : crcK c (k + 1) = crcS (crcK c k) := rfl
    simp only [c_checksum_updateb0, go_sem]
    by_cases hlt : k < 8
    · rw [if_pos (by omega)]
      generalize crcK c k = d at *
      refine ⟨by omega, ?_⟩
      split
      · rename_i ho
        have ho : d.toNat % 2 = 1 := of_decide_eq_true ((c32_bit d).symm.trans ho)
        have hS2 : crcS d = (d >>> 1) ^^^ BitVec.ofInt 32 2197175160 := if_pos ho
        refine loop_next ⟨k + 1, by omega⟩ (by show 8 - (k + 1) < 8 - k; omega) (weakE_ [] [] ?_)
        simp only [hS, hS2, go_sem]
        exact ⟨c32_x1 d, (by rw [IntKind.wrap_i64]; omega)⟩
      · rename_i ho
        have ho : ¬ d.toNat % 2 = 1 := fun h => ho ((c32_bit d).trans (decide_eq_true h))
        have hS2 : crcS d = d >>> 1 := if_neg ho
        refine loop_next ⟨k + 1, by omega⟩ (by show 8 - (k + 1) < 8 - k; omega) (weakE_ [] [] ?_)
        simp only [hS, hS2, go_sem]
        exact ⟨c32_shr1 d, (by rw [IntKind.wrap_i64]; omega)⟩
    · rw [if_neg (by omega)]
      obtain rfl : k = 8 := by omega
      rfl
def crcX (c : BitVec 32) (x : Int) : BitVec 32 := crcK (c ^^^ BitVec.ofInt 32 x) 8
def crcL (l : List Int) : BitVec 32 := l.foldl crcX (BitVec.ofInt 32 4294967295)
theorem crcL_snoc {l : List Int} {i : Nat} (h : i < l.length) : crcL (l.take (i + 1)) = crcX (crcL (l.take i)) (l.getD i 0) := by
  unfold crcL; rw [take_snoc 0 h, List.foldl_append]; rfl
def crcF (l : List Int) : BitVec 32 := crcL l ^^^ BitVec.ofInt 32 4294967295
theorem c32_xor (d : BitVec 32) (x : Int) : IntKind.u32.wrap (((BitVec.ofInt 32 (d.toNat : Int)) ^^^ BitVec.ofInt 32 (IntKind.u32.wrap x)).toNat : Int) = (d ^^^ BitVec.ofInt 32 x).toNat := by
  rw [c32_ofInt, c32_ofWrap, c32_toNat]
theorem c32_not (d : BitVec 32) : IntKind.u32.wrap (((BitVec.ofInt 32 (if IntKind.u32.signed = true then -1 else IntKind.u32.max)) ^^^ BitVec.ofInt 32 (d.toNat : Int)).toNat : Int) = (d ^^^ BitVec.ofInt 32 4294967295).toNat := by
  rw [show (if IntKind.u32.signed = true then (-1 : Int) else IntKind.u32.max) = 4294967295 from by decide, c32_ofInt, c32_toNat, BitVec.xor_comm]
theorem s_checksum_CRC32C (l : List Int) (hl : l.length ≤ 1000000000) : CallsA Tryz.prog F_checksum_CRC32C [encD 1 encU8 0 l] [] (.sc (.int .u32 (crcF l).toNat)) [] := by
  refine callsI_of (rs := [_]) hm Tryz.func138 (by kernel_rfl) (by kernel_rfl) is_checksum_CRC32C (by kernel_rfl : tmpsOf Tryz.f138.results.toList = some [2]) (by decide) (by kernel_rfl) ?_
  simp only [c_checksum_CRC32C, go_sem]
  refine Wpi_loop hm (ι := {i : Nat // i ≤ l.length}) (fun i => [(3, .share, .sc (.int .u32 (crcL (l.take i.1)).toNat)), (6, .share, encD 1 encU8 0 l), (7, .share, .sc (.int .i64 l.length)), (8, .share, .sc (.int .i64 i.1))])
    (fun _ => []) (fun i => l.length - i.1) ⟨0, by omega⟩ ?_ ?_
  · refine weakE_ [] [] ?_
    simp only [go_sem]
    decide
  · rintro ⟨i, hi⟩
    simp only [c_checksum_CRC32Cb0, go_sem]
    by_cases hlt : i < l.length
    · rw [if_pos (by omega)]
      have hs := crcL_snoc hlt
      generalize crcL (l.take i) = d at *
      refine ⟨ok_, ?_⟩
      have hU := s_checksum_update (d ^^^ BitVec.ofInt 32 (l.getD i 0))
      rw [← c32_xor] at hU
      refine CallGi_flat hU rfl ?_
      simp only [go_sem]
      refine loop_next ⟨i + 1, by omega⟩ (by show l.length - (i + 1) < l.length - i; omega) (weakE_ [] [] ?_)
      simp only [hs, go_sem]
      exact ⟨rfl, (by rw [IntKind.wrap_i64]; omega)⟩
    · rw [if_neg (by omega)]
      obtain rfl : i = l.length := by omega
      simp only [List.take_length, go_sem]
      exact c32_not (crcL l)
theorem dsl_app2 {α : Type} {enc : α → List AV} {d : α} {l m l' : List α} {z n n2 : Nat} {g g2 : Nat → List AV} (hn : n = l.length) (hg : ∀ i, i < n → g i = enc (l.getD i d)) (hn2 : n2 = m.length) (hg2 : ∀ i, i < n2 → g2 i = enc (m.getD i d)) (hl : l' = l ++ m) :
    avle (.dsl z (n + n2) (Sq.app ⟨n, g⟩ ⟨n2, g2⟩).g) (.dsl z l'.length (encAt enc d l')) := by
  subst hn hn2 hl
  refine ⟨rfl, by simp, fun i hi => ?_⟩
  show avleL (if i < l.length then g i else g2 (i - l.length)) (encAt enc d (l ++ m) i)
  rw [encAt_app, getD_append]
  by_cases h : i < l.length
  · rw [if_pos h, if_pos h, hg i h]; exact avleL_refl _
  · rw [if_neg h, if_neg h, hg2 _ (by omega)]; exact avleL_refl _
theorem c8 (c k : Nat) : IntKind.u8.wrap ((c : Int).fdiv (2 ^ k)) = ((c / 2 ^ k % 256 : Nat) : Int) := by
  rw [Int.fdiv_eq_ediv_of_nonneg _ (Int.pow_nonneg (by omega)), IntKind.wrap_u8]
  norm_cast
theorem c8_0 (c : Nat) : IntKind.u8.wrap (c : Int) = ((c % 256 : Nat) : Int) := by rw [IntKind.wrap_u8]; omega
theorem c8_1 (c : Nat) : IntKind.u8.wrap ((c : Int).fdiv (2 ^ min 8 32)) = ((c / 256 % 256 : Nat) : Int) := c8 c 8
theorem c8_2 (c : Nat) : IntKind.u8.wrap ((c : Int).fdiv (2 ^ min 16 32)) = ((c / 65536 % 256 : Nat) : Int) := c8 c 16
theorem c8_3 (c : Nat) : IntKind.u8.wrap ((c : Int).fdiv (2 ^ min 24 32)) = ((c / 16777216 % 256 : Nat) : Int) := c8 c 24
def crcBytes (c : Nat) : List Int := [((c % 256 : Nat) : Int), ((c / 256 % 256 : Nat) : Int), ((c / 65536 % 256 : Nat) : Int), ((c / 16777216 % 256 : Nat) : Int)]
def sealB (l : List Int) : List Int := l ++ crcBytes (crcF l).toNat
theorem s_checksum_Seal (l : List Int) (hl : l.length ≤ 1000000000) : CallsA Tryz.prog F_checksum_Seal [encD 1 encU8 0 l] [] (encD 1 encU8 0 (sealB l)) [] := by
  refine callsI_of (rs := [_]) hm Tryz.func70 (by kernel_rfl) (by kernel_rfl) is_checksum_Seal (by kernel_rfl : tmpsOf Tryz.f70.results.toList = some [2]) (by decide) (by kernel_rfl) ?_
  simp only [c_checksum_Seal, go_sem]
  refine CallGi_flat (s_checksum_CRC32C l hl) rfl ?_
  have ho : AV.offId 208 (.dsl 1 l.length (encAt encU8 0 l)) = true := rfl
  simp only [ho, go_sem]
  have hw : IntKind.i64.wrap ((l.length : Int) + 4) = (l.length : Int) + 4 := by rw [IntKind.wrap_i64]; omega
  simp only [hw]
  refine ⟨⟨by omega, by omega, by omega, by omega⟩, by omega, by omega, by omega, ⟨by omega, (by simp only [maxLen]; omega)⟩, rfl, ?_⟩
  have hs : sealB l = l ++ crcBytes (crcF l).toNat := rfl
  generalize (crcF l).toNat = c at *
  simp only [c8_0, c8_1, c8_2, c8_3]
  refine dsl_app2 (enc := encU8) (d := 0) (m := crcBytes c) rfl (fun i hi => ?_) rfl (fun i hi => ?_) hs
  · show (if 0 ≤ i ∧ i < min l.length l.length then _ else _) = _
    rw [if_pos ⟨by omega, by omega⟩]; rfl
  · match i, hi with
    | 0, _ => rfl
    | 1, _ => rfl
    | 2, _ => rfl
    | 3, _ => rfl

end Go.Abs
