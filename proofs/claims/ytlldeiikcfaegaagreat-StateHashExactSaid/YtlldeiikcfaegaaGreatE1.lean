/- A part of the walk: contracts of functions that the statement reaches. -/
import Derived.Test.YtlldeiikcfaegaaGreatAbsC
import Derived.Test.YtlldeiikcfaegaaGreatD1
import Derived.Laws.Bits64
set_option linter.unusedSimpArgs false
set_option linter.unusedVariables false
set_option linter.unnecessarySimpa false
set_option maxRecDepth 100000
set_option maxHeartbeats 2000000
set_option linter.unusedSimpArgs false
set_option linter.unusedVariables false
namespace Go.Abs
open Go.Proofs
open Api
def mixB (h n : BitVec 64) : BitVec 64 :=
  (((h ^^^ n) * 11400714819323198485#64 ^^^ ((h ^^^ n) * 11400714819323198485#64) >>> 32) * 15485907386658061715#64) ^^^
    (((h ^^^ n) * 11400714819323198485#64 ^^^ ((h ^^^ n) * 11400714819323198485#64) >>> 32) * 15485907386658061715#64) >>> 29
/-- a number mixed into a hash -/
def mix (h n : Int) : Int := (mixB (BitVec.ofInt 64 h) (BitVec.ofInt 64 n)).toNat
theorem bw_toNat (b : BitVec 64) : IntKind.u64.wrap (b.toNat : Int) = b.toNat := by
  rw [IntKind.wrap_u64]; have := b.isLt; omega
theorem bw_ofInt (b : BitVec 64) : BitVec.ofInt 64 (b.toNat : Int) = b := by
  apply BitVec.eq_of_toNat_eq; have := b.isLt
  rw [BitVec.toNat_ofInt]; omega
theorem bw_ofWrap (n : Int) : BitVec.ofInt 64 (IntKind.u64.wrap n) = BitVec.ofInt 64 n := by
  apply BitVec.eq_of_toNat_eq
  rw [IntKind.wrap_u64, BitVec.toNat_ofInt, BitVec.toNat_ofInt]
  show (n % 18446744073709551616 % 18446744073709551616).toNat = (n % 18446744073709551616).toNat
  omega
theorem bw_mul (b : BitVec 64) (c : Nat) : IntKind.u64.wrap ((b.toNat : Int) * (c : Int)) = ((b * BitVec.ofNat 64 c).toNat : Int) := by
  rw [IntKind.wrap_u64, BitVec.toNat_mul, BitVec.toNat_ofNat]
  rw [← Int.natCast_mul, Nat.mul_mod_mod]
  generalize b.toNat * c = q
  show (q : Int) % 18446744073709551616 = ((q % 18446744073709551616 : Nat) : Int)
  omega
theorem bw_mul1 (b : BitVec 64) : IntKind.u64.wrap ((b.toNat : Int) * 11400714819323198485) = ((b * 11400714819323198485#64).toNat : Int) := bw_mul b 11400714819323198485
theorem bw_mul2 (b : BitVec 64) : IntKind.u64.wrap ((b.toNat : Int) * 15485907386658061715) = ((b * 15485907386658061715#64).toNat : Int) := bw_mul b 15485907386658061715
theorem bw_shr (b : BitVec 64) (k : Nat) : ((b.toNat : Int)).fdiv (2 ^ k) = ((b >>> k).toNat : Int) := by
  rw [BitVec.toNat_ushiftRight, Nat.shiftRight_eq_div_pow, Int.fdiv_eq_ediv_of_nonneg _ (Int.pow_nonneg (by omega))]
  norm_cast
theorem bw_shr32 (b : BitVec 64) : ((b.toNat : Int)).fdiv (2 ^ min 32 64) = ((b >>> 32).toNat : Int) := bw_shr b 32
theorem bw_shr29 (b : BitVec 64) : ((b.toNat : Int)).fdiv (2 ^ min 29 64) = ((b >>> 29).toNat : Int) := bw_shr b 29
theorem bw_div (b : BitVec 64) (k : Nat) (c : Int) (hc : c = 2 ^ k) : IntKind.u64.wrap ((b.toNat : Int).tdiv c) = ((b >>> k).toNat : Int) := by
  rw [hc, Int.tdiv_eq_ediv_of_nonneg (by omega), ← bw_toNat (b >>> k), ← bw_shr, Int.fdiv_eq_ediv_of_nonneg _ (Int.pow_nonneg (by omega))]
theorem bw_div32 (b : BitVec 64) : IntKind.u64.wrap ((b.toNat : Int).tdiv 4294967296) = ((b >>> 32).toNat : Int) := bw_div b 32 _ (by decide)
theorem bw_div29 (b : BitVec 64) : IntKind.u64.wrap ((b.toNat : Int).tdiv 536870912) = ((b >>> 29).toNat : Int) := bw_div b 29 _ (by decide)

theorem s_checksum_Mix64 (h n : Int) : CallsA Tryz.prog F_checksum_Mix64 [.sc (.int .u64 h), .sc (.int .i64 n)] [] (.sc (.int .u64 (mix h n))) [] := by
  refine callsI_of (rs := [_]) hm Tryz.func125 (by kernel_rfl) (by kernel_rfl) is_checksum_Mix64 (by kernel_rfl : tmpsOf Tryz.f125.results.toList = some [4]) (by decide) (by kernel_rfl) ?_
  simp only [c_checksum_Mix64, go_sem]
  refine ⟨by decide, by decide, ?_⟩
  simp only [bw_toNat, bw_ofInt, bw_ofWrap, bw_mul1, bw_mul2, bw_shr32, bw_shr29]
  rfl
theorem s_r09_Mix64 (h n : Int) : CallsA Tryz.prog F_r09_Mix64 [.sc (.int .u64 h), .sc (.int .i64 n)] [] (.sc (.int .u64 (mix h n))) [] := by
  refine callsI_of (rs := [_]) hm Tryz.func127 (by kernel_rfl) (by kernel_rfl) is_r09_Mix64 (by kernel_rfl : tmpsOf Tryz.f127.results.toList = some [4]) (by decide) (by kernel_rfl) ?_
  simp only [c_r09_Mix64, go_sem]
  refine ⟨by decide, by decide, ?_⟩
  simp only [bw_toNat, bw_ofInt, bw_ofWrap, bw_mul1, bw_mul2, bw_div32, bw_div29]
  rfl

end Go.Abs
