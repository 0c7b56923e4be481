/- A part of the walk: contracts of functions that the statement reaches. -/
import Derived.Test.YtlldeiikcfaegaaGreatAbsC
import Derived.Test.YtlldeiikcfaegaaGreatE1
set_option linter.unusedSimpArgs false
set_option linter.unusedVariables false
set_option linter.unnecessarySimpa false
set_option maxRecDepth 100000
set_option maxHeartbeats 2000000
set_option linter.unusedSimpArgs false
set_option linter.unusedVariables false
namespace Go.Abs
open Go.Proofs
open Api
def encU8 (x : Int) : List AV := [.sc (.int .u8 x)]
def encU64 (x : Int) : List AV := [.sc (.int .u64 x)]
attribute [go_sem] encU8 encU64
def w64 (x : Int) : Int := IntKind.i64.wrap x
def hashL (h : Int) (l : List Int) : Int := l.foldl mix h
theorem hashL_snoc (h : Int) {l : List Int} {i : Nat} (hi : i < l.length) : hashL h (l.take (i + 1)) = mix (hashL h (l.take i)) (l.getD i 0) := by
  rw [take_snoc 0 hi]; simp [hashL]
theorem u64_len {n : Nat} (h : n ≤ 1048576) : IntKind.u64.wrap (n : Int) = n := by rw [IntKind.wrap_u64]; omega

theorem s_checksum_HashInts (l : List Int) (hl : l.length ≤ 1048576) : CallsA Tryz.prog F_checksum_HashInts [encD 1 encInt 0 l] [] (.sc (.int .u64 (hashL l.length l))) [] := by
  refine callsI_of (rs := [_]) hm Tryz.func57 (by kernel_rfl) (by kernel_rfl) is_checksum_HashInts (by kernel_rfl : tmpsOf Tryz.f57.results.toList = some [2]) (by decide) (by kernel_rfl) ?_
  simp only [c_checksum_HashInts, u64_len hl, go_sem]
  refine Wpi_loop hm (ι := {i : Nat // i ≤ l.length}) (fun i => [(3, .share, .sc (.int .u64 (hashL l.length (l.take i.1)))), (9, .share, encD 1 encInt 0 l), (10, .share, .sc (.int .i64 l.length)), (11, .share, .sc (.int .i64 i.1))])
    (fun i => []) (fun i => l.length - i.1) ⟨0, by omega⟩ ?_ ?_
  · refine weakE_ [] [] ?_
    simp only [go_sem]
    rfl
  · rintro ⟨i, hi⟩
    simp only [c_checksum_HashIntsb0, go_sem]
    split
    · rename_i hlt
      have hlt : i < l.length := by omega
      refine ⟨ok_, ?_⟩
      refine CallGi_flat (s_checksum_Mix64 (hashL l.length (l.take i)) (l.getD i 0)) rfl ?_
      simp only [go_sem]
      refine loop_next ⟨i + 1, by omega⟩ (by show l.length - (i + 1) < l.length - i; omega) (weakE_ [] [] ?_)
      simp only [hashL_snoc _ hlt, go_sem]
      exact (by rw [IntKind.wrap_i64]; omega)
    · rename_i hge
      obtain rfl : i = l.length := by omega
      rw [List.take_length]

theorem s_statehash_OfBytes (l : List Int) (hl : l.length ≤ 1048576) : CallsA Tryz.prog F_statehash_OfBytes [encD 1 encU8 0 l] [] (.sc (.int .u64 (hashL l.length (l.map w64)))) [] := by
  refine callsI_of (rs := [_]) hm Tryz.func53 (by kernel_rfl) (by kernel_rfl) is_statehash_OfBytes (by kernel_rfl : tmpsOf Tryz.f53.results.toList = some [2]) (by decide) (by kernel_rfl) ?_
  simp only [c_statehash_OfBytes, go_sem]
  refine ⟨ok_, ?_⟩
  refine Wpi_loop hm (ι := {i : Nat // i ≤ l.length}) (fun i => [(3, .share, .sl 1 0 i.1 i.1), (9, .share, encD 1 encU8 0 l), (10, .share, .sc (.int .i64 l.length)), (11, .share, .sc (.int .i64 i.1))])
    (fun i => [(1, .arr 1 (encQ encInt 0 ((l.take i.1).map w64)))]) (fun i => l.length - i.1) ⟨0, by omega⟩ ?_ ?_
  · refine weakE_ [(1, 144)] [] ?_
    simp only [go_sem]
    exact ⟨rfl, rfl, fun i hi => absurd hi (by simp)⟩
  · rintro ⟨i, hi⟩
    simp only [c_statehash_OfBytesb0, List.length_map, go_sem]
    split
    · rename_i hlt
      have hlt : i < l.length := by omega
      refine ⟨ok_, ok_, ?_⟩
      refine loop_next ⟨i + 1, by omega⟩ (by show l.length - (i + 1) < l.length - i; omega) (weakE_ [] [] ?_)
      simp only [List.length_map, go_sem]
      exact ⟨by omega, (by rw [IntKind.wrap_i64]; omega), q_app1 (w64 (l.getD i 0)) rfl (map_take_snoc 0 w64 hlt)⟩
    · rename_i hge
      obtain rfl : i = l.length := by omega
      refine CallGi_obj [false] [] (s_checksum_HashInts (l.map w64) (by simpa using hl)) (by simp) (by simp) (by simp) (by simp) ?_
      simp only [List.take_length, List.length_map, go_sem]

theorem s_r46_OfBytes (l : List Int) (hl : l.length ≤ 1048576) : CallsA Tryz.prog F_r46_OfBytes [encD 1 encU8 0 l] [] (.sc (.int .u64 (hashL l.length (l.map w64)))) [] := by
  refine callsI_of (rs := [_]) hm Tryz.func59 (by kernel_rfl) (by kernel_rfl) is_r46_OfBytes (by kernel_rfl : tmpsOf Tryz.f59.results.toList = some [2]) (by decide) (by kernel_rfl) ?_
  simp only [c_r46_OfBytes, u64_len hl, go_sem]
  refine Wpi_loop hm (ι := {i : Nat // i ≤ l.length}) (fun i => [(0, .share, encD 1 encU8 0 l), (3, .share, .sc (.int .u64 (hashL l.length ((l.map w64).take i.1)))), (4, .share, .sc (.int .i64 i.1))])
    (fun i => []) (fun i => l.length - i.1) ⟨0, by omega⟩ ?_ ?_
  · refine weakE_ [] [] ?_
    simp only [go_sem]
    rfl
  · rintro ⟨i, hi⟩
    simp only [c_r46_OfBytesb0, go_sem]
    split
    · rename_i hlt
      have hlt : i < l.length := by omega
      refine ⟨ok_, ?_⟩
      refine CallGi_flat (s_r09_Mix64 (hashL l.length ((l.map w64).take i)) (w64 (l.getD i 0))) rfl ?_
      simp only [go_sem]
      refine loop_next ⟨i + 1, by omega⟩ (by show l.length - (i + 1) < l.length - i; omega) (weakE_ [] [] ?_)
      have hg : (l.map w64).getD i 0 = w64 (l.getD i 0) := by simp [List.getD, hlt]
      simp only [hashL_snoc (l.length : Int) (show i < (l.map w64).length by simpa using hlt), hg, go_sem]
      exact (by rw [IntKind.wrap_i64]; omega)
    · rename_i hge
      obtain rfl : i = l.length := by omega
      rw [List.take_of_length_le (by simp)]


theorem s_statehash_Chain (l : List Int) (hl : l.length ≤ 1048576) : CallsA Tryz.prog F_statehash_Chain [encD 1 encU64 0 l] [] (.sc (.int .u64 (hashL 0 (l.map w64)))) [] := by
  refine callsI_of (rs := [_]) hm Tryz.func56 (by kernel_rfl) (by kernel_rfl) is_statehash_Chain (by kernel_rfl : tmpsOf Tryz.f56.results.toList = some [2]) (by decide) (by kernel_rfl) ?_
  simp only [c_statehash_Chain, go_sem]
  refine Wpi_loop hm (ι := {i : Nat // i ≤ l.length}) (fun i => [(3, .share, .sc (.int .u64 (hashL 0 ((l.map w64).take i.1)))), (6, .share, encD 1 encU64 0 l), (7, .share, .sc (.int .i64 l.length)), (8, .share, .sc (.int .i64 i.1))])
    (fun i => []) (fun i => l.length - i.1) ⟨0, by omega⟩ ?_ ?_
  · refine weakE_ [] [] ?_
    simp only [go_sem]
    rfl
  · rintro ⟨i, hi⟩
    simp only [c_statehash_Chainb0, go_sem]
    split
    · rename_i hlt
      have hlt : i < l.length := by omega
      refine ⟨ok_, ?_⟩
      refine CallGi_flat (s_checksum_Mix64 (hashL 0 ((l.map w64).take i)) (w64 (l.getD i 0))) rfl ?_
      simp only [go_sem]
      refine loop_next ⟨i + 1, by omega⟩ (by show l.length - (i + 1) < l.length - i; omega) (weakE_ [] [] ?_)
      have hg : (l.map w64).getD i 0 = w64 (l.getD i 0) := by simp [List.getD, hlt]
      simp only [hashL_snoc 0 (show i < (l.map w64).length by simpa using hlt), hg, go_sem]
      exact (by rw [IntKind.wrap_i64]; omega)
    · rename_i hge
      obtain rfl : i = l.length := by omega
      rw [List.take_of_length_le (by simp)]

def sameAt (a b : List Int) (i : Nat) : Bool := decide (i < a.length) && decide (i < b.length) && (a.getD i 0 == b.getD i 0)
def firstDiff (a b : List Int) : Int := match (List.range (max a.length b.length)).find? (fun i => !sameAt a b i) with
  | some i => i
  | none => -1
theorem firstDiff_at {a b : List Int} {i : Nat} (hi : i < max a.length b.length) (h : ∀ j, j < i → sameAt a b j = true) (hn : sameAt a b i = false) : firstDiff a b = i := by
  have : (List.range (max a.length b.length)).find? (fun i => !sameAt a b i) = some i := by
    rw [List.find?_range_eq_some]
    exact ⟨by simp [hn], by simpa using hi, fun j hj => by simp [h j hj]⟩
  unfold firstDiff; rw [this]
theorem firstDiff_none {a b : List Int} (h : ∀ j, j < max a.length b.length → sameAt a b j = true) : firstDiff a b = -1 := by
  have : (List.range (max a.length b.length)).find? (fun i => !sameAt a b i) = none := by
    rw [List.find?_range_eq_none]
    exact fun j hj => by simp [h j hj]
  unfold firstDiff; rw [this]
theorem fd_guardA (a b : List Int) (i : Nat) (hg : (if (a.length : Int) ≤ (i : Int) then true else decide ((b.length : Int) ≤ (i : Int))) = false) : 0 ≤ (i : Int) ∧ (i : Int) < a.length := by
  by_cases h1 : (a.length : Int) ≤ (i : Int)
  · rw [if_pos h1] at hg; cases hg
  · omega
theorem fd_guardB (a b : List Int) (i : Nat) (hg : (if (a.length : Int) ≤ (i : Int) then true else decide ((b.length : Int) ≤ (i : Int))) = false) : 0 ≤ (i : Int) ∧ (i : Int) < b.length := by
  by_cases h1 : (a.length : Int) ≤ (i : Int)
  · rw [if_pos h1] at hg; cases hg
  · rw [if_neg h1] at hg; have := of_decide_eq_false hg; omega
theorem fd_cond (a b : List Int) (i : Nat) : ((if (a.length : Int) ≤ (i : Int) then true else decide ((b.length : Int) ≤ (i : Int))) || a.getD i 0 != b.getD i 0) = !sameAt a b i := by
  unfold sameAt
  by_cases h1 : i < a.length
  · rw [if_neg (by omega)]
    by_cases h2 : i < b.length
    · rw [decide_eq_false (by omega)]; simp only [h1, h2, decide_true, Bool.true_and, Bool.false_or]; rfl
    · rw [decide_eq_true (by omega)]; simp [h2]
  · rw [if_pos (by omega)]; simp [h1]
theorem s_statehash_FirstDifference (a b : List Int) (ha : a.length ≤ 1048576) (hb : b.length ≤ 1048576) : CallsA Tryz.prog F_statehash_FirstDifference [encD 1 encU64 0 a, encD 1 encU64 0 b] [] (.sc (.int .i64 (firstDiff a b))) [] := by
  refine callsI_of (rs := [_]) hm Tryz.func21 (by kernel_rfl) (by kernel_rfl) is_statehash_FirstDifference (by kernel_rfl : tmpsOf Tryz.f21.results.toList = some [4]) (by decide) (by kernel_rfl) ?_
  simp only [c_statehash_FirstDifference, go_sem]
  refine Wpi_loop hm (ι := {i : Nat // i ≤ max a.length b.length ∧ ∀ j, j < i → sameAt a b j = true}) (fun i => [(0, .share, encD 1 encU64 0 a), (1, .share, encD 1 encU64 0 b), (10, .share, .sc (.int .i64 (max a.length b.length : Nat))), (11, .share, .sc (.int .i64 i.1))])
    (fun i => []) (fun i => max a.length b.length - i.1) ⟨0, by omega, fun j hj => by omega⟩ ?_ ?_
  · refine weakE_ [] [] ?_
    simp only [go_sem]
    split <;> omega
  · rintro ⟨i, hi, hs⟩
    simp only [c_statehash_FirstDifferenceb0, go_sem]
    split
    · rename_i hlt
      refine ⟨fd_guardA a b i, fd_guardB a b i, ?_⟩
      rw [fd_cond]
      cases hsm : sameAt a b i with
      | false =>
        rw [if_pos (show (!false) = true from rfl)]
        exact (firstDiff_at (by omega) hs hsm).symm
      | true =>
        rw [if_neg (by simp)]
        refine loop_next ⟨i + 1, by omega, fun j hj => by rcases Nat.lt_succ_iff_lt_or_eq.1 hj with h | rfl; exact hs j h; exact hsm⟩ (by show max a.length b.length - (i + 1) < max a.length b.length - i; omega) (weakE_ [] [] ?_)
        simp only [go_sem]
        exact (by rw [IntKind.wrap_i64]; omega)
    · rename_i hge
      exact (firstDiff_none fun j hj => hs j (by omega)).symm
theorem s_r46_FirstDifference (a b : List Int) (ha : a.length ≤ 1048576) (hb : b.length ≤ 1048576) : CallsA Tryz.prog F_r46_FirstDifference [encD 1 encU64 0 a, encD 1 encU64 0 b] [] (.sc (.int .i64 (firstDiff a b))) [] := by
  refine callsI_of (rs := [_]) hm Tryz.func22 (by kernel_rfl) (by kernel_rfl) is_r46_FirstDifference (by kernel_rfl : tmpsOf Tryz.f22.results.toList = some [4]) (by decide) (by kernel_rfl) ?_
  simp only [c_r46_FirstDifference, go_sem]
  refine Wpi_loop hm (ι := {i : Nat // i ≤ max a.length b.length ∧ ∀ j, j < i → sameAt a b j = true}) (fun i => [(0, .share, encD 1 encU64 0 a), (1, .share, encD 1 encU64 0 b), (5, .share, .sc (.int .i64 i.1))])
    (fun i => []) (fun i => max a.length b.length - i.1) ⟨0, by omega, fun j hj => by omega⟩ ?_ ?_
  · refine weakE_ [] [] ?_
    simp only [go_sem]
  · rintro ⟨i, hi, hs⟩
    simp only [c_r46_FirstDifferenceb0, go_sem]
    by_cases hlt : i < max a.length b.length
    · rw [if_pos (by by_cases h : (i : Int) < a.length; rw [if_pos h]; rw [if_neg h]; exact decide_eq_true (by omega))]
      refine ⟨fd_guardA a b i, fd_guardB a b i, ?_⟩
      rw [fd_cond]
      cases hsm : sameAt a b i with
      | false =>
        rw [if_pos (show (!false) = true from rfl)]
        exact (firstDiff_at (by omega) hs hsm).symm
      | true =>
        rw [if_neg (by simp)]
        refine loop_next ⟨i + 1, by omega, fun j hj => by rcases Nat.lt_succ_iff_lt_or_eq.1 hj with h | rfl; exact hs j h; exact hsm⟩ (by show max a.length b.length - (i + 1) < max a.length b.length - i; omega) (weakE_ [] [] ?_)
        simp only [go_sem]
        exact (by rw [IntKind.wrap_i64]; omega)
    · rw [if_neg (by rw [if_neg (by omega), decide_eq_false (by omega)]; simp)]
      exact (firstDiff_none fun j hj => hs j (by omega)).symm

end Go.Abs
