/- A part of the walk: contracts of functions that the statement reaches. -/
import Derived.Test.YtbpaheflphafiaaH3
set_option linter.unusedSimpArgs false
set_option linter.unusedVariables false
set_option linter.unnecessarySimpa false
set_option maxRecDepth 100000
set_option maxHeartbeats 400000
set_option linter.unusedSimpArgs false
set_option linter.unusedVariables false
namespace Go.Abs
open Go.Proofs
open Api
attribute [go_sem] Option.toList_none Option.toList_some Int.sub_zero Int.toNat_zero
/-- a call that is not carried out -/
theorem CallGi_off {P : Program} {m : Nat → Option AObj} {f : FuncId} {avs : List AV} {b : Bool} {Q : ContR} (hb : b = false) (r : AV) (hK : @Ri Q b ⟨some r, []⟩) : @CallGi P m f avs b Q :=
  ⟨⟨some r, []⟩, (fun h => by rw [hb] at h; cases h), (fun h => absurd rfl h), hK⟩
theorem sameAt_iff {a b : List Int} {i : Nat} : sameAt a b i = true ↔ i < a.length ∧ i < b.length ∧ a.getD i 0 = b.getD i 0 := by
  simp only [sameAt, Bool.and_eq_true, decide_eq_true_eq, beq_iff_eq, and_assoc]
theorem firstDiff_cases (a b : List Int) : (firstDiff a b = -1 ∧ a = b) ∨ ∃ i : Nat, firstDiff a b = i ∧ i < max a.length b.length ∧ (∀ j, j < i → sameAt a b j = true) ∧ sameAt a b i = false := by
  cases h : (List.range (max a.length b.length)).find? (fun i => !sameAt a b i) with
  | none =>
    refine .inl ⟨by unfold firstDiff; rw [h], ?_⟩
    rw [List.find?_range_eq_none] at h
    have all : ∀ j, j < max a.length b.length → sameAt a b j = true := fun j hj => by simpa using h j hj
    have hlen : a.length = b.length := by
      rcases Nat.lt_trichotomy a.length b.length with hl | hl | hl
      · have := (sameAt_iff.1 (all a.length (by omega))).1; omega
      · exact hl
      · have := (sameAt_iff.1 (all b.length (by omega))).2.1; omega
    apply List.ext_getElem hlen
    intro j h1 h2
    have := (sameAt_iff.1 (all j (by omega))).2.2
    simpa [List.getD, h1, h2] using this
  | some i =>
    refine .inr ⟨i, by unfold firstDiff; rw [h], ?_⟩
    rw [List.find?_range_eq_some] at h
    exact ⟨by simpa using h.2.1, fun j hj => by simpa using h.2.2 j hj, by simpa using h.1⟩
theorem take_same {a b : List Int} {i : Nat} (h : ∀ j, j < i → sameAt a b j = true) : a.take i = b.take i := by
  apply List.ext_getElem?
  intro j
  rw [List.getElem?_take, List.getElem?_take]
  split
  · rename_i hj
    obtain ⟨h1, h2, h3⟩ := sameAt_iff.1 (h j hj)
    rw [List.getElem?_eq_getElem h1, List.getElem?_eq_getElem h2]
    simpa [List.getD, h1, h2] using h3
  · rfl
theorem mix_inj {h x y : Int} (hx : 0 ≤ x ∧ x < 18446744073709551616) (hy : 0 ≤ y ∧ y < 18446744073709551616) (e : mix h (w64 x) = mix h (w64 y)) : x = y := by
  have e1 : mixB (BitVec.ofInt 64 h) (BitVec.ofInt 64 (w64 x)) = mixB (BitVec.ofInt 64 h) (BitVec.ofInt 64 (w64 y)) := BitVec.eq_of_toNat_eq (by unfold mix at e; exact_mod_cast e)
  have e2 := mixB_inj e1
  have key : ∀ z : Int, BitVec.ofInt 64 (w64 z) = BitVec.ofInt 64 z := fun z => by
    apply BitVec.eq_of_toNat_eq
    rw [show w64 z = IntKind.i64.wrap z from rfl, IntKind.wrap_i64, BitVec.toNat_ofInt, BitVec.toNat_ofInt]
    show (((z + 9223372036854775808) % 18446744073709551616 - 9223372036854775808) % 18446744073709551616).toNat = (z % 18446744073709551616).toNat
    omega
  rw [key, key] at e2
  have := congrArg BitVec.toNat e2
  rw [BitVec.toNat_ofInt, BitVec.toNat_ofInt] at this
  change (x % 18446744073709551616).toNat = (y % 18446744073709551616).toNat at this
  omega
theorem avle_take {l : List Int} {enc : Int → List AV} {z k m : Nat} {g : Nat → List AV} (hk : k ≤ l.length) (hm : m = k) (hg : ∀ i, g i = enc (l.getD i 0)) : avle (.dsl z m g) (.dsl z (min k l.length) (encAt enc 0 (l.take k))) := by
  subst hm
  rw [Nat.min_eq_left hk]
  simp only [avle, true_and]
  intro i hi
  have : (l.take m).getD i 0 = l.getD i 0 := by simp [List.getD, List.getElem?_take, hi]
  simp only [encAt, hg, this]
  exact avleL_refl _

theorem s_law46_StateHashPrefix (a b : List Int) (ra : ∀ x ∈ a, 0 ≤ x ∧ x < 18446744073709551616) (rb : ∀ x ∈ b, 0 ≤ x ∧ x < 18446744073709551616) : CallsA Try.prog F_law46_StateHashPrefix [encD 1 encU64 0 a, encD 1 encU64 0 b] [] (.sc (.bool true)) [] := by
  refine callsI_of (rs := [_]) hm Try.func10 (by kernel_rfl) (by kernel_rfl) is_law46_StateHashPrefix (by kernel_rfl : tmpsOf Try.f10.results.toList = some [4]) (by decide) (by kernel_rfl) ?_
  simp only [c_law46_StateHashPrefix, go_sem, reduceIte, Nat.reduceEqDiff, reduceCtorEq, Nat.reduceAdd, Nat.reduceLeDiff, Nat.reduceMul, Nat.reduceSub, Int.reduceToNat]
  by_cases hc : a.length ≤ 2000 ∧ b.length ≤ 2000
  · obtain ⟨ha, hb⟩ := hc
    rw [if_neg (by rw [if_neg (by omega), decide_eq_false (by omega)]; simp)]
    refine CallGi_flat (s_statehash_FirstDifference a b (by omega) (by omega)) rfl ?_
    rcases firstDiff_cases a b with ⟨e, rfl⟩ | ⟨i, e, hi, hs, hn⟩
    · simp only [e, show ((-1 : Int) < 0) = True from by decide, go_sem, reduceIte, Nat.reduceEqDiff, reduceCtorEq, Nat.reduceAdd, Nat.reduceLeDiff, Nat.reduceMul, Nat.reduceSub, Int.reduceToNat]
      refine CallGi_flat (s_statehash_Chain a (by omega)) rfl ?_
      simp only [go_sem, reduceIte, Nat.reduceEqDiff, reduceCtorEq, Nat.reduceAdd, Nat.reduceLeDiff, Nat.reduceMul, Nat.reduceSub, Int.reduceToNat]
      refine CallGi_flat (s_statehash_Chain a (by omega)) rfl ?_
      simp only [beq_self_eq_true, go_sem, reduceIte, Nat.reduceEqDiff, reduceCtorEq, Nat.reduceAdd, Nat.reduceLeDiff, Nat.reduceMul, Nat.reduceSub, Int.reduceToNat]
      refine CallGi_flat s_law46_example rfl ?_
      simp only [go_sem, reduceIte, Nat.reduceEqDiff, reduceCtorEq, Nat.reduceAdd, Nat.reduceLeDiff, Nat.reduceMul, Nat.reduceSub, Int.reduceToNat]
    · have hia : i ≤ a.length := by
        rcases Nat.eq_zero_or_pos i with h | h
        · omega
        · have := (sameAt_iff.1 (hs (i - 1) (by omega))).1; omega
      have hib : i ≤ b.length := by
        rcases Nat.eq_zero_or_pos i with h | h
        · omega
        · have := (sameAt_iff.1 (hs (i - 1) (by omega))).2.1; omega
      have g0 : ((i : Int) < 0) = False := eq_false (by omega)
      have g1 : ((a.length : Int) < (i : Int)) = False := eq_false (by omega)
      have g2 : ((b.length : Int) < (i : Int)) = False := eq_false (by omega)
      simp only [e, g0, g1, g2, decide_false, Option.getD_none, Int.sub_zero, Int.toNat_zero, Int.natCast_nonneg, go_sem, reduceIte, Nat.reduceEqDiff, reduceCtorEq, Nat.reduceAdd, Nat.reduceLeDiff, Nat.reduceMul, Nat.reduceSub, Int.reduceToNat]
      refine ⟨⟨by omega, by omega⟩, ?_⟩
      refine CallGi_keep (s_statehash_Chain (a.take i) (by simp; omega)) rfl (by simp only [argsC, go_sem, reduceIte, Nat.reduceEqDiff, reduceCtorEq, Nat.reduceAdd, Nat.reduceLeDiff, Nat.reduceMul, Nat.reduceSub, Int.reduceToNat]; exact avle_take hia rfl fun j => rfl) ?_
      simp only [e, g0, g1, g2, decide_false, Option.getD_none, Int.natCast_nonneg, go_sem, reduceIte, Nat.reduceEqDiff, reduceCtorEq, Nat.reduceAdd, Nat.reduceLeDiff, Nat.reduceMul, Nat.reduceSub, Int.reduceToNat]
      refine ⟨⟨by omega, by omega⟩, ?_⟩
      refine CallGi_keep (s_statehash_Chain (b.take i) (by simp; omega)) rfl (by simp only [argsC, go_sem, reduceIte, Nat.reduceEqDiff, reduceCtorEq, Nat.reduceAdd, Nat.reduceLeDiff, Nat.reduceMul, Nat.reduceSub, Int.reduceToNat]; exact avle_take hib rfl fun j => rfl) ?_
      simp only [take_same hs, bne_self_eq_false, go_sem, reduceIte, Nat.reduceEqDiff, reduceCtorEq, Nat.reduceAdd, Nat.reduceLeDiff, Nat.reduceMul, Nat.reduceSub, Int.reduceToNat]
      have hw : IntKind.i64.wrap ((i : Int) + 1) = ((i + 1 : Nat) : Int) := by rw [IntKind.wrap_i64]; omega
      have hor : ((i : Int) == (a.length : Int) || (i : Int) == (b.length : Int)) = false → i < a.length ∧ i < b.length := fun h => by
        simp only [Bool.or_eq_false_iff, beq_eq_false_iff_ne] at h; omega
      simp only [hw, Int.toNat_natCast]
      refine ⟨fun h => by have := hor h; omega, ?_⟩
      by_cases hlt : i < a.length ∧ i < b.length
      · refine CallGi_keep (s_statehash_Chain (a.take (i + 1)) (by simp; omega)) rfl (by simp only [argsC, go_sem, reduceIte, Nat.reduceEqDiff, reduceCtorEq, Nat.reduceAdd, Nat.reduceLeDiff, Nat.reduceMul, Nat.reduceSub, Int.reduceToNat]; exact avle_take hlt.1 rfl fun j => rfl) ?_
        simp only [hw, Int.toNat_natCast, go_sem, reduceIte, Nat.reduceEqDiff, reduceCtorEq, Nat.reduceAdd, Nat.reduceLeDiff, Nat.reduceMul, Nat.reduceSub, Int.reduceToNat]
        refine ⟨fun h => by have := hor h; omega, ?_⟩
        refine CallGi_keep (s_statehash_Chain (b.take (i + 1)) (by simp; omega)) rfl (by simp only [argsC, go_sem, reduceIte, Nat.reduceEqDiff, reduceCtorEq, Nat.reduceAdd, Nat.reduceLeDiff, Nat.reduceMul, Nat.reduceSub, Int.reduceToNat]; exact avle_take hlt.2 rfl fun j => rfl) ?_
        have hne : (hashL 0 ((a.take (i + 1)).map w64) != hashL 0 ((b.take (i + 1)).map w64)) = true := by
          rw [bne_iff_ne]
          intro e'
          rw [take_snoc 0 hlt.1, take_snoc 0 hlt.2, take_same hs, List.map_append, List.map_append] at e'
          simp only [hashL, List.foldl_append, List.map_cons, List.map_nil, List.foldl_cons, List.foldl_nil] at e'
          have := mix_inj (ra _ (mem_getD 0 hlt.1)) (rb _ (mem_getD 0 hlt.2)) e'
          have hh := sameAt_iff.2 ⟨hlt.1, hlt.2, this⟩
          rw [hn] at hh; cases hh
        simp only [hne, Bool.or_true, go_sem, reduceIte, Nat.reduceEqDiff, reduceCtorEq, Nat.reduceAdd, Nat.reduceLeDiff, Nat.reduceMul, Nat.reduceSub, Int.reduceToNat]
        refine CallGi_flat s_law46_example rfl ?_
        simp only [go_sem, reduceIte, Nat.reduceEqDiff, reduceCtorEq, Nat.reduceAdd, Nat.reduceLeDiff, Nat.reduceMul, Nat.reduceSub, Int.reduceToNat]
      · have hoff : (!((i : Int) == (a.length : Int) || (i : Int) == (b.length : Int))) = false := by
          rw [Bool.not_eq_false', Bool.or_eq_true, beq_iff_eq, beq_iff_eq]; omega
        refine CallGi_off hoff (.sc (.int .u64 0)) ?_
        simp only [hw, Int.toNat_natCast, go_sem, reduceIte, Nat.reduceEqDiff, reduceCtorEq, Nat.reduceAdd, Nat.reduceLeDiff, Nat.reduceMul, Nat.reduceSub, Int.reduceToNat]
        refine ⟨fun h => by have := hor h; omega, ?_⟩
        refine CallGi_off hoff (.sc (.int .u64 0)) ?_
        have hon : ((i : Int) == (a.length : Int) || (i : Int) == (b.length : Int)) = true := by
          rw [Bool.or_eq_true, beq_iff_eq, beq_iff_eq]; omega
        simp only [hon, Bool.true_or, go_sem, reduceIte, Nat.reduceEqDiff, reduceCtorEq, Nat.reduceAdd, Nat.reduceLeDiff, Nat.reduceMul, Nat.reduceSub, Int.reduceToNat]
        refine CallGi_flat s_law46_example rfl ?_
        simp only [go_sem, reduceIte, Nat.reduceEqDiff, reduceCtorEq, Nat.reduceAdd, Nat.reduceLeDiff, Nat.reduceMul, Nat.reduceSub, Int.reduceToNat]
  · rw [if_pos (by by_cases h : 2000 < (a.length : Int); rw [if_pos h]; rw [if_neg h]; exact decide_eq_true (by omega))]
    refine CallGi_flat s_law46_example rfl ?_
    simp only [go_sem, reduceIte, Nat.reduceEqDiff, reduceCtorEq, Nat.reduceAdd, Nat.reduceLeDiff, Nat.reduceMul, Nat.reduceSub, Int.reduceToNat]

end Go.Abs
