/- A part of the walk: contracts of functions that the statement reaches. -/
import Derived.Test.YtjakdlcknhfibaaAbs23
import Derived.KernelRfl
import Derived.Eval
import Derived.Test.YtjakdlcknhfibaaChecked
import Derived.Test.YtjakdlcknhfibaaC8
set_option linter.unusedSimpArgs false
set_option linter.unusedVariables false
set_option linter.unnecessarySimpa false
set_option maxRecDepth 100000
set_option linter.unusedSimpArgs false
namespace Go.Abs
open Go.Proofs

def cnt (l : List (Int × Int)) (k : Nat) : Nat := l.countP fun t => t.1 == (k : Int)
def tp (l : List (Int × Int)) : Nat → Nat
  | 0 => 0
  | n + 1 => if 0 < cnt l n then n + 1 else tp l n
def upto (l : List (Int × Int)) (m : Nat) : List Int := (List.range m).map fun k => (cnt l k : Int)
def counts (l : List (Int × Int)) : List Int := upto l (tp l 8)
theorem upto_length (l : List (Int × Int)) (m : Nat) : (upto l m).length = m := by simp [upto]
theorem upto_succ (l : List (Int × Int)) (m : Nat) : upto l (m + 1) = upto l m ++ [(cnt l m : Int)] := by simp [upto, List.range_succ]
theorem upto_getD (l : List (Int × Int)) (m k : Nat) (h : k < m) : (upto l m).getD k 0 = cnt l k := by
  simp [upto, List.getD, h]
theorem tp_le (l : List (Int × Int)) : ∀ n, tp l n ≤ n
  | 0 => Nat.le_refl 0
  | n + 1 => by
    have := tp_le l n
    simp only [tp]; split <;> omega
theorem tp_top (l : List (Int × Int)) : ∀ n k, k < n → tp l n ≤ k → cnt l k = 0
  | n + 1, k, h, h1 => by
    simp only [tp] at h1
    split at h1
    · omega
    · rename_i hc
      by_cases hk : k = n
      · subst hk; omega
      · exact tp_top l n k (by omega) h1
theorem tp_pos (l : List (Int × Int)) : ∀ n, 0 < tp l n → 0 < cnt l (tp l n - 1)
  | n + 1, h => by
    simp only [tp] at h ⊢
    split
    · rename_i hc; simpa using hc
    · rename_i hc
      rw [if_neg hc] at h
      exact tp_pos l n h
theorem tp_unique (l : List (Int × Int)) (n m : Nat) (hm : m ≤ n) (h1 : ∀ k, k < n → m ≤ k → cnt l k = 0) (h2 : 0 < m → 0 < cnt l (m - 1)) : tp l n = m := by
  have a := tp_le l n
  rcases Nat.lt_trichotomy (tp l n) m with h | h | h
  · have := tp_top l n (m - 1) (by omega) (by omega)
    have := h2 (by omega)
    omega
  · exact h
  · have := h1 (tp l n - 1) (by omega) (by omega)
    have := tp_pos l n (by omega)
    omega
theorem cnt_le (l : List (Int × Int)) (k : Nat) : cnt l k ≤ l.length := List.countP_le_length
theorem cnt_take_succ {l : List (Int × Int)} {i : Nat} (k : Nat) (h : i < l.length) : cnt (l.take (i + 1)) k = cnt (l.take i) k + if ((l.getD i (0, 0)).1 == (k : Int)) = true then 1 else 0 := by
  rw [take_succ_getD l i (0, 0) h, cnt, List.countP_append, List.countP_cons, List.countP_nil, Nat.zero_add]; rfl
theorem tp_snoc {l : List (Int × Int)} {i : Nat} (h : i < l.length) : tp (l.take (i + 1)) 8 =
    if (decide (0 ≤ (l.getD i (0, 0)).1) && decide ((l.getD i (0, 0)).1 < 8)) = true then max (tp (l.take i) 8) ((l.getD i (0, 0)).1.toNat + 1) else tp (l.take i) 8 := by
  have a := tp_le (l.take i) 8
  have b := tp_pos (l.take i) 8
  have c := tp_top (l.take i) 8
  split
  · rename_i hv
    rw [Bool.and_eq_true, decide_eq_true_eq, decide_eq_true_eq] at hv
    refine tp_unique _ 8 _ (by omega) (fun k hk hm => ?_) (fun hm => ?_)
    · rw [cnt_take_succ k h, c k hk (by omega), if_neg]
      rw [beq_iff_eq]; omega
    · rw [cnt_take_succ _ h]
      by_cases hmax : tp (l.take i) 8 ≤ (l.getD i (0, 0)).1.toNat + 1
      · rw [Nat.max_eq_right hmax, if_pos]
        · omega
        · rw [beq_iff_eq]; omega
      · rw [Nat.max_eq_left (by omega)]
        have := b (by omega)
        omega
  · rename_i hv
    rw [Bool.and_eq_true, decide_eq_true_eq, decide_eq_true_eq] at hv
    refine tp_unique _ 8 _ a (fun k hk hm => ?_) (fun hm => ?_)
    · rw [cnt_take_succ k h, c k hk hm, if_neg]
      rw [beq_iff_eq]; omega
    · rw [cnt_take_succ _ h]
      have := b hm
      omega

theorem s14 (l : List (Int × Int)) (hb : l.length ≤ 4611686018427387904) : CallsA Try.prog 14 [encL 2 encT (0, 0) l] [] (encL 1 encI 0 (counts l)) [] := by
  refine callsI_of (rs := [_]) hm Try.func14 (by kernel_rfl) (by kernel_rfl) is14 (by kernel_rfl : tmpsOf Try.f14.results.toList = some [2]) (by decide) (by kernel_rfl) ?_
  simp only [c14, AV.one, eqCells, Option.isSome_none, Bool.and_false, Bool.or_false, Bool.or_true, Bool.and_true, source, nid, setSq_n, encSq_n, encSq_g, slotsC, objsC, keepOff, assoc, List.not_mem_nil, false_implies, implies_true, List.mem_singleton, List.mem_cons, forall_eq, Option.isSome_some, or_false, or_true, Option.getD_some, Option.getD_none, Nat.zero_add, List.drop_one, List.tail_cons,  Wi_skip, Wi_seq, Wi_seqr, Wi_anyr, Wi_cond, Wi_block, Wi_loop, Wi_mark, Wi_exit, Wi_ret, Qi_then_normal, Qi_then_exit, Qi_then_ret, Qi_block_normal, Qi_block_exit, Qi_block_ret, Qi_loop_exit, Qi_loop_ret, Qi_ret, Qi_end, Si_norm, Wsi_nil, Wsi_cons, Wni_nil, Wni_cons, Ri_seq, Ri_any, Woi_def, WopMi, guardV, eval, target, St.es, start, stOf, argSlots, envT, St.e, St.ev, St.c, St.put, AOp.ops, allC, upd_apply, binAV, unAV, takeN, takeE, reduceIte, Nat.reduceEqDiff, wrm, List.foldl_nil, List.foldl_cons, List.map_nil, List.map_cons, reduceCtorEq, Option.map_some, Option.map_none, implies_true, and_self, true_and, and_true, ne_eq, not_true_eq_false, false_implies, true_implies, not_false_eq_true, if_true, if_false, eq_self, Bool.true_eq_false, Bool.false_eq_true, fillA, splice, AV.cells, List.length_cons, List.length_nil, List.drop_zero, List.drop_succ_cons, List.append_nil, List.nil_append, List.cons_append, Nat.reduceAdd, Nat.reduceLeDiff, Nat.reduceMul, Bool.not_true, Bool.not_false, and_false, false_and, List.getElem?_cons_zero, List.getElem?_cons_succ, retC, freezeAV, freezeCell, avle_scsc, avleL_nil, avleL_cons, AV.pure, AV.flat, imp_self, Nat.reduceAdd, Nat.reduceSub, ofL, pack, AV.ren, List.all_cons, List.all_nil, Bool.and_self, List.take_succ_cons, List.take_zero, freezeL, cellsOf, idsL, AV.ids, flats, List.reverse_nil, gt_iff_lt, ge_iff_le, decide_eq_true_eq, Int.reduceToNat, Int.toNat_natCast, encL]
  refine Wpi_loop hm (ι := {n : Nat // n ≤ 8}) (fun n => [(0, .share, encL 2 encT (0, 0) l), (3, if n.1 = 0 then .adopt else .share, .sl 1 0 (tp l n.1) (tp l n.1)), (4, .share, .sc (.int .i64 n.1))])
      (fun n => [(1, .arr 1 (encSq encI 0 (upto l (tp l n.1))))]) (fun n => 8 - n.1) ⟨0, by omega⟩ ?_ ?_
  · refine weakE_of [] [1] (by simp) (by simp) (by simp) ?_
    simp only [AV.one, eqCells, Option.isSome_none, Bool.and_false, Bool.or_false, Bool.or_true, Bool.and_true, source, nid, setSq_n, encSq_n, encSq_g, slotsC, objsC, keepOff, assoc, List.not_mem_nil, false_implies, implies_true, List.mem_singleton, List.mem_cons, forall_eq, Option.isSome_some, or_false, or_true, Option.getD_some, Option.getD_none, Nat.zero_add, List.drop_one, List.tail_cons,  Wi_skip, Wi_seq, Wi_seqr, Wi_anyr, Wi_cond, Wi_block, Wi_loop, Wi_mark, Wi_exit, Wi_ret, Qi_then_normal, Qi_then_exit, Qi_then_ret, Qi_block_normal, Qi_block_exit, Qi_block_ret, Qi_loop_exit, Qi_loop_ret, Qi_ret, Qi_end, Si_norm, Wsi_nil, Wsi_cons, Wni_nil, Wni_cons, Ri_seq, Ri_any, Woi_def, WopMi, guardV, eval, target, St.es, start, stOf, argSlots, envT, St.e, St.ev, St.c, St.put, AOp.ops, allC, upd_apply, binAV, unAV, takeN, takeE, reduceIte, Nat.reduceEqDiff, wrm, List.foldl_nil, List.foldl_cons, List.map_nil, List.map_cons, reduceCtorEq, Option.map_some, Option.map_none, implies_true, and_self, true_and, and_true, ne_eq, not_true_eq_false, false_implies, true_implies, not_false_eq_true, if_true, if_false, eq_self, Bool.true_eq_false, Bool.false_eq_true, fillA, splice, AV.cells, List.length_cons, List.length_nil, List.drop_zero, List.drop_succ_cons, List.append_nil, List.nil_append, List.cons_append, Nat.reduceAdd, Nat.reduceLeDiff, Nat.reduceMul, Bool.not_true, Bool.not_false, and_false, false_and, List.getElem?_cons_zero, List.getElem?_cons_succ, retC, freezeAV, freezeCell, avle_scsc, avleL_nil, avleL_cons, AV.pure, AV.flat, imp_self, Nat.reduceAdd, Nat.reduceSub, ofL, pack, AV.ren, List.all_cons, List.all_nil, Bool.and_self, List.take_succ_cons, List.take_zero, freezeL, cellsOf, idsL, AV.ids, flats, List.reverse_nil, gt_iff_lt, ge_iff_le, decide_eq_true_eq, Int.reduceToNat, Int.toNat_natCast, encL, Option.some.injEq, Prod.mk.injEq, AV.sc.injEq, Value.int.injEq, Value.bool.injEq, AV.sl.injEq, tp]
    simp [upto]
  · rintro ⟨n, hn⟩
    have htp := tp_le l n
    simp only [c14b2, AV.one, eqCells, Option.isSome_none, Bool.and_false, Bool.or_false, Bool.or_true, Bool.and_true, source, nid, setSq_n, encSq_n, encSq_g, slotsC, objsC, keepOff, assoc, List.not_mem_nil, false_implies, implies_true, List.mem_singleton, List.mem_cons, forall_eq, Option.isSome_some, or_false, or_true, Option.getD_some, Option.getD_none, Nat.zero_add, List.drop_one, List.tail_cons,  Wi_skip, Wi_seq, Wi_seqr, Wi_anyr, Wi_cond, Wi_block, Wi_loop, Wi_mark, Wi_exit, Wi_ret, Qi_then_normal, Qi_then_exit, Qi_then_ret, Qi_block_normal, Qi_block_exit, Qi_block_ret, Qi_loop_exit, Qi_loop_ret, Qi_ret, Qi_end, Si_norm, Wsi_nil, Wsi_cons, Wni_nil, Wni_cons, Ri_seq, Ri_any, Woi_def, WopMi, guardV, eval, target, St.es, start, stOf, argSlots, envT, St.e, St.ev, St.c, St.put, AOp.ops, allC, upd_apply, binAV, unAV, takeN, takeE, reduceIte, Nat.reduceEqDiff, wrm, List.foldl_nil, List.foldl_cons, List.map_nil, List.map_cons, reduceCtorEq, Option.map_some, Option.map_none, implies_true, and_self, true_and, and_true, ne_eq, not_true_eq_false, false_implies, true_implies, not_false_eq_true, if_true, if_false, eq_self, Bool.true_eq_false, Bool.false_eq_true, fillA, splice, AV.cells, List.length_cons, List.length_nil, List.drop_zero, List.drop_succ_cons, List.append_nil, List.nil_append, List.cons_append, Nat.reduceAdd, Nat.reduceLeDiff, Nat.reduceMul, Bool.not_true, Bool.not_false, and_false, false_and, List.getElem?_cons_zero, List.getElem?_cons_succ, retC, freezeAV, freezeCell, avle_scsc, avleL_nil, avleL_cons, AV.pure, AV.flat, imp_self, Nat.reduceAdd, Nat.reduceSub, ofL, pack, AV.ren, List.all_cons, List.all_nil, Bool.and_self, List.take_succ_cons, List.take_zero, freezeL, cellsOf, idsL, AV.ids, flats, List.reverse_nil, gt_iff_lt, ge_iff_le, decide_eq_true_eq, Int.reduceToNat, Int.toNat_natCast, encL, bor, band, bor2, band2, Bool.not_eq_true', Bool.not_eq_false', Bool.not_not, encT]
    split
    · rename_i hlt
      have hlt : n < 8 := by omega
      refine Wpi_loop hm (ι := {i : Nat // i ≤ l.length}) (fun i => [(0, .share, encL 2 encT (0, 0) l), (3, .share, .sl 1 0 (tp l n) (tp l n)), (4, .share, .sc (.int .i64 n)), (5, .share, .sc (.int .i64 (cnt (l.take i.1) n))), (6, .share, .sc (.int .i64 i.1))])
        (fun i => [(1, .arr 1 (encSq encI 0 (upto l (tp l n))))]) (fun i => l.length - i.1) ⟨0, by omega⟩ ?_ ?_
      · refine weakE_of [] [] (by simp) (by simp) (by simp) ?_
        simp only [AV.one, eqCells, Option.isSome_none, Bool.and_false, Bool.or_false, Bool.or_true, Bool.and_true, source, nid, setSq_n, encSq_n, encSq_g, slotsC, objsC, keepOff, assoc, List.not_mem_nil, false_implies, implies_true, List.mem_singleton, List.mem_cons, forall_eq, Option.isSome_some, or_false, or_true, Option.getD_some, Option.getD_none, Nat.zero_add, List.drop_one, List.tail_cons,  Wi_skip, Wi_seq, Wi_seqr, Wi_anyr, Wi_cond, Wi_block, Wi_loop, Wi_mark, Wi_exit, Wi_ret, Qi_then_normal, Qi_then_exit, Qi_then_ret, Qi_block_normal, Qi_block_exit, Qi_block_ret, Qi_loop_exit, Qi_loop_ret, Qi_ret, Qi_end, Si_norm, Wsi_nil, Wsi_cons, Wni_nil, Wni_cons, Ri_seq, Ri_any, Woi_def, WopMi, guardV, eval, target, St.es, start, stOf, argSlots, envT, St.e, St.ev, St.c, St.put, AOp.ops, allC, upd_apply, binAV, unAV, takeN, takeE, reduceIte, Nat.reduceEqDiff, wrm, List.foldl_nil, List.foldl_cons, List.map_nil, List.map_cons, reduceCtorEq, Option.map_some, Option.map_none, implies_true, and_self, true_and, and_true, ne_eq, not_true_eq_false, false_implies, true_implies, not_false_eq_true, if_true, if_false, eq_self, Bool.true_eq_false, Bool.false_eq_true, fillA, splice, AV.cells, List.length_cons, List.length_nil, List.drop_zero, List.drop_succ_cons, List.append_nil, List.nil_append, List.cons_append, Nat.reduceAdd, Nat.reduceLeDiff, Nat.reduceMul, Bool.not_true, Bool.not_false, and_false, false_and, List.getElem?_cons_zero, List.getElem?_cons_succ, retC, freezeAV, freezeCell, avle_scsc, avleL_nil, avleL_cons, AV.pure, AV.flat, imp_self, Nat.reduceAdd, Nat.reduceSub, ofL, pack, AV.ren, List.all_cons, List.all_nil, Bool.and_self, List.take_succ_cons, List.take_zero, freezeL, cellsOf, idsL, AV.ids, flats, List.reverse_nil, gt_iff_lt, ge_iff_le, decide_eq_true_eq, Int.reduceToNat, Int.toNat_natCast, encL, Option.some.injEq, Prod.mk.injEq, AV.sc.injEq, Value.int.injEq, Value.bool.injEq, AV.sl.injEq, encT]
        exact ⟨by simp [cnt], rfl, objLeC_refl⟩
      · rintro ⟨i, hi⟩
        simp only [c14b0, AV.one, eqCells, Option.isSome_none, Bool.and_false, Bool.or_false, Bool.or_true, Bool.and_true, source, nid, setSq_n, encSq_n, encSq_g, slotsC, objsC, keepOff, assoc, List.not_mem_nil, false_implies, implies_true, List.mem_singleton, List.mem_cons, forall_eq, Option.isSome_some, or_false, or_true, Option.getD_some, Option.getD_none, Nat.zero_add, List.drop_one, List.tail_cons,  Wi_skip, Wi_seq, Wi_seqr, Wi_anyr, Wi_cond, Wi_block, Wi_loop, Wi_mark, Wi_exit, Wi_ret, Qi_then_normal, Qi_then_exit, Qi_then_ret, Qi_block_normal, Qi_block_exit, Qi_block_ret, Qi_loop_exit, Qi_loop_ret, Qi_ret, Qi_end, Si_norm, Wsi_nil, Wsi_cons, Wni_nil, Wni_cons, Ri_seq, Ri_any, Woi_def, WopMi, guardV, eval, target, St.es, start, stOf, argSlots, envT, St.e, St.ev, St.c, St.put, AOp.ops, allC, upd_apply, binAV, unAV, takeN, takeE, reduceIte, Nat.reduceEqDiff, wrm, List.foldl_nil, List.foldl_cons, List.map_nil, List.map_cons, reduceCtorEq, Option.map_some, Option.map_none, implies_true, and_self, true_and, and_true, ne_eq, not_true_eq_false, false_implies, true_implies, not_false_eq_true, if_true, if_false, eq_self, Bool.true_eq_false, Bool.false_eq_true, fillA, splice, AV.cells, List.length_cons, List.length_nil, List.drop_zero, List.drop_succ_cons, List.append_nil, List.nil_append, List.cons_append, Nat.reduceAdd, Nat.reduceLeDiff, Nat.reduceMul, Bool.not_true, Bool.not_false, and_false, false_and, List.getElem?_cons_zero, List.getElem?_cons_succ, retC, freezeAV, freezeCell, avle_scsc, avleL_nil, avleL_cons, AV.pure, AV.flat, imp_self, Nat.reduceAdd, Nat.reduceSub, ofL, pack, AV.ren, List.all_cons, List.all_nil, Bool.and_self, List.take_succ_cons, List.take_zero, freezeL, cellsOf, idsL, AV.ids, flats, List.reverse_nil, gt_iff_lt, ge_iff_le, decide_eq_true_eq, Int.reduceToNat, Int.toNat_natCast, encL, bor, band, bor2, band2, Bool.not_eq_true', Bool.not_eq_false', Bool.not_not, encT]
        split
        · rename_i hlt2
          have hlt2 : i < l.length := by omega
          refine ⟨⟨by omega, by omega⟩, ?_⟩
          split
          · rename_i heq
            refine loop_next ⟨i + 1, by omega⟩ (by show l.length - (i + 1) < l.length - i; omega) (weakE_of [] [] (by simp) (by simp) (by simp) ?_)
            simp only [AV.one, eqCells, Option.isSome_none, Bool.and_false, Bool.or_false, Bool.or_true, Bool.and_true, source, nid, setSq_n, encSq_n, encSq_g, slotsC, objsC, keepOff, assoc, List.not_mem_nil, false_implies, implies_true, List.mem_singleton, List.mem_cons, forall_eq, Option.isSome_some, or_false, or_true, Option.getD_some, Option.getD_none, Nat.zero_add, List.drop_one, List.tail_cons,  Wi_skip, Wi_seq, Wi_seqr, Wi_anyr, Wi_cond, Wi_block, Wi_loop, Wi_mark, Wi_exit, Wi_ret, Qi_then_normal, Qi_then_exit, Qi_then_ret, Qi_block_normal, Qi_block_exit, Qi_block_ret, Qi_loop_exit, Qi_loop_ret, Qi_ret, Qi_end, Si_norm, Wsi_nil, Wsi_cons, Wni_nil, Wni_cons, Ri_seq, Ri_any, Woi_def, WopMi, guardV, eval, target, St.es, start, stOf, argSlots, envT, St.e, St.ev, St.c, St.put, AOp.ops, allC, upd_apply, binAV, unAV, takeN, takeE, reduceIte, Nat.reduceEqDiff, wrm, List.foldl_nil, List.foldl_cons, List.map_nil, List.map_cons, reduceCtorEq, Option.map_some, Option.map_none, implies_true, and_self, true_and, and_true, ne_eq, not_true_eq_false, false_implies, true_implies, not_false_eq_true, if_true, if_false, eq_self, Bool.true_eq_false, Bool.false_eq_true, fillA, splice, AV.cells, List.length_cons, List.length_nil, List.drop_zero, List.drop_succ_cons, List.append_nil, List.nil_append, List.cons_append, Nat.reduceAdd, Nat.reduceLeDiff, Nat.reduceMul, Bool.not_true, Bool.not_false, and_false, false_and, List.getElem?_cons_zero, List.getElem?_cons_succ, retC, freezeAV, freezeCell, avle_scsc, avleL_nil, avleL_cons, AV.pure, AV.flat, imp_self, Nat.reduceAdd, Nat.reduceSub, ofL, pack, AV.ren, List.all_cons, List.all_nil, Bool.and_self, List.take_succ_cons, List.take_zero, freezeL, cellsOf, idsL, AV.ids, flats, List.reverse_nil, gt_iff_lt, ge_iff_le, decide_eq_true_eq, Int.reduceToNat, Int.toNat_natCast, encL, Option.some.injEq, Prod.mk.injEq, AV.sc.injEq, Value.int.injEq, Value.bool.injEq, AV.sl.injEq, encT, cnt_take_succ n hlt2, heq]
            have := cnt_le (l.take i) n
            have : (l.take i).length ≤ l.length := by simp; omega
            exact ⟨by rw [IntKind.wrap_i64]; omega, by rw [IntKind.wrap_i64]; omega, objLeC_refl⟩
          · rename_i hne
            refine loop_next ⟨i + 1, by omega⟩ (by show l.length - (i + 1) < l.length - i; omega) (weakE_of [] [] (by simp) (by simp) (by simp) ?_)
            simp only [AV.one, eqCells, Option.isSome_none, Bool.and_false, Bool.or_false, Bool.or_true, Bool.and_true, source, nid, setSq_n, encSq_n, encSq_g, slotsC, objsC, keepOff, assoc, List.not_mem_nil, false_implies, implies_true, List.mem_singleton, List.mem_cons, forall_eq, Option.isSome_some, or_false, or_true, Option.getD_some, Option.getD_none, Nat.zero_add, List.drop_one, List.tail_cons,  Wi_skip, Wi_seq, Wi_seqr, Wi_anyr, Wi_cond, Wi_block, Wi_loop, Wi_mark, Wi_exit, Wi_ret, Qi_then_normal, Qi_then_exit, Qi_then_ret, Qi_block_normal, Qi_block_exit, Qi_block_ret, Qi_loop_exit, Qi_loop_ret, Qi_ret, Qi_end, Si_norm, Wsi_nil, Wsi_cons, Wni_nil, Wni_cons, Ri_seq, Ri_any, Woi_def, WopMi, guardV, eval, target, St.es, start, stOf, argSlots, envT, St.e, St.ev, St.c, St.put, AOp.ops, allC, upd_apply, binAV, unAV, takeN, takeE, reduceIte, Nat.reduceEqDiff, wrm, List.foldl_nil, List.foldl_cons, List.map_nil, List.map_cons, reduceCtorEq, Option.map_some, Option.map_none, implies_true, and_self, true_and, and_true, ne_eq, not_true_eq_false, false_implies, true_implies, not_false_eq_true, if_true, if_false, eq_self, Bool.true_eq_false, Bool.false_eq_true, fillA, splice, AV.cells, List.length_cons, List.length_nil, List.drop_zero, List.drop_succ_cons, List.append_nil, List.nil_append, List.cons_append, Nat.reduceAdd, Nat.reduceLeDiff, Nat.reduceMul, Bool.not_true, Bool.not_false, and_false, false_and, List.getElem?_cons_zero, List.getElem?_cons_succ, retC, freezeAV, freezeCell, avle_scsc, avleL_nil, avleL_cons, AV.pure, AV.flat, imp_self, Nat.reduceAdd, Nat.reduceSub, ofL, pack, AV.ren, List.all_cons, List.all_nil, Bool.and_self, List.take_succ_cons, List.take_zero, freezeL, cellsOf, idsL, AV.ids, flats, List.reverse_nil, gt_iff_lt, ge_iff_le, decide_eq_true_eq, Int.reduceToNat, Int.toNat_natCast, encL, Option.some.injEq, Prod.mk.injEq, AV.sc.injEq, Value.int.injEq, Value.bool.injEq, AV.sl.injEq, encT, cnt_take_succ n hlt2, hne]
            exact ⟨rfl, by rw [IntKind.wrap_i64]; omega, objLeC_refl⟩
        · rename_i hge
          have hge : i = l.length := by omega
          subst hge
          rw [List.take_length]
          split
          · rename_i hpos
            refine Wpi_loop hm (ι := {m : Nat // tp l n ≤ m ∧ m ≤ n}) (fun m => [(0, .share, encL 2 encT (0, 0) l), (3, .share, .sl 1 0 m.1 m.1), (4, .share, .sc (.int .i64 n)), (5, .share, .sc (.int .i64 (cnt l n)))])
              (fun m => [(1, .arr 1 (encSq encI 0 (upto l m.1)))]) (fun m => n - m.1) ⟨tp l n, by omega⟩ ?_ ?_
            · refine weakE_of [] [] (by simp) (by simp) (by simp) ?_
              simp only [AV.one, eqCells, Option.isSome_none, Bool.and_false, Bool.or_false, Bool.or_true, Bool.and_true, source, nid, setSq_n, encSq_n, encSq_g, slotsC, objsC, keepOff, assoc, List.not_mem_nil, false_implies, implies_true, List.mem_singleton, List.mem_cons, forall_eq, Option.isSome_some, or_false, or_true, Option.getD_some, Option.getD_none, Nat.zero_add, List.drop_one, List.tail_cons,  Wi_skip, Wi_seq, Wi_seqr, Wi_anyr, Wi_cond, Wi_block, Wi_loop, Wi_mark, Wi_exit, Wi_ret, Qi_then_normal, Qi_then_exit, Qi_then_ret, Qi_block_normal, Qi_block_exit, Qi_block_ret, Qi_loop_exit, Qi_loop_ret, Qi_ret, Qi_end, Si_norm, Wsi_nil, Wsi_cons, Wni_nil, Wni_cons, Ri_seq, Ri_any, Woi_def, WopMi, guardV, eval, target, St.es, start, stOf, argSlots, envT, St.e, St.ev, St.c, St.put, AOp.ops, allC, upd_apply, binAV, unAV, takeN, takeE, reduceIte, Nat.reduceEqDiff, wrm, List.foldl_nil, List.foldl_cons, List.map_nil, List.map_cons, reduceCtorEq, Option.map_some, Option.map_none, implies_true, and_self, true_and, and_true, ne_eq, not_true_eq_false, false_implies, true_implies, not_false_eq_true, if_true, if_false, eq_self, Bool.true_eq_false, Bool.false_eq_true, fillA, splice, AV.cells, List.length_cons, List.length_nil, List.drop_zero, List.drop_succ_cons, List.append_nil, List.nil_append, List.cons_append, Nat.reduceAdd, Nat.reduceLeDiff, Nat.reduceMul, Bool.not_true, Bool.not_false, and_false, false_and, List.getElem?_cons_zero, List.getElem?_cons_succ, retC, freezeAV, freezeCell, avle_scsc, avleL_nil, avleL_cons, AV.pure, AV.flat, imp_self, Nat.reduceAdd, Nat.reduceSub, ofL, pack, AV.ren, List.all_cons, List.all_nil, Bool.and_self, List.take_succ_cons, List.take_zero, freezeL, cellsOf, idsL, AV.ids, flats, List.reverse_nil, gt_iff_lt, ge_iff_le, decide_eq_true_eq, Int.reduceToNat, Int.toNat_natCast, encL, Option.some.injEq, Prod.mk.injEq, AV.sc.injEq, Value.int.injEq, Value.bool.injEq, AV.sl.injEq, encT]
              exact objLeC_refl
            · rintro ⟨m, hm1, hm2⟩
              simp only [c14b1, AV.one, eqCells, Option.isSome_none, Bool.and_false, Bool.or_false, Bool.or_true, Bool.and_true, source, nid, setSq_n, encSq_n, encSq_g, slotsC, objsC, keepOff, assoc, List.not_mem_nil, false_implies, implies_true, List.mem_singleton, List.mem_cons, forall_eq, Option.isSome_some, or_false, or_true, Option.getD_some, Option.getD_none, Nat.zero_add, List.drop_one, List.tail_cons,  Wi_skip, Wi_seq, Wi_seqr, Wi_anyr, Wi_cond, Wi_block, Wi_loop, Wi_mark, Wi_exit, Wi_ret, Qi_then_normal, Qi_then_exit, Qi_then_ret, Qi_block_normal, Qi_block_exit, Qi_block_ret, Qi_loop_exit, Qi_loop_ret, Qi_ret, Qi_end, Si_norm, Wsi_nil, Wsi_cons, Wni_nil, Wni_cons, Ri_seq, Ri_any, Woi_def, WopMi, guardV, eval, target, St.es, start, stOf, argSlots, envT, St.e, St.ev, St.c, St.put, AOp.ops, allC, upd_apply, binAV, unAV, takeN, takeE, reduceIte, Nat.reduceEqDiff, wrm, List.foldl_nil, List.foldl_cons, List.map_nil, List.map_cons, reduceCtorEq, Option.map_some, Option.map_none, implies_true, and_self, true_and, and_true, ne_eq, not_true_eq_false, false_implies, true_implies, not_false_eq_true, if_true, if_false, eq_self, Bool.true_eq_false, Bool.false_eq_true, fillA, splice, AV.cells, List.length_cons, List.length_nil, List.drop_zero, List.drop_succ_cons, List.append_nil, List.nil_append, List.cons_append, Nat.reduceAdd, Nat.reduceLeDiff, Nat.reduceMul, Bool.not_true, Bool.not_false, and_false, false_and, List.getElem?_cons_zero, List.getElem?_cons_succ, retC, freezeAV, freezeCell, avle_scsc, avleL_nil, avleL_cons, AV.pure, AV.flat, imp_self, Nat.reduceAdd, Nat.reduceSub, ofL, pack, AV.ren, List.all_cons, List.all_nil, Bool.and_self, List.take_succ_cons, List.take_zero, freezeL, cellsOf, idsL, AV.ids, flats, List.reverse_nil, gt_iff_lt, ge_iff_le, decide_eq_true_eq, Int.reduceToNat, Int.toNat_natCast, encL, bor, band, bor2, band2, Bool.not_eq_true', Bool.not_eq_false', Bool.not_not, encT]
              have hlen := upto_length l m
              split
              · rename_i hlt3
                have hlt3 : m < n := by omega
                refine ⟨⟨hlen.symm, hlen.symm, by rw [hlen]; omega, by rw [hlen]; unfold maxLen; omega⟩, loop_next ⟨m + 1, by omega, by omega⟩ (by show n - (m + 1) < n - m; omega) (weakE_of [] [] (by simp) (by simp) (by simp) ?_)⟩
                simp only [AV.one, eqCells, Option.isSome_none, Bool.and_false, Bool.or_false, Bool.or_true, Bool.and_true, source, nid, setSq_n, encSq_n, encSq_g, slotsC, objsC, keepOff, assoc, List.not_mem_nil, false_implies, implies_true, List.mem_singleton, List.mem_cons, forall_eq, Option.isSome_some, or_false, or_true, Option.getD_some, Option.getD_none, Nat.zero_add, List.drop_one, List.tail_cons,  Wi_skip, Wi_seq, Wi_seqr, Wi_anyr, Wi_cond, Wi_block, Wi_loop, Wi_mark, Wi_exit, Wi_ret, Qi_then_normal, Qi_then_exit, Qi_then_ret, Qi_block_normal, Qi_block_exit, Qi_block_ret, Qi_loop_exit, Qi_loop_ret, Qi_ret, Qi_end, Si_norm, Wsi_nil, Wsi_cons, Wni_nil, Wni_cons, Ri_seq, Ri_any, Woi_def, WopMi, guardV, eval, target, St.es, start, stOf, argSlots, envT, St.e, St.ev, St.c, St.put, AOp.ops, allC, upd_apply, binAV, unAV, takeN, takeE, reduceIte, Nat.reduceEqDiff, wrm, List.foldl_nil, List.foldl_cons, List.map_nil, List.map_cons, reduceCtorEq, Option.map_some, Option.map_none, implies_true, and_self, true_and, and_true, ne_eq, not_true_eq_false, false_implies, true_implies, not_false_eq_true, if_true, if_false, eq_self, Bool.true_eq_false, Bool.false_eq_true, fillA, splice, AV.cells, List.length_cons, List.length_nil, List.drop_zero, List.drop_succ_cons, List.append_nil, List.nil_append, List.cons_append, Nat.reduceAdd, Nat.reduceLeDiff, Nat.reduceMul, Bool.not_true, Bool.not_false, and_false, false_and, List.getElem?_cons_zero, List.getElem?_cons_succ, retC, freezeAV, freezeCell, avle_scsc, avleL_nil, avleL_cons, AV.pure, AV.flat, imp_self, Nat.reduceAdd, Nat.reduceSub, ofL, pack, AV.ren, List.all_cons, List.all_nil, Bool.and_self, List.take_succ_cons, List.take_zero, freezeL, cellsOf, idsL, AV.ids, flats, List.reverse_nil, gt_iff_lt, ge_iff_le, decide_eq_true_eq, Int.reduceToNat, Int.toNat_natCast, encL, Option.some.injEq, Prod.mk.injEq, AV.sc.injEq, Value.int.injEq, Value.bool.injEq, AV.sl.injEq, encT]
                refine ⟨hlen, ?_⟩
                rw [upto_succ]
                exact app_one_le (x := (cnt l m : Int)) (by rw [tp_top l n m hlt3 hm1]; rfl)
              · rename_i hge3
                have hge3 : m = n := by omega
                subst hge3
                have htp1 : tp l (m + 1) = m + 1 := by simp only [tp]; rw [if_pos (by omega)]
                refine ⟨⟨hlen.symm, hlen.symm, by rw [hlen]; omega, by rw [hlen]; unfold maxLen; omega⟩, loop_next ⟨m + 1, by omega⟩ (by show 8 - (m + 1) < 8 - m; omega) (weakE_of [] [] (by simp) (by simp) (by simp) ?_)⟩
                simp only [AV.one, eqCells, Option.isSome_none, Bool.and_false, Bool.or_false, Bool.or_true, Bool.and_true, source, nid, setSq_n, encSq_n, encSq_g, slotsC, objsC, keepOff, assoc, List.not_mem_nil, false_implies, implies_true, List.mem_singleton, List.mem_cons, forall_eq, Option.isSome_some, or_false, or_true, Option.getD_some, Option.getD_none, Nat.zero_add, List.drop_one, List.tail_cons,  Wi_skip, Wi_seq, Wi_seqr, Wi_anyr, Wi_cond, Wi_block, Wi_loop, Wi_mark, Wi_exit, Wi_ret, Qi_then_normal, Qi_then_exit, Qi_then_ret, Qi_block_normal, Qi_block_exit, Qi_block_ret, Qi_loop_exit, Qi_loop_ret, Qi_ret, Qi_end, Si_norm, Wsi_nil, Wsi_cons, Wni_nil, Wni_cons, Ri_seq, Ri_any, Woi_def, WopMi, guardV, eval, target, St.es, start, stOf, argSlots, envT, St.e, St.ev, St.c, St.put, AOp.ops, allC, upd_apply, binAV, unAV, takeN, takeE, reduceIte, Nat.reduceEqDiff, wrm, List.foldl_nil, List.foldl_cons, List.map_nil, List.map_cons, reduceCtorEq, Option.map_some, Option.map_none, implies_true, and_self, true_and, and_true, ne_eq, not_true_eq_false, false_implies, true_implies, not_false_eq_true, if_true, if_false, eq_self, Bool.true_eq_false, Bool.false_eq_true, fillA, splice, AV.cells, List.length_cons, List.length_nil, List.drop_zero, List.drop_succ_cons, List.append_nil, List.nil_append, List.cons_append, Nat.reduceAdd, Nat.reduceLeDiff, Nat.reduceMul, Bool.not_true, Bool.not_false, and_false, false_and, List.getElem?_cons_zero, List.getElem?_cons_succ, retC, freezeAV, freezeCell, avle_scsc, avleL_nil, avleL_cons, AV.pure, AV.flat, imp_self, Nat.reduceAdd, Nat.reduceSub, ofL, pack, AV.ren, List.all_cons, List.all_nil, Bool.and_self, List.take_succ_cons, List.take_zero, freezeL, cellsOf, idsL, AV.ids, flats, List.reverse_nil, gt_iff_lt, ge_iff_le, decide_eq_true_eq, Int.reduceToNat, Int.toNat_natCast, encL, Option.some.injEq, Prod.mk.injEq, AV.sc.injEq, Value.int.injEq, Value.bool.injEq, AV.sl.injEq, encT, htp1]
                refine ⟨hlen, by rw [IntKind.wrap_i64]; omega, ?_⟩
                rw [upto_succ]
                exact app_one_le (x := (cnt l m : Int)) rfl
          · rename_i hz
            have htp1 : tp l (n + 1) = tp l n := by simp only [tp]; rw [if_neg (by omega)]
            refine loop_next ⟨n + 1, by omega⟩ (by show 8 - (n + 1) < 8 - n; omega) (weakE_of [] [] (by simp) (by simp) (by simp) ?_)
            simp only [AV.one, eqCells, Option.isSome_none, Bool.and_false, Bool.or_false, Bool.or_true, Bool.and_true, source, nid, setSq_n, encSq_n, encSq_g, slotsC, objsC, keepOff, assoc, List.not_mem_nil, false_implies, implies_true, List.mem_singleton, List.mem_cons, forall_eq, Option.isSome_some, or_false, or_true, Option.getD_some, Option.getD_none, Nat.zero_add, List.drop_one, List.tail_cons,  Wi_skip, Wi_seq, Wi_seqr, Wi_anyr, Wi_cond, Wi_block, Wi_loop, Wi_mark, Wi_exit, Wi_ret, Qi_then_normal, Qi_then_exit, Qi_then_ret, Qi_block_normal, Qi_block_exit, Qi_block_ret, Qi_loop_exit, Qi_loop_ret, Qi_ret, Qi_end, Si_norm, Wsi_nil, Wsi_cons, Wni_nil, Wni_cons, Ri_seq, Ri_any, Woi_def, WopMi, guardV, eval, target, St.es, start, stOf, argSlots, envT, St.e, St.ev, St.c, St.put, AOp.ops, allC, upd_apply, binAV, unAV, takeN, takeE, reduceIte, Nat.reduceEqDiff, wrm, List.foldl_nil, List.foldl_cons, List.map_nil, List.map_cons, reduceCtorEq, Option.map_some, Option.map_none, implies_true, and_self, true_and, and_true, ne_eq, not_true_eq_false, false_implies, true_implies, not_false_eq_true, if_true, if_false, eq_self, Bool.true_eq_false, Bool.false_eq_true, fillA, splice, AV.cells, List.length_cons, List.length_nil, List.drop_zero, List.drop_succ_cons, List.append_nil, List.nil_append, List.cons_append, Nat.reduceAdd, Nat.reduceLeDiff, Nat.reduceMul, Bool.not_true, Bool.not_false, and_false, false_and, List.getElem?_cons_zero, List.getElem?_cons_succ, retC, freezeAV, freezeCell, avle_scsc, avleL_nil, avleL_cons, AV.pure, AV.flat, imp_self, Nat.reduceAdd, Nat.reduceSub, ofL, pack, AV.ren, List.all_cons, List.all_nil, Bool.and_self, List.take_succ_cons, List.take_zero, freezeL, cellsOf, idsL, AV.ids, flats, List.reverse_nil, gt_iff_lt, ge_iff_le, decide_eq_true_eq, Int.reduceToNat, Int.toNat_natCast, encL, Option.some.injEq, Prod.mk.injEq, AV.sc.injEq, Value.int.injEq, Value.bool.injEq, AV.sl.injEq, encT, htp1]
            exact ⟨by rw [IntKind.wrap_i64]; omega, objLeC_refl⟩
    · rename_i hge
      have hge : n = 8 := by omega
      subst hge
      exact ⟨(upto_length _ _).symm, avle_encL (upto_length _ _).symm (fun j hj => rfl) rfl⟩
end Go.Abs
