/- A part of the walk: contracts of functions that the statement reaches. -/
import Derived.Test.YtjakdlcknhfibaaAbs23
import Derived.KernelRfl
import Derived.Eval
import Derived.Test.YtjakdlcknhfibaaChecked
import Derived.Test.YtjakdlcknhfibaaC6
set_option linter.unusedSimpArgs false
set_option linter.unusedVariables false
set_option linter.unnecessarySimpa false
set_option maxRecDepth 100000
set_option linter.unusedSimpArgs false
namespace Go.Abs
open Go.Proofs

def bad (n : Int) (t : Int × Int) : Bool := !(decide (0 ≤ t.1) && decide (t.1 < 8)) || decide (t.2 < 0) || decide (n ≤ t.2)
def met (l : List (Int × Int)) (i : Nat) : Bool := (l.take i).any fun t => (l.getD i (0, 0)).2 == t.2
def vErr (l : List (Int × Int)) (n : Int) : Int := if l.any (bad n) then 6 else if (List.range l.length).any (met l) then 7 else if (l.length : Int) < n then 11 else 0
def mapOf (l : List (Int × Int)) : List (Int × AV) := l.map fun t => (t.2, .sc (.bool true))
theorem mget_mapOf (l : List (Int × Int)) (k : Int) : mget (mapOf l) k = if l.any (fun t => k == t.2) then some (.sc (.bool true)) else none := by
  induction l with
  | nil => rfl
  | cons t l ih =>
    show (if k == t.2 then some (AV.sc (.bool true)) else mget (mapOf l) k) = _
    rw [ih, List.any_cons]
    cases hk : (k == t.2)
    · simp only [Bool.false_or, Bool.false_eq_true, if_false]
    · rfl
theorem mput_mapOf (l : List (Int × Int)) (t : Int × Int) (h : l.any (fun u => t.2 == u.2) = false) : mput (mapOf l) t.2 (.sc (.bool true)) = mapOf (l ++ [t]) := by
  induction l with
  | nil => rfl
  | cons u l ih =>
    rw [List.any_cons, Bool.or_eq_false_iff] at h
    show (if t.2 == u.2 then _ else (u.2, AV.sc (.bool true)) :: mput (mapOf l) t.2 (.sc (.bool true))) = _
    rw [if_neg (by simp [h.1]), ih h.2]; rfl
theorem lookup_mapOf (l : List (Int × Int)) (k : Int) : (mget (mapOf l) k).getD (zeroAV (.bool false)) = .sc (.bool (l.any (fun t => k == t.2))) := by
  rw [mget_mapOf]; cases l.any (fun t => k == t.2) <;> rfl
theorem any_take_succ {l : List (Int × Int)} {p : Int × Int → Bool} {i : Nat} (h : i < l.length) (h1 : (l.take i).any p = false) (h2 : p (l.getD i (0, 0)) = false) : (l.take (i + 1)).any p = false := by
  rw [take_succ_getD l i (0, 0) h, List.any_append, h1, List.any_cons, h2]; rfl
theorem any_of_getD {l : List (Int × Int)} {p : Int × Int → Bool} {i : Nat} (h : i < l.length) (h2 : p (l.getD i (0, 0)) = true) : l.any p = true := by
  rw [List.any_eq_true]; refine ⟨_, ?_, h2⟩
  rw [List.getD, List.getElem?_eq_getElem h]; simp
theorem s9 (l : List (Int × Int)) (n : Int) (hb : l.length ≤ 9223372036854775807) : CallsA Try.prog 9 [encL 2 encT (0, 0) l, .sc (.int .i64 n)] [] (.sc (.int .i64 (vErr l n))) [] := by
  refine callsI_of (rs := [_]) hm Try.func9 (by kernel_rfl) (by kernel_rfl) is9 (by kernel_rfl : tmpsOf Try.f9.results.toList = some [4]) (by decide) (by kernel_rfl) ?_
  simp only [c9, AV.one, eqCells, Option.isSome_none, Bool.and_false, Bool.or_false, Bool.or_true, Bool.and_true, source, nid, setSq_n, encSq_n, encSq_g, slotsC, objsC, keepOff, assoc, List.not_mem_nil, false_implies, implies_true, List.mem_singleton, List.mem_cons, forall_eq, Option.isSome_some, or_false, or_true, Option.getD_some, Option.getD_none, Nat.zero_add, List.drop_one, List.tail_cons,  Wi_skip, Wi_seq, Wi_seqr, Wi_anyr, Wi_cond, Wi_block, Wi_loop, Wi_mark, Wi_exit, Wi_ret, Qi_then_normal, Qi_then_exit, Qi_then_ret, Qi_block_normal, Qi_block_exit, Qi_block_ret, Qi_loop_exit, Qi_loop_ret, Qi_ret, Qi_end, Si_norm, Wsi_nil, Wsi_cons, Wni_nil, Wni_cons, Ri_seq, Ri_any, Woi_def, WopMi, guardV, eval, target, St.es, start, stOf, argSlots, envT, St.e, St.ev, St.c, St.put, AOp.ops, allC, upd_apply, binAV, unAV, takeN, takeE, reduceIte, Nat.reduceEqDiff, wrm, List.foldl_nil, List.foldl_cons, List.map_nil, List.map_cons, reduceCtorEq, Option.map_some, Option.map_none, implies_true, and_self, true_and, and_true, ne_eq, not_true_eq_false, false_implies, true_implies, not_false_eq_true, if_true, if_false, eq_self, Bool.true_eq_false, Bool.false_eq_true, fillA, splice, AV.cells, List.length_cons, List.length_nil, List.drop_zero, List.drop_succ_cons, List.append_nil, List.nil_append, List.cons_append, Nat.reduceAdd, Nat.reduceLeDiff, Nat.reduceMul, Bool.not_true, Bool.not_false, and_false, false_and, List.getElem?_cons_zero, List.getElem?_cons_succ, retC, freezeAV, freezeCell, avle_scsc, avleL_nil, avleL_cons, AV.pure, AV.flat, imp_self, Nat.reduceAdd, Nat.reduceSub, ofL, pack, AV.ren, List.all_cons, List.all_nil, Bool.and_self, List.take_succ_cons, List.take_zero, freezeL, cellsOf, idsL, AV.ids, flats, List.reverse_nil, gt_iff_lt, ge_iff_le, decide_eq_true_eq, Int.reduceToNat, Int.toNat_natCast, encL]
  refine Wpi_loop hm (ι := {i : Nat // i ≤ l.length ∧ (l.take i).any (bad n) = false}) (fun i => [(0, .share, encL 2 encT (0, 0) l), (1, .share, .sc (.int .i64 n)), (10, .share, encL 2 encT (0, 0) l), (11, .share, .sc (.int .i64 l.length)), (12, .share, .sc (.int .i64 i.1))])
      (fun i => []) (fun i => l.length - i.1) ⟨0, by simp⟩ ?_ ?_
  · refine weakE_of [] [] (by simp) (by simp) (by simp) ?_
    simp only [AV.one, eqCells, Option.isSome_none, Bool.and_false, Bool.or_false, Bool.or_true, Bool.and_true, source, nid, setSq_n, encSq_n, encSq_g, slotsC, objsC, keepOff, assoc, List.not_mem_nil, false_implies, implies_true, List.mem_singleton, List.mem_cons, forall_eq, Option.isSome_some, or_false, or_true, Option.getD_some, Option.getD_none, Nat.zero_add, List.drop_one, List.tail_cons,  Wi_skip, Wi_seq, Wi_seqr, Wi_anyr, Wi_cond, Wi_block, Wi_loop, Wi_mark, Wi_exit, Wi_ret, Qi_then_normal, Qi_then_exit, Qi_then_ret, Qi_block_normal, Qi_block_exit, Qi_block_ret, Qi_loop_exit, Qi_loop_ret, Qi_ret, Qi_end, Si_norm, Wsi_nil, Wsi_cons, Wni_nil, Wni_cons, Ri_seq, Ri_any, Woi_def, WopMi, guardV, eval, target, St.es, start, stOf, argSlots, envT, St.e, St.ev, St.c, St.put, AOp.ops, allC, upd_apply, binAV, unAV, takeN, takeE, reduceIte, Nat.reduceEqDiff, wrm, List.foldl_nil, List.foldl_cons, List.map_nil, List.map_cons, reduceCtorEq, Option.map_some, Option.map_none, implies_true, and_self, true_and, and_true, ne_eq, not_true_eq_false, false_implies, true_implies, not_false_eq_true, if_true, if_false, eq_self, Bool.true_eq_false, Bool.false_eq_true, fillA, splice, AV.cells, List.length_cons, List.length_nil, List.drop_zero, List.drop_succ_cons, List.append_nil, List.nil_append, List.cons_append, Nat.reduceAdd, Nat.reduceLeDiff, Nat.reduceMul, Bool.not_true, Bool.not_false, and_false, false_and, List.getElem?_cons_zero, List.getElem?_cons_succ, retC, freezeAV, freezeCell, avle_scsc, avleL_nil, avleL_cons, AV.pure, AV.flat, imp_self, Nat.reduceAdd, Nat.reduceSub, ofL, pack, AV.ren, List.all_cons, List.all_nil, Bool.and_self, List.take_succ_cons, List.take_zero, freezeL, cellsOf, idsL, AV.ids, flats, List.reverse_nil, gt_iff_lt, ge_iff_le, decide_eq_true_eq, Int.reduceToNat, Int.toNat_natCast, encL, Option.some.injEq, Prod.mk.injEq, AV.sc.injEq, Value.int.injEq, Value.bool.injEq, AV.sl.injEq]
    rfl
  · rintro ⟨i, hi, ht⟩
    simp only [c9b0, AV.one, eqCells, Option.isSome_none, Bool.and_false, Bool.or_false, Bool.or_true, Bool.and_true, source, nid, setSq_n, encSq_n, encSq_g, slotsC, objsC, keepOff, assoc, List.not_mem_nil, false_implies, implies_true, List.mem_singleton, List.mem_cons, forall_eq, Option.isSome_some, or_false, or_true, Option.getD_some, Option.getD_none, Nat.zero_add, List.drop_one, List.tail_cons,  Wi_skip, Wi_seq, Wi_seqr, Wi_anyr, Wi_cond, Wi_block, Wi_loop, Wi_mark, Wi_exit, Wi_ret, Qi_then_normal, Qi_then_exit, Qi_then_ret, Qi_block_normal, Qi_block_exit, Qi_block_ret, Qi_loop_exit, Qi_loop_ret, Qi_ret, Qi_end, Si_norm, Wsi_nil, Wsi_cons, Wni_nil, Wni_cons, Ri_seq, Ri_any, Woi_def, WopMi, guardV, eval, target, St.es, start, stOf, argSlots, envT, St.e, St.ev, St.c, St.put, AOp.ops, allC, upd_apply, binAV, unAV, takeN, takeE, reduceIte, Nat.reduceEqDiff, wrm, List.foldl_nil, List.foldl_cons, List.map_nil, List.map_cons, reduceCtorEq, Option.map_some, Option.map_none, implies_true, and_self, true_and, and_true, ne_eq, not_true_eq_false, false_implies, true_implies, not_false_eq_true, if_true, if_false, eq_self, Bool.true_eq_false, Bool.false_eq_true, fillA, splice, AV.cells, List.length_cons, List.length_nil, List.drop_zero, List.drop_succ_cons, List.append_nil, List.nil_append, List.cons_append, Nat.reduceAdd, Nat.reduceLeDiff, Nat.reduceMul, Bool.not_true, Bool.not_false, and_false, false_and, List.getElem?_cons_zero, List.getElem?_cons_succ, retC, freezeAV, freezeCell, avle_scsc, avleL_nil, avleL_cons, AV.pure, AV.flat, imp_self, Nat.reduceAdd, Nat.reduceSub, ofL, pack, AV.ren, List.all_cons, List.all_nil, Bool.and_self, List.take_succ_cons, List.take_zero, freezeL, cellsOf, idsL, AV.ids, flats, List.reverse_nil, gt_iff_lt, ge_iff_le, decide_eq_true_eq, Int.reduceToNat, Int.toNat_natCast, encL, encT]
    split
    · rename_i hlt
      have hlt : i < l.length := by omega
      refine ⟨⟨by omega, by omega⟩, CallGi_flat (s39 _) rfl ?_⟩
      simp only [AV.one, eqCells, Option.isSome_none, Bool.and_false, Bool.or_false, Bool.or_true, Bool.and_true, source, nid, setSq_n, encSq_n, encSq_g, slotsC, objsC, keepOff, assoc, List.not_mem_nil, false_implies, implies_true, List.mem_singleton, List.mem_cons, forall_eq, Option.isSome_some, or_false, or_true, Option.getD_some, Option.getD_none, Nat.zero_add, List.drop_one, List.tail_cons,  Wi_skip, Wi_seq, Wi_seqr, Wi_anyr, Wi_cond, Wi_block, Wi_loop, Wi_mark, Wi_exit, Wi_ret, Qi_then_normal, Qi_then_exit, Qi_then_ret, Qi_block_normal, Qi_block_exit, Qi_block_ret, Qi_loop_exit, Qi_loop_ret, Qi_ret, Qi_end, Si_norm, Wsi_nil, Wsi_cons, Wni_nil, Wni_cons, Ri_seq, Ri_any, Woi_def, WopMi, guardV, eval, target, St.es, start, stOf, argSlots, envT, St.e, St.ev, St.c, St.put, AOp.ops, allC, upd_apply, binAV, unAV, takeN, takeE, reduceIte, Nat.reduceEqDiff, wrm, List.foldl_nil, List.foldl_cons, List.map_nil, List.map_cons, reduceCtorEq, Option.map_some, Option.map_none, implies_true, and_self, true_and, and_true, ne_eq, not_true_eq_false, false_implies, true_implies, not_false_eq_true, if_true, if_false, eq_self, Bool.true_eq_false, Bool.false_eq_true, fillA, splice, AV.cells, List.length_cons, List.length_nil, List.drop_zero, List.drop_succ_cons, List.append_nil, List.nil_append, List.cons_append, Nat.reduceAdd, Nat.reduceLeDiff, Nat.reduceMul, Bool.not_true, Bool.not_false, and_false, false_and, List.getElem?_cons_zero, List.getElem?_cons_succ, retC, freezeAV, freezeCell, avle_scsc, avleL_nil, avleL_cons, AV.pure, AV.flat, imp_self, Nat.reduceAdd, Nat.reduceSub, ofL, pack, AV.ren, List.all_cons, List.all_nil, Bool.and_self, List.take_succ_cons, List.take_zero, freezeL, cellsOf, idsL, AV.ids, flats, List.reverse_nil, gt_iff_lt, ge_iff_le, decide_eq_true_eq, Int.reduceToNat, Int.toNat_natCast, encL, bor, band, bor2, band2, Bool.not_eq_true', Bool.not_eq_false', Bool.not_not, encT]
      split
      · rename_i hbad
        have : l.any (bad n) = true := any_of_getD hlt hbad
        simp only [vErr, this, if_true]
      · rename_i hok
        have hok : bad n (l.getD i (0, 0)) = false := by simpa [bad] using hok
        refine loop_next ⟨i + 1, by omega, any_take_succ hlt ht hok⟩ (by show l.length - (i + 1) < l.length - i; omega) (weakE_of [] [] (by simp) (by simp) (by simp) ?_)
        simp only [AV.one, eqCells, Option.isSome_none, Bool.and_false, Bool.or_false, Bool.or_true, Bool.and_true, source, nid, setSq_n, encSq_n, encSq_g, slotsC, objsC, keepOff, assoc, List.not_mem_nil, false_implies, implies_true, List.mem_singleton, List.mem_cons, forall_eq, Option.isSome_some, or_false, or_true, Option.getD_some, Option.getD_none, Nat.zero_add, List.drop_one, List.tail_cons,  Wi_skip, Wi_seq, Wi_seqr, Wi_anyr, Wi_cond, Wi_block, Wi_loop, Wi_mark, Wi_exit, Wi_ret, Qi_then_normal, Qi_then_exit, Qi_then_ret, Qi_block_normal, Qi_block_exit, Qi_block_ret, Qi_loop_exit, Qi_loop_ret, Qi_ret, Qi_end, Si_norm, Wsi_nil, Wsi_cons, Wni_nil, Wni_cons, Ri_seq, Ri_any, Woi_def, WopMi, guardV, eval, target, St.es, start, stOf, argSlots, envT, St.e, St.ev, St.c, St.put, AOp.ops, allC, upd_apply, binAV, unAV, takeN, takeE, reduceIte, Nat.reduceEqDiff, wrm, List.foldl_nil, List.foldl_cons, List.map_nil, List.map_cons, reduceCtorEq, Option.map_some, Option.map_none, implies_true, and_self, true_and, and_true, ne_eq, not_true_eq_false, false_implies, true_implies, not_false_eq_true, if_true, if_false, eq_self, Bool.true_eq_false, Bool.false_eq_true, fillA, splice, AV.cells, List.length_cons, List.length_nil, List.drop_zero, List.drop_succ_cons, List.append_nil, List.nil_append, List.cons_append, Nat.reduceAdd, Nat.reduceLeDiff, Nat.reduceMul, Bool.not_true, Bool.not_false, and_false, false_and, List.getElem?_cons_zero, List.getElem?_cons_succ, retC, freezeAV, freezeCell, avle_scsc, avleL_nil, avleL_cons, AV.pure, AV.flat, imp_self, Nat.reduceAdd, Nat.reduceSub, ofL, pack, AV.ren, List.all_cons, List.all_nil, Bool.and_self, List.take_succ_cons, List.take_zero, freezeL, cellsOf, idsL, AV.ids, flats, List.reverse_nil, gt_iff_lt, ge_iff_le, decide_eq_true_eq, Int.reduceToNat, Int.toNat_natCast, encL, Option.some.injEq, Prod.mk.injEq, AV.sc.injEq, Value.int.injEq, Value.bool.injEq, AV.sl.injEq, encT]
        rw [IntKind.wrap_i64]; omega
    · rename_i hge
      have hge : i = l.length := by omega
      subst hge
      rw [List.take_length] at ht
      refine Wpi_loop hm (ι := {i : Nat // i ≤ l.length ∧ ∀ j < i, met l j = false}) (fun i => [(0, .share, encL 2 encT (0, 0) l), (1, .share, .sc (.int .i64 n)), (7, .share, .mp 528), (33, .share, encL 2 encT (0, 0) l), (34, .share, .sc (.int .i64 l.length)), (35, .share, .sc (.int .i64 i.1))])
        (fun i => [(528, .map .i64 (mapOf (l.take i.1)))]) (fun i => l.length - i.1) ⟨0, by simp⟩ ?_ ?_
      · refine weakE_of [] [] (by simp) (by simp) (by simp) ?_
        simp only [AV.one, eqCells, Option.isSome_none, Bool.and_false, Bool.or_false, Bool.or_true, Bool.and_true, source, nid, setSq_n, encSq_n, encSq_g, slotsC, objsC, keepOff, assoc, List.not_mem_nil, false_implies, implies_true, List.mem_singleton, List.mem_cons, forall_eq, Option.isSome_some, or_false, or_true, Option.getD_some, Option.getD_none, Nat.zero_add, List.drop_one, List.tail_cons,  Wi_skip, Wi_seq, Wi_seqr, Wi_anyr, Wi_cond, Wi_block, Wi_loop, Wi_mark, Wi_exit, Wi_ret, Qi_then_normal, Qi_then_exit, Qi_then_ret, Qi_block_normal, Qi_block_exit, Qi_block_ret, Qi_loop_exit, Qi_loop_ret, Qi_ret, Qi_end, Si_norm, Wsi_nil, Wsi_cons, Wni_nil, Wni_cons, Ri_seq, Ri_any, Woi_def, WopMi, guardV, eval, target, St.es, start, stOf, argSlots, envT, St.e, St.ev, St.c, St.put, AOp.ops, allC, upd_apply, binAV, unAV, takeN, takeE, reduceIte, Nat.reduceEqDiff, wrm, List.foldl_nil, List.foldl_cons, List.map_nil, List.map_cons, reduceCtorEq, Option.map_some, Option.map_none, implies_true, and_self, true_and, and_true, ne_eq, not_true_eq_false, false_implies, true_implies, not_false_eq_true, if_true, if_false, eq_self, Bool.true_eq_false, Bool.false_eq_true, fillA, splice, AV.cells, List.length_cons, List.length_nil, List.drop_zero, List.drop_succ_cons, List.append_nil, List.nil_append, List.cons_append, Nat.reduceAdd, Nat.reduceLeDiff, Nat.reduceMul, Bool.not_true, Bool.not_false, and_false, false_and, List.getElem?_cons_zero, List.getElem?_cons_succ, retC, freezeAV, freezeCell, avle_scsc, avleL_nil, avleL_cons, AV.pure, AV.flat, imp_self, Nat.reduceAdd, Nat.reduceSub, ofL, pack, AV.ren, List.all_cons, List.all_nil, Bool.and_self, List.take_succ_cons, List.take_zero, freezeL, cellsOf, idsL, AV.ids, flats, List.reverse_nil, gt_iff_lt, ge_iff_le, decide_eq_true_eq, Int.reduceToNat, Int.toNat_natCast, encL, Option.some.injEq, Prod.mk.injEq, AV.sc.injEq, Value.int.injEq, Value.bool.injEq, AV.sl.injEq, encT]
        exact ⟨rfl, rfl⟩
      · rintro ⟨i, hi, hd⟩
        simp only [c9b1, AV.one, eqCells, Option.isSome_none, Bool.and_false, Bool.or_false, Bool.or_true, Bool.and_true, source, nid, setSq_n, encSq_n, encSq_g, slotsC, objsC, keepOff, assoc, List.not_mem_nil, false_implies, implies_true, List.mem_singleton, List.mem_cons, forall_eq, Option.isSome_some, or_false, or_true, Option.getD_some, Option.getD_none, Nat.zero_add, List.drop_one, List.tail_cons,  Wi_skip, Wi_seq, Wi_seqr, Wi_anyr, Wi_cond, Wi_block, Wi_loop, Wi_mark, Wi_exit, Wi_ret, Qi_then_normal, Qi_then_exit, Qi_then_ret, Qi_block_normal, Qi_block_exit, Qi_block_ret, Qi_loop_exit, Qi_loop_ret, Qi_ret, Qi_end, Si_norm, Wsi_nil, Wsi_cons, Wni_nil, Wni_cons, Ri_seq, Ri_any, Woi_def, WopMi, guardV, eval, target, St.es, start, stOf, argSlots, envT, St.e, St.ev, St.c, St.put, AOp.ops, allC, upd_apply, binAV, unAV, takeN, takeE, reduceIte, Nat.reduceEqDiff, wrm, List.foldl_nil, List.foldl_cons, List.map_nil, List.map_cons, reduceCtorEq, Option.map_some, Option.map_none, implies_true, and_self, true_and, and_true, ne_eq, not_true_eq_false, false_implies, true_implies, not_false_eq_true, if_true, if_false, eq_self, Bool.true_eq_false, Bool.false_eq_true, fillA, splice, AV.cells, List.length_cons, List.length_nil, List.drop_zero, List.drop_succ_cons, List.append_nil, List.nil_append, List.cons_append, Nat.reduceAdd, Nat.reduceLeDiff, Nat.reduceMul, Bool.not_true, Bool.not_false, and_false, false_and, List.getElem?_cons_zero, List.getElem?_cons_succ, retC, freezeAV, freezeCell, avle_scsc, avleL_nil, avleL_cons, AV.pure, AV.flat, imp_self, Nat.reduceAdd, Nat.reduceSub, ofL, pack, AV.ren, List.all_cons, List.all_nil, Bool.and_self, List.take_succ_cons, List.take_zero, freezeL, cellsOf, idsL, AV.ids, flats, List.reverse_nil, gt_iff_lt, ge_iff_le, decide_eq_true_eq, Int.reduceToNat, Int.toNat_natCast, encL, bor, band, bor2, band2, Bool.not_eq_true', Bool.not_eq_false', Bool.not_not, encT, lookup_mapOf]
        split
        · rename_i hlt
          have hlt : i < l.length := by omega
          refine ⟨⟨by omega, by omega⟩, ?_⟩
          split
          · rename_i hdup
            have h1 : (List.range l.length).any (met l) = true := by rw [List.any_eq_true]; exact ⟨i, by simpa using hlt, hdup⟩
            simp only [vErr, ht, h1, if_true, if_false, Bool.false_eq_true]
          · rename_i hnew
            have hnew : met l i = false := by
              cases hmt : met l i with
              | false => rfl
              | true => exact absurd hmt hnew
            refine loop_next ⟨i + 1, by omega, fun j hj => by
              rcases Nat.lt_succ_iff_lt_or_eq.1 hj with h | rfl
              · exact hd j h
              · exact hnew⟩ (by show l.length - (i + 1) < l.length - i; omega) (weakE_of [] [] (by simp) (by simp) (by simp) ?_)
            simp only [AV.one, eqCells, Option.isSome_none, Bool.and_false, Bool.or_false, Bool.or_true, Bool.and_true, source, nid, setSq_n, encSq_n, encSq_g, slotsC, objsC, keepOff, assoc, List.not_mem_nil, false_implies, implies_true, List.mem_singleton, List.mem_cons, forall_eq, Option.isSome_some, or_false, or_true, Option.getD_some, Option.getD_none, Nat.zero_add, List.drop_one, List.tail_cons,  Wi_skip, Wi_seq, Wi_seqr, Wi_anyr, Wi_cond, Wi_block, Wi_loop, Wi_mark, Wi_exit, Wi_ret, Qi_then_normal, Qi_then_exit, Qi_then_ret, Qi_block_normal, Qi_block_exit, Qi_block_ret, Qi_loop_exit, Qi_loop_ret, Qi_ret, Qi_end, Si_norm, Wsi_nil, Wsi_cons, Wni_nil, Wni_cons, Ri_seq, Ri_any, Woi_def, WopMi, guardV, eval, target, St.es, start, stOf, argSlots, envT, St.e, St.ev, St.c, St.put, AOp.ops, allC, upd_apply, binAV, unAV, takeN, takeE, reduceIte, Nat.reduceEqDiff, wrm, List.foldl_nil, List.foldl_cons, List.map_nil, List.map_cons, reduceCtorEq, Option.map_some, Option.map_none, implies_true, and_self, true_and, and_true, ne_eq, not_true_eq_false, false_implies, true_implies, not_false_eq_true, if_true, if_false, eq_self, Bool.true_eq_false, Bool.false_eq_true, fillA, splice, AV.cells, List.length_cons, List.length_nil, List.drop_zero, List.drop_succ_cons, List.append_nil, List.nil_append, List.cons_append, Nat.reduceAdd, Nat.reduceLeDiff, Nat.reduceMul, Bool.not_true, Bool.not_false, and_false, false_and, List.getElem?_cons_zero, List.getElem?_cons_succ, retC, freezeAV, freezeCell, avle_scsc, avleL_nil, avleL_cons, AV.pure, AV.flat, imp_self, Nat.reduceAdd, Nat.reduceSub, ofL, pack, AV.ren, List.all_cons, List.all_nil, Bool.and_self, List.take_succ_cons, List.take_zero, freezeL, cellsOf, idsL, AV.ids, flats, List.reverse_nil, gt_iff_lt, ge_iff_le, decide_eq_true_eq, Int.reduceToNat, Int.toNat_natCast, encL, Option.some.injEq, Prod.mk.injEq, AV.sc.injEq, Value.int.injEq, Value.bool.injEq, AV.sl.injEq, encT]
            refine ⟨by rw [IntKind.wrap_i64]; omega, ?_⟩
            show AObj.map _ _ = AObj.map _ _
            rw [mput_mapOf _ _ hnew, ← take_succ_getD l i (0, 0) hlt]
        · rename_i hge
          have hge : i = l.length := by omega
          subst hge
          have h1 : (List.range l.length).any (met l) = false := by
            rw [List.any_eq_false]; intro j hj; simp [hd j (by simpa using hj)]
          have h2 : (mapOf (l.take l.length)).length = l.length := by simp [mapOf]
          simp only [h2, vErr, ht, h1, if_false, Bool.false_eq_true]
          split <;> rename_i hc <;> simp [hc]
end Go.Abs
