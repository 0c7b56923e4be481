/- A part of the walk: contracts of functions that the statement reaches. -/
import Derived.Test.YtlldeiikcfaegaaGreatAbsC
import Derived.Test.YtlldeiikcfaegaaGreatY2
import Derived.Test.YtlldeiikcfaegaaGreatS15
import Derived.Test.YtlldeiikcfaegaaGreatI9
set_option linter.unusedSimpArgs false
set_option linter.unusedVariables false
set_option linter.unnecessarySimpa false
set_option maxRecDepth 100000
set_option maxHeartbeats 2000000
set_option linter.unusedSimpArgs false
set_option linter.unusedVariables false
namespace Go.Abs
open Go.Proofs
open Api
theorem s_r46_insert (l : List Int) (n : Int) (hl : l.length ≤ 100000000) : CallsA Tryz.prog F_r46_insert [encD 1 encInt 0 l, .sc (.int .i64 n)] [] (encD 1 encInt 0 (insI l n)) [] := by
  refine callsI_of (rs := [_]) hm Tryz.func194 (by kernel_rfl) (by kernel_rfl) is_r46_insert (by kernel_rfl : tmpsOf Tryz.f194.results.toList = some [4]) (by decide) (by kernel_rfl) ?_
  simp only [c_r46_insert, go_sem]
  refine Wpi_loop hm (ι := {i : Nat // i ≤ l.length ∧ ∀ j, j < i → l.getD j 0 < n}) (fun i => [(0, .share, encD 1 encInt 0 l), (1, .share, .sc (.int .i64 n)), (5, .share, .sc (.int .i64 i.1))])
    (fun i => []) (fun i => l.length - i.1) ⟨0, by omega, fun j hj => by omega⟩ ?_ ?_
  · refine weakE_ [] [] ?_
    simp only [go_sem]
  · rintro ⟨i, hi, hs⟩
    simp only [c_r46_insertb0, go_sem]
    rw [ite_dec, ite_decb]
    refine ⟨fun h => ⟨by omega, h⟩, ?_⟩
    by_cases hc : (i : Int) < l.length ∧ l.getD i 0 < n
    · rw [if_pos (decide_eq_true hc)]
      obtain ⟨h1, h2⟩ := hc
      refine loop_next ⟨i + 1, by omega, fun j hj => by rcases Nat.lt_succ_iff_lt_or_eq.1 hj with h | rfl; exact hs j h; exact h2⟩ (by show l.length - (i + 1) < l.length - i; omega) (weakE_ [] [] ?_)
      simp only [go_sem]
      exact (by rw [IntKind.wrap_i64]; omega)
    · rw [if_neg (by rw [decide_eq_true_eq]; exact hc)]
      refine ⟨fun h => ⟨by omega, h⟩, ?_⟩
      by_cases he : (i : Int) < l.length ∧ l.getD i 0 = n
      · rw [if_pos (by rw [decide_eq_true he.1, Bool.true_and, beq_iff_eq]; exact he.2), insI_here (by omega) hs he.2]
        exact avle_refl _
      · rw [if_neg (by rw [Bool.and_eq_true, decide_eq_true_eq, beq_iff_eq]; exact he)]
        have hn := insI_new hi hs (fun h => by omega)
        try simp only [Option.toList_some, Option.toList_none, go_sem]
        simp only [Sq.app, Int.sub_zero, Int.toNat_natCast, hn, List.length_append, List.length_take, List.length_cons, List.length_drop]
        refine ⟨⟨by omega, by omega, by omega⟩, ⟨by omega, (by simp only [maxLen]; omega)⟩, ⟨by omega, (by simp only [maxLen]; omega)⟩, ⟨by omega, by omega, Int.le_refl _⟩, ⟨trivial, trivial, by omega, (by simp only [maxLen]; omega)⟩, trivial, avle_of (by simp) (by omega) fun j hj => ?_⟩
        unfold encInt
        rcases Nat.lt_trichotomy j i with h | h | h
        · rw [if_pos (by omega), if_pos h, getD_app_lt (by simp; omega), getD_take h]
        · subst h
          rw [if_pos (by omega), if_neg (by omega), Nat.sub_self, getD_app_ge (by simp; omega)]
          have : j - (l.take j).length = 0 := by simp; omega
          rw [this]; rfl
        · rw [if_neg (by omega), getD_app_ge (by simp; omega)]
          have : j - (l.take i).length = (j - (i + 1)) + 1 := by simp; omega
          rw [this, List.getD_cons_succ, getD_drop]
/-- the reference's: is the body with this number of a missing in b, or another? -/
def cR (a b : Api.World) (id : Int) : Bool := if findB b id < 0 then true else !decide (a.Bodies.getD (findB a id).toNat default = b.Bodies.getD (findB b id).toNat default)
def chgR (a b : Api.World) (l : List Int) (bs : List Body) : List Int := bs.foldl (fun l x => if cR a b x.ID = true then insI l x.ID else l) l
theorem chgR_len (a b : Api.World) : ∀ (bs : List Body) (l : List Int), (chgR a b l bs).length ≤ l.length + bs.length
  | [], l => Nat.le_refl _
  | x :: bs, l => by
    have h := chgR_len a b bs (if cR a b x.ID = true then insI l x.ID else l)
    have h2 := insI_len l x.ID
    have h3 : (if cR a b x.ID = true then insI l x.ID else l).length ≤ l.length + 1 := by split <;> omega
    show (chgR a b (if cR a b x.ID = true then insI l x.ID else l) bs).length ≤ _
    rw [List.length_cons]
    omega
theorem chgR_snoc {a b : Api.World} {l : List Int} {bs : List Body} {i : Nat} (h : i < bs.length) : chgR a b l (bs.take (i + 1)) = if cR a b (bs.getD i default).ID = true then insI (chgR a b l (bs.take i)) (bs.getD i default).ID else chgR a b l (bs.take i) := by
  unfold chgR; rw [take_snoc default h, List.foldl_append]; rfl
theorem findB_lt16' (w : Api.World) (id : Int) : findB w id < w.Bodies.length := idxG_lt.2
theorem s_r46_changed (l : List Int) (a b : Api.World) (ha : Wsm a) (hb : Wsm b) (hl : l.length ≤ 1048576) : CallsA Tryz.prog F_r46_changed [encD 1 encInt 0 l, .agg a.enc, .agg b.enc] [] (encD 1 encInt 0 (chgR a b l a.Bodies)) [] := by
  have ha1 := ha.1
  have hb1 := hb.1
  refine callsI_of (rs := [_]) hm Tryz.func116 (by kernel_rfl) (by kernel_rfl) is_r46_changed (by kernel_rfl : tmpsOf Tryz.f116.results.toList = some [6]) (by decide) (by kernel_rfl) ?_
  simp only [c_r46_changed, go_sem]
  refine Wpi_loop hm (ι := {i : Nat // i ≤ a.Bodies.length}) (fun i => [(0, .share, encD 1 encInt 0 (chgR a b l (a.Bodies.take i.1))), (4, .share, .ptr 80 0 0 1), (5, .share, .ptr 96 0 0 1), (7, .share, .sc (.int .i64 i.1))])
    (fun _ => [(80, .box a.enc), (96, .box b.enc)]) (fun i => a.Bodies.length - i.1) ⟨0, by omega⟩ ?_ ?_
  · refine weakE_ [] [] ?_
    simp only [go_sem]
    try rfl
  · rintro ⟨i, hi⟩
    simp only [c_r46_changedb0, go_sem]
    by_cases hlt : i < a.Bodies.length
    · rw [if_pos (by omega)]
      have hln := chgR_len a b (a.Bodies.take i) l
      rw [List.length_take] at hln
      refine ⟨ok_, ?_⟩
      refine CallGi_flat (s_r25_FindBody a (a.Bodies.getD i default).ID ha1) rfl ?_
      simp only [go_sem]
      refine CallGi_flat (s_r25_FindBody b (a.Bodies.getD i default).ID hb1) rfl ?_
      simp only [go_sem]
      have hid : idB a i = (a.Bodies.getD i default).ID := rfl
      have f0 := findB_ex hlt hid
      have f1 := (findB_spec f0).1
      have f2 := findB_lt16' b (a.Bodies.getD i default).ID
      refine ⟨fun _ => ⟨f0, by omega⟩, fun h => ⟨by simpa using h, f2⟩, ?_⟩
      refine CallGi_flat (s_r23_Equal (a.Bodies.getD (findB a (a.Bodies.getD i default).ID).toNat default) (b.Bodies.getD (findB b (a.Bodies.getD i default).ID).toNat default) (ha.2.2.2.2.1 _ (mem_getD _ f1))) rfl ?_
      simp only [go_sem]
      have hst := chgR_snoc (a := a) (b := b) (l := l) hlt
      by_cases hc : cR a b (a.Bodies.getD i default).ID = true
      · rw [if_pos hc] at hst
        unfold cR at hc
        rw [if_pos hc]
        refine CallGi_flat (s_r46_insert (chgR a b l (a.Bodies.take i)) (a.Bodies.getD i default).ID (by omega)) rfl ?_
        simp only [go_sem]
        refine loop_next ⟨i + 1, by omega⟩ (by show a.Bodies.length - (i + 1) < a.Bodies.length - i; omega) (weakE_ [] [] ?_)
        simp only [hst, go_sem]
        exact (by rw [IntKind.wrap_i64]; omega)
      · rw [if_neg hc] at hst
        unfold cR at hc
        rw [if_neg hc]
        refine loop_next ⟨i + 1, by omega⟩ (by show a.Bodies.length - (i + 1) < a.Bodies.length - i; omega) (weakE_ [] [] ?_)
        simp only [hst, go_sem]
        exact (by rw [IntKind.wrap_i64]; omega)
    · rw [if_neg (by omega)]
      obtain rfl : i = a.Bodies.length := by omega
      simp only [go_sem, List.take_length]
theorem s_r46_ChangedBodies (a b : Api.World) (ha : Wsm a) (hb : Wsm b) : CallsA Tryz.prog F_r46_ChangedBodies [.agg a.enc, .agg b.enc] [] (encD 1 encInt 0 (chgR b a (chgR a b [] a.Bodies) b.Bodies)) [] := by
  have ha1 := ha.1
  have hln := chgR_len a b a.Bodies []
  simp only [List.length_nil] at hln
  refine callsI_of (rs := [_]) hm Tryz.func51 (by kernel_rfl) (by kernel_rfl) is_r46_ChangedBodies (by kernel_rfl : tmpsOf Tryz.f51.results.toList = some [4]) (by decide) (by kernel_rfl) ?_
  simp only [c_r46_ChangedBodies, go_sem]
  refine CallGi_thaw (s_r46_changed [] a b ha hb (by simp)) ?_
  simp only [argsC, go_sem]
  refine ⟨avle_nilD rfl, ?_⟩
  refine CallGi_flat (s_r46_changed (chgR a b [] a.Bodies) b a hb ha (by omega)) rfl ?_
  simp only [go_sem]

end Go.Abs
