/- A part of the walk: contracts of functions that the statement reaches. -/
import Derived.Test.YtlldeiikcfaegaaGreatAbsC
import Derived.Test.YtlldeiikcfaegaaGreatI9
set_option linter.unusedSimpArgs false
set_option linter.unusedVariables false
set_option linter.unnecessarySimpa false
set_option maxRecDepth 100000
set_option maxHeartbeats 2000000
set_option linter.unusedSimpArgs false
set_option linter.unusedVariables false
namespace Go.Abs
open Go.Proofs
open Api
/-- f at each of the first n numbers -/
def tl (n : Nat) (f : Nat → Nat) : List Int := (List.range n).map fun j => (f j : Int)
theorem tl_len (n : Nat) (f : Nat → Nat) : (tl n f).length = n := by simp [tl]
theorem tl_get {n i : Nat} {f : Nat → Nat} (h : i < n) : (tl n f).getD i 0 = f i := by simp [tl, List.getD, h]
theorem tl_congr {n : Nat} {f g : Nat → Nat} (h : ∀ j, j < n → f j = g j) : tl n f = tl n g := by
  unfold tl
  apply List.map_congr_left
  intro j hj
  rw [List.mem_range] at hj
  rw [h j hj]
theorem tl_set {n i : Nat} {f g : Nat → Nat} (hi : i < n) (h : ∀ j, j < n → g j = if j = i then f j + 1 else f j) : (tl n f).set i ((f i : Int) + 1) = tl n g := by
  apply List.ext_getElem?
  intro j
  rw [List.getElem?_set]
  by_cases hj : j < n
  · by_cases he : i = j
    · subst he
      rw [if_pos rfl, if_pos (by rw [tl_len]; exact hi)]
      simp [tl, hi, h i hi]
    · rw [if_neg he]
      simp [tl, hj, h j hj, show ¬ j = i by omega]
  · rw [if_neg (by omega)]
    simp [tl, hj]
def cC (w : Api.World) (k n i : Nat) : Nat := cs (nC w i) k + (((buildL w).getD k default).Contacts.take n).count (i : Int)
def cJ (w : Api.World) (k n i : Nat) : Nat := cs (nJ w i) k + (((buildL w).getD k default).Joints.take n).count (i : Int)
theorem cC_next (w : Api.World) (k i : Nat) : cC w k ((buildL w).getD k default).Contacts.length i = cC w (k + 1) 0 i := by
  unfold cC; rw [List.take_length]; rfl
theorem cJ_next (w : Api.World) (k i : Nat) : cJ w k ((buildL w).getD k default).Joints.length i = cJ w (k + 1) 0 i := by
  unfold cJ; rw [List.take_length]; rfl
theorem cC_le (w : Api.World) (k n i : Nat) : cC w k n i ≤ (k + 1) * w.Contacts.length := by
  have h1 := cs_le (f := nC w i) (M := w.Contacts.length) (fun k => Nat.le_trans List.count_le_length (buildL_at (k := k)).2.1) k
  have h2 : (((buildL w).getD k default).Contacts.take n).count (i : Int) ≤ w.Contacts.length := Nat.le_trans List.count_le_length (by rw [List.length_take]; have := (buildL_at (w := w) (k := k)).2.1; omega)
  unfold cC; rw [Nat.add_mul]; omega
theorem cJ_le (w : Api.World) (k n i : Nat) : cJ w k n i ≤ (k + 1) * w.Joints.length := by
  have h1 := cs_le (f := nJ w i) (M := w.Joints.length) (fun k => Nat.le_trans List.count_le_length (buildL_at (k := k)).2.2) k
  have h2 : (((buildL w).getD k default).Joints.take n).count (i : Int) ≤ w.Joints.length := Nat.le_trans List.count_le_length (by rw [List.length_take]; have := (buildL_at (w := w) (k := k)).2.2; omega)
  unfold cJ; rw [Nat.add_mul]; omega
theorem small_le {w : Api.World} (h : isSmall w = true) : w.Bodies.length ≤ 8 ∧ w.Joints.length ≤ 8 ∧ w.Contacts.length ≤ 20 := by
  simp only [isSmall, few, Bool.and_eq_true, decide_eq_true_eq] at h
  obtain ⟨⟨⟨⟨⟨h1, h2⟩, h3⟩, h4⟩, _⟩, _⟩ := h
  exact ⟨h1, h2, h3⟩
theorem Nat.cast_ite_one {p : Prop} [Decidable p] : (((if p then 1 else 0) : Nat) : Int) = if p then 1 else 0 := by split <;> rfl
def inO (w : Api.World) (f g : Nat → Nat) : List (Nat × AObj) := [(48, .box w.enc), (1, .arr 1 (encQ encInt 0 (tl w.Contacts.length f))), (2, .arr 1 (encQ encInt 0 (tl w.Joints.length g)))]
attribute [go_sem] inO
theorem s_law36_inOneIsland (w : Api.World) (hs : isSmall w = true) (hv : d_world_Validate w = 0) : CallsA Tryz.prog F_law36_inOneIsland [.agg w.enc, encD 3 Island.enc default (buildL w)] [] (.sc (.bool true)) [] := by
  have hw := isSmall_sm hs
  have hw1 := hw.1
  obtain ⟨q1, q2, q3⟩ := small_le hs
  have hbl := buildL_len w
  have tlc := fun f => tl_len w.Contacts.length f
  have tlj := fun f => tl_len w.Joints.length f
  refine callsI_of (rs := [_]) hm Tryz.func34 (by kernel_rfl) (by kernel_rfl) is_law36_inOneIsland (by kernel_rfl : tmpsOf Tryz.f34.results.toList = some [4]) (by decide) (by kernel_rfl) ?_
  simp only [c_law36_inOneIsland, go_sem, ↓reduceIte, Nat.reduceEqDiff, reduceCtorEq, Nat.reduceAdd, Nat.reduceLeDiff, Nat.reduceMul, Nat.reduceSub, Int.reduceToNat]
  refine ⟨(by (repeat' (with_reducible apply And.intro)) <;> first | omega | (simp only [maxLen]; omega)), (by (repeat' (with_reducible apply And.intro)) <;> first | omega | (simp only [maxLen]; omega)), ?_⟩
  refine Wpi_loop hm (ι := {k : Nat // k ≤ (buildL w).length}) (fun k => [(1, .share, encD 3 Island.enc default (buildL w)), (2, .share, .ptr 48 0 0 1), (5, .share, .sl 1 0 w.Contacts.length w.Contacts.length), (6, .share, .sl 2 0 w.Joints.length w.Joints.length), (7, .share, .sc (.int .i64 k.1))])
    (fun k => inO w (cC w k.1 0) (cJ w k.1 0)) (fun k => (buildL w).length - k.1) ⟨0, by omega⟩ ?_ ?_
  · refine weakE_of [(1, 320), (2, 384)] [] (by simp [go_sem]) (by simp [assoc, go_sem]) (by simp [go_sem]) ?_
    simp only [go_sem, ↓reduceIte, Nat.reduceEqDiff, reduceCtorEq, Nat.reduceAdd, Nat.reduceLeDiff, Nat.reduceMul, Nat.reduceSub, Int.reduceToNat, ite_andP, ite_orP, dec_true, dec_false]
    refine ⟨⟨rfl, (tlc _).symm, fun j hj => ?_⟩, ⟨rfl, (tlj _).symm, fun j hj => ?_⟩⟩
    · have hj : j < w.Contacts.length := hj
      have : (tl w.Contacts.length (cC w 0 0)).getD j 0 = 0 := by rw [tl_get hj]; simp [cC, cs]
      simp only [encQ_g, encAt_app, this]
      exact avleL_refl _
    · have hj : j < w.Joints.length := hj
      have : (tl w.Joints.length (cJ w 0 0)).getD j 0 = 0 := by rw [tl_get hj]; simp [cJ, cs]
      simp only [encQ_g, encAt_app, this]
      exact avleL_refl _
  · rintro ⟨k, hk⟩
    simp only [c_law36_inOneIslandb2, go_sem, ↓reduceIte, Nat.reduceEqDiff, reduceCtorEq, Nat.reduceAdd, Nat.reduceLeDiff, Nat.reduceMul, Nat.reduceSub, Int.reduceToNat, ite_andP, ite_orP, dec_true, dec_false]
    by_cases hlt : (k : Int) < (buildL w).length
    · rw [if_pos hlt]
      have hlt : k < (buildL w).length := by omega
      obtain ⟨e1, e2, e3⟩ := buildL_at (w := w) (k := k)
      refine Wpi_loop hm (ι := {n : Nat // n ≤ ((buildL w).getD k default).Contacts.length}) (fun n => [(1, .share, encD 3 Island.enc default (buildL w)), (2, .share, .ptr 48 0 0 1), (5, .share, .sl 1 0 w.Contacts.length w.Contacts.length), (6, .share, .sl 2 0 w.Joints.length w.Joints.length), (7, .share, .sc (.int .i64 k)), (8, .share, .sc (.int .i64 n.1))])
        (fun n => inO w (cC w k n.1) (cJ w k 0)) (fun n => ((buildL w).getD k default).Contacts.length - n.1) ⟨0, by omega⟩ ?_ ?_
      · refine weakE_of [] [] (by simp [go_sem]) (by simp [assoc, go_sem]) (by simp [go_sem]) ?_
        simp only [go_sem, ↓reduceIte, Nat.reduceEqDiff, reduceCtorEq, Nat.reduceAdd, Nat.reduceLeDiff, Nat.reduceMul, Nat.reduceSub, Int.reduceToNat, ite_andP, ite_orP, dec_true, dec_false]
        try exact ⟨q_same rfl, q_same rfl⟩
      · rintro ⟨n, hn⟩
        simp only [c_law36_inOneIslandb0, go_sem, ↓reduceIte, Nat.reduceEqDiff, reduceCtorEq, Nat.reduceAdd, Nat.reduceLeDiff, Nat.reduceMul, Nat.reduceSub, Int.reduceToNat, ite_andP, ite_orP, dec_true, dec_false]
        refine ⟨(by (repeat' (with_reducible apply And.intro)) <;> first | omega | (simp only [maxLen]; omega)), ?_⟩
        by_cases hnl : (n : Int) < ((buildL w).getD k default).Contacts.length
        · rw [if_pos hnl]
          have hnl : n < ((buildL w).getD k default).Contacts.length := by omega
          refine ⟨(by (repeat' (with_reducible apply And.intro)) <;> first | omega | (simp only [maxLen]; omega)), (by (repeat' (with_reducible apply And.intro)) <;> first | omega | (simp only [maxLen]; omega)), ?_⟩
          obtain ⟨m0, m1⟩ := buildC_in hv hlt (mem_getD 0 hnl)
          have hcs := count_snoc hnl
          generalize ((buildL w).getD k default).Contacts.getD n 0 = e0 at m0 m1 hcs ⊢
          obtain ⟨e, rfl⟩ : ∃ e : Nat, e0 = e := ⟨e0.toNat, by omega⟩
          rw [if_neg (by simp; omega)]
          have hen : e < w.Contacts.length := by omega
          have hge : (tl w.Contacts.length (cC w k n)).getD e 0 = cC w k n e := tl_get hen
          have hcl := cC_le w k n e
          have hcl2 : cC w k n e ≤ 9 * 20 := Nat.le_trans hcl (Nat.mul_le_mul (by omega) q3)
          have hwr : IntKind.i64.wrap ((cC w k n e : Int) + 1) = (cC w k n e : Int) + 1 := by rw [IntKind.wrap_i64]; omega
          refine ⟨⟨(tlc _).symm, by omega, by omega⟩, (tlc _).symm, ⟨(tlc _).symm, by omega, by omega⟩, (tlc _).symm, ?_⟩
          refine loop_next ⟨n + 1, by omega⟩ (by show ((buildL w).getD k default).Contacts.length - (n + 1) < ((buildL w).getD k default).Contacts.length - n; omega) (weakE_of [] [] (by simp [go_sem]) (by simp [go_sem]) (by simp [go_sem]) ?_)
          simp only [go_sem, ↓reduceIte, Nat.reduceEqDiff, reduceCtorEq, Nat.reduceAdd, Nat.reduceLeDiff, Nat.reduceMul, Nat.reduceSub, Int.reduceToNat, ite_andP, ite_orP, dec_true, dec_false, hge, hwr]
          refine ⟨(by rw [IntKind.wrap_i64]; omega), ?_⟩
          exact q_set ((cC w k n e : Int) + 1) (by rw [tlc]; exact hen) rfl (tl_set hen fun j hj => by
            unfold cC
            rw [hcs]
            by_cases he : j = e
            · subst he; rw [if_pos rfl, if_pos rfl]; omega
            · rw [if_neg (by omega), if_neg he]; omega)
        · rw [if_neg hnl]
          obtain rfl : n = ((buildL w).getD k default).Contacts.length := by omega
          refine Wpi_loop hm (ι := {n : Nat // n ≤ ((buildL w).getD k default).Joints.length}) (fun n => [(1, .share, encD 3 Island.enc default (buildL w)), (2, .share, .ptr 48 0 0 1), (5, .share, .sl 1 0 w.Contacts.length w.Contacts.length), (6, .share, .sl 2 0 w.Joints.length w.Joints.length), (7, .share, .sc (.int .i64 k)), (10, .share, .sc (.int .i64 n.1))])
            (fun n => inO w (cC w (k + 1) 0) (cJ w k n.1)) (fun n => ((buildL w).getD k default).Joints.length - n.1) ⟨0, by omega⟩ ?_ ?_
          · refine weakE_of [] [] (by simp [go_sem]) (by simp [assoc, go_sem]) (by simp [go_sem]) ?_
            simp only [go_sem, ↓reduceIte, Nat.reduceEqDiff, reduceCtorEq, Nat.reduceAdd, Nat.reduceLeDiff, Nat.reduceMul, Nat.reduceSub, Int.reduceToNat, ite_andP, ite_orP, dec_true, dec_false]
            exact q_same (tl_congr fun j _ => cC_next w k j)
          · rintro ⟨n, hn⟩
            simp only [c_law36_inOneIslandb1, go_sem, ↓reduceIte, Nat.reduceEqDiff, reduceCtorEq, Nat.reduceAdd, Nat.reduceLeDiff, Nat.reduceMul, Nat.reduceSub, Int.reduceToNat, ite_andP, ite_orP, dec_true, dec_false]
            refine ⟨(by (repeat' (with_reducible apply And.intro)) <;> first | omega | (simp only [maxLen]; omega)), ?_⟩
            by_cases hnl : (n : Int) < ((buildL w).getD k default).Joints.length
            · rw [if_pos hnl]
              have hnl : n < ((buildL w).getD k default).Joints.length := by omega
              refine ⟨(by (repeat' (with_reducible apply And.intro)) <;> first | omega | (simp only [maxLen]; omega)), (by (repeat' (with_reducible apply And.intro)) <;> first | omega | (simp only [maxLen]; omega)), ?_⟩
              obtain ⟨m0, m1⟩ := buildJ_in hv hlt (mem_getD 0 hnl)
              have hcs := count_snoc hnl
              generalize ((buildL w).getD k default).Joints.getD n 0 = e0 at m0 m1 hcs ⊢
              obtain ⟨e, rfl⟩ : ∃ e : Nat, e0 = e := ⟨e0.toNat, by omega⟩
              rw [if_neg (by simp; omega)]
              have hen : e < w.Joints.length := by omega
              have hge : (tl w.Joints.length (cJ w k n)).getD e 0 = cJ w k n e := tl_get hen
              have hcl := cJ_le w k n e
              have hcl2 : cJ w k n e ≤ 9 * 8 := Nat.le_trans hcl (Nat.mul_le_mul (by omega) q2)
              have hwr : IntKind.i64.wrap ((cJ w k n e : Int) + 1) = (cJ w k n e : Int) + 1 := by rw [IntKind.wrap_i64]; omega
              refine ⟨⟨(tlj _).symm, by omega, by omega⟩, (tlj _).symm, ⟨(tlj _).symm, by omega, by omega⟩, (tlj _).symm, ?_⟩
              refine loop_next ⟨n + 1, by omega⟩ (by show ((buildL w).getD k default).Joints.length - (n + 1) < ((buildL w).getD k default).Joints.length - n; omega) (weakE_of [] [] (by simp [go_sem]) (by simp [go_sem]) (by simp [go_sem]) ?_)
              simp only [go_sem, ↓reduceIte, Nat.reduceEqDiff, reduceCtorEq, Nat.reduceAdd, Nat.reduceLeDiff, Nat.reduceMul, Nat.reduceSub, Int.reduceToNat, ite_andP, ite_orP, dec_true, dec_false, hge, hwr]
              refine ⟨(by rw [IntKind.wrap_i64]; omega), ?_⟩
              exact q_set ((cJ w k n e : Int) + 1) (by rw [tlj]; exact hen) rfl (tl_set hen fun j hj => by
                unfold cJ
                rw [hcs]
                by_cases he : j = e
                · subst he; rw [if_pos rfl, if_pos rfl]; omega
                · rw [if_neg (by omega), if_neg he]; omega)
            · rw [if_neg hnl]
              obtain rfl : n = ((buildL w).getD k default).Joints.length := by omega
              refine loop_next ⟨k + 1, by omega⟩ (by show (buildL w).length - (k + 1) < (buildL w).length - k; omega) (weakE_of [] [] (by simp [go_sem]) (by simp [go_sem]) (by simp [go_sem]) ?_)
              simp only [go_sem, ↓reduceIte, Nat.reduceEqDiff, reduceCtorEq, Nat.reduceAdd, Nat.reduceLeDiff, Nat.reduceMul, Nat.reduceSub, Int.reduceToNat, ite_andP, ite_orP, dec_true, dec_false]
              refine ⟨(by rw [IntKind.wrap_i64]; omega), ?_⟩
              exact q_same (tl_congr fun j _ => cJ_next w k j)
    · rw [if_neg hlt]
      obtain rfl : k = (buildL w).length := by omega
      refine Wpi_loop hm (ι := {i : Nat // i ≤ w.Contacts.length}) (fun i => [(2, .share, .ptr 48 0 0 1), (5, .share, .sl 1 0 w.Contacts.length w.Contacts.length), (6, .share, .sl 2 0 w.Joints.length w.Joints.length), (12, .share, .sc (.int .i64 i.1))])
        (fun _ => inO w (cC w (buildL w).length 0) (cJ w (buildL w).length 0)) (fun i => w.Contacts.length - i.1) ⟨0, by omega⟩ ?_ ?_
      · refine weakE_of [] [] (by simp [go_sem]) (by simp [assoc, go_sem]) (by simp [go_sem]) ?_
        simp only [go_sem, ↓reduceIte, Nat.reduceEqDiff, reduceCtorEq, Nat.reduceAdd, Nat.reduceLeDiff, Nat.reduceMul, Nat.reduceSub, Int.reduceToNat, ite_andP, ite_orP, dec_true, dec_false]
        try exact ⟨q_same rfl, q_same rfl⟩
      · rintro ⟨i, hi⟩
        simp only [c_law36_inOneIslandb3, go_sem, ↓reduceIte, Nat.reduceEqDiff, reduceCtorEq, Nat.reduceAdd, Nat.reduceLeDiff, Nat.reduceMul, Nat.reduceSub, Int.reduceToNat, ite_andP, ite_orP, dec_true, dec_false]
        by_cases hlt : (i : Int) < w.Contacts.length
        · rw [if_pos hlt]
          have hlt : i < w.Contacts.length := by omega
          have hge : (tl w.Contacts.length (cC w (buildL w).length 0)).getD i 0 = if d_law36_hasDynamic w (w.Contacts.getD i default).Key.BodyA (w.Contacts.getD i default).Key.BodyB = true then 1 else 0 := by
            rw [tl_get hlt, ← Nat.cast_ite_one, ← sumC hv hlt]; simp [cC]
          refine ⟨(by (repeat' (with_reducible apply And.intro)) <;> first | omega | (simp only [maxLen]; omega)), ?_⟩
          try refine ⟨(by (repeat' (with_reducible apply And.intro)) <;> first | omega | (simp only [maxLen]; omega)), ?_⟩
          refine CallGi_flat (s_law36_hasDynamic w (w.Contacts.getD i default).Key.BodyA (w.Contacts.getD i default).Key.BodyB hw1) rfl ?_
          simp only [go_sem, ↓reduceIte, Nat.reduceEqDiff, reduceCtorEq, Nat.reduceAdd, Nat.reduceLeDiff, Nat.reduceMul, Nat.reduceSub, Int.reduceToNat, ite_andP, ite_orP, dec_true, dec_false, hge]
          have hi0 : 0 ≤ (i : Int) ∧ (i : Int) < w.Contacts.length := ⟨by omega, by omega⟩
          generalize d_law36_hasDynamic w (w.Contacts.getD i default).Key.BodyA (w.Contacts.getD i default).Key.BodyB = b
          refine ⟨fun _ => ⟨(tlc _).symm, hi0⟩, fun _ => (tlc _).symm, fun _ => ⟨(tlc _).symm, hi0⟩, fun _ => (tlc _).symm, by cases b <;> simp, ?_⟩
          rw [if_neg (by cases b <;> simp)]
          refine loop_next ⟨i + 1, by omega⟩ (by show w.Contacts.length - (i + 1) < w.Contacts.length - i; omega) (weakE_of [] [] (by simp [go_sem]) (by simp [go_sem]) (by simp [go_sem]) ?_)
          simp only [go_sem, ↓reduceIte, Nat.reduceEqDiff, reduceCtorEq, Nat.reduceAdd, Nat.reduceLeDiff, Nat.reduceMul, Nat.reduceSub, Int.reduceToNat, ite_andP, ite_orP, dec_true, dec_false]
          first | exact ⟨(by rw [IntKind.wrap_i64]; omega), q_same rfl, q_same rfl⟩ | exact (by rw [IntKind.wrap_i64]; omega) | trace_state
        · rw [if_neg hlt]
          obtain rfl : i = w.Contacts.length := by omega
          refine Wpi_loop hm (ι := {i : Nat // i ≤ w.Joints.length}) (fun i => [(2, .share, .ptr 48 0 0 1), (5, .share, .sl 1 0 w.Contacts.length w.Contacts.length), (6, .share, .sl 2 0 w.Joints.length w.Joints.length), (14, .share, .sc (.int .i64 i.1))])
            (fun _ => inO w (cC w (buildL w).length 0) (cJ w (buildL w).length 0)) (fun i => w.Joints.length - i.1) ⟨0, by omega⟩ ?_ ?_
          · refine weakE_of [] [] (by simp [go_sem]) (by simp [assoc, go_sem]) (by simp [go_sem]) ?_
            simp only [go_sem, ↓reduceIte, Nat.reduceEqDiff, reduceCtorEq, Nat.reduceAdd, Nat.reduceLeDiff, Nat.reduceMul, Nat.reduceSub, Int.reduceToNat, ite_andP, ite_orP, dec_true, dec_false]
            try exact ⟨q_same rfl, q_same rfl⟩
          · rintro ⟨i, hi⟩
            simp only [c_law36_inOneIslandb4, go_sem, ↓reduceIte, Nat.reduceEqDiff, reduceCtorEq, Nat.reduceAdd, Nat.reduceLeDiff, Nat.reduceMul, Nat.reduceSub, Int.reduceToNat, ite_andP, ite_orP, dec_true, dec_false]
            by_cases hlt : (i : Int) < w.Joints.length
            · rw [if_pos hlt]
              have hlt : i < w.Joints.length := by omega
              have hge : (tl w.Joints.length (cJ w (buildL w).length 0)).getD i 0 = if d_law36_hasDynamic w (w.Joints.getD i default).BodyA (w.Joints.getD i default).BodyB = true then 1 else 0 := by
                rw [tl_get hlt, ← Nat.cast_ite_one, ← sumJ hv hlt]; simp [cJ]
              refine ⟨(by (repeat' (with_reducible apply And.intro)) <;> first | omega | (simp only [maxLen]; omega)), ?_⟩
              try refine ⟨(by (repeat' (with_reducible apply And.intro)) <;> first | omega | (simp only [maxLen]; omega)), ?_⟩
              refine CallGi_flat (s_law36_hasDynamic w (w.Joints.getD i default).BodyA (w.Joints.getD i default).BodyB hw1) rfl ?_
              simp only [go_sem, ↓reduceIte, Nat.reduceEqDiff, reduceCtorEq, Nat.reduceAdd, Nat.reduceLeDiff, Nat.reduceMul, Nat.reduceSub, Int.reduceToNat, ite_andP, ite_orP, dec_true, dec_false, hge]
              have hi0 : 0 ≤ (i : Int) ∧ (i : Int) < w.Joints.length := ⟨by omega, by omega⟩
              generalize d_law36_hasDynamic w (w.Joints.getD i default).BodyA (w.Joints.getD i default).BodyB = b
              refine ⟨fun _ => ⟨(tlj _).symm, hi0⟩, fun _ => (tlj _).symm, fun _ => ⟨(tlj _).symm, hi0⟩, fun _ => (tlj _).symm, by cases b <;> simp, ?_⟩
              rw [if_neg (by cases b <;> simp)]
              refine loop_next ⟨i + 1, by omega⟩ (by show w.Joints.length - (i + 1) < w.Joints.length - i; omega) (weakE_of [] [] (by simp [go_sem]) (by simp [go_sem]) (by simp [go_sem]) ?_)
              simp only [go_sem, ↓reduceIte, Nat.reduceEqDiff, reduceCtorEq, Nat.reduceAdd, Nat.reduceLeDiff, Nat.reduceMul, Nat.reduceSub, Int.reduceToNat, ite_andP, ite_orP, dec_true, dec_false]
              first | exact ⟨(by rw [IntKind.wrap_i64]; omega), q_same rfl, q_same rfl⟩ | exact (by rw [IntKind.wrap_i64]; omega) | trace_state
            · rw [if_neg hlt]
              obtain rfl : i = w.Joints.length := by omega
              trivial

end Go.Abs
