/- A part of the walk: contracts of functions that the statement reaches. -/
import Derived.Test.YtlldeiikcfaegaaGreatAbsC
import Derived.Test.YtlldeiikcfaegaaGreatI9
import Derived.Test.YtlldeiikcfaegaaGreatS15
import Derived.Test.YtlldeiikcfaegaaGreatS6
set_option linter.unusedSimpArgs false
set_option linter.unusedVariables false
set_option linter.unnecessarySimpa false
set_option maxRecDepth 100000
set_option maxHeartbeats 2000000
set_option linter.unusedSimpArgs false
set_option linter.unusedVariables false
namespace Go.Abs
open Go.Proofs
open Api
def d_r36_EqualInts_L1 (u : List Int) (v : List Int) (i1 : Nat) (s1 : Unit) : (Unit) ⊕ (Bool) := if ((u.getD i1 0) != (v.getD i1 0)) = true then (.inr false) else (.inl ())
def d_r36_EqualInts (u : List Int) (v : List Int) : Bool := if ((u.length : Int) != (v.length : Int)) = true then (false) else ((match itrE (d_r36_EqualInts_L1 u v) u.length () with | .inr r => r | .inl s1 => true))
set_option maxHeartbeats 200000 in
theorem s_r36_EqualInts (u : List Int) (v : List Int) (hu : u.length ≤ 8000000) (hl : u.length = v.length) : CallsA Tryz.prog F_r36_EqualInts [encD 1 encInt 0 u, encD 1 encInt 0 v] [] (.sc (.bool (d_r36_EqualInts u v))) [] := by
  refine callsI_of (rs := [_]) hm Tryz.func40 (by kernel_rfl) (by kernel_rfl) is_r36_EqualInts (by kernel_rfl : tmpsOf Tryz.f40.results.toList = some [4]) (by decide) (by kernel_rfl) ?_
  simp only [c_r36_EqualInts, go_sem, ite_andP, ite_orP, dec_true, dec_false]
  (repeat (with_reducible refine And.intro ?_ ?_; focus exact ob_))
  by_cases h1 : ((u.length : Int) != (v.length : Int)) = true
  · first | rw [if_pos h1] | rw [if_pos (by simp_all)] | rw [if_pos (by omega)]
    (repeat (with_reducible refine And.intro ?_ ?_; focus exact ob_))
    have hd : d_r36_EqualInts u v = false := by first | with_reducible rfl | (unfold d_r36_EqualInts; exact hd_)
    try rw [hd]
    try simp only [go_sem, ite_andP, ite_orP, dec_true, dec_false]
    all_goals exact fin_
  · first | rw [if_neg h1] | rw [if_neg (by simp_all)] | rw [if_neg (by omega)]
    (repeat (with_reducible refine And.intro ?_ ?_; focus exact ob_))
    refine Wpi_loop hm (ι := {p : Nat × Unit // p.1 ≤ u.length ∧ itrE (d_r36_EqualInts_L1 u v) p.1 () = .inl p.2}) (fun i => [(0, .share, encD 1 encInt 0 u), (1, .share, encD 1 encInt 0 v), (5, .share, .sc (.int .i64 (i.1.1 : Int)))]) (fun i => []) (fun i => u.length - i.1.1) ⟨(0, ()), by omega, rfl⟩ ?_ ?_
    · refine weakE_ [] [] ?_
      simp only [go_sem, ite_andP, ite_orP, dec_true, dec_false, itr_zero]
      all_goals exact fin_
    · rintro ⟨⟨i1, s1⟩, hi1, hs1⟩
      replace hi1 : i1 ≤ u.length := hi1
      replace hs1 : itrE (d_r36_EqualInts_L1 u v) i1 () = .inl s1 := hs1
      simp only [c_r36_EqualIntsb0, go_sem, ite_andP, ite_orP, dec_true, dec_false]
      (repeat (with_reducible refine And.intro ?_ ?_; focus exact ob_))
      by_cases h2 : (i1 : Int) < (u.length : Int)
      · first | rw [if_pos h2] | rw [if_pos (by simp_all)] | rw [if_pos (by omega)]
        have hlt1 : i1 < u.length := by first | omega | (simp only [IntKind.wrap_i64] at h2; omega)
        (repeat (with_reducible refine And.intro ?_ ?_; focus exact ob_))
        by_cases h3 : ((u.getD i1 0) != (v.getD i1 0)) = true
        · first | rw [if_pos h3] | rw [if_pos (by simp_all)] | rw [if_pos (by omega)]
          (repeat (with_reducible refine And.intro ?_ ?_; focus exact ob_))
          have e1 : itrE (d_r36_EqualInts_L1 u v) (i1 + 1) () = .inr false := itrE_inl hs1 (by first | with_reducible rfl | (unfold d_r36_EqualInts_L1; exact hd_))
          replace e1 := itrE_stop e1 (show i1 + 1 ≤ u.length by omega)
          have hd : d_r36_EqualInts u v = false := by first | with_reducible rfl | (unfold d_r36_EqualInts; exact hd_)
          try rw [hd]
          try simp only [go_sem, ite_andP, ite_orP, dec_true, dec_false]
          all_goals exact fin_
        · first | rw [if_neg h3] | rw [if_neg (by simp_all)] | rw [if_neg (by omega)]
          (repeat (with_reducible refine And.intro ?_ ?_; focus exact ob_))
          have hn : itrE (d_r36_EqualInts_L1 u v) (i1 + 1) () = .inl () := itrE_inl hs1 (by first | with_reducible rfl | (unfold d_r36_EqualInts_L1; exact hd_))
          refine loop_next ⟨(i1 + 1, ()), by omega, hn⟩ (by show u.length - (i1 + 1) < u.length - i1; omega) (weakE_ [] [] ?_)
          simp only [go_sem, ite_andP, ite_orP, dec_true, dec_false]
          all_goals exact fin_
      · first | rw [if_neg h2] | rw [if_neg (by simp_all)] | rw [if_neg (by omega)]
        (repeat (with_reducible refine And.intro ?_ ?_; focus exact ob_))
        have hge : i1 = u.length := by first | omega | (simp only [IntKind.wrap_i64] at h2; omega)
        subst hge
        have hd : d_r36_EqualInts u v = true := by first | with_reducible rfl | (unfold d_r36_EqualInts; exact hd_)
        try rw [hd]
        try simp only [go_sem, ite_andP, ite_orP, dec_true, dec_false]
        all_goals exact fin_

theorem eq_loop (u v : List Int) {f : Nat → Unit → Unit ⊕ Bool} (hf : ∀ i, f i () = if (u.getD i 0 != v.getD i 0) = true then .inr false else .inl ()) :
    (if ((u.length : Int) != (v.length : Int)) = true then false else (match itrE f u.length () with | .inr r => r | .inl s1 => true)) = decide (u = v) := by
  by_cases hl : u.length = v.length
  · rw [if_neg (by simp [hl]), itrE_all (r := false) (p := fun i => u.getD i 0 != v.getD i 0) hf]
    by_cases he : u = v
    · subst he
      rw [if_neg (by rw [List.any_eq_true]; rintro ⟨i, _, h⟩; simp at h), decide_eq_true rfl]
    · rw [if_pos, decide_eq_false he]
      rw [List.any_eq_true]
      refine Classical.byContradiction fun h => he ?_
      apply List.ext_getElem hl
      intro i h1 h2
      refine Classical.byContradiction fun hne => h ⟨i, List.mem_range.2 h1, ?_⟩
      simp [List.getD, h1, h2, hne]
  · rw [if_pos (by simp; omega), decide_eq_false (fun h => hl (by rw [h]))]
theorem eqI_ref (u v : List Int) : d_r36_EqualInts u v = decide (u = v) := eq_loop u v fun i => rfl
theorem s_r36_EqI (u v : List Int) (hu : u.length ≤ 8000000) : CallsA Tryz.prog F_r36_EqualInts [encD 1 encInt 0 u, encD 1 encInt 0 v] [] (.sc (.bool (decide (u = v)))) [] := by
  by_cases hl : u.length = v.length
  · rw [← eqI_ref]; exact s_r36_EqualInts u v hu hl
  · rw [decide_eq_false (fun h => hl (by rw [h]))]
    refine callsI_of (rs := [_]) hm Tryz.func40 (by kernel_rfl) (by kernel_rfl) is_r36_EqualInts (by kernel_rfl : tmpsOf Tryz.f40.results.toList = some [4]) (by decide) (by kernel_rfl) ?_
    simp only [c_r36_EqualInts, go_sem]
    rw [if_pos (by simp; omega)]
    trivial
def eqIs (x y : Island) : Bool := decide (x.Bodies = y.Bodies) && decide (x.Contacts = y.Contacts) && decide (x.Joints = y.Joints)
def Isx (x : Island) : Prop := x.Bodies.length ≤ 1048576 ∧ x.Contacts.length ≤ 1048576 ∧ x.Joints.length ≤ 1048576
theorem s_r36_Equal (x y : Island) (hx : Isx x) (hy : Isx y) : CallsA Tryz.prog F_r36_Equal [.agg x.enc, .agg y.enc] [] (.sc (.bool (eqIs x y))) [] := by
  refine callsI_of (rs := [_]) hm Tryz.func44 (by kernel_rfl) (by kernel_rfl) is_r36_Equal (by kernel_rfl : tmpsOf Tryz.f44.results.toList = some [4]) (by decide) (by kernel_rfl) ?_
  simp only [c_r36_Equal, go_sem]
  refine CallGi_flat (s_r36_EqI x.Bodies y.Bodies (by have := hx.1; omega)) rfl ?_
  simp only [go_sem]
  refine CallGi_flat (s_r36_EqI x.Contacts y.Contacts (by have := hx.2.1; omega)) rfl ?_
  simp only [go_sem]
  refine CallGi_flat (s_r36_EqI x.Joints y.Joints (by have := hx.2.2; omega)) rfl ?_
  simp only [go_sem, eqIs]
  split <;> simp [*]
theorem s_r36_Find (l : List Island) (a : Int) (hl : l.length ≤ 1048576) (hx : ∀ x ∈ l, x.Bodies.length ≤ 1048576) : CallsA Tryz.prog F_r36_Find [encD 3 Island.enc default l, .sc (.int .i64 a)] [] (.sc (.int .i64 (findI l a))) [] := by
  refine callsI_of (rs := [_]) hm Tryz.func45 (by kernel_rfl) (by kernel_rfl) is_r36_Find (by kernel_rfl : tmpsOf Tryz.f45.results.toList = some [4]) (by decide) (by kernel_rfl) ?_
  simp only [c_r36_Find, go_sem]
  refine Wpi_loop hm (ι := {i : Nat // i ≤ l.length ∧ ∀ j, j < i → ((l.getD j default).Bodies.any fun y => a == y) = false}) (fun i => [(0, .share, encD 3 Island.enc default l), (1, .share, .sc (.int .i64 a)), (5, .share, .sc (.int .i64 i.1))])
    (fun _ => []) (fun i => l.length - i.1) ⟨0, by omega, fun j hj => by omega⟩ ?_ ?_
  · refine weakE_ [] [] ?_
    simp only [go_sem]
  · rintro ⟨i, hi, hs⟩
    simp only [c_r36_Findb0, go_sem]
    by_cases hlt : (i : Int) < l.length
    · rw [if_pos hlt]
      have hlt : i < l.length := by omega
      refine ⟨ok_, ?_⟩
      have hb := hx _ (mem_getD default hlt)
      refine CallGi_flat (s_r36_containsInt (l.getD i default).Bodies a (by omega)) rfl ?_
      simp only [go_sem]
      cases hp : ((l.getD i default).Bodies.any fun y => a == y) with
      | true =>
        rw [if_pos rfl]
        exact (idxG_at (p := fun x : Island => x.Bodies.any fun y => a == y) hlt hs hp).symm
      | false =>
        rw [if_neg (by simp)]
        refine loop_next ⟨i + 1, by omega, fun j hj => by rcases Nat.lt_succ_iff_lt_or_eq.1 hj with h | rfl; exact hs j h; exact hp⟩ (by show l.length - (i + 1) < l.length - i; omega) (weakE_ [] [] ?_)
        simp only [go_sem]
        exact (by rw [IntKind.wrap_i64]; omega)
    · rw [if_neg hlt]
      exact (idxG_none (p := fun x : Island => x.Bodies.any fun y => a == y) fun j hj => hs j (by omega)).symm
theorem eqIs_self (x : Island) : eqIs x x = true := by unfold eqIs; simp
end Go.Abs
