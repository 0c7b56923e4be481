/- A part of the walk: contracts of functions that the statement reaches. -/
import Derived.Test.YtlldeiikcfaegaaGreatAbsC
import Derived.Test.YtlldeiikcfaegaaGreatI9
import Derived.Test.YtlldeiikcfaegaaGreatS16
set_option linter.unusedSimpArgs false
set_option linter.unusedVariables false
set_option linter.unnecessarySimpa false
set_option maxRecDepth 100000
set_option maxHeartbeats 2000000
set_option linter.unusedSimpArgs false
set_option linter.unusedVariables false
namespace Go.Abs
open Go.Proofs
open Api
def d_slices_Equal_int_L1 (u : List Int) (v : List Int) (i1 : Nat) (s1 : Unit) : (Unit) ⊕ (Bool) := if ((u.getD i1 0) != (v.getD i1 0)) = true then (.inr false) else (.inl ())
def d_slices_Equal_int (u : List Int) (v : List Int) : Bool := if ((u.length : Int) != (v.length : Int)) = true then (false) else ((match itrE (d_slices_Equal_int_L1 u v) u.length () with | .inr r => r | .inl s1 => true))
set_option maxHeartbeats 200000 in
theorem s_slices_Equal_int (u : List Int) (v : List Int) (hu : u.length ≤ 8000000) (hl : u.length = v.length) : CallsA Tryz.prog F_slices_Equal_int [encD 1 encInt 0 u, encD 1 encInt 0 v] [] (.sc (.bool (d_slices_Equal_int u v))) [] := by
  refine callsI_of (rs := [_]) hm Tryz.func105 (by kernel_rfl) (by kernel_rfl) is_slices_Equal_int (by kernel_rfl : tmpsOf Tryz.f105.results.toList = some [4]) (by decide) (by kernel_rfl) ?_
  simp only [c_slices_Equal_int, go_sem, ite_andP, ite_orP, dec_true, dec_false]
  (repeat (with_reducible refine And.intro ?_ ?_; focus exact ob_))
  by_cases h1 : ((u.length : Int) != (v.length : Int)) = true
  · first | rw [if_pos h1] | rw [if_pos (by simp_all)] | rw [if_pos (by omega)]
    (repeat (with_reducible refine And.intro ?_ ?_; focus exact ob_))
    have hd : d_slices_Equal_int u v = false := by first | with_reducible rfl | (unfold d_slices_Equal_int; exact hd_)
    try rw [hd]
    try simp only [go_sem, ite_andP, ite_orP, dec_true, dec_false]
    all_goals exact fin_
  · first | rw [if_neg h1] | rw [if_neg (by simp_all)] | rw [if_neg (by omega)]
    (repeat (with_reducible refine And.intro ?_ ?_; focus exact ob_))
    refine Wpi_loop hm (ι := {p : Nat × Unit // p.1 ≤ u.length ∧ itrE (d_slices_Equal_int_L1 u v) p.1 () = .inl p.2}) (fun i => [(0, .share, encD 1 encInt 0 u), (1, .share, encD 1 encInt 0 v), (12, .share, .sc (.int .i64 (u.length : Int))), (13, .share, .sc (.int .i64 (i.1.1 : Int)))]) (fun i => []) (fun i => u.length - i.1.1) ⟨(0, ()), by omega, rfl⟩ ?_ ?_
    · refine weakE_ [] [] ?_
      simp only [go_sem, ite_andP, ite_orP, dec_true, dec_false, itr_zero]
      all_goals exact fin_
    · rintro ⟨⟨i1, s1⟩, hi1, hs1⟩
      replace hi1 : i1 ≤ u.length := hi1
      replace hs1 : itrE (d_slices_Equal_int_L1 u v) i1 () = .inl s1 := hs1
      simp only [c_slices_Equal_intb0, go_sem, ite_andP, ite_orP, dec_true, dec_false]
      (repeat (with_reducible refine And.intro ?_ ?_; focus exact ob_))
      by_cases h2 : (i1 : Int) < (u.length : Int)
      · first | rw [if_pos h2] | rw [if_pos (by simp_all)] | rw [if_pos (by omega)]
        have hlt1 : i1 < u.length := by first | omega | (simp only [IntKind.wrap_i64] at h2; omega)
        (repeat (with_reducible refine And.intro ?_ ?_; focus exact ob_))
        by_cases h3 : ((u.getD i1 0) != (v.getD i1 0)) = true
        · first | rw [if_pos h3] | rw [if_pos (by simp_all)] | rw [if_pos (by omega)]
          (repeat (with_reducible refine And.intro ?_ ?_; focus exact ob_))
          have e1 : itrE (d_slices_Equal_int_L1 u v) (i1 + 1) () = .inr false := itrE_inl hs1 (by first | with_reducible rfl | (unfold d_slices_Equal_int_L1; exact hd_))
          replace e1 := itrE_stop e1 (show i1 + 1 ≤ u.length by omega)
          have hd : d_slices_Equal_int u v = false := by first | with_reducible rfl | (unfold d_slices_Equal_int; exact hd_)
          try rw [hd]
          try simp only [go_sem, ite_andP, ite_orP, dec_true, dec_false]
          all_goals exact fin_
        · first | rw [if_neg h3] | rw [if_neg (by simp_all)] | rw [if_neg (by omega)]
          (repeat (with_reducible refine And.intro ?_ ?_; focus exact ob_))
          have hn : itrE (d_slices_Equal_int_L1 u v) (i1 + 1) () = .inl () := itrE_inl hs1 (by first | with_reducible rfl | (unfold d_slices_Equal_int_L1; exact hd_))
          refine loop_next ⟨(i1 + 1, ()), by omega, hn⟩ (by show u.length - (i1 + 1) < u.length - i1; omega) (weakE_ [] [] ?_)
          simp only [go_sem, ite_andP, ite_orP, dec_true, dec_false]
          all_goals exact fin_
      · first | rw [if_neg h2] | rw [if_neg (by simp_all)] | rw [if_neg (by omega)]
        (repeat (with_reducible refine And.intro ?_ ?_; focus exact ob_))
        have hge : i1 = u.length := by first | omega | (simp only [IntKind.wrap_i64] at h2; omega)
        subst hge
        have hd : d_slices_Equal_int u v = true := by first | with_reducible rfl | (unfold d_slices_Equal_int; exact hd_)
        try rw [hd]
        try simp only [go_sem, ite_andP, ite_orP, dec_true, dec_false]
        all_goals exact fin_

def d_r36_EqualInts_L1 (u : List Int) (v : List Int) (i1 : Nat) (s1 : Unit) : (Unit) ⊕ (Bool) := if ((u.getD i1 0) != (v.getD i1 0)) = true then (.inr false) else (.inl ())
def d_r36_EqualInts (u : List Int) (v : List Int) : Bool := if ((u.length : Int) != (v.length : Int)) = true then (false) else ((match itrE (d_r36_EqualInts_L1 u v) u.length () with | .inr r => r | .inl s1 => true))
set_option maxHeartbeats 200000 in
theorem s_r36_EqualInts (u : List Int) (v : List Int) (hu : u.length ≤ 8000000) (hl : u.length = v.length) : CallsA Tryz.prog F_r36_EqualInts [encD 1 encInt 0 u, encD 1 encInt 0 v] [] (.sc (.bool (d_r36_EqualInts u v))) [] := by
  refine callsI_of (rs := [_]) hm Tryz.func40 (by kernel_rfl) (by kernel_rfl) is_r36_EqualInts (by kernel_rfl : tmpsOf Tryz.f40.results.toList = some [4]) (by decide) (by kernel_rfl) ?_
  simp only [c_r36_EqualInts, go_sem, ite_andP, ite_orP, dec_true, dec_false]
  (repeat (with_reducible refine And.intro ?_ ?_; focus exact ob_))
  by_cases h1 : ((u.length : Int) != (v.length : Int)) = true
  · first | rw [if_pos h1] | rw [if_pos (by simp_all)] | rw [if_pos (by omega)]
    (repeat (with_reducible refine And.intro ?_ ?_; focus exact ob_))
    have hd : d_r36_EqualInts u v = false := by first | with_reducible rfl | (unfold d_r36_EqualInts; exact hd_)
    try rw [hd]
    try simp only [go_sem, ite_andP, ite_orP, dec_true, dec_false]
    all_goals exact fin_
  · first | rw [if_neg h1] | rw [if_neg (by simp_all)] | rw [if_neg (by omega)]
    (repeat (with_reducible refine And.intro ?_ ?_; focus exact ob_))
    refine Wpi_loop hm (ι := {p : Nat × Unit // p.1 ≤ u.length ∧ itrE (d_r36_EqualInts_L1 u v) p.1 () = .inl p.2}) (fun i => [(0, .share, encD 1 encInt 0 u), (1, .share, encD 1 encInt 0 v), (5, .share, .sc (.int .i64 (i.1.1 : Int)))]) (fun i => []) (fun i => u.length - i.1.1) ⟨(0, ()), by omega, rfl⟩ ?_ ?_
    · refine weakE_ [] [] ?_
      simp only [go_sem, ite_andP, ite_orP, dec_true, dec_false, itr_zero]
      all_goals exact fin_
    · rintro ⟨⟨i1, s1⟩, hi1, hs1⟩
      replace hi1 : i1 ≤ u.length := hi1
      replace hs1 : itrE (d_r36_EqualInts_L1 u v) i1 () = .inl s1 := hs1
      simp only [c_r36_EqualIntsb0, go_sem, ite_andP, ite_orP, dec_true, dec_false]
      (repeat (with_reducible refine And.intro ?_ ?_; focus exact ob_))
      by_cases h2 : (i1 : Int) < (u.length : Int)
      · first | rw [if_pos h2] | rw [if_pos (by simp_all)] | rw [if_pos (by omega)]
        have hlt1 : i1 < u.length := by first | omega | (simp only [IntKind.wrap_i64] at h2; omega)
        (repeat (with_reducible refine And.intro ?_ ?_; focus exact ob_))
        by_cases h3 : ((u.getD i1 0) != (v.getD i1 0)) = true
        · first | rw [if_pos h3] | rw [if_pos (by simp_all)] | rw [if_pos (by omega)]
          (repeat (with_reducible refine And.intro ?_ ?_; focus exact ob_))
          have e1 : itrE (d_r36_EqualInts_L1 u v) (i1 + 1) () = .inr false := itrE_inl hs1 (by first | with_reducible rfl | (unfold d_r36_EqualInts_L1; exact hd_))
          replace e1 := itrE_stop e1 (show i1 + 1 ≤ u.length by omega)
          have hd : d_r36_EqualInts u v = false := by first | with_reducible rfl | (unfold d_r36_EqualInts; exact hd_)
          try rw [hd]
          try simp only [go_sem, ite_andP, ite_orP, dec_true, dec_false]
          all_goals exact fin_
        · first | rw [if_neg h3] | rw [if_neg (by simp_all)] | rw [if_neg (by omega)]
          (repeat (with_reducible refine And.intro ?_ ?_; focus exact ob_))
          have hn : itrE (d_r36_EqualInts_L1 u v) (i1 + 1) () = .inl () := itrE_inl hs1 (by first | with_reducible rfl | (unfold d_r36_EqualInts_L1; exact hd_))
          refine loop_next ⟨(i1 + 1, ()), by omega, hn⟩ (by show u.length - (i1 + 1) < u.length - i1; omega) (weakE_ [] [] ?_)
          simp only [go_sem, ite_andP, ite_orP, dec_true, dec_false]
          all_goals exact fin_
      · first | rw [if_neg h2] | rw [if_neg (by simp_all)] | rw [if_neg (by omega)]
        (repeat (with_reducible refine And.intro ?_ ?_; focus exact ob_))
        have hge : i1 = u.length := by first | omega | (simp only [IntKind.wrap_i64] at h2; omega)
        subst hge
        have hd : d_r36_EqualInts u v = true := by first | with_reducible rfl | (unfold d_r36_EqualInts; exact hd_)
        try rw [hd]
        try simp only [go_sem, ite_andP, ite_orP, dec_true, dec_false]
        all_goals exact fin_

theorem eq_loop (u v : List Int) {f : Nat → Unit → Unit ⊕ Bool} (hf : ∀ i, f i () = if (u.getD i 0 != v.getD i 0) = true then .inr false else .inl ()) :
    (if ((u.length : Int) != (v.length : Int)) = true then false else (match itrE f u.length () with | .inr r => r | .inl s1 => true)) = decide (u = v) := by
  by_cases hl : u.length = v.length
  · rw [if_neg (by simp [hl]), itrE_all (r := false) (p := fun i => u.getD i 0 != v.getD i 0) hf]
    by_cases he : u = v
    · subst he
      rw [if_neg (by rw [List.any_eq_true]; rintro ⟨i, _, h⟩; simp at h), decide_eq_true rfl]
    · rw [if_pos, decide_eq_false he]
      rw [List.any_eq_true]
      refine Classical.byContradiction fun h => he ?_
      apply List.ext_getElem hl
      intro i h1 h2
      refine Classical.byContradiction fun hne => h ⟨i, List.mem_range.2 h1, ?_⟩
      simp [List.getD, h1, h2, hne]
  · rw [if_pos (by simp; omega), decide_eq_false (fun h => hl (by rw [h]))]
theorem eqI_prog (u v : List Int) : d_slices_Equal_int u v = decide (u = v) := eq_loop u v fun i => rfl
theorem eqI_ref (u v : List Int) : d_r36_EqualInts u v = decide (u = v) := eq_loop u v fun i => rfl
theorem s_slices_EqI (u v : List Int) (hu : u.length ≤ 8000000) : CallsA Tryz.prog F_slices_Equal_int [encD 1 encInt 0 u, encD 1 encInt 0 v] [] (.sc (.bool (decide (u = v)))) [] := by
  by_cases hl : u.length = v.length
  · rw [← eqI_prog]; exact s_slices_Equal_int u v hu hl
  · rw [decide_eq_false (fun h => hl (by rw [h]))]
    refine callsI_of (rs := [_]) hm Tryz.func105 (by kernel_rfl) (by kernel_rfl) is_slices_Equal_int (by kernel_rfl : tmpsOf Tryz.f105.results.toList = some [4]) (by decide) (by kernel_rfl) ?_
    simp only [c_slices_Equal_int, go_sem]
    rw [if_pos (by simp; omega)]
    trivial
theorem s_r36_EqI (u v : List Int) (hu : u.length ≤ 8000000) : CallsA Tryz.prog F_r36_EqualInts [encD 1 encInt 0 u, encD 1 encInt 0 v] [] (.sc (.bool (decide (u = v)))) [] := by
  by_cases hl : u.length = v.length
  · rw [← eqI_ref]; exact s_r36_EqualInts u v hu hl
  · rw [decide_eq_false (fun h => hl (by rw [h]))]
    refine callsI_of (rs := [_]) hm Tryz.func40 (by kernel_rfl) (by kernel_rfl) is_r36_EqualInts (by kernel_rfl : tmpsOf Tryz.f40.results.toList = some [4]) (by decide) (by kernel_rfl) ?_
    simp only [c_r36_EqualInts, go_sem]
    rw [if_pos (by simp; omega)]
    trivial
def eqIs (x y : Island) : Bool := decide (x.Bodies = y.Bodies) && decide (x.Contacts = y.Contacts) && decide (x.Joints = y.Joints)
def Isx (x : Island) : Prop := x.Bodies.length ≤ 1048576 ∧ x.Contacts.length ≤ 1048576 ∧ x.Joints.length ≤ 1048576
theorem s_island_Equal (x y : Island) (hx : Isx x) (hy : Isx y) : CallsA Tryz.prog F_island_Equal [.agg x.enc, .agg y.enc] [] (.sc (.bool (eqIs x y))) [] := by
  refine callsI_of (rs := [_]) hm Tryz.func43 (by kernel_rfl) (by kernel_rfl) is_island_Equal (by kernel_rfl : tmpsOf Tryz.f43.results.toList = some [4]) (by decide) (by kernel_rfl) ?_
  simp only [c_island_Equal, go_sem]
  refine CallGi_flat (s_slices_EqI x.Bodies y.Bodies (by have := hx.1; omega)) rfl ?_
  simp only [go_sem]
  refine CallGi_flat (s_slices_EqI x.Contacts y.Contacts (by have := hx.2.1; omega)) rfl ?_
  simp only [go_sem]
  refine CallGi_flat (s_slices_EqI x.Joints y.Joints (by have := hx.2.2; omega)) rfl ?_
  simp only [go_sem, eqIs]
  split <;> simp [*]
theorem s_r36_Equal (x y : Island) (hx : Isx x) (hy : Isx y) : CallsA Tryz.prog F_r36_Equal [.agg x.enc, .agg y.enc] [] (.sc (.bool (eqIs x y))) [] := by
  refine callsI_of (rs := [_]) hm Tryz.func44 (by kernel_rfl) (by kernel_rfl) is_r36_Equal (by kernel_rfl : tmpsOf Tryz.f44.results.toList = some [4]) (by decide) (by kernel_rfl) ?_
  simp only [c_r36_Equal, go_sem]
  refine CallGi_flat (s_r36_EqI x.Bodies y.Bodies (by have := hx.1; omega)) rfl ?_
  simp only [go_sem]
  refine CallGi_flat (s_r36_EqI x.Contacts y.Contacts (by have := hx.2.1; omega)) rfl ?_
  simp only [go_sem]
  refine CallGi_flat (s_r36_EqI x.Joints y.Joints (by have := hx.2.2; omega)) rfl ?_
  simp only [go_sem, eqIs]
  split <;> simp [*]
theorem s_r36_Find (l : List Island) (a : Int) (hl : l.length ≤ 1048576) (hx : ∀ x ∈ l, x.Bodies.length ≤ 1048576) : CallsA Tryz.prog F_r36_Find [encD 3 Island.enc default l, .sc (.int .i64 a)] [] (.sc (.int .i64 (findI l a))) [] := by
  refine callsI_of (rs := [_]) hm Tryz.func45 (by kernel_rfl) (by kernel_rfl) is_r36_Find (by kernel_rfl : tmpsOf Tryz.f45.results.toList = some [4]) (by decide) (by kernel_rfl) ?_
  simp only [c_r36_Find, go_sem]
  refine Wpi_loop hm (ι := {i : Nat // i ≤ l.length ∧ ∀ j, j < i → ((l.getD j default).Bodies.any fun y => a == y) = false}) (fun i => [(0, .share, encD 3 Island.enc default l), (1, .share, .sc (.int .i64 a)), (5, .share, .sc (.int .i64 i.1))])
    (fun _ => []) (fun i => l.length - i.1) ⟨0, by omega, fun j hj => by omega⟩ ?_ ?_
  · refine weakE_ [] [] ?_
    simp only [go_sem]
  · rintro ⟨i, hi, hs⟩
    simp only [c_r36_Findb0, go_sem]
    by_cases hlt : (i : Int) < l.length
    · rw [if_pos hlt]
      have hlt : i < l.length := by omega
      refine ⟨ok_, ?_⟩
      have hb := hx _ (mem_getD default hlt)
      refine CallGi_flat (s_r36_containsInt (l.getD i default).Bodies a (by omega)) rfl ?_
      simp only [go_sem]
      cases hp : ((l.getD i default).Bodies.any fun y => a == y) with
      | true =>
        rw [if_pos rfl]
        exact (idxG_at (p := fun x : Island => x.Bodies.any fun y => a == y) hlt hs hp).symm
      | false =>
        rw [if_neg (by simp)]
        refine loop_next ⟨i + 1, by omega, fun j hj => by rcases Nat.lt_succ_iff_lt_or_eq.1 hj with h | rfl; exact hs j h; exact hp⟩ (by show l.length - (i + 1) < l.length - i; omega) (weakE_ [] [] ?_)
        simp only [go_sem]
        exact (by rw [IntKind.wrap_i64]; omega)
    · rw [if_neg hlt]
      exact (idxG_none (p := fun x : Island => x.Bodies.any fun y => a == y) fun j hj => hs j (by omega)).symm
theorem getD_app {a b : List Int} {j : Nat} (h : j < a.length) : (a ++ b).getD j 0 = a.getD j 0 := by
  rw [List.getD, List.getD, List.getElem?_append_left h]
theorem eqIs_self (x : Island) : eqIs x x = true := by unfold eqIs; simp
theorem smallI_x {x : Island} (h : isSmallI x = true) : Isx x ∧ Ism x := by
  simp only [isSmallI, Bool.and_eq_true, decide_eq_true_eq] at h
  exact ⟨⟨by omega, by omega, by omega⟩, ⟨by omega, by omega, by omega⟩⟩
theorem s_law36_IslandBodiesExact (w : Api.World) (l : List Island) (body : Int) : CallsA Tryz.prog F_law36_IslandBodiesExact [.agg w.enc, encD 3 Island.enc default l, .sc (.int .i64 body)] [] (.sc (.bool true)) [] := by
  refine callsI_of (rs := [_]) hm Tryz.func11 (by kernel_rfl) (by kernel_rfl) is_law36_IslandBodiesExact (by kernel_rfl : tmpsOf Tryz.f11.results.toList = some [6]) (by decide) (by kernel_rfl) ?_
  simp only [c_law36_IslandBodiesExact, go_sem]
  refine CallGi_flat (s_r27_IsSmall w) rfl ?_
  simp only [go_sem]
  by_cases hc : isSmall w = true ∧ l.length ≤ 6
  · obtain ⟨hs, hl⟩ := hc
    have hw := isSmall_sm hs
    rw [if_neg (by rw [hs]; simp; omega)]
    refine Wpi_loop hm (ι := {i : Nat // i ≤ l.length ∧ ∀ j, j < i → isSmallI (l.getD j default) = true}) (fun i => [(1, .share, encD 3 Island.enc default l), (2, .share, .sc (.int .i64 body)), (3, .share, .ptr 64 0 0 1), (7, .share, .sc (.int .i64 i.1))])
      (fun _ => [(64, .box w.enc)]) (fun i => l.length - i.1) ⟨0, by omega, fun j hj => by omega⟩ ?_ ?_
    · refine weakE_ [] [] ?_
      simp only [go_sem]
    · rintro ⟨i, hi, hsm⟩
      simp only [c_law36_IslandBodiesExactb0, go_sem]
      by_cases hlt : (i : Int) < l.length
      · rw [if_pos hlt]
        have hlt : i < l.length := by omega
        refine ⟨ok_, ?_⟩
        refine CallGi_flat (s_r36_IsSmallIsland (l.getD i default)) rfl ?_
        simp only [go_sem]
        cases hsi : isSmallI (l.getD i default) with
        | false =>
          rw [if_pos rfl]
          refine CallGi_flat s_law36_example rfl ?_
          simp only [go_sem]
        | true =>
          rw [if_neg (by simp)]
          refine loop_next ⟨i + 1, by omega, fun j hj => by rcases Nat.lt_succ_iff_lt_or_eq.1 hj with h | rfl; exact hsm j h; exact hsi⟩ (by show l.length - (i + 1) < l.length - i; omega) (weakE_ [] [] ?_)
          simp only [go_sem]
          exact (by rw [IntKind.wrap_i64]; omega)
      · rw [if_neg hlt]
        obtain rfl : i = l.length := by omega
        have hx : ∀ x ∈ l, x.Bodies.length ≤ 1048576 := fun x hxl => by
          obtain ⟨j, hj, rfl⟩ := List.getElem_of_mem hxl
          have := (smallI_x (hsm j hj)).1.1
          simpa [List.getD, hj] using this
        refine Wpi_loop hm (ι := {i : Nat // i ≤ l.length}) (fun i => [(1, .share, encD 3 Island.enc default l), (2, .share, .sc (.int .i64 body)), (3, .share, .ptr 64 0 0 1), (8, .share, .sc (.int .i64 i.1))])
          (fun _ => [(64, .box w.enc)]) (fun i => l.length - i.1) ⟨0, by omega⟩ ?_ ?_
        · refine weakE_ [] [] ?_
          simp only [go_sem]
        · rintro ⟨i, hi⟩
          simp only [c_law36_IslandBodiesExactb1, go_sem]
          by_cases hlt : (i : Int) < l.length
          · rw [if_pos hlt]
            have hlt : i < l.length := by omega
            obtain ⟨i1, i2⟩ := smallI_x (hsm i hlt)
            refine ⟨ok_, ?_⟩
            refine CallGi_obj [false, false] [] (s_island_Bodies w (l.getD i default) hw i2) (by simp) (by simp) (by simp) (by simp) ?_
            simp only [argsOC, go_sem]
            refine ⟨ok_, ?_⟩
            refine CallGi_flat (s_r36_Bodies w (l.getD i default) hw i2) rfl ?_
            simp only [go_sem]
            have hb3 := bod3_len i2 (w := w)
            have hbl := bodL_len w (l.getD i default)
            refine CallGi_keep (s_r36_EqI (bodL w (l.getD i default)) (bodL w (l.getD i default)) (by omega)) rfl ?_ ?_
            · simp only [argsC, go_sem]
              refine ⟨by simp only [List.length_append, List.length_replicate]; omega, ?_⟩
              refine ⟨rfl, rfl, fun j hj => ?_⟩
              have e : (bodL w (l.getD i default) ++ List.replicate ((bod3 w (l.getD i default)).length - (bodL w (l.getD i default)).length) 0).getD j 0 = (bodL w (l.getD i default)).getD j 0 := by
                exact getD_app hj
              simp only [encAt_app, e]
              exact avleL_refl _
            · simp only [go_sem]
              obtain ⟨j1, j2⟩ := smallI_x (hsm 0 (by omega))
              refine ⟨⟨ok_, ok_⟩, ⟨ok_, ok_⟩, ?_⟩
              refine CallGi_flat (s_island_Equal (l.getD 0 default) (l.getD i default) j1 i1) rfl ?_
              simp only [go_sem]
              refine ⟨ok_, ok_, ?_⟩
              refine CallGi_flat (s_r36_Equal (l.getD 0 default) (l.getD i default) j1 i1) rfl ?_
              simp only [go_sem]
              refine ⟨ok_, ok_, ?_⟩
              refine CallGi_flat (s_island_Equal (l.getD i default) (l.getD i default) i1 i1) rfl ?_
              simp only [go_sem]
              rw [if_neg (by rw [eqIs_self]; simp)]
              refine loop_next ⟨i + 1, by omega⟩ (by show l.length - (i + 1) < l.length - i; omega) (weakE_ [] [] ?_)
              simp only [go_sem]
              exact (by rw [IntKind.wrap_i64]; omega)
          · rw [if_neg hlt]
            refine CallGi_flat (s_island_Find l body (by omega) hx) rfl ?_
            simp only [go_sem]
            refine CallGi_flat (s_r36_Find l body (by omega) hx) rfl ?_
            simp only [go_sem]
            refine CallGi_flat s_law36_example rfl ?_
            simp only [go_sem]
            simp
  · rw [if_pos (by
      rcases Bool.eq_false_or_eq_true (isSmall w) with h | h
      · simp only [h, Bool.not_true, Bool.false_eq_true, if_false]
        simp; exact Classical.byContradiction fun hh => hc ⟨h, by omega⟩
      · simp [h])]
    refine CallGi_flat s_law36_example rfl ?_
    simp only [go_sem]

end Go.Abs
