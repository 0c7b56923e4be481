/- A part of the walk: contracts of functions that the statement reaches. -/
import Derived.Test.YtlldeiikcfaegaaGreatAbsC
import Derived.Test.YtlldeiikcfaegaaGreatT1
set_option linter.unusedSimpArgs false
set_option linter.unusedVariables false
set_option linter.unnecessarySimpa false
set_option maxRecDepth 100000
set_option maxHeartbeats 2000000
set_option linter.unusedSimpArgs false
set_option linter.unusedVariables false
namespace Go.Abs
open Go.Proofs
open Api
def d_polygon_IsConvex_L2 (vs : List Vec) (i1 : Nat) (i2 : Nat) (s2 : Unit) : (Unit) ⊕ (Bool) := let v2 := (ori (vs.getD i1 default) (vs.getD ((IntKind.i64.wrap ((i1 : Int) + 1)).tmod (vs.length : Int)).toNat default) (vs.getD i2 default)); if ((((i2 : Int) != (i1 : Int)) && ((i2 : Int) != ((IntKind.i64.wrap ((i1 : Int) + 1)).tmod (vs.length : Int)))) && (v2 != 1)) = true then (.inr false) else (.inl ())
def d_polygon_IsConvex_L1 (vs : List Vec) (i1 : Nat) (s1 : Unit) : (Unit) ⊕ (Bool) := (match itrE (d_polygon_IsConvex_L2 vs i1) vs.length () with | .inr r => .inr r | .inl s2 => .inl ())
def d_polygon_IsConvex (vs : List Vec) : Bool := let v1 := (d_polygon_allInReach vs); if (((decide ((vs.length : Int) < 3)) || (decide (8 < (vs.length : Int)))) || (!v1)) = true then (false) else ((match itrE (d_polygon_IsConvex_L1 vs) vs.length () with | .inr r => r | .inl s1 => true))
set_option maxHeartbeats 200000 in
theorem s_polygon_IsConvex (vs : List Vec) (hn : vs.length ≤ 1048576) : CallsA Tryz.prog F_polygon_IsConvex [encD 2 Vec.enc default vs] [] (.sc (.bool (d_polygon_IsConvex vs))) [] := by
  refine callsI_of (rs := [_]) hm Tryz.func301 (by kernel_rfl) (by kernel_rfl) is_polygon_IsConvex (by kernel_rfl : tmpsOf Tryz.f301.results.toList = some [2]) (by decide) (by kernel_rfl) ?_
  simp only [c_polygon_IsConvex, go_sem, ite_andP, ite_orP, dec_true, dec_false]
  (repeat (with_reducible refine And.intro ?_ ?_; focus exact ob_))
  refine CallGi_flat (s_polygon_allInReach vs (by (first | assumption | omega | (simp_all; done) | (simp_all; omega)))) rfl ?_
  generalize hv1 : (d_polygon_allInReach vs) = v1
  simp only [go_sem, ite_andP, ite_orP, dec_true, dec_false]
  (repeat (with_reducible refine And.intro ?_ ?_; focus exact ob_))
  by_cases h1 : (((decide ((vs.length : Int) < 3)) || (decide (8 < (vs.length : Int)))) || (!v1)) = true
  · first | rw [if_pos h1] | rw [if_pos (by simp_all)] | rw [if_pos (by omega)]
    (repeat (with_reducible refine And.intro ?_ ?_; focus exact ob_))
    have hd : d_polygon_IsConvex vs = false := by first | with_reducible rfl | (unfold d_polygon_IsConvex; exact hd_)
    try rw [hd]
    try simp only [go_sem, ite_andP, ite_orP, dec_true, dec_false]
    all_goals exact fin_
  · first | rw [if_neg h1] | rw [if_neg (by simp_all)] | rw [if_neg (by omega)]
    (repeat (with_reducible refine And.intro ?_ ?_; focus exact ob_))
    refine Wpi_loop hm (ι := {p : Nat × Unit // p.1 ≤ vs.length ∧ itrE (d_polygon_IsConvex_L1 vs) p.1 () = .inl p.2}) (fun i => [(0, .share, encD 2 Vec.enc default vs), (3, .share, .sc (.int .i64 (vs.length : Int))), (22, .share, encD 2 Vec.enc default vs), (23, .share, .sc (.int .i64 (vs.length : Int))), (24, .share, .sc (.int .i64 (i.1.1 : Int)))]) (fun i => []) (fun i => vs.length - i.1.1) ⟨(0, ()), by omega, rfl⟩ ?_ ?_
    · refine weakE_ [] [] ?_
      simp only [go_sem, ite_andP, ite_orP, dec_true, dec_false, itr_zero]
      all_goals exact fin_
    · rintro ⟨⟨i1, s1⟩, hi1, hs1⟩
      replace hi1 : i1 ≤ vs.length := hi1
      replace hs1 : itrE (d_polygon_IsConvex_L1 vs) i1 () = .inl s1 := hs1
      simp only [c_polygon_IsConvexb1, go_sem, ite_andP, ite_orP, dec_true, dec_false]
      (repeat (with_reducible refine And.intro ?_ ?_; focus exact ob_))
      by_cases h2 : (i1 : Int) < (vs.length : Int)
      · first | rw [if_pos h2] | rw [if_pos (by simp_all)] | rw [if_pos (by omega)]
        have hlt1 : i1 < vs.length := by first | omega | (simp only [IntKind.wrap_i64] at h2; omega)
        (repeat (with_reducible refine And.intro ?_ ?_; focus exact ob_))
        refine Wpi_loop hm (ι := {p : Nat × Unit // p.1 ≤ vs.length ∧ itrE (d_polygon_IsConvex_L2 vs i1) p.1 () = .inl p.2}) (fun i => [(0, .share, encD 2 Vec.enc default vs), (3, .share, .sc (.int .i64 (vs.length : Int))), (4, .share, .sc (.int .i64 (i1 : Int))), (5, .share, .ptr 96 0 0 1), (6, .share, .sc (.int .i64 ((IntKind.i64.wrap ((i1 : Int) + 1)).tmod (vs.length : Int)))), (22, .share, encD 2 Vec.enc default vs), (23, .share, .sc (.int .i64 (vs.length : Int))), (24, .share, .sc (.int .i64 (i1 : Int))), (33, .share, encD 2 Vec.enc default vs), (34, .share, .sc (.int .i64 (vs.length : Int))), (35, .share, .sc (.int .i64 (i.1.1 : Int)))]) (fun i => [(96, .box [.sc (.int .i64 (vs.getD i1 default).X), .sc (.int .i64 (vs.getD i1 default).Y)])]) (fun i => vs.length - i.1.1) ⟨(0, ()), by omega, rfl⟩ ?_ ?_
        · refine weakE_ [] [] ?_
          simp only [go_sem, ite_andP, ite_orP, dec_true, dec_false, itr_zero]
          all_goals exact fin_
        · rintro ⟨⟨i2, s2⟩, hi2, hs2⟩
          replace hi2 : i2 ≤ vs.length := hi2
          replace hs2 : itrE (d_polygon_IsConvex_L2 vs i1) i2 () = .inl s2 := hs2
          simp only [c_polygon_IsConvexb0, go_sem, ite_andP, ite_orP, dec_true, dec_false]
          (repeat (with_reducible refine And.intro ?_ ?_; focus exact ob_))
          by_cases h3 : (i2 : Int) < (vs.length : Int)
          · first | rw [if_pos h3] | rw [if_pos (by simp_all)] | rw [if_pos (by omega)]
            have hlt2 : i2 < vs.length := by first | omega | (simp only [IntKind.wrap_i64] at h3; omega)
            (repeat (with_reducible refine And.intro ?_ ?_; focus exact ob_))
            refine CallGi_flat (s_vec2_Orientation (vs.getD i1 default) (vs.getD ((IntKind.i64.wrap ((i1 : Int) + 1)).tmod (vs.length : Int)).toNat default) (vs.getD i2 default) ) rfl ?_
            generalize hv2 : (ori (vs.getD i1 default) (vs.getD ((IntKind.i64.wrap ((i1 : Int) + 1)).tmod (vs.length : Int)).toNat default) (vs.getD i2 default)) = v2
            simp only [go_sem, ite_andP, ite_orP, dec_true, dec_false]
            (repeat (with_reducible refine And.intro ?_ ?_; focus exact ob_))
            by_cases h4 : ((((i2 : Int) != (i1 : Int)) && ((i2 : Int) != ((IntKind.i64.wrap ((i1 : Int) + 1)).tmod (vs.length : Int)))) && (v2 != 1)) = true
            · first | rw [if_pos h4] | rw [if_pos (by simp_all)] | rw [if_pos (by omega)]
              (repeat (with_reducible refine And.intro ?_ ?_; focus exact ob_))
              have e2 : itrE (d_polygon_IsConvex_L2 vs i1) (i2 + 1) () = .inr false := itrE_inl hs2 (by first | with_reducible rfl | (unfold d_polygon_IsConvex_L2; exact hd_))
              replace e2 := itrE_stop e2 (show i2 + 1 ≤ vs.length by omega)
              have e1 : itrE (d_polygon_IsConvex_L1 vs) (i1 + 1) () = .inr false := itrE_inl hs1 (by first | with_reducible rfl | (unfold d_polygon_IsConvex_L1; exact hd_))
              replace e1 := itrE_stop e1 (show i1 + 1 ≤ vs.length by omega)
              have hd : d_polygon_IsConvex vs = false := by first | with_reducible rfl | (unfold d_polygon_IsConvex; exact hd_)
              try rw [hd]
              try simp only [go_sem, ite_andP, ite_orP, dec_true, dec_false]
              all_goals exact fin_
            · first | rw [if_neg h4] | rw [if_neg (by simp_all)] | rw [if_neg (by omega)]
              (repeat (with_reducible refine And.intro ?_ ?_; focus exact ob_))
              have hn : itrE (d_polygon_IsConvex_L2 vs i1) (i2 + 1) () = .inl () := itrE_inl hs2 (by first | with_reducible rfl | (unfold d_polygon_IsConvex_L2; exact hd_))
              refine loop_next ⟨(i2 + 1, ()), by omega, hn⟩ (by show vs.length - (i2 + 1) < vs.length - i2; omega) (weakE_ [] [] ?_)
              simp only [go_sem, ite_andP, ite_orP, dec_true, dec_false]
              all_goals exact fin_
          · first | rw [if_neg h3] | rw [if_neg (by simp_all)] | rw [if_neg (by omega)]
            (repeat (with_reducible refine And.intro ?_ ?_; focus exact ob_))
            have hge : i2 = vs.length := by first | omega | (simp only [IntKind.wrap_i64] at h3; omega)
            subst hge
            have hn : itrE (d_polygon_IsConvex_L1 vs) (i1 + 1) () = .inl () := itrE_inl hs1 (by first | with_reducible rfl | (unfold d_polygon_IsConvex_L1; exact hd_))
            refine loop_next ⟨(i1 + 1, ()), by omega, hn⟩ (by show vs.length - (i1 + 1) < vs.length - i1; omega) (weakE_ [] [] ?_)
            simp only [go_sem, ite_andP, ite_orP, dec_true, dec_false]
            all_goals exact fin_
      · first | rw [if_neg h2] | rw [if_neg (by simp_all)] | rw [if_neg (by omega)]
        (repeat (with_reducible refine And.intro ?_ ?_; focus exact ob_))
        have hge : i1 = vs.length := by first | omega | (simp only [IntKind.wrap_i64] at h2; omega)
        subst hge
        have hd : d_polygon_IsConvex vs = true := by first | with_reducible rfl | (unfold d_polygon_IsConvex; exact hd_)
        try rw [hd]
        try simp only [go_sem, ite_andP, ite_orP, dec_true, dec_false]
        all_goals exact fin_

theorem convex_len (vs : List Vec) : d_polygon_IsConvex vs = true → 3 ≤ vs.length ∧ vs.length ≤ 8 := by
  intro h
  unfold d_polygon_IsConvex at h
  simp only at h
  split at h
  · cases h
  · rename_i hc
    simp only [Bool.or_eq_true, decide_eq_true_eq, not_or] at hc
    omega
def d_polygon_ShortestEdge_L1 (vs : List Vec) (i1 : Nat) (s1 : Int) : Int := let v2 := (subV (vs.getD ((IntKind.i64.wrap ((i1 : Int) + 1)).tmod (vs.length : Int)).toNat default) (vs.getD i1 default)); let v3 := (lenV v2); (if v3 < s1 then v3 else s1)
def d_polygon_ShortestEdge (vs : List Vec) : Int := let v1 := (d_polygon_IsConvex vs); if v1 = false then (0) else (let s1 := itr (d_polygon_ShortestEdge_L1 vs) vs.length 536870911; s1)
set_option maxHeartbeats 200000 in
theorem s_polygon_ShortestEdge (vs : List Vec) (hn : vs.length ≤ 1048576) : CallsA Tryz.prog F_polygon_ShortestEdge [encD 2 Vec.enc default vs] [] (.sc (.int .i64 (d_polygon_ShortestEdge vs))) [] := by
  refine callsI_of (rs := [_]) hm Tryz.func302 (by kernel_rfl) (by kernel_rfl) is_polygon_ShortestEdge (by kernel_rfl : tmpsOf Tryz.f302.results.toList = some [2]) (by decide) (by kernel_rfl) ?_
  simp only [c_polygon_ShortestEdge, go_sem, ite_andP, ite_orP, dec_true, dec_false]
  (repeat (with_reducible refine And.intro ?_ ?_; focus exact ob_))
  have p1 := convex_len vs
  refine CallGi_flat (s_polygon_IsConvex vs (by (first | assumption | omega | (simp_all; done) | (simp_all; omega)))) rfl ?_
  generalize hv1 : (d_polygon_IsConvex vs) = v1 at *
  simp only [go_sem, ite_andP, ite_orP, dec_true, dec_false]
  (repeat (with_reducible refine And.intro ?_ ?_; focus exact ob_))
  by_cases h2 : v1 = false
  · first | rw [if_pos h2] | rw [if_pos (by simp_all)] | rw [if_pos (by omega)]
    (repeat (with_reducible refine And.intro ?_ ?_; focus exact ob_))
    have hd : d_polygon_ShortestEdge vs = 0 := by first | with_reducible rfl | (unfold d_polygon_ShortestEdge; exact hd_)
    try rw [hd]
    try simp only [go_sem, ite_andP, ite_orP, dec_true, dec_false]
    all_goals exact fin_
  · first | rw [if_neg h2] | rw [if_neg (by simp_all)] | rw [if_neg (by omega)]
    (repeat (with_reducible refine And.intro ?_ ?_; focus exact ob_))
    refine Wpi_loop hm (ι := {i : Nat // i ≤ vs.length}) (fun i => [(0, .share, encD 2 Vec.enc default vs), (3, .share, .sc (.int .i64 (itr (d_polygon_ShortestEdge_L1 vs) i.1 536870911))), (9, .share, encD 2 Vec.enc default vs), (10, .share, .sc (.int .i64 (vs.length : Int))), (11, .share, .sc (.int .i64 (i.1 : Int)))]) (fun i => []) (fun i => vs.length - i.1) ⟨0, by omega⟩ ?_ ?_
    · refine weakE_ [] [] ?_
      simp only [go_sem, ite_andP, ite_orP, dec_true, dec_false, itr_zero]
      all_goals exact fin_
    · rintro ⟨i1, hi1⟩
      dsimp only
      generalize hs1 : itr (d_polygon_ShortestEdge_L1 vs) i1 536870911 = s1
      simp only [c_polygon_ShortestEdgeb0, go_sem, ite_andP, ite_orP, dec_true, dec_false]
      (repeat (with_reducible refine And.intro ?_ ?_; focus exact ob_))
      by_cases h3 : (i1 : Int) < (vs.length : Int)
      · first | rw [if_pos h3] | rw [if_pos (by simp_all)] | rw [if_pos (by omega)]
        have hlt1 : i1 < vs.length := by first | omega | (simp only [IntKind.wrap_i64] at h3; omega)
        (repeat (with_reducible refine And.intro ?_ ?_; focus exact ob_))
        refine CallGi_flat (s_vec2_Sub (vs.getD ((IntKind.i64.wrap ((i1 : Int) + 1)).tmod (vs.length : Int)).toNat default) (vs.getD i1 default) ) rfl ?_
        generalize hv2 : (subV (vs.getD ((IntKind.i64.wrap ((i1 : Int) + 1)).tmod (vs.length : Int)).toNat default) (vs.getD i1 default)) = v2
        simp only [go_sem, ite_andP, ite_orP, dec_true, dec_false]
        (repeat (with_reducible refine And.intro ?_ ?_; focus exact ob_))
        refine CallGi_flat (s_vec2_Length v2 ) rfl ?_
        generalize hv3 : (lenV v2) = v3
        simp only [go_sem, ite_andP, ite_orP, dec_true, dec_false]
        (repeat (with_reducible refine And.intro ?_ ?_; focus exact ob_))
        have hn : itr (d_polygon_ShortestEdge_L1 vs) (i1 + 1) 536870911 = (if v3 < s1 then v3 else s1) := by rw [itr_succ, hs1]; first | with_reducible rfl | (unfold d_polygon_ShortestEdge_L1; exact hd_)
        refine loop_next ⟨i1 + 1, by omega⟩ (by show vs.length - (i1 + 1) < vs.length - i1; omega) (weakE_ [] [] ?_)
        simp only [go_sem, ite_andP, ite_orP, dec_true, dec_false, hn]
        all_goals exact fin_
      · first | rw [if_neg h3] | rw [if_neg (by simp_all)] | rw [if_neg (by omega)]
        (repeat (with_reducible refine And.intro ?_ ?_; focus exact ob_))
        have hge : i1 = vs.length := by first | omega | (simp only [IntKind.wrap_i64] at h3; omega)
        subst hge
        have hd : d_polygon_ShortestEdge vs = s1 := by first | with_reducible rfl | (unfold d_polygon_ShortestEdge; exact hd_)
        try rw [hd]
        try simp only [go_sem, ite_andP, ite_orP, dec_true, dec_false]
        all_goals exact fin_

structure polygon_triangle where
  e : Vec
  f : Vec
  cross : Int
  deriving DecidableEq, Inhabited
def polygon_triangle.enc (x : polygon_triangle) : List AV :=
  [.sc (.int .i64 x.e.X), .sc (.int .i64 x.e.Y), .sc (.int .i64 x.f.X), .sc (.int .i64 x.f.Y), .sc (.int .i64 x.cross)]
def polygon_triangle.zero : List AV := [.sc (.int .i64 0), .sc (.int .i64 0), .sc (.int .i64 0), .sc (.int .i64 0), .sc (.int .i64 0)]
attribute [go_sem] polygon_triangle.enc polygon_triangle.zero
def d_polygon_fan_L1 (vs : List Vec) (i1 : Nat) (s1 : (List polygon_triangle) × Int) : (List polygon_triangle) × Int := let v1 := (rdiv (IntKind.i64.wrap ((IntKind.i64.wrap ((IntKind.i64.wrap ((vs.getD (i1 + 1) default).X - (vs.getD 0 default).X)) * (IntKind.i64.wrap ((vs.getD (IntKind.i64.wrap (((i1 + 1 : Nat) : Int) + 1)).toNat default).Y - (vs.getD 0 default).Y)))) - (IntKind.i64.wrap ((IntKind.i64.wrap ((vs.getD (i1 + 1) default).Y - (vs.getD 0 default).Y)) * (IntKind.i64.wrap ((vs.getD (IntKind.i64.wrap (((i1 + 1 : Nat) : Int) + 1)).toNat default).X - (vs.getD 0 default).X)))))) 65536); ((s1.1 ++ [(⟨(⟨(IntKind.i64.wrap ((vs.getD (i1 + 1) default).X - (vs.getD 0 default).X)), (IntKind.i64.wrap ((vs.getD (i1 + 1) default).Y - (vs.getD 0 default).Y))⟩ : Vec), (⟨(IntKind.i64.wrap ((vs.getD (IntKind.i64.wrap (((i1 + 1 : Nat) : Int) + 1)).toNat default).X - (vs.getD 0 default).X)), (IntKind.i64.wrap ((vs.getD (IntKind.i64.wrap (((i1 + 1 : Nat) : Int) + 1)).toNat default).Y - (vs.getD 0 default).Y))⟩ : Vec), v1⟩ : polygon_triangle)]), (IntKind.i64.wrap (s1.2 + v1)))
def d_polygon_fan (vs : List Vec) : (List polygon_triangle) × Int := let s1 := itr (d_polygon_fan_L1 vs) (vs.length - 2) ([], 0); (s1.1, s1.2)
set_option maxHeartbeats 200000 in
theorem s_polygon_fan (vs : List Vec) (hn : vs.length ≤ 1048576) (h0 : 1 ≤ vs.length) : CallsA Tryz.prog F_polygon_fan [encD 2 Vec.enc default vs] [] (.tup [encD 5 polygon_triangle.enc default (d_polygon_fan vs).1, .sc (.int .i64 (d_polygon_fan vs).2)]) [] := by
  refine callsI_of (rs := [_, _]) hm Tryz.func320 (by kernel_rfl) (by kernel_rfl) is_polygon_fan (by kernel_rfl : tmpsOf Tryz.f320.results.toList = some [2, 3]) (by decide) (by kernel_rfl) ?_
  simp only [c_polygon_fan, go_sem, ite_andP, ite_orP, dec_true, dec_false]
  (repeat (with_reducible refine And.intro ?_ ?_; focus exact ob_))
  refine Wpi_loop hm (ι := {i : Nat // i ≤ (vs.length - 2)}) (fun i => [(0, .share, encD 2 Vec.enc default vs), (4, if i.1 = 0 then .adopt else .share, .sl 1004 0 (itr (d_polygon_fan_L1 vs) i.1 ([], 0)).1.length (itr (d_polygon_fan_L1 vs) i.1 ([], 0)).1.length), (5, .share, .sc (.int .i64 (itr (d_polygon_fan_L1 vs) i.1 ([], 0)).2)), (6, .share, .ptr 112 0 0 1), (7, .share, .sc (.int .i64 ((i.1 + 1 : Nat) : Int)))]) (fun i => [(1004, .arr 5 (encQ polygon_triangle.enc default (itr (d_polygon_fan_L1 vs) i.1 ([], 0)).1)), (112, .box [.sc (.int .i64 (vs.getD 0 default).X), .sc (.int .i64 (vs.getD 0 default).Y)])]) (fun i => (vs.length - 2) - i.1) ⟨0, by omega⟩ ?_ ?_
  · refine weakE_ [] [1004] ?_
    simp only [go_sem, ite_andP, ite_orP, dec_true, dec_false, itr_zero]
    all_goals exact fin_
  · rintro ⟨i1, hi1⟩
    dsimp only
    generalize hs1 : itr (d_polygon_fan_L1 vs) i1 ([], 0) = s1
    have hl1_0 : (s1.1).length ≤ ((([], 0) : (List polygon_triangle) × Int).1).length + 1 * i1 := by rw [← hs1]; exact itr_len (fun s : (List polygon_triangle) × Int => (s.1).length) 1 (fun i s => by (unfold d_polygon_fan_L1; (repeat' split) <;> simp <;> omega)) i1 _
    dsimp only [List.length_nil] at hl1_0
    simp only [c_polygon_fanb0, go_sem, ite_andP, ite_orP, dec_true, dec_false]
    (repeat (with_reducible refine And.intro ?_ ?_; focus exact ob_))
    by_cases h1 : (IntKind.i64.wrap (((i1 + 1 : Nat) : Int) + 1)) < (vs.length : Int)
    · first | rw [if_pos h1] | rw [if_pos (by simp_all)] | rw [if_pos (by omega)]
      have hlt1 : i1 < (vs.length - 2) := by first | omega | (simp only [IntKind.wrap_i64] at h1; omega)
      (repeat (with_reducible refine And.intro ?_ ?_; focus exact ob_))
      refine CallGi_flat (s_fixed_RoundDiv (IntKind.i64.wrap ((IntKind.i64.wrap ((IntKind.i64.wrap ((vs.getD (i1 + 1) default).X - (vs.getD 0 default).X)) * (IntKind.i64.wrap ((vs.getD (IntKind.i64.wrap (((i1 + 1 : Nat) : Int) + 1)).toNat default).Y - (vs.getD 0 default).Y)))) - (IntKind.i64.wrap ((IntKind.i64.wrap ((vs.getD (i1 + 1) default).Y - (vs.getD 0 default).Y)) * (IntKind.i64.wrap ((vs.getD (IntKind.i64.wrap (((i1 + 1 : Nat) : Int) + 1)).toNat default).X - (vs.getD 0 default).X)))))) 65536 ) rfl ?_
      generalize hv1 : (rdiv (IntKind.i64.wrap ((IntKind.i64.wrap ((IntKind.i64.wrap ((vs.getD (i1 + 1) default).X - (vs.getD 0 default).X)) * (IntKind.i64.wrap ((vs.getD (IntKind.i64.wrap (((i1 + 1 : Nat) : Int) + 1)).toNat default).Y - (vs.getD 0 default).Y)))) - (IntKind.i64.wrap ((IntKind.i64.wrap ((vs.getD (i1 + 1) default).Y - (vs.getD 0 default).Y)) * (IntKind.i64.wrap ((vs.getD (IntKind.i64.wrap (((i1 + 1 : Nat) : Int) + 1)).toNat default).X - (vs.getD 0 default).X)))))) 65536) = v1
      simp only [go_sem, ite_andP, ite_orP, dec_true, dec_false]
      (repeat (with_reducible refine And.intro ?_ ?_; focus exact ob_))
      have hn : itr (d_polygon_fan_L1 vs) (i1 + 1) ([], 0) = ((s1.1 ++ [(⟨(⟨(IntKind.i64.wrap ((vs.getD (i1 + 1) default).X - (vs.getD 0 default).X)), (IntKind.i64.wrap ((vs.getD (i1 + 1) default).Y - (vs.getD 0 default).Y))⟩ : Vec), (⟨(IntKind.i64.wrap ((vs.getD (IntKind.i64.wrap (((i1 + 1 : Nat) : Int) + 1)).toNat default).X - (vs.getD 0 default).X)), (IntKind.i64.wrap ((vs.getD (IntKind.i64.wrap (((i1 + 1 : Nat) : Int) + 1)).toNat default).Y - (vs.getD 0 default).Y))⟩ : Vec), v1⟩ : polygon_triangle)]), (IntKind.i64.wrap (s1.2 + v1))) := by rw [itr_succ, hs1]; first | with_reducible rfl | (unfold d_polygon_fan_L1; exact hd_)
      refine loop_next ⟨i1 + 1, by omega⟩ (by show (vs.length - 2) - (i1 + 1) < (vs.length - 2) - i1; omega) (weakE_ [] [] ?_)
      simp only [go_sem, ite_andP, ite_orP, dec_true, dec_false, hn]
      all_goals ((try dsimp only); (repeat' (with_reducible apply And.intro)) <;> first | exact q_app1 ((⟨(⟨(IntKind.i64.wrap ((vs.getD (i1 + 1) default).X - (vs.getD 0 default).X)), (IntKind.i64.wrap ((vs.getD (i1 + 1) default).Y - (vs.getD 0 default).Y))⟩ : Vec), (⟨(IntKind.i64.wrap ((vs.getD (IntKind.i64.wrap (((i1 + 1 : Nat) : Int) + 1)).toNat default).X - (vs.getD 0 default).X)), (IntKind.i64.wrap ((vs.getD (IntKind.i64.wrap (((i1 + 1 : Nat) : Int) + 1)).toNat default).Y - (vs.getD 0 default).Y))⟩ : Vec), v1⟩ : polygon_triangle)) rfl rfl | exact fin_)
    · first | rw [if_neg h1] | rw [if_neg (by simp_all)] | rw [if_neg (by omega)]
      (repeat (with_reducible refine And.intro ?_ ?_; focus exact ob_))
      have hge : i1 = (vs.length - 2) := by first | omega | (simp only [IntKind.wrap_i64] at h1; omega)
      subst hge
      have hd : d_polygon_fan vs = (s1.1, s1.2) := by first | with_reducible rfl | (unfold d_polygon_fan; exact hd_)
      try rw [hd]
      try simp only [go_sem, ite_andP, ite_orP, dec_true, dec_false]
      all_goals exact fin_

def d_polygon_Area (vs : List Vec) : Int := let v1 := (d_polygon_IsConvex vs); if v1 = false then (0) else (let v2 := (d_polygon_fan vs); let v3 := (rdiv v2.2 2); v3)
set_option maxHeartbeats 200000 in
theorem s_polygon_Area (vs : List Vec) (hn : vs.length ≤ 1048576) : CallsA Tryz.prog F_polygon_Area [encD 2 Vec.enc default vs] [] (.sc (.int .i64 (d_polygon_Area vs))) [] := by
  refine callsI_of (rs := [_]) hm Tryz.func303 (by kernel_rfl) (by kernel_rfl) is_polygon_Area (by kernel_rfl : tmpsOf Tryz.f303.results.toList = some [2]) (by decide) (by kernel_rfl) ?_
  simp only [c_polygon_Area, go_sem, ite_andP, ite_orP, dec_true, dec_false]
  (repeat (with_reducible refine And.intro ?_ ?_; focus exact ob_))
  have p1 := convex_len vs
  refine CallGi_flat (s_polygon_IsConvex vs (by (first | assumption | omega | (simp_all; done) | (simp_all; omega)))) rfl ?_
  generalize hv1 : (d_polygon_IsConvex vs) = v1 at *
  simp only [go_sem, ite_andP, ite_orP, dec_true, dec_false]
  (repeat (with_reducible refine And.intro ?_ ?_; focus exact ob_))
  by_cases h2 : v1 = false
  · first | rw [if_pos h2] | rw [if_pos (by simp_all)] | rw [if_pos (by omega)]
    (repeat (with_reducible refine And.intro ?_ ?_; focus exact ob_))
    have hd : d_polygon_Area vs = 0 := by first | with_reducible rfl | (unfold d_polygon_Area; exact hd_)
    try rw [hd]
    try simp only [go_sem, ite_andP, ite_orP, dec_true, dec_false]
    all_goals exact fin_
  · first | rw [if_neg h2] | rw [if_neg (by simp_all)] | rw [if_neg (by omega)]
    (repeat (with_reducible refine And.intro ?_ ?_; focus exact ob_))
    refine CallGi_flat (s_polygon_fan vs (by (first | assumption | omega | (simp_all; done) | (simp_all; omega))) (by (first | assumption | omega | (simp_all; done) | (simp_all; omega)))) rfl ?_
    generalize hv2 : (d_polygon_fan vs) = v2
    simp only [go_sem, ite_andP, ite_orP, dec_true, dec_false]
    (repeat (with_reducible refine And.intro ?_ ?_; focus exact ob_))
    refine CallGi_flat (s_fixed_RoundDiv v2.2 2 ) rfl ?_
    generalize hv3 : (rdiv v2.2 2) = v3
    simp only [go_sem, ite_andP, ite_orP, dec_true, dec_false]
    (repeat (with_reducible refine And.intro ?_ ?_; focus exact ob_))
    have hd : d_polygon_Area vs = v3 := by first | with_reducible rfl | (unfold d_polygon_Area; exact hd_)
    try rw [hd]
    try simp only [go_sem, ite_andP, ite_orP, dec_true, dec_false]
    all_goals exact fin_


end Go.Abs
