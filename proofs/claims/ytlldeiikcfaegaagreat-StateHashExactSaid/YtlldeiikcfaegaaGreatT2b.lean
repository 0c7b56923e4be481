/- A part of the walk: contracts of functions that the statement reaches. -/
import Derived.Test.YtlldeiikcfaegaaGreatAbsC
import Derived.Test.YtlldeiikcfaegaaGreatT1
set_option linter.unusedSimpArgs false
set_option linter.unusedVariables false
set_option linter.unnecessarySimpa false
set_option maxRecDepth 100000
set_option maxHeartbeats 2000000
set_option linter.unusedSimpArgs false
set_option linter.unusedVariables false
namespace Go.Abs
open Go.Proofs
open Api
def d_r11_IsConvex_L3 (vs : List Vec) (i2 : Nat) (i3 : Nat) (s3 : Unit) : (Unit) ⊕ (Bool) := let v2 := (ori (vs.getD i2 default) (vs.getD ((IntKind.i64.wrap ((i2 : Int) + 1)).tmod (vs.length : Int)).toNat default) (vs.getD i3 default)); if ((((i3 : Int) != (i2 : Int)) && ((i3 : Int) != ((IntKind.i64.wrap ((i2 : Int) + 1)).tmod (vs.length : Int)))) && (v2 != 1)) = true then (.inr false) else (.inl ())
def d_r11_IsConvex_L2 (vs : List Vec) (i2 : Nat) (s2 : Unit) : (Unit) ⊕ (Bool) := (match itrE (d_r11_IsConvex_L3 vs i2) vs.length () with | .inr r => .inr r | .inl s3 => .inl ())
def d_r11_IsConvex_L1 (vs : List Vec) (i1 : Nat) (s1 : Unit) : (Unit) ⊕ (Bool) := let v1 := (reachB (vs.getD i1 default)); if v1 = false then (.inr false) else (.inl ())
def d_r11_IsConvex (vs : List Vec) : Bool := if ((decide ((vs.length : Int) < 3)) || (decide (8 < (vs.length : Int)))) = true then (false) else ((match itrE (d_r11_IsConvex_L1 vs) vs.length () with | .inr r => r | .inl s1 => (match itrE (d_r11_IsConvex_L2 vs) vs.length () with | .inr r => r | .inl s2 => true)))
set_option maxHeartbeats 200000 in
theorem s_r11_IsConvex (vs : List Vec) (hn : vs.length ≤ 1048576) : CallsA Tryz.prog F_r11_IsConvex [encD 2 Vec.enc default vs] [] (.sc (.bool (d_r11_IsConvex vs))) [] := by
  refine callsI_of (rs := [_]) hm Tryz.func326 (by kernel_rfl) (by kernel_rfl) is_r11_IsConvex (by kernel_rfl : tmpsOf Tryz.f326.results.toList = some [2]) (by decide) (by kernel_rfl) ?_
  simp only [c_r11_IsConvex, go_sem, ite_andP, ite_orP, dec_true, dec_false]
  (repeat (with_reducible refine And.intro ?_ ?_; focus exact ob_))
  by_cases h1 : ((decide ((vs.length : Int) < 3)) || (decide (8 < (vs.length : Int)))) = true
  · first | rw [if_pos h1] | rw [if_pos (by simp_all)] | rw [if_pos (by omega)]
    (repeat (with_reducible refine And.intro ?_ ?_; focus exact ob_))
    have hd : d_r11_IsConvex vs = false := by first | with_reducible rfl | (unfold d_r11_IsConvex; exact hd_)
    try rw [hd]
    try simp only [go_sem, ite_andP, ite_orP, dec_true, dec_false]
    all_goals exact fin_
  · first | rw [if_neg h1] | rw [if_neg (by simp_all)] | rw [if_neg (by omega)]
    (repeat (with_reducible refine And.intro ?_ ?_; focus exact ob_))
    refine Wpi_loop hm (ι := {p : Nat × Unit // p.1 ≤ vs.length ∧ itrE (d_r11_IsConvex_L1 vs) p.1 () = .inl p.2}) (fun i => [(0, .share, encD 2 Vec.enc default vs), (3, .share, .sc (.int .i64 (vs.length : Int))), (4, .share, .sc (.int .i64 (i.1.1 : Int)))]) (fun i => []) (fun i => vs.length - i.1.1) ⟨(0, ()), by omega, rfl⟩ ?_ ?_
    · refine weakE_ [] [] ?_
      simp only [go_sem, ite_andP, ite_orP, dec_true, dec_false, itr_zero]
      all_goals exact fin_
    · rintro ⟨⟨i1, s1⟩, hi1, hs1⟩
      replace hi1 : i1 ≤ vs.length := hi1
      replace hs1 : itrE (d_r11_IsConvex_L1 vs) i1 () = .inl s1 := hs1
      simp only [c_r11_IsConvexb0, go_sem, ite_andP, ite_orP, dec_true, dec_false]
      (repeat (with_reducible refine And.intro ?_ ?_; focus exact ob_))
      by_cases h2 : (i1 : Int) < (vs.length : Int)
      · first | rw [if_pos h2] | rw [if_pos (by simp_all)] | rw [if_pos (by omega)]
        have hlt1 : i1 < vs.length := by first | omega | (simp only [IntKind.wrap_i64] at h2; omega)
        (repeat (with_reducible refine And.intro ?_ ?_; focus exact ob_))
        refine CallGi_flat (s_r11_inRange (vs.getD i1 default) ) rfl ?_
        generalize hv1 : (reachB (vs.getD i1 default)) = v1
        simp only [go_sem, ite_andP, ite_orP, dec_true, dec_false]
        (repeat (with_reducible refine And.intro ?_ ?_; focus exact ob_))
        by_cases h3 : v1 = false
        · first | rw [if_pos h3] | rw [if_pos (by simp_all)] | rw [if_pos (by omega)]
          (repeat (with_reducible refine And.intro ?_ ?_; focus exact ob_))
          have e1 : itrE (d_r11_IsConvex_L1 vs) (i1 + 1) () = .inr false := itrE_inl hs1 (by first | with_reducible rfl | (unfold d_r11_IsConvex_L1; exact hd_))
          replace e1 := itrE_stop e1 (show i1 + 1 ≤ vs.length by omega)
          have hd : d_r11_IsConvex vs = false := by first | with_reducible rfl | (unfold d_r11_IsConvex; exact hd_)
          try rw [hd]
          try simp only [go_sem, ite_andP, ite_orP, dec_true, dec_false]
          all_goals exact fin_
        · first | rw [if_neg h3] | rw [if_neg (by simp_all)] | rw [if_neg (by omega)]
          (repeat (with_reducible refine And.intro ?_ ?_; focus exact ob_))
          have hn : itrE (d_r11_IsConvex_L1 vs) (i1 + 1) () = .inl () := itrE_inl hs1 (by first | with_reducible rfl | (unfold d_r11_IsConvex_L1; exact hd_))
          refine loop_next ⟨(i1 + 1, ()), by omega, hn⟩ (by show vs.length - (i1 + 1) < vs.length - i1; omega) (weakE_ [] [] ?_)
          simp only [go_sem, ite_andP, ite_orP, dec_true, dec_false]
          all_goals exact fin_
      · first | rw [if_neg h2] | rw [if_neg (by simp_all)] | rw [if_neg (by omega)]
        (repeat (with_reducible refine And.intro ?_ ?_; focus exact ob_))
        have hge : i1 = vs.length := by first | omega | (simp only [IntKind.wrap_i64] at h2; omega)
        subst hge
        refine Wpi_loop hm (ι := {p : Nat × Unit // p.1 ≤ vs.length ∧ itrE (d_r11_IsConvex_L2 vs) p.1 () = .inl p.2}) (fun i => [(0, .share, encD 2 Vec.enc default vs), (3, .share, .sc (.int .i64 (vs.length : Int))), (5, .share, .sc (.int .i64 (i.1.1 : Int)))]) (fun i => []) (fun i => vs.length - i.1.1) ⟨(0, ()), by omega, rfl⟩ ?_ ?_
        · refine weakE_ [] [] ?_
          simp only [go_sem, ite_andP, ite_orP, dec_true, dec_false, itr_zero]
          all_goals exact fin_
        · rintro ⟨⟨i2, s2⟩, hi2, hs2⟩
          replace hi2 : i2 ≤ vs.length := hi2
          replace hs2 : itrE (d_r11_IsConvex_L2 vs) i2 () = .inl s2 := hs2
          simp only [c_r11_IsConvexb2, go_sem, ite_andP, ite_orP, dec_true, dec_false]
          (repeat (with_reducible refine And.intro ?_ ?_; focus exact ob_))
          by_cases h4 : (i2 : Int) < (vs.length : Int)
          · first | rw [if_pos h4] | rw [if_pos (by simp_all)] | rw [if_pos (by omega)]
            have hlt2 : i2 < vs.length := by first | omega | (simp only [IntKind.wrap_i64] at h4; omega)
            (repeat (with_reducible refine And.intro ?_ ?_; focus exact ob_))
            refine Wpi_loop hm (ι := {p : Nat × Unit // p.1 ≤ vs.length ∧ itrE (d_r11_IsConvex_L3 vs i2) p.1 () = .inl p.2}) (fun i => [(0, .share, encD 2 Vec.enc default vs), (3, .share, .sc (.int .i64 (vs.length : Int))), (5, .share, .sc (.int .i64 (i2 : Int))), (6, .share, .sc (.int .i64 ((IntKind.i64.wrap ((i2 : Int) + 1)).tmod (vs.length : Int)))), (7, .share, .sc (.int .i64 (i.1.1 : Int)))]) (fun i => []) (fun i => vs.length - i.1.1) ⟨(0, ()), by omega, rfl⟩ ?_ ?_
            · refine weakE_ [] [] ?_
              simp only [go_sem, ite_andP, ite_orP, dec_true, dec_false, itr_zero]
              all_goals exact fin_
            · rintro ⟨⟨i3, s3⟩, hi3, hs3⟩
              replace hi3 : i3 ≤ vs.length := hi3
              replace hs3 : itrE (d_r11_IsConvex_L3 vs i2) i3 () = .inl s3 := hs3
              simp only [c_r11_IsConvexb1, go_sem, ite_andP, ite_orP, dec_true, dec_false]
              (repeat (with_reducible refine And.intro ?_ ?_; focus exact ob_))
              by_cases h5 : (i3 : Int) < (vs.length : Int)
              · first | rw [if_pos h5] | rw [if_pos (by simp_all)] | rw [if_pos (by omega)]
                have hlt3 : i3 < vs.length := by first | omega | (simp only [IntKind.wrap_i64] at h5; omega)
                (repeat (with_reducible refine And.intro ?_ ?_; focus exact ob_))
                refine CallGi_flat (s_r03_Orientation (vs.getD i2 default) (vs.getD ((IntKind.i64.wrap ((i2 : Int) + 1)).tmod (vs.length : Int)).toNat default) (vs.getD i3 default) ) rfl ?_
                generalize hv2 : (ori (vs.getD i2 default) (vs.getD ((IntKind.i64.wrap ((i2 : Int) + 1)).tmod (vs.length : Int)).toNat default) (vs.getD i3 default)) = v2
                simp only [go_sem, ite_andP, ite_orP, dec_true, dec_false]
                (repeat (with_reducible refine And.intro ?_ ?_; focus exact ob_))
                by_cases h6 : ((((i3 : Int) != (i2 : Int)) && ((i3 : Int) != ((IntKind.i64.wrap ((i2 : Int) + 1)).tmod (vs.length : Int)))) && (v2 != 1)) = true
                · first | rw [if_pos h6] | rw [if_pos (by simp_all)] | rw [if_pos (by omega)]
                  (repeat (with_reducible refine And.intro ?_ ?_; focus exact ob_))
                  have e3 : itrE (d_r11_IsConvex_L3 vs i2) (i3 + 1) () = .inr false := itrE_inl hs3 (by first | with_reducible rfl | (unfold d_r11_IsConvex_L3; exact hd_))
                  replace e3 := itrE_stop e3 (show i3 + 1 ≤ vs.length by omega)
                  have e2 : itrE (d_r11_IsConvex_L2 vs) (i2 + 1) () = .inr false := itrE_inl hs2 (by first | with_reducible rfl | (unfold d_r11_IsConvex_L2; exact hd_))
                  replace e2 := itrE_stop e2 (show i2 + 1 ≤ vs.length by omega)
                  have hd : d_r11_IsConvex vs = false := by first | with_reducible rfl | (unfold d_r11_IsConvex; exact hd_)
                  try rw [hd]
                  try simp only [go_sem, ite_andP, ite_orP, dec_true, dec_false]
                  all_goals exact fin_
                · first | rw [if_neg h6] | rw [if_neg (by simp_all)] | rw [if_neg (by omega)]
                  (repeat (with_reducible refine And.intro ?_ ?_; focus exact ob_))
                  have hn : itrE (d_r11_IsConvex_L3 vs i2) (i3 + 1) () = .inl () := itrE_inl hs3 (by first | with_reducible rfl | (unfold d_r11_IsConvex_L3; exact hd_))
                  refine loop_next ⟨(i3 + 1, ()), by omega, hn⟩ (by show vs.length - (i3 + 1) < vs.length - i3; omega) (weakE_ [] [] ?_)
                  simp only [go_sem, ite_andP, ite_orP, dec_true, dec_false]
                  all_goals exact fin_
              · first | rw [if_neg h5] | rw [if_neg (by simp_all)] | rw [if_neg (by omega)]
                (repeat (with_reducible refine And.intro ?_ ?_; focus exact ob_))
                have hge : i3 = vs.length := by first | omega | (simp only [IntKind.wrap_i64] at h5; omega)
                subst hge
                have hn : itrE (d_r11_IsConvex_L2 vs) (i2 + 1) () = .inl () := itrE_inl hs2 (by first | with_reducible rfl | (unfold d_r11_IsConvex_L2; exact hd_))
                refine loop_next ⟨(i2 + 1, ()), by omega, hn⟩ (by show vs.length - (i2 + 1) < vs.length - i2; omega) (weakE_ [] [] ?_)
                simp only [go_sem, ite_andP, ite_orP, dec_true, dec_false]
                all_goals exact fin_
          · first | rw [if_neg h4] | rw [if_neg (by simp_all)] | rw [if_neg (by omega)]
            (repeat (with_reducible refine And.intro ?_ ?_; focus exact ob_))
            have hge : i2 = vs.length := by first | omega | (simp only [IntKind.wrap_i64] at h4; omega)
            subst hge
            have hd : d_r11_IsConvex vs = true := by first | with_reducible rfl | (unfold d_r11_IsConvex; exact hd_)
            try rw [hd]
            try simp only [go_sem, ite_andP, ite_orP, dec_true, dec_false]
            all_goals exact fin_

def d_r11_ShortestEdge_L1 (vs : List Vec) (i1 : Nat) (s1 : Int) : Int := let v2 := (subV (vs.getD ((IntKind.i64.wrap ((i1 : Int) + 1)).tmod (vs.length : Int)).toNat default) (vs.getD i1 default)); let v3 := (lenV v2); if ((decide (s1 < 0)) || (decide (v3 < s1))) = true then (v3) else (s1)
def d_r11_ShortestEdge (vs : List Vec) : Int := let v1 := (d_r11_IsConvex vs); if v1 = false then (0) else (let s1 := itr (d_r11_ShortestEdge_L1 vs) vs.length (-1); s1)
set_option maxHeartbeats 200000 in
theorem s_r11_ShortestEdge (vs : List Vec) (hn : vs.length ≤ 1048576) : CallsA Tryz.prog F_r11_ShortestEdge [encD 2 Vec.enc default vs] [] (.sc (.int .i64 (d_r11_ShortestEdge vs))) [] := by
  refine callsI_of (rs := [_]) hm Tryz.func327 (by kernel_rfl) (by kernel_rfl) is_r11_ShortestEdge (by kernel_rfl : tmpsOf Tryz.f327.results.toList = some [2]) (by decide) (by kernel_rfl) ?_
  simp only [c_r11_ShortestEdge, go_sem, ite_andP, ite_orP, dec_true, dec_false]
  (repeat (with_reducible refine And.intro ?_ ?_; focus exact ob_))
  refine CallGi_flat (s_r11_IsConvex vs (by (first | assumption | omega | (simp_all; done) | (simp_all; omega)))) rfl ?_
  generalize hv1 : (d_r11_IsConvex vs) = v1
  simp only [go_sem, ite_andP, ite_orP, dec_true, dec_false]
  (repeat (with_reducible refine And.intro ?_ ?_; focus exact ob_))
  by_cases h1 : v1 = false
  · first | rw [if_pos h1] | rw [if_pos (by simp_all)] | rw [if_pos (by omega)]
    (repeat (with_reducible refine And.intro ?_ ?_; focus exact ob_))
    have hd : d_r11_ShortestEdge vs = 0 := by first | with_reducible rfl | (unfold d_r11_ShortestEdge; exact hd_)
    try rw [hd]
    try simp only [go_sem, ite_andP, ite_orP, dec_true, dec_false]
    all_goals exact fin_
  · first | rw [if_neg h1] | rw [if_neg (by simp_all)] | rw [if_neg (by omega)]
    (repeat (with_reducible refine And.intro ?_ ?_; focus exact ob_))
    refine Wpi_loop hm (ι := {i : Nat // i ≤ vs.length}) (fun i => [(0, .share, encD 2 Vec.enc default vs), (3, .share, .sc (.int .i64 (itr (d_r11_ShortestEdge_L1 vs) i.1 (-1)))), (4, .share, .sc (.int .i64 (i.1 : Int)))]) (fun i => []) (fun i => vs.length - i.1) ⟨0, by omega⟩ ?_ ?_
    · refine weakE_ [] [] ?_
      simp only [go_sem, ite_andP, ite_orP, dec_true, dec_false, itr_zero]
      all_goals exact fin_
    · rintro ⟨i1, hi1⟩
      dsimp only
      generalize hs1 : itr (d_r11_ShortestEdge_L1 vs) i1 (-1) = s1
      simp only [c_r11_ShortestEdgeb0, go_sem, ite_andP, ite_orP, dec_true, dec_false]
      (repeat (with_reducible refine And.intro ?_ ?_; focus exact ob_))
      by_cases h2 : (i1 : Int) < (vs.length : Int)
      · first | rw [if_pos h2] | rw [if_pos (by simp_all)] | rw [if_pos (by omega)]
        have hlt1 : i1 < vs.length := by first | omega | (simp only [IntKind.wrap_i64] at h2; omega)
        (repeat (with_reducible refine And.intro ?_ ?_; focus exact ob_))
        refine CallGi_flat (s_r03_Sub (vs.getD ((IntKind.i64.wrap ((i1 : Int) + 1)).tmod (vs.length : Int)).toNat default) (vs.getD i1 default) ) rfl ?_
        generalize hv2 : (subV (vs.getD ((IntKind.i64.wrap ((i1 : Int) + 1)).tmod (vs.length : Int)).toNat default) (vs.getD i1 default)) = v2
        simp only [go_sem, ite_andP, ite_orP, dec_true, dec_false]
        (repeat (with_reducible refine And.intro ?_ ?_; focus exact ob_))
        refine CallGi_flat (s_r03_Length v2 ) rfl ?_
        generalize hv3 : (lenV v2) = v3
        simp only [go_sem, ite_andP, ite_orP, dec_true, dec_false]
        (repeat (with_reducible refine And.intro ?_ ?_; focus exact ob_))
        by_cases h3 : ((decide (s1 < 0)) || (decide (v3 < s1))) = true
        · first | rw [if_pos h3] | rw [if_pos (by simp_all)] | rw [if_pos (by omega)]
          (repeat (with_reducible refine And.intro ?_ ?_; focus exact ob_))
          have hn : itr (d_r11_ShortestEdge_L1 vs) (i1 + 1) (-1) = v3 := by rw [itr_succ, hs1]; first | with_reducible rfl | (unfold d_r11_ShortestEdge_L1; exact hd_)
          refine loop_next ⟨i1 + 1, by omega⟩ (by show vs.length - (i1 + 1) < vs.length - i1; omega) (weakE_ [] [] ?_)
          simp only [go_sem, ite_andP, ite_orP, dec_true, dec_false, hn]
          all_goals exact fin_
        · first | rw [if_neg h3] | rw [if_neg (by simp_all)] | rw [if_neg (by omega)]
          (repeat (with_reducible refine And.intro ?_ ?_; focus exact ob_))
          have hn : itr (d_r11_ShortestEdge_L1 vs) (i1 + 1) (-1) = s1 := by rw [itr_succ, hs1]; first | with_reducible rfl | (unfold d_r11_ShortestEdge_L1; exact hd_)
          refine loop_next ⟨i1 + 1, by omega⟩ (by show vs.length - (i1 + 1) < vs.length - i1; omega) (weakE_ [] [] ?_)
          simp only [go_sem, ite_andP, ite_orP, dec_true, dec_false, hn]
          all_goals exact fin_
      · first | rw [if_neg h2] | rw [if_neg (by simp_all)] | rw [if_neg (by omega)]
        (repeat (with_reducible refine And.intro ?_ ?_; focus exact ob_))
        have hge : i1 = vs.length := by first | omega | (simp only [IntKind.wrap_i64] at h2; omega)
        subst hge
        have hd : d_r11_ShortestEdge vs = s1 := by first | with_reducible rfl | (unfold d_r11_ShortestEdge; exact hd_)
        try rw [hd]
        try simp only [go_sem, ite_andP, ite_orP, dec_true, dec_false]
        all_goals exact fin_

def d_r11_cross (vs : List Vec) (i : Int) : Int := let v1 := (rdiv (IntKind.i64.wrap ((IntKind.i64.wrap ((IntKind.i64.wrap ((vs.getD i.toNat default).X - (vs.getD 0 default).X)) * (IntKind.i64.wrap ((vs.getD (IntKind.i64.wrap (i + 1)).toNat default).Y - (vs.getD 0 default).Y)))) - (IntKind.i64.wrap ((IntKind.i64.wrap ((vs.getD i.toNat default).Y - (vs.getD 0 default).Y)) * (IntKind.i64.wrap ((vs.getD (IntKind.i64.wrap (i + 1)).toNat default).X - (vs.getD 0 default).X)))))) 65536); v1
set_option maxHeartbeats 200000 in
theorem s_r11_cross (vs : List Vec) (i : Int) (hn : vs.length ≤ 1048576) (h0 : 1 ≤ i) (h1 : i + 1 < (vs.length : Int)) : CallsA Tryz.prog F_r11_cross [encD 2 Vec.enc default vs, .sc (.int .i64 i)] [] (.sc (.int .i64 (d_r11_cross vs i))) [] := by
  refine callsI_of (rs := [_]) hm Tryz.func336 (by kernel_rfl) (by kernel_rfl) is_r11_cross (by kernel_rfl : tmpsOf Tryz.f336.results.toList = some [4]) (by decide) (by kernel_rfl) ?_
  simp only [c_r11_cross, go_sem, ite_andP, ite_orP, dec_true, dec_false]
  (repeat (with_reducible refine And.intro ?_ ?_; focus exact ob_))
  refine CallGi_flat (s_r01_RoundDiv (IntKind.i64.wrap ((IntKind.i64.wrap ((IntKind.i64.wrap ((vs.getD i.toNat default).X - (vs.getD 0 default).X)) * (IntKind.i64.wrap ((vs.getD (IntKind.i64.wrap (i + 1)).toNat default).Y - (vs.getD 0 default).Y)))) - (IntKind.i64.wrap ((IntKind.i64.wrap ((vs.getD i.toNat default).Y - (vs.getD 0 default).Y)) * (IntKind.i64.wrap ((vs.getD (IntKind.i64.wrap (i + 1)).toNat default).X - (vs.getD 0 default).X)))))) 65536 ) rfl ?_
  generalize hv1 : (rdiv (IntKind.i64.wrap ((IntKind.i64.wrap ((IntKind.i64.wrap ((vs.getD i.toNat default).X - (vs.getD 0 default).X)) * (IntKind.i64.wrap ((vs.getD (IntKind.i64.wrap (i + 1)).toNat default).Y - (vs.getD 0 default).Y)))) - (IntKind.i64.wrap ((IntKind.i64.wrap ((vs.getD i.toNat default).Y - (vs.getD 0 default).Y)) * (IntKind.i64.wrap ((vs.getD (IntKind.i64.wrap (i + 1)).toNat default).X - (vs.getD 0 default).X)))))) 65536) = v1
  simp only [go_sem, ite_andP, ite_orP, dec_true, dec_false]
  (repeat (with_reducible refine And.intro ?_ ?_; focus exact ob_))
  have hd : d_r11_cross vs i = v1 := by first | with_reducible rfl | (unfold d_r11_cross; exact hd_)
  try rw [hd]
  try simp only [go_sem, ite_andP, ite_orP, dec_true, dec_false]
  all_goals exact fin_

def d_r11_Area_L1 (vs : List Vec) (i1 : Nat) (s1 : Int) : Int := let v2 := (d_r11_cross vs ((i1 + 1 : Nat) : Int)); (IntKind.i64.wrap (s1 + v2))
def d_r11_Area (vs : List Vec) : Int := let v1 := (d_r11_IsConvex vs); if v1 = false then (0) else (let s1 := itr (d_r11_Area_L1 vs) (vs.length - 2) 0; let v3 := (rdiv s1 2); v3)
set_option maxHeartbeats 200000 in
theorem s_r11_Area (vs : List Vec) (hn : vs.length ≤ 1048576) : CallsA Tryz.prog F_r11_Area [encD 2 Vec.enc default vs] [] (.sc (.int .i64 (d_r11_Area vs))) [] := by
  refine callsI_of (rs := [_]) hm Tryz.func328 (by kernel_rfl) (by kernel_rfl) is_r11_Area (by kernel_rfl : tmpsOf Tryz.f328.results.toList = some [2]) (by decide) (by kernel_rfl) ?_
  simp only [c_r11_Area, go_sem, ite_andP, ite_orP, dec_true, dec_false]
  (repeat (with_reducible refine And.intro ?_ ?_; focus exact ob_))
  refine CallGi_flat (s_r11_IsConvex vs (by (first | assumption | omega | (simp_all; done) | (simp_all; omega)))) rfl ?_
  generalize hv1 : (d_r11_IsConvex vs) = v1
  simp only [go_sem, ite_andP, ite_orP, dec_true, dec_false]
  (repeat (with_reducible refine And.intro ?_ ?_; focus exact ob_))
  by_cases h1 : v1 = false
  · first | rw [if_pos h1] | rw [if_pos (by simp_all)] | rw [if_pos (by omega)]
    (repeat (with_reducible refine And.intro ?_ ?_; focus exact ob_))
    have hd : d_r11_Area vs = 0 := by first | with_reducible rfl | (unfold d_r11_Area; exact hd_)
    try rw [hd]
    try simp only [go_sem, ite_andP, ite_orP, dec_true, dec_false]
    all_goals exact fin_
  · first | rw [if_neg h1] | rw [if_neg (by simp_all)] | rw [if_neg (by omega)]
    (repeat (with_reducible refine And.intro ?_ ?_; focus exact ob_))
    refine Wpi_loop hm (ι := {i : Nat // i ≤ (vs.length - 2)}) (fun i => [(0, .share, encD 2 Vec.enc default vs), (3, .share, .sc (.int .i64 (itr (d_r11_Area_L1 vs) i.1 0))), (4, .share, .sc (.int .i64 ((i.1 + 1 : Nat) : Int)))]) (fun i => []) (fun i => (vs.length - 2) - i.1) ⟨0, by omega⟩ ?_ ?_
    · refine weakE_ [] [] ?_
      simp only [go_sem, ite_andP, ite_orP, dec_true, dec_false, itr_zero]
      all_goals exact fin_
    · rintro ⟨i1, hi1⟩
      dsimp only
      generalize hs1 : itr (d_r11_Area_L1 vs) i1 0 = s1
      simp only [c_r11_Areab0, go_sem, ite_andP, ite_orP, dec_true, dec_false]
      (repeat (with_reducible refine And.intro ?_ ?_; focus exact ob_))
      by_cases h2 : (IntKind.i64.wrap (((i1 + 1 : Nat) : Int) + 1)) < (vs.length : Int)
      · first | rw [if_pos h2] | rw [if_pos (by simp_all)] | rw [if_pos (by omega)]
        have hlt1 : i1 < (vs.length - 2) := by first | omega | (simp only [IntKind.wrap_i64] at h2; omega)
        (repeat (with_reducible refine And.intro ?_ ?_; focus exact ob_))
        refine CallGi_flat (s_r11_cross vs ((i1 + 1 : Nat) : Int) (by (first | assumption | omega | (simp_all; done) | (simp_all; omega))) (by (first | assumption | omega | (simp_all; done) | (simp_all; omega))) (by (first | assumption | omega | (simp_all; done) | (simp_all; omega)))) rfl ?_
        generalize hv2 : (d_r11_cross vs ((i1 + 1 : Nat) : Int)) = v2
        simp only [go_sem, ite_andP, ite_orP, dec_true, dec_false]
        (repeat (with_reducible refine And.intro ?_ ?_; focus exact ob_))
        have hn : itr (d_r11_Area_L1 vs) (i1 + 1) 0 = (IntKind.i64.wrap (s1 + v2)) := by rw [itr_succ, hs1]; first | with_reducible rfl | (unfold d_r11_Area_L1; exact hd_)
        refine loop_next ⟨i1 + 1, by omega⟩ (by show (vs.length - 2) - (i1 + 1) < (vs.length - 2) - i1; omega) (weakE_ [] [] ?_)
        simp only [go_sem, ite_andP, ite_orP, dec_true, dec_false, hn]
        all_goals exact fin_
      · first | rw [if_neg h2] | rw [if_neg (by simp_all)] | rw [if_neg (by omega)]
        (repeat (with_reducible refine And.intro ?_ ?_; focus exact ob_))
        have hge : i1 = (vs.length - 2) := by first | omega | (simp only [IntKind.wrap_i64] at h2; omega)
        subst hge
        refine CallGi_flat (s_r01_RoundDiv s1 2 ) rfl ?_
        generalize hv3 : (rdiv s1 2) = v3
        simp only [go_sem, ite_andP, ite_orP, dec_true, dec_false]
        (repeat (with_reducible refine And.intro ?_ ?_; focus exact ob_))
        have hd : d_r11_Area vs = v3 := by first | with_reducible rfl | (unfold d_r11_Area; exact hd_)
        try rw [hd]
        try simp only [go_sem, ite_andP, ite_orP, dec_true, dec_false]
        all_goals exact fin_


end Go.Abs
