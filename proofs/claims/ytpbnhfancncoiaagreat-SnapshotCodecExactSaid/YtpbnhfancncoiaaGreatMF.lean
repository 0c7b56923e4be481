/- A part of the proof: contracts of functions that the statement reaches. -/
import Derived.Test.YtpbnhfancncoiaaGreatME
set_option linter.unusedSimpArgs false
set_option linter.unusedVariables false
set_option linter.unnecessarySimpa false
set_option maxRecDepth 100000
set_option maxHeartbeats 2000000
section
namespace Go.Abs
open Go.Proofs
open Api
def d_r11_IsConvex_L3 (vs : List Vec) (i2 : Nat) (i3 : Nat) (s3 : Unit) : (Unit) ⊕ (Bool) := let v2 := (ori (vs.getD i2 default) (vs.getD ((IntKind.i64.wrap ((i2 : Int) + 1)).tmod (vs.length : Int)).toNat default) (vs.getD i3 default)); if ((((i3 : Int) != (i2 : Int)) && ((i3 : Int) != ((IntKind.i64.wrap ((i2 : Int) + 1)).tmod (vs.length : Int)))) && (v2 != 1)) = true then (.inr false) else (.inl ())
def d_r11_IsConvex_L2 (vs : List Vec) (i2 : Nat) (s2 : Unit) : (Unit) ⊕ (Bool) := (match itrE (d_r11_IsConvex_L3 vs i2) vs.length () with | .inr r => .inr r | .inl s3 => .inl ())
def d_r11_IsConvex_L1 (vs : List Vec) (i1 : Nat) (s1 : Unit) : (Unit) ⊕ (Bool) := let v1 := (reachB (vs.getD i1 default)); if v1 = false then (.inr false) else (.inl ())
def d_r11_IsConvex (vs : List Vec) : Bool := if ((decide ((vs.length : Int) < 3)) || (decide (8 < (vs.length : Int)))) = true then (false) else ((match itrE (d_r11_IsConvex_L1 vs) vs.length () with | .inr r => r | .inl s1 => (match itrE (d_r11_IsConvex_L2 vs) vs.length () with | .inr r => r | .inl s2 => true)))
theorem s_r11_IsConvex (vs : List Vec) (hn : vs.length ≤ 1048576) : CallsA Tryz.prog F_r11_IsConvex [encD 2 Vec.enc default vs] [] (.sc (.bool (d_r11_IsConvex vs))) [] := by
  refine en1 hm shOk Tryz.func196 rfl rfl ?_
  simp only [go_sem, ite_andP, ite_orP, dec_true, dec_false]
  (repeat (with_reducible refine And.intro ?_ ?_; focus exact ob_))
  by_cases h1 : ((decide ((vs.length : Int) < 3)) || (decide (8 < (vs.length : Int)))) = true
  · first | rw [if_pos h1] | rw [if_pos (by simp_all)] | rw [if_pos (by omega)]
    (repeat (with_reducible refine And.intro ?_ ?_; focus exact ob_))
    have hd : d_r11_IsConvex vs = false := by first | with_reducible rfl | (unfold d_r11_IsConvex; exact hd_)
    try rw [hd]
    try simp only [go_sem, ite_andP, ite_orP, dec_true, dec_false]
    all_goals exact fin_
  · first | rw [if_neg h1] | rw [if_neg (by simp_all)] | rw [if_neg (by omega)]
    (repeat (with_reducible refine And.intro ?_ ?_; focus exact ob_))
    refine Wpi_loop hm (ι := {p : Nat × Unit // p.1 ≤ vs.length ∧ itrE (d_r11_IsConvex_L1 vs) p.1 () = .inl p.2}) (fun i => [(0, .share, encD 2 Vec.enc default vs), (3, .share, .sc (.int .i64 (vs.length : Int))), (4, .share, .sc (.int .i64 (i.1.1 : Int)))]) (fun i => []) (fun i => vs.length - i.1.1) ⟨(0, ()), by omega, rfl⟩ ?_ ?_
    · refine weakE_ [] [] ?_
      simp only [go_sem, ite_andP, ite_orP, dec_true, dec_false, itr_zero]
      all_goals exact fin_
    · rintro ⟨⟨i1, s1⟩, hi1, hs1⟩
      replace hi1 : i1 ≤ vs.length := hi1
      replace hs1 : itrE (d_r11_IsConvex_L1 vs) i1 () = .inl s1 := hs1
      simp only [go_sem, ite_andP, ite_orP, dec_true, dec_false]
      (repeat (with_reducible refine And.intro ?_ ?_; focus exact ob_))
      by_cases h2 : (i1 : Int) < (vs.length : Int)
      · first | rw [if_pos h2] | rw [if_pos (by simp_all)] | rw [if_pos (by omega)]
        have hlt1 : i1 < vs.length := by first | omega | (simp only [IntKind.wrap_i64] at h2; omega)
        (repeat (with_reducible refine And.intro ?_ ?_; focus exact ob_))
        refine CallGi_flat (s_r11_inRange (vs.getD i1 default) ) rfl ?_
        generalize hv1 : (reachB (vs.getD i1 default)) = v1
        simp only [go_sem, ite_andP, ite_orP, dec_true, dec_false]
        (repeat (with_reducible refine And.intro ?_ ?_; focus exact ob_))
        by_cases h3 : v1 = false
        · first | rw [if_pos h3] | rw [if_pos (by simp_all)] | rw [if_pos (by omega)]
          (repeat (with_reducible refine And.intro ?_ ?_; focus exact ob_))
          have e1 : itrE (d_r11_IsConvex_L1 vs) (i1 + 1) () = .inr false := itrE_inl hs1 (by first | with_reducible rfl | (unfold d_r11_IsConvex_L1; exact hd_))
          replace e1 := itrE_stop e1 (show i1 + 1 ≤ vs.length by omega)
          have hd : d_r11_IsConvex vs = false := by first | with_reducible rfl | (unfold d_r11_IsConvex; exact hd_)
          try rw [hd]
          try simp only [go_sem, ite_andP, ite_orP, dec_true, dec_false]
          all_goals exact fin_
        · first | rw [if_neg h3] | rw [if_neg (by simp_all)] | rw [if_neg (by omega)]
          (repeat (with_reducible refine And.intro ?_ ?_; focus exact ob_))
          have hn : itrE (d_r11_IsConvex_L1 vs) (i1 + 1) () = .inl () := itrE_inl hs1 (by first | with_reducible rfl | (unfold d_r11_IsConvex_L1; exact hd_))
          refine loop_next ⟨(i1 + 1, ()), by omega, hn⟩ (by show vs.length - (i1 + 1) < vs.length - i1; omega) (weakE_ [] [] ?_)
          simp only [go_sem, ite_andP, ite_orP, dec_true, dec_false]
          all_goals exact fin_
      · first | rw [if_neg h2] | rw [if_neg (by simp_all)] | rw [if_neg (by omega)]
        (repeat (with_reducible refine And.intro ?_ ?_; focus exact ob_))
        have hge : i1 = vs.length := by first | omega | (simp only [IntKind.wrap_i64] at h2; omega)
        subst hge
        refine Wpi_loop hm (ι := {p : Nat × Unit // p.1 ≤ vs.length ∧ itrE (d_r11_IsConvex_L2 vs) p.1 () = .inl p.2}) (fun i => [(0, .share, encD 2 Vec.enc default vs), (3, .share, .sc (.int .i64 (vs.length : Int))), (5, .share, .sc (.int .i64 (i.1.1 : Int)))]) (fun i => []) (fun i => vs.length - i.1.1) ⟨(0, ()), by omega, rfl⟩ ?_ ?_
        · refine weakE_ [] [] ?_
          simp only [go_sem, ite_andP, ite_orP, dec_true, dec_false, itr_zero]
          all_goals exact fin_
        · rintro ⟨⟨i2, s2⟩, hi2, hs2⟩
          replace hi2 : i2 ≤ vs.length := hi2
          replace hs2 : itrE (d_r11_IsConvex_L2 vs) i2 () = .inl s2 := hs2
          simp only [go_sem, ite_andP, ite_orP, dec_true, dec_false]
          (repeat (with_reducible refine And.intro ?_ ?_; focus exact ob_))
          by_cases h4 : (i2 : Int) < (vs.length : Int)
          · first | rw [if_pos h4] | rw [if_pos (by simp_all)] | rw [if_pos (by omega)]
            have hlt2 : i2 < vs.length := by first | omega | (simp only [IntKind.wrap_i64] at h4; omega)
            (repeat (with_reducible refine And.intro ?_ ?_; focus exact ob_))
            refine Wpi_loop hm (ι := {p : Nat × Unit // p.1 ≤ vs.length ∧ itrE (d_r11_IsConvex_L3 vs i2) p.1 () = .inl p.2}) (fun i => [(0, .share, encD 2 Vec.enc default vs), (3, .share, .sc (.int .i64 (vs.length : Int))), (5, .share, .sc (.int .i64 (i2 : Int))), (6, .share, .sc (.int .i64 ((IntKind.i64.wrap ((i2 : Int) + 1)).tmod (vs.length : Int)))), (7, .share, .sc (.int .i64 (i.1.1 : Int)))]) (fun i => []) (fun i => vs.length - i.1.1) ⟨(0, ()), by omega, rfl⟩ ?_ ?_
            · refine weakE_ [] [] ?_
              simp only [go_sem, ite_andP, ite_orP, dec_true, dec_false, itr_zero]
              all_goals exact fin_
            · rintro ⟨⟨i3, s3⟩, hi3, hs3⟩
              replace hi3 : i3 ≤ vs.length := hi3
              replace hs3 : itrE (d_r11_IsConvex_L3 vs i2) i3 () = .inl s3 := hs3
              simp only [go_sem, ite_andP, ite_orP, dec_true, dec_false]
              (repeat (with_reducible refine And.intro ?_ ?_; focus exact ob_))
              by_cases h5 : (i3 : Int) < (vs.length : Int)
              · first | rw [if_pos h5] | rw [if_pos (by simp_all)] | rw [if_pos (by omega)]
                have hlt3 : i3 < vs.length := by first | omega | (simp only [IntKind.wrap_i64] at h5; omega)
                (repeat (with_reducible refine And.intro ?_ ?_; focus exact ob_))
                refine CallGi_flat (s_r03_Orientation (vs.getD i2 default) (vs.getD ((IntKind.i64.wrap ((i2 : Int) + 1)).tmod (vs.length : Int)).toNat default) (vs.getD i3 default) ) rfl ?_
                generalize hv2 : (ori (vs.getD i2 default) (vs.getD ((IntKind.i64.wrap ((i2 : Int) + 1)).tmod (vs.length : Int)).toNat default) (vs.getD i3 default)) = v2
                simp only [go_sem, ite_andP, ite_orP, dec_true, dec_false]
                (repeat (with_reducible refine And.intro ?_ ?_; focus exact ob_))
                by_cases h6 : ((((i3 : Int) != (i2 : Int)) && ((i3 : Int) != ((IntKind.i64.wrap ((i2 : Int) + 1)).tmod (vs.length : Int)))) && (v2 != 1)) = true
                · first | rw [if_pos h6] | rw [if_pos (by simp_all)] | rw [if_pos (by omega)]
                  (repeat (with_reducible refine And.intro ?_ ?_; focus exact ob_))
                  have e3 : itrE (d_r11_IsConvex_L3 vs i2) (i3 + 1) () = .inr false := itrE_inl hs3 (by first | with_reducible rfl | (unfold d_r11_IsConvex_L3; exact hd_))
                  replace e3 := itrE_stop e3 (show i3 + 1 ≤ vs.length by omega)
                  have e2 : itrE (d_r11_IsConvex_L2 vs) (i2 + 1) () = .inr false := itrE_inl hs2 (by first | with_reducible rfl | (unfold d_r11_IsConvex_L2; exact hd_))
                  replace e2 := itrE_stop e2 (show i2 + 1 ≤ vs.length by omega)
                  have hd : d_r11_IsConvex vs = false := by first | with_reducible rfl | (unfold d_r11_IsConvex; exact hd_)
                  try rw [hd]
                  try simp only [go_sem, ite_andP, ite_orP, dec_true, dec_false]
                  all_goals exact fin_
                · first | rw [if_neg h6] | rw [if_neg (by simp_all)] | rw [if_neg (by omega)]
                  (repeat (with_reducible refine And.intro ?_ ?_; focus exact ob_))
                  have hn : itrE (d_r11_IsConvex_L3 vs i2) (i3 + 1) () = .inl () := itrE_inl hs3 (by first | with_reducible rfl | (unfold d_r11_IsConvex_L3; exact hd_))
                  refine loop_next ⟨(i3 + 1, ()), by omega, hn⟩ (by show vs.length - (i3 + 1) < vs.length - i3; omega) (weakE_ [] [] ?_)
                  simp only [go_sem, ite_andP, ite_orP, dec_true, dec_false]
                  all_goals exact fin_
              · first | rw [if_neg h5] | rw [if_neg (by simp_all)] | rw [if_neg (by omega)]
                (repeat (with_reducible refine And.intro ?_ ?_; focus exact ob_))
                have hge : i3 = vs.length := by first | omega | (simp only [IntKind.wrap_i64] at h5; omega)
                subst hge
                have hn : itrE (d_r11_IsConvex_L2 vs) (i2 + 1) () = .inl () := itrE_inl hs2 (by first | with_reducible rfl | (unfold d_r11_IsConvex_L2; exact hd_))
                refine loop_next ⟨(i2 + 1, ()), by omega, hn⟩ (by show vs.length - (i2 + 1) < vs.length - i2; omega) (weakE_ [] [] ?_)
                simp only [go_sem, ite_andP, ite_orP, dec_true, dec_false]
                all_goals exact fin_
          · first | rw [if_neg h4] | rw [if_neg (by simp_all)] | rw [if_neg (by omega)]
            (repeat (with_reducible refine And.intro ?_ ?_; focus exact ob_))
            have hge : i2 = vs.length := by first | omega | (simp only [IntKind.wrap_i64] at h4; omega)
            subst hge
            have hd : d_r11_IsConvex vs = true := by first | with_reducible rfl | (unfold d_r11_IsConvex; exact hd_)
            try rw [hd]
            try simp only [go_sem, ite_andP, ite_orP, dec_true, dec_false]
            all_goals exact fin_
def d_r11_ShortestEdge_L1 (vs : List Vec) (i1 : Nat) (s1 : Int) : Int := let v2 := (subV (vs.getD ((IntKind.i64.wrap ((i1 : Int) + 1)).tmod (vs.length : Int)).toNat default) (vs.getD i1 default)); let v3 := (lenV v2); if ((decide (s1 < 0)) || (decide (v3 < s1))) = true then (v3) else (s1)
def d_r11_ShortestEdge (vs : List Vec) : Int := let v1 := (d_r11_IsConvex vs); if v1 = false then (0) else (let s1 := itr (d_r11_ShortestEdge_L1 vs) vs.length (-1); s1)
theorem s_r11_ShortestEdge (vs : List Vec) (hn : vs.length ≤ 1048576) : CallsA Tryz.prog F_r11_ShortestEdge [encD 2 Vec.enc default vs] [] (.sc (.int .i64 (d_r11_ShortestEdge vs))) [] := by
  refine en1 hm shOk Tryz.func197 rfl rfl ?_
  simp only [go_sem, ite_andP, ite_orP, dec_true, dec_false]
  (repeat (with_reducible refine And.intro ?_ ?_; focus exact ob_))
  refine CallGi_flat (s_r11_IsConvex vs (by (first | assumption | omega | (simp_all; done) | (simp_all; omega)))) rfl ?_
  generalize hv1 : (d_r11_IsConvex vs) = v1
  simp only [go_sem, ite_andP, ite_orP, dec_true, dec_false]
  (repeat (with_reducible refine And.intro ?_ ?_; focus exact ob_))
  by_cases h1 : v1 = false
  · first | rw [if_pos h1] | rw [if_pos (by simp_all)] | rw [if_pos (by omega)]
    (repeat (with_reducible refine And.intro ?_ ?_; focus exact ob_))
    have hd : d_r11_ShortestEdge vs = 0 := by first | with_reducible rfl | (unfold d_r11_ShortestEdge; exact hd_)
    try rw [hd]
    try simp only [go_sem, ite_andP, ite_orP, dec_true, dec_false]
    all_goals exact fin_
  · first | rw [if_neg h1] | rw [if_neg (by simp_all)] | rw [if_neg (by omega)]
    (repeat (with_reducible refine And.intro ?_ ?_; focus exact ob_))
    refine Wpi_loop hm (ι := {i : Nat // i ≤ vs.length}) (fun i => [(0, .share, encD 2 Vec.enc default vs), (3, .share, .sc (.int .i64 (itr (d_r11_ShortestEdge_L1 vs) i.1 (-1)))), (4, .share, .sc (.int .i64 (i.1 : Int)))]) (fun i => []) (fun i => vs.length - i.1) ⟨0, by omega⟩ ?_ ?_
    · refine weakE_ [] [] ?_
      simp only [go_sem, ite_andP, ite_orP, dec_true, dec_false, itr_zero]
      all_goals exact fin_
    · rintro ⟨i1, hi1⟩
      dsimp only
      generalize hs1 : itr (d_r11_ShortestEdge_L1 vs) i1 (-1) = s1
      simp only [go_sem, ite_andP, ite_orP, dec_true, dec_false]
      (repeat (with_reducible refine And.intro ?_ ?_; focus exact ob_))
      by_cases h2 : (i1 : Int) < (vs.length : Int)
      · first | rw [if_pos h2] | rw [if_pos (by simp_all)] | rw [if_pos (by omega)]
        have hlt1 : i1 < vs.length := by first | omega | (simp only [IntKind.wrap_i64] at h2; omega)
        (repeat (with_reducible refine And.intro ?_ ?_; focus exact ob_))
        refine CallGi_flat (s_r03_Sub (vs.getD ((IntKind.i64.wrap ((i1 : Int) + 1)).tmod (vs.length : Int)).toNat default) (vs.getD i1 default) ) rfl ?_
        generalize hv2 : (subV (vs.getD ((IntKind.i64.wrap ((i1 : Int) + 1)).tmod (vs.length : Int)).toNat default) (vs.getD i1 default)) = v2
        simp only [go_sem, ite_andP, ite_orP, dec_true, dec_false]
        (repeat (with_reducible refine And.intro ?_ ?_; focus exact ob_))
        refine CallGi_flat (s_r03_Length v2 ) rfl ?_
        generalize hv3 : (lenV v2) = v3
        simp only [go_sem, ite_andP, ite_orP, dec_true, dec_false]
        (repeat (with_reducible refine And.intro ?_ ?_; focus exact ob_))
        by_cases h3 : ((decide (s1 < 0)) || (decide (v3 < s1))) = true
        · first | rw [if_pos h3] | rw [if_pos (by simp_all)] | rw [if_pos (by omega)]
          (repeat (with_reducible refine And.intro ?_ ?_; focus exact ob_))
          have hn : itr (d_r11_ShortestEdge_L1 vs) (i1 + 1) (-1) = v3 := by rw [itr_succ, hs1]; first | with_reducible rfl | (unfold d_r11_ShortestEdge_L1; exact hd_)
          refine loop_next ⟨i1 + 1, by omega⟩ (by show vs.length - (i1 + 1) < vs.length - i1; omega) (weakE_ [] [] ?_)
          simp only [go_sem, ite_andP, ite_orP, dec_true, dec_false, hn]
          all_goals exact fin_
        · first | rw [if_neg h3] | rw [if_neg (by simp_all)] | rw [if_neg (by omega)]
          (repeat (with_reducible refine And.intro ?_ ?_; focus exact ob_))
          have hn : itr (d_r11_ShortestEdge_L1 vs) (i1 + 1) (-1) = s1 := by rw [itr_succ, hs1]; first | with_reducible rfl | (unfold d_r11_ShortestEdge_L1; exact hd_)
          refine loop_next ⟨i1 + 1, by omega⟩ (by show vs.length - (i1 + 1) < vs.length - i1; omega) (weakE_ [] [] ?_)
          simp only [go_sem, ite_andP, ite_orP, dec_true, dec_false, hn]
          all_goals exact fin_
      · first | rw [if_neg h2] | rw [if_neg (by simp_all)] | rw [if_neg (by omega)]
        (repeat (with_reducible refine And.intro ?_ ?_; focus exact ob_))
        have hge : i1 = vs.length := by first | omega | (simp only [IntKind.wrap_i64] at h2; omega)
        subst hge
        have hd : d_r11_ShortestEdge vs = s1 := by first | with_reducible rfl | (unfold d_r11_ShortestEdge; exact hd_)
        try rw [hd]
        try simp only [go_sem, ite_andP, ite_orP, dec_true, dec_false]
        all_goals exact fin_
def d_r11_cross (vs : List Vec) (i : Int) : Int := let v1 := (rdiv (IntKind.i64.wrap ((IntKind.i64.wrap ((IntKind.i64.wrap ((vs.getD i.toNat default).X - (vs.getD 0 default).X)) * (IntKind.i64.wrap ((vs.getD (IntKind.i64.wrap (i + 1)).toNat default).Y - (vs.getD 0 default).Y)))) - (IntKind.i64.wrap ((IntKind.i64.wrap ((vs.getD i.toNat default).Y - (vs.getD 0 default).Y)) * (IntKind.i64.wrap ((vs.getD (IntKind.i64.wrap (i + 1)).toNat default).X - (vs.getD 0 default).X)))))) 65536); v1
theorem s_r11_cross (vs : List Vec) (i : Int) (hn : vs.length ≤ 1048576) (h0 : 1 ≤ i) (h1 : i + 1 < (vs.length : Int)) : CallsA Tryz.prog F_r11_cross [encD 2 Vec.enc default vs, .sc (.int .i64 i)] [] (.sc (.int .i64 (d_r11_cross vs i))) [] := by
  refine en1 hm shOk Tryz.func206 rfl rfl ?_
  have := s_r01_RoundDiv
  have := d_r11_cross.eq_1 vs i
  exact walk_
def d_r11_Area_L1 (vs : List Vec) (i1 : Nat) (s1 : Int) : Int := let v2 := (d_r11_cross vs ((i1 + 1 : Nat) : Int)); (IntKind.i64.wrap (s1 + v2))
def d_r11_Area (vs : List Vec) : Int := let v1 := (d_r11_IsConvex vs); if v1 = false then (0) else (let s1 := itr (d_r11_Area_L1 vs) (vs.length - 2) 0; let v3 := (rdiv s1 2); v3)
theorem s_r11_Area (vs : List Vec) (hn : vs.length ≤ 1048576) : CallsA Tryz.prog F_r11_Area [encD 2 Vec.enc default vs] [] (.sc (.int .i64 (d_r11_Area vs))) [] := by
  refine en1 hm shOk Tryz.func198 rfl rfl ?_
  simp only [go_sem, ite_andP, ite_orP, dec_true, dec_false]
  (repeat (with_reducible refine And.intro ?_ ?_; focus exact ob_))
  refine CallGi_flat (s_r11_IsConvex vs (by (first | assumption | omega | (simp_all; done) | (simp_all; omega)))) rfl ?_
  generalize hv1 : (d_r11_IsConvex vs) = v1
  simp only [go_sem, ite_andP, ite_orP, dec_true, dec_false]
  (repeat (with_reducible refine And.intro ?_ ?_; focus exact ob_))
  by_cases h1 : v1 = false
  · first | rw [if_pos h1] | rw [if_pos (by simp_all)] | rw [if_pos (by omega)]
    (repeat (with_reducible refine And.intro ?_ ?_; focus exact ob_))
    have hd : d_r11_Area vs = 0 := by first | with_reducible rfl | (unfold d_r11_Area; exact hd_)
    try rw [hd]
    try simp only [go_sem, ite_andP, ite_orP, dec_true, dec_false]
    all_goals exact fin_
  · first | rw [if_neg h1] | rw [if_neg (by simp_all)] | rw [if_neg (by omega)]
    (repeat (with_reducible refine And.intro ?_ ?_; focus exact ob_))
    refine Wpi_loop hm (ι := {i : Nat // i ≤ (vs.length - 2)}) (fun i => [(0, .share, encD 2 Vec.enc default vs), (3, .share, .sc (.int .i64 (itr (d_r11_Area_L1 vs) i.1 0))), (4, .share, .sc (.int .i64 ((i.1 + 1 : Nat) : Int)))]) (fun i => []) (fun i => (vs.length - 2) - i.1) ⟨0, by omega⟩ ?_ ?_
    · refine weakE_ [] [] ?_
      simp only [go_sem, ite_andP, ite_orP, dec_true, dec_false, itr_zero]
      all_goals exact fin_
    · rintro ⟨i1, hi1⟩
      dsimp only
      generalize hs1 : itr (d_r11_Area_L1 vs) i1 0 = s1
      simp only [go_sem, ite_andP, ite_orP, dec_true, dec_false]
      (repeat (with_reducible refine And.intro ?_ ?_; focus exact ob_))
      by_cases h2 : (IntKind.i64.wrap (((i1 + 1 : Nat) : Int) + 1)) < (vs.length : Int)
      · first | rw [if_pos h2] | rw [if_pos (by simp_all)] | rw [if_pos (by omega)]
        have hlt1 : i1 < (vs.length - 2) := by first | omega | (simp only [IntKind.wrap_i64] at h2; omega)
        (repeat (with_reducible refine And.intro ?_ ?_; focus exact ob_))
        refine CallGi_flat (s_r11_cross vs ((i1 + 1 : Nat) : Int) (by (first | assumption | omega | (simp_all; done) | (simp_all; omega))) (by (first | assumption | omega | (simp_all; done) | (simp_all; omega))) (by (first | assumption | omega | (simp_all; done) | (simp_all; omega)))) rfl ?_
        generalize hv2 : (d_r11_cross vs ((i1 + 1 : Nat) : Int)) = v2
        simp only [go_sem, ite_andP, ite_orP, dec_true, dec_false]
        (repeat (with_reducible refine And.intro ?_ ?_; focus exact ob_))
        have hn : itr (d_r11_Area_L1 vs) (i1 + 1) 0 = (IntKind.i64.wrap (s1 + v2)) := by rw [itr_succ, hs1]; first | with_reducible rfl | (unfold d_r11_Area_L1; exact hd_)
        refine loop_next ⟨i1 + 1, by omega⟩ (by show (vs.length - 2) - (i1 + 1) < (vs.length - 2) - i1; omega) (weakE_ [] [] ?_)
        simp only [go_sem, ite_andP, ite_orP, dec_true, dec_false, hn]
        all_goals exact fin_
      · first | rw [if_neg h2] | rw [if_neg (by simp_all)] | rw [if_neg (by omega)]
        (repeat (with_reducible refine And.intro ?_ ?_; focus exact ob_))
        have hge : i1 = (vs.length - 2) := by first | omega | (simp only [IntKind.wrap_i64] at h2; omega)
        subst hge
        refine CallGi_flat (s_r01_RoundDiv s1 2 ) rfl ?_
        generalize hv3 : (rdiv s1 2) = v3
        simp only [go_sem, ite_andP, ite_orP, dec_true, dec_false]
        (repeat (with_reducible refine And.intro ?_ ?_; focus exact ob_))
        have hd : d_r11_Area vs = v3 := by first | with_reducible rfl | (unfold d_r11_Area; exact hd_)
        try rw [hd]
        try simp only [go_sem, ite_andP, ite_orP, dec_true, dec_false]
        all_goals exact fin_
end Go.Abs
end
section
namespace Go.Abs
open Go.Proofs
open Api
def d_body_inRange (b : Body) : Bool := let v1 := (d_body_bounded b.Velocity 16777216); let v3 := (d_body_bounded b.Force 536870911); let v9 := (d_transform_Valid b.Transform); (((((((inR b.ID 1 1099511627776) && v9) && (v1 && (inR b.AngularVelocity (-4194304) 4194304))) && (v3 && (inR b.Torque (-536870911) 536870911))) && ((inR b.LinearDamping 0 65536) && (inR b.AngularDamping 0 65536))) && (inR b.GravityScale (-262144) 262144)) && (inR b.IdleSteps 0 1048576))
theorem s_body_inRange (b : Body)  : CallsA Tryz.prog F_body_inRange [.agg b.enc] [] (.sc (.bool (d_body_inRange b))) [] := by
  refine en1 hm shOk Tryz.func97 rfl rfl ?_
  have := s_body_bounded
  have := s_body_within
  have := s_transform_Valid
  have := d_body_inRange.eq_1 b
  exact walk_
def d_r23_inRange (b : Body) : Bool := let v2 := (d_transform_Valid b.Transform); if (((((!(inR b.ID 1 1099511627776)) || (!v2)) || (!(inR b.Velocity.X (-16777216) 16777216))) || (!(inR b.Velocity.Y (-16777216) 16777216))) || (!(inR b.AngularVelocity (-4194304) 4194304))) = true then (false) else (if (((!(inR b.Force.X (-536870911) 536870911)) || (!(inR b.Force.Y (-536870911) 536870911))) || (!(inR b.Torque (-536870911) 536870911))) = true then (false) else (((((inR b.LinearDamping 0 65536) && (inR b.AngularDamping 0 65536)) && (inR b.GravityScale (-262144) 262144)) && (inR b.IdleSteps 0 1048576))))
theorem s_r23_inRange (b : Body)  : CallsA Tryz.prog F_r23_inRange [.agg b.enc] [] (.sc (.bool (d_r23_inRange b))) [] := by
  refine en1 hm shOk Tryz.func154 rfl rfl ?_
  have := s_r23_in
  have := s_r04_Valid
  have := d_r23_inRange.eq_1 b
  exact walk_
def d_joint_limitRange (k : Int) : Int × Int := if (k == 1) = true then ((0, 268435456)) else (if (k == 2) = true then (((-205888), 205888)) else (((-268435456), 268435456)))
theorem s_joint_limitRange (k : Int)  : CallsA Tryz.prog F_joint_limitRange [.sc (.int .i64 k)] [] (.tup [.sc (.int .i64 (d_joint_limitRange k).1), .sc (.int .i64 (d_joint_limitRange k).2)]) [] := by
  refine enT hm shOk Tryz.func140 rfl rfl ?_
  have := d_joint_limitRange.eq_1 k
  exact walk_
def d_joint_pointInRange (v : Vec) (limit : Int) : Bool := ((inR v.X (IntKind.i64.wrap (0 - limit)) limit) && (inR v.Y (IntKind.i64.wrap (0 - limit)) limit))
theorem s_joint_pointInRange (v : Vec) (limit : Int)  : CallsA Tryz.prog F_joint_pointInRange [.agg v.enc, .sc (.int .i64 limit)] [] (.sc (.bool (d_joint_pointInRange v limit))) [] := by
  refine en1 hm shOk Tryz.func142 rfl rfl ?_
  have := s_joint_inRange
  have := d_joint_pointInRange.eq_1 v limit
  exact walk_
def d_joint_validBodies (j : Joint) : Bool := if (j.Kind == 5) = true then (((j.BodyA == 0) && (inR j.BodyB 1 1099511627776))) else ((((inR j.BodyA 1 1099511627776) && (inR j.BodyB 1 1099511627776)) && (j.BodyA != j.BodyB)))
theorem s_joint_validBodies (j : Joint)  : CallsA Tryz.prog F_joint_validBodies [.agg j.enc] [] (.sc (.bool (d_joint_validBodies j))) [] := by
  refine en1 hm shOk Tryz.func101 rfl rfl ?_
  have := s_joint_inRange
  have := d_joint_validBodies.eq_1 j
  exact walk_
def d_joint_inconsistent (j : Joint) : Bool := if (j.Kind == 3) = true then (let v1 := (lenV j.Axis); (!(inR v1 65520 65552))) else (if (j.Kind == 1) = true then ((((!((j.Axis.X == 0) && (j.Axis.Y == 0))) || j.EnableMotor) || (!j.EnableLimit))) else (if (j.Kind == 4) = true then ((((!((j.Axis.X == 0) && (j.Axis.Y == 0))) || j.EnableMotor) || j.EnableLimit)) else (if (j.Kind == 5) = true then ((((!((j.Axis.X == 0) && (j.Axis.Y == 0))) || j.EnableMotor) || j.EnableLimit)) else ((!((j.Axis.X == 0) && (j.Axis.Y == 0)))))))
theorem s_joint_inconsistent (j : Joint)  : CallsA Tryz.prog F_joint_inconsistent [.agg j.enc] [] (.sc (.bool (d_joint_inconsistent j))) [] := by
  refine en1 hm shOk Tryz.func102 rfl rfl ?_
  have := s_vec2_Length
  have := s_joint_inRange
  have := d_joint_inconsistent.eq_1 j
  exact walk_
def d_r24_inSquare (v : Vec) (m : Int) : Bool := ((inR v.X (IntKind.i64.wrap (0 - m)) m) && (inR v.Y (IntKind.i64.wrap (0 - m)) m))
theorem s_r24_inSquare (v : Vec) (m : Int)  : CallsA Tryz.prog F_r24_inSquare [.agg v.enc, .sc (.int .i64 m)] [] (.sc (.bool (d_r24_inSquare v m))) [] := by
  refine en1 hm shOk Tryz.func180 rfl rfl ?_
  have := s_r24_inRange
  have := d_r24_inSquare.eq_1 v m
  exact walk_
def d_r24_limitsValid (j : Joint) : Bool := if (((!(inR j.Lower (-268435456) 268435456)) || (!(inR j.Upper (-268435456) 268435456))) || (decide (j.Upper < j.Lower))) = true then (false) else (if (j.Kind == 1) = true then ((decide (0 ≤ j.Lower))) else (((j.Kind != 2) || ((decide ((-205888) ≤ j.Lower)) && (decide (j.Upper ≤ 205888))))))
theorem s_r24_limitsValid (j : Joint)  : CallsA Tryz.prog F_r24_limitsValid [.agg j.enc] [] (.sc (.bool (d_r24_limitsValid j))) [] := by
  refine en1 hm shOk Tryz.func181 rfl rfl ?_
  have := s_r24_inRange
  have := d_r24_limitsValid.eq_1 j
  exact walk_
def d_r22_Less (a : PairKey) (b : PairKey) : Bool := if (a.BodyA != b.BodyA) = true then ((decide (a.BodyA < b.BodyA))) else (if (a.FixtureA != b.FixtureA) = true then ((decide (a.FixtureA < b.FixtureA))) else (if (a.BodyB != b.BodyB) = true then ((decide (a.BodyB < b.BodyB))) else ((decide (a.FixtureB < b.FixtureB)))))
theorem s_r22_Less (a : PairKey) (b : PairKey)  : CallsA Tryz.prog F_r22_Less [.agg a.enc, .agg b.enc] [] (.sc (.bool (d_r22_Less a b))) [] := by
  refine en1 hm shOk Tryz.func159 rfl rfl ?_
  have := d_r22_Less.eq_1 a b
  exact walk_
def d_r25_saturated (v : Vec) : Bool := ((inR v.X (-536870911) 536870911) && (inR v.Y (-536870911) 536870911))
theorem s_r25_saturated (v : Vec)  : CallsA Tryz.prog F_r25_saturated [.agg v.enc] [] (.sc (.bool (d_r25_saturated v))) [] := by
  refine en1 hm shOk Tryz.func161 rfl rfl ?_
  have := s_r25_in
  have := d_r25_saturated.eq_1 v
  exact walk_
end Go.Abs
end
section
namespace Go.Abs
open Go.Proofs
open Api
def gcells (w : Api.World) (x : Island) (n : Nat) : List AV := [.sc (.int .i64 w.Settings.TimeStep), .sc (.int .i64 w.Settings.Gravity.X), .sc (.int .i64 w.Settings.Gravity.Y), .sc (.int .i64 w.Settings.Iterations), .sc (.int .i64 w.Settings.SleepSteps),
  .sl 1 0 w.Bodies.length w.Bodies.length, .sl 2 0 w.Joints.length w.Joints.length, .sl 3 0 w.Contacts.length w.Contacts.length, .sl 4 0 w.Overlaps.length w.Overlaps.length, .sc (.int .i64 w.NextID), .sc (.int .i64 w.Frame),
  encD 1 encInt 0 x.Bodies, encD 1 encInt 0 x.Contacts, encD 1 encInt 0 x.Joints, .sl 5 0 n n]
def gobj (w : Api.World) (x : Island) (l : List Int) : List (Nat × AObj) := (6, .box (gcells w x l.length)) :: (5, .arr 1 (encQ encInt 0 l)) :: Wobj w 1 2 3 4
attribute [go_sem] gcells gobj
def anyO (w : Api.World) (x : Island) (l : List Int) (f : FuncId) : List (Nat × AObj) := (48, .box [.ptr 6 0 0 1]) :: (64, .box [.fn (.func f) [.ptr 6 0 0 1] []]) :: gobj w x l
attribute [go_sem] anyO
end Go.Abs
end
section
namespace Go.Abs
open Go.Proofs
open Api
def idxG {α : Type} (d : α) (p : α → Bool) (l : List α) : Int := match (List.range l.length).find? (fun i => p (l.getD i d)) with | some i => i | none => -1
theorem idxG_at {α : Type} {d : α} {p : α → Bool} {l : List α} {i : Nat} (hi : i < l.length) (h : ∀ j, j < i → p (l.getD j d) = false) (hp : p (l.getD i d) = true) : idxG d p l = i := by
  have : (List.range l.length).find? (fun i => p (l.getD i d)) = some i := by
    rw [List.find?_range_eq_some]
    exact ⟨hp, by simpa using hi, fun j hj => by simp only [h j hj, Bool.not_false]⟩
  unfold idxG; rw [this]
theorem idxG_none {α : Type} {d : α} {p : α → Bool} {l : List α} (h : ∀ j, j < l.length → p (l.getD j d) = false) : idxG d p l = -1 := by
  have : (List.range l.length).find? (fun i => p (l.getD i d)) = none := by
    rw [List.find?_range_eq_none]
    exact fun j hj => by simp only [h j hj, Bool.not_false]
  unfold idxG; rw [this]
theorem idxG_lt {α : Type} {d : α} {p : α → Bool} {l : List α} : -1 ≤ idxG d p l ∧ (idxG d p l) < l.length := by
  unfold idxG
  cases hf : (List.range l.length).find? (fun i => p (l.getD i d)) with
  | none => simp; omega
  | some i => have := List.mem_of_find?_eq_some hf; rw [List.mem_range] at this; simp; omega
theorem s_slices_IndexFunc_Body (l : List Body) (f : FuncId) (first cap : List AV) (O : List (Nat × AObj)) (p : Body → Bool) (hl : l.length ≤ 1048576) (hO : okO O)
    (hids : ∀ i ∈ (AV.fn (.func f) first cap).ids, (ofL O i).isSome)
    (hp : ∀ x ∈ l, CallsA Tryz.prog f (first ++ [.agg x.enc] ++ cap) O (.sc (.bool (p x))) O) :
    CallsA Tryz.prog F_slices_IndexFunc_Body [encD 20 Body.enc default l, .fn (.func f) first cap] O (.sc (.int .i64 (idxG default p l))) O := by
  have hren : (AV.fn (.func f) first cap).ren id = .fn (.func f) first cap := AV.ren_id _
  have hargs : ∀ x : Body, ∀ a ∈ first ++ [.agg x.enc] ++ cap, ∀ i ∈ a.ids, (ofL O i).isSome := fun x a ha i hi => by
    simp only [List.mem_append, List.mem_singleton] at ha
    refine hids i ?_
    simp only [AV.ids, List.mem_append]
    rcases ha with (ha | rfl) | ha
    · obtain ⟨k, hk⟩ := List.getElem?_of_mem ha; exact .inl (mem_idsL hk i hi)
    · simp [AV.ids, go_sem] at hi
    · obtain ⟨k, hk⟩ := List.getElem?_of_mem ha; exact .inr (mem_idsL hk i hi)
  refine enO1 hm shOk Tryz.func103 rfl rfl ?_
  simp only [go_sem]
  refine Wpi_loop hm (ι := {i : Nat // i ≤ l.length ∧ ∀ j, j < i → p (l.getD j default) = false}) (fun i => [(0, .share, encD 20 Body.enc default l), (1, .share, .fn (.func f) first cap), (7, .share, .sc (.int .i64 l.length)), (8, .share, .sc (.int .i64 i.1))])
    (fun i => O) (fun i => l.length - i.1) ⟨0, by omega, fun j hj => by omega⟩ ?_ ?_
  · refine weakE_same hO rfl ?_
    simp only [go_sem]
    exact ⟨by rw [renL_id, renL_id], fun i hi => hids i hi⟩
  · rintro ⟨i, hi, hs⟩
    simp only [go_sem]
    split
    · rename_i hlt
      have hlt : i < l.length := by omega
      refine ⟨ok_, ?_⟩
      have hx : CallsA Tryz.prog f (first ++ .agg (l.getD i default).enc :: cap) O (.sc (.bool (p (l.getD i default)))) O := by
        have := hp (l.getD i default) (mem_getD default hlt)
        rwa [List.append_assoc] at this
      refine CallGi_same hx hO rfl (fun a ha => hargs (l.getD i default) a (by rw [List.append_assoc]; exact ha)) rfl ?_
      simp only [go_sem]
      cases hpx : p (l.getD i default) with
      | true =>
        rw [if_pos rfl]
        refine retW_same [.share] rfl rfl hO (wrm_self hO) ?_
        simp only [go_sem]
        exact (idxG_at hlt hs hpx).symm
      | false =>
        rw [if_neg (by simp)]
        refine loop_next ⟨i + 1, by omega, fun j hj => by rcases Nat.lt_succ_iff_lt_or_eq.1 hj with h | rfl; exact hs j h; exact hpx⟩ (by show l.length - (i + 1) < l.length - i; omega) (weakE_same hO (wrm_self hO) ?_)
        simp only [go_sem]
        exact ⟨by rw [renL_id, renL_id], fun i hi => hids i hi, (by rw [IntKind.wrap_i64]; omega)⟩
    · rename_i hge
      refine retW_same [.share] rfl rfl hO rfl ?_
      simp only [go_sem]
      exact (idxG_none fun j hj => hs j (by omega)).symm
def findB (w : Api.World) (id : Int) : Int := idxG default (fun b : Body => b.ID == id) w.Bodies
theorem okO_fb (id : Int) : okO [(1, .box [.sc (.int .i64 id)])] := by
  refine ⟨by simp [go_sem], ?_⟩
  simp [go_sem, idsL, AV.ids]
theorem s_world_FindBody_f1 (id : Int) (b : Body) : CallsA Tryz.prog F_world_FindBody_f1 [.agg b.enc, .ptr 1 0 0 1] [(1, .box [.sc (.int .i64 id)])] (.sc (.bool (b.ID == id))) [(1, .box [.sc (.int .i64 id)])] := by
  refine enO1 hm shOk Tryz.func104 rfl rfl ?_
  simp only [go_sem]
  refine retW_of [.share] [] [] rfl rfl (by simp [go_sem]) (by simp [assoc, go_sem]) (by simp [go_sem]) ?_
  simp only [go_sem]
theorem s_world_FindBody (w : Api.World) (id : Int) (hw : w.Bodies.length ≤ 1048576) : CallsA Tryz.prog F_world_FindBody [.agg w.enc, .sc (.int .i64 id)] [] (.sc (.int .i64 (findB w id))) [] := by
  refine enO1 hm shOk Tryz.func52 rfl rfl ?_
  simp only [go_sem]
  refine CallGi_obj [true, true] [(1, 64)] (s_slices_IndexFunc_Body w.Bodies F_world_FindBody_f1 [] [.ptr 1 0 0 1] [(1, .box [.sc (.int .i64 id)])] (fun b => b.ID == id) hw (okO_fb id) (by simp [go_sem, AV.ids]) (fun b _ => s_world_FindBody_f1 id b)) (by simp) (by simp) (by simp) (by simp [go_sem]) ?_
  simp only [go_sem]
  refine retW_of [.share] [] [] rfl rfl (by simp [go_sem]) (by simp [assoc, go_sem]) (by simp [go_sem]) ?_
  simp only [go_sem]
  rfl
end Go.Abs
end
section
namespace Go.Abs
open Go.Proofs
open Api
attribute [go_sem] Option.toList_none Option.toList_some
theorem idxG_any {α : Type} {d : α} (p : α → Bool) (l : List α) : decide (0 ≤ idxG d p l) = l.any p := by
  cases h : l.any p with
  | true =>
    rw [List.any_eq_true] at h
    obtain ⟨x, hx, hp⟩ := h
    obtain ⟨k, hk, rfl⟩ := List.getElem_of_mem hx
    unfold idxG
    cases hf : (List.range l.length).find? (fun i => p (l.getD i d)) with
    | none =>
      rw [List.find?_range_eq_none] at hf
      have := hf k hk
      simp [List.getD, hk, hp] at this
    | some i => simp
  | false =>
    rw [List.any_eq_false] at h
    rw [idxG_none fun j hj => by simpa using h _ (mem_getD d hj)]; decide
theorem s_slices_IndexFunc_Vec (l : List Vec) (f : FuncId) (first cap : List AV) (O : List (Nat × AObj)) (p : Vec → Bool) (hl : l.length ≤ 4194304) (hO : okO O)
    (hids : ∀ i ∈ (AV.fn (.func f) first cap).ids, (ofL O i).isSome)
    (hp : ∀ x ∈ l, CallsA Tryz.prog f (first ++ [.agg x.enc] ++ cap) O (.sc (.bool (p x))) O) :
    CallsA Tryz.prog F_slices_IndexFunc_Vec [encD 2 Vec.enc default l, .fn (.func f) first cap] O (.sc (.int .i64 (idxG default p l))) O := by
  have hren : (AV.fn (.func f) first cap).ren id = .fn (.func f) first cap := AV.ren_id _
  have hargs : ∀ x : Vec, ∀ a ∈ first ++ [.agg x.enc] ++ cap, ∀ i ∈ a.ids, (ofL O i).isSome := fun x a ha i hi => by
    simp only [List.mem_append, List.mem_singleton] at ha
    refine hids i ?_
    simp only [AV.ids, List.mem_append]
    rcases ha with (ha | rfl) | ha
    · obtain ⟨k, hk⟩ := List.getElem?_of_mem ha; exact .inl (mem_idsL hk i hi)
    · simp [AV.ids, go_sem] at hi
    · obtain ⟨k, hk⟩ := List.getElem?_of_mem ha; exact .inr (mem_idsL hk i hi)
  refine enO1 hm shOk Tryz.func184 rfl rfl ?_
  simp only [go_sem]
  refine Wpi_loop hm (ι := {i : Nat // i ≤ l.length ∧ ∀ j, j < i → p (l.getD j default) = false}) (fun i => [(0, .share, encD 2 Vec.enc default l), (1, .share, .fn (.func f) first cap), (7, .share, .sc (.int .i64 l.length)), (8, .share, .sc (.int .i64 i.1))])
    (fun i => O) (fun i => l.length - i.1) ⟨0, by omega, fun j hj => by omega⟩ ?_ ?_
  · refine weakE_same hO rfl ?_
    simp only [go_sem]
    exact ⟨by rw [renL_id, renL_id], fun i hi => hids i hi⟩
  · rintro ⟨i, hi, hs⟩
    simp only [go_sem]
    split
    · rename_i hlt
      have hlt : i < l.length := by omega
      refine ⟨ok_, ?_⟩
      have hx : CallsA Tryz.prog f (first ++ .agg (l.getD i default).enc :: cap) O (.sc (.bool (p (l.getD i default)))) O := by
        have := hp (l.getD i default) (mem_getD default hlt)
        rwa [List.append_assoc] at this
      refine CallGi_same hx hO rfl (fun a ha => hargs (l.getD i default) a (by rw [List.append_assoc]; exact ha)) rfl ?_
      simp only [go_sem]
      cases hpx : p (l.getD i default) with
      | true =>
        rw [if_pos rfl]
        refine retW_same [.share] rfl rfl hO (wrm_self hO) ?_
        simp only [go_sem]
        exact (idxG_at hlt hs hpx).symm
      | false =>
        rw [if_neg (by simp)]
        refine loop_next ⟨i + 1, by omega, fun j hj => by rcases Nat.lt_succ_iff_lt_or_eq.1 hj with h | rfl; exact hs j h; exact hpx⟩ (by show l.length - (i + 1) < l.length - i; omega) (weakE_same hO (wrm_self hO) ?_)
        simp only [go_sem]
        exact ⟨by rw [renL_id, renL_id], fun i hi => hids i hi, (by rw [IntKind.wrap_i64]; omega)⟩
    · rename_i hge
      refine retW_same [.share] rfl rfl hO rfl ?_
      simp only [go_sem]
      exact (idxG_none fun j hj => hs j (by omega)).symm
theorem s_slices_ContainsFunc_Vec (l : List Vec) (f : FuncId) (first cap : List AV) (O : List (Nat × AObj)) (p : Vec → Bool) (hl : l.length ≤ 4194304) (hO : okO O)
    (hids : ∀ i ∈ (AV.fn (.func f) first cap).ids, (ofL O i).isSome)
    (hp : ∀ x ∈ l, CallsA Tryz.prog f (first ++ [.agg x.enc] ++ cap) O (.sc (.bool (p x))) O) :
    CallsA Tryz.prog F_slices_ContainsFunc_Vec [encD 2 Vec.enc default l, .fn (.func f) first cap] O (.sc (.bool (l.any p))) O := by
  refine enO1 hm shOk Tryz.func165 rfl rfl ?_
  simp only [go_sem]
  refine CallGi_same (s_slices_IndexFunc_Vec l f first cap O p hl hO hids hp) hO rfl ?_ rfl ?_
  · intro a ha
    simp only [List.mem_cons, List.not_mem_nil, or_false] at ha
    rcases ha with rfl | rfl
    · intro i hi; simp [AV.ids] at hi
    · exact hids
  · simp only [go_sem]
    refine retW_same [.share] rfl rfl hO (wrm_self hO) ?_
    simp only [go_sem]
    exact idxG_any p l
theorem s_slices_IndexFunc_ContactPoint (l : List ContactPoint) (f : FuncId) (first cap : List AV) (O : List (Nat × AObj)) (p : ContactPoint → Bool) (hl : l.length ≤ 4194304) (hO : okO O)
    (hids : ∀ i ∈ (AV.fn (.func f) first cap).ids, (ofL O i).isSome)
    (hp : ∀ x ∈ l, CallsA Tryz.prog f (first ++ [.agg x.enc] ++ cap) O (.sc (.bool (p x))) O) :
    CallsA Tryz.prog F_slices_IndexFunc_ContactPoint [encD 6 ContactPoint.enc default l, .fn (.func f) first cap] O (.sc (.int .i64 (idxG default p l))) O := by
  have hren : (AV.fn (.func f) first cap).ren id = .fn (.func f) first cap := AV.ren_id _
  have hargs : ∀ x : ContactPoint, ∀ a ∈ first ++ [.agg x.enc] ++ cap, ∀ i ∈ a.ids, (ofL O i).isSome := fun x a ha i hi => by
    simp only [List.mem_append, List.mem_singleton] at ha
    refine hids i ?_
    simp only [AV.ids, List.mem_append]
    rcases ha with (ha | rfl) | ha
    · obtain ⟨k, hk⟩ := List.getElem?_of_mem ha; exact .inl (mem_idsL hk i hi)
    · simp [AV.ids, go_sem] at hi
    · obtain ⟨k, hk⟩ := List.getElem?_of_mem ha; exact .inr (mem_idsL hk i hi)
  refine enO1 hm shOk Tryz.func146 rfl rfl ?_
  simp only [go_sem]
  refine Wpi_loop hm (ι := {i : Nat // i ≤ l.length ∧ ∀ j, j < i → p (l.getD j default) = false}) (fun i => [(0, .share, encD 6 ContactPoint.enc default l), (1, .share, .fn (.func f) first cap), (7, .share, .sc (.int .i64 l.length)), (8, .share, .sc (.int .i64 i.1))])
    (fun i => O) (fun i => l.length - i.1) ⟨0, by omega, fun j hj => by omega⟩ ?_ ?_
  · refine weakE_same hO rfl ?_
    simp only [go_sem]
    exact ⟨by rw [renL_id, renL_id], fun i hi => hids i hi⟩
  · rintro ⟨i, hi, hs⟩
    simp only [go_sem]
    split
    · rename_i hlt
      have hlt : i < l.length := by omega
      refine ⟨ok_, ?_⟩
      have hx : CallsA Tryz.prog f (first ++ .agg (l.getD i default).enc :: cap) O (.sc (.bool (p (l.getD i default)))) O := by
        have := hp (l.getD i default) (mem_getD default hlt)
        rwa [List.append_assoc] at this
      refine CallGi_same hx hO rfl (fun a ha => hargs (l.getD i default) a (by rw [List.append_assoc]; exact ha)) rfl ?_
      simp only [go_sem]
      cases hpx : p (l.getD i default) with
      | true =>
        rw [if_pos rfl]
        refine retW_same [.share] rfl rfl hO (wrm_self hO) ?_
        simp only [go_sem]
        exact (idxG_at hlt hs hpx).symm
      | false =>
        rw [if_neg (by simp)]
        refine loop_next ⟨i + 1, by omega, fun j hj => by rcases Nat.lt_succ_iff_lt_or_eq.1 hj with h | rfl; exact hs j h; exact hpx⟩ (by show l.length - (i + 1) < l.length - i; omega) (weakE_same hO (wrm_self hO) ?_)
        simp only [go_sem]
        exact ⟨by rw [renL_id, renL_id], fun i hi => hids i hi, (by rw [IntKind.wrap_i64]; omega)⟩
    · rename_i hge
      refine retW_same [.share] rfl rfl hO rfl ?_
      simp only [go_sem]
      exact (idxG_none fun j hj => hs j (by omega)).symm
theorem s_slices_ContainsFunc_ContactPoint (l : List ContactPoint) (f : FuncId) (first cap : List AV) (O : List (Nat × AObj)) (p : ContactPoint → Bool) (hl : l.length ≤ 4194304) (hO : okO O)
    (hids : ∀ i ∈ (AV.fn (.func f) first cap).ids, (ofL O i).isSome)
    (hp : ∀ x ∈ l, CallsA Tryz.prog f (first ++ [.agg x.enc] ++ cap) O (.sc (.bool (p x))) O) :
    CallsA Tryz.prog F_slices_ContainsFunc_ContactPoint [encD 6 ContactPoint.enc default l, .fn (.func f) first cap] O (.sc (.bool (l.any p))) O := by
  refine enO1 hm shOk Tryz.func106 rfl rfl ?_
  simp only [go_sem]
  refine CallGi_same (s_slices_IndexFunc_ContactPoint l f first cap O p hl hO hids hp) hO rfl ?_ rfl ?_
  · intro a ha
    simp only [List.mem_cons, List.not_mem_nil, or_false] at ha
    rcases ha with rfl | rfl
    · intro i hi; simp [AV.ids] at hi
    · exact hids
  · simp only [go_sem]
    refine retW_same [.share] rfl rfl hO (wrm_self hO) ?_
    simp only [go_sem]
    exact idxG_any p l
theorem s_slices_IndexFunc_PairKey (l : List PairKey) (f : FuncId) (first cap : List AV) (O : List (Nat × AObj)) (p : PairKey → Bool) (hl : l.length ≤ 4194304) (hO : okO O)
    (hids : ∀ i ∈ (AV.fn (.func f) first cap).ids, (ofL O i).isSome)
    (hp : ∀ x ∈ l, CallsA Tryz.prog f (first ++ [.agg x.enc] ++ cap) O (.sc (.bool (p x))) O) :
    CallsA Tryz.prog F_slices_IndexFunc_PairKey [encD 4 PairKey.enc default l, .fn (.func f) first cap] O (.sc (.int .i64 (idxG default p l))) O := by
  have hren : (AV.fn (.func f) first cap).ren id = .fn (.func f) first cap := AV.ren_id _
  have hargs : ∀ x : PairKey, ∀ a ∈ first ++ [.agg x.enc] ++ cap, ∀ i ∈ a.ids, (ofL O i).isSome := fun x a ha i hi => by
    simp only [List.mem_append, List.mem_singleton] at ha
    refine hids i ?_
    simp only [AV.ids, List.mem_append]
    rcases ha with (ha | rfl) | ha
    · obtain ⟨k, hk⟩ := List.getElem?_of_mem ha; exact .inl (mem_idsL hk i hi)
    · simp [AV.ids, go_sem] at hi
    · obtain ⟨k, hk⟩ := List.getElem?_of_mem ha; exact .inr (mem_idsL hk i hi)
  refine enO1 hm shOk Tryz.func110 rfl rfl ?_
  simp only [go_sem]
  refine Wpi_loop hm (ι := {i : Nat // i ≤ l.length ∧ ∀ j, j < i → p (l.getD j default) = false}) (fun i => [(0, .share, encD 4 PairKey.enc default l), (1, .share, .fn (.func f) first cap), (7, .share, .sc (.int .i64 l.length)), (8, .share, .sc (.int .i64 i.1))])
    (fun i => O) (fun i => l.length - i.1) ⟨0, by omega, fun j hj => by omega⟩ ?_ ?_
  · refine weakE_same hO rfl ?_
    simp only [go_sem]
    exact ⟨by rw [renL_id, renL_id], fun i hi => hids i hi⟩
  · rintro ⟨i, hi, hs⟩
    simp only [go_sem]
    split
    · rename_i hlt
      have hlt : i < l.length := by omega
      refine ⟨ok_, ?_⟩
      have hx : CallsA Tryz.prog f (first ++ .agg (l.getD i default).enc :: cap) O (.sc (.bool (p (l.getD i default)))) O := by
        have := hp (l.getD i default) (mem_getD default hlt)
        rwa [List.append_assoc] at this
      refine CallGi_same hx hO rfl (fun a ha => hargs (l.getD i default) a (by rw [List.append_assoc]; exact ha)) rfl ?_
      simp only [go_sem]
      cases hpx : p (l.getD i default) with
      | true =>
        rw [if_pos rfl]
        refine retW_same [.share] rfl rfl hO (wrm_self hO) ?_
        simp only [go_sem]
        exact (idxG_at hlt hs hpx).symm
      | false =>
        rw [if_neg (by simp)]
        refine loop_next ⟨i + 1, by omega, fun j hj => by rcases Nat.lt_succ_iff_lt_or_eq.1 hj with h | rfl; exact hs j h; exact hpx⟩ (by show l.length - (i + 1) < l.length - i; omega) (weakE_same hO (wrm_self hO) ?_)
        simp only [go_sem]
        exact ⟨by rw [renL_id, renL_id], fun i hi => hids i hi, (by rw [IntKind.wrap_i64]; omega)⟩
    · rename_i hge
      refine retW_same [.share] rfl rfl hO rfl ?_
      simp only [go_sem]
      exact (idxG_none fun j hj => hs j (by omega)).symm
theorem s_slices_ContainsFunc_PairKey (l : List PairKey) (f : FuncId) (first cap : List AV) (O : List (Nat × AObj)) (p : PairKey → Bool) (hl : l.length ≤ 4194304) (hO : okO O)
    (hids : ∀ i ∈ (AV.fn (.func f) first cap).ids, (ofL O i).isSome)
    (hp : ∀ x ∈ l, CallsA Tryz.prog f (first ++ [.agg x.enc] ++ cap) O (.sc (.bool (p x))) O) :
    CallsA Tryz.prog F_slices_ContainsFunc_PairKey [encD 4 PairKey.enc default l, .fn (.func f) first cap] O (.sc (.bool (l.any p))) O := by
  refine enO1 hm shOk Tryz.func55 rfl rfl ?_
  simp only [go_sem]
  refine CallGi_same (s_slices_IndexFunc_PairKey l f first cap O p hl hO hids hp) hO rfl ?_ rfl ?_
  · intro a ha
    simp only [List.mem_cons, List.not_mem_nil, or_false] at ha
    rcases ha with rfl | rfl
    · intro i hi; simp [AV.ids] at hi
    · exact hids
  · simp only [go_sem]
    refine retW_same [.share] rfl rfl hO (wrm_self hO) ?_
    simp only [go_sem]
    exact idxG_any p l
end Go.Abs
end
section
namespace Go.Abs
open Go.Proofs
open Api
theorem okO_nil : okO [] := ⟨by simp, by simp⟩
def d_cmp_isNaN_int (x : Int) : Bool := (x != x)
theorem s_cmp_isNaN_int (x : Int)  : CallsA Tryz.prog F_cmp_isNaN_int [.sc (.int .i64 x)] [] (.sc (.bool (d_cmp_isNaN_int x))) [] := by
  refine en1 hm shOk Tryz.func191 rfl rfl ?_
  have := d_cmp_isNaN_int.eq_1 x
  exact walk_
def d_cmp_Compare_int (x : Int) (y : Int) : Int := let v1 := (d_cmp_isNaN_int x); let v2 := (d_cmp_isNaN_int y); if v1 = true then (if v2 = true then (0) else ((-1))) else (if v2 = true then (1) else (if x < y then ((-1)) else (if y < x then (1) else (0))))
theorem s_cmp_Compare_int (x : Int) (y : Int)  : CallsA Tryz.prog F_cmp_Compare_int [.sc (.int .i64 x), .sc (.int .i64 y)] [] (.sc (.int .i64 (d_cmp_Compare_int x y))) [] := by
  refine en1 hm shOk Tryz.func176 rfl rfl ?_
  have := s_cmp_isNaN_int
  have := d_cmp_Compare_int.eq_1 x y
  exact walk_
def d_cmp_Or_int_L1 (l : List Int) (i1 : Nat) (s1 : Unit) : (Unit) ⊕ (Int) := if ((l.getD i1 0) != 0) = true then (.inr (l.getD i1 0)) else (.inl ())
def d_cmp_Or_int (l : List Int) : Int := (match itrE (d_cmp_Or_int_L1 l) l.length () with | .inr r => r | .inl s1 => 0)
theorem s_cmp_Or_int (l : List Int) (hl : l.length ≤ 1048576) : CallsA Tryz.prog F_cmp_Or_int [encD 1 encInt 0 l] [] (.sc (.int .i64 (d_cmp_Or_int l))) [] := by
  refine en1 hm shOk Tryz.func175 rfl rfl ?_
  simp only [go_sem, ite_andP, ite_orP, dec_true, dec_false]
  (repeat (with_reducible refine And.intro ?_ ?_; focus exact ob_))
  refine Wpi_loop hm (ι := {p : Nat × Unit // p.1 ≤ l.length ∧ itrE (d_cmp_Or_int_L1 l) p.1 () = .inl p.2}) (fun i => [(3, .share, .sc (.int .i64 0)), (6, .share, encD 1 encInt 0 l), (7, .share, .sc (.int .i64 (l.length : Int))), (8, .share, .sc (.int .i64 (i.1.1 : Int)))]) (fun i => []) (fun i => l.length - i.1.1) ⟨(0, ()), by omega, rfl⟩ ?_ ?_
  · refine weakE_ [] [] ?_
    simp only [go_sem, ite_andP, ite_orP, dec_true, dec_false, itr_zero]
    all_goals exact fin_
  · rintro ⟨⟨i1, s1⟩, hi1, hs1⟩
    replace hi1 : i1 ≤ l.length := hi1
    replace hs1 : itrE (d_cmp_Or_int_L1 l) i1 () = .inl s1 := hs1
    simp only [go_sem, ite_andP, ite_orP, dec_true, dec_false]
    (repeat (with_reducible refine And.intro ?_ ?_; focus exact ob_))
    by_cases h1 : (i1 : Int) < (l.length : Int)
    · first | rw [if_pos h1] | rw [if_pos (by simp_all)] | rw [if_pos (by omega)]
      have hlt1 : i1 < l.length := by first | omega | (simp only [IntKind.wrap_i64] at h1; omega)
      (repeat (with_reducible refine And.intro ?_ ?_; focus exact ob_))
      by_cases h2 : ((l.getD i1 0) != 0) = true
      · first | rw [if_pos h2] | rw [if_pos (by simp_all)] | rw [if_pos (by omega)]
        (repeat (with_reducible refine And.intro ?_ ?_; focus exact ob_))
        have e1 : itrE (d_cmp_Or_int_L1 l) (i1 + 1) () = .inr (l.getD i1 0) := itrE_inl hs1 (by first | with_reducible rfl | (unfold d_cmp_Or_int_L1; exact hd_))
        replace e1 := itrE_stop e1 (show i1 + 1 ≤ l.length by omega)
        have hd : d_cmp_Or_int l = (l.getD i1 0) := by first | with_reducible rfl | (unfold d_cmp_Or_int; exact hd_)
        try rw [hd]
        try simp only [go_sem, ite_andP, ite_orP, dec_true, dec_false]
        all_goals exact fin_
      · first | rw [if_neg h2] | rw [if_neg (by simp_all)] | rw [if_neg (by omega)]
        (repeat (with_reducible refine And.intro ?_ ?_; focus exact ob_))
        have hn : itrE (d_cmp_Or_int_L1 l) (i1 + 1) () = .inl () := itrE_inl hs1 (by first | with_reducible rfl | (unfold d_cmp_Or_int_L1; exact hd_))
        refine loop_next ⟨(i1 + 1, ()), by omega, hn⟩ (by show l.length - (i1 + 1) < l.length - i1; omega) (weakE_ [] [] ?_)
        simp only [go_sem, ite_andP, ite_orP, dec_true, dec_false]
        all_goals exact fin_
    · first | rw [if_neg h1] | rw [if_neg (by simp_all)] | rw [if_neg (by omega)]
      (repeat (with_reducible refine And.intro ?_ ?_; focus exact ob_))
      have hge : i1 = l.length := by first | omega | (simp only [IntKind.wrap_i64] at h1; omega)
      subst hge
      have hd : d_cmp_Or_int l = 0 := by first | with_reducible rfl | (unfold d_cmp_Or_int; exact hd_)
      try rw [hd]
      try simp only [go_sem, ite_andP, ite_orP, dec_true, dec_false]
      all_goals exact fin_
def d_broadphase_compare (a : PairKey) (b : PairKey) : Int := let v1 := (d_cmp_Compare_int a.BodyA b.BodyA); let v2 := (d_cmp_Compare_int a.FixtureA b.FixtureA); let v3 := (d_cmp_Compare_int a.BodyB b.BodyB); let v4 := (d_cmp_Compare_int a.FixtureB b.FixtureB); let v5 := (d_cmp_Or_int ([v1, v2, v3, v4])); v5
theorem s_broadphase_compare (a : PairKey) (b : PairKey)  : CallsA Tryz.prog F_broadphase_compare [.agg a.enc, .agg b.enc] [] (.sc (.int .i64 (d_broadphase_compare a b))) [] := by
  refine en1 hm shOk Tryz.func147 rfl rfl ?_
  simp only [go_sem, ite_andP, ite_orP, dec_true, dec_false]
  (repeat (with_reducible refine And.intro ?_ ?_; focus exact ob_))
  refine CallGi_flat (s_cmp_Compare_int a.BodyA b.BodyA ) rfl ?_
  generalize hv1 : (d_cmp_Compare_int a.BodyA b.BodyA) = v1
  simp only [go_sem, ite_andP, ite_orP, dec_true, dec_false]
  (repeat (with_reducible refine And.intro ?_ ?_; focus exact ob_))
  refine CallGi_flat (s_cmp_Compare_int a.FixtureA b.FixtureA ) rfl ?_
  generalize hv2 : (d_cmp_Compare_int a.FixtureA b.FixtureA) = v2
  simp only [go_sem, ite_andP, ite_orP, dec_true, dec_false]
  (repeat (with_reducible refine And.intro ?_ ?_; focus exact ob_))
  refine CallGi_flat (s_cmp_Compare_int a.BodyB b.BodyB ) rfl ?_
  generalize hv3 : (d_cmp_Compare_int a.BodyB b.BodyB) = v3
  simp only [go_sem, ite_andP, ite_orP, dec_true, dec_false]
  (repeat (with_reducible refine And.intro ?_ ?_; focus exact ob_))
  refine CallGi_flat (s_cmp_Compare_int a.FixtureB b.FixtureB ) rfl ?_
  generalize hv4 : (d_cmp_Compare_int a.FixtureB b.FixtureB) = v4
  simp only [go_sem, ite_andP, ite_orP, dec_true, dec_false]
  (repeat (with_reducible refine And.intro ?_ ?_; focus exact ob_))
  refine CallGi_keep (s_cmp_Or_int ([v1, v2, v3, v4]) (by (first | assumption | omega | (simp_all; done) | (simp_all; omega)))) rfl ?_ ?_
  · (try simp only [argsC, go_sem, ite_andP, ite_orP, dec_true, dec_false]); all_goals ((repeat' (with_reducible apply And.intro)) <;> first | with_reducible rfl | trivial | exact avle_lit2 (fun _ _ => rfl) rfl rfl rfl | exact avle_nilD rfl | exact avle_self _ | rfl)
  generalize hv5 : (d_cmp_Or_int ([v1, v2, v3, v4])) = v5
  simp only [go_sem, ite_andP, ite_orP, dec_true, dec_false]
  (repeat (with_reducible refine And.intro ?_ ?_; focus exact ob_))
  have hd : d_broadphase_compare a b = v5 := by first | with_reducible rfl | (unfold d_broadphase_compare; exact hd_)
  try rw [hd]
  try simp only [go_sem, ite_andP, ite_orP, dec_true, dec_false]
  all_goals exact fin_
def d_broadphase_Less (a : PairKey) (b : PairKey) : Bool := let v1 := (d_broadphase_compare a b); (decide (v1 < 0))
theorem s_broadphase_Less (a : PairKey) (b : PairKey)  : CallsA Tryz.prog F_broadphase_Less [.agg a.enc, .agg b.enc] [] (.sc (.bool (d_broadphase_Less a b))) [] := by
  refine en1 hm shOk Tryz.func109 rfl rfl ?_
  have := s_broadphase_compare
  have := d_broadphase_Less.eq_1 a b
  exact walk_
def d_broadphase_ValidKeys_L1 (l : List PairKey) (i1 : Nat) (s1 : Int × Int × Int × Int) : (Int × Int × Int × Int) ⊕ (Bool) := let v1 := (d_broadphase_valid (l.getD i1 default)); let v2 := (d_broadphase_Less (⟨s1.1, s1.2.1, s1.2.2.1, s1.2.2.2⟩ : PairKey) (l.getD i1 default)); if ((!v1) || ((decide (0 < (i1 : Int))) && ((((l.getD i1 default).BodyA == s1.1) && (((l.getD i1 default).FixtureA == s1.2.1) && (((l.getD i1 default).BodyB == s1.2.2.1) && ((l.getD i1 default).FixtureB == s1.2.2.2)))) || (!v2)))) = true then (.inr false) else (.inl ((l.getD i1 default).BodyA, (l.getD i1 default).FixtureA, (l.getD i1 default).BodyB, (l.getD i1 default).FixtureB))
def d_broadphase_ValidKeys (l : List PairKey) : Bool := (match itrE (d_broadphase_ValidKeys_L1 l) l.length (0, 0, 0, 0) with | .inr r => r | .inl s1 => true)
theorem s_broadphase_ValidKeys (l : List PairKey) (hl : l.length ≤ 1048576) : CallsA Tryz.prog F_broadphase_ValidKeys [encD 4 PairKey.enc default l] [] (.sc (.bool (d_broadphase_ValidKeys l))) [] := by
  refine en1 hm shOk Tryz.func54 rfl rfl ?_
  simp only [go_sem, ite_andP, ite_orP, dec_true, dec_false]
  (repeat (with_reducible refine And.intro ?_ ?_; focus exact ob_))
  refine Wpi_loop hm (ι := {p : Nat × (Int × Int × Int × Int) // p.1 ≤ l.length ∧ itrE (d_broadphase_ValidKeys_L1 l) p.1 (0, 0, 0, 0) = .inl p.2}) (fun i => [(3, .share, .ptr 64 0 0 1), (7, .share, encD 4 PairKey.enc default l), (8, .share, .sc (.int .i64 (l.length : Int))), (9, .share, .sc (.int .i64 (i.1.1 : Int)))]) (fun i => [(64, .box [.sc (.int .i64 i.1.2.1), .sc (.int .i64 i.1.2.2.1), .sc (.int .i64 i.1.2.2.2.1), .sc (.int .i64 i.1.2.2.2.2)])]) (fun i => l.length - i.1.1) ⟨(0, (0, 0, 0, 0)), by omega, rfl⟩ ?_ ?_
  · refine weakE_ [] [] ?_
    simp only [go_sem, ite_andP, ite_orP, dec_true, dec_false, itr_zero]
    all_goals exact fin_
  · rintro ⟨⟨i1, s1⟩, hi1, hs1⟩
    replace hi1 : i1 ≤ l.length := hi1
    replace hs1 : itrE (d_broadphase_ValidKeys_L1 l) i1 (0, 0, 0, 0) = .inl s1 := hs1
    simp only [go_sem, ite_andP, ite_orP, dec_true, dec_false]
    (repeat (with_reducible refine And.intro ?_ ?_; focus exact ob_))
    by_cases h1 : (i1 : Int) < (l.length : Int)
    · first | rw [if_pos h1] | rw [if_pos (by simp_all)] | rw [if_pos (by omega)]
      have hlt1 : i1 < l.length := by first | omega | (simp only [IntKind.wrap_i64] at h1; omega)
      (repeat (with_reducible refine And.intro ?_ ?_; focus exact ob_))
      refine CallGi_flat (s_broadphase_valid (l.getD i1 default) ) rfl ?_
      generalize hv1 : (d_broadphase_valid (l.getD i1 default)) = v1
      simp only [go_sem, ite_andP, ite_orP, dec_true, dec_false]
      (repeat (with_reducible refine And.intro ?_ ?_; focus exact ob_))
      refine CallGi_flat (s_broadphase_Less (⟨s1.1, s1.2.1, s1.2.2.1, s1.2.2.2⟩ : PairKey) (l.getD i1 default) ) rfl ?_
      generalize hv2 : (d_broadphase_Less (⟨s1.1, s1.2.1, s1.2.2.1, s1.2.2.2⟩ : PairKey) (l.getD i1 default)) = v2
      simp only [go_sem, ite_andP, ite_orP, dec_true, dec_false]
      (repeat (with_reducible refine And.intro ?_ ?_; focus exact ob_))
      by_cases h2 : ((!v1) || ((decide (0 < (i1 : Int))) && ((((l.getD i1 default).BodyA == s1.1) && (((l.getD i1 default).FixtureA == s1.2.1) && (((l.getD i1 default).BodyB == s1.2.2.1) && ((l.getD i1 default).FixtureB == s1.2.2.2)))) || (!v2)))) = true
      · first | rw [if_pos h2] | rw [if_pos (by simp_all)] | rw [if_pos (by omega)]
        (repeat (with_reducible refine And.intro ?_ ?_; focus exact ob_))
        have e1 : itrE (d_broadphase_ValidKeys_L1 l) (i1 + 1) (0, 0, 0, 0) = .inr false := itrE_inl hs1 (by first | with_reducible rfl | (unfold d_broadphase_ValidKeys_L1; exact hd_))
        replace e1 := itrE_stop e1 (show i1 + 1 ≤ l.length by omega)
        have hd : d_broadphase_ValidKeys l = false := by first | with_reducible rfl | (unfold d_broadphase_ValidKeys; exact hd_)
        try rw [hd]
        try simp only [go_sem, ite_andP, ite_orP, dec_true, dec_false]
        all_goals exact fin_
      · first | rw [if_neg h2] | rw [if_neg (by simp_all)] | rw [if_neg (by omega)]
        (repeat (with_reducible refine And.intro ?_ ?_; focus exact ob_))
        have hn : itrE (d_broadphase_ValidKeys_L1 l) (i1 + 1) (0, 0, 0, 0) = .inl ((l.getD i1 default).BodyA, (l.getD i1 default).FixtureA, (l.getD i1 default).BodyB, (l.getD i1 default).FixtureB) := itrE_inl hs1 (by first | with_reducible rfl | (unfold d_broadphase_ValidKeys_L1; exact hd_))
        refine loop_next ⟨(i1 + 1, ((l.getD i1 default).BodyA, (l.getD i1 default).FixtureA, (l.getD i1 default).BodyB, (l.getD i1 default).FixtureB)), by omega, hn⟩ (by show l.length - (i1 + 1) < l.length - i1; omega) (weakE_ [] [] ?_)
        simp only [go_sem, ite_andP, ite_orP, dec_true, dec_false]
        all_goals exact fin_
    · first | rw [if_neg h1] | rw [if_neg (by simp_all)] | rw [if_neg (by omega)]
      (repeat (with_reducible refine And.intro ?_ ?_; focus exact ob_))
      have hge : i1 = l.length := by first | omega | (simp only [IntKind.wrap_i64] at h1; omega)
      subst hge
      have hd : d_broadphase_ValidKeys l = true := by first | with_reducible rfl | (unfold d_broadphase_ValidKeys; exact hd_)
      try rw [hd]
      try simp only [go_sem, ite_andP, ite_orP, dec_true, dec_false]
      all_goals exact fin_
def d_r22_ValidKeys_L1 (l : List PairKey) (i1 : Nat) (s1 : Unit) : (Unit) ⊕ (Bool) := let v1 := (d_r22_Less (l.getD (IntKind.i64.wrap ((i1 : Int) - 1)).toNat default) (l.getD i1 default)); if ((((((decide ((l.getD i1 default).BodyB ≤ (l.getD i1 default).BodyA)) || (decide ((l.getD i1 default).FixtureA < 0))) || (decide (3 < (l.getD i1 default).FixtureA))) || (decide ((l.getD i1 default).FixtureB < 0))) || (decide (3 < (l.getD i1 default).FixtureB))) || ((decide (0 < (i1 : Int))) && (!v1))) = true then (.inr false) else (.inl ())
def d_r22_ValidKeys (l : List PairKey) : Bool := (match itrE (d_r22_ValidKeys_L1 l) l.length () with | .inr r => r | .inl s1 => true)
theorem s_r22_ValidKeys (l : List PairKey) (hl : l.length ≤ 1048576) : CallsA Tryz.prog F_r22_ValidKeys [encD 4 PairKey.enc default l] [] (.sc (.bool (d_r22_ValidKeys l))) [] := by
  refine en1 hm shOk Tryz.func129 rfl rfl ?_
  simp only [go_sem, ite_andP, ite_orP, dec_true, dec_false]
  (repeat (with_reducible refine And.intro ?_ ?_; focus exact ob_))
  refine Wpi_loop hm (ι := {p : Nat × Unit // p.1 ≤ l.length ∧ itrE (d_r22_ValidKeys_L1 l) p.1 () = .inl p.2}) (fun i => [(0, .share, encD 4 PairKey.enc default l), (3, .share, .sc (.int .i64 (i.1.1 : Int)))]) (fun i => []) (fun i => l.length - i.1.1) ⟨(0, ()), by omega, rfl⟩ ?_ ?_
  · refine weakE_ [] [] ?_
    simp only [go_sem, ite_andP, ite_orP, dec_true, dec_false, itr_zero]
    all_goals exact fin_
  · rintro ⟨⟨i1, s1⟩, hi1, hs1⟩
    replace hi1 : i1 ≤ l.length := hi1
    replace hs1 : itrE (d_r22_ValidKeys_L1 l) i1 () = .inl s1 := hs1
    simp only [go_sem, ite_andP, ite_orP, dec_true, dec_false]
    (repeat (with_reducible refine And.intro ?_ ?_; focus exact ob_))
    by_cases h1 : (i1 : Int) < (l.length : Int)
    · first | rw [if_pos h1] | rw [if_pos (by simp_all)] | rw [if_pos (by omega)]
      have hlt1 : i1 < l.length := by first | omega | (simp only [IntKind.wrap_i64] at h1; omega)
      (repeat (with_reducible refine And.intro ?_ ?_; focus exact ob_))
      refine CallGi_flat (s_r22_Less (l.getD (IntKind.i64.wrap ((i1 : Int) - 1)).toNat default) (l.getD i1 default) ) rfl ?_
      generalize hv1 : (d_r22_Less (l.getD (IntKind.i64.wrap ((i1 : Int) - 1)).toNat default) (l.getD i1 default)) = v1
      simp only [go_sem, ite_andP, ite_orP, dec_true, dec_false]
      (repeat (with_reducible refine And.intro ?_ ?_; focus exact ob_))
      by_cases h2 : ((((((decide ((l.getD i1 default).BodyB ≤ (l.getD i1 default).BodyA)) || (decide ((l.getD i1 default).FixtureA < 0))) || (decide (3 < (l.getD i1 default).FixtureA))) || (decide ((l.getD i1 default).FixtureB < 0))) || (decide (3 < (l.getD i1 default).FixtureB))) || ((decide (0 < (i1 : Int))) && (!v1))) = true
      · first | rw [if_pos h2] | rw [if_pos (by simp_all)] | rw [if_pos (by omega)]
        (repeat (with_reducible refine And.intro ?_ ?_; focus exact ob_))
        have e1 : itrE (d_r22_ValidKeys_L1 l) (i1 + 1) () = .inr false := itrE_inl hs1 (by first | with_reducible rfl | (unfold d_r22_ValidKeys_L1; exact hd_))
        replace e1 := itrE_stop e1 (show i1 + 1 ≤ l.length by omega)
        have hd : d_r22_ValidKeys l = false := by first | with_reducible rfl | (unfold d_r22_ValidKeys; exact hd_)
        try rw [hd]
        try simp only [go_sem, ite_andP, ite_orP, dec_true, dec_false]
        all_goals exact fin_
      · first | rw [if_neg h2] | rw [if_neg (by simp_all)] | rw [if_neg (by omega)]
        (repeat (with_reducible refine And.intro ?_ ?_; focus exact ob_))
        have hn : itrE (d_r22_ValidKeys_L1 l) (i1 + 1) () = .inl () := itrE_inl hs1 (by first | with_reducible rfl | (unfold d_r22_ValidKeys_L1; exact hd_))
        refine loop_next ⟨(i1 + 1, ()), by omega, hn⟩ (by show l.length - (i1 + 1) < l.length - i1; omega) (weakE_ [] [] ?_)
        simp only [go_sem, ite_andP, ite_orP, dec_true, dec_false]
        all_goals exact fin_
    · first | rw [if_neg h1] | rw [if_neg (by simp_all)] | rw [if_neg (by omega)]
      (repeat (with_reducible refine And.intro ?_ ?_; focus exact ob_))
      have hge : i1 = l.length := by first | omega | (simp only [IntKind.wrap_i64] at h1; omega)
      subst hge
      have hd : d_r22_ValidKeys l = true := by first | with_reducible rfl | (unfold d_r22_ValidKeys; exact hd_)
      try rw [hd]
      try simp only [go_sem, ite_andP, ite_orP, dec_true, dec_false]
      all_goals exact fin_
def d_shape_Validate_f1 (v : Vec) : Bool := let v1 := (d_shape_outOfRange v.X); let v2 := (d_shape_outOfRange v.Y); (v1 || v2)
theorem s_shape_Validate_f1 (v : Vec)  : CallsA Tryz.prog F_shape_Validate_f1 [.agg v.enc] [] (.sc (.bool (d_shape_Validate_f1 v))) [] := by
  refine en1 hm shOk Tryz.func166 rfl rfl ?_
  have := s_shape_outOfRange
  have := d_shape_Validate_f1.eq_1 v
  exact walk_
def d_shape_Validate (s : Shape) : Int := if ((decide (s.Kind < 1)) || (decide (3 < s.Kind))) = true then (10) else (let v1 := (d_shape_validCount s); if v1 = false then (11) else (if (s.Vertices.any (fun x => (d_shape_Validate_f1 x))) = true then (6) else (if ((s.Kind == 3) && (s.Radius != 0)) = true then (if ((s.Kind == 3) && (s.Radius != 0)) = true then (6) else (let v2 := (subV (s.Vertices.getD 1 default) (s.Vertices.getD 0 default)); let v3 := (lenV v2); if ((s.Kind == 2) && (decide (v3 < 4096))) = true then (12) else (let v4 := (d_polygon_IsConvex s.Vertices); let v5 := (d_polygon_ShortestEdge s.Vertices); let v6 := (d_polygon_Area s.Vertices); if ((s.Kind == 3) && (((!v4) || (decide (v5 < 4096))) || (decide (v6 < 256)))) = true then (12) else (0)))) else (if ((s.Kind != 3) && ((decide (s.Radius < 2048)) || (decide (524288 < s.Radius)))) = true then (6) else (let v7 := (subV (s.Vertices.getD 1 default) (s.Vertices.getD 0 default)); let v8 := (lenV v7); if ((s.Kind == 2) && (decide (v8 < 4096))) = true then (12) else (let v9 := (d_polygon_IsConvex s.Vertices); let v10 := (d_polygon_ShortestEdge s.Vertices); let v11 := (d_polygon_Area s.Vertices); if ((s.Kind == 3) && (((!v9) || (decide (v10 < 4096))) || (decide (v11 < 256)))) = true then (12) else (0)))))))
theorem s_shape_Validate (s : Shape) (hn : s.Vertices.length ≤ 1048576) : CallsA Tryz.prog F_shape_Validate [.agg s.enc] [] (.sc (.int .i64 (d_shape_Validate s))) [] := by
  refine en1 hm shOk Tryz.func138 rfl rfl ?_
  have := vcount s
  have := s_shape_validCount
  have := (s_slices_ContainsFunc_Vec s.Vertices F_shape_Validate_f1 [] [] [] (fun x => (d_shape_Validate_f1 x)) (by (first | assumption | omega | (simp_all; done) | (simp_all; omega))) okO_nil (by simp [AV.ids, idsL]) (fun x _ => s_shape_Validate_f1 x))
  have := s_vec2_Sub
  have := s_vec2_Length
  have := convex_len s.Vertices
  have := s_polygon_IsConvex
  have := s_polygon_ShortestEdge
  have := s_polygon_Area
  have := d_shape_Validate.eq_1 s
  exact walk_
def d_r12_Validate_L1 (s : Shape) (i1 : Nat) (s1 : Unit) : (Unit) ⊕ (Int) := if ((!(inR (s.Vertices.getD i1 default).X (-1048576) 1048576)) || (!(inR (s.Vertices.getD i1 default).Y (-1048576) 1048576))) = true then (.inr 6) else (.inl ())
def d_r12_Validate (s : Shape) : Int := if ((decide (s.Kind < 1)) || (decide (3 < s.Kind))) = true then (10) else (let v1 := (d_r12_countMatches s); if v1 = false then (11) else ((match itrE (d_r12_Validate_L1 s) s.Vertices.length () with | .inr r => r | .inl s1 => if (((s.Kind == 3) && (s.Radius != 0)) || ((s.Kind != 3) && ((decide (s.Radius < 2048)) || (decide (524288 < s.Radius))))) = true then (6) else (let v4 := (subV (s.Vertices.getD 1 default) (s.Vertices.getD 0 default)); let v5 := (lenV v4); if ((s.Kind == 2) && (decide (v5 < 4096))) = true then (12) else (let v6 := (d_r11_IsConvex s.Vertices); let v7 := (d_r11_ShortestEdge s.Vertices); let v8 := (d_r11_Area s.Vertices); if ((s.Kind == 3) && (((!v6) || (decide (v7 < 4096))) || (decide (v8 < 256)))) = true then (12) else (0))))))
theorem s_r12_Validate (s : Shape) (hn : s.Vertices.length ≤ 1048576) : CallsA Tryz.prog F_r12_Validate [.agg s.enc] [] (.sc (.int .i64 (d_r12_Validate s))) [] := by
  refine en1 hm shOk Tryz.func179 rfl rfl ?_
  simp only [go_sem, ite_andP, ite_orP, dec_true, dec_false]
  (repeat (with_reducible refine And.intro ?_ ?_; focus exact ob_))
  by_cases h1 : ((decide (s.Kind < 1)) || (decide (3 < s.Kind))) = true
  · first | rw [if_pos h1] | rw [if_pos (by simp_all)] | rw [if_pos (by omega)]
    (repeat (with_reducible refine And.intro ?_ ?_; focus exact ob_))
    have hd : d_r12_Validate s = 10 := by first | with_reducible rfl | (unfold d_r12_Validate; exact hd_)
    try rw [hd]
    try simp only [go_sem, ite_andP, ite_orP, dec_true, dec_false]
    all_goals exact fin_
  · first | rw [if_neg h1] | rw [if_neg (by simp_all)] | rw [if_neg (by omega)]
    (repeat (with_reducible refine And.intro ?_ ?_; focus exact ob_))
    have p2 := rcount s
    refine CallGi_flat (s_r12_countMatches s ) rfl ?_
    generalize hv1 : (d_r12_countMatches s) = v1 at *
    simp only [go_sem, ite_andP, ite_orP, dec_true, dec_false]
    (repeat (with_reducible refine And.intro ?_ ?_; focus exact ob_))
    by_cases h3 : v1 = false
    · first | rw [if_pos h3] | rw [if_pos (by simp_all)] | rw [if_pos (by omega)]
      (repeat (with_reducible refine And.intro ?_ ?_; focus exact ob_))
      have hd : d_r12_Validate s = 11 := by first | with_reducible rfl | (unfold d_r12_Validate; exact hd_)
      try rw [hd]
      try simp only [go_sem, ite_andP, ite_orP, dec_true, dec_false]
      all_goals exact fin_
    · first | rw [if_neg h3] | rw [if_neg (by simp_all)] | rw [if_neg (by omega)]
      (repeat (with_reducible refine And.intro ?_ ?_; focus exact ob_))
      refine Wpi_loop hm (ι := {p : Nat × Unit // p.1 ≤ s.Vertices.length ∧ itrE (d_r12_Validate_L1 s) p.1 () = .inl p.2}) (fun i => [(1, .share, .ptr 32 0 0 1), (3, .share, .sc (.int .i64 (i.1.1 : Int)))]) (fun i => [(32, .box [.sc (.int .i64 s.Kind), .sc (.int .i64 s.Radius), encD 2 Vec.enc default s.Vertices])]) (fun i => s.Vertices.length - i.1.1) ⟨(0, ()), by omega, rfl⟩ ?_ ?_
      · refine weakE_ [] [] ?_
        simp only [go_sem, ite_andP, ite_orP, dec_true, dec_false, itr_zero]
        all_goals exact fin_
      · rintro ⟨⟨i1, s1⟩, hi1, hs1⟩
        replace hi1 : i1 ≤ s.Vertices.length := hi1
        replace hs1 : itrE (d_r12_Validate_L1 s) i1 () = .inl s1 := hs1
        simp only [go_sem, ite_andP, ite_orP, dec_true, dec_false]
        (repeat (with_reducible refine And.intro ?_ ?_; focus exact ob_))
        by_cases h4 : (i1 : Int) < (s.Vertices.length : Int)
        · first | rw [if_pos h4] | rw [if_pos (by simp_all)] | rw [if_pos (by omega)]
          have hlt1 : i1 < s.Vertices.length := by first | omega | (simp only [IntKind.wrap_i64] at h4; omega)
          (repeat (with_reducible refine And.intro ?_ ?_; focus exact ob_))
          refine CallGi_flat (s_r12_within (s.Vertices.getD i1 default).X 1048576 (by decide) (by decide)) rfl ?_
          simp only [go_sem, ite_andP, ite_orP, dec_true, dec_false]
          (repeat (with_reducible refine And.intro ?_ ?_; focus exact ob_))
          refine CallGi_flat (s_r12_within (s.Vertices.getD i1 default).Y 1048576 (by decide) (by decide)) rfl ?_
          simp only [go_sem, ite_andP, ite_orP, dec_true, dec_false]
          (repeat (with_reducible refine And.intro ?_ ?_; focus exact ob_))
          by_cases h5 : ((!(inR (s.Vertices.getD i1 default).X (-1048576) 1048576)) || (!(inR (s.Vertices.getD i1 default).Y (-1048576) 1048576))) = true
          · first | rw [if_pos h5] | rw [if_pos (by simp_all)] | rw [if_pos (by omega)]
            (repeat (with_reducible refine And.intro ?_ ?_; focus exact ob_))
            have e1 : itrE (d_r12_Validate_L1 s) (i1 + 1) () = .inr 6 := itrE_inl hs1 (by first | with_reducible rfl | (unfold d_r12_Validate_L1; exact hd_))
            replace e1 := itrE_stop e1 (show i1 + 1 ≤ s.Vertices.length by omega)
            have hd : d_r12_Validate s = 6 := by first | with_reducible rfl | (unfold d_r12_Validate; exact hd_)
            try rw [hd]
            try simp only [go_sem, ite_andP, ite_orP, dec_true, dec_false]
            all_goals exact fin_
          · first | rw [if_neg h5] | rw [if_neg (by simp_all)] | rw [if_neg (by omega)]
            (repeat (with_reducible refine And.intro ?_ ?_; focus exact ob_))
            have hn : itrE (d_r12_Validate_L1 s) (i1 + 1) () = .inl () := itrE_inl hs1 (by first | with_reducible rfl | (unfold d_r12_Validate_L1; exact hd_))
            refine loop_next ⟨(i1 + 1, ()), by omega, hn⟩ (by show s.Vertices.length - (i1 + 1) < s.Vertices.length - i1; omega) (weakE_ [] [] ?_)
            simp only [go_sem, ite_andP, ite_orP, dec_true, dec_false]
            all_goals exact fin_
        · first | rw [if_neg h4] | rw [if_neg (by simp_all)] | rw [if_neg (by omega)]
          (repeat (with_reducible refine And.intro ?_ ?_; focus exact ob_))
          have hge : i1 = s.Vertices.length := by first | omega | (simp only [IntKind.wrap_i64] at h4; omega)
          subst hge
          by_cases h6 : (((s.Kind == 3) && (s.Radius != 0)) || ((s.Kind != 3) && ((decide (s.Radius < 2048)) || (decide (524288 < s.Radius))))) = true
          · first | rw [if_pos h6] | rw [if_pos (by simp_all)] | rw [if_pos (by omega)]
            (repeat (with_reducible refine And.intro ?_ ?_; focus exact ob_))
            have hd : d_r12_Validate s = 6 := by first | with_reducible rfl | (unfold d_r12_Validate; exact hd_)
            try rw [hd]
            try simp only [go_sem, ite_andP, ite_orP, dec_true, dec_false]
            all_goals exact fin_
          · first | rw [if_neg h6] | rw [if_neg (by simp_all)] | rw [if_neg (by omega)]
            (repeat (with_reducible refine And.intro ?_ ?_; focus exact ob_))
            refine CallGi_flat (s_r03_Sub (s.Vertices.getD 1 default) (s.Vertices.getD 0 default) ) rfl ?_
            generalize hv4 : (subV (s.Vertices.getD 1 default) (s.Vertices.getD 0 default)) = v4
            simp only [go_sem, ite_andP, ite_orP, dec_true, dec_false]
            (repeat (with_reducible refine And.intro ?_ ?_; focus exact ob_))
            refine CallGi_flat (s_r03_Length v4 ) rfl ?_
            generalize hv5 : (lenV v4) = v5
            simp only [go_sem, ite_andP, ite_orP, dec_true, dec_false]
            (repeat (with_reducible refine And.intro ?_ ?_; focus exact ob_))
            by_cases h7 : ((s.Kind == 2) && (decide (v5 < 4096))) = true
            · first | rw [if_pos h7] | rw [if_pos (by simp_all)] | rw [if_pos (by omega)]
              (repeat (with_reducible refine And.intro ?_ ?_; focus exact ob_))
              have hd : d_r12_Validate s = 12 := by first | with_reducible rfl | (unfold d_r12_Validate; exact hd_)
              try rw [hd]
              try simp only [go_sem, ite_andP, ite_orP, dec_true, dec_false]
              all_goals exact fin_
            · first | rw [if_neg h7] | rw [if_neg (by simp_all)] | rw [if_neg (by omega)]
              (repeat (with_reducible refine And.intro ?_ ?_; focus exact ob_))
              refine CallGi_flat (s_r11_IsConvex s.Vertices (by (first | assumption | omega | (simp_all; done) | (simp_all; omega)))) rfl ?_
              generalize hv6 : (d_r11_IsConvex s.Vertices) = v6
              simp only [go_sem, ite_andP, ite_orP, dec_true, dec_false]
              (repeat (with_reducible refine And.intro ?_ ?_; focus exact ob_))
              refine CallGi_flat (s_r11_ShortestEdge s.Vertices (by (first | assumption | omega | (simp_all; done) | (simp_all; omega)))) rfl ?_
              generalize hv7 : (d_r11_ShortestEdge s.Vertices) = v7
              simp only [go_sem, ite_andP, ite_orP, dec_true, dec_false]
              (repeat (with_reducible refine And.intro ?_ ?_; focus exact ob_))
              refine CallGi_flat (s_r11_Area s.Vertices (by (first | assumption | omega | (simp_all; done) | (simp_all; omega)))) rfl ?_
              generalize hv8 : (d_r11_Area s.Vertices) = v8
              simp only [go_sem, ite_andP, ite_orP, dec_true, dec_false]
              (repeat (with_reducible refine And.intro ?_ ?_; focus exact ob_))
              by_cases h8 : ((s.Kind == 3) && (((!v6) || (decide (v7 < 4096))) || (decide (v8 < 256)))) = true
              · first | rw [if_pos h8] | rw [if_pos (by simp_all)] | rw [if_pos (by omega)]
                (repeat (with_reducible refine And.intro ?_ ?_; focus exact ob_))
                have hd : d_r12_Validate s = 12 := by first | with_reducible rfl | (unfold d_r12_Validate; exact hd_)
                try rw [hd]
                try simp only [go_sem, ite_andP, ite_orP, dec_true, dec_false]
                all_goals exact fin_
              · first | rw [if_neg h8] | rw [if_neg (by simp_all)] | rw [if_neg (by omega)]
                (repeat (with_reducible refine And.intro ?_ ?_; focus exact ob_))
                have hd : d_r12_Validate s = 0 := by first | with_reducible rfl | (unfold d_r12_Validate; exact hd_)
                try rw [hd]
                try simp only [go_sem, ite_andP, ite_orP, dec_true, dec_false]
                all_goals exact fin_
def d_body_ValidateFixture (f : Fixture) : Int := let v1 := (d_shape_Validate f.Shape); if (v1 != 0) = true then (v1) else (if ((!(((inR f.Density 0 262144) && (inR f.Friction 0 131072)) && (inR f.Restitution 0 65536))) || (!(((inR f.Category 0 65535) && (inR f.Mask 0 65535)) && (inR f.Group (-32) 32)))) = true then (6) else (0))
theorem s_body_ValidateFixture (f : Fixture) (hn : f.Shape.Vertices.length ≤ 1048576) : CallsA Tryz.prog F_body_ValidateFixture [.agg f.enc] [] (.sc (.int .i64 (d_body_ValidateFixture f))) [] := by
  refine en1 hm shOk Tryz.func98 rfl rfl ?_
  have := s_shape_Validate
  have := s_body_within
  have := d_body_ValidateFixture.eq_1 f
  exact walk_
def d_r23_ValidateFixture (f : Fixture) : Int := let v1 := (d_r12_Validate f.Shape); if (v1 != 0) = true then (v1) else (if ((((((!(inR f.Density 0 262144)) || (!(inR f.Friction 0 131072))) || (!(inR f.Restitution 0 65536))) || (!(inR f.Category 0 65535))) || (!(inR f.Mask 0 65535))) || (!(inR f.Group (-32) 32))) = true then (6) else (0))
theorem s_r23_ValidateFixture (f : Fixture) (hn : f.Shape.Vertices.length ≤ 1048576) : CallsA Tryz.prog F_r23_ValidateFixture [.agg f.enc] [] (.sc (.int .i64 (d_r23_ValidateFixture f))) [] := by
  refine en1 hm shOk Tryz.func155 rfl rfl ?_
  have := s_r12_Validate
  have := s_r23_in
  have := d_r23_ValidateFixture.eq_1 f
  exact walk_
def d_world_saturated_f1 (n : Int) : Bool := (!(inR n (-536870911) 536870911))
theorem s_world_saturated_f1 (n : Int)  : CallsA Tryz.prog F_world_saturated_f1 [.sc (.int .i64 n)] [] (.sc (.bool (d_world_saturated_f1 n))) [] := by
  refine en1 hm shOk Tryz.func145 rfl rfl ?_
  have := s_world_in
  have := d_world_saturated_f1.eq_1 n
  exact walk_
def d_world_saturated (l : List Int) : Bool := (!(l.any (fun x => (d_world_saturated_f1 x))))
theorem s_world_saturated (l : List Int) (hl : l.length ≤ 1048576) : CallsA Tryz.prog F_world_saturated [encD 1 encInt 0 l] [] (.sc (.bool (d_world_saturated l))) [] := by
  refine en1 hm shOk Tryz.func105 rfl rfl ?_
  have := (s_slices_ContainsFunc_int l F_world_saturated_f1 [] [] [] (fun x => (d_world_saturated_f1 x)) (by (first | assumption | omega | (simp_all; done) | (simp_all; omega))) okO_nil (by simp [AV.ids, idsL]) (fun x _ => s_world_saturated_f1 x))
  have := d_world_saturated.eq_1 l
  exact walk_
def d_world_validManifold_f1 (p : ContactPoint) : Bool := if (decide (p.NormalImpulse < 0)) = false then (let v1 := (d_world_saturated ([p.Point.X, p.Point.Y, p.Separation, p.ID, p.NormalImpulse, p.TangentImpulse])); ((decide (p.NormalImpulse < 0)) || (!v1))) else (true)
theorem s_world_validManifold_f1 (p : ContactPoint)  : CallsA Tryz.prog F_world_validManifold_f1 [.agg p.enc] [] (.sc (.bool (d_world_validManifold_f1 p))) [] := by
  refine en1 hm shOk Tryz.func107 rfl rfl ?_
  simp only [go_sem, ite_andP, ite_orP, dec_true, dec_false]
  (repeat (with_reducible refine And.intro ?_ ?_; focus exact ob_))
  by_cases h1 : (decide (p.NormalImpulse < 0)) = false
  · first | rw [if_pos h1] | rw [if_pos (by simp_all)] | rw [if_pos (by omega)]
    (repeat (with_reducible refine And.intro ?_ ?_; focus exact ob_))
    refine CallGi_keep (s_world_saturated ([p.Point.X, p.Point.Y, p.Separation, p.ID, p.NormalImpulse, p.TangentImpulse]) (by (first | assumption | omega | (simp_all; done) | (simp_all; omega)))) rfl ?_ ?_
    · (try simp only [argsC, go_sem, ite_andP, ite_orP, dec_true, dec_false]); all_goals ((repeat' (with_reducible apply And.intro)) <;> first | with_reducible rfl | trivial | exact avle_lit2 (fun _ _ => rfl) rfl rfl rfl | exact avle_nilD rfl | exact avle_self _ | rfl)
    generalize hv1 : (d_world_saturated ([p.Point.X, p.Point.Y, p.Separation, p.ID, p.NormalImpulse, p.TangentImpulse])) = v1
    simp only [go_sem, ite_andP, ite_orP, dec_true, dec_false]
    (repeat (with_reducible refine And.intro ?_ ?_; focus exact ob_))
    have hd : d_world_validManifold_f1 p = ((decide (p.NormalImpulse < 0)) || (!v1)) := by first | with_reducible rfl | (unfold d_world_validManifold_f1; exact hd_)
    try rw [hd]
    try simp only [go_sem, ite_andP, ite_orP, dec_true, dec_false]
    all_goals exact fin_
  · first | rw [if_neg h1] | rw [if_neg (by simp_all)] | rw [if_neg (by omega)]
    (repeat (with_reducible refine And.intro ?_ ?_; focus exact ob_))
    have hd : d_world_validManifold_f1 p = true := by first | with_reducible rfl | (unfold d_world_validManifold_f1; exact hd_)
    try rw [hd]
    try simp only [go_sem, ite_andP, ite_orP, dec_true, dec_false]
    all_goals exact fin_
def d_world_validManifold (m : Manifold) : Bool := if (((decide ((m.Points.length : Int) < 1)) || (decide (2 < (m.Points.length : Int)))) || (((m.Points.length : Int) == 2) && ((m.Points.getD 0 default).ID == (m.Points.getD 1 default).ID))) = false then (let v1 := (d_world_saturated ([m.Normal.X, m.Normal.Y])); if ((((decide ((m.Points.length : Int) < 1)) || (decide (2 < (m.Points.length : Int)))) || (((m.Points.length : Int) == 2) && ((m.Points.getD 0 default).ID == (m.Points.getD 1 default).ID))) || (!v1)) = true then (false) else ((!(m.Points.any (fun x => (d_world_validManifold_f1 x)))))) else (false)
theorem s_world_validManifold (m : Manifold) (hl : m.Points.length ≤ 1048576) : CallsA Tryz.prog F_world_validManifold [.agg m.enc] [] (.sc (.bool (d_world_validManifold m))) [] := by
  refine en1 hm shOk Tryz.func53 rfl rfl ?_
  simp only [go_sem, ite_andP, ite_orP, dec_true, dec_false]
  (repeat (with_reducible refine And.intro ?_ ?_; focus exact ob_))
  by_cases h1 : (((decide ((m.Points.length : Int) < 1)) || (decide (2 < (m.Points.length : Int)))) || (((m.Points.length : Int) == 2) && ((m.Points.getD 0 default).ID == (m.Points.getD 1 default).ID))) = false
  · first | rw [if_pos h1] | rw [if_pos (by simp_all)] | rw [if_pos (by omega)]
    (repeat (with_reducible refine And.intro ?_ ?_; focus exact ob_))
    refine CallGi_keep (s_world_saturated ([m.Normal.X, m.Normal.Y]) (by (first | assumption | omega | (simp_all; done) | (simp_all; omega)))) rfl ?_ ?_
    · (try simp only [argsC, go_sem, ite_andP, ite_orP, dec_true, dec_false]); all_goals ((repeat' (with_reducible apply And.intro)) <;> first | with_reducible rfl | trivial | exact avle_lit2 (fun _ _ => rfl) rfl rfl rfl | exact avle_nilD rfl | exact avle_self _ | rfl)
    generalize hv1 : (d_world_saturated ([m.Normal.X, m.Normal.Y])) = v1
    simp only [go_sem, ite_andP, ite_orP, dec_true, dec_false]
    (repeat (with_reducible refine And.intro ?_ ?_; focus exact ob_))
    by_cases h2 : ((((decide ((m.Points.length : Int) < 1)) || (decide (2 < (m.Points.length : Int)))) || (((m.Points.length : Int) == 2) && ((m.Points.getD 0 default).ID == (m.Points.getD 1 default).ID))) || (!v1)) = true
    · first | rw [if_pos h2] | rw [if_pos (by simp_all)] | rw [if_pos (by omega)]
      (repeat (with_reducible refine And.intro ?_ ?_; focus exact ob_))
      have hd : d_world_validManifold m = false := by first | with_reducible rfl | (unfold d_world_validManifold; exact hd_)
      try rw [hd]
      try simp only [go_sem, ite_andP, ite_orP, dec_true, dec_false]
      all_goals exact fin_
    · first | rw [if_neg h2] | rw [if_neg (by simp_all)] | rw [if_neg (by omega)]
      (repeat (with_reducible refine And.intro ?_ ?_; focus exact ob_))
      refine CallGi_flat (s_slices_ContainsFunc_ContactPoint m.Points F_world_validManifold_f1 [] [] [] (fun x => (d_world_validManifold_f1 x)) (by (first | assumption | omega | (simp_all; done) | (simp_all; omega))) okO_nil (by simp [AV.ids, idsL]) (fun x _ => s_world_validManifold_f1 x)) rfl ?_
      simp only [go_sem, ite_andP, ite_orP, dec_true, dec_false]
      (repeat (with_reducible refine And.intro ?_ ?_; focus exact ob_))
      have hd : d_world_validManifold m = (!(m.Points.any (fun x => (d_world_validManifold_f1 x)))) := by first | with_reducible rfl | (unfold d_world_validManifold; exact hd_)
      try rw [hd]
      try simp only [go_sem, ite_andP, ite_orP, dec_true, dec_false]
      all_goals exact fin_
  · first | rw [if_neg h1] | rw [if_neg (by simp_all)] | rw [if_neg (by omega)]
    (repeat (with_reducible refine And.intro ?_ ?_; focus exact ob_))
    have hd : d_world_validManifold m = false := by first | with_reducible rfl | (unfold d_world_validManifold; exact hd_)
    try rw [hd]
    try simp only [go_sem, ite_andP, ite_orP, dec_true, dec_false]
    all_goals exact fin_
def d_r25_validPoints_L1 (m : Manifold) (i1 : Nat) (s1 : Unit) : (Unit) ⊕ (Bool) := let v4 := (d_r25_saturated (m.Points.getD i1 default).Point); let v5 := (d_r25_saturated (⟨(m.Points.getD i1 default).Separation, (m.Points.getD i1 default).ID⟩ : Vec)); if ((((!(inR (m.Points.getD i1 default).NormalImpulse 0 536870911)) || (!(inR (m.Points.getD i1 default).TangentImpulse (-536870911) 536870911))) || (!v4)) || (!v5)) = true then (.inr false) else (.inl ())
def d_r25_validPoints (m : Manifold) : Bool := let v1 := (d_r25_saturated m.Normal); if ((((decide ((m.Points.length : Int) < 1)) || (decide (2 < (m.Points.length : Int)))) || (((m.Points.length : Int) == 2) && ((m.Points.getD 0 default).ID == (m.Points.getD 1 default).ID))) || (!v1)) = true then (false) else ((match itrE (d_r25_validPoints_L1 m) m.Points.length () with | .inr r => r | .inl s1 => true))
theorem s_r25_validPoints (m : Manifold) (hl : m.Points.length ≤ 1048576) : CallsA Tryz.prog F_r25_validPoints [.agg m.enc] [] (.sc (.bool (d_r25_validPoints m))) [] := by
  refine en1 hm shOk Tryz.func131 rfl rfl ?_
  simp only [go_sem, ite_andP, ite_orP, dec_true, dec_false]
  (repeat (with_reducible refine And.intro ?_ ?_; focus exact ob_))
  refine CallGi_flat (s_r25_saturated m.Normal ) rfl ?_
  generalize hv1 : (d_r25_saturated m.Normal) = v1
  simp only [go_sem, ite_andP, ite_orP, dec_true, dec_false]
  (repeat (with_reducible refine And.intro ?_ ?_; focus exact ob_))
  by_cases h1 : ((((decide ((m.Points.length : Int) < 1)) || (decide (2 < (m.Points.length : Int)))) || (((m.Points.length : Int) == 2) && ((m.Points.getD 0 default).ID == (m.Points.getD 1 default).ID))) || (!v1)) = true
  · first | rw [if_pos h1] | rw [if_pos (by simp_all)] | rw [if_pos (by omega)]
    (repeat (with_reducible refine And.intro ?_ ?_; focus exact ob_))
    have hd : d_r25_validPoints m = false := by first | with_reducible rfl | (unfold d_r25_validPoints; exact hd_)
    try rw [hd]
    try simp only [go_sem, ite_andP, ite_orP, dec_true, dec_false]
    all_goals exact fin_
  · first | rw [if_neg h1] | rw [if_neg (by simp_all)] | rw [if_neg (by omega)]
    (repeat (with_reducible refine And.intro ?_ ?_; focus exact ob_))
    refine Wpi_loop hm (ι := {p : Nat × Unit // p.1 ≤ m.Points.length ∧ itrE (d_r25_validPoints_L1 m) p.1 () = .inl p.2}) (fun i => [(1, .share, .ptr 32 0 0 1), (3, .share, .sc (.int .i64 (m.Points.length : Int))), (4, .share, .sc (.int .i64 (i.1.1 : Int)))]) (fun i => [(32, .box [.sc (.int .i64 m.Normal.X), .sc (.int .i64 m.Normal.Y), encD 6 ContactPoint.enc default m.Points])]) (fun i => m.Points.length - i.1.1) ⟨(0, ()), by omega, rfl⟩ ?_ ?_
    · refine weakE_ [] [] ?_
      simp only [go_sem, ite_andP, ite_orP, dec_true, dec_false, itr_zero]
      all_goals exact fin_
    · rintro ⟨⟨i1, s1⟩, hi1, hs1⟩
      replace hi1 : i1 ≤ m.Points.length := hi1
      replace hs1 : itrE (d_r25_validPoints_L1 m) i1 () = .inl s1 := hs1
      simp only [go_sem, ite_andP, ite_orP, dec_true, dec_false]
      (repeat (with_reducible refine And.intro ?_ ?_; focus exact ob_))
      by_cases h2 : (i1 : Int) < (m.Points.length : Int)
      · first | rw [if_pos h2] | rw [if_pos (by simp_all)] | rw [if_pos (by omega)]
        have hlt1 : i1 < m.Points.length := by first | omega | (simp only [IntKind.wrap_i64] at h2; omega)
        (repeat (with_reducible refine And.intro ?_ ?_; focus exact ob_))
        refine CallGi_flat (s_r25_in (m.Points.getD i1 default).NormalImpulse 0 536870911 ) rfl ?_
        simp only [go_sem, ite_andP, ite_orP, dec_true, dec_false]
        (repeat (with_reducible refine And.intro ?_ ?_; focus exact ob_))
        refine CallGi_flat (s_r25_in (m.Points.getD i1 default).TangentImpulse (-536870911) 536870911 ) rfl ?_
        simp only [go_sem, ite_andP, ite_orP, dec_true, dec_false]
        (repeat (with_reducible refine And.intro ?_ ?_; focus exact ob_))
        refine CallGi_flat (s_r25_saturated (m.Points.getD i1 default).Point ) rfl ?_
        generalize hv4 : (d_r25_saturated (m.Points.getD i1 default).Point) = v4
        simp only [go_sem, ite_andP, ite_orP, dec_true, dec_false]
        (repeat (with_reducible refine And.intro ?_ ?_; focus exact ob_))
        refine CallGi_flat (s_r25_saturated (⟨(m.Points.getD i1 default).Separation, (m.Points.getD i1 default).ID⟩ : Vec) ) rfl ?_
        generalize hv5 : (d_r25_saturated (⟨(m.Points.getD i1 default).Separation, (m.Points.getD i1 default).ID⟩ : Vec)) = v5
        simp only [go_sem, ite_andP, ite_orP, dec_true, dec_false]
        (repeat (with_reducible refine And.intro ?_ ?_; focus exact ob_))
        by_cases h3 : ((((!(inR (m.Points.getD i1 default).NormalImpulse 0 536870911)) || (!(inR (m.Points.getD i1 default).TangentImpulse (-536870911) 536870911))) || (!v4)) || (!v5)) = true
        · first | rw [if_pos h3] | rw [if_pos (by simp_all)] | rw [if_pos (by omega)]
          (repeat (with_reducible refine And.intro ?_ ?_; focus exact ob_))
          have e1 : itrE (d_r25_validPoints_L1 m) (i1 + 1) () = .inr false := itrE_inl hs1 (by first | with_reducible rfl | (unfold d_r25_validPoints_L1; exact hd_))
          replace e1 := itrE_stop e1 (show i1 + 1 ≤ m.Points.length by omega)
          have hd : d_r25_validPoints m = false := by first | with_reducible rfl | (unfold d_r25_validPoints; exact hd_)
          try rw [hd]
          try simp only [go_sem, ite_andP, ite_orP, dec_true, dec_false]
          all_goals exact fin_
        · first | rw [if_neg h3] | rw [if_neg (by simp_all)] | rw [if_neg (by omega)]
          (repeat (with_reducible refine And.intro ?_ ?_; focus exact ob_))
          have hn : itrE (d_r25_validPoints_L1 m) (i1 + 1) () = .inl () := itrE_inl hs1 (by first | with_reducible rfl | (unfold d_r25_validPoints_L1; exact hd_))
          refine loop_next ⟨(i1 + 1, ()), by omega, hn⟩ (by show m.Points.length - (i1 + 1) < m.Points.length - i1; omega) (weakE_ [] [] ?_)
          simp only [go_sem, ite_andP, ite_orP, dec_true, dec_false]
          all_goals exact fin_
      · first | rw [if_neg h2] | rw [if_neg (by simp_all)] | rw [if_neg (by omega)]
        (repeat (with_reducible refine And.intro ?_ ?_; focus exact ob_))
        have hge : i1 = m.Points.length := by first | omega | (simp only [IntKind.wrap_i64] at h2; omega)
        subst hge
        have hd : d_r25_validPoints m = true := by first | with_reducible rfl | (unfold d_r25_validPoints; exact hd_)
        try rw [hd]
        try simp only [go_sem, ite_andP, ite_orP, dec_true, dec_false]
        all_goals exact fin_
def d_r25_Keys_L1 (l : List Contact) (i1 : Nat) (s1 : (List PairKey)) : (List PairKey) := (s1 ++ [(l.getD i1 default).Key])
def d_r25_Keys (l : List Contact) : (List PairKey) := let s1 := itr (d_r25_Keys_L1 l) l.length []; s1
theorem s_r25_Keys (l : List Contact) (hl : l.length ≤ 1048576) : CallsA Tryz.prog F_r25_Keys [encD 7 Contact.enc default l] [] (encD 4 PairKey.enc default (d_r25_Keys l)) [] := by
  refine en1 hm shOk Tryz.func128 rfl rfl ?_
  simp only [go_sem, ite_andP, ite_orP, dec_true, dec_false]
  (repeat (with_reducible refine And.intro ?_ ?_; focus exact ob_))
  refine Wpi_loop hm (ι := {i : Nat // i ≤ l.length}) (fun i => [(0, .share, encD 7 Contact.enc default l), (3, if i.1 = 0 then .adopt else .share, .sl 1003 0 (itr (d_r25_Keys_L1 l) i.1 []).length (itr (d_r25_Keys_L1 l) i.1 []).length), (4, .share, .sc (.int .i64 (i.1 : Int)))]) (fun i => [(1003, .arr 4 (encQ PairKey.enc default (itr (d_r25_Keys_L1 l) i.1 [])))]) (fun i => l.length - i.1) ⟨0, by omega⟩ ?_ ?_
  · refine weakE_ [] [1003] ?_
    simp only [go_sem, ite_andP, ite_orP, dec_true, dec_false, itr_zero]
    all_goals exact fin_
  · rintro ⟨i1, hi1⟩
    dsimp only
    generalize hs1 : itr (d_r25_Keys_L1 l) i1 [] = s1
    have hl1_0 : (s1).length ≤ (([] : (List PairKey))).length + 1 * i1 := by rw [← hs1]; exact itr_len (fun s : (List PairKey) => (s).length) 1 (fun i s => by (unfold d_r25_Keys_L1; (repeat' split) <;> simp <;> omega)) i1 _
    dsimp only [List.length_nil] at hl1_0
    simp only [go_sem, ite_andP, ite_orP, dec_true, dec_false]
    (repeat (with_reducible refine And.intro ?_ ?_; focus exact ob_))
    by_cases h1 : (i1 : Int) < (l.length : Int)
    · first | rw [if_pos h1] | rw [if_pos (by simp_all)] | rw [if_pos (by omega)]
      have hlt1 : i1 < l.length := by first | omega | (simp only [IntKind.wrap_i64] at h1; omega)
      (repeat (with_reducible refine And.intro ?_ ?_; focus exact ob_))
      have hn : itr (d_r25_Keys_L1 l) (i1 + 1) [] = (s1 ++ [(l.getD i1 default).Key]) := by rw [itr_succ, hs1]; first | with_reducible rfl | (unfold d_r25_Keys_L1; exact hd_)
      refine loop_next ⟨i1 + 1, by omega⟩ (by show l.length - (i1 + 1) < l.length - i1; omega) (weakE_ [] [] ?_)
      simp only [go_sem, ite_andP, ite_orP, dec_true, dec_false, hn]
      all_goals ((try dsimp only); (repeat' (with_reducible apply And.intro)) <;> first | exact q_app1 ((l.getD i1 default).Key) rfl rfl | exact fin_)
    · first | rw [if_neg h1] | rw [if_neg (by simp_all)] | rw [if_neg (by omega)]
      (repeat (with_reducible refine And.intro ?_ ?_; focus exact ob_))
      have hge : i1 = l.length := by first | omega | (simp only [IntKind.wrap_i64] at h1; omega)
      subst hge
      have hd : d_r25_Keys l = s1 := by first | with_reducible rfl | (unfold d_r25_Keys; exact hd_)
      try rw [hd]
      try simp only [go_sem, ite_andP, ite_orP, dec_true, dec_false]
      all_goals exact fin_
theorem keys_eq (l : List Contact) : d_r25_Keys l = l.map fun c => c.Key := by
  unfold d_r25_Keys
  simp only
  rw [itr_foldl (f := d_r25_Keys_L1 l) (g := fun s c => s ++ [c.Key]) (l := l) default (fun i s _ => rfl)]
  have : ∀ (l : List Contact) (acc : List PairKey), l.foldl (fun s c => s ++ [c.Key]) acc = acc ++ l.map fun c => c.Key := by
    intro l
    induction l with
    | nil => simp
    | cons a l ih => intro acc; simp [ih]
  rw [this]; rfl
theorem keys_len (l : List Contact) : (d_r25_Keys l).length = l.length := by rw [keys_eq]; simp
theorem s_r25_FindBody (w : Api.World) (id : Int) (hw : w.Bodies.length ≤ 1048576) : CallsA Tryz.prog F_r25_FindBody [.agg w.enc, .sc (.int .i64 id)] [] (.sc (.int .i64 (findB w id))) [] := by
  refine en1 hm shOk Tryz.func127 rfl rfl ?_
  simp only [go_sem]
  refine Wpi_loop hm (ι := {i : Nat // i ≤ w.Bodies.length ∧ ∀ j, j < i → ((w.Bodies.getD j default).ID == id) = false}) (fun i => [(1, .share, .sc (.int .i64 id)), (2, .share, .ptr 48 0 0 1), (5, .share, .sc (.int .i64 i.1))])
    (fun i => [(48, .box w.enc)]) (fun i => w.Bodies.length - i.1) ⟨0, by omega, fun j hj => by omega⟩ ?_ ?_
  · refine weakE_ [] [] ?_
    simp only [go_sem]
  · rintro ⟨i, hi, hs⟩
    simp only [go_sem]
    split
    · rename_i hlt
      have hlt : i < w.Bodies.length := by omega
      refine ⟨ok_, ?_⟩
      cases hx : ((w.Bodies.getD i default).ID == id) with
      | true =>
        rw [if_pos rfl]
        exact (idxG_at hlt hs hx).symm
      | false =>
        rw [if_neg (by simp)]
        refine loop_next ⟨i + 1, by omega, fun j hj => by rcases Nat.lt_succ_iff_lt_or_eq.1 hj with h | rfl; exact hs j h; exact hx⟩ (by show w.Bodies.length - (i + 1) < w.Bodies.length - i; omega) (weakE_ [] [] ?_)
        simp only [go_sem]
        exact (by rw [IntKind.wrap_i64]; omega)
    · rename_i hge
      exact (idxG_none fun j hj => hs j (by omega)).symm
theorem findB_lt (w : Api.World) (id : Int) : -1 ≤ findB w id ∧ findB w id < (w.Bodies.length : Int) := idxG_lt
end Go.Abs
end
section
namespace Go.Abs
open Go.Proofs
open Api
def d_world_bodiesExist (w : Api.World) (j : Joint) : Bool := let v1 := (findB w j.BodyB); let v2 := (findB w j.BodyA); ((decide (0 ≤ v1)) && ((j.Kind == 5) || (decide (0 ≤ v2))))
theorem s_world_bodiesExist (w : Api.World) (j : Joint) (hl : w.Bodies.length ≤ 1048576) : CallsA Tryz.prog F_world_bodiesExist [.agg w.enc, .agg j.enc] [] (.sc (.bool (d_world_bodiesExist w j))) [] := by
  refine en1 hm shOk Tryz.func51 rfl rfl ?_
  have := findB_lt w j.BodyB
  have := s_world_FindBody
  have := findB_lt w j.BodyA
  have := d_world_bodiesExist.eq_1 w j
  exact walk_
def d_world_fixturesExist (w : Api.World) (k : PairKey) : Bool := let v1 := (findB w k.BodyA); let v2 := (findB w k.BodyB); ((((decide (0 ≤ v1)) && (decide (0 ≤ v2))) && (decide (k.FixtureA < ((w.Bodies.getD v1.toNat default).Fixtures.length : Int)))) && (decide (k.FixtureB < ((w.Bodies.getD v2.toNat default).Fixtures.length : Int))))
theorem s_world_fixturesExist (w : Api.World) (k : PairKey) (hl : w.Bodies.length ≤ 1048576) : CallsA Tryz.prog F_world_fixturesExist [.agg w.enc, .agg k.enc] [] (.sc (.bool (d_world_fixturesExist w k))) [] := by
  refine en1 hm shOk Tryz.func58 rfl rfl ?_
  have := findB_lt w k.BodyA
  have := s_world_FindBody
  have := findB_lt w k.BodyB
  have := d_world_fixturesExist.eq_1 w k
  exact walk_
def d_r25_exists (w : Api.World) (id : Int) (n : Int) : Bool := let v1 := (findB w id); (((decide (0 ≤ v1)) && (decide (0 ≤ n))) && (decide (n < ((w.Bodies.getD v1.toNat default).Fixtures.length : Int))))
theorem s_r25_exists (w : Api.World) (id : Int) (n : Int) (hl : w.Bodies.length ≤ 1048576) : CallsA Tryz.prog F_r25_exists [.agg w.enc, .sc (.int .i64 id), .sc (.int .i64 n)] [] (.sc (.bool (d_r25_exists w id n))) [] := by
  refine en1 hm shOk Tryz.func160 rfl rfl ?_
  have := findB_lt w id
  have := s_r25_FindBody
  have := d_r25_exists.eq_1 w id n
  exact walk_
def d_r25_resolved_L1 (w : Api.World) (l : List PairKey) (i1 : Nat) (s1 : Unit) : (Unit) ⊕ (Bool) := let v1 := (d_r25_exists w (l.getD i1 default).BodyA (l.getD i1 default).FixtureA); let v2 := (d_r25_exists w (l.getD i1 default).BodyB (l.getD i1 default).FixtureB); if ((!v1) || (!v2)) = true then (.inr false) else (.inl ())
def d_r25_resolved (w : Api.World) (l : List PairKey) : Bool := (match itrE (d_r25_resolved_L1 w l) l.length () with | .inr r => r | .inl s1 => true)
theorem s_r25_resolved (w : Api.World) (l : List PairKey) (hl : w.Bodies.length ≤ 1048576) (hk : l.length ≤ 1048576) : CallsA Tryz.prog F_r25_resolved [.agg w.enc, encD 4 PairKey.enc default l] [] (.sc (.bool (d_r25_resolved w l))) [] := by
  refine en1 hm shOk Tryz.func130 rfl rfl ?_
  simp only [go_sem, ite_andP, ite_orP, dec_true, dec_false]
  (repeat (with_reducible refine And.intro ?_ ?_; focus exact ob_))
  refine Wpi_loop hm (ι := {p : Nat × Unit // p.1 ≤ l.length ∧ itrE (d_r25_resolved_L1 w l) p.1 () = .inl p.2}) (fun i => [(1, .share, encD 4 PairKey.enc default l), (2, .share, .ptr 48 0 0 1), (5, .share, .sc (.int .i64 (i.1.1 : Int)))]) (fun i => [(48, .box [.sc (.int .i64 w.Settings.TimeStep), .sc (.int .i64 w.Settings.Gravity.X), .sc (.int .i64 w.Settings.Gravity.Y), .sc (.int .i64 w.Settings.Iterations), .sc (.int .i64 w.Settings.SleepSteps), encD 20 Body.enc default w.Bodies, encD 24 Joint.enc default w.Joints, encD 7 Contact.enc default w.Contacts, encD 4 PairKey.enc default w.Overlaps, .sc (.int .i64 w.NextID), .sc (.int .i64 w.Frame)])]) (fun i => l.length - i.1.1) ⟨(0, ()), by omega, rfl⟩ ?_ ?_
  · refine weakE_ [] [] ?_
    simp only [go_sem, ite_andP, ite_orP, dec_true, dec_false, itr_zero]
    all_goals exact fin_
  · rintro ⟨⟨i1, s1⟩, hi1, hs1⟩
    replace hi1 : i1 ≤ l.length := hi1
    replace hs1 : itrE (d_r25_resolved_L1 w l) i1 () = .inl s1 := hs1
    simp only [go_sem, ite_andP, ite_orP, dec_true, dec_false]
    (repeat (with_reducible refine And.intro ?_ ?_; focus exact ob_))
    by_cases h1 : (i1 : Int) < (l.length : Int)
    · first | rw [if_pos h1] | rw [if_pos (by simp_all)] | rw [if_pos (by omega)]
      have hlt1 : i1 < l.length := by first | omega | (simp only [IntKind.wrap_i64] at h1; omega)
      (repeat (with_reducible refine And.intro ?_ ?_; focus exact ob_))
      refine CallGi_flat (s_r25_exists w (l.getD i1 default).BodyA (l.getD i1 default).FixtureA (by (first | assumption | omega | (simp_all; done) | (simp_all; omega)))) rfl ?_
      generalize hv1 : (d_r25_exists w (l.getD i1 default).BodyA (l.getD i1 default).FixtureA) = v1
      simp only [go_sem, ite_andP, ite_orP, dec_true, dec_false]
      (repeat (with_reducible refine And.intro ?_ ?_; focus exact ob_))
      refine CallGi_flat (s_r25_exists w (l.getD i1 default).BodyB (l.getD i1 default).FixtureB (by (first | assumption | omega | (simp_all; done) | (simp_all; omega)))) rfl ?_
      generalize hv2 : (d_r25_exists w (l.getD i1 default).BodyB (l.getD i1 default).FixtureB) = v2
      simp only [go_sem, ite_andP, ite_orP, dec_true, dec_false]
      (repeat (with_reducible refine And.intro ?_ ?_; focus exact ob_))
      by_cases h2 : ((!v1) || (!v2)) = true
      · first | rw [if_pos h2] | rw [if_pos (by simp_all)] | rw [if_pos (by omega)]
        (repeat (with_reducible refine And.intro ?_ ?_; focus exact ob_))
        have e1 : itrE (d_r25_resolved_L1 w l) (i1 + 1) () = .inr false := itrE_inl hs1 (by first | with_reducible rfl | (unfold d_r25_resolved_L1; exact hd_))
        replace e1 := itrE_stop e1 (show i1 + 1 ≤ l.length by omega)
        have hd : d_r25_resolved w l = false := by first | with_reducible rfl | (unfold d_r25_resolved; exact hd_)
        try rw [hd]
        try simp only [go_sem, ite_andP, ite_orP, dec_true, dec_false]
        all_goals exact fin_
      · first | rw [if_neg h2] | rw [if_neg (by simp_all)] | rw [if_neg (by omega)]
        (repeat (with_reducible refine And.intro ?_ ?_; focus exact ob_))
        have hn : itrE (d_r25_resolved_L1 w l) (i1 + 1) () = .inl () := itrE_inl hs1 (by first | with_reducible rfl | (unfold d_r25_resolved_L1; exact hd_))
        refine loop_next ⟨(i1 + 1, ()), by omega, hn⟩ (by show l.length - (i1 + 1) < l.length - i1; omega) (weakE_ [] [] ?_)
        simp only [go_sem, ite_andP, ite_orP, dec_true, dec_false]
        all_goals exact fin_
    · first | rw [if_neg h1] | rw [if_neg (by simp_all)] | rw [if_neg (by omega)]
      (repeat (with_reducible refine And.intro ?_ ?_; focus exact ob_))
      have hge : i1 = l.length := by first | omega | (simp only [IntKind.wrap_i64] at h1; omega)
      subst hge
      have hd : d_r25_resolved w l = true := by first | with_reducible rfl | (unfold d_r25_resolved; exact hd_)
      try rw [hd]
      try simp only [go_sem, ite_andP, ite_orP, dec_true, dec_false]
      all_goals exact fin_
def d_r25_connected (w : Api.World) (j : Joint) : Bool := let v1 := (findB w j.BodyA); let v2 := (findB w j.BodyB); (((j.BodyA == 0) || (decide (0 ≤ v1))) && ((j.BodyB == 0) || (decide (0 ≤ v2))))
theorem s_r25_connected (w : Api.World) (j : Joint) (hl : w.Bodies.length ≤ 1048576) : CallsA Tryz.prog F_r25_connected [.agg w.enc, .agg j.enc] [] (.sc (.bool (d_r25_connected w j))) [] := by
  refine en1 hm shOk Tryz.func126 rfl rfl ?_
  have := findB_lt w j.BodyA
  have := s_r25_FindBody
  have := findB_lt w j.BodyB
  have := d_r25_connected.eq_1 w j
  exact walk_
def d_body_Validate_L1 (b : Body) (i1 : Nat) (s1 : Unit) : (Unit) ⊕ (Int) := let v2 := (d_body_ValidateFixture (b.Fixtures.getD i1 default)); if (v2 != 0) = true then (.inr 13) else (.inl ())
def d_body_Validate (b : Body) : Int := if (((b.Kind != 1) && (b.Kind != 2)) && (b.Kind != 3)) = true then (10) else (let v1 := (d_body_inRange b); if v1 = false then (6) else (if 4 < (b.Fixtures.length : Int) then (11) else ((match itrE (d_body_Validate_L1 b) b.Fixtures.length () with | .inr r => r | .inl s1 => let v3 := (d_body_consistent b); if v3 = false then (14) else (0)))))
theorem s_body_Validate (b : Body) (hb : Body.sm b) : CallsA Tryz.prog F_body_Validate [.agg b.enc] [] (.sc (.int .i64 (d_body_Validate b))) [] := by
  refine en1 hm shOk Tryz.func49 rfl rfl ?_
  simp only [go_sem, ite_andP, ite_orP, dec_true, dec_false]
  (repeat (with_reducible refine And.intro ?_ ?_; focus exact ob_))
  by_cases h1 : (((b.Kind != 1) && (b.Kind != 2)) && (b.Kind != 3)) = true
  · first | rw [if_pos h1] | rw [if_pos (by simp_all)] | rw [if_pos (by omega)]
    (repeat (with_reducible refine And.intro ?_ ?_; focus exact ob_))
    have hd : d_body_Validate b = 10 := by first | with_reducible rfl | (unfold d_body_Validate; exact hd_)
    try rw [hd]
    try simp only [go_sem, ite_andP, ite_orP, dec_true, dec_false]
    all_goals exact fin_
  · first | rw [if_neg h1] | rw [if_neg (by simp_all)] | rw [if_neg (by omega)]
    (repeat (with_reducible refine And.intro ?_ ?_; focus exact ob_))
    refine CallGi_flat (s_body_inRange b ) rfl ?_
    generalize hv1 : (d_body_inRange b) = v1
    simp only [go_sem, ite_andP, ite_orP, dec_true, dec_false]
    (repeat (with_reducible refine And.intro ?_ ?_; focus exact ob_))
    by_cases h2 : v1 = false
    · first | rw [if_pos h2] | rw [if_pos (by simp_all)] | rw [if_pos (by omega)]
      (repeat (with_reducible refine And.intro ?_ ?_; focus exact ob_))
      have hd : d_body_Validate b = 6 := by first | with_reducible rfl | (unfold d_body_Validate; exact hd_)
      try rw [hd]
      try simp only [go_sem, ite_andP, ite_orP, dec_true, dec_false]
      all_goals exact fin_
    · first | rw [if_neg h2] | rw [if_neg (by simp_all)] | rw [if_neg (by omega)]
      (repeat (with_reducible refine And.intro ?_ ?_; focus exact ob_))
      by_cases h3 : 4 < (b.Fixtures.length : Int)
      · first | rw [if_pos h3] | rw [if_pos (by simp_all)] | rw [if_pos (by omega)]
        (repeat (with_reducible refine And.intro ?_ ?_; focus exact ob_))
        have hd : d_body_Validate b = 11 := by first | with_reducible rfl | (unfold d_body_Validate; exact hd_)
        try rw [hd]
        try simp only [go_sem, ite_andP, ite_orP, dec_true, dec_false]
        all_goals exact fin_
      · first | rw [if_neg h3] | rw [if_neg (by simp_all)] | rw [if_neg (by omega)]
        (repeat (with_reducible refine And.intro ?_ ?_; focus exact ob_))
        refine Wpi_loop hm (ι := {p : Nat × Unit // p.1 ≤ b.Fixtures.length ∧ itrE (d_body_Validate_L1 b) p.1 () = .inl p.2}) (fun i => [(1, .share, .ptr 32 0 0 1), (26, .share, encD 10 Fixture.enc default b.Fixtures), (27, .share, .sc (.int .i64 (b.Fixtures.length : Int))), (28, .share, .sc (.int .i64 (i.1.1 : Int)))]) (fun i => [(32, .box [.sc (.int .i64 b.ID), .sc (.int .i64 b.Kind), .sc (.int .i64 b.Transform.Position.X), .sc (.int .i64 b.Transform.Position.Y), .sc (.int .i64 b.Transform.Angle), .sc (.int .i64 b.Velocity.X), .sc (.int .i64 b.Velocity.Y), .sc (.int .i64 b.AngularVelocity), .sc (.int .i64 b.Force.X), .sc (.int .i64 b.Force.Y), .sc (.int .i64 b.Torque), .sc (.int .i64 b.LinearDamping), .sc (.int .i64 b.AngularDamping), .sc (.int .i64 b.GravityScale), .sc (.bool b.Bullet), .sc (.bool b.FixedRotation), .sc (.bool b.NoSleep), .sc (.bool b.Asleep), .sc (.int .i64 b.IdleSteps), encD 10 Fixture.enc default b.Fixtures])]) (fun i => b.Fixtures.length - i.1.1) ⟨(0, ()), by omega, rfl⟩ ?_ ?_
        · refine weakE_ [] [] ?_
          simp only [go_sem, ite_andP, ite_orP, dec_true, dec_false, itr_zero]
          all_goals exact fin_
        · rintro ⟨⟨i1, s1⟩, hi1, hs1⟩
          replace hi1 : i1 ≤ b.Fixtures.length := hi1
          replace hs1 : itrE (d_body_Validate_L1 b) i1 () = .inl s1 := hs1
          simp only [go_sem, ite_andP, ite_orP, dec_true, dec_false]
          (repeat (with_reducible refine And.intro ?_ ?_; focus exact ob_))
          by_cases h4 : (i1 : Int) < (b.Fixtures.length : Int)
          · first | rw [if_pos h4] | rw [if_pos (by simp_all)] | rw [if_pos (by omega)]
            have hlt1 : i1 < b.Fixtures.length := by first | omega | (simp only [IntKind.wrap_i64] at h4; omega)
            (repeat (with_reducible refine And.intro ?_ ?_; focus exact ob_))
            refine CallGi_flat (s_body_ValidateFixture (b.Fixtures.getD i1 default) (by (first | exact hb.2 _ (mem_getD _ (by omega)) | assumption | omega | (simp_all; done) | (simp_all; omega)))) rfl ?_
            generalize hv2 : (d_body_ValidateFixture (b.Fixtures.getD i1 default)) = v2
            simp only [go_sem, ite_andP, ite_orP, dec_true, dec_false]
            (repeat (with_reducible refine And.intro ?_ ?_; focus exact ob_))
            by_cases h5 : (v2 != 0) = true
            · first | rw [if_pos h5] | rw [if_pos (by simp_all)] | rw [if_pos (by omega)]
              (repeat (with_reducible refine And.intro ?_ ?_; focus exact ob_))
              have e1 : itrE (d_body_Validate_L1 b) (i1 + 1) () = .inr 13 := itrE_inl hs1 (by first | with_reducible rfl | (unfold d_body_Validate_L1; exact hd_))
              replace e1 := itrE_stop e1 (show i1 + 1 ≤ b.Fixtures.length by omega)
              have hd : d_body_Validate b = 13 := by first | with_reducible rfl | (unfold d_body_Validate; exact hd_)
              try rw [hd]
              try simp only [go_sem, ite_andP, ite_orP, dec_true, dec_false]
              all_goals exact fin_
            · first | rw [if_neg h5] | rw [if_neg (by simp_all)] | rw [if_neg (by omega)]
              (repeat (with_reducible refine And.intro ?_ ?_; focus exact ob_))
              have hn : itrE (d_body_Validate_L1 b) (i1 + 1) () = .inl () := itrE_inl hs1 (by first | with_reducible rfl | (unfold d_body_Validate_L1; exact hd_))
              refine loop_next ⟨(i1 + 1, ()), by omega, hn⟩ (by show b.Fixtures.length - (i1 + 1) < b.Fixtures.length - i1; omega) (weakE_ [] [] ?_)
              simp only [go_sem, ite_andP, ite_orP, dec_true, dec_false]
              all_goals exact fin_
          · first | rw [if_neg h4] | rw [if_neg (by simp_all)] | rw [if_neg (by omega)]
            (repeat (with_reducible refine And.intro ?_ ?_; focus exact ob_))
            have hge : i1 = b.Fixtures.length := by first | omega | (simp only [IntKind.wrap_i64] at h4; omega)
            subst hge
            refine CallGi_flat (s_body_consistent b ) rfl ?_
            generalize hv3 : (d_body_consistent b) = v3
            simp only [go_sem, ite_andP, ite_orP, dec_true, dec_false]
            (repeat (with_reducible refine And.intro ?_ ?_; focus exact ob_))
            by_cases h6 : v3 = false
            · first | rw [if_pos h6] | rw [if_pos (by simp_all)] | rw [if_pos (by omega)]
              (repeat (with_reducible refine And.intro ?_ ?_; focus exact ob_))
              have hd : d_body_Validate b = 14 := by first | with_reducible rfl | (unfold d_body_Validate; exact hd_)
              try rw [hd]
              try simp only [go_sem, ite_andP, ite_orP, dec_true, dec_false]
              all_goals exact fin_
            · first | rw [if_neg h6] | rw [if_neg (by simp_all)] | rw [if_neg (by omega)]
              (repeat (with_reducible refine And.intro ?_ ?_; focus exact ob_))
              have hd : d_body_Validate b = 0 := by first | with_reducible rfl | (unfold d_body_Validate; exact hd_)
              try rw [hd]
              try simp only [go_sem, ite_andP, ite_orP, dec_true, dec_false]
              all_goals exact fin_
def d_r23_Validate_L1 (b : Body) (i1 : Nat) (s1 : Unit) : (Unit) ⊕ (Int) := let v2 := (d_r23_ValidateFixture (b.Fixtures.getD i1 default)); if (v2 != 0) = true then (.inr 13) else (.inl ())
def d_r23_Validate (b : Body) : Int := if (((b.Kind != 1) && (b.Kind != 2)) && (b.Kind != 3)) = true then (10) else (let v1 := (d_r23_inRange b); if v1 = false then (6) else (if 4 < (b.Fixtures.length : Int) then (11) else ((match itrE (d_r23_Validate_L1 b) b.Fixtures.length () with | .inr r => r | .inl s1 => if ((((b.Kind == 1) && (((!((b.Velocity.X == 0) && (b.Velocity.Y == 0))) || (b.AngularVelocity != 0)) || ((!((b.Force.X == 0) && (b.Force.Y == 0))) || (b.Torque != 0)))) || ((b.Kind != 3) && (b.Asleep || b.Bullet))) || (b.Asleep && ((!((b.Velocity.X == 0) && (b.Velocity.Y == 0))) || (b.AngularVelocity != 0)))) = true then (14) else (0)))))
theorem s_r23_Validate (b : Body) (hb : Body.sm b) : CallsA Tryz.prog F_r23_Validate [.agg b.enc] [] (.sc (.int .i64 (d_r23_Validate b))) [] := by
  refine en1 hm shOk Tryz.func124 rfl rfl ?_
  simp only [go_sem, ite_andP, ite_orP, dec_true, dec_false]
  (repeat (with_reducible refine And.intro ?_ ?_; focus exact ob_))
  by_cases h1 : (((b.Kind != 1) && (b.Kind != 2)) && (b.Kind != 3)) = true
  · first | rw [if_pos h1] | rw [if_pos (by simp_all)] | rw [if_pos (by omega)]
    (repeat (with_reducible refine And.intro ?_ ?_; focus exact ob_))
    have hd : d_r23_Validate b = 10 := by first | with_reducible rfl | (unfold d_r23_Validate; exact hd_)
    try rw [hd]
    try simp only [go_sem, ite_andP, ite_orP, dec_true, dec_false]
    all_goals exact fin_
  · first | rw [if_neg h1] | rw [if_neg (by simp_all)] | rw [if_neg (by omega)]
    (repeat (with_reducible refine And.intro ?_ ?_; focus exact ob_))
    refine CallGi_flat (s_r23_inRange b ) rfl ?_
    generalize hv1 : (d_r23_inRange b) = v1
    simp only [go_sem, ite_andP, ite_orP, dec_true, dec_false]
    (repeat (with_reducible refine And.intro ?_ ?_; focus exact ob_))
    by_cases h2 : v1 = false
    · first | rw [if_pos h2] | rw [if_pos (by simp_all)] | rw [if_pos (by omega)]
      (repeat (with_reducible refine And.intro ?_ ?_; focus exact ob_))
      have hd : d_r23_Validate b = 6 := by first | with_reducible rfl | (unfold d_r23_Validate; exact hd_)
      try rw [hd]
      try simp only [go_sem, ite_andP, ite_orP, dec_true, dec_false]
      all_goals exact fin_
    · first | rw [if_neg h2] | rw [if_neg (by simp_all)] | rw [if_neg (by omega)]
      (repeat (with_reducible refine And.intro ?_ ?_; focus exact ob_))
      by_cases h3 : 4 < (b.Fixtures.length : Int)
      · first | rw [if_pos h3] | rw [if_pos (by simp_all)] | rw [if_pos (by omega)]
        (repeat (with_reducible refine And.intro ?_ ?_; focus exact ob_))
        have hd : d_r23_Validate b = 11 := by first | with_reducible rfl | (unfold d_r23_Validate; exact hd_)
        try rw [hd]
        try simp only [go_sem, ite_andP, ite_orP, dec_true, dec_false]
        all_goals exact fin_
      · first | rw [if_neg h3] | rw [if_neg (by simp_all)] | rw [if_neg (by omega)]
        (repeat (with_reducible refine And.intro ?_ ?_; focus exact ob_))
        refine Wpi_loop hm (ι := {p : Nat × Unit // p.1 ≤ b.Fixtures.length ∧ itrE (d_r23_Validate_L1 b) p.1 () = .inl p.2}) (fun i => [(1, .share, .ptr 32 0 0 1), (3, .share, .sc (.int .i64 (i.1.1 : Int)))]) (fun i => [(32, .box [.sc (.int .i64 b.ID), .sc (.int .i64 b.Kind), .sc (.int .i64 b.Transform.Position.X), .sc (.int .i64 b.Transform.Position.Y), .sc (.int .i64 b.Transform.Angle), .sc (.int .i64 b.Velocity.X), .sc (.int .i64 b.Velocity.Y), .sc (.int .i64 b.AngularVelocity), .sc (.int .i64 b.Force.X), .sc (.int .i64 b.Force.Y), .sc (.int .i64 b.Torque), .sc (.int .i64 b.LinearDamping), .sc (.int .i64 b.AngularDamping), .sc (.int .i64 b.GravityScale), .sc (.bool b.Bullet), .sc (.bool b.FixedRotation), .sc (.bool b.NoSleep), .sc (.bool b.Asleep), .sc (.int .i64 b.IdleSteps), encD 10 Fixture.enc default b.Fixtures])]) (fun i => b.Fixtures.length - i.1.1) ⟨(0, ()), by omega, rfl⟩ ?_ ?_
        · refine weakE_ [] [] ?_
          simp only [go_sem, ite_andP, ite_orP, dec_true, dec_false, itr_zero]
          all_goals exact fin_
        · rintro ⟨⟨i1, s1⟩, hi1, hs1⟩
          replace hi1 : i1 ≤ b.Fixtures.length := hi1
          replace hs1 : itrE (d_r23_Validate_L1 b) i1 () = .inl s1 := hs1
          simp only [go_sem, ite_andP, ite_orP, dec_true, dec_false]
          (repeat (with_reducible refine And.intro ?_ ?_; focus exact ob_))
          by_cases h4 : (i1 : Int) < (b.Fixtures.length : Int)
          · first | rw [if_pos h4] | rw [if_pos (by simp_all)] | rw [if_pos (by omega)]
            have hlt1 : i1 < b.Fixtures.length := by first | omega | (simp only [IntKind.wrap_i64] at h4; omega)
            (repeat (with_reducible refine And.intro ?_ ?_; focus exact ob_))
            refine CallGi_flat (s_r23_ValidateFixture (b.Fixtures.getD i1 default) (by (first | exact hb.2 _ (mem_getD _ (by omega)) | assumption | omega | (simp_all; done) | (simp_all; omega)))) rfl ?_
            generalize hv2 : (d_r23_ValidateFixture (b.Fixtures.getD i1 default)) = v2
            simp only [go_sem, ite_andP, ite_orP, dec_true, dec_false]
            (repeat (with_reducible refine And.intro ?_ ?_; focus exact ob_))
            by_cases h5 : (v2 != 0) = true
            · first | rw [if_pos h5] | rw [if_pos (by simp_all)] | rw [if_pos (by omega)]
              (repeat (with_reducible refine And.intro ?_ ?_; focus exact ob_))
              have e1 : itrE (d_r23_Validate_L1 b) (i1 + 1) () = .inr 13 := itrE_inl hs1 (by first | with_reducible rfl | (unfold d_r23_Validate_L1; exact hd_))
              replace e1 := itrE_stop e1 (show i1 + 1 ≤ b.Fixtures.length by omega)
              have hd : d_r23_Validate b = 13 := by first | with_reducible rfl | (unfold d_r23_Validate; exact hd_)
              try rw [hd]
              try simp only [go_sem, ite_andP, ite_orP, dec_true, dec_false]
              all_goals exact fin_
            · first | rw [if_neg h5] | rw [if_neg (by simp_all)] | rw [if_neg (by omega)]
              (repeat (with_reducible refine And.intro ?_ ?_; focus exact ob_))
              have hn : itrE (d_r23_Validate_L1 b) (i1 + 1) () = .inl () := itrE_inl hs1 (by first | with_reducible rfl | (unfold d_r23_Validate_L1; exact hd_))
              refine loop_next ⟨(i1 + 1, ()), by omega, hn⟩ (by show b.Fixtures.length - (i1 + 1) < b.Fixtures.length - i1; omega) (weakE_ [] [] ?_)
              simp only [go_sem, ite_andP, ite_orP, dec_true, dec_false]
              all_goals exact fin_
          · first | rw [if_neg h4] | rw [if_neg (by simp_all)] | rw [if_neg (by omega)]
            (repeat (with_reducible refine And.intro ?_ ?_; focus exact ob_))
            have hge : i1 = b.Fixtures.length := by first | omega | (simp only [IntKind.wrap_i64] at h4; omega)
            subst hge
            by_cases h6 : ((((b.Kind == 1) && (((!((b.Velocity.X == 0) && (b.Velocity.Y == 0))) || (b.AngularVelocity != 0)) || ((!((b.Force.X == 0) && (b.Force.Y == 0))) || (b.Torque != 0)))) || ((b.Kind != 3) && (b.Asleep || b.Bullet))) || (b.Asleep && ((!((b.Velocity.X == 0) && (b.Velocity.Y == 0))) || (b.AngularVelocity != 0)))) = true
            · first | rw [if_pos h6] | rw [if_pos (by simp_all)] | rw [if_pos (by omega)]
              (repeat (with_reducible refine And.intro ?_ ?_; focus exact ob_))
              have hd : d_r23_Validate b = 14 := by first | with_reducible rfl | (unfold d_r23_Validate; exact hd_)
              try rw [hd]
              try simp only [go_sem, ite_andP, ite_orP, dec_true, dec_false]
              all_goals exact fin_
            · first | rw [if_neg h6] | rw [if_neg (by simp_all)] | rw [if_neg (by omega)]
              (repeat (with_reducible refine And.intro ?_ ?_; focus exact ob_))
              have hd : d_r23_Validate b = 0 := by first | with_reducible rfl | (unfold d_r23_Validate; exact hd_)
              try rw [hd]
              try simp only [go_sem, ite_andP, ite_orP, dec_true, dec_false]
              all_goals exact fin_
def d_joint_numbersInRange_L1 (j : Joint) (i1 : Nat) (s1 : Unit) : (Unit) ⊕ (Bool) := if (inR ([j.Impulses.I0, j.Impulses.I1, j.Impulses.I2, j.Impulses.I3].getD i1 0) (-536870911) 536870911) = false then (.inr false) else (.inl ())
def d_joint_numbersInRange_L2 (j : Joint) (i2 : Nat) (s2 : Unit) : (Unit) ⊕ (Bool) := if (inR ([j.Impulses.I0, j.Impulses.I1, j.Impulses.I2, j.Impulses.I3].getD i2 0) (-536870911) 536870911) = false then (.inr false) else (.inl ())
def d_joint_numbersInRange (j : Joint) : Bool := if (j.Kind == 5) = true then (let v1 := (d_joint_limitRange j.Kind); (match itrE (d_joint_numbersInRange_L1 j) 4 () with | .inr r => r | .inl s1 => let v4 := (d_joint_pointInRange j.AnchorA 268435456); let v5 := (d_joint_pointInRange j.AnchorB 1048576); (((((((((((inR j.ID 1 1099511627776) && v4) && v5) && (inR j.ReferenceAngle (-205888) 205887)) && (inR j.Lower v1.1 v1.2)) && (inR j.Upper v1.1 v1.2)) && (decide (j.Lower ≤ j.Upper))) && (inR j.MotorSpeed (-16777216) 16777216)) && (inR j.MaxForce 0 536870911)) && (inR j.Softness 0 536870911)) && (inR j.BreakForce 0 536870911)))) else (let v13 := (d_joint_limitRange j.Kind); (match itrE (d_joint_numbersInRange_L2 j) 4 () with | .inr r => r | .inl s2 => let v16 := (d_joint_pointInRange j.AnchorA 1048576); let v17 := (d_joint_pointInRange j.AnchorB 1048576); (((((((((((inR j.ID 1 1099511627776) && v16) && v17) && (inR j.ReferenceAngle (-205888) 205887)) && (inR j.Lower v13.1 v13.2)) && (inR j.Upper v13.1 v13.2)) && (decide (j.Lower ≤ j.Upper))) && (inR j.MotorSpeed (-16777216) 16777216)) && (inR j.MaxForce 0 536870911)) && (inR j.Softness 0 536870911)) && (inR j.BreakForce 0 536870911))))
theorem s_joint_numbersInRange (j : Joint)  : CallsA Tryz.prog F_joint_numbersInRange [.agg j.enc] [] (.sc (.bool (d_joint_numbersInRange j))) [] := by
  refine en1 hm shOk Tryz.func100 rfl rfl ?_
  simp only [go_sem, ite_andP, ite_orP, dec_true, dec_false]
  (repeat (with_reducible refine And.intro ?_ ?_; focus exact ob_))
  by_cases h1 : (j.Kind == 5) = true
  · first | rw [if_pos h1] | rw [if_pos (by simp_all)] | rw [if_pos (by omega)]
    (repeat (with_reducible refine And.intro ?_ ?_; focus exact ob_))
    refine CallGi_flat (s_joint_limitRange j.Kind ) rfl ?_
    generalize hv1 : (d_joint_limitRange j.Kind) = v1
    simp only [go_sem, ite_andP, ite_orP, dec_true, dec_false]
    (repeat (with_reducible refine And.intro ?_ ?_; focus exact ob_))
    refine Wpi_loop hm (ι := {p : Nat × Unit // p.1 ≤ 4 ∧ itrE (d_joint_numbersInRange_L1 j) p.1 () = .inl p.2}) (fun i => [(1, .share, .ptr 32 0 0 1), (3, .share, .sc (.int .i64 268435456)), (4, .share, .sc (.int .i64 v1.1)), (5, .share, .sc (.int .i64 v1.2)), (18, .share, .agg [.sc (.int .i64 j.Impulses.I0), .sc (.int .i64 j.Impulses.I1), .sc (.int .i64 j.Impulses.I2), .sc (.int .i64 j.Impulses.I3)]), (19, .share, .sc (.int .i64 (i.1.1 : Int)))]) (fun i => [(32, .box [.sc (.int .i64 j.ID), .sc (.int .i64 j.Kind), .sc (.int .i64 j.BodyA), .sc (.int .i64 j.BodyB), .sc (.int .i64 j.AnchorA.X), .sc (.int .i64 j.AnchorA.Y), .sc (.int .i64 j.AnchorB.X), .sc (.int .i64 j.AnchorB.Y), .sc (.int .i64 j.Axis.X), .sc (.int .i64 j.Axis.Y), .sc (.int .i64 j.ReferenceAngle), .sc (.bool j.EnableLimit), .sc (.int .i64 j.Lower), .sc (.int .i64 j.Upper), .sc (.bool j.EnableMotor), .sc (.int .i64 j.MotorSpeed), .sc (.int .i64 j.MaxForce), .sc (.int .i64 j.Softness), .sc (.int .i64 j.BreakForce), .sc (.bool j.CollideConnected), .sc (.int .i64 j.Impulses.I0), .sc (.int .i64 j.Impulses.I1), .sc (.int .i64 j.Impulses.I2), .sc (.int .i64 j.Impulses.I3)])]) (fun i => 4 - i.1.1) ⟨(0, ()), by omega, rfl⟩ ?_ ?_
    · refine weakE_ [] [] ?_
      simp only [go_sem, ite_andP, ite_orP, dec_true, dec_false, itr_zero]
      all_goals exact fin_
    · rintro ⟨⟨i1, s1⟩, hi1, hs1⟩
      replace hi1 : i1 ≤ 4 := hi1
      replace hs1 : itrE (d_joint_numbersInRange_L1 j) i1 () = .inl s1 := hs1
      simp only [go_sem, ite_andP, ite_orP, dec_true, dec_false]
      (repeat (with_reducible refine And.intro ?_ ?_; focus exact ob_))
      by_cases h2 : (i1 : Int) < 4
      · first | rw [if_pos h2] | rw [if_pos (by simp_all)] | rw [if_pos (by omega)]
        have hlt1 : i1 < 4 := by first | omega | (simp only [IntKind.wrap_i64] at h2; omega)
        (repeat (with_reducible refine And.intro ?_ ?_; focus exact ob_))
        rw [getD4 (show i1 < 4 by omega)]
        refine CallGi_flat (s_joint_inRange ([j.Impulses.I0, j.Impulses.I1, j.Impulses.I2, j.Impulses.I3].getD i1 0) (-536870911) 536870911 ) rfl ?_
        simp only [go_sem, ite_andP, ite_orP, dec_true, dec_false]
        (repeat (with_reducible refine And.intro ?_ ?_; focus exact ob_))
        by_cases h3 : (inR ([j.Impulses.I0, j.Impulses.I1, j.Impulses.I2, j.Impulses.I3].getD i1 0) (-536870911) 536870911) = false
        · first | rw [if_pos h3] | rw [if_pos (by simp_all)] | rw [if_pos (by omega)]
          (repeat (with_reducible refine And.intro ?_ ?_; focus exact ob_))
          have e1 : itrE (d_joint_numbersInRange_L1 j) (i1 + 1) () = .inr false := itrE_inl hs1 (by first | with_reducible rfl | (unfold d_joint_numbersInRange_L1; exact hd_))
          replace e1 := itrE_stop e1 (show i1 + 1 ≤ 4 by omega)
          have hd : d_joint_numbersInRange j = false := by first | with_reducible rfl | (unfold d_joint_numbersInRange; exact hd_)
          try rw [hd]
          try simp only [go_sem, ite_andP, ite_orP, dec_true, dec_false]
          all_goals exact fin_
        · first | rw [if_neg h3] | rw [if_neg (by simp_all)] | rw [if_neg (by omega)]
          (repeat (with_reducible refine And.intro ?_ ?_; focus exact ob_))
          have hn : itrE (d_joint_numbersInRange_L1 j) (i1 + 1) () = .inl () := itrE_inl hs1 (by first | with_reducible rfl | (unfold d_joint_numbersInRange_L1; exact hd_))
          refine loop_next ⟨(i1 + 1, ()), by omega, hn⟩ (by show 4 - (i1 + 1) < 4 - i1; omega) (weakE_ [] [] ?_)
          simp only [go_sem, ite_andP, ite_orP, dec_true, dec_false]
          all_goals exact fin_
      · first | rw [if_neg h2] | rw [if_neg (by simp_all)] | rw [if_neg (by omega)]
        (repeat (with_reducible refine And.intro ?_ ?_; focus exact ob_))
        have hge : i1 = 4 := by first | omega | (simp only [IntKind.wrap_i64] at h2; omega)
        subst hge
        refine CallGi_flat (s_joint_inRange j.ID 1 1099511627776 ) rfl ?_
        simp only [go_sem, ite_andP, ite_orP, dec_true, dec_false]
        (repeat (with_reducible refine And.intro ?_ ?_; focus exact ob_))
        refine CallGi_flat (s_joint_pointInRange j.AnchorA 268435456 ) rfl ?_
        generalize hv4 : (d_joint_pointInRange j.AnchorA 268435456) = v4
        simp only [go_sem, ite_andP, ite_orP, dec_true, dec_false]
        (repeat (with_reducible refine And.intro ?_ ?_; focus exact ob_))
        refine CallGi_flat (s_joint_pointInRange j.AnchorB 1048576 ) rfl ?_
        generalize hv5 : (d_joint_pointInRange j.AnchorB 1048576) = v5
        simp only [go_sem, ite_andP, ite_orP, dec_true, dec_false]
        (repeat (with_reducible refine And.intro ?_ ?_; focus exact ob_))
        refine CallGi_flat (s_joint_inRange j.ReferenceAngle (-205888) 205887 ) rfl ?_
        simp only [go_sem, ite_andP, ite_orP, dec_true, dec_false]
        (repeat (with_reducible refine And.intro ?_ ?_; focus exact ob_))
        refine CallGi_flat (s_joint_inRange j.Lower v1.1 v1.2 ) rfl ?_
        simp only [go_sem, ite_andP, ite_orP, dec_true, dec_false]
        (repeat (with_reducible refine And.intro ?_ ?_; focus exact ob_))
        refine CallGi_flat (s_joint_inRange j.Upper v1.1 v1.2 ) rfl ?_
        simp only [go_sem, ite_andP, ite_orP, dec_true, dec_false]
        (repeat (with_reducible refine And.intro ?_ ?_; focus exact ob_))
        refine CallGi_flat (s_joint_inRange j.MotorSpeed (-16777216) 16777216 ) rfl ?_
        simp only [go_sem, ite_andP, ite_orP, dec_true, dec_false]
        (repeat (with_reducible refine And.intro ?_ ?_; focus exact ob_))
        refine CallGi_flat (s_joint_inRange j.MaxForce 0 536870911 ) rfl ?_
        simp only [go_sem, ite_andP, ite_orP, dec_true, dec_false]
        (repeat (with_reducible refine And.intro ?_ ?_; focus exact ob_))
        refine CallGi_flat (s_joint_inRange j.Softness 0 536870911 ) rfl ?_
        simp only [go_sem, ite_andP, ite_orP, dec_true, dec_false]
        (repeat (with_reducible refine And.intro ?_ ?_; focus exact ob_))
        refine CallGi_flat (s_joint_inRange j.BreakForce 0 536870911 ) rfl ?_
        simp only [go_sem, ite_andP, ite_orP, dec_true, dec_false]
        (repeat (with_reducible refine And.intro ?_ ?_; focus exact ob_))
        have hd : d_joint_numbersInRange j = (((((((((((inR j.ID 1 1099511627776) && v4) && v5) && (inR j.ReferenceAngle (-205888) 205887)) && (inR j.Lower v1.1 v1.2)) && (inR j.Upper v1.1 v1.2)) && (decide (j.Lower ≤ j.Upper))) && (inR j.MotorSpeed (-16777216) 16777216)) && (inR j.MaxForce 0 536870911)) && (inR j.Softness 0 536870911)) && (inR j.BreakForce 0 536870911)) := by first | with_reducible rfl | (unfold d_joint_numbersInRange; exact hd_)
        try rw [hd]
        try simp only [go_sem, ite_andP, ite_orP, dec_true, dec_false]
        all_goals exact fin_
  · first | rw [if_neg h1] | rw [if_neg (by simp_all)] | rw [if_neg (by omega)]
    (repeat (with_reducible refine And.intro ?_ ?_; focus exact ob_))
    refine CallGi_flat (s_joint_limitRange j.Kind ) rfl ?_
    generalize hv13 : (d_joint_limitRange j.Kind) = v13
    simp only [go_sem, ite_andP, ite_orP, dec_true, dec_false]
    (repeat (with_reducible refine And.intro ?_ ?_; focus exact ob_))
    refine Wpi_loop hm (ι := {p : Nat × Unit // p.1 ≤ 4 ∧ itrE (d_joint_numbersInRange_L2 j) p.1 () = .inl p.2}) (fun i => [(1, .share, .ptr 32 0 0 1), (3, .share, .sc (.int .i64 1048576)), (4, .share, .sc (.int .i64 v13.1)), (5, .share, .sc (.int .i64 v13.2)), (18, .share, .agg [.sc (.int .i64 j.Impulses.I0), .sc (.int .i64 j.Impulses.I1), .sc (.int .i64 j.Impulses.I2), .sc (.int .i64 j.Impulses.I3)]), (19, .share, .sc (.int .i64 (i.1.1 : Int)))]) (fun i => [(32, .box [.sc (.int .i64 j.ID), .sc (.int .i64 j.Kind), .sc (.int .i64 j.BodyA), .sc (.int .i64 j.BodyB), .sc (.int .i64 j.AnchorA.X), .sc (.int .i64 j.AnchorA.Y), .sc (.int .i64 j.AnchorB.X), .sc (.int .i64 j.AnchorB.Y), .sc (.int .i64 j.Axis.X), .sc (.int .i64 j.Axis.Y), .sc (.int .i64 j.ReferenceAngle), .sc (.bool j.EnableLimit), .sc (.int .i64 j.Lower), .sc (.int .i64 j.Upper), .sc (.bool j.EnableMotor), .sc (.int .i64 j.MotorSpeed), .sc (.int .i64 j.MaxForce), .sc (.int .i64 j.Softness), .sc (.int .i64 j.BreakForce), .sc (.bool j.CollideConnected), .sc (.int .i64 j.Impulses.I0), .sc (.int .i64 j.Impulses.I1), .sc (.int .i64 j.Impulses.I2), .sc (.int .i64 j.Impulses.I3)])]) (fun i => 4 - i.1.1) ⟨(0, ()), by omega, rfl⟩ ?_ ?_
    · refine weakE_ [] [] ?_
      simp only [go_sem, ite_andP, ite_orP, dec_true, dec_false, itr_zero]
      all_goals exact fin_
    · rintro ⟨⟨i2, s2⟩, hi2, hs2⟩
      replace hi2 : i2 ≤ 4 := hi2
      replace hs2 : itrE (d_joint_numbersInRange_L2 j) i2 () = .inl s2 := hs2
      simp only [go_sem, ite_andP, ite_orP, dec_true, dec_false]
      (repeat (with_reducible refine And.intro ?_ ?_; focus exact ob_))
      by_cases h4 : (i2 : Int) < 4
      · first | rw [if_pos h4] | rw [if_pos (by simp_all)] | rw [if_pos (by omega)]
        have hlt2 : i2 < 4 := by first | omega | (simp only [IntKind.wrap_i64] at h4; omega)
        (repeat (with_reducible refine And.intro ?_ ?_; focus exact ob_))
        rw [getD4 (show i2 < 4 by omega)]
        refine CallGi_flat (s_joint_inRange ([j.Impulses.I0, j.Impulses.I1, j.Impulses.I2, j.Impulses.I3].getD i2 0) (-536870911) 536870911 ) rfl ?_
        simp only [go_sem, ite_andP, ite_orP, dec_true, dec_false]
        (repeat (with_reducible refine And.intro ?_ ?_; focus exact ob_))
        by_cases h5 : (inR ([j.Impulses.I0, j.Impulses.I1, j.Impulses.I2, j.Impulses.I3].getD i2 0) (-536870911) 536870911) = false
        · first | rw [if_pos h5] | rw [if_pos (by simp_all)] | rw [if_pos (by omega)]
          (repeat (with_reducible refine And.intro ?_ ?_; focus exact ob_))
          have e2 : itrE (d_joint_numbersInRange_L2 j) (i2 + 1) () = .inr false := itrE_inl hs2 (by first | with_reducible rfl | (unfold d_joint_numbersInRange_L2; exact hd_))
          replace e2 := itrE_stop e2 (show i2 + 1 ≤ 4 by omega)
          have hd : d_joint_numbersInRange j = false := by first | with_reducible rfl | (unfold d_joint_numbersInRange; exact hd_)
          try rw [hd]
          try simp only [go_sem, ite_andP, ite_orP, dec_true, dec_false]
          all_goals exact fin_
        · first | rw [if_neg h5] | rw [if_neg (by simp_all)] | rw [if_neg (by omega)]
          (repeat (with_reducible refine And.intro ?_ ?_; focus exact ob_))
          have hn : itrE (d_joint_numbersInRange_L2 j) (i2 + 1) () = .inl () := itrE_inl hs2 (by first | with_reducible rfl | (unfold d_joint_numbersInRange_L2; exact hd_))
          refine loop_next ⟨(i2 + 1, ()), by omega, hn⟩ (by show 4 - (i2 + 1) < 4 - i2; omega) (weakE_ [] [] ?_)
          simp only [go_sem, ite_andP, ite_orP, dec_true, dec_false]
          all_goals exact fin_
      · first | rw [if_neg h4] | rw [if_neg (by simp_all)] | rw [if_neg (by omega)]
        (repeat (with_reducible refine And.intro ?_ ?_; focus exact ob_))
        have hge : i2 = 4 := by first | omega | (simp only [IntKind.wrap_i64] at h4; omega)
        subst hge
        refine CallGi_flat (s_joint_inRange j.ID 1 1099511627776 ) rfl ?_
        simp only [go_sem, ite_andP, ite_orP, dec_true, dec_false]
        (repeat (with_reducible refine And.intro ?_ ?_; focus exact ob_))
        refine CallGi_flat (s_joint_pointInRange j.AnchorA 1048576 ) rfl ?_
        generalize hv16 : (d_joint_pointInRange j.AnchorA 1048576) = v16
        simp only [go_sem, ite_andP, ite_orP, dec_true, dec_false]
        (repeat (with_reducible refine And.intro ?_ ?_; focus exact ob_))
        refine CallGi_flat (s_joint_pointInRange j.AnchorB 1048576 ) rfl ?_
        generalize hv17 : (d_joint_pointInRange j.AnchorB 1048576) = v17
        simp only [go_sem, ite_andP, ite_orP, dec_true, dec_false]
        (repeat (with_reducible refine And.intro ?_ ?_; focus exact ob_))
        refine CallGi_flat (s_joint_inRange j.ReferenceAngle (-205888) 205887 ) rfl ?_
        simp only [go_sem, ite_andP, ite_orP, dec_true, dec_false]
        (repeat (with_reducible refine And.intro ?_ ?_; focus exact ob_))
        refine CallGi_flat (s_joint_inRange j.Lower v13.1 v13.2 ) rfl ?_
        simp only [go_sem, ite_andP, ite_orP, dec_true, dec_false]
        (repeat (with_reducible refine And.intro ?_ ?_; focus exact ob_))
        refine CallGi_flat (s_joint_inRange j.Upper v13.1 v13.2 ) rfl ?_
        simp only [go_sem, ite_andP, ite_orP, dec_true, dec_false]
        (repeat (with_reducible refine And.intro ?_ ?_; focus exact ob_))
        refine CallGi_flat (s_joint_inRange j.MotorSpeed (-16777216) 16777216 ) rfl ?_
        simp only [go_sem, ite_andP, ite_orP, dec_true, dec_false]
        (repeat (with_reducible refine And.intro ?_ ?_; focus exact ob_))
        refine CallGi_flat (s_joint_inRange j.MaxForce 0 536870911 ) rfl ?_
        simp only [go_sem, ite_andP, ite_orP, dec_true, dec_false]
        (repeat (with_reducible refine And.intro ?_ ?_; focus exact ob_))
        refine CallGi_flat (s_joint_inRange j.Softness 0 536870911 ) rfl ?_
        simp only [go_sem, ite_andP, ite_orP, dec_true, dec_false]
        (repeat (with_reducible refine And.intro ?_ ?_; focus exact ob_))
        refine CallGi_flat (s_joint_inRange j.BreakForce 0 536870911 ) rfl ?_
        simp only [go_sem, ite_andP, ite_orP, dec_true, dec_false]
        (repeat (with_reducible refine And.intro ?_ ?_; focus exact ob_))
        have hd : d_joint_numbersInRange j = (((((((((((inR j.ID 1 1099511627776) && v16) && v17) && (inR j.ReferenceAngle (-205888) 205887)) && (inR j.Lower v13.1 v13.2)) && (inR j.Upper v13.1 v13.2)) && (decide (j.Lower ≤ j.Upper))) && (inR j.MotorSpeed (-16777216) 16777216)) && (inR j.MaxForce 0 536870911)) && (inR j.Softness 0 536870911)) && (inR j.BreakForce 0 536870911)) := by first | with_reducible rfl | (unfold d_joint_numbersInRange; exact hd_)
        try rw [hd]
        try simp only [go_sem, ite_andP, ite_orP, dec_true, dec_false]
        all_goals exact fin_
def d_r24_rangesValid_L1 (j : Joint) (i1 : Nat) (s1 : Unit) : (Unit) ⊕ (Bool) := if (inR ([j.Impulses.I0, j.Impulses.I1, j.Impulses.I2, j.Impulses.I3].getD i1 0) (-536870911) 536870911) = false then (.inr false) else (.inl ())
def d_r24_rangesValid_L2 (j : Joint) (i2 : Nat) (s2 : Unit) : (Unit) ⊕ (Bool) := if (inR ([j.Impulses.I0, j.Impulses.I1, j.Impulses.I2, j.Impulses.I3].getD i2 0) (-536870911) 536870911) = false then (.inr false) else (.inl ())
def d_r24_rangesValid (j : Joint) : Bool := if (j.Kind == 5) = true then ((match itrE (d_r24_rangesValid_L1 j) 4 () with | .inr r => r | .inl s1 => let v3 := (d_r24_inSquare j.AnchorA 268435456); let v4 := (d_r24_inSquare j.AnchorB 1048576); let v6 := (d_r24_limitsValid j); if (((((!(inR j.ID 1 1099511627776)) || (!v3)) || (!v4)) || (!(inR j.ReferenceAngle (-205888) 205887))) || (!v6)) = true then (false) else (((((inR j.MotorSpeed (-16777216) 16777216) && (inR j.MaxForce 0 536870911)) && (inR j.Softness 0 536870911)) && (inR j.BreakForce 0 536870911))))) else ((match itrE (d_r24_rangesValid_L2 j) 4 () with | .inr r => r | .inl s2 => let v13 := (d_r24_inSquare j.AnchorA 1048576); let v14 := (d_r24_inSquare j.AnchorB 1048576); let v16 := (d_r24_limitsValid j); if (((((!(inR j.ID 1 1099511627776)) || (!v13)) || (!v14)) || (!(inR j.ReferenceAngle (-205888) 205887))) || (!v16)) = true then (false) else (((((inR j.MotorSpeed (-16777216) 16777216) && (inR j.MaxForce 0 536870911)) && (inR j.Softness 0 536870911)) && (inR j.BreakForce 0 536870911)))))
theorem s_r24_rangesValid (j : Joint)  : CallsA Tryz.prog F_r24_rangesValid [.agg j.enc] [] (.sc (.bool (d_r24_rangesValid j))) [] := by
  refine en1 hm shOk Tryz.func156 rfl rfl ?_
  simp only [go_sem, ite_andP, ite_orP, dec_true, dec_false]
  (repeat (with_reducible refine And.intro ?_ ?_; focus exact ob_))
  by_cases h1 : (j.Kind == 5) = true
  · first | rw [if_pos h1] | rw [if_pos (by simp_all)] | rw [if_pos (by omega)]
    (repeat (with_reducible refine And.intro ?_ ?_; focus exact ob_))
    refine Wpi_loop hm (ι := {p : Nat × Unit // p.1 ≤ 4 ∧ itrE (d_r24_rangesValid_L1 j) p.1 () = .inl p.2}) (fun i => [(1, .share, .ptr 32 0 0 1), (3, .share, .sc (.int .i64 268435456)), (4, .share, .sc (.int .i64 (i.1.1 : Int)))]) (fun i => [(32, .box [.sc (.int .i64 j.ID), .sc (.int .i64 j.Kind), .sc (.int .i64 j.BodyA), .sc (.int .i64 j.BodyB), .sc (.int .i64 j.AnchorA.X), .sc (.int .i64 j.AnchorA.Y), .sc (.int .i64 j.AnchorB.X), .sc (.int .i64 j.AnchorB.Y), .sc (.int .i64 j.Axis.X), .sc (.int .i64 j.Axis.Y), .sc (.int .i64 j.ReferenceAngle), .sc (.bool j.EnableLimit), .sc (.int .i64 j.Lower), .sc (.int .i64 j.Upper), .sc (.bool j.EnableMotor), .sc (.int .i64 j.MotorSpeed), .sc (.int .i64 j.MaxForce), .sc (.int .i64 j.Softness), .sc (.int .i64 j.BreakForce), .sc (.bool j.CollideConnected), .sc (.int .i64 j.Impulses.I0), .sc (.int .i64 j.Impulses.I1), .sc (.int .i64 j.Impulses.I2), .sc (.int .i64 j.Impulses.I3)])]) (fun i => 4 - i.1.1) ⟨(0, ()), by omega, rfl⟩ ?_ ?_
    · refine weakE_ [] [] ?_
      simp only [go_sem, ite_andP, ite_orP, dec_true, dec_false, itr_zero]
      all_goals exact fin_
    · rintro ⟨⟨i1, s1⟩, hi1, hs1⟩
      replace hi1 : i1 ≤ 4 := hi1
      replace hs1 : itrE (d_r24_rangesValid_L1 j) i1 () = .inl s1 := hs1
      simp only [go_sem, ite_andP, ite_orP, dec_true, dec_false]
      (repeat (with_reducible refine And.intro ?_ ?_; focus exact ob_))
      by_cases h2 : (i1 : Int) < 4
      · first | rw [if_pos h2] | rw [if_pos (by simp_all)] | rw [if_pos (by omega)]
        have hlt1 : i1 < 4 := by first | omega | (simp only [IntKind.wrap_i64] at h2; omega)
        (repeat (with_reducible refine And.intro ?_ ?_; focus exact ob_))
        simp only [dropJ (show i1 < 4 by omega), go_sem, ite_andP, ite_orP, dec_true, dec_false]
        (repeat (with_reducible refine And.intro ?_ ?_; focus exact ob_))
        refine CallGi_flat (s_r24_inRange ([j.Impulses.I0, j.Impulses.I1, j.Impulses.I2, j.Impulses.I3].getD i1 0) (-536870911) 536870911 ) rfl ?_
        simp only [go_sem, ite_andP, ite_orP, dec_true, dec_false]
        (repeat (with_reducible refine And.intro ?_ ?_; focus exact ob_))
        by_cases h3 : (inR ([j.Impulses.I0, j.Impulses.I1, j.Impulses.I2, j.Impulses.I3].getD i1 0) (-536870911) 536870911) = false
        · first | rw [if_pos h3] | rw [if_pos (by simp_all)] | rw [if_pos (by omega)]
          (repeat (with_reducible refine And.intro ?_ ?_; focus exact ob_))
          have e1 : itrE (d_r24_rangesValid_L1 j) (i1 + 1) () = .inr false := itrE_inl hs1 (by first | with_reducible rfl | (unfold d_r24_rangesValid_L1; exact hd_))
          replace e1 := itrE_stop e1 (show i1 + 1 ≤ 4 by omega)
          have hd : d_r24_rangesValid j = false := by first | with_reducible rfl | (unfold d_r24_rangesValid; exact hd_)
          try rw [hd]
          try simp only [go_sem, ite_andP, ite_orP, dec_true, dec_false]
          all_goals exact fin_
        · first | rw [if_neg h3] | rw [if_neg (by simp_all)] | rw [if_neg (by omega)]
          (repeat (with_reducible refine And.intro ?_ ?_; focus exact ob_))
          have hn : itrE (d_r24_rangesValid_L1 j) (i1 + 1) () = .inl () := itrE_inl hs1 (by first | with_reducible rfl | (unfold d_r24_rangesValid_L1; exact hd_))
          refine loop_next ⟨(i1 + 1, ()), by omega, hn⟩ (by show 4 - (i1 + 1) < 4 - i1; omega) (weakE_ [] [] ?_)
          simp only [go_sem, ite_andP, ite_orP, dec_true, dec_false]
          all_goals exact fin_
      · first | rw [if_neg h2] | rw [if_neg (by simp_all)] | rw [if_neg (by omega)]
        (repeat (with_reducible refine And.intro ?_ ?_; focus exact ob_))
        have hge : i1 = 4 := by first | omega | (simp only [IntKind.wrap_i64] at h2; omega)
        subst hge
        refine CallGi_flat (s_r24_inRange j.ID 1 1099511627776 ) rfl ?_
        simp only [go_sem, ite_andP, ite_orP, dec_true, dec_false]
        (repeat (with_reducible refine And.intro ?_ ?_; focus exact ob_))
        refine CallGi_flat (s_r24_inSquare j.AnchorA 268435456 ) rfl ?_
        generalize hv3 : (d_r24_inSquare j.AnchorA 268435456) = v3
        simp only [go_sem, ite_andP, ite_orP, dec_true, dec_false]
        (repeat (with_reducible refine And.intro ?_ ?_; focus exact ob_))
        refine CallGi_flat (s_r24_inSquare j.AnchorB 1048576 ) rfl ?_
        generalize hv4 : (d_r24_inSquare j.AnchorB 1048576) = v4
        simp only [go_sem, ite_andP, ite_orP, dec_true, dec_false]
        (repeat (with_reducible refine And.intro ?_ ?_; focus exact ob_))
        refine CallGi_flat (s_r24_inRange j.ReferenceAngle (-205888) 205887 ) rfl ?_
        simp only [go_sem, ite_andP, ite_orP, dec_true, dec_false]
        (repeat (with_reducible refine And.intro ?_ ?_; focus exact ob_))
        refine CallGi_flat (s_r24_limitsValid j ) rfl ?_
        generalize hv6 : (d_r24_limitsValid j) = v6
        simp only [go_sem, ite_andP, ite_orP, dec_true, dec_false]
        (repeat (with_reducible refine And.intro ?_ ?_; focus exact ob_))
        by_cases h4 : (((((!(inR j.ID 1 1099511627776)) || (!v3)) || (!v4)) || (!(inR j.ReferenceAngle (-205888) 205887))) || (!v6)) = true
        · first | rw [if_pos h4] | rw [if_pos (by simp_all)] | rw [if_pos (by omega)]
          (repeat (with_reducible refine And.intro ?_ ?_; focus exact ob_))
          have hd : d_r24_rangesValid j = false := by first | with_reducible rfl | (unfold d_r24_rangesValid; exact hd_)
          try rw [hd]
          try simp only [go_sem, ite_andP, ite_orP, dec_true, dec_false]
          all_goals exact fin_
        · first | rw [if_neg h4] | rw [if_neg (by simp_all)] | rw [if_neg (by omega)]
          (repeat (with_reducible refine And.intro ?_ ?_; focus exact ob_))
          refine CallGi_flat (s_r24_inRange j.MotorSpeed (-16777216) 16777216 ) rfl ?_
          simp only [go_sem, ite_andP, ite_orP, dec_true, dec_false]
          (repeat (with_reducible refine And.intro ?_ ?_; focus exact ob_))
          refine CallGi_flat (s_r24_inRange j.MaxForce 0 536870911 ) rfl ?_
          simp only [go_sem, ite_andP, ite_orP, dec_true, dec_false]
          (repeat (with_reducible refine And.intro ?_ ?_; focus exact ob_))
          refine CallGi_flat (s_r24_inRange j.Softness 0 536870911 ) rfl ?_
          simp only [go_sem, ite_andP, ite_orP, dec_true, dec_false]
          (repeat (with_reducible refine And.intro ?_ ?_; focus exact ob_))
          refine CallGi_flat (s_r24_inRange j.BreakForce 0 536870911 ) rfl ?_
          simp only [go_sem, ite_andP, ite_orP, dec_true, dec_false]
          (repeat (with_reducible refine And.intro ?_ ?_; focus exact ob_))
          have hd : d_r24_rangesValid j = ((((inR j.MotorSpeed (-16777216) 16777216) && (inR j.MaxForce 0 536870911)) && (inR j.Softness 0 536870911)) && (inR j.BreakForce 0 536870911)) := by first | with_reducible rfl | (unfold d_r24_rangesValid; exact hd_)
          try rw [hd]
          try simp only [go_sem, ite_andP, ite_orP, dec_true, dec_false]
          all_goals exact fin_
  · first | rw [if_neg h1] | rw [if_neg (by simp_all)] | rw [if_neg (by omega)]
    (repeat (with_reducible refine And.intro ?_ ?_; focus exact ob_))
    refine Wpi_loop hm (ι := {p : Nat × Unit // p.1 ≤ 4 ∧ itrE (d_r24_rangesValid_L2 j) p.1 () = .inl p.2}) (fun i => [(1, .share, .ptr 32 0 0 1), (3, .share, .sc (.int .i64 1048576)), (4, .share, .sc (.int .i64 (i.1.1 : Int)))]) (fun i => [(32, .box [.sc (.int .i64 j.ID), .sc (.int .i64 j.Kind), .sc (.int .i64 j.BodyA), .sc (.int .i64 j.BodyB), .sc (.int .i64 j.AnchorA.X), .sc (.int .i64 j.AnchorA.Y), .sc (.int .i64 j.AnchorB.X), .sc (.int .i64 j.AnchorB.Y), .sc (.int .i64 j.Axis.X), .sc (.int .i64 j.Axis.Y), .sc (.int .i64 j.ReferenceAngle), .sc (.bool j.EnableLimit), .sc (.int .i64 j.Lower), .sc (.int .i64 j.Upper), .sc (.bool j.EnableMotor), .sc (.int .i64 j.MotorSpeed), .sc (.int .i64 j.MaxForce), .sc (.int .i64 j.Softness), .sc (.int .i64 j.BreakForce), .sc (.bool j.CollideConnected), .sc (.int .i64 j.Impulses.I0), .sc (.int .i64 j.Impulses.I1), .sc (.int .i64 j.Impulses.I2), .sc (.int .i64 j.Impulses.I3)])]) (fun i => 4 - i.1.1) ⟨(0, ()), by omega, rfl⟩ ?_ ?_
    · refine weakE_ [] [] ?_
      simp only [go_sem, ite_andP, ite_orP, dec_true, dec_false, itr_zero]
      all_goals exact fin_
    · rintro ⟨⟨i2, s2⟩, hi2, hs2⟩
      replace hi2 : i2 ≤ 4 := hi2
      replace hs2 : itrE (d_r24_rangesValid_L2 j) i2 () = .inl s2 := hs2
      simp only [go_sem, ite_andP, ite_orP, dec_true, dec_false]
      (repeat (with_reducible refine And.intro ?_ ?_; focus exact ob_))
      by_cases h5 : (i2 : Int) < 4
      · first | rw [if_pos h5] | rw [if_pos (by simp_all)] | rw [if_pos (by omega)]
        have hlt2 : i2 < 4 := by first | omega | (simp only [IntKind.wrap_i64] at h5; omega)
        (repeat (with_reducible refine And.intro ?_ ?_; focus exact ob_))
        simp only [dropJ (show i2 < 4 by omega), go_sem, ite_andP, ite_orP, dec_true, dec_false]
        (repeat (with_reducible refine And.intro ?_ ?_; focus exact ob_))
        refine CallGi_flat (s_r24_inRange ([j.Impulses.I0, j.Impulses.I1, j.Impulses.I2, j.Impulses.I3].getD i2 0) (-536870911) 536870911 ) rfl ?_
        simp only [go_sem, ite_andP, ite_orP, dec_true, dec_false]
        (repeat (with_reducible refine And.intro ?_ ?_; focus exact ob_))
        by_cases h6 : (inR ([j.Impulses.I0, j.Impulses.I1, j.Impulses.I2, j.Impulses.I3].getD i2 0) (-536870911) 536870911) = false
        · first | rw [if_pos h6] | rw [if_pos (by simp_all)] | rw [if_pos (by omega)]
          (repeat (with_reducible refine And.intro ?_ ?_; focus exact ob_))
          have e2 : itrE (d_r24_rangesValid_L2 j) (i2 + 1) () = .inr false := itrE_inl hs2 (by first | with_reducible rfl | (unfold d_r24_rangesValid_L2; exact hd_))
          replace e2 := itrE_stop e2 (show i2 + 1 ≤ 4 by omega)
          have hd : d_r24_rangesValid j = false := by first | with_reducible rfl | (unfold d_r24_rangesValid; exact hd_)
          try rw [hd]
          try simp only [go_sem, ite_andP, ite_orP, dec_true, dec_false]
          all_goals exact fin_
        · first | rw [if_neg h6] | rw [if_neg (by simp_all)] | rw [if_neg (by omega)]
          (repeat (with_reducible refine And.intro ?_ ?_; focus exact ob_))
          have hn : itrE (d_r24_rangesValid_L2 j) (i2 + 1) () = .inl () := itrE_inl hs2 (by first | with_reducible rfl | (unfold d_r24_rangesValid_L2; exact hd_))
          refine loop_next ⟨(i2 + 1, ()), by omega, hn⟩ (by show 4 - (i2 + 1) < 4 - i2; omega) (weakE_ [] [] ?_)
          simp only [go_sem, ite_andP, ite_orP, dec_true, dec_false]
          all_goals exact fin_
      · first | rw [if_neg h5] | rw [if_neg (by simp_all)] | rw [if_neg (by omega)]
        (repeat (with_reducible refine And.intro ?_ ?_; focus exact ob_))
        have hge : i2 = 4 := by first | omega | (simp only [IntKind.wrap_i64] at h5; omega)
        subst hge
        refine CallGi_flat (s_r24_inRange j.ID 1 1099511627776 ) rfl ?_
        simp only [go_sem, ite_andP, ite_orP, dec_true, dec_false]
        (repeat (with_reducible refine And.intro ?_ ?_; focus exact ob_))
        refine CallGi_flat (s_r24_inSquare j.AnchorA 1048576 ) rfl ?_
        generalize hv13 : (d_r24_inSquare j.AnchorA 1048576) = v13
        simp only [go_sem, ite_andP, ite_orP, dec_true, dec_false]
        (repeat (with_reducible refine And.intro ?_ ?_; focus exact ob_))
        refine CallGi_flat (s_r24_inSquare j.AnchorB 1048576 ) rfl ?_
        generalize hv14 : (d_r24_inSquare j.AnchorB 1048576) = v14
        simp only [go_sem, ite_andP, ite_orP, dec_true, dec_false]
        (repeat (with_reducible refine And.intro ?_ ?_; focus exact ob_))
        refine CallGi_flat (s_r24_inRange j.ReferenceAngle (-205888) 205887 ) rfl ?_
        simp only [go_sem, ite_andP, ite_orP, dec_true, dec_false]
        (repeat (with_reducible refine And.intro ?_ ?_; focus exact ob_))
        refine CallGi_flat (s_r24_limitsValid j ) rfl ?_
        generalize hv16 : (d_r24_limitsValid j) = v16
        simp only [go_sem, ite_andP, ite_orP, dec_true, dec_false]
        (repeat (with_reducible refine And.intro ?_ ?_; focus exact ob_))
        by_cases h7 : (((((!(inR j.ID 1 1099511627776)) || (!v13)) || (!v14)) || (!(inR j.ReferenceAngle (-205888) 205887))) || (!v16)) = true
        · first | rw [if_pos h7] | rw [if_pos (by simp_all)] | rw [if_pos (by omega)]
          (repeat (with_reducible refine And.intro ?_ ?_; focus exact ob_))
          have hd : d_r24_rangesValid j = false := by first | with_reducible rfl | (unfold d_r24_rangesValid; exact hd_)
          try rw [hd]
          try simp only [go_sem, ite_andP, ite_orP, dec_true, dec_false]
          all_goals exact fin_
        · first | rw [if_neg h7] | rw [if_neg (by simp_all)] | rw [if_neg (by omega)]
          (repeat (with_reducible refine And.intro ?_ ?_; focus exact ob_))
          refine CallGi_flat (s_r24_inRange j.MotorSpeed (-16777216) 16777216 ) rfl ?_
          simp only [go_sem, ite_andP, ite_orP, dec_true, dec_false]
          (repeat (with_reducible refine And.intro ?_ ?_; focus exact ob_))
          refine CallGi_flat (s_r24_inRange j.MaxForce 0 536870911 ) rfl ?_
          simp only [go_sem, ite_andP, ite_orP, dec_true, dec_false]
          (repeat (with_reducible refine And.intro ?_ ?_; focus exact ob_))
          refine CallGi_flat (s_r24_inRange j.Softness 0 536870911 ) rfl ?_
          simp only [go_sem, ite_andP, ite_orP, dec_true, dec_false]
          (repeat (with_reducible refine And.intro ?_ ?_; focus exact ob_))
          refine CallGi_flat (s_r24_inRange j.BreakForce 0 536870911 ) rfl ?_
          simp only [go_sem, ite_andP, ite_orP, dec_true, dec_false]
          (repeat (with_reducible refine And.intro ?_ ?_; focus exact ob_))
          have hd : d_r24_rangesValid j = ((((inR j.MotorSpeed (-16777216) 16777216) && (inR j.MaxForce 0 536870911)) && (inR j.Softness 0 536870911)) && (inR j.BreakForce 0 536870911)) := by first | with_reducible rfl | (unfold d_r24_rangesValid; exact hd_)
          try rw [hd]
          try simp only [go_sem, ite_andP, ite_orP, dec_true, dec_false]
          all_goals exact fin_
def d_joint_Validate (j : Joint) : Int := if ((decide (j.Kind < 1)) || (decide (5 < j.Kind))) = true then (10) else (let v1 := (d_joint_numbersInRange j); if v1 = false then (6) else (let v2 := (d_joint_validBodies j); if v2 = false then (14) else (let v3 := (d_joint_inconsistent j); if v3 = true then (15) else (0))))
theorem s_joint_Validate (j : Joint)  : CallsA Tryz.prog F_joint_Validate [.agg j.enc] [] (.sc (.int .i64 (d_joint_Validate j))) [] := by
  refine en1 hm shOk Tryz.func50 rfl rfl ?_
  have := s_joint_numbersInRange
  have := s_joint_validBodies
  have := s_joint_inconsistent
  have := d_joint_Validate.eq_1 j
  exact walk_
def d_r24_Validate (j : Joint) : Int := if ((decide (j.Kind < 1)) || (decide (5 < j.Kind))) = true then (10) else (let v1 := (d_r24_rangesValid j); if v1 = false then (6) else (if (((!(inR j.BodyB 1 1099511627776)) || ((j.Kind == 5) && (j.BodyA != 0))) || ((j.Kind != 5) && ((!(inR j.BodyA 1 1099511627776)) || (j.BodyA == j.BodyB)))) = true then (14) else (let v4 := (lenV j.Axis); if (((j.Kind == 3) && (!(inR v4 65520 65552))) || ((j.Kind != 3) && (!((j.Axis.X == 0) && (j.Axis.Y == 0))))) = true then (15) else (if (((((j.Kind == 1) || ((j.Kind == 4) || (j.Kind == 5))) && j.EnableMotor) || (((j.Kind == 4) || (j.Kind == 5)) && j.EnableLimit)) || ((j.Kind == 1) && (!j.EnableLimit))) = true then (15) else (0)))))
theorem s_r24_Validate (j : Joint)  : CallsA Tryz.prog F_r24_Validate [.agg j.enc] [] (.sc (.int .i64 (d_r24_Validate j))) [] := by
  refine en1 hm shOk Tryz.func125 rfl rfl ?_
  have := s_r24_rangesValid
  have := s_r24_inRange
  have := s_r03_Length
  have := d_r24_Validate.eq_1 j
  exact walk_
end Go.Abs
end
section
namespace Go.Abs
open Go.Proofs
open Api
def d_world_validBodies_L1 (w : Api.World) (i1 : Nat) (s1 : Int) : (Int) ⊕ (Bool) := let v1 := (d_body_Validate (w.Bodies.getD i1 default)); if (((v1 != 0) || (decide (w.NextID ≤ (w.Bodies.getD i1 default).ID))) || (decide ((w.Bodies.getD i1 default).ID ≤ s1))) = true then (.inr false) else (.inl (w.Bodies.getD i1 default).ID)
def d_world_validBodies (w : Api.World) : Bool := (match itrE (d_world_validBodies_L1 w) w.Bodies.length 0 with | .inr r => r | .inl s1 => true)
theorem s_world_validBodies (w : Api.World) (hw : Wsm w) : CallsA Tryz.prog F_world_validBodies [.agg w.enc] [] (.sc (.bool (d_world_validBodies w))) [] := by
  have hw1 := hw.1
  refine en1 hm shOk Tryz.func27 rfl rfl ?_
  simp only [go_sem, ite_andP, ite_orP, dec_true, dec_false]
  (repeat (with_reducible refine And.intro ?_ ?_; focus exact ob_))
  refine Wpi_loop hm (ι := {p : Nat × Int // p.1 ≤ w.Bodies.length ∧ itrE (d_world_validBodies_L1 w) p.1 0 = .inl p.2}) (fun i => [(1, .share, .ptr 32 0 0 1), (3, .share, .sc (.int .i64 i.1.2)), (7, .share, encD 20 Body.enc default w.Bodies), (8, .share, .sc (.int .i64 (w.Bodies.length : Int))), (9, .share, .sc (.int .i64 (i.1.1 : Int)))]) (fun i => [(32, .box [.sc (.int .i64 w.Settings.TimeStep), .sc (.int .i64 w.Settings.Gravity.X), .sc (.int .i64 w.Settings.Gravity.Y), .sc (.int .i64 w.Settings.Iterations), .sc (.int .i64 w.Settings.SleepSteps), encD 20 Body.enc default w.Bodies, encD 24 Joint.enc default w.Joints, encD 7 Contact.enc default w.Contacts, encD 4 PairKey.enc default w.Overlaps, .sc (.int .i64 w.NextID), .sc (.int .i64 w.Frame)])]) (fun i => w.Bodies.length - i.1.1) ⟨(0, 0), by omega, rfl⟩ ?_ ?_
  · refine weakE_ [] [] ?_
    simp only [go_sem, ite_andP, ite_orP, dec_true, dec_false, itr_zero]
    all_goals exact fin_
  · rintro ⟨⟨i1, s1⟩, hi1, hs1⟩
    replace hi1 : i1 ≤ w.Bodies.length := hi1
    replace hs1 : itrE (d_world_validBodies_L1 w) i1 0 = .inl s1 := hs1
    simp only [go_sem, ite_andP, ite_orP, dec_true, dec_false]
    (repeat (with_reducible refine And.intro ?_ ?_; focus exact ob_))
    by_cases h1 : (i1 : Int) < (w.Bodies.length : Int)
    · first | rw [if_pos h1] | rw [if_pos (by simp_all)] | rw [if_pos (by omega)]
      have hlt1 : i1 < w.Bodies.length := by first | omega | (simp only [IntKind.wrap_i64] at h1; omega)
      (repeat (with_reducible refine And.intro ?_ ?_; focus exact ob_))
      refine CallGi_flat (s_body_Validate (w.Bodies.getD i1 default) (by (first | exact hw.2.2.2.2.1 _ (mem_getD _ (by omega)) | exact hw.1 | assumption | omega | (simp_all; done) | (simp_all; omega)))) rfl ?_
      generalize hv1 : (d_body_Validate (w.Bodies.getD i1 default)) = v1
      simp only [go_sem, ite_andP, ite_orP, dec_true, dec_false]
      (repeat (with_reducible refine And.intro ?_ ?_; focus exact ob_))
      by_cases h2 : (((v1 != 0) || (decide (w.NextID ≤ (w.Bodies.getD i1 default).ID))) || (decide ((w.Bodies.getD i1 default).ID ≤ s1))) = true
      · first | rw [if_pos h2] | rw [if_pos (by simp_all)] | rw [if_pos (by omega)]
        (repeat (with_reducible refine And.intro ?_ ?_; focus exact ob_))
        have e1 : itrE (d_world_validBodies_L1 w) (i1 + 1) 0 = .inr false := itrE_inl hs1 (by first | with_reducible rfl | (unfold d_world_validBodies_L1; exact hd_))
        replace e1 := itrE_stop e1 (show i1 + 1 ≤ w.Bodies.length by omega)
        have hd : d_world_validBodies w = false := by first | with_reducible rfl | (unfold d_world_validBodies; exact hd_)
        try rw [hd]
        try simp only [go_sem, ite_andP, ite_orP, dec_true, dec_false]
        all_goals exact fin_
      · first | rw [if_neg h2] | rw [if_neg (by simp_all)] | rw [if_neg (by omega)]
        (repeat (with_reducible refine And.intro ?_ ?_; focus exact ob_))
        have hn : itrE (d_world_validBodies_L1 w) (i1 + 1) 0 = .inl (w.Bodies.getD i1 default).ID := itrE_inl hs1 (by first | with_reducible rfl | (unfold d_world_validBodies_L1; exact hd_))
        refine loop_next ⟨(i1 + 1, (w.Bodies.getD i1 default).ID), by omega, hn⟩ (by show w.Bodies.length - (i1 + 1) < w.Bodies.length - i1; omega) (weakE_ [] [] ?_)
        simp only [go_sem, ite_andP, ite_orP, dec_true, dec_false]
        all_goals exact fin_
    · first | rw [if_neg h1] | rw [if_neg (by simp_all)] | rw [if_neg (by omega)]
      (repeat (with_reducible refine And.intro ?_ ?_; focus exact ob_))
      have hge : i1 = w.Bodies.length := by first | omega | (simp only [IntKind.wrap_i64] at h1; omega)
      subst hge
      have hd : d_world_validBodies w = true := by first | with_reducible rfl | (unfold d_world_validBodies; exact hd_)
      try rw [hd]
      try simp only [go_sem, ite_andP, ite_orP, dec_true, dec_false]
      all_goals exact fin_
def d_r25_validBodies_L1 (w : Api.World) (i1 : Nat) (s1 : Int) : (Int) ⊕ (Bool) := let v1 := (d_r23_Validate (w.Bodies.getD i1 default)); if (((v1 != 0) || (decide (w.NextID ≤ (w.Bodies.getD i1 default).ID))) || ((decide (0 < (i1 : Int))) && (decide ((w.Bodies.getD i1 default).ID ≤ s1)))) = true then (.inr false) else (.inl (w.Bodies.getD i1 default).ID)
def d_r25_validBodies (w : Api.World) : Bool := (match itrE (d_r25_validBodies_L1 w) w.Bodies.length 0 with | .inr r => r | .inl s1 => true)
theorem s_r25_validBodies (w : Api.World) (hw : Wsm w) : CallsA Tryz.prog F_r25_validBodies [.agg w.enc] [] (.sc (.bool (d_r25_validBodies w))) [] := by
  have hw1 := hw.1
  refine en1 hm shOk Tryz.func80 rfl rfl ?_
  simp only [go_sem, ite_andP, ite_orP, dec_true, dec_false]
  (repeat (with_reducible refine And.intro ?_ ?_; focus exact ob_))
  refine Wpi_loop hm (ι := {p : Nat × Int // p.1 ≤ w.Bodies.length ∧ itrE (d_r25_validBodies_L1 w) p.1 0 = .inl p.2}) (fun i => [(1, .share, .ptr 32 0 0 1), (3, .share, .sc (.int .i64 i.1.2)), (4, .share, .sc (.int .i64 (i.1.1 : Int)))]) (fun i => [(32, .box [.sc (.int .i64 w.Settings.TimeStep), .sc (.int .i64 w.Settings.Gravity.X), .sc (.int .i64 w.Settings.Gravity.Y), .sc (.int .i64 w.Settings.Iterations), .sc (.int .i64 w.Settings.SleepSteps), encD 20 Body.enc default w.Bodies, encD 24 Joint.enc default w.Joints, encD 7 Contact.enc default w.Contacts, encD 4 PairKey.enc default w.Overlaps, .sc (.int .i64 w.NextID), .sc (.int .i64 w.Frame)])]) (fun i => w.Bodies.length - i.1.1) ⟨(0, 0), by omega, rfl⟩ ?_ ?_
  · refine weakE_ [] [] ?_
    simp only [go_sem, ite_andP, ite_orP, dec_true, dec_false, itr_zero]
    all_goals exact fin_
  · rintro ⟨⟨i1, s1⟩, hi1, hs1⟩
    replace hi1 : i1 ≤ w.Bodies.length := hi1
    replace hs1 : itrE (d_r25_validBodies_L1 w) i1 0 = .inl s1 := hs1
    simp only [go_sem, ite_andP, ite_orP, dec_true, dec_false]
    (repeat (with_reducible refine And.intro ?_ ?_; focus exact ob_))
    by_cases h1 : (i1 : Int) < (w.Bodies.length : Int)
    · first | rw [if_pos h1] | rw [if_pos (by simp_all)] | rw [if_pos (by omega)]
      have hlt1 : i1 < w.Bodies.length := by first | omega | (simp only [IntKind.wrap_i64] at h1; omega)
      (repeat (with_reducible refine And.intro ?_ ?_; focus exact ob_))
      refine CallGi_flat (s_r23_Validate (w.Bodies.getD i1 default) (by (first | exact hw.2.2.2.2.1 _ (mem_getD _ (by omega)) | exact hw.1 | assumption | omega | (simp_all; done) | (simp_all; omega)))) rfl ?_
      generalize hv1 : (d_r23_Validate (w.Bodies.getD i1 default)) = v1
      simp only [go_sem, ite_andP, ite_orP, dec_true, dec_false]
      (repeat (with_reducible refine And.intro ?_ ?_; focus exact ob_))
      by_cases h2 : (((v1 != 0) || (decide (w.NextID ≤ (w.Bodies.getD i1 default).ID))) || ((decide (0 < (i1 : Int))) && (decide ((w.Bodies.getD i1 default).ID ≤ s1)))) = true
      · first | rw [if_pos h2] | rw [if_pos (by simp_all)] | rw [if_pos (by omega)]
        (repeat (with_reducible refine And.intro ?_ ?_; focus exact ob_))
        have e1 : itrE (d_r25_validBodies_L1 w) (i1 + 1) 0 = .inr false := itrE_inl hs1 (by first | with_reducible rfl | (unfold d_r25_validBodies_L1; exact hd_))
        replace e1 := itrE_stop e1 (show i1 + 1 ≤ w.Bodies.length by omega)
        have hd : d_r25_validBodies w = false := by first | with_reducible rfl | (unfold d_r25_validBodies; exact hd_)
        try rw [hd]
        try simp only [go_sem, ite_andP, ite_orP, dec_true, dec_false]
        all_goals exact fin_
      · first | rw [if_neg h2] | rw [if_neg (by simp_all)] | rw [if_neg (by omega)]
        (repeat (with_reducible refine And.intro ?_ ?_; focus exact ob_))
        have hn : itrE (d_r25_validBodies_L1 w) (i1 + 1) 0 = .inl (w.Bodies.getD i1 default).ID := itrE_inl hs1 (by first | with_reducible rfl | (unfold d_r25_validBodies_L1; exact hd_))
        refine loop_next ⟨(i1 + 1, (w.Bodies.getD i1 default).ID), by omega, hn⟩ (by show w.Bodies.length - (i1 + 1) < w.Bodies.length - i1; omega) (weakE_ [] [] ?_)
        simp only [go_sem, ite_andP, ite_orP, dec_true, dec_false]
        all_goals exact fin_
    · first | rw [if_neg h1] | rw [if_neg (by simp_all)] | rw [if_neg (by omega)]
      (repeat (with_reducible refine And.intro ?_ ?_; focus exact ob_))
      have hge : i1 = w.Bodies.length := by first | omega | (simp only [IntKind.wrap_i64] at h1; omega)
      subst hge
      have hd : d_r25_validBodies w = true := by first | with_reducible rfl | (unfold d_r25_validBodies; exact hd_)
      try rw [hd]
      try simp only [go_sem, ite_andP, ite_orP, dec_true, dec_false]
      all_goals exact fin_
def d_world_validJoints_L1 (w : Api.World) (i1 : Nat) (s1 : Int) : (Int) ⊕ (Bool) := let v1 := (d_joint_Validate (w.Joints.getD i1 default)); let v2 := (d_world_bodiesExist w (w.Joints.getD i1 default)); let v3 := (findB w (w.Joints.getD i1 default).ID); if (((((v1 != 0) || (decide (w.NextID ≤ (w.Joints.getD i1 default).ID))) || (decide ((w.Joints.getD i1 default).ID ≤ s1))) || (!v2)) || (decide (0 ≤ v3))) = true then (.inr false) else (.inl (w.Joints.getD i1 default).ID)
def d_world_validJoints (w : Api.World) : Bool := (match itrE (d_world_validJoints_L1 w) w.Joints.length 0 with | .inr r => r | .inl s1 => true)
theorem s_world_validJoints (w : Api.World) (hw : Wsm w) : CallsA Tryz.prog F_world_validJoints [.agg w.enc] [] (.sc (.bool (d_world_validJoints w))) [] := by
  have hw2 := hw.2.1; have hw1 := hw.1
  refine en1 hm shOk Tryz.func28 rfl rfl ?_
  simp only [go_sem, ite_andP, ite_orP, dec_true, dec_false]
  (repeat (with_reducible refine And.intro ?_ ?_; focus exact ob_))
  refine Wpi_loop hm (ι := {p : Nat × Int // p.1 ≤ w.Joints.length ∧ itrE (d_world_validJoints_L1 w) p.1 0 = .inl p.2}) (fun i => [(1, .share, .ptr 32 0 0 1), (3, .share, .sc (.int .i64 i.1.2)), (7, .share, encD 24 Joint.enc default w.Joints), (8, .share, .sc (.int .i64 (w.Joints.length : Int))), (9, .share, .sc (.int .i64 (i.1.1 : Int)))]) (fun i => [(32, .box [.sc (.int .i64 w.Settings.TimeStep), .sc (.int .i64 w.Settings.Gravity.X), .sc (.int .i64 w.Settings.Gravity.Y), .sc (.int .i64 w.Settings.Iterations), .sc (.int .i64 w.Settings.SleepSteps), encD 20 Body.enc default w.Bodies, encD 24 Joint.enc default w.Joints, encD 7 Contact.enc default w.Contacts, encD 4 PairKey.enc default w.Overlaps, .sc (.int .i64 w.NextID), .sc (.int .i64 w.Frame)])]) (fun i => w.Joints.length - i.1.1) ⟨(0, 0), by omega, rfl⟩ ?_ ?_
  · refine weakE_ [] [] ?_
    simp only [go_sem, ite_andP, ite_orP, dec_true, dec_false, itr_zero]
    all_goals exact fin_
  · rintro ⟨⟨i1, s1⟩, hi1, hs1⟩
    replace hi1 : i1 ≤ w.Joints.length := hi1
    replace hs1 : itrE (d_world_validJoints_L1 w) i1 0 = .inl s1 := hs1
    simp only [go_sem, ite_andP, ite_orP, dec_true, dec_false]
    (repeat (with_reducible refine And.intro ?_ ?_; focus exact ob_))
    by_cases h1 : (i1 : Int) < (w.Joints.length : Int)
    · first | rw [if_pos h1] | rw [if_pos (by simp_all)] | rw [if_pos (by omega)]
      have hlt1 : i1 < w.Joints.length := by first | omega | (simp only [IntKind.wrap_i64] at h1; omega)
      (repeat (with_reducible refine And.intro ?_ ?_; focus exact ob_))
      refine CallGi_flat (s_joint_Validate (w.Joints.getD i1 default) ) rfl ?_
      generalize hv1 : (d_joint_Validate (w.Joints.getD i1 default)) = v1
      simp only [go_sem, ite_andP, ite_orP, dec_true, dec_false]
      (repeat (with_reducible refine And.intro ?_ ?_; focus exact ob_))
      refine CallGi_flat (s_world_bodiesExist w (w.Joints.getD i1 default) (by (first | exact hw.1 | assumption | omega | (simp_all; done) | (simp_all; omega)))) rfl ?_
      generalize hv2 : (d_world_bodiesExist w (w.Joints.getD i1 default)) = v2
      simp only [go_sem, ite_andP, ite_orP, dec_true, dec_false]
      (repeat (with_reducible refine And.intro ?_ ?_; focus exact ob_))
      have p2 := findB_lt w (w.Joints.getD i1 default).ID
      refine CallGi_flat (s_world_FindBody w (w.Joints.getD i1 default).ID (by (first | exact hw.1 | assumption | omega | (simp_all; done)))) rfl ?_
      generalize hv3 : (findB w (w.Joints.getD i1 default).ID) = v3 at *
      simp only [go_sem, ite_andP, ite_orP, dec_true, dec_false]
      (repeat (with_reducible refine And.intro ?_ ?_; focus exact ob_))
      by_cases h3 : (((((v1 != 0) || (decide (w.NextID ≤ (w.Joints.getD i1 default).ID))) || (decide ((w.Joints.getD i1 default).ID ≤ s1))) || (!v2)) || (decide (0 ≤ v3))) = true
      · first | rw [if_pos h3] | rw [if_pos (by simp_all)] | rw [if_pos (by omega)]
        (repeat (with_reducible refine And.intro ?_ ?_; focus exact ob_))
        have e1 : itrE (d_world_validJoints_L1 w) (i1 + 1) 0 = .inr false := itrE_inl hs1 (by first | with_reducible rfl | (unfold d_world_validJoints_L1; exact hd_))
        replace e1 := itrE_stop e1 (show i1 + 1 ≤ w.Joints.length by omega)
        have hd : d_world_validJoints w = false := by first | with_reducible rfl | (unfold d_world_validJoints; exact hd_)
        try rw [hd]
        try simp only [go_sem, ite_andP, ite_orP, dec_true, dec_false]
        all_goals exact fin_
      · first | rw [if_neg h3] | rw [if_neg (by simp_all)] | rw [if_neg (by omega)]
        (repeat (with_reducible refine And.intro ?_ ?_; focus exact ob_))
        have hn : itrE (d_world_validJoints_L1 w) (i1 + 1) 0 = .inl (w.Joints.getD i1 default).ID := itrE_inl hs1 (by first | with_reducible rfl | (unfold d_world_validJoints_L1; exact hd_))
        refine loop_next ⟨(i1 + 1, (w.Joints.getD i1 default).ID), by omega, hn⟩ (by show w.Joints.length - (i1 + 1) < w.Joints.length - i1; omega) (weakE_ [] [] ?_)
        simp only [go_sem, ite_andP, ite_orP, dec_true, dec_false]
        all_goals exact fin_
    · first | rw [if_neg h1] | rw [if_neg (by simp_all)] | rw [if_neg (by omega)]
      (repeat (with_reducible refine And.intro ?_ ?_; focus exact ob_))
      have hge : i1 = w.Joints.length := by first | omega | (simp only [IntKind.wrap_i64] at h1; omega)
      subst hge
      have hd : d_world_validJoints w = true := by first | with_reducible rfl | (unfold d_world_validJoints; exact hd_)
      try rw [hd]
      try simp only [go_sem, ite_andP, ite_orP, dec_true, dec_false]
      all_goals exact fin_
def d_r25_validJoints_L1 (w : Api.World) (i1 : Nat) (s1 : Int) : (Int) ⊕ (Bool) := let v1 := (d_r24_Validate (w.Joints.getD i1 default)); let v2 := (d_r25_connected w (w.Joints.getD i1 default)); let v3 := (findB w (w.Joints.getD i1 default).ID); if (((((v1 != 0) || (decide (w.NextID ≤ (w.Joints.getD i1 default).ID))) || ((decide (0 < (i1 : Int))) && (decide ((w.Joints.getD i1 default).ID ≤ s1)))) || (!v2)) || (decide (0 ≤ v3))) = true then (.inr false) else (.inl (w.Joints.getD i1 default).ID)
def d_r25_validJoints (w : Api.World) : Bool := (match itrE (d_r25_validJoints_L1 w) w.Joints.length 0 with | .inr r => r | .inl s1 => true)
theorem s_r25_validJoints (w : Api.World) (hw : Wsm w) : CallsA Tryz.prog F_r25_validJoints [.agg w.enc] [] (.sc (.bool (d_r25_validJoints w))) [] := by
  have hw2 := hw.2.1; have hw1 := hw.1
  refine en1 hm shOk Tryz.func81 rfl rfl ?_
  simp only [go_sem, ite_andP, ite_orP, dec_true, dec_false]
  (repeat (with_reducible refine And.intro ?_ ?_; focus exact ob_))
  refine Wpi_loop hm (ι := {p : Nat × Int // p.1 ≤ w.Joints.length ∧ itrE (d_r25_validJoints_L1 w) p.1 0 = .inl p.2}) (fun i => [(1, .share, .ptr 32 0 0 1), (3, .share, .sc (.int .i64 i.1.2)), (4, .share, .sc (.int .i64 (i.1.1 : Int)))]) (fun i => [(32, .box [.sc (.int .i64 w.Settings.TimeStep), .sc (.int .i64 w.Settings.Gravity.X), .sc (.int .i64 w.Settings.Gravity.Y), .sc (.int .i64 w.Settings.Iterations), .sc (.int .i64 w.Settings.SleepSteps), encD 20 Body.enc default w.Bodies, encD 24 Joint.enc default w.Joints, encD 7 Contact.enc default w.Contacts, encD 4 PairKey.enc default w.Overlaps, .sc (.int .i64 w.NextID), .sc (.int .i64 w.Frame)])]) (fun i => w.Joints.length - i.1.1) ⟨(0, 0), by omega, rfl⟩ ?_ ?_
  · refine weakE_ [] [] ?_
    simp only [go_sem, ite_andP, ite_orP, dec_true, dec_false, itr_zero]
    all_goals exact fin_
  · rintro ⟨⟨i1, s1⟩, hi1, hs1⟩
    replace hi1 : i1 ≤ w.Joints.length := hi1
    replace hs1 : itrE (d_r25_validJoints_L1 w) i1 0 = .inl s1 := hs1
    simp only [go_sem, ite_andP, ite_orP, dec_true, dec_false]
    (repeat (with_reducible refine And.intro ?_ ?_; focus exact ob_))
    by_cases h1 : (i1 : Int) < (w.Joints.length : Int)
    · first | rw [if_pos h1] | rw [if_pos (by simp_all)] | rw [if_pos (by omega)]
      have hlt1 : i1 < w.Joints.length := by first | omega | (simp only [IntKind.wrap_i64] at h1; omega)
      (repeat (with_reducible refine And.intro ?_ ?_; focus exact ob_))
      refine CallGi_flat (s_r24_Validate (w.Joints.getD i1 default) ) rfl ?_
      generalize hv1 : (d_r24_Validate (w.Joints.getD i1 default)) = v1
      simp only [go_sem, ite_andP, ite_orP, dec_true, dec_false]
      (repeat (with_reducible refine And.intro ?_ ?_; focus exact ob_))
      refine CallGi_flat (s_r25_connected w (w.Joints.getD i1 default) (by (first | exact hw.1 | assumption | omega | (simp_all; done) | (simp_all; omega)))) rfl ?_
      generalize hv2 : (d_r25_connected w (w.Joints.getD i1 default)) = v2
      simp only [go_sem, ite_andP, ite_orP, dec_true, dec_false]
      (repeat (with_reducible refine And.intro ?_ ?_; focus exact ob_))
      have p2 := findB_lt w (w.Joints.getD i1 default).ID
      refine CallGi_flat (s_r25_FindBody w (w.Joints.getD i1 default).ID (by (first | exact hw.1 | assumption | omega | (simp_all; done)))) rfl ?_
      generalize hv3 : (findB w (w.Joints.getD i1 default).ID) = v3 at *
      simp only [go_sem, ite_andP, ite_orP, dec_true, dec_false]
      (repeat (with_reducible refine And.intro ?_ ?_; focus exact ob_))
      by_cases h3 : (((((v1 != 0) || (decide (w.NextID ≤ (w.Joints.getD i1 default).ID))) || ((decide (0 < (i1 : Int))) && (decide ((w.Joints.getD i1 default).ID ≤ s1)))) || (!v2)) || (decide (0 ≤ v3))) = true
      · first | rw [if_pos h3] | rw [if_pos (by simp_all)] | rw [if_pos (by omega)]
        (repeat (with_reducible refine And.intro ?_ ?_; focus exact ob_))
        have e1 : itrE (d_r25_validJoints_L1 w) (i1 + 1) 0 = .inr false := itrE_inl hs1 (by first | with_reducible rfl | (unfold d_r25_validJoints_L1; exact hd_))
        replace e1 := itrE_stop e1 (show i1 + 1 ≤ w.Joints.length by omega)
        have hd : d_r25_validJoints w = false := by first | with_reducible rfl | (unfold d_r25_validJoints; exact hd_)
        try rw [hd]
        try simp only [go_sem, ite_andP, ite_orP, dec_true, dec_false]
        all_goals exact fin_
      · first | rw [if_neg h3] | rw [if_neg (by simp_all)] | rw [if_neg (by omega)]
        (repeat (with_reducible refine And.intro ?_ ?_; focus exact ob_))
        have hn : itrE (d_r25_validJoints_L1 w) (i1 + 1) 0 = .inl (w.Joints.getD i1 default).ID := itrE_inl hs1 (by first | with_reducible rfl | (unfold d_r25_validJoints_L1; exact hd_))
        refine loop_next ⟨(i1 + 1, (w.Joints.getD i1 default).ID), by omega, hn⟩ (by show w.Joints.length - (i1 + 1) < w.Joints.length - i1; omega) (weakE_ [] [] ?_)
        simp only [go_sem, ite_andP, ite_orP, dec_true, dec_false]
        all_goals exact fin_
    · first | rw [if_neg h1] | rw [if_neg (by simp_all)] | rw [if_neg (by omega)]
      (repeat (with_reducible refine And.intro ?_ ?_; focus exact ob_))
      have hge : i1 = w.Joints.length := by first | omega | (simp only [IntKind.wrap_i64] at h1; omega)
      subst hge
      have hd : d_r25_validJoints w = true := by first | with_reducible rfl | (unfold d_r25_validJoints; exact hd_)
      try rw [hd]
      try simp only [go_sem, ite_andP, ite_orP, dec_true, dec_false]
      all_goals exact fin_
end Go.Abs
end
section
namespace Go.Abs
open Go.Proofs
open Api
def encLK (l : List PairKey) : List AV := [encD 4 PairKey.enc default l]
attribute [go_sem] encLK
theorem s_Grow_PairKey_pos (n : Nat) (h0 : 0 < n) (hn : n ≤ 4194304) : CallsA Tryz.prog F_slices_Grow_PairKey [.sc (.slice none 0 0), .sc (.int .i64 n)] [] (.sl 1 0 0 n) [(1, .arr 4 ⟨n, fun _ => PairKey.zero⟩)] := by
  have w1 : IntKind.i64.wrap (0 - 0) = 0 := rfl
  have w2 : IntKind.i64.wrap ((n : Int) - 0) = n := by rw [IntKind.wrap_i64]; omega
  refine enO1 hm shOk Tryz.func111 rfl rfl ?_
  simp only [go_sem, ite_andP, ite_orP, dec_true, dec_false]
  rw [if_neg (by omega)]
  simp only [w1, w2]
  rw [if_pos (by omega)]
  refine ⟨ok_, ?_⟩
  refine ⟨by omega, ?_⟩
  simp only [Int.toNat_natCast]
  refine retW_of [.share] [(1, 368)] [] rfl rfl (by simp) (by simp) (by simp) ?_
  simp only [go_sem, Int.toNat_natCast]
  simp
theorem s_slices_Grow_PairKey (n : Nat) (hn : n ≤ 4194304) : CallsA Tryz.prog F_slices_Grow_PairKey [.sc (.slice none 0 0), .sc (.int .i64 n)] [] (.sl 1 0 0 0) [(1, .arr 4 (encQ PairKey.enc default []))] := by
  rcases Nat.eq_zero_or_pos n with rfl | h0
  · have w1 : IntKind.i64.wrap (0 - 0) = 0 := rfl
    refine enO1 hm shOk Tryz.func111 rfl rfl ?_
    simp only [go_sem, ite_andP, ite_orP, dec_true, dec_false]
    rw [if_neg (by omega)]
    simp only [w1]
    rw [if_neg (by decide)]
    refine retW_of [.adopt] [] [1] rfl rfl (by simp) (by simp [assoc]) (by simp) ?_
    simp only [go_sem]
  · exact (s_Grow_PairKey_pos n h0 hn).shrink rfl _
def sumLK (L : List (List PairKey)) (k : Nat) : Nat := ((L.take k).flatten).length
theorem sumLK_succ {L : List (List PairKey)} {k : Nat} (h : k < L.length) : sumLK L (k + 1) = sumLK L k + (L.getD k default).length := by
  unfold sumLK; rw [take_snoc default h]; simp
theorem sumLK_le (L : List (List PairKey)) (k : Nat) : sumLK L k ≤ L.flatten.length := by
  unfold sumLK
  have : L.flatten = (L.take k).flatten ++ (L.drop k).flatten := by rw [← List.flatten_append, List.take_append_drop]
  rw [this, List.length_append]; omega
theorem s_slices_Concat_PairKey (L : List (List PairKey)) (hL : L.flatten.length ≤ 4194304) (hl : L.length ≤ 1000) : CallsA Tryz.prog F_slices_Concat_PairKey [encD 1 encLK default L] [] (encD 4 PairKey.enc default L.flatten) [] := by
  refine en1 hm shOk Tryz.func56 rfl rfl ?_
  simp only [go_sem, ite_andP, ite_orP, dec_true, dec_false]
  refine Wpi_loop hm (ι := {i : Nat // i ≤ L.length}) (fun i => [(0, .share, encD 1 encLK default L), (3, .share, .sc (.int .i64 (sumLK L i.1))), (9, .share, encD 1 encLK default L), (10, .share, .sc (.int .i64 L.length)), (11, .share, .sc (.int .i64 i.1))])
    (fun i => []) (fun i => L.length - i.1) ⟨0, by omega⟩ ?_ ?_
  · refine weakE_ [] [] ?_
    simp only [go_sem]
    simp [sumLK]
  · rintro ⟨i, hi⟩
    have hs := sumLK_le L i
    simp only [go_sem, ite_andP, ite_orP, dec_true, dec_false]
    by_cases hlt : (i : Int) < L.length
    · rw [if_pos hlt]
      have hlt : i < L.length := by omega
      have hs2 := sumLK_le L (i + 1)
      have he := sumLK_succ hlt
      refine ⟨ok_, ?_⟩
      have hw : IntKind.i64.wrap ((sumLK L i : Int) + ((L.getD i default).length : Int)) = (sumLK L (i + 1) : Int) := by rw [IntKind.wrap_i64, he]; omega
      rw [hw, if_neg (by omega)]
      refine loop_next ⟨i + 1, by omega⟩ (by show L.length - (i + 1) < L.length - i; omega) (weakE_ [] [] ?_)
      simp only [go_sem]
      exact (by rw [IntKind.wrap_i64]; omega)
    · rw [if_neg hlt]
      obtain rfl : i = L.length := by omega
      have hfull : sumLK L L.length = L.flatten.length := by unfold sumLK; rw [List.take_length]
      refine CallGi_obj [true, true] [(1, 7)] (s_slices_Grow_PairKey (sumLK L L.length) (by omega)) (by simp) (by simp) (by simp) (by simp) ?_
      simp only [go_sem]
      refine Wpi_loop hm (ι := {i : Nat // i ≤ L.length}) (fun i => [(6, .share, .sl 7 0 (sumLK L i.1) (sumLK L i.1)), (25, .share, encD 1 encLK default L), (26, .share, .sc (.int .i64 L.length)), (27, .share, .sc (.int .i64 i.1))])
        (fun i => [(7, .arr 4 (encQ PairKey.enc default (L.take i.1).flatten))]) (fun i => L.length - i.1) ⟨0, by omega⟩ ?_ ?_
      · refine weakE_ [] [] ?_
        simp only [go_sem]
        simp [sumLK, List.take_zero, go_sem]
      · rintro ⟨i, hi⟩
        have hs := sumLK_le L i
        simp only [go_sem, ite_andP, ite_orP, dec_true, dec_false]
        by_cases hlt : (i : Int) < L.length
        · rw [if_pos hlt]
          have hlt : i < L.length := by omega
          have hs2 := sumLK_le L (i + 1)
          have he := sumLK_succ hlt
          have hm0 : (L.take i).flatten.length = sumLK L i := rfl
          refine ⟨ok_, ?_⟩
          refine ⟨⟨by omega, by omega, by omega, by simp only [maxLen]; omega⟩, ?_⟩
          refine loop_next ⟨i + 1, by omega⟩ (by show L.length - (i + 1) < L.length - i; omega) (weakE_ [] [] ?_)
          simp only [go_sem]
          all_goals ((repeat' (with_reducible apply And.intro)) <;> first | (rw [IntKind.wrap_i64]; omega) | exact he.symm | (rw [he, hm0]; done) | (rw [he]; done) | exact q_same (by rw [take_snoc default hlt]; simp) | omega)
        · rw [if_neg hlt]
          obtain rfl : i = L.length := by omega
          simp only [go_sem, List.take_length]
          exact ⟨hfull, by rw [hfull]; exact avle_refl _⟩
theorem l_all_succ {α : Type} {l : List α} {p : α → Bool} {i : Nat} (d : α) (h : (l.take i).all p = true) (hi : i < l.length) (hp : p (l.getD i d) = true) : (l.take (i + 1)).all p = true := by
  rw [take_snoc d hi, List.all_append, h]; simpa using hp
theorem l_all_false {α : Type} {l : List α} {p : α → Bool} {i : Nat} (d : α) (hi : i < l.length) (hp : p (l.getD i d) = false) : l.all p = false := by
  rw [List.all_eq_false]; exact ⟨_, mem_getD d hi, by rw [hp]; simp⟩
theorem l_all_end {α : Type} {l : List α} {p : α → Bool} (h : (l.take l.length).all p = true) : l.all p = true := by rwa [List.take_length] at h
def fixOut (w : Api.World) (k : PairKey) : Bool := !(d_world_fixturesExist w k)
theorem s_world_validContacts_f1 (w : Api.World) (k : PairKey) (hw : w.Bodies.length ≤ 1048576) : CallsA Tryz.prog F_world_validContacts_f1 [.agg k.enc, .ptr 32 0 0 1] [(32, .box w.enc)] (.sc (.bool (fixOut w k))) [(32, .box w.enc)] := by
  refine enO1 hm shOk Tryz.func57 rfl rfl ?_
  simp only [go_sem, ite_andP, ite_orP, dec_true, dec_false]
  refine CallGi_flat (s_world_fixturesExist w k hw) rfl ?_
  simp only [go_sem, ite_andP, ite_orP, dec_true, dec_false]
  refine retW_of [.share] [] [] rfl rfl (by simp [go_sem]) (by simp [assoc, go_sem]) (by simp [go_sem]) ?_
  simp only [go_sem, fixOut]
def keysC (w : Api.World) : List PairKey := w.Contacts.map fun c => c.Key
def okContacts (w : Api.World) : Bool := w.Contacts.all (fun c => d_world_validManifold c.Manifold) && d_broadphase_ValidKeys (keysC w) && d_broadphase_ValidKeys w.Overlaps && !((keysC w ++ w.Overlaps).any (fixOut w))
theorem okO_w (w : Api.World) : okO [(32, .box w.enc)] := by
  refine ⟨by simp [go_sem], ?_⟩
  simp [go_sem, idsL, AV.ids]
theorem s_world_validContacts (w : Api.World) (hw : Wsm w) : CallsA Tryz.prog F_world_validContacts [.agg w.enc] [] (.sc (.bool (okContacts w))) [] := by
  obtain ⟨w1, w2, w3, w4, w5, w6⟩ := hw
  refine en1 hm shOk Tryz.func29 rfl rfl ?_
  simp only [go_sem, ite_andP, ite_orP, dec_true, dec_false]
  refine Wpi_loop hm (ι := {i : Nat // i ≤ w.Contacts.length ∧ (w.Contacts.take i).all (fun c => d_world_validManifold c.Manifold) = true}) (fun i => [(1, .share, .ptr 32 0 0 1), (3, if i.1 = 0 then .adopt else .share, .sl 7 0 i.1 i.1), (7, .share, encD 7 Contact.enc default w.Contacts), (8, .share, .sc (.int .i64 w.Contacts.length)), (9, .share, .sc (.int .i64 i.1))])
    (fun i => [(32, .box w.enc), (7, .arr 4 (encQ PairKey.enc default ((w.Contacts.take i.1).map fun c => c.Key)))]) (fun i => w.Contacts.length - i.1) ⟨0, by omega, rfl⟩ ?_ ?_
  · refine weakE_ [] [7] ?_
    simp only [go_sem, List.take_zero, List.map_nil]
    try simp
  · rintro ⟨i, hi, ht⟩
    simp only [go_sem, ite_andP, ite_orP, dec_true, dec_false]
    by_cases hlt : (i : Int) < w.Contacts.length
    · rw [if_pos hlt]
      have hlt : i < w.Contacts.length := by omega
      have hmm := mem_getD default hlt
      refine ⟨ok_, ?_⟩
      refine CallGi_flat (s_world_validManifold (w.Contacts.getD i default).Manifold (w6 _ hmm)) rfl ?_
      simp only [go_sem, ite_andP, ite_orP, dec_true, dec_false]
      cases hv : d_world_validManifold (w.Contacts.getD i default).Manifold with
      | false =>
        rw [if_pos rfl]
        unfold okContacts
        have := l_all_false (p := fun c : Contact => d_world_validManifold c.Manifold) default hlt hv
        rw [this]; rfl
      | true =>
        rw [if_neg (by simp)]
        have hlen : (List.map (fun c : Contact => c.Key) (List.take i w.Contacts)).length = i := by simp; omega
        refine ⟨⟨by omega, by omega, by simp only [maxLen]; omega⟩, ?_⟩
        refine loop_next ⟨i + 1, by omega, l_all_succ default ht hlt hv⟩ (by show w.Contacts.length - (i + 1) < w.Contacts.length - i; omega) (weakE_ [] [] ?_)
        simp only [go_sem]
        refine ⟨by omega, (by rw [IntKind.wrap_i64]; omega), q_app1 (w.Contacts.getD i default).Key rfl ?_⟩
        rw [take_snoc default hlt, List.map_append]; rfl
    · rw [if_neg hlt]
      obtain rfl : i = w.Contacts.length := by omega
      have hall := l_all_end ht
      have hk : (List.map (fun c : Contact => c.Key) (List.take w.Contacts.length w.Contacts)) = keysC w := by rw [List.take_length]; rfl
      have hkl : (keysC w).length = w.Contacts.length := by simp [keysC]
      simp only [hk]
      refine CallGi_keep (s_broadphase_ValidKeys (keysC w) (by omega)) rfl ?_ ?_
      · simp only [argsC, go_sem, hkl]
      simp only [go_sem, ite_andP, ite_orP, dec_true, dec_false]
      refine CallGi_flat (s_broadphase_ValidKeys w.Overlaps w4) rfl ?_
      simp only [go_sem, ite_andP, ite_orP, dec_true, dec_false, hk, hkl]
      have hok : okContacts w = (d_broadphase_ValidKeys (keysC w) && d_broadphase_ValidKeys w.Overlaps && !((keysC w ++ w.Overlaps).any (fixOut w))) := by
        unfold okContacts; rw [hall, Bool.true_and]
      rw [hok]
      cases d_broadphase_ValidKeys (keysC w) with
      | false => rfl
      | true =>
        cases d_broadphase_ValidKeys w.Overlaps with
        | false => rfl
        | true =>
          rw [if_neg (by simp)]
          have hC := s_slices_Concat_PairKey [keysC w, w.Overlaps] (by simp; omega) (by simp)
          have hflat : [keysC w, w.Overlaps].flatten = keysC w ++ w.Overlaps := by simp
          rw [hflat] at hC
          refine CallGi_thaw hC ?_
          simp only [argsC, go_sem, ite_andP, ite_orP, dec_true, dec_false, hk, hkl]
          refine ⟨avle_lit2 (fun _ _ => rfl) (by simp [encLK, encD, hkl]) rfl rfl, ?_⟩
          refine CallGi_obj [true, true] [] (s_slices_ContainsFunc_PairKey (keysC w ++ w.Overlaps) F_world_validContacts_f1 [] [.ptr 32 0 0 1] [(32, .box w.enc)] (fixOut w) (by rw [List.length_append]; omega) (okO_w w) (by simp [go_sem, AV.ids]) (fun k _ => s_world_validContacts_f1 w k w1)) (by simp) (by simp) (by simp) (by simp [go_sem]) ?_
          simp only [go_sem, ite_andP, ite_orP, dec_true, dec_false, hk, hkl]
def d_r25_validContacts_L1 (w : Api.World) (i1 : Nat) (s1 : Unit) : (Unit) ⊕ (Bool) := let v6 := (d_r25_validPoints (w.Contacts.getD i1 default).Manifold); if v6 = false then (.inr false) else (.inl ())
def d_r25_validContacts (w : Api.World) : Bool := let v1 := (d_r25_Keys w.Contacts); let v2 := (d_r22_ValidKeys v1); let v3 := (d_r22_ValidKeys w.Overlaps); let v4 := (d_r25_resolved w v1); let v5 := (d_r25_resolved w w.Overlaps); if ((((!v2) || (!v3)) || (!v4)) || (!v5)) = true then (false) else ((match itrE (d_r25_validContacts_L1 w) w.Contacts.length () with | .inr r => r | .inl s1 => true))
theorem s_r25_validContacts (w : Api.World) (hw : Wsm w) : CallsA Tryz.prog F_r25_validContacts [.agg w.enc] [] (.sc (.bool (d_r25_validContacts w))) [] := by
  have hw1 := hw.1; have hw3 := hw.2.2.1; have hw4 := hw.2.2.2.1
  refine en1 hm shOk Tryz.func82 rfl rfl ?_
  simp only [go_sem, ite_andP, ite_orP, dec_true, dec_false]
  (repeat (with_reducible refine And.intro ?_ ?_; focus exact ob_))
  have p1 := keys_len w.Contacts
  refine CallGi_flat (s_r25_Keys w.Contacts (by (first | exact hw.2.2.2.2.2 _ (mem_getD _ (by omega)) | exact hw.1 | exact hw.2.2.1 | exact hw.2.2.2.1 | assumption | omega | (simp_all; done) | (simp_all; omega)))) rfl ?_
  generalize hv1 : (d_r25_Keys w.Contacts) = v1 at *
  simp only [go_sem, ite_andP, ite_orP, dec_true, dec_false]
  (repeat (with_reducible refine And.intro ?_ ?_; focus exact ob_))
  refine CallGi_flat (s_r22_ValidKeys v1 (by (first | exact hw.2.2.2.2.2 _ (mem_getD _ (by omega)) | exact hw.1 | exact hw.2.2.1 | exact hw.2.2.2.1 | assumption | omega | (simp_all; done) | (simp_all; omega)))) rfl ?_
  generalize hv2 : (d_r22_ValidKeys v1) = v2
  simp only [go_sem, ite_andP, ite_orP, dec_true, dec_false]
  (repeat (with_reducible refine And.intro ?_ ?_; focus exact ob_))
  refine CallGi_flat (s_r22_ValidKeys w.Overlaps (by (first | exact hw.2.2.2.2.2 _ (mem_getD _ (by omega)) | exact hw.1 | exact hw.2.2.1 | exact hw.2.2.2.1 | assumption | omega | (simp_all; done) | (simp_all; omega)))) rfl ?_
  generalize hv3 : (d_r22_ValidKeys w.Overlaps) = v3
  simp only [go_sem, ite_andP, ite_orP, dec_true, dec_false]
  (repeat (with_reducible refine And.intro ?_ ?_; focus exact ob_))
  refine CallGi_flat (s_r25_resolved w v1 (by (first | exact hw.2.2.2.2.2 _ (mem_getD _ (by omega)) | exact hw.1 | exact hw.2.2.1 | exact hw.2.2.2.1 | assumption | omega | (simp_all; done) | (simp_all; omega))) (by (first | exact hw.2.2.2.2.2 _ (mem_getD _ (by omega)) | exact hw.1 | exact hw.2.2.1 | exact hw.2.2.2.1 | assumption | omega | (simp_all; done) | (simp_all; omega)))) rfl ?_
  generalize hv4 : (d_r25_resolved w v1) = v4
  simp only [go_sem, ite_andP, ite_orP, dec_true, dec_false]
  (repeat (with_reducible refine And.intro ?_ ?_; focus exact ob_))
  refine CallGi_flat (s_r25_resolved w w.Overlaps (by (first | exact hw.2.2.2.2.2 _ (mem_getD _ (by omega)) | exact hw.1 | exact hw.2.2.1 | exact hw.2.2.2.1 | assumption | omega | (simp_all; done) | (simp_all; omega))) (by (first | exact hw.2.2.2.2.2 _ (mem_getD _ (by omega)) | exact hw.1 | exact hw.2.2.1 | exact hw.2.2.2.1 | assumption | omega | (simp_all; done) | (simp_all; omega)))) rfl ?_
  generalize hv5 : (d_r25_resolved w w.Overlaps) = v5
  simp only [go_sem, ite_andP, ite_orP, dec_true, dec_false]
  (repeat (with_reducible refine And.intro ?_ ?_; focus exact ob_))
  by_cases h2 : ((((!v2) || (!v3)) || (!v4)) || (!v5)) = true
  · first | rw [if_pos h2] | rw [if_pos (by simp_all)] | rw [if_pos (by omega)]
    (repeat (with_reducible refine And.intro ?_ ?_; focus exact ob_))
    have hd : d_r25_validContacts w = false := by first | with_reducible rfl | (unfold d_r25_validContacts; exact hd_)
    try rw [hd]
    try simp only [go_sem, ite_andP, ite_orP, dec_true, dec_false]
    all_goals exact fin_
  · first | rw [if_neg h2] | rw [if_neg (by simp_all)] | rw [if_neg (by omega)]
    (repeat (with_reducible refine And.intro ?_ ?_; focus exact ob_))
    refine Wpi_loop hm (ι := {p : Nat × Unit // p.1 ≤ w.Contacts.length ∧ itrE (d_r25_validContacts_L1 w) p.1 () = .inl p.2}) (fun i => [(1, .share, .ptr 32 0 0 1), (4, .share, .sc (.int .i64 (i.1.1 : Int)))]) (fun i => [(32, .box [.sc (.int .i64 w.Settings.TimeStep), .sc (.int .i64 w.Settings.Gravity.X), .sc (.int .i64 w.Settings.Gravity.Y), .sc (.int .i64 w.Settings.Iterations), .sc (.int .i64 w.Settings.SleepSteps), encD 20 Body.enc default w.Bodies, encD 24 Joint.enc default w.Joints, encD 7 Contact.enc default w.Contacts, encD 4 PairKey.enc default w.Overlaps, .sc (.int .i64 w.NextID), .sc (.int .i64 w.Frame)])]) (fun i => w.Contacts.length - i.1.1) ⟨(0, ()), by omega, rfl⟩ ?_ ?_
    · refine weakE_ [] [] ?_
      simp only [go_sem, ite_andP, ite_orP, dec_true, dec_false, itr_zero]
      all_goals exact fin_
    · rintro ⟨⟨i1, s1⟩, hi1, hs1⟩
      replace hi1 : i1 ≤ w.Contacts.length := hi1
      replace hs1 : itrE (d_r25_validContacts_L1 w) i1 () = .inl s1 := hs1
      simp only [go_sem, ite_andP, ite_orP, dec_true, dec_false]
      (repeat (with_reducible refine And.intro ?_ ?_; focus exact ob_))
      by_cases h3 : (i1 : Int) < (w.Contacts.length : Int)
      · first | rw [if_pos h3] | rw [if_pos (by simp_all)] | rw [if_pos (by omega)]
        have hlt1 : i1 < w.Contacts.length := by first | omega | (simp only [IntKind.wrap_i64] at h3; omega)
        (repeat (with_reducible refine And.intro ?_ ?_; focus exact ob_))
        refine CallGi_flat (s_r25_validPoints (w.Contacts.getD i1 default).Manifold (by (first | exact hw.2.2.2.2.2 _ (mem_getD _ (by omega)) | exact hw.1 | exact hw.2.2.1 | exact hw.2.2.2.1 | assumption | omega | (simp_all; done) | (simp_all; omega)))) rfl ?_
        generalize hv6 : (d_r25_validPoints (w.Contacts.getD i1 default).Manifold) = v6
        simp only [go_sem, ite_andP, ite_orP, dec_true, dec_false]
        (repeat (with_reducible refine And.intro ?_ ?_; focus exact ob_))
        by_cases h4 : v6 = false
        · first | rw [if_pos h4] | rw [if_pos (by simp_all)] | rw [if_pos (by omega)]
          (repeat (with_reducible refine And.intro ?_ ?_; focus exact ob_))
          have e1 : itrE (d_r25_validContacts_L1 w) (i1 + 1) () = .inr false := itrE_inl hs1 (by first | with_reducible rfl | (unfold d_r25_validContacts_L1; exact hd_))
          replace e1 := itrE_stop e1 (show i1 + 1 ≤ w.Contacts.length by omega)
          have hd : d_r25_validContacts w = false := by first | with_reducible rfl | (unfold d_r25_validContacts; exact hd_)
          try rw [hd]
          try simp only [go_sem, ite_andP, ite_orP, dec_true, dec_false]
          all_goals exact fin_
        · first | rw [if_neg h4] | rw [if_neg (by simp_all)] | rw [if_neg (by omega)]
          (repeat (with_reducible refine And.intro ?_ ?_; focus exact ob_))
          have hn : itrE (d_r25_validContacts_L1 w) (i1 + 1) () = .inl () := itrE_inl hs1 (by first | with_reducible rfl | (unfold d_r25_validContacts_L1; exact hd_))
          refine loop_next ⟨(i1 + 1, ()), by omega, hn⟩ (by show w.Contacts.length - (i1 + 1) < w.Contacts.length - i1; omega) (weakE_ [] [] ?_)
          simp only [go_sem, ite_andP, ite_orP, dec_true, dec_false]
          all_goals exact fin_
      · first | rw [if_neg h3] | rw [if_neg (by simp_all)] | rw [if_neg (by omega)]
        (repeat (with_reducible refine And.intro ?_ ?_; focus exact ob_))
        have hge : i1 = w.Contacts.length := by first | omega | (simp only [IntKind.wrap_i64] at h3; omega)
        subst hge
        have hd : d_r25_validContacts w = true := by first | with_reducible rfl | (unfold d_r25_validContacts; exact hd_)
        try rw [hd]
        try simp only [go_sem, ite_andP, ite_orP, dec_true, dec_false]
        all_goals exact fin_
end Go.Abs
end
section
namespace Go.Abs
open Go.Proofs
open Api
def d_world_ValidateSettings (s : Settings) : Int := if ((((!(inR s.TimeStep 64 8192)) || (!((inR s.Gravity.X (-16777216) 16777216) && (inR s.Gravity.Y (-16777216) 16777216)))) || (!(inR s.Iterations 1 32))) || (!(inR s.SleepSteps 0 1048576))) = true then (6) else (0)
theorem s_world_ValidateSettings (s : Settings)  : CallsA Tryz.prog F_world_ValidateSettings [.agg s.enc] [] (.sc (.int .i64 (d_world_ValidateSettings s))) [] := by
  refine en1 hm shOk Tryz.func25 rfl rfl ?_
  have := s_world_in
  have := d_world_ValidateSettings.eq_1 s
  exact walk_
def d_r25_ValidateSettings (s : Settings) : Int := if (((((!(inR s.TimeStep 64 8192)) || (!(inR s.Gravity.X (-16777216) 16777216))) || (!(inR s.Gravity.Y (-16777216) 16777216))) || (!(inR s.Iterations 1 32))) || (!(inR s.SleepSteps 0 1048576))) = true then (6) else (0)
theorem s_r25_ValidateSettings (s : Settings)  : CallsA Tryz.prog F_r25_ValidateSettings [.agg s.enc] [] (.sc (.int .i64 (d_r25_ValidateSettings s))) [] := by
  refine en1 hm shOk Tryz.func78 rfl rfl ?_
  have := s_r25_in
  have := d_r25_ValidateSettings.eq_1 s
  exact walk_
def d_world_Validate (w : Api.World) : Int := let v1 := (d_world_ValidateSettings w.Settings); if (v1 != 0) = true then (17) else (if ((((decide (32 < (w.Bodies.length : Int))) || (decide (32 < (w.Joints.length : Int)))) || (decide (8192 < (w.Contacts.length : Int)))) || (decide (8192 < (w.Overlaps.length : Int)))) = true then (11) else (if ((!(inR w.NextID 1 1099511627776)) || (!(inR w.Frame 0 1099511627776))) = true then (6) else (let v4 := (d_world_validBodies w); if v4 = false then (14) else (let v5 := (d_world_validJoints w); if v5 = false then (15) else (let v6 := (okContacts w); if v6 = false then (16) else (0))))))
theorem s_world_Validate (w : Api.World) (hw : Wsm w) : CallsA Tryz.prog F_world_Validate [.agg w.enc] [] (.sc (.int .i64 (d_world_Validate w))) [] := by
  refine en1 hm shOk Tryz.func9 rfl rfl ?_
  have := s_world_ValidateSettings
  have := s_world_in
  have := s_world_validBodies
  have := s_world_validJoints
  have := s_world_validContacts
  have := d_world_Validate.eq_1 w
  exact walk_
def d_r25_Validate (w : Api.World) : Int := let v1 := (d_r25_ValidateSettings w.Settings); if (v1 != 0) = true then (17) else (if ((((decide (32 < (w.Bodies.length : Int))) || (decide (32 < (w.Joints.length : Int)))) || (decide (8192 < (w.Contacts.length : Int)))) || (decide (8192 < (w.Overlaps.length : Int)))) = true then (11) else (if ((!(inR w.NextID 1 1099511627776)) || (!(inR w.Frame 0 1099511627776))) = true then (6) else (let v4 := (d_r25_validBodies w); if v4 = false then (14) else (let v5 := (d_r25_validJoints w); if v5 = false then (15) else (let v6 := (d_r25_validContacts w); if v6 = false then (16) else (0))))))
theorem s_r25_Validate (w : Api.World) (hw : Wsm w) : CallsA Tryz.prog F_r25_Validate [.agg w.enc] [] (.sc (.int .i64 (d_r25_Validate w))) [] := by
  refine en1 hm shOk Tryz.func39 rfl rfl ?_
  have := s_r25_ValidateSettings
  have := s_r25_in
  have := s_r25_validBodies
  have := s_r25_validJoints
  have := s_r25_validContacts
  have := d_r25_Validate.eq_1 w
  exact walk_
end Go.Abs
end
