/- A part of the walk: contracts of functions that the statement reaches. -/
import Derived.Test.YtlldeiikcfaegaaGreatAbsC
import Derived.Test.YtlldeiikcfaegaaGreatT2a
import Derived.Test.YtlldeiikcfaegaaGreatT2b
import Derived.Test.YtlldeiikcfaegaaGreatT2c
import Derived.Test.YtlldeiikcfaegaaGreatW1
set_option linter.unusedSimpArgs false
set_option linter.unusedVariables false
set_option linter.unnecessarySimpa false
set_option maxRecDepth 100000
set_option maxHeartbeats 2000000
set_option linter.unusedSimpArgs false
set_option linter.unusedVariables false
namespace Go.Abs
open Go.Proofs
open Api
theorem okO_nil : okO [] := ⟨by simp, by simp⟩
def d_cmp_isNaN_int (x : Int) : Bool := (x != x)
set_option maxHeartbeats 200000 in
theorem s_cmp_isNaN_int (x : Int)  : CallsA Tryz.prog F_cmp_isNaN_int [.sc (.int .i64 x)] [] (.sc (.bool (d_cmp_isNaN_int x))) [] := by
  refine callsI_of (rs := [_]) hm Tryz.func289 (by kernel_rfl) (by kernel_rfl) is_cmp_isNaN_int (by kernel_rfl : tmpsOf Tryz.f289.results.toList = some [2]) (by decide) (by kernel_rfl) ?_
  simp only [c_cmp_isNaN_int, go_sem, ite_andP, ite_orP, dec_true, dec_false]
  (repeat (with_reducible refine And.intro ?_ ?_; focus exact ob_))
  have hd : d_cmp_isNaN_int x = (x != x) := by first | with_reducible rfl | (unfold d_cmp_isNaN_int; exact hd_)
  try rw [hd]
  try simp only [go_sem, ite_andP, ite_orP, dec_true, dec_false]
  all_goals exact fin_

def d_cmp_Compare_int (x : Int) (y : Int) : Int := let v1 := (d_cmp_isNaN_int x); let v2 := (d_cmp_isNaN_int y); if v1 = true then (if v2 = true then (0) else ((-1))) else (if v2 = true then (1) else (if x < y then ((-1)) else (if y < x then (1) else (0))))
set_option maxHeartbeats 200000 in
theorem s_cmp_Compare_int (x : Int) (y : Int)  : CallsA Tryz.prog F_cmp_Compare_int [.sc (.int .i64 x), .sc (.int .i64 y)] [] (.sc (.int .i64 (d_cmp_Compare_int x y))) [] := by
  refine callsI_of (rs := [_]) hm Tryz.func305 (by kernel_rfl) (by kernel_rfl) is_cmp_Compare_int (by kernel_rfl : tmpsOf Tryz.f305.results.toList = some [4]) (by decide) (by kernel_rfl) ?_
  simp only [c_cmp_Compare_int, go_sem, ite_andP, ite_orP, dec_true, dec_false]
  (repeat (with_reducible refine And.intro ?_ ?_; focus exact ob_))
  refine CallGi_flat (s_cmp_isNaN_int x ) rfl ?_
  generalize hv1 : (d_cmp_isNaN_int x) = v1
  simp only [go_sem, ite_andP, ite_orP, dec_true, dec_false]
  (repeat (with_reducible refine And.intro ?_ ?_; focus exact ob_))
  refine CallGi_flat (s_cmp_isNaN_int y ) rfl ?_
  generalize hv2 : (d_cmp_isNaN_int y) = v2
  simp only [go_sem, ite_andP, ite_orP, dec_true, dec_false]
  (repeat (with_reducible refine And.intro ?_ ?_; focus exact ob_))
  by_cases h1 : v1 = true
  · first | rw [if_pos h1] | rw [if_pos (by simp_all)] | rw [if_pos (by omega)]
    (repeat (with_reducible refine And.intro ?_ ?_; focus exact ob_))
    by_cases h2 : v2 = true
    · first | rw [if_pos h2] | rw [if_pos (by simp_all)] | rw [if_pos (by omega)]
      (repeat (with_reducible refine And.intro ?_ ?_; focus exact ob_))
      have hd : d_cmp_Compare_int x y = 0 := by first | with_reducible rfl | (unfold d_cmp_Compare_int; exact hd_)
      try rw [hd]
      try simp only [go_sem, ite_andP, ite_orP, dec_true, dec_false]
      all_goals exact fin_
    · first | rw [if_neg h2] | rw [if_neg (by simp_all)] | rw [if_neg (by omega)]
      (repeat (with_reducible refine And.intro ?_ ?_; focus exact ob_))
      have hd : d_cmp_Compare_int x y = (-1) := by first | with_reducible rfl | (unfold d_cmp_Compare_int; exact hd_)
      try rw [hd]
      try simp only [go_sem, ite_andP, ite_orP, dec_true, dec_false]
      all_goals exact fin_
  · first | rw [if_neg h1] | rw [if_neg (by simp_all)] | rw [if_neg (by omega)]
    (repeat (with_reducible refine And.intro ?_ ?_; focus exact ob_))
    by_cases h3 : v2 = true
    · first | rw [if_pos h3] | rw [if_pos (by simp_all)] | rw [if_pos (by omega)]
      (repeat (with_reducible refine And.intro ?_ ?_; focus exact ob_))
      have hd : d_cmp_Compare_int x y = 1 := by first | with_reducible rfl | (unfold d_cmp_Compare_int; exact hd_)
      try rw [hd]
      try simp only [go_sem, ite_andP, ite_orP, dec_true, dec_false]
      all_goals exact fin_
    · first | rw [if_neg h3] | rw [if_neg (by simp_all)] | rw [if_neg (by omega)]
      (repeat (with_reducible refine And.intro ?_ ?_; focus exact ob_))
      by_cases h4 : x < y
      · first | rw [if_pos h4] | rw [if_pos (by simp_all)] | rw [if_pos (by omega)]
        (repeat (with_reducible refine And.intro ?_ ?_; focus exact ob_))
        have hd : d_cmp_Compare_int x y = (-1) := by first | with_reducible rfl | (unfold d_cmp_Compare_int; exact hd_)
        try rw [hd]
        try simp only [go_sem, ite_andP, ite_orP, dec_true, dec_false]
        all_goals exact fin_
      · first | rw [if_neg h4] | rw [if_neg (by simp_all)] | rw [if_neg (by omega)]
        (repeat (with_reducible refine And.intro ?_ ?_; focus exact ob_))
        by_cases h5 : y < x
        · first | rw [if_pos h5] | rw [if_pos (by simp_all)] | rw [if_pos (by omega)]
          (repeat (with_reducible refine And.intro ?_ ?_; focus exact ob_))
          have hd : d_cmp_Compare_int x y = 1 := by first | with_reducible rfl | (unfold d_cmp_Compare_int; exact hd_)
          try rw [hd]
          try simp only [go_sem, ite_andP, ite_orP, dec_true, dec_false]
          all_goals exact fin_
        · first | rw [if_neg h5] | rw [if_neg (by simp_all)] | rw [if_neg (by omega)]
          (repeat (with_reducible refine And.intro ?_ ?_; focus exact ob_))
          have hd : d_cmp_Compare_int x y = 0 := by first | with_reducible rfl | (unfold d_cmp_Compare_int; exact hd_)
          try rw [hd]
          try simp only [go_sem, ite_andP, ite_orP, dec_true, dec_false]
          all_goals exact fin_

def d_cmp_Or_int_L1 (l : List Int) (i1 : Nat) (s1 : Unit) : (Unit) ⊕ (Int) := if ((l.getD i1 0) != 0) = true then (.inr (l.getD i1 0)) else (.inl ())
def d_cmp_Or_int (l : List Int) : Int := (match itrE (d_cmp_Or_int_L1 l) l.length () with | .inr r => r | .inl s1 => 0)
set_option maxHeartbeats 200000 in
theorem s_cmp_Or_int (l : List Int) (hl : l.length ≤ 1048576) : CallsA Tryz.prog F_cmp_Or_int [encD 1 encInt 0 l] [] (.sc (.int .i64 (d_cmp_Or_int l))) [] := by
  refine callsI_of (rs := [_]) hm Tryz.func304 (by kernel_rfl) (by kernel_rfl) is_cmp_Or_int (by kernel_rfl : tmpsOf Tryz.f304.results.toList = some [2]) (by decide) (by kernel_rfl) ?_
  simp only [c_cmp_Or_int, go_sem, ite_andP, ite_orP, dec_true, dec_false]
  (repeat (with_reducible refine And.intro ?_ ?_; focus exact ob_))
  refine Wpi_loop hm (ι := {p : Nat × Unit // p.1 ≤ l.length ∧ itrE (d_cmp_Or_int_L1 l) p.1 () = .inl p.2}) (fun i => [(3, .share, .sc (.int .i64 0)), (6, .share, encD 1 encInt 0 l), (7, .share, .sc (.int .i64 (l.length : Int))), (8, .share, .sc (.int .i64 (i.1.1 : Int)))]) (fun i => []) (fun i => l.length - i.1.1) ⟨(0, ()), by omega, rfl⟩ ?_ ?_
  · refine weakE_ [] [] ?_
    simp only [go_sem, ite_andP, ite_orP, dec_true, dec_false, itr_zero]
    all_goals exact fin_
  · rintro ⟨⟨i1, s1⟩, hi1, hs1⟩
    replace hi1 : i1 ≤ l.length := hi1
    replace hs1 : itrE (d_cmp_Or_int_L1 l) i1 () = .inl s1 := hs1
    simp only [c_cmp_Or_intb0, go_sem, ite_andP, ite_orP, dec_true, dec_false]
    (repeat (with_reducible refine And.intro ?_ ?_; focus exact ob_))
    by_cases h1 : (i1 : Int) < (l.length : Int)
    · first | rw [if_pos h1] | rw [if_pos (by simp_all)] | rw [if_pos (by omega)]
      have hlt1 : i1 < l.length := by first | omega | (simp only [IntKind.wrap_i64] at h1; omega)
      (repeat (with_reducible refine And.intro ?_ ?_; focus exact ob_))
      by_cases h2 : ((l.getD i1 0) != 0) = true
      · first | rw [if_pos h2] | rw [if_pos (by simp_all)] | rw [if_pos (by omega)]
        (repeat (with_reducible refine And.intro ?_ ?_; focus exact ob_))
        have e1 : itrE (d_cmp_Or_int_L1 l) (i1 + 1) () = .inr (l.getD i1 0) := itrE_inl hs1 (by first | with_reducible rfl | (unfold d_cmp_Or_int_L1; exact hd_))
        replace e1 := itrE_stop e1 (show i1 + 1 ≤ l.length by omega)
        have hd : d_cmp_Or_int l = (l.getD i1 0) := by first | with_reducible rfl | (unfold d_cmp_Or_int; exact hd_)
        try rw [hd]
        try simp only [go_sem, ite_andP, ite_orP, dec_true, dec_false]
        all_goals exact fin_
      · first | rw [if_neg h2] | rw [if_neg (by simp_all)] | rw [if_neg (by omega)]
        (repeat (with_reducible refine And.intro ?_ ?_; focus exact ob_))
        have hn : itrE (d_cmp_Or_int_L1 l) (i1 + 1) () = .inl () := itrE_inl hs1 (by first | with_reducible rfl | (unfold d_cmp_Or_int_L1; exact hd_))
        refine loop_next ⟨(i1 + 1, ()), by omega, hn⟩ (by show l.length - (i1 + 1) < l.length - i1; omega) (weakE_ [] [] ?_)
        simp only [go_sem, ite_andP, ite_orP, dec_true, dec_false]
        all_goals exact fin_
    · first | rw [if_neg h1] | rw [if_neg (by simp_all)] | rw [if_neg (by omega)]
      (repeat (with_reducible refine And.intro ?_ ?_; focus exact ob_))
      have hge : i1 = l.length := by first | omega | (simp only [IntKind.wrap_i64] at h1; omega)
      subst hge
      have hd : d_cmp_Or_int l = 0 := by first | with_reducible rfl | (unfold d_cmp_Or_int; exact hd_)
      try rw [hd]
      try simp only [go_sem, ite_andP, ite_orP, dec_true, dec_false]
      all_goals exact fin_

def d_broadphase_compare (a : PairKey) (b : PairKey) : Int := let v1 := (d_cmp_Compare_int a.BodyA b.BodyA); let v2 := (d_cmp_Compare_int a.FixtureA b.FixtureA); let v3 := (d_cmp_Compare_int a.BodyB b.BodyB); let v4 := (d_cmp_Compare_int a.FixtureB b.FixtureB); let v5 := (d_cmp_Or_int ([v1, v2, v3, v4])); v5
set_option maxHeartbeats 200000 in
theorem s_broadphase_compare (a : PairKey) (b : PairKey)  : CallsA Tryz.prog F_broadphase_compare [.agg a.enc, .agg b.enc] [] (.sc (.int .i64 (d_broadphase_compare a b))) [] := by
  refine callsI_of (rs := [_]) hm Tryz.func269 (by kernel_rfl) (by kernel_rfl) is_broadphase_compare (by kernel_rfl : tmpsOf Tryz.f269.results.toList = some [4]) (by decide) (by kernel_rfl) ?_
  simp only [c_broadphase_compare, go_sem, ite_andP, ite_orP, dec_true, dec_false]
  (repeat (with_reducible refine And.intro ?_ ?_; focus exact ob_))
  refine CallGi_flat (s_cmp_Compare_int a.BodyA b.BodyA ) rfl ?_
  generalize hv1 : (d_cmp_Compare_int a.BodyA b.BodyA) = v1
  simp only [go_sem, ite_andP, ite_orP, dec_true, dec_false]
  (repeat (with_reducible refine And.intro ?_ ?_; focus exact ob_))
  refine CallGi_flat (s_cmp_Compare_int a.FixtureA b.FixtureA ) rfl ?_
  generalize hv2 : (d_cmp_Compare_int a.FixtureA b.FixtureA) = v2
  simp only [go_sem, ite_andP, ite_orP, dec_true, dec_false]
  (repeat (with_reducible refine And.intro ?_ ?_; focus exact ob_))
  refine CallGi_flat (s_cmp_Compare_int a.BodyB b.BodyB ) rfl ?_
  generalize hv3 : (d_cmp_Compare_int a.BodyB b.BodyB) = v3
  simp only [go_sem, ite_andP, ite_orP, dec_true, dec_false]
  (repeat (with_reducible refine And.intro ?_ ?_; focus exact ob_))
  refine CallGi_flat (s_cmp_Compare_int a.FixtureB b.FixtureB ) rfl ?_
  generalize hv4 : (d_cmp_Compare_int a.FixtureB b.FixtureB) = v4
  simp only [go_sem, ite_andP, ite_orP, dec_true, dec_false]
  (repeat (with_reducible refine And.intro ?_ ?_; focus exact ob_))
  refine CallGi_keep (s_cmp_Or_int ([v1, v2, v3, v4]) (by (first | assumption | omega | (simp_all; done) | (simp_all; omega)))) rfl ?_ ?_
  · (try simp only [argsC, go_sem, ite_andP, ite_orP, dec_true, dec_false]); all_goals ((repeat' (with_reducible apply And.intro)) <;> first | with_reducible rfl | trivial | exact avle_lit2 (fun _ _ => rfl) rfl rfl rfl | exact avle_nilD rfl | exact avle_self _ | rfl)
  generalize hv5 : (d_cmp_Or_int ([v1, v2, v3, v4])) = v5
  simp only [go_sem, ite_andP, ite_orP, dec_true, dec_false]
  (repeat (with_reducible refine And.intro ?_ ?_; focus exact ob_))
  have hd : d_broadphase_compare a b = v5 := by first | with_reducible rfl | (unfold d_broadphase_compare; exact hd_)
  try rw [hd]
  try simp only [go_sem, ite_andP, ite_orP, dec_true, dec_false]
  all_goals exact fin_

def d_broadphase_Less (a : PairKey) (b : PairKey) : Bool := let v1 := (d_broadphase_compare a b); (decide (v1 < 0))
set_option maxHeartbeats 200000 in
theorem s_broadphase_Less (a : PairKey) (b : PairKey)  : CallsA Tryz.prog F_broadphase_Less [.agg a.enc, .agg b.enc] [] (.sc (.bool (d_broadphase_Less a b))) [] := by
  refine callsI_of (rs := [_]) hm Tryz.func215 (by kernel_rfl) (by kernel_rfl) is_broadphase_Less (by kernel_rfl : tmpsOf Tryz.f215.results.toList = some [4]) (by decide) (by kernel_rfl) ?_
  simp only [c_broadphase_Less, go_sem, ite_andP, ite_orP, dec_true, dec_false]
  (repeat (with_reducible refine And.intro ?_ ?_; focus exact ob_))
  refine CallGi_flat (s_broadphase_compare a b ) rfl ?_
  generalize hv1 : (d_broadphase_compare a b) = v1
  simp only [go_sem, ite_andP, ite_orP, dec_true, dec_false]
  (repeat (with_reducible refine And.intro ?_ ?_; focus exact ob_))
  have hd : d_broadphase_Less a b = (decide (v1 < 0)) := by first | with_reducible rfl | (unfold d_broadphase_Less; exact hd_)
  try rw [hd]
  try simp only [go_sem, ite_andP, ite_orP, dec_true, dec_false]
  all_goals exact fin_

def d_broadphase_ValidKeys_L1 (l : List PairKey) (i1 : Nat) (s1 : Int × Int × Int × Int) : (Int × Int × Int × Int) ⊕ (Bool) := let v1 := (d_broadphase_valid (l.getD i1 default)); let v2 := (d_broadphase_Less (⟨s1.1, s1.2.1, s1.2.2.1, s1.2.2.2⟩ : PairKey) (l.getD i1 default)); if ((!v1) || ((decide (0 < (i1 : Int))) && ((((l.getD i1 default).BodyA == s1.1) && (((l.getD i1 default).FixtureA == s1.2.1) && (((l.getD i1 default).BodyB == s1.2.2.1) && ((l.getD i1 default).FixtureB == s1.2.2.2)))) || (!v2)))) = true then (.inr false) else (.inl ((l.getD i1 default).BodyA, (l.getD i1 default).FixtureA, (l.getD i1 default).BodyB, (l.getD i1 default).FixtureB))
def d_broadphase_ValidKeys (l : List PairKey) : Bool := (match itrE (d_broadphase_ValidKeys_L1 l) l.length (0, 0, 0, 0) with | .inr r => r | .inl s1 => true)
set_option maxHeartbeats 200000 in
theorem s_broadphase_ValidKeys (l : List PairKey) (hl : l.length ≤ 1048576) : CallsA Tryz.prog F_broadphase_ValidKeys [encD 4 PairKey.enc default l] [] (.sc (.bool (d_broadphase_ValidKeys l))) [] := by
  refine callsI_of (rs := [_]) hm Tryz.func143 (by kernel_rfl) (by kernel_rfl) is_broadphase_ValidKeys (by kernel_rfl : tmpsOf Tryz.f143.results.toList = some [2]) (by decide) (by kernel_rfl) ?_
  simp only [c_broadphase_ValidKeys, go_sem, ite_andP, ite_orP, dec_true, dec_false]
  (repeat (with_reducible refine And.intro ?_ ?_; focus exact ob_))
  refine Wpi_loop hm (ι := {p : Nat × (Int × Int × Int × Int) // p.1 ≤ l.length ∧ itrE (d_broadphase_ValidKeys_L1 l) p.1 (0, 0, 0, 0) = .inl p.2}) (fun i => [(3, .share, .ptr 64 0 0 1), (7, .share, encD 4 PairKey.enc default l), (8, .share, .sc (.int .i64 (l.length : Int))), (9, .share, .sc (.int .i64 (i.1.1 : Int)))]) (fun i => [(64, .box [.sc (.int .i64 i.1.2.1), .sc (.int .i64 i.1.2.2.1), .sc (.int .i64 i.1.2.2.2.1), .sc (.int .i64 i.1.2.2.2.2)])]) (fun i => l.length - i.1.1) ⟨(0, (0, 0, 0, 0)), by omega, rfl⟩ ?_ ?_
  · refine weakE_ [] [] ?_
    simp only [go_sem, ite_andP, ite_orP, dec_true, dec_false, itr_zero]
    all_goals exact fin_
  · rintro ⟨⟨i1, s1⟩, hi1, hs1⟩
    replace hi1 : i1 ≤ l.length := hi1
    replace hs1 : itrE (d_broadphase_ValidKeys_L1 l) i1 (0, 0, 0, 0) = .inl s1 := hs1
    simp only [c_broadphase_ValidKeysb0, go_sem, ite_andP, ite_orP, dec_true, dec_false]
    (repeat (with_reducible refine And.intro ?_ ?_; focus exact ob_))
    by_cases h1 : (i1 : Int) < (l.length : Int)
    · first | rw [if_pos h1] | rw [if_pos (by simp_all)] | rw [if_pos (by omega)]
      have hlt1 : i1 < l.length := by first | omega | (simp only [IntKind.wrap_i64] at h1; omega)
      (repeat (with_reducible refine And.intro ?_ ?_; focus exact ob_))
      refine CallGi_flat (s_broadphase_valid (l.getD i1 default) ) rfl ?_
      generalize hv1 : (d_broadphase_valid (l.getD i1 default)) = v1
      simp only [go_sem, ite_andP, ite_orP, dec_true, dec_false]
      (repeat (with_reducible refine And.intro ?_ ?_; focus exact ob_))
      refine CallGi_flat (s_broadphase_Less (⟨s1.1, s1.2.1, s1.2.2.1, s1.2.2.2⟩ : PairKey) (l.getD i1 default) ) rfl ?_
      generalize hv2 : (d_broadphase_Less (⟨s1.1, s1.2.1, s1.2.2.1, s1.2.2.2⟩ : PairKey) (l.getD i1 default)) = v2
      simp only [go_sem, ite_andP, ite_orP, dec_true, dec_false]
      (repeat (with_reducible refine And.intro ?_ ?_; focus exact ob_))
      by_cases h2 : ((!v1) || ((decide (0 < (i1 : Int))) && ((((l.getD i1 default).BodyA == s1.1) && (((l.getD i1 default).FixtureA == s1.2.1) && (((l.getD i1 default).BodyB == s1.2.2.1) && ((l.getD i1 default).FixtureB == s1.2.2.2)))) || (!v2)))) = true
      · first | rw [if_pos h2] | rw [if_pos (by simp_all)] | rw [if_pos (by omega)]
        (repeat (with_reducible refine And.intro ?_ ?_; focus exact ob_))
        have e1 : itrE (d_broadphase_ValidKeys_L1 l) (i1 + 1) (0, 0, 0, 0) = .inr false := itrE_inl hs1 (by first | with_reducible rfl | (unfold d_broadphase_ValidKeys_L1; exact hd_))
        replace e1 := itrE_stop e1 (show i1 + 1 ≤ l.length by omega)
        have hd : d_broadphase_ValidKeys l = false := by first | with_reducible rfl | (unfold d_broadphase_ValidKeys; exact hd_)
        try rw [hd]
        try simp only [go_sem, ite_andP, ite_orP, dec_true, dec_false]
        all_goals exact fin_
      · first | rw [if_neg h2] | rw [if_neg (by simp_all)] | rw [if_neg (by omega)]
        (repeat (with_reducible refine And.intro ?_ ?_; focus exact ob_))
        have hn : itrE (d_broadphase_ValidKeys_L1 l) (i1 + 1) (0, 0, 0, 0) = .inl ((l.getD i1 default).BodyA, (l.getD i1 default).FixtureA, (l.getD i1 default).BodyB, (l.getD i1 default).FixtureB) := itrE_inl hs1 (by first | with_reducible rfl | (unfold d_broadphase_ValidKeys_L1; exact hd_))
        refine loop_next ⟨(i1 + 1, ((l.getD i1 default).BodyA, (l.getD i1 default).FixtureA, (l.getD i1 default).BodyB, (l.getD i1 default).FixtureB)), by omega, hn⟩ (by show l.length - (i1 + 1) < l.length - i1; omega) (weakE_ [] [] ?_)
        simp only [go_sem, ite_andP, ite_orP, dec_true, dec_false]
        all_goals exact fin_
    · first | rw [if_neg h1] | rw [if_neg (by simp_all)] | rw [if_neg (by omega)]
      (repeat (with_reducible refine And.intro ?_ ?_; focus exact ob_))
      have hge : i1 = l.length := by first | omega | (simp only [IntKind.wrap_i64] at h1; omega)
      subst hge
      have hd : d_broadphase_ValidKeys l = true := by first | with_reducible rfl | (unfold d_broadphase_ValidKeys; exact hd_)
      try rw [hd]
      try simp only [go_sem, ite_andP, ite_orP, dec_true, dec_false]
      all_goals exact fin_

def d_r22_ValidKeys_L1 (l : List PairKey) (i1 : Nat) (s1 : Unit) : (Unit) ⊕ (Bool) := let v1 := (d_r22_Less (l.getD (IntKind.i64.wrap ((i1 : Int) - 1)).toNat default) (l.getD i1 default)); if ((((((decide ((l.getD i1 default).BodyB ≤ (l.getD i1 default).BodyA)) || (decide ((l.getD i1 default).FixtureA < 0))) || (decide (3 < (l.getD i1 default).FixtureA))) || (decide ((l.getD i1 default).FixtureB < 0))) || (decide (3 < (l.getD i1 default).FixtureB))) || ((decide (0 < (i1 : Int))) && (!v1))) = true then (.inr false) else (.inl ())
def d_r22_ValidKeys (l : List PairKey) : Bool := (match itrE (d_r22_ValidKeys_L1 l) l.length () with | .inr r => r | .inl s1 => true)
set_option maxHeartbeats 200000 in
theorem s_r22_ValidKeys (l : List PairKey) (hl : l.length ≤ 1048576) : CallsA Tryz.prog F_r22_ValidKeys [encD 4 PairKey.enc default l] [] (.sc (.bool (d_r22_ValidKeys l))) [] := by
  refine callsI_of (rs := [_]) hm Tryz.func234 (by kernel_rfl) (by kernel_rfl) is_r22_ValidKeys (by kernel_rfl : tmpsOf Tryz.f234.results.toList = some [2]) (by decide) (by kernel_rfl) ?_
  simp only [c_r22_ValidKeys, go_sem, ite_andP, ite_orP, dec_true, dec_false]
  (repeat (with_reducible refine And.intro ?_ ?_; focus exact ob_))
  refine Wpi_loop hm (ι := {p : Nat × Unit // p.1 ≤ l.length ∧ itrE (d_r22_ValidKeys_L1 l) p.1 () = .inl p.2}) (fun i => [(0, .share, encD 4 PairKey.enc default l), (3, .share, .sc (.int .i64 (i.1.1 : Int)))]) (fun i => []) (fun i => l.length - i.1.1) ⟨(0, ()), by omega, rfl⟩ ?_ ?_
  · refine weakE_ [] [] ?_
    simp only [go_sem, ite_andP, ite_orP, dec_true, dec_false, itr_zero]
    all_goals exact fin_
  · rintro ⟨⟨i1, s1⟩, hi1, hs1⟩
    replace hi1 : i1 ≤ l.length := hi1
    replace hs1 : itrE (d_r22_ValidKeys_L1 l) i1 () = .inl s1 := hs1
    simp only [c_r22_ValidKeysb0, go_sem, ite_andP, ite_orP, dec_true, dec_false]
    (repeat (with_reducible refine And.intro ?_ ?_; focus exact ob_))
    by_cases h1 : (i1 : Int) < (l.length : Int)
    · first | rw [if_pos h1] | rw [if_pos (by simp_all)] | rw [if_pos (by omega)]
      have hlt1 : i1 < l.length := by first | omega | (simp only [IntKind.wrap_i64] at h1; omega)
      (repeat (with_reducible refine And.intro ?_ ?_; focus exact ob_))
      refine CallGi_flat (s_r22_Less (l.getD (IntKind.i64.wrap ((i1 : Int) - 1)).toNat default) (l.getD i1 default) ) rfl ?_
      generalize hv1 : (d_r22_Less (l.getD (IntKind.i64.wrap ((i1 : Int) - 1)).toNat default) (l.getD i1 default)) = v1
      simp only [go_sem, ite_andP, ite_orP, dec_true, dec_false]
      (repeat (with_reducible refine And.intro ?_ ?_; focus exact ob_))
      by_cases h2 : ((((((decide ((l.getD i1 default).BodyB ≤ (l.getD i1 default).BodyA)) || (decide ((l.getD i1 default).FixtureA < 0))) || (decide (3 < (l.getD i1 default).FixtureA))) || (decide ((l.getD i1 default).FixtureB < 0))) || (decide (3 < (l.getD i1 default).FixtureB))) || ((decide (0 < (i1 : Int))) && (!v1))) = true
      · first | rw [if_pos h2] | rw [if_pos (by simp_all)] | rw [if_pos (by omega)]
        (repeat (with_reducible refine And.intro ?_ ?_; focus exact ob_))
        have e1 : itrE (d_r22_ValidKeys_L1 l) (i1 + 1) () = .inr false := itrE_inl hs1 (by first | with_reducible rfl | (unfold d_r22_ValidKeys_L1; exact hd_))
        replace e1 := itrE_stop e1 (show i1 + 1 ≤ l.length by omega)
        have hd : d_r22_ValidKeys l = false := by first | with_reducible rfl | (unfold d_r22_ValidKeys; exact hd_)
        try rw [hd]
        try simp only [go_sem, ite_andP, ite_orP, dec_true, dec_false]
        all_goals exact fin_
      · first | rw [if_neg h2] | rw [if_neg (by simp_all)] | rw [if_neg (by omega)]
        (repeat (with_reducible refine And.intro ?_ ?_; focus exact ob_))
        have hn : itrE (d_r22_ValidKeys_L1 l) (i1 + 1) () = .inl () := itrE_inl hs1 (by first | with_reducible rfl | (unfold d_r22_ValidKeys_L1; exact hd_))
        refine loop_next ⟨(i1 + 1, ()), by omega, hn⟩ (by show l.length - (i1 + 1) < l.length - i1; omega) (weakE_ [] [] ?_)
        simp only [go_sem, ite_andP, ite_orP, dec_true, dec_false]
        all_goals exact fin_
    · first | rw [if_neg h1] | rw [if_neg (by simp_all)] | rw [if_neg (by omega)]
      (repeat (with_reducible refine And.intro ?_ ?_; focus exact ob_))
      have hge : i1 = l.length := by first | omega | (simp only [IntKind.wrap_i64] at h1; omega)
      subst hge
      have hd : d_r22_ValidKeys l = true := by first | with_reducible rfl | (unfold d_r22_ValidKeys; exact hd_)
      try rw [hd]
      try simp only [go_sem, ite_andP, ite_orP, dec_true, dec_false]
      all_goals exact fin_

def d_shape_Validate_f1 (v : Vec) : Bool := let v1 := (d_shape_outOfRange v.X); let v2 := (d_shape_outOfRange v.Y); (v1 || v2)
set_option maxHeartbeats 200000 in
theorem s_shape_Validate_f1 (v : Vec)  : CallsA Tryz.prog F_shape_Validate_f1 [.agg v.enc] [] (.sc (.bool (d_shape_Validate_f1 v))) [] := by
  refine callsI_of (rs := [_]) hm Tryz.func298 (by kernel_rfl) (by kernel_rfl) is_shape_Validate_f1 (by kernel_rfl : tmpsOf Tryz.f298.results.toList = some [2]) (by decide) (by kernel_rfl) ?_
  simp only [c_shape_Validate_f1, go_sem, ite_andP, ite_orP, dec_true, dec_false]
  (repeat (with_reducible refine And.intro ?_ ?_; focus exact ob_))
  refine CallGi_flat (s_shape_outOfRange v.X ) rfl ?_
  generalize hv1 : (d_shape_outOfRange v.X) = v1
  simp only [go_sem, ite_andP, ite_orP, dec_true, dec_false]
  (repeat (with_reducible refine And.intro ?_ ?_; focus exact ob_))
  refine CallGi_flat (s_shape_outOfRange v.Y ) rfl ?_
  generalize hv2 : (d_shape_outOfRange v.Y) = v2
  simp only [go_sem, ite_andP, ite_orP, dec_true, dec_false]
  (repeat (with_reducible refine And.intro ?_ ?_; focus exact ob_))
  have hd : d_shape_Validate_f1 v = (v1 || v2) := by first | with_reducible rfl | (unfold d_shape_Validate_f1; exact hd_)
  try rw [hd]
  try simp only [go_sem, ite_andP, ite_orP, dec_true, dec_false]
  all_goals exact fin_

def d_shape_Validate (s : Shape) : Int := if ((decide (s.Kind < 1)) || (decide (3 < s.Kind))) = true then (10) else (let v1 := (d_shape_validCount s); if v1 = false then (11) else (if (s.Vertices.any (fun x => (d_shape_Validate_f1 x))) = true then (6) else (if ((s.Kind == 3) && (s.Radius != 0)) = true then (if ((s.Kind == 3) && (s.Radius != 0)) = true then (6) else (let v2 := (subV (s.Vertices.getD 1 default) (s.Vertices.getD 0 default)); let v3 := (lenV v2); if ((s.Kind == 2) && (decide (v3 < 4096))) = true then (12) else (let v4 := (d_polygon_IsConvex s.Vertices); let v5 := (d_polygon_ShortestEdge s.Vertices); let v6 := (d_polygon_Area s.Vertices); if ((s.Kind == 3) && (((!v4) || (decide (v5 < 4096))) || (decide (v6 < 256)))) = true then (12) else (0)))) else (if ((s.Kind != 3) && ((decide (s.Radius < 2048)) || (decide (524288 < s.Radius)))) = true then (6) else (let v7 := (subV (s.Vertices.getD 1 default) (s.Vertices.getD 0 default)); let v8 := (lenV v7); if ((s.Kind == 2) && (decide (v8 < 4096))) = true then (12) else (let v9 := (d_polygon_IsConvex s.Vertices); let v10 := (d_polygon_ShortestEdge s.Vertices); let v11 := (d_polygon_Area s.Vertices); if ((s.Kind == 3) && (((!v9) || (decide (v10 < 4096))) || (decide (v11 < 256)))) = true then (12) else (0)))))))
set_option maxHeartbeats 200000 in
theorem s_shape_Validate (s : Shape) (hn : s.Vertices.length ≤ 1048576) : CallsA Tryz.prog F_shape_Validate [.agg s.enc] [] (.sc (.int .i64 (d_shape_Validate s))) [] := by
  refine callsI_of (rs := [_]) hm Tryz.func262 (by kernel_rfl) (by kernel_rfl) is_shape_Validate (by kernel_rfl : tmpsOf Tryz.f262.results.toList = some [2]) (by decide) (by kernel_rfl) ?_
  simp only [c_shape_Validate, go_sem, ite_andP, ite_orP, dec_true, dec_false]
  (repeat (with_reducible refine And.intro ?_ ?_; focus exact ob_))
  by_cases h1 : ((decide (s.Kind < 1)) || (decide (3 < s.Kind))) = true
  · first | rw [if_pos h1] | rw [if_pos (by simp_all)] | rw [if_pos (by omega)]
    (repeat (with_reducible refine And.intro ?_ ?_; focus exact ob_))
    have hd : d_shape_Validate s = 10 := by first | with_reducible rfl | (unfold d_shape_Validate; exact hd_)
    try rw [hd]
    try simp only [go_sem, ite_andP, ite_orP, dec_true, dec_false]
    all_goals exact fin_
  · first | rw [if_neg h1] | rw [if_neg (by simp_all)] | rw [if_neg (by omega)]
    (repeat (with_reducible refine And.intro ?_ ?_; focus exact ob_))
    have p2 := vcount s
    refine CallGi_flat (s_shape_validCount s ) rfl ?_
    generalize hv1 : (d_shape_validCount s) = v1 at *
    simp only [go_sem, ite_andP, ite_orP, dec_true, dec_false]
    (repeat (with_reducible refine And.intro ?_ ?_; focus exact ob_))
    by_cases h3 : v1 = false
    · first | rw [if_pos h3] | rw [if_pos (by simp_all)] | rw [if_pos (by omega)]
      (repeat (with_reducible refine And.intro ?_ ?_; focus exact ob_))
      have hd : d_shape_Validate s = 11 := by first | with_reducible rfl | (unfold d_shape_Validate; exact hd_)
      try rw [hd]
      try simp only [go_sem, ite_andP, ite_orP, dec_true, dec_false]
      all_goals exact fin_
    · first | rw [if_neg h3] | rw [if_neg (by simp_all)] | rw [if_neg (by omega)]
      (repeat (with_reducible refine And.intro ?_ ?_; focus exact ob_))
      refine CallGi_flat (s_slices_ContainsFunc_Vec s.Vertices F_shape_Validate_f1 [] [] [] (fun x => (d_shape_Validate_f1 x)) (by (first | assumption | omega | (simp_all; done) | (simp_all; omega))) okO_nil (by simp [AV.ids, idsL]) (fun x _ => s_shape_Validate_f1 x)) rfl ?_
      simp only [go_sem, ite_andP, ite_orP, dec_true, dec_false]
      (repeat (with_reducible refine And.intro ?_ ?_; focus exact ob_))
      by_cases h4 : (s.Vertices.any (fun x => (d_shape_Validate_f1 x))) = true
      · first | rw [if_pos h4] | rw [if_pos (by simp_all)] | rw [if_pos (by omega)]
        (repeat (with_reducible refine And.intro ?_ ?_; focus exact ob_))
        have hd : d_shape_Validate s = 6 := by first | with_reducible rfl | (unfold d_shape_Validate; exact hd_)
        try rw [hd]
        try simp only [go_sem, ite_andP, ite_orP, dec_true, dec_false]
        all_goals exact fin_
      · first | rw [if_neg h4] | rw [if_neg (by simp_all)] | rw [if_neg (by omega)]
        (repeat (with_reducible refine And.intro ?_ ?_; focus exact ob_))
        by_cases h5 : ((s.Kind == 3) && (s.Radius != 0)) = true
        · first | rw [if_pos h5] | rw [if_pos (by simp_all)] | rw [if_pos (by omega)]
          (repeat (with_reducible refine And.intro ?_ ?_; focus exact ob_))
          by_cases h6 : ((s.Kind == 3) && (s.Radius != 0)) = true
          · first | rw [if_pos h6] | rw [if_pos (by simp_all)] | rw [if_pos (by omega)]
            (repeat (with_reducible refine And.intro ?_ ?_; focus exact ob_))
            have hd : d_shape_Validate s = 6 := by first | with_reducible rfl | (unfold d_shape_Validate; exact hd_)
            try rw [hd]
            try simp only [go_sem, ite_andP, ite_orP, dec_true, dec_false]
            all_goals exact fin_
          · first | rw [if_neg h6] | rw [if_neg (by simp_all)] | rw [if_neg (by omega)]
            (repeat (with_reducible refine And.intro ?_ ?_; focus exact ob_))
            refine CallGi_flat (s_vec2_Sub (s.Vertices.getD 1 default) (s.Vertices.getD 0 default) ) rfl ?_
            generalize hv2 : (subV (s.Vertices.getD 1 default) (s.Vertices.getD 0 default)) = v2
            simp only [go_sem, ite_andP, ite_orP, dec_true, dec_false]
            (repeat (with_reducible refine And.intro ?_ ?_; focus exact ob_))
            refine CallGi_flat (s_vec2_Length v2 ) rfl ?_
            generalize hv3 : (lenV v2) = v3
            simp only [go_sem, ite_andP, ite_orP, dec_true, dec_false]
            (repeat (with_reducible refine And.intro ?_ ?_; focus exact ob_))
            by_cases h7 : ((s.Kind == 2) && (decide (v3 < 4096))) = true
            · first | rw [if_pos h7] | rw [if_pos (by simp_all)] | rw [if_pos (by omega)]
              (repeat (with_reducible refine And.intro ?_ ?_; focus exact ob_))
              have hd : d_shape_Validate s = 12 := by first | with_reducible rfl | (unfold d_shape_Validate; exact hd_)
              try rw [hd]
              try simp only [go_sem, ite_andP, ite_orP, dec_true, dec_false]
              all_goals exact fin_
            · first | rw [if_neg h7] | rw [if_neg (by simp_all)] | rw [if_neg (by omega)]
              (repeat (with_reducible refine And.intro ?_ ?_; focus exact ob_))
              have p8 := convex_len s.Vertices
              refine CallGi_flat (s_polygon_IsConvex s.Vertices (by (first | assumption | omega | (simp_all; done) | (simp_all; omega)))) rfl ?_
              generalize hv4 : (d_polygon_IsConvex s.Vertices) = v4 at *
              simp only [go_sem, ite_andP, ite_orP, dec_true, dec_false]
              (repeat (with_reducible refine And.intro ?_ ?_; focus exact ob_))
              refine CallGi_flat (s_polygon_ShortestEdge s.Vertices (by (first | assumption | omega | (simp_all; done) | (simp_all; omega)))) rfl ?_
              generalize hv5 : (d_polygon_ShortestEdge s.Vertices) = v5
              simp only [go_sem, ite_andP, ite_orP, dec_true, dec_false]
              (repeat (with_reducible refine And.intro ?_ ?_; focus exact ob_))
              refine CallGi_flat (s_polygon_Area s.Vertices (by (first | assumption | omega | (simp_all; done) | (simp_all; omega)))) rfl ?_
              generalize hv6 : (d_polygon_Area s.Vertices) = v6
              simp only [go_sem, ite_andP, ite_orP, dec_true, dec_false]
              (repeat (with_reducible refine And.intro ?_ ?_; focus exact ob_))
              by_cases h9 : ((s.Kind == 3) && (((!v4) || (decide (v5 < 4096))) || (decide (v6 < 256)))) = true
              · first | rw [if_pos h9] | rw [if_pos (by simp_all)] | rw [if_pos (by omega)]
                (repeat (with_reducible refine And.intro ?_ ?_; focus exact ob_))
                have hd : d_shape_Validate s = 12 := by first | with_reducible rfl | (unfold d_shape_Validate; exact hd_)
                try rw [hd]
                try simp only [go_sem, ite_andP, ite_orP, dec_true, dec_false]
                all_goals exact fin_
              · first | rw [if_neg h9] | rw [if_neg (by simp_all)] | rw [if_neg (by omega)]
                (repeat (with_reducible refine And.intro ?_ ?_; focus exact ob_))
                have hd : d_shape_Validate s = 0 := by first | with_reducible rfl | (unfold d_shape_Validate; exact hd_)
                try rw [hd]
                try simp only [go_sem, ite_andP, ite_orP, dec_true, dec_false]
                all_goals exact fin_
        · first | rw [if_neg h5] | rw [if_neg (by simp_all)] | rw [if_neg (by omega)]
          (repeat (with_reducible refine And.intro ?_ ?_; focus exact ob_))
          by_cases h10 : ((s.Kind != 3) && ((decide (s.Radius < 2048)) || (decide (524288 < s.Radius)))) = true
          · first | rw [if_pos h10] | rw [if_pos (by simp_all)] | rw [if_pos (by omega)]
            (repeat (with_reducible refine And.intro ?_ ?_; focus exact ob_))
            have hd : d_shape_Validate s = 6 := by first | with_reducible rfl | (unfold d_shape_Validate; exact hd_)
            try rw [hd]
            try simp only [go_sem, ite_andP, ite_orP, dec_true, dec_false]
            all_goals exact fin_
          · first | rw [if_neg h10] | rw [if_neg (by simp_all)] | rw [if_neg (by omega)]
            (repeat (with_reducible refine And.intro ?_ ?_; focus exact ob_))
            refine CallGi_flat (s_vec2_Sub (s.Vertices.getD 1 default) (s.Vertices.getD 0 default) ) rfl ?_
            generalize hv7 : (subV (s.Vertices.getD 1 default) (s.Vertices.getD 0 default)) = v7
            simp only [go_sem, ite_andP, ite_orP, dec_true, dec_false]
            (repeat (with_reducible refine And.intro ?_ ?_; focus exact ob_))
            refine CallGi_flat (s_vec2_Length v7 ) rfl ?_
            generalize hv8 : (lenV v7) = v8
            simp only [go_sem, ite_andP, ite_orP, dec_true, dec_false]
            (repeat (with_reducible refine And.intro ?_ ?_; focus exact ob_))
            by_cases h11 : ((s.Kind == 2) && (decide (v8 < 4096))) = true
            · first | rw [if_pos h11] | rw [if_pos (by simp_all)] | rw [if_pos (by omega)]
              (repeat (with_reducible refine And.intro ?_ ?_; focus exact ob_))
              have hd : d_shape_Validate s = 12 := by first | with_reducible rfl | (unfold d_shape_Validate; exact hd_)
              try rw [hd]
              try simp only [go_sem, ite_andP, ite_orP, dec_true, dec_false]
              all_goals exact fin_
            · first | rw [if_neg h11] | rw [if_neg (by simp_all)] | rw [if_neg (by omega)]
              (repeat (with_reducible refine And.intro ?_ ?_; focus exact ob_))
              have p12 := convex_len s.Vertices
              refine CallGi_flat (s_polygon_IsConvex s.Vertices (by (first | assumption | omega | (simp_all; done) | (simp_all; omega)))) rfl ?_
              generalize hv9 : (d_polygon_IsConvex s.Vertices) = v9 at *
              simp only [go_sem, ite_andP, ite_orP, dec_true, dec_false]
              (repeat (with_reducible refine And.intro ?_ ?_; focus exact ob_))
              refine CallGi_flat (s_polygon_ShortestEdge s.Vertices (by (first | assumption | omega | (simp_all; done) | (simp_all; omega)))) rfl ?_
              generalize hv10 : (d_polygon_ShortestEdge s.Vertices) = v10
              simp only [go_sem, ite_andP, ite_orP, dec_true, dec_false]
              (repeat (with_reducible refine And.intro ?_ ?_; focus exact ob_))
              refine CallGi_flat (s_polygon_Area s.Vertices (by (first | assumption | omega | (simp_all; done) | (simp_all; omega)))) rfl ?_
              generalize hv11 : (d_polygon_Area s.Vertices) = v11
              simp only [go_sem, ite_andP, ite_orP, dec_true, dec_false]
              (repeat (with_reducible refine And.intro ?_ ?_; focus exact ob_))
              by_cases h13 : ((s.Kind == 3) && (((!v9) || (decide (v10 < 4096))) || (decide (v11 < 256)))) = true
              · first | rw [if_pos h13] | rw [if_pos (by simp_all)] | rw [if_pos (by omega)]
                (repeat (with_reducible refine And.intro ?_ ?_; focus exact ob_))
                have hd : d_shape_Validate s = 12 := by first | with_reducible rfl | (unfold d_shape_Validate; exact hd_)
                try rw [hd]
                try simp only [go_sem, ite_andP, ite_orP, dec_true, dec_false]
                all_goals exact fin_
              · first | rw [if_neg h13] | rw [if_neg (by simp_all)] | rw [if_neg (by omega)]
                (repeat (with_reducible refine And.intro ?_ ?_; focus exact ob_))
                have hd : d_shape_Validate s = 0 := by first | with_reducible rfl | (unfold d_shape_Validate; exact hd_)
                try rw [hd]
                try simp only [go_sem, ite_andP, ite_orP, dec_true, dec_false]
                all_goals exact fin_

def d_r12_Validate_L1 (s : Shape) (i1 : Nat) (s1 : Unit) : (Unit) ⊕ (Int) := if ((!(inR (s.Vertices.getD i1 default).X (-1048576) 1048576)) || (!(inR (s.Vertices.getD i1 default).Y (-1048576) 1048576))) = true then (.inr 6) else (.inl ())
def d_r12_Validate (s : Shape) : Int := if ((decide (s.Kind < 1)) || (decide (3 < s.Kind))) = true then (10) else (let v1 := (d_r12_countMatches s); if v1 = false then (11) else ((match itrE (d_r12_Validate_L1 s) s.Vertices.length () with | .inr r => r | .inl s1 => if (((s.Kind == 3) && (s.Radius != 0)) || ((s.Kind != 3) && ((decide (s.Radius < 2048)) || (decide (524288 < s.Radius))))) = true then (6) else (let v4 := (subV (s.Vertices.getD 1 default) (s.Vertices.getD 0 default)); let v5 := (lenV v4); if ((s.Kind == 2) && (decide (v5 < 4096))) = true then (12) else (let v6 := (d_r11_IsConvex s.Vertices); let v7 := (d_r11_ShortestEdge s.Vertices); let v8 := (d_r11_Area s.Vertices); if ((s.Kind == 3) && (((!v6) || (decide (v7 < 4096))) || (decide (v8 < 256)))) = true then (12) else (0))))))
set_option maxHeartbeats 200000 in
theorem s_r12_Validate (s : Shape) (hn : s.Vertices.length ≤ 1048576) : CallsA Tryz.prog F_r12_Validate [.agg s.enc] [] (.sc (.int .i64 (d_r12_Validate s))) [] := by
  refine callsI_of (rs := [_]) hm Tryz.func308 (by kernel_rfl) (by kernel_rfl) is_r12_Validate (by kernel_rfl : tmpsOf Tryz.f308.results.toList = some [2]) (by decide) (by kernel_rfl) ?_
  simp only [c_r12_Validate, go_sem, ite_andP, ite_orP, dec_true, dec_false]
  (repeat (with_reducible refine And.intro ?_ ?_; focus exact ob_))
  by_cases h1 : ((decide (s.Kind < 1)) || (decide (3 < s.Kind))) = true
  · first | rw [if_pos h1] | rw [if_pos (by simp_all)] | rw [if_pos (by omega)]
    (repeat (with_reducible refine And.intro ?_ ?_; focus exact ob_))
    have hd : d_r12_Validate s = 10 := by first | with_reducible rfl | (unfold d_r12_Validate; exact hd_)
    try rw [hd]
    try simp only [go_sem, ite_andP, ite_orP, dec_true, dec_false]
    all_goals exact fin_
  · first | rw [if_neg h1] | rw [if_neg (by simp_all)] | rw [if_neg (by omega)]
    (repeat (with_reducible refine And.intro ?_ ?_; focus exact ob_))
    have p2 := rcount s
    refine CallGi_flat (s_r12_countMatches s ) rfl ?_
    generalize hv1 : (d_r12_countMatches s) = v1 at *
    simp only [go_sem, ite_andP, ite_orP, dec_true, dec_false]
    (repeat (with_reducible refine And.intro ?_ ?_; focus exact ob_))
    by_cases h3 : v1 = false
    · first | rw [if_pos h3] | rw [if_pos (by simp_all)] | rw [if_pos (by omega)]
      (repeat (with_reducible refine And.intro ?_ ?_; focus exact ob_))
      have hd : d_r12_Validate s = 11 := by first | with_reducible rfl | (unfold d_r12_Validate; exact hd_)
      try rw [hd]
      try simp only [go_sem, ite_andP, ite_orP, dec_true, dec_false]
      all_goals exact fin_
    · first | rw [if_neg h3] | rw [if_neg (by simp_all)] | rw [if_neg (by omega)]
      (repeat (with_reducible refine And.intro ?_ ?_; focus exact ob_))
      refine Wpi_loop hm (ι := {p : Nat × Unit // p.1 ≤ s.Vertices.length ∧ itrE (d_r12_Validate_L1 s) p.1 () = .inl p.2}) (fun i => [(1, .share, .ptr 32 0 0 1), (3, .share, .sc (.int .i64 (i.1.1 : Int)))]) (fun i => [(32, .box [.sc (.int .i64 s.Kind), .sc (.int .i64 s.Radius), encD 2 Vec.enc default s.Vertices])]) (fun i => s.Vertices.length - i.1.1) ⟨(0, ()), by omega, rfl⟩ ?_ ?_
      · refine weakE_ [] [] ?_
        simp only [go_sem, ite_andP, ite_orP, dec_true, dec_false, itr_zero]
        all_goals exact fin_
      · rintro ⟨⟨i1, s1⟩, hi1, hs1⟩
        replace hi1 : i1 ≤ s.Vertices.length := hi1
        replace hs1 : itrE (d_r12_Validate_L1 s) i1 () = .inl s1 := hs1
        simp only [c_r12_Validateb0, go_sem, ite_andP, ite_orP, dec_true, dec_false]
        (repeat (with_reducible refine And.intro ?_ ?_; focus exact ob_))
        by_cases h4 : (i1 : Int) < (s.Vertices.length : Int)
        · first | rw [if_pos h4] | rw [if_pos (by simp_all)] | rw [if_pos (by omega)]
          have hlt1 : i1 < s.Vertices.length := by first | omega | (simp only [IntKind.wrap_i64] at h4; omega)
          (repeat (with_reducible refine And.intro ?_ ?_; focus exact ob_))
          refine CallGi_flat (s_r12_within (s.Vertices.getD i1 default).X 1048576 (by decide) (by decide)) rfl ?_
          simp only [go_sem, ite_andP, ite_orP, dec_true, dec_false]
          (repeat (with_reducible refine And.intro ?_ ?_; focus exact ob_))
          refine CallGi_flat (s_r12_within (s.Vertices.getD i1 default).Y 1048576 (by decide) (by decide)) rfl ?_
          simp only [go_sem, ite_andP, ite_orP, dec_true, dec_false]
          (repeat (with_reducible refine And.intro ?_ ?_; focus exact ob_))
          by_cases h5 : ((!(inR (s.Vertices.getD i1 default).X (-1048576) 1048576)) || (!(inR (s.Vertices.getD i1 default).Y (-1048576) 1048576))) = true
          · first | rw [if_pos h5] | rw [if_pos (by simp_all)] | rw [if_pos (by omega)]
            (repeat (with_reducible refine And.intro ?_ ?_; focus exact ob_))
            have e1 : itrE (d_r12_Validate_L1 s) (i1 + 1) () = .inr 6 := itrE_inl hs1 (by first | with_reducible rfl | (unfold d_r12_Validate_L1; exact hd_))
            replace e1 := itrE_stop e1 (show i1 + 1 ≤ s.Vertices.length by omega)
            have hd : d_r12_Validate s = 6 := by first | with_reducible rfl | (unfold d_r12_Validate; exact hd_)
            try rw [hd]
            try simp only [go_sem, ite_andP, ite_orP, dec_true, dec_false]
            all_goals exact fin_
          · first | rw [if_neg h5] | rw [if_neg (by simp_all)] | rw [if_neg (by omega)]
            (repeat (with_reducible refine And.intro ?_ ?_; focus exact ob_))
            have hn : itrE (d_r12_Validate_L1 s) (i1 + 1) () = .inl () := itrE_inl hs1 (by first | with_reducible rfl | (unfold d_r12_Validate_L1; exact hd_))
            refine loop_next ⟨(i1 + 1, ()), by omega, hn⟩ (by show s.Vertices.length - (i1 + 1) < s.Vertices.length - i1; omega) (weakE_ [] [] ?_)
            simp only [go_sem, ite_andP, ite_orP, dec_true, dec_false]
            all_goals exact fin_
        · first | rw [if_neg h4] | rw [if_neg (by simp_all)] | rw [if_neg (by omega)]
          (repeat (with_reducible refine And.intro ?_ ?_; focus exact ob_))
          have hge : i1 = s.Vertices.length := by first | omega | (simp only [IntKind.wrap_i64] at h4; omega)
          subst hge
          by_cases h6 : (((s.Kind == 3) && (s.Radius != 0)) || ((s.Kind != 3) && ((decide (s.Radius < 2048)) || (decide (524288 < s.Radius))))) = true
          · first | rw [if_pos h6] | rw [if_pos (by simp_all)] | rw [if_pos (by omega)]
            (repeat (with_reducible refine And.intro ?_ ?_; focus exact ob_))
            have hd : d_r12_Validate s = 6 := by first | with_reducible rfl | (unfold d_r12_Validate; exact hd_)
            try rw [hd]
            try simp only [go_sem, ite_andP, ite_orP, dec_true, dec_false]
            all_goals exact fin_
          · first | rw [if_neg h6] | rw [if_neg (by simp_all)] | rw [if_neg (by omega)]
            (repeat (with_reducible refine And.intro ?_ ?_; focus exact ob_))
            refine CallGi_flat (s_r03_Sub (s.Vertices.getD 1 default) (s.Vertices.getD 0 default) ) rfl ?_
            generalize hv4 : (subV (s.Vertices.getD 1 default) (s.Vertices.getD 0 default)) = v4
            simp only [go_sem, ite_andP, ite_orP, dec_true, dec_false]
            (repeat (with_reducible refine And.intro ?_ ?_; focus exact ob_))
            refine CallGi_flat (s_r03_Length v4 ) rfl ?_
            generalize hv5 : (lenV v4) = v5
            simp only [go_sem, ite_andP, ite_orP, dec_true, dec_false]
            (repeat (with_reducible refine And.intro ?_ ?_; focus exact ob_))
            by_cases h7 : ((s.Kind == 2) && (decide (v5 < 4096))) = true
            · first | rw [if_pos h7] | rw [if_pos (by simp_all)] | rw [if_pos (by omega)]
              (repeat (with_reducible refine And.intro ?_ ?_; focus exact ob_))
              have hd : d_r12_Validate s = 12 := by first | with_reducible rfl | (unfold d_r12_Validate; exact hd_)
              try rw [hd]
              try simp only [go_sem, ite_andP, ite_orP, dec_true, dec_false]
              all_goals exact fin_
            · first | rw [if_neg h7] | rw [if_neg (by simp_all)] | rw [if_neg (by omega)]
              (repeat (with_reducible refine And.intro ?_ ?_; focus exact ob_))
              refine CallGi_flat (s_r11_IsConvex s.Vertices (by (first | assumption | omega | (simp_all; done) | (simp_all; omega)))) rfl ?_
              generalize hv6 : (d_r11_IsConvex s.Vertices) = v6
              simp only [go_sem, ite_andP, ite_orP, dec_true, dec_false]
              (repeat (with_reducible refine And.intro ?_ ?_; focus exact ob_))
              refine CallGi_flat (s_r11_ShortestEdge s.Vertices (by (first | assumption | omega | (simp_all; done) | (simp_all; omega)))) rfl ?_
              generalize hv7 : (d_r11_ShortestEdge s.Vertices) = v7
              simp only [go_sem, ite_andP, ite_orP, dec_true, dec_false]
              (repeat (with_reducible refine And.intro ?_ ?_; focus exact ob_))
              refine CallGi_flat (s_r11_Area s.Vertices (by (first | assumption | omega | (simp_all; done) | (simp_all; omega)))) rfl ?_
              generalize hv8 : (d_r11_Area s.Vertices) = v8
              simp only [go_sem, ite_andP, ite_orP, dec_true, dec_false]
              (repeat (with_reducible refine And.intro ?_ ?_; focus exact ob_))
              by_cases h8 : ((s.Kind == 3) && (((!v6) || (decide (v7 < 4096))) || (decide (v8 < 256)))) = true
              · first | rw [if_pos h8] | rw [if_pos (by simp_all)] | rw [if_pos (by omega)]
                (repeat (with_reducible refine And.intro ?_ ?_; focus exact ob_))
                have hd : d_r12_Validate s = 12 := by first | with_reducible rfl | (unfold d_r12_Validate; exact hd_)
                try rw [hd]
                try simp only [go_sem, ite_andP, ite_orP, dec_true, dec_false]
                all_goals exact fin_
              · first | rw [if_neg h8] | rw [if_neg (by simp_all)] | rw [if_neg (by omega)]
                (repeat (with_reducible refine And.intro ?_ ?_; focus exact ob_))
                have hd : d_r12_Validate s = 0 := by first | with_reducible rfl | (unfold d_r12_Validate; exact hd_)
                try rw [hd]
                try simp only [go_sem, ite_andP, ite_orP, dec_true, dec_false]
                all_goals exact fin_

def d_body_ValidateFixture (f : Fixture) : Int := let v1 := (d_shape_Validate f.Shape); if (v1 != 0) = true then (v1) else (if ((!(((inR f.Density 0 262144) && (inR f.Friction 0 131072)) && (inR f.Restitution 0 65536))) || (!(((inR f.Category 0 65535) && (inR f.Mask 0 65535)) && (inR f.Group (-32) 32)))) = true then (6) else (0))
set_option maxHeartbeats 200000 in
theorem s_body_ValidateFixture (f : Fixture) (hn : f.Shape.Vertices.length ≤ 1048576) : CallsA Tryz.prog F_body_ValidateFixture [.agg f.enc] [] (.sc (.int .i64 (d_body_ValidateFixture f))) [] := by
  refine callsI_of (rs := [_]) hm Tryz.func206 (by kernel_rfl) (by kernel_rfl) is_body_ValidateFixture (by kernel_rfl : tmpsOf Tryz.f206.results.toList = some [2]) (by decide) (by kernel_rfl) ?_
  simp only [c_body_ValidateFixture, go_sem, ite_andP, ite_orP, dec_true, dec_false]
  (repeat (with_reducible refine And.intro ?_ ?_; focus exact ob_))
  refine CallGi_flat (s_shape_Validate f.Shape (by (first | assumption | omega | (simp_all; done) | (simp_all; omega)))) rfl ?_
  generalize hv1 : (d_shape_Validate f.Shape) = v1
  simp only [go_sem, ite_andP, ite_orP, dec_true, dec_false]
  (repeat (with_reducible refine And.intro ?_ ?_; focus exact ob_))
  by_cases h1 : (v1 != 0) = true
  · first | rw [if_pos h1] | rw [if_pos (by simp_all)] | rw [if_pos (by omega)]
    (repeat (with_reducible refine And.intro ?_ ?_; focus exact ob_))
    have hd : d_body_ValidateFixture f = v1 := by first | with_reducible rfl | (unfold d_body_ValidateFixture; exact hd_)
    try rw [hd]
    try simp only [go_sem, ite_andP, ite_orP, dec_true, dec_false]
    all_goals exact fin_
  · first | rw [if_neg h1] | rw [if_neg (by simp_all)] | rw [if_neg (by omega)]
    (repeat (with_reducible refine And.intro ?_ ?_; focus exact ob_))
    refine CallGi_flat (s_body_within f.Density 0 262144 ) rfl ?_
    simp only [go_sem, ite_andP, ite_orP, dec_true, dec_false]
    (repeat (with_reducible refine And.intro ?_ ?_; focus exact ob_))
    refine CallGi_flat (s_body_within f.Friction 0 131072 ) rfl ?_
    simp only [go_sem, ite_andP, ite_orP, dec_true, dec_false]
    (repeat (with_reducible refine And.intro ?_ ?_; focus exact ob_))
    refine CallGi_flat (s_body_within f.Restitution 0 65536 ) rfl ?_
    simp only [go_sem, ite_andP, ite_orP, dec_true, dec_false]
    (repeat (with_reducible refine And.intro ?_ ?_; focus exact ob_))
    refine CallGi_flat (s_body_within f.Category 0 65535 ) rfl ?_
    simp only [go_sem, ite_andP, ite_orP, dec_true, dec_false]
    (repeat (with_reducible refine And.intro ?_ ?_; focus exact ob_))
    refine CallGi_flat (s_body_within f.Mask 0 65535 ) rfl ?_
    simp only [go_sem, ite_andP, ite_orP, dec_true, dec_false]
    (repeat (with_reducible refine And.intro ?_ ?_; focus exact ob_))
    refine CallGi_flat (s_body_within f.Group (-32) 32 ) rfl ?_
    simp only [go_sem, ite_andP, ite_orP, dec_true, dec_false]
    (repeat (with_reducible refine And.intro ?_ ?_; focus exact ob_))
    by_cases h2 : ((!(((inR f.Density 0 262144) && (inR f.Friction 0 131072)) && (inR f.Restitution 0 65536))) || (!(((inR f.Category 0 65535) && (inR f.Mask 0 65535)) && (inR f.Group (-32) 32)))) = true
    · first | rw [if_pos h2] | rw [if_pos (by simp_all)] | rw [if_pos (by omega)]
      (repeat (with_reducible refine And.intro ?_ ?_; focus exact ob_))
      have hd : d_body_ValidateFixture f = 6 := by first | with_reducible rfl | (unfold d_body_ValidateFixture; exact hd_)
      try rw [hd]
      try simp only [go_sem, ite_andP, ite_orP, dec_true, dec_false]
      all_goals exact fin_
    · first | rw [if_neg h2] | rw [if_neg (by simp_all)] | rw [if_neg (by omega)]
      (repeat (with_reducible refine And.intro ?_ ?_; focus exact ob_))
      have hd : d_body_ValidateFixture f = 0 := by first | with_reducible rfl | (unfold d_body_ValidateFixture; exact hd_)
      try rw [hd]
      try simp only [go_sem, ite_andP, ite_orP, dec_true, dec_false]
      all_goals exact fin_

def d_r23_ValidateFixture (f : Fixture) : Int := let v1 := (d_r12_Validate f.Shape); if (v1 != 0) = true then (v1) else (if ((((((!(inR f.Density 0 262144)) || (!(inR f.Friction 0 131072))) || (!(inR f.Restitution 0 65536))) || (!(inR f.Category 0 65535))) || (!(inR f.Mask 0 65535))) || (!(inR f.Group (-32) 32))) = true then (6) else (0))
set_option maxHeartbeats 200000 in
theorem s_r23_ValidateFixture (f : Fixture) (hn : f.Shape.Vertices.length ≤ 1048576) : CallsA Tryz.prog F_r23_ValidateFixture [.agg f.enc] [] (.sc (.int .i64 (d_r23_ValidateFixture f))) [] := by
  refine callsI_of (rs := [_]) hm Tryz.func277 (by kernel_rfl) (by kernel_rfl) is_r23_ValidateFixture (by kernel_rfl : tmpsOf Tryz.f277.results.toList = some [2]) (by decide) (by kernel_rfl) ?_
  simp only [c_r23_ValidateFixture, go_sem, ite_andP, ite_orP, dec_true, dec_false]
  (repeat (with_reducible refine And.intro ?_ ?_; focus exact ob_))
  refine CallGi_flat (s_r12_Validate f.Shape (by (first | assumption | omega | (simp_all; done) | (simp_all; omega)))) rfl ?_
  generalize hv1 : (d_r12_Validate f.Shape) = v1
  simp only [go_sem, ite_andP, ite_orP, dec_true, dec_false]
  (repeat (with_reducible refine And.intro ?_ ?_; focus exact ob_))
  by_cases h1 : (v1 != 0) = true
  · first | rw [if_pos h1] | rw [if_pos (by simp_all)] | rw [if_pos (by omega)]
    (repeat (with_reducible refine And.intro ?_ ?_; focus exact ob_))
    have hd : d_r23_ValidateFixture f = v1 := by first | with_reducible rfl | (unfold d_r23_ValidateFixture; exact hd_)
    try rw [hd]
    try simp only [go_sem, ite_andP, ite_orP, dec_true, dec_false]
    all_goals exact fin_
  · first | rw [if_neg h1] | rw [if_neg (by simp_all)] | rw [if_neg (by omega)]
    (repeat (with_reducible refine And.intro ?_ ?_; focus exact ob_))
    refine CallGi_flat (s_r23_in f.Density 0 262144 ) rfl ?_
    simp only [go_sem, ite_andP, ite_orP, dec_true, dec_false]
    (repeat (with_reducible refine And.intro ?_ ?_; focus exact ob_))
    refine CallGi_flat (s_r23_in f.Friction 0 131072 ) rfl ?_
    simp only [go_sem, ite_andP, ite_orP, dec_true, dec_false]
    (repeat (with_reducible refine And.intro ?_ ?_; focus exact ob_))
    refine CallGi_flat (s_r23_in f.Restitution 0 65536 ) rfl ?_
    simp only [go_sem, ite_andP, ite_orP, dec_true, dec_false]
    (repeat (with_reducible refine And.intro ?_ ?_; focus exact ob_))
    refine CallGi_flat (s_r23_in f.Category 0 65535 ) rfl ?_
    simp only [go_sem, ite_andP, ite_orP, dec_true, dec_false]
    (repeat (with_reducible refine And.intro ?_ ?_; focus exact ob_))
    refine CallGi_flat (s_r23_in f.Mask 0 65535 ) rfl ?_
    simp only [go_sem, ite_andP, ite_orP, dec_true, dec_false]
    (repeat (with_reducible refine And.intro ?_ ?_; focus exact ob_))
    refine CallGi_flat (s_r23_in f.Group (-32) 32 ) rfl ?_
    simp only [go_sem, ite_andP, ite_orP, dec_true, dec_false]
    (repeat (with_reducible refine And.intro ?_ ?_; focus exact ob_))
    by_cases h2 : ((((((!(inR f.Density 0 262144)) || (!(inR f.Friction 0 131072))) || (!(inR f.Restitution 0 65536))) || (!(inR f.Category 0 65535))) || (!(inR f.Mask 0 65535))) || (!(inR f.Group (-32) 32))) = true
    · first | rw [if_pos h2] | rw [if_pos (by simp_all)] | rw [if_pos (by omega)]
      (repeat (with_reducible refine And.intro ?_ ?_; focus exact ob_))
      have hd : d_r23_ValidateFixture f = 6 := by first | with_reducible rfl | (unfold d_r23_ValidateFixture; exact hd_)
      try rw [hd]
      try simp only [go_sem, ite_andP, ite_orP, dec_true, dec_false]
      all_goals exact fin_
    · first | rw [if_neg h2] | rw [if_neg (by simp_all)] | rw [if_neg (by omega)]
      (repeat (with_reducible refine And.intro ?_ ?_; focus exact ob_))
      have hd : d_r23_ValidateFixture f = 0 := by first | with_reducible rfl | (unfold d_r23_ValidateFixture; exact hd_)
      try rw [hd]
      try simp only [go_sem, ite_andP, ite_orP, dec_true, dec_false]
      all_goals exact fin_

def d_world_saturated_f1 (n : Int) : Bool := (!(inR n (-536870911) 536870911))
set_option maxHeartbeats 200000 in
theorem s_world_saturated_f1 (n : Int)  : CallsA Tryz.prog F_world_saturated_f1 [.sc (.int .i64 n)] [] (.sc (.bool (d_world_saturated_f1 n))) [] := by
  refine callsI_of (rs := [_]) hm Tryz.func267 (by kernel_rfl) (by kernel_rfl) is_world_saturated_f1 (by kernel_rfl : tmpsOf Tryz.f267.results.toList = some [2]) (by decide) (by kernel_rfl) ?_
  simp only [c_world_saturated_f1, go_sem, ite_andP, ite_orP, dec_true, dec_false]
  (repeat (with_reducible refine And.intro ?_ ?_; focus exact ob_))
  refine CallGi_flat (s_world_in n (-536870911) 536870911 ) rfl ?_
  simp only [go_sem, ite_andP, ite_orP, dec_true, dec_false]
  (repeat (with_reducible refine And.intro ?_ ?_; focus exact ob_))
  have hd : d_world_saturated_f1 n = (!(inR n (-536870911) 536870911)) := by first | with_reducible rfl | (unfold d_world_saturated_f1; exact hd_)
  try rw [hd]
  try simp only [go_sem, ite_andP, ite_orP, dec_true, dec_false]
  all_goals exact fin_

def d_world_saturated (l : List Int) : Bool := (!(l.any (fun x => (d_world_saturated_f1 x))))
set_option maxHeartbeats 200000 in
theorem s_world_saturated (l : List Int) (hl : l.length ≤ 1048576) : CallsA Tryz.prog F_world_saturated [encD 1 encInt 0 l] [] (.sc (.bool (d_world_saturated l))) [] := by
  refine callsI_of (rs := [_]) hm Tryz.func211 (by kernel_rfl) (by kernel_rfl) is_world_saturated (by kernel_rfl : tmpsOf Tryz.f211.results.toList = some [2]) (by decide) (by kernel_rfl) ?_
  simp only [c_world_saturated, go_sem, ite_andP, ite_orP, dec_true, dec_false]
  (repeat (with_reducible refine And.intro ?_ ?_; focus exact ob_))
  refine CallGi_flat (s_slices_ContainsFunc_int l F_world_saturated_f1 [] [] [] (fun x => (d_world_saturated_f1 x)) (by (first | assumption | omega | (simp_all; done) | (simp_all; omega))) okO_nil (by simp [AV.ids, idsL]) (fun x _ => s_world_saturated_f1 x)) rfl ?_
  simp only [go_sem, ite_andP, ite_orP, dec_true, dec_false]
  (repeat (with_reducible refine And.intro ?_ ?_; focus exact ob_))
  have hd : d_world_saturated l = (!(l.any (fun x => (d_world_saturated_f1 x)))) := by first | with_reducible rfl | (unfold d_world_saturated; exact hd_)
  try rw [hd]
  try simp only [go_sem, ite_andP, ite_orP, dec_true, dec_false]
  all_goals exact fin_

def d_world_validManifold_f1 (p : ContactPoint) : Bool := if (decide (p.NormalImpulse < 0)) = false then (let v1 := (d_world_saturated ([p.Point.X, p.Point.Y, p.Separation, p.ID, p.NormalImpulse, p.TangentImpulse])); ((decide (p.NormalImpulse < 0)) || (!v1))) else (true)
set_option maxHeartbeats 200000 in
theorem s_world_validManifold_f1 (p : ContactPoint)  : CallsA Tryz.prog F_world_validManifold_f1 [.agg p.enc] [] (.sc (.bool (d_world_validManifold_f1 p))) [] := by
  refine callsI_of (rs := [_]) hm Tryz.func213 (by kernel_rfl) (by kernel_rfl) is_world_validManifold_f1 (by kernel_rfl : tmpsOf Tryz.f213.results.toList = some [2]) (by decide) (by kernel_rfl) ?_
  simp only [c_world_validManifold_f1, go_sem, ite_andP, ite_orP, dec_true, dec_false]
  (repeat (with_reducible refine And.intro ?_ ?_; focus exact ob_))
  by_cases h1 : (decide (p.NormalImpulse < 0)) = false
  · first | rw [if_pos h1] | rw [if_pos (by simp_all)] | rw [if_pos (by omega)]
    (repeat (with_reducible refine And.intro ?_ ?_; focus exact ob_))
    refine CallGi_keep (s_world_saturated ([p.Point.X, p.Point.Y, p.Separation, p.ID, p.NormalImpulse, p.TangentImpulse]) (by (first | assumption | omega | (simp_all; done) | (simp_all; omega)))) rfl ?_ ?_
    · (try simp only [argsC, go_sem, ite_andP, ite_orP, dec_true, dec_false]); all_goals ((repeat' (with_reducible apply And.intro)) <;> first | with_reducible rfl | trivial | exact avle_lit2 (fun _ _ => rfl) rfl rfl rfl | exact avle_nilD rfl | exact avle_self _ | rfl)
    generalize hv1 : (d_world_saturated ([p.Point.X, p.Point.Y, p.Separation, p.ID, p.NormalImpulse, p.TangentImpulse])) = v1
    simp only [go_sem, ite_andP, ite_orP, dec_true, dec_false]
    (repeat (with_reducible refine And.intro ?_ ?_; focus exact ob_))
    have hd : d_world_validManifold_f1 p = ((decide (p.NormalImpulse < 0)) || (!v1)) := by first | with_reducible rfl | (unfold d_world_validManifold_f1; exact hd_)
    try rw [hd]
    try simp only [go_sem, ite_andP, ite_orP, dec_true, dec_false]
    all_goals exact fin_
  · first | rw [if_neg h1] | rw [if_neg (by simp_all)] | rw [if_neg (by omega)]
    (repeat (with_reducible refine And.intro ?_ ?_; focus exact ob_))
    have hd : d_world_validManifold_f1 p = true := by first | with_reducible rfl | (unfold d_world_validManifold_f1; exact hd_)
    try rw [hd]
    try simp only [go_sem, ite_andP, ite_orP, dec_true, dec_false]
    all_goals exact fin_

def d_world_validManifold (m : Manifold) : Bool := if (((decide ((m.Points.length : Int) < 1)) || (decide (2 < (m.Points.length : Int)))) || (((m.Points.length : Int) == 2) && ((m.Points.getD 0 default).ID == (m.Points.getD 1 default).ID))) = false then (let v1 := (d_world_saturated ([m.Normal.X, m.Normal.Y])); if ((((decide ((m.Points.length : Int) < 1)) || (decide (2 < (m.Points.length : Int)))) || (((m.Points.length : Int) == 2) && ((m.Points.getD 0 default).ID == (m.Points.getD 1 default).ID))) || (!v1)) = true then (false) else ((!(m.Points.any (fun x => (d_world_validManifold_f1 x)))))) else (false)
set_option maxHeartbeats 200000 in
theorem s_world_validManifold (m : Manifold) (hl : m.Points.length ≤ 1048576) : CallsA Tryz.prog F_world_validManifold [.agg m.enc] [] (.sc (.bool (d_world_validManifold m))) [] := by
  refine callsI_of (rs := [_]) hm Tryz.func142 (by kernel_rfl) (by kernel_rfl) is_world_validManifold (by kernel_rfl : tmpsOf Tryz.f142.results.toList = some [2]) (by decide) (by kernel_rfl) ?_
  simp only [c_world_validManifold, go_sem, ite_andP, ite_orP, dec_true, dec_false]
  (repeat (with_reducible refine And.intro ?_ ?_; focus exact ob_))
  by_cases h1 : (((decide ((m.Points.length : Int) < 1)) || (decide (2 < (m.Points.length : Int)))) || (((m.Points.length : Int) == 2) && ((m.Points.getD 0 default).ID == (m.Points.getD 1 default).ID))) = false
  · first | rw [if_pos h1] | rw [if_pos (by simp_all)] | rw [if_pos (by omega)]
    (repeat (with_reducible refine And.intro ?_ ?_; focus exact ob_))
    refine CallGi_keep (s_world_saturated ([m.Normal.X, m.Normal.Y]) (by (first | assumption | omega | (simp_all; done) | (simp_all; omega)))) rfl ?_ ?_
    · (try simp only [argsC, go_sem, ite_andP, ite_orP, dec_true, dec_false]); all_goals ((repeat' (with_reducible apply And.intro)) <;> first | with_reducible rfl | trivial | exact avle_lit2 (fun _ _ => rfl) rfl rfl rfl | exact avle_nilD rfl | exact avle_self _ | rfl)
    generalize hv1 : (d_world_saturated ([m.Normal.X, m.Normal.Y])) = v1
    simp only [go_sem, ite_andP, ite_orP, dec_true, dec_false]
    (repeat (with_reducible refine And.intro ?_ ?_; focus exact ob_))
    by_cases h2 : ((((decide ((m.Points.length : Int) < 1)) || (decide (2 < (m.Points.length : Int)))) || (((m.Points.length : Int) == 2) && ((m.Points.getD 0 default).ID == (m.Points.getD 1 default).ID))) || (!v1)) = true
    · first | rw [if_pos h2] | rw [if_pos (by simp_all)] | rw [if_pos (by omega)]
      (repeat (with_reducible refine And.intro ?_ ?_; focus exact ob_))
      have hd : d_world_validManifold m = false := by first | with_reducible rfl | (unfold d_world_validManifold; exact hd_)
      try rw [hd]
      try simp only [go_sem, ite_andP, ite_orP, dec_true, dec_false]
      all_goals exact fin_
    · first | rw [if_neg h2] | rw [if_neg (by simp_all)] | rw [if_neg (by omega)]
      (repeat (with_reducible refine And.intro ?_ ?_; focus exact ob_))
      refine CallGi_flat (s_slices_ContainsFunc_ContactPoint m.Points F_world_validManifold_f1 [] [] [] (fun x => (d_world_validManifold_f1 x)) (by (first | assumption | omega | (simp_all; done) | (simp_all; omega))) okO_nil (by simp [AV.ids, idsL]) (fun x _ => s_world_validManifold_f1 x)) rfl ?_
      simp only [go_sem, ite_andP, ite_orP, dec_true, dec_false]
      (repeat (with_reducible refine And.intro ?_ ?_; focus exact ob_))
      have hd : d_world_validManifold m = (!(m.Points.any (fun x => (d_world_validManifold_f1 x)))) := by first | with_reducible rfl | (unfold d_world_validManifold; exact hd_)
      try rw [hd]
      try simp only [go_sem, ite_andP, ite_orP, dec_true, dec_false]
      all_goals exact fin_
  · first | rw [if_neg h1] | rw [if_neg (by simp_all)] | rw [if_neg (by omega)]
    (repeat (with_reducible refine And.intro ?_ ?_; focus exact ob_))
    have hd : d_world_validManifold m = false := by first | with_reducible rfl | (unfold d_world_validManifold; exact hd_)
    try rw [hd]
    try simp only [go_sem, ite_andP, ite_orP, dec_true, dec_false]
    all_goals exact fin_

def d_r25_validPoints_L1 (m : Manifold) (i1 : Nat) (s1 : Unit) : (Unit) ⊕ (Bool) := let v4 := (d_r25_saturated (m.Points.getD i1 default).Point); let v5 := (d_r25_saturated (⟨(m.Points.getD i1 default).Separation, (m.Points.getD i1 default).ID⟩ : Vec)); if ((((!(inR (m.Points.getD i1 default).NormalImpulse 0 536870911)) || (!(inR (m.Points.getD i1 default).TangentImpulse (-536870911) 536870911))) || (!v4)) || (!v5)) = true then (.inr false) else (.inl ())
def d_r25_validPoints (m : Manifold) : Bool := let v1 := (d_r25_saturated m.Normal); if ((((decide ((m.Points.length : Int) < 1)) || (decide (2 < (m.Points.length : Int)))) || (((m.Points.length : Int) == 2) && ((m.Points.getD 0 default).ID == (m.Points.getD 1 default).ID))) || (!v1)) = true then (false) else ((match itrE (d_r25_validPoints_L1 m) m.Points.length () with | .inr r => r | .inl s1 => true))
set_option maxHeartbeats 200000 in
theorem s_r25_validPoints (m : Manifold) (hl : m.Points.length ≤ 1048576) : CallsA Tryz.prog F_r25_validPoints [.agg m.enc] [] (.sc (.bool (d_r25_validPoints m))) [] := by
  refine callsI_of (rs := [_]) hm Tryz.func236 (by kernel_rfl) (by kernel_rfl) is_r25_validPoints (by kernel_rfl : tmpsOf Tryz.f236.results.toList = some [2]) (by decide) (by kernel_rfl) ?_
  simp only [c_r25_validPoints, go_sem, ite_andP, ite_orP, dec_true, dec_false]
  (repeat (with_reducible refine And.intro ?_ ?_; focus exact ob_))
  refine CallGi_flat (s_r25_saturated m.Normal ) rfl ?_
  generalize hv1 : (d_r25_saturated m.Normal) = v1
  simp only [go_sem, ite_andP, ite_orP, dec_true, dec_false]
  (repeat (with_reducible refine And.intro ?_ ?_; focus exact ob_))
  by_cases h1 : ((((decide ((m.Points.length : Int) < 1)) || (decide (2 < (m.Points.length : Int)))) || (((m.Points.length : Int) == 2) && ((m.Points.getD 0 default).ID == (m.Points.getD 1 default).ID))) || (!v1)) = true
  · first | rw [if_pos h1] | rw [if_pos (by simp_all)] | rw [if_pos (by omega)]
    (repeat (with_reducible refine And.intro ?_ ?_; focus exact ob_))
    have hd : d_r25_validPoints m = false := by first | with_reducible rfl | (unfold d_r25_validPoints; exact hd_)
    try rw [hd]
    try simp only [go_sem, ite_andP, ite_orP, dec_true, dec_false]
    all_goals exact fin_
  · first | rw [if_neg h1] | rw [if_neg (by simp_all)] | rw [if_neg (by omega)]
    (repeat (with_reducible refine And.intro ?_ ?_; focus exact ob_))
    refine Wpi_loop hm (ι := {p : Nat × Unit // p.1 ≤ m.Points.length ∧ itrE (d_r25_validPoints_L1 m) p.1 () = .inl p.2}) (fun i => [(1, .share, .ptr 32 0 0 1), (3, .share, .sc (.int .i64 (m.Points.length : Int))), (4, .share, .sc (.int .i64 (i.1.1 : Int)))]) (fun i => [(32, .box [.sc (.int .i64 m.Normal.X), .sc (.int .i64 m.Normal.Y), encD 6 ContactPoint.enc default m.Points])]) (fun i => m.Points.length - i.1.1) ⟨(0, ()), by omega, rfl⟩ ?_ ?_
    · refine weakE_ [] [] ?_
      simp only [go_sem, ite_andP, ite_orP, dec_true, dec_false, itr_zero]
      all_goals exact fin_
    · rintro ⟨⟨i1, s1⟩, hi1, hs1⟩
      replace hi1 : i1 ≤ m.Points.length := hi1
      replace hs1 : itrE (d_r25_validPoints_L1 m) i1 () = .inl s1 := hs1
      simp only [c_r25_validPointsb0, go_sem, ite_andP, ite_orP, dec_true, dec_false]
      (repeat (with_reducible refine And.intro ?_ ?_; focus exact ob_))
      by_cases h2 : (i1 : Int) < (m.Points.length : Int)
      · first | rw [if_pos h2] | rw [if_pos (by simp_all)] | rw [if_pos (by omega)]
        have hlt1 : i1 < m.Points.length := by first | omega | (simp only [IntKind.wrap_i64] at h2; omega)
        (repeat (with_reducible refine And.intro ?_ ?_; focus exact ob_))
        refine CallGi_flat (s_r25_in (m.Points.getD i1 default).NormalImpulse 0 536870911 ) rfl ?_
        simp only [go_sem, ite_andP, ite_orP, dec_true, dec_false]
        (repeat (with_reducible refine And.intro ?_ ?_; focus exact ob_))
        refine CallGi_flat (s_r25_in (m.Points.getD i1 default).TangentImpulse (-536870911) 536870911 ) rfl ?_
        simp only [go_sem, ite_andP, ite_orP, dec_true, dec_false]
        (repeat (with_reducible refine And.intro ?_ ?_; focus exact ob_))
        refine CallGi_flat (s_r25_saturated (m.Points.getD i1 default).Point ) rfl ?_
        generalize hv4 : (d_r25_saturated (m.Points.getD i1 default).Point) = v4
        simp only [go_sem, ite_andP, ite_orP, dec_true, dec_false]
        (repeat (with_reducible refine And.intro ?_ ?_; focus exact ob_))
        refine CallGi_flat (s_r25_saturated (⟨(m.Points.getD i1 default).Separation, (m.Points.getD i1 default).ID⟩ : Vec) ) rfl ?_
        generalize hv5 : (d_r25_saturated (⟨(m.Points.getD i1 default).Separation, (m.Points.getD i1 default).ID⟩ : Vec)) = v5
        simp only [go_sem, ite_andP, ite_orP, dec_true, dec_false]
        (repeat (with_reducible refine And.intro ?_ ?_; focus exact ob_))
        by_cases h3 : ((((!(inR (m.Points.getD i1 default).NormalImpulse 0 536870911)) || (!(inR (m.Points.getD i1 default).TangentImpulse (-536870911) 536870911))) || (!v4)) || (!v5)) = true
        · first | rw [if_pos h3] | rw [if_pos (by simp_all)] | rw [if_pos (by omega)]
          (repeat (with_reducible refine And.intro ?_ ?_; focus exact ob_))
          have e1 : itrE (d_r25_validPoints_L1 m) (i1 + 1) () = .inr false := itrE_inl hs1 (by first | with_reducible rfl | (unfold d_r25_validPoints_L1; exact hd_))
          replace e1 := itrE_stop e1 (show i1 + 1 ≤ m.Points.length by omega)
          have hd : d_r25_validPoints m = false := by first | with_reducible rfl | (unfold d_r25_validPoints; exact hd_)
          try rw [hd]
          try simp only [go_sem, ite_andP, ite_orP, dec_true, dec_false]
          all_goals exact fin_
        · first | rw [if_neg h3] | rw [if_neg (by simp_all)] | rw [if_neg (by omega)]
          (repeat (with_reducible refine And.intro ?_ ?_; focus exact ob_))
          have hn : itrE (d_r25_validPoints_L1 m) (i1 + 1) () = .inl () := itrE_inl hs1 (by first | with_reducible rfl | (unfold d_r25_validPoints_L1; exact hd_))
          refine loop_next ⟨(i1 + 1, ()), by omega, hn⟩ (by show m.Points.length - (i1 + 1) < m.Points.length - i1; omega) (weakE_ [] [] ?_)
          simp only [go_sem, ite_andP, ite_orP, dec_true, dec_false]
          all_goals exact fin_
      · first | rw [if_neg h2] | rw [if_neg (by simp_all)] | rw [if_neg (by omega)]
        (repeat (with_reducible refine And.intro ?_ ?_; focus exact ob_))
        have hge : i1 = m.Points.length := by first | omega | (simp only [IntKind.wrap_i64] at h2; omega)
        subst hge
        have hd : d_r25_validPoints m = true := by first | with_reducible rfl | (unfold d_r25_validPoints; exact hd_)
        try rw [hd]
        try simp only [go_sem, ite_andP, ite_orP, dec_true, dec_false]
        all_goals exact fin_

def d_r25_Keys_L1 (l : List Contact) (i1 : Nat) (s1 : (List PairKey)) : (List PairKey) := (s1 ++ [(l.getD i1 default).Key])
def d_r25_Keys (l : List Contact) : (List PairKey) := let s1 := itr (d_r25_Keys_L1 l) l.length []; s1
set_option maxHeartbeats 200000 in
theorem s_r25_Keys (l : List Contact) (hl : l.length ≤ 1048576) : CallsA Tryz.prog F_r25_Keys [encD 7 Contact.enc default l] [] (encD 4 PairKey.enc default (d_r25_Keys l)) [] := by
  refine callsI_of (rs := [_]) hm Tryz.func233 (by kernel_rfl) (by kernel_rfl) is_r25_Keys (by kernel_rfl : tmpsOf Tryz.f233.results.toList = some [2]) (by decide) (by kernel_rfl) ?_
  simp only [c_r25_Keys, go_sem, ite_andP, ite_orP, dec_true, dec_false]
  (repeat (with_reducible refine And.intro ?_ ?_; focus exact ob_))
  refine Wpi_loop hm (ι := {i : Nat // i ≤ l.length}) (fun i => [(0, .share, encD 7 Contact.enc default l), (3, if i.1 = 0 then .adopt else .share, .sl 1003 0 (itr (d_r25_Keys_L1 l) i.1 []).length (itr (d_r25_Keys_L1 l) i.1 []).length), (4, .share, .sc (.int .i64 (i.1 : Int)))]) (fun i => [(1003, .arr 4 (encQ PairKey.enc default (itr (d_r25_Keys_L1 l) i.1 [])))]) (fun i => l.length - i.1) ⟨0, by omega⟩ ?_ ?_
  · refine weakE_ [] [1003] ?_
    simp only [go_sem, ite_andP, ite_orP, dec_true, dec_false, itr_zero]
    all_goals exact fin_
  · rintro ⟨i1, hi1⟩
    dsimp only
    generalize hs1 : itr (d_r25_Keys_L1 l) i1 [] = s1
    have hl1_0 : (s1).length ≤ (([] : (List PairKey))).length + 1 * i1 := by rw [← hs1]; exact itr_len (fun s : (List PairKey) => (s).length) 1 (fun i s => by (unfold d_r25_Keys_L1; (repeat' split) <;> simp <;> omega)) i1 _
    dsimp only [List.length_nil] at hl1_0
    simp only [c_r25_Keysb0, go_sem, ite_andP, ite_orP, dec_true, dec_false]
    (repeat (with_reducible refine And.intro ?_ ?_; focus exact ob_))
    by_cases h1 : (i1 : Int) < (l.length : Int)
    · first | rw [if_pos h1] | rw [if_pos (by simp_all)] | rw [if_pos (by omega)]
      have hlt1 : i1 < l.length := by first | omega | (simp only [IntKind.wrap_i64] at h1; omega)
      (repeat (with_reducible refine And.intro ?_ ?_; focus exact ob_))
      have hn : itr (d_r25_Keys_L1 l) (i1 + 1) [] = (s1 ++ [(l.getD i1 default).Key]) := by rw [itr_succ, hs1]; first | with_reducible rfl | (unfold d_r25_Keys_L1; exact hd_)
      refine loop_next ⟨i1 + 1, by omega⟩ (by show l.length - (i1 + 1) < l.length - i1; omega) (weakE_ [] [] ?_)
      simp only [go_sem, ite_andP, ite_orP, dec_true, dec_false, hn]
      all_goals ((try dsimp only); (repeat' (with_reducible apply And.intro)) <;> first | exact q_app1 ((l.getD i1 default).Key) rfl rfl | exact fin_)
    · first | rw [if_neg h1] | rw [if_neg (by simp_all)] | rw [if_neg (by omega)]
      (repeat (with_reducible refine And.intro ?_ ?_; focus exact ob_))
      have hge : i1 = l.length := by first | omega | (simp only [IntKind.wrap_i64] at h1; omega)
      subst hge
      have hd : d_r25_Keys l = s1 := by first | with_reducible rfl | (unfold d_r25_Keys; exact hd_)
      try rw [hd]
      try simp only [go_sem, ite_andP, ite_orP, dec_true, dec_false]
      all_goals exact fin_

theorem keys_eq (l : List Contact) : d_r25_Keys l = l.map fun c => c.Key := by
  unfold d_r25_Keys
  simp only
  rw [itr_foldl (f := d_r25_Keys_L1 l) (g := fun s c => s ++ [c.Key]) (l := l) default (fun i s _ => rfl)]
  have : ∀ (l : List Contact) (acc : List PairKey), l.foldl (fun s c => s ++ [c.Key]) acc = acc ++ l.map fun c => c.Key := by
    intro l
    induction l with
    | nil => simp
    | cons a l ih => intro acc; simp [ih]
  rw [this]; rfl
theorem keys_len (l : List Contact) : (d_r25_Keys l).length = l.length := by rw [keys_eq]; simp
theorem s_r25_FindBody (w : Api.World) (id : Int) (hw : w.Bodies.length ≤ 1048576) : CallsA Tryz.prog F_r25_FindBody [.agg w.enc, .sc (.int .i64 id)] [] (.sc (.int .i64 (findB w id))) [] := by
  refine callsI_of (rs := [_]) hm Tryz.func184 (by kernel_rfl) (by kernel_rfl) is_r25_FindBody (by kernel_rfl : tmpsOf Tryz.f184.results.toList = some [4]) (by decide) (by kernel_rfl) ?_
  simp only [c_r25_FindBody, go_sem]
  refine Wpi_loop hm (ι := {i : Nat // i ≤ w.Bodies.length ∧ ∀ j, j < i → ((w.Bodies.getD j default).ID == id) = false}) (fun i => [(1, .share, .sc (.int .i64 id)), (2, .share, .ptr 48 0 0 1), (5, .share, .sc (.int .i64 i.1))])
    (fun i => [(48, .box w.enc)]) (fun i => w.Bodies.length - i.1) ⟨0, by omega, fun j hj => by omega⟩ ?_ ?_
  · refine weakE_ [] [] ?_
    simp only [go_sem]
  · rintro ⟨i, hi, hs⟩
    simp only [c_r25_FindBodyb0, go_sem]
    split
    · rename_i hlt
      have hlt : i < w.Bodies.length := by omega
      refine ⟨ok_, ?_⟩
      cases hx : ((w.Bodies.getD i default).ID == id) with
      | true =>
        rw [if_pos rfl]
        exact (idxG_at hlt hs hx).symm
      | false =>
        rw [if_neg (by simp)]
        refine loop_next ⟨i + 1, by omega, fun j hj => by rcases Nat.lt_succ_iff_lt_or_eq.1 hj with h | rfl; exact hs j h; exact hx⟩ (by show w.Bodies.length - (i + 1) < w.Bodies.length - i; omega) (weakE_ [] [] ?_)
        simp only [go_sem]
        exact (by rw [IntKind.wrap_i64]; omega)
    · rename_i hge
      exact (idxG_none fun j hj => hs j (by omega)).symm
theorem findB_lt (w : Api.World) (id : Int) : -1 ≤ findB w id ∧ findB w id < (w.Bodies.length : Int) := idxG_lt

end Go.Abs
