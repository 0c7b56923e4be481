/- A part of the walk: contracts of functions that the statement reaches. -/
import Derived.Test.YtlldeiikcfaegaaGreatAbsC
import Derived.Test.YtlldeiikcfaegaaGreatI9
set_option linter.unusedSimpArgs false
set_option linter.unusedVariables false
set_option linter.unnecessarySimpa false
set_option maxRecDepth 100000
set_option maxHeartbeats 2000000
set_option linter.unusedSimpArgs false
set_option linter.unusedVariables false
namespace Go.Abs
open Go.Proofs
open Api
theorem settings_eq (s : Settings) : d_world_ValidateSettings s = d_r25_ValidateSettings s := by
  unfold d_world_ValidateSettings d_r25_ValidateSettings
  cases inR s.TimeStep 64 8192 <;> cases inR s.Gravity.X (-16777216) 16777216 <;> cases inR s.Gravity.Y (-16777216) 16777216 <;> cases inR s.Iterations 1 32 <;> cases inR s.SleepSteps 0 1048576 <;> rfl
theorem bounded_16 (v : Vec) : d_body_bounded v 16777216 = (inR v.X (-16777216) 16777216 && inR v.Y (-16777216) 16777216) := rfl
theorem bounded_29 (v : Vec) : d_body_bounded v 536870911 = (inR v.X (-536870911) 536870911 && inR v.Y (-536870911) 536870911) := rfl
theorem inRange_eq (b : Body) : d_body_inRange b = d_r23_inRange b := by
  unfold d_body_inRange d_r23_inRange
  simp only [bounded_16, bounded_29]
  generalize d_transform_Valid b.Transform = t
  cases t <;> simp <;> grind
theorem count_eq (s : Shape) (h : ¬ (s.Kind < 1 ∨ 3 < s.Kind)) : d_shape_validCount s = d_r12_countMatches s := by
  unfold d_shape_validCount d_r12_countMatches
  rw [Bool.eq_iff_iff]
  simp
  try grind
theorem limits_eq (s : Shape) : (s.Vertices.any fun x => d_shape_Validate_f1 x) = s.Vertices.any fun v => (!(inR v.X (-1048576) 1048576)) || (!(inR v.Y (-1048576) 1048576)) := by
  congr 1
  funext v
  unfold d_shape_Validate_f1 d_shape_outOfRange inR
  rw [Bool.eq_iff_iff]
  simp
  try grind
theorem reach_all (vs : List Vec) : itrE (d_polygon_allInReach_L1 vs) vs.length () = if vs.any (fun v => !(reachB v)) = true then .inr false else .inl () := by
  rw [itrE_all (r := false) (p := fun i => !(reachB (vs.getD i default))) (fun i => by simp only [d_polygon_allInReach_L1]; cases reachB (vs.getD i default) <;> rfl), range_any (p := fun v : Vec => !(reachB v))]
theorem reach_all' (vs : List Vec) : itrE (d_r11_IsConvex_L1 vs) vs.length () = if vs.any (fun v => !(reachB v)) = true then .inr false else .inl () := reach_all vs
theorem convex_eq (vs : List Vec) : d_polygon_IsConvex vs = d_r11_IsConvex vs := by
  unfold d_polygon_IsConvex d_r11_IsConvex d_polygon_allInReach
  rw [reach_all, reach_all']
  have hL : d_polygon_IsConvex_L1 vs = d_r11_IsConvex_L2 vs := rfl
  rw [hL]
  cases (vs.any fun v => !(reachB v)) <;> cases (decide ((vs.length : Int) < 3)) <;> cases (decide (8 < (vs.length : Int))) <;> rfl
theorem lenV_nonneg (v : Vec) : 0 ≤ lenV v := by
  unfold lenV isq
  split
  · exact Int.le_refl _
  · exact Int.natCast_nonneg _
theorem fan_snd (vs : List Vec) : ∀ n, (itr (d_polygon_fan_L1 vs) n ([], 0)).2 = itr (d_r11_Area_L1 vs) n 0
  | 0 => rfl
  | n + 1 => by
    rw [itr_succ, itr_succ, ← fan_snd vs n]
    simp only [d_polygon_fan_L1, d_r11_Area_L1, d_r11_cross, Int.toNat_natCast]
theorem area_eq (vs : List Vec) : d_polygon_Area vs = d_r11_Area vs := by
  unfold d_polygon_Area d_r11_Area
  simp only [convex_eq, d_polygon_fan, fan_snd]
theorem edge_rel (vs : List Vec) : ∀ n, itr (d_polygon_ShortestEdge_L1 vs) (n + 1) 536870911 = min 536870911 (itr (d_r11_ShortestEdge_L1 vs) (n + 1) (-1)) ∧ 0 ≤ itr (d_r11_ShortestEdge_L1 vs) (n + 1) (-1)
  | 0 => by
    have h := lenV_nonneg (subV (vs.getD (((IntKind.i64.wrap (((0 : Nat) : Int) + 1)).tmod (vs.length : Int)).toNat) default) (vs.getD 0 default))
    simp only [itr_succ, itr_zero, d_polygon_ShortestEdge_L1, d_r11_ShortestEdge_L1]
    generalize lenV (subV (vs.getD (((IntKind.i64.wrap (((0 : Nat) : Int) + 1)).tmod (vs.length : Int)).toNat) default) (vs.getD 0 default)) = e at h ⊢
    simp
    refine ⟨?_, h⟩
    grind
  | n + 1 => by
    obtain ⟨h1, h2⟩ := edge_rel vs n
    rw [itr_succ, itr_succ (d_r11_ShortestEdge_L1 vs), h1]
    generalize itr (d_r11_ShortestEdge_L1 vs) (n + 1) (-1) = r at h2 ⊢
    have h := lenV_nonneg (subV (vs.getD (((IntKind.i64.wrap (((n + 1 : Nat) : Int) + 1)).tmod (vs.length : Int)).toNat) default) (vs.getD (n + 1) default))
    simp only [d_polygon_ShortestEdge_L1, d_r11_ShortestEdge_L1]
    generalize lenV (subV (vs.getD (((IntKind.i64.wrap (((n + 1 : Nat) : Int) + 1)).tmod (vs.length : Int)).toNat) default) (vs.getD (n + 1) default)) = e at h ⊢
    have hr : ¬ r < 0 := by omega
    simp [hr]
    constructor
    · grind
    · grind
theorem edge_lt (vs : List Vec) : decide (d_polygon_ShortestEdge vs < 4096) = decide (d_r11_ShortestEdge vs < 4096) := by
  unfold d_polygon_ShortestEdge d_r11_ShortestEdge
  simp only [convex_eq]
  by_cases hc : d_r11_IsConvex vs = false
  · rw [if_pos hc, if_pos hc]
  · rw [if_neg hc, if_neg hc]
    cases hn : vs.length with
    | zero =>
      exfalso; apply hc
      unfold d_r11_IsConvex; rw [hn]; rfl
    | succ n =>
      obtain ⟨h1, h2⟩ := edge_rel vs n
      rw [h1, decide_eq_decide]; omega
theorem limits_loop (s : Shape) : itrE (d_r12_Validate_L1 s) s.Vertices.length () = if (s.Vertices.any fun v => (!(inR v.X (-1048576) 1048576)) || (!(inR v.Y (-1048576) 1048576))) = true then .inr 6 else .inl () := by
  rw [itrE_all (r := (6 : Int)) (p := fun i => (!(inR (s.Vertices.getD i default).X (-1048576) 1048576)) || (!(inR (s.Vertices.getD i default).Y (-1048576) 1048576))) (fun i => rfl), range_any (p := fun v : Vec => (!(inR v.X (-1048576) 1048576)) || (!(inR v.Y (-1048576) 1048576)))]
theorem shape_eq (s : Shape) : d_shape_Validate s = d_r12_Validate s := by
  unfold d_shape_Validate d_r12_Validate
  simp only [limits_eq, limits_loop, convex_eq, area_eq, edge_lt]
  by_cases hk : ((decide (s.Kind < 1)) || (decide (3 < s.Kind))) = true
  · rw [if_pos hk, if_pos hk]
  · rw [if_neg hk, if_neg hk, count_eq s (by simpa using hk)]
    split
    · rfl
    · by_cases ha : (s.Vertices.any fun v => (!(inR v.X (-1048576) 1048576)) || (!(inR v.Y (-1048576) 1048576))) = true
      · rw [if_pos ha, if_pos ha]
      · rw [if_neg ha, if_neg ha]
        simp only []
        cases (s.Kind == 3) <;> cases (s.Radius != 0) <;> simp
theorem fixture_eq (f : Fixture) : d_body_ValidateFixture f = d_r23_ValidateFixture f := by
  unfold d_body_ValidateFixture d_r23_ValidateFixture
  simp only [shape_eq]
  split
  · rfl
  · generalize inR f.Density 0 262144 = a
    generalize inR f.Friction 0 131072 = b
    generalize inR f.Restitution 0 65536 = c
    generalize inR f.Category 0 65535 = d
    generalize inR f.Mask 0 65535 = e
    generalize inR f.Group (-32) 32 = g
    cases a <;> cases b <;> cases c <;> cases d <;> cases e <;> cases g <;> rfl
theorem body_eq (b : Body) : d_body_Validate b = d_r23_Validate b := by
  unfold d_body_Validate d_r23_Validate
  have hL : d_body_Validate_L1 b = d_r23_Validate_L1 b := by funext i s; simp only [d_body_Validate_L1, d_r23_Validate_L1, fixture_eq]
  simp only [inRange_eq, hL]
  split
  · rfl
  split
  · rfl
  split
  · rfl
  cases itrE (d_r23_Validate_L1 b) b.Fixtures.length () with
  | inr r => rfl
  | inl s =>
    simp only [d_body_consistent, d_body_moving]
    grind

end Go.Abs
