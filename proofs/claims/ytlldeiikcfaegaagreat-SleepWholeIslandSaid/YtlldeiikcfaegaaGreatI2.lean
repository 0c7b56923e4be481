/- A part of the walk: contracts of functions that the statement reaches. -/
import Derived.Test.YtlldeiikcfaegaaGreatAbsC
import Derived.Test.YtlldeiikcfaegaaGreatI1
set_option linter.unusedSimpArgs false
set_option linter.unusedVariables false
set_option linter.unnecessarySimpa false
set_option maxRecDepth 100000
set_option maxHeartbeats 2000000
set_option linter.unusedSimpArgs false
set_option linter.unusedVariables false
namespace Go.Abs
open Go.Proofs
open Api
def kd (w : Api.World) (i : Nat) : Bool := (w.Bodies.getD i default).Kind == 3
/-- links lie between dynamic bodies alone -/
def DG (w : Api.World) (g : List Int) : Prop := ∀ i : Nat, i < g.length → g.getD i 0 ≠ (i : Int) → kd w i = true ∧ kd w (g.getD i 0).toNat = true
theorem root_dyn {w : Api.World} {g : List Int} (hg : UF g) (hd : DG w g) : ∀ (k : Nat) (i : Int), i.toNat ≤ k → 0 ≤ i → i < (g.length : Int) → kd w i.toNat = true → kd w (root g i).toNat = true
  | k, i, hk, h0, h1, hi => by
    obtain ⟨a, b⟩ := hg i.toNat (by omega)
    by_cases he : g.getD i.toNat 0 = i
    · rw [root_fix he]; exact hi
    · rw [← root_step hg h0 h1 he]
      obtain ⟨d1, d2⟩ := hd i.toNat (by omega) (by omega)
      cases k with
      | zero => omega
      | succ k => exact root_dyn hg hd k _ (by omega) a (by omega) d2
theorem dynB_kd {w : Api.World} {a : Int} (h : dynB w a = true) : kd w (findB w a).toNat = true := by
  unfold dynB at h; rw [Bool.and_eq_true] at h; exact h.2
theorem uni_dg {w : Api.World} {g : List Int} (hg : UF g) (hl : g.length = w.Bodies.length) (hd : DG w g) (a b : Int) : DG w (uni w g a b) := by
  unfold uni
  split
  · rename_i h
    rw [Bool.and_eq_true] at h
    obtain ⟨a0, a1⟩ := dyn_rng h.1
    obtain ⟨b0, b1⟩ := dyn_rng h.2
    obtain ⟨x0, x1, _⟩ := root_in hg a0 (by omega)
    obtain ⟨y0, y1, _⟩ := root_in hg b0 (by omega)
    have k1 := root_dyn hg hd _ _ (Nat.le_refl _) a0 (by omega) (dynB_kd h.1)
    have k2 := root_dyn hg hd _ _ (Nat.le_refl _) b0 (by omega) (dynB_kd h.2)
    generalize root g (findB w a) = x at *
    generalize root g (findB w b) = y at *
    have hmm : 0 ≤ imin x y ∧ imin x y ≤ imax x y ∧ imax x y < (g.length : Int) ∧ kd w (imax x y).toNat = true ∧ kd w (imin x y).toNat = true := by
      unfold imin imax; split <;> split <;> first | (refine ⟨by omega, by omega, by omega, ?_, ?_⟩ <;> assumption) | omega
    generalize imax x y = p at *
    generalize imin x y = q at *
    intro i hi hne
    rw [List.length_set] at hi
    rw [getD_set _ _ _ _ _ (by omega)] at hne ⊢
    by_cases he : i = p.toNat
    · rw [if_pos he] at hne ⊢
      subst he
      exact ⟨hmm.2.2.2.1, hmm.2.2.2.2⟩
    · rw [if_neg he] at hne ⊢
      exact hd i hi hne
  · exact hd
theorem idL_dg (w : Api.World) (n : Nat) : DG w (idL n) := fun i hi hne => by
  rw [idL_len] at hi
  exact absurd (idL_get hi) hne
theorem conC_dg (w : Api.World) : ∀ k, k ≤ w.Contacts.length → DG w (conC w k)
  | 0, _ => idL_dg w _
  | k + 1, h => by
    have ih := conC_uf w k (by omega)
    have : conC w (k + 1) = uC w (conC w k) (w.Contacts.getD k default) := by unfold conC; rw [take_snoc default (by omega), List.foldl_append]; rfl
    rw [this]
    exact uni_dg ih.1 ih.2 (conC_dg w k (by omega)) _ _
theorem conJ_dg (w : Api.World) : ∀ k, k ≤ w.Joints.length → DG w (conJ w k)
  | 0, _ => conC_dg w _ (Nat.le_refl _)
  | k + 1, h => by
    have ih := conJ_uf w k (by omega)
    have : conJ w (k + 1) = uJ w (conJ w k) (w.Joints.getD k default) := by unfold conJ; rw [take_snoc default (by omega), List.foldl_append]; rfl
    rw [this]
    exact uni_dg ih.1 ih.2 (conJ_dg w k (by omega)) _ _
theorem conn_dg (w : Api.World) : DG w (conn w) := conJ_dg w _ (Nat.le_refl _)

/-! numbers by key -/
def alook (nm : List (Int × Int)) (k : Int) : Int := match nm with
  | [] => 0
  | (a, v) :: r => if (k == a) = true then v else alook r k
def aput (nm : List (Int × Int)) (k v : Int) : List (Int × Int) := match nm with
  | [] => [(k, v)]
  | (a, u) :: r => if (k == a) = true then (a, v) :: r else (a, u) :: aput r k v
def nmE (nm : List (Int × Int)) : List (Int × AV) := nm.map fun p => (p.1, .sc (.int .i64 p.2))
theorem mget_nmE (k : Int) : ∀ nm : List (Int × Int), (mget (nmE nm) k).getD (.sc (.int .i64 0)) = .sc (.int .i64 (alook nm k))
  | [] => rfl
  | (a, v) :: r => by
    have ih := mget_nmE k r
    simp only [nmE, List.map_cons, mget, alook] at ih ⊢
    by_cases h : (k == a) = true
    · rw [if_pos h, if_pos h]; rfl
    · rw [if_neg h, if_neg h]; exact ih
theorem mput_nmE (k v : Int) : ∀ nm : List (Int × Int), mput (nmE nm) k (.sc (.int .i64 v)) = nmE (aput nm k v)
  | [] => rfl
  | (a, u) :: r => by
    have ih := mput_nmE k v r
    simp only [nmE, List.map_cons, mput, aput] at ih ⊢
    by_cases h : (k == a) = true
    · rw [if_pos h, if_pos h]; rfl
    · rw [if_neg h, if_neg h, ih]; rfl
theorem alook_aput (k v : Int) (j : Int) : ∀ nm : List (Int × Int), alook (aput nm k v) j = if j = k then v else alook nm j
  | [] => by simp [aput, alook]
  | (a, u) :: r => by
    have ih := alook_aput k v j r
    simp only [aput]
    by_cases h : (k == a) = true
    · rw [if_pos h]
      have h : k = a := by simpa using h
      subst h
      simp only [alook, beq_iff_eq]
      split <;> rfl
    · rw [if_neg h]
      have h : k ≠ a := by simpa using h
      simp only [alook, beq_iff_eq, ih]
      by_cases hj : j = a
      · subst hj; rw [if_pos rfl, if_neg (fun e => h e.symm)]; simp
      · rw [if_neg hj, if_neg hj]
theorem q_lit {α : Type} {z n : Nat} {enc : α → List AV} {d : α} {l : List α} {cells : List AV} {ρ : Nat → Nat} (hz : ∀ a ∈ l, (enc a).length = z) (hc : cells = l.flatMap enc) (hn : n = l.length) :
    objLeC ρ (.arr z ⟨n, fun i => (cells.drop (i * z)).take z⟩) (.arr z (encQ enc d l)) := by
  subst hc; subst hn
  refine ⟨rfl, rfl, fun i hi => ?_⟩
  simp only [encQ_g, encAt_app, flatMap_at (d := d) hz hi]
  exact avleL_refl _
/-- the number of the island of a pair of bodies -/
def isl2 (w : Api.World) (g : List Int) (a b : Int) : Option Int := if dynB w a = true then some (root g (findB w a)) else if dynB w b = true then some (root g (findB w b)) else none
def isOf (w : Api.World) (g : List Int) (nm : List (Int × Int)) (a b : Int) : Int × Bool := match isl2 w g a b with
  | some k => (alook nm k, true)
  | none => (0, false)
theorem s_islandOf (w : Api.World) (g : List Int) (nm : List (Int × Int)) (a b : Int) (hg : UF g) (hl : g.length = w.Bodies.length) (hw : w.Bodies.length ≤ 1048576) :
    CallsA Tryz.prog F_island_partition_islandOf [encD 1 encInt 0 g, .agg w.enc, .mp 384, .sc (.int .i64 a), .sc (.int .i64 b)] [(384, .map .i64 (nmE nm))] (.tup [.sc (.int .i64 (isOf w g nm a b).1), .sc (.bool (isOf w g nm a b).2)]) [(384, .map .i64 (nmE nm))] := by
  refine callsIO_of (rs := [_, _]) hm Tryz.func90 (by kernel_rfl) (by kernel_rfl) is_island_partition_islandOf (by kernel_rfl : tmpsOf Tryz.f90.results.toList = some [10, 11]) (by decide) (by kernel_rfl) ?_
  simp only [c_island_partition_islandOf, go_sem, ite_andP, ite_orP, dec_true, dec_false]
  refine Wpi_loop hm (ι := {i : Nat // i ≤ 2 ∧ (0 < i → dynB w a = false) ∧ (1 < i → dynB w b = false)}) (fun i => [(0, .share, encD 1 encInt 0 g), (2, .share, .mp 384), (6, .share, .ptr 112 0 0 1), (18, .share, .sl 8 0 2 2), (19, .share, .sc (.int .i64 2)), (20, .share, .sc (.int .i64 i.1))])
    (fun _ => [(384, .map .i64 (nmE nm)), (112, .box w.enc), (8, .arr 1 (encQ encInt 0 [a, b]))]) (fun i => 2 - i.1) ⟨0, by omega, by omega, by omega⟩ ?_ ?_
  · refine weakE_ [(8, 304)] [] ?_
    simp only [go_sem, ite_andP, ite_orP, dec_true, dec_false]
    exact ⟨rfl, rfl, q_lit (fun _ _ => rfl) rfl rfl⟩
  · rintro ⟨i, hi, h0, h1⟩
    simp only [c_island_partition_islandOfb0, go_sem, ite_andP, ite_orP, dec_true, dec_false]
    by_cases hlt : (i : Int) < 2
    · rw [if_pos hlt]
      refine ⟨by omega, ?_⟩
      refine CallGi_flat (s_island_dynamic w ([a, b].getD i 0) hw) rfl ?_
      simp only [go_sem, ite_andP, ite_orP, dec_true, dec_false]
      cases hd : dynB w ([a, b].getD i 0) with
      | true =>
        obtain ⟨d0, d1⟩ := dyn_rng hd
        rw [if_pos rfl]
        refine CallGi_flat (s_root_data g (findB w ([a, b].getD i 0)) hg d0 (by omega)) rfl ?_
        simp only [go_sem, ite_andP, ite_orP, dec_true, dec_false]
        have z0 : zeroAV (.int .i64 0) = .sc (.int .i64 0) := rfl
        simp only [z0, mget_nmE]
        have e : isOf w g nm a b = (alook nm (root g (findB w ([a, b].getD i 0))), true) := by
          unfold isOf isl2
          rcases Nat.lt_or_ge 0 i with h | h
          · obtain rfl : i = 1 := by omega
            rw [h0 h]
            have hd : dynB w b = true := hd
            rw [hd]; rfl
          · obtain rfl : i = 0 := by omega
            have hd : dynB w a = true := hd
            rw [hd]; rfl
        refine retW_of [.share, .share] [] [] rfl rfl (by simp [go_sem]) (by simp [assoc, go_sem]) (by simp [go_sem]) ?_
        simp only [go_sem, e]
        try exact rfl
      | false =>
        rw [if_neg (by simp)]
        refine loop_next ⟨i + 1, by omega, fun _ => ?_, fun _ => ?_⟩ (by show 2 - (i + 1) < 2 - i; omega) (weakE_ [] [] ?_)
        · rcases Nat.lt_or_ge 0 i with h | h
          · exact h0 h
          · obtain rfl : i = 0 := by omega
            exact hd
        · obtain rfl : i = 1 := by omega
          exact hd
        simp only [go_sem]
        exact ⟨(by rw [IntKind.wrap_i64]; omega), rfl⟩
    · rw [if_neg hlt]
      obtain rfl : i = 2 := by omega
      have e : isOf w g nm a b = (0, false) := by unfold isOf isl2; rw [h0 (by omega), h1 (by omega)]; rfl
      refine retW_of [.share, .share] [] [] rfl rfl (by simp [go_sem]) (by simp [assoc, go_sem]) (by simp [go_sem]) ?_
      simp only [go_sem, e]
      try exact rfl

end Go.Abs
