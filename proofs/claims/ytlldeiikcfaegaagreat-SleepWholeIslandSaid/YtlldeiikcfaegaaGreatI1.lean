/- A part of the walk: contracts of functions that the statement reaches. -/
import Derived.Test.YtlldeiikcfaegaaGreatAbsC
import Derived.Test.YtlldeiikcfaegaaGreatT7
import Derived.Test.YtlldeiikcfaegaaGreatS5
set_option linter.unusedSimpArgs false
set_option linter.unusedVariables false
set_option linter.unnecessarySimpa false
set_option maxRecDepth 100000
set_option maxHeartbeats 2000000
set_option linter.unusedSimpArgs false
set_option linter.unusedVariables false
namespace Go.Abs
open Go.Proofs
open Api
def dynB (w : Api.World) (id : Int) : Bool := decide (0 ≤ findB w id) && ((w.Bodies.getD (findB w id).toNat default).Kind == 3)
theorem s_island_dynamic (w : Api.World) (id : Int) (hw : w.Bodies.length ≤ 1048576) : CallsA Tryz.prog F_island_dynamic [.agg w.enc, .sc (.int .i64 id)] [] (.tup [.sc (.int .i64 (findB w id)), .sc (.bool (dynB w id))]) [] := by
  have hf := findB_lt w id
  refine callsI_of (rs := [_, _]) hm Tryz.func177 (by kernel_rfl) (by kernel_rfl) is_island_dynamic (by kernel_rfl : tmpsOf Tryz.f177.results.toList = some [4, 5]) (by decide) (by kernel_rfl) ?_
  simp only [c_island_dynamic, go_sem, ite_andP, ite_orP, dec_true, dec_false]
  refine CallGi_flat (s_world_FindBody w id hw) rfl ?_
  simp only [go_sem, ite_andP, ite_orP, dec_true, dec_false]
  refine ⟨fun h => ok_, ?_⟩
  rfl
/-- the root of i, in at most so many steps -/
def rt (g : List Int) : Nat → Int → Int
  | 0, i => i
  | k + 1, i => if g.getD i.toNat 0 = i then i else rt g k (g.getD i.toNat 0)
def root (g : List Int) (i : Int) : Int := rt g i.toNat i
def UF (g : List Int) : Prop := ∀ i : Nat, i < g.length → 0 ≤ g.getD i 0 ∧ g.getD i 0 ≤ (i : Int)
theorem rt_fix {g : List Int} {i : Int} (h : g.getD i.toNat 0 = i) : ∀ k, rt g k i = i
  | 0 => rfl
  | k + 1 => by rw [rt, if_pos h]
theorem rt_more {g : List Int} (hg : UF g) : ∀ (k : Nat) (i : Int), 0 ≤ i → i < (g.length : Int) → i.toNat ≤ k → rt g k i = root g i
  | 0, i, h0, h1, hk => by unfold root; rw [show i.toNat = 0 by omega]
  | k + 1, i, h0, h1, hk => by
    obtain ⟨a, b⟩ := hg i.toNat (by omega)
    unfold root
    by_cases he : g.getD i.toNat 0 = i
    · rw [rt_fix he, rt_fix he]
    · cases hn : i.toNat with
      | zero => rw [hn] at a b he; omega
      | succ n =>
        have hj : g.getD (n + 1) 0 ≠ i := by rw [hn] at he; exact he
        rw [hn] at a b
        rw [rt, rt, hn, if_neg hj, if_neg hj, rt_more hg k _ a (by omega) (by omega), rt_more hg n _ a (by omega) (by omega)]
theorem root_step {g : List Int} (hg : UF g) {i : Int} (h0 : 0 ≤ i) (h1 : i < (g.length : Int)) (hn : g.getD i.toNat 0 ≠ i) : root g (g.getD i.toNat 0) = root g i := by
  obtain ⟨a, b⟩ := hg i.toNat (by omega)
  have : root g i = rt g (i.toNat + 1) i := (rt_more hg (i.toNat + 1) i h0 h1 (by omega)).symm
  rw [this, rt, if_neg hn, rt_more hg _ _ a (by omega) (by omega)]
theorem root_fix {g : List Int} {i : Int} (h : g.getD i.toNat 0 = i) : root g i = i := rt_fix h _
theorem root_rng {g : List Int} (hg : UF g) : ∀ (k : Nat) (i : Int), i.toNat ≤ k → 0 ≤ i → i < (g.length : Int) → 0 ≤ root g i ∧ root g i ≤ i ∧ g.getD (root g i).toNat 0 = root g i
  | k, i, hk, h0, h1 => by
    obtain ⟨a, b⟩ := hg i.toNat (by omega)
    by_cases he : g.getD i.toNat 0 = i
    · rw [root_fix he]; exact ⟨h0, Int.le_refl _, he⟩
    · rw [← root_step hg h0 h1 he]
      cases k with
      | zero => omega
      | succ k =>
        have := root_rng hg k (g.getD i.toNat 0) (by omega) a (by omega)
        exact ⟨this.1, by omega, this.2.2⟩
theorem root_in {g : List Int} (hg : UF g) {i : Int} (h0 : 0 ≤ i) (h1 : i < (g.length : Int)) : 0 ≤ root g i ∧ root g i ≤ i ∧ g.getD (root g i).toNat 0 = root g i := root_rng hg _ i (Nat.le_refl _) h0 h1
theorem s_root_own (g : List Int) (i : Int) (hg : UF g) (h0 : 0 ≤ i) (h1 : i < (g.length : Int)) : CallsA Tryz.prog F_island_partition_root [.sl 1 0 g.length g.length, .sc (.int .i64 i)] [(1, .arr 1 (encQ encInt 0 g))] (.sc (.int .i64 (root g i))) [(1, .arr 1 (encQ encInt 0 g))] := by
  refine callsIO_of (rs := [_]) hm Tryz.func89 (by kernel_rfl) (by kernel_rfl) is_island_partition_root (by kernel_rfl : tmpsOf Tryz.f89.results.toList = some [4]) (by decide) (by kernel_rfl) ?_
  simp only [c_island_partition_root, go_sem, ite_andP, ite_orP, dec_true, dec_false]
  refine Wpi_loop hm (ι := {j : Int // 0 ≤ j ∧ j < (g.length : Int) ∧ root g j = root g i}) (fun j => [(0, .share, .sl 1 0 g.length g.length), (1, .share, .sc (.int .i64 j.1))])
    (fun _ => [(1, .arr 1 (encQ encInt 0 g))]) (fun j => j.1.toNat) ⟨i, h0, h1, rfl⟩ ?_ ?_
  · refine weakE_ [] [] ?_
    simp only [go_sem]
  · rintro ⟨j, hj0, hj1, hj⟩
    obtain ⟨a, b⟩ := hg j.toNat (by omega)
    simp only [c_island_partition_rootb0, go_sem, ite_andP, ite_orP, dec_true, dec_false]
    refine ⟨ok_, ?_⟩
    by_cases he : g.getD j.toNat 0 = j
    · rw [if_neg (by rw [he]; simp)]
      refine retW_of [.share] [] [] rfl rfl (by simp [go_sem]) (by simp [assoc, go_sem]) (by simp [go_sem]) ?_
      simp only [go_sem]
      rw [← hj, root_fix he]
    · rw [if_pos (by simpa using he)]
      refine ⟨ok_, ?_⟩
      refine loop_next ⟨g.getD j.toNat 0, a, by omega, by rw [root_step hg hj0 hj1 he, hj]⟩ (by show (g.getD j.toNat 0).toNat < j.toNat; omega) (weakE_ [] [] ?_)
      simp only [go_sem]
theorem s_root_data (g : List Int) (i : Int) (hg : UF g) (h0 : 0 ≤ i) (h1 : i < (g.length : Int)) : CallsA Tryz.prog F_island_partition_root [encD 1 encInt 0 g, .sc (.int .i64 i)] [] (.sc (.int .i64 (root g i))) [] := by
  refine callsI_of (rs := [_]) hm Tryz.func89 (by kernel_rfl) (by kernel_rfl) is_island_partition_root (by kernel_rfl : tmpsOf Tryz.f89.results.toList = some [4]) (by decide) (by kernel_rfl) ?_
  simp only [c_island_partition_root, go_sem, ite_andP, ite_orP, dec_true, dec_false]
  refine Wpi_loop hm (ι := {j : Int // 0 ≤ j ∧ j < (g.length : Int) ∧ root g j = root g i}) (fun j => [(0, .share, encD 1 encInt 0 g), (1, .share, .sc (.int .i64 j.1))])
    (fun _ => []) (fun j => j.1.toNat) ⟨i, h0, h1, rfl⟩ ?_ ?_
  · refine weakE_ [] [] ?_
    simp only [go_sem]
  · rintro ⟨j, hj0, hj1, hj⟩
    obtain ⟨a, b⟩ := hg j.toNat (by omega)
    simp only [c_island_partition_rootb0, go_sem, ite_andP, ite_orP, dec_true, dec_false]
    refine ⟨ok_, ?_⟩
    by_cases he : g.getD j.toNat 0 = j
    · rw [if_neg (by rw [he]; simp)]
      rw [← hj, root_fix he]
    · rw [if_pos (by simpa using he)]
      refine ⟨ok_, ?_⟩
      refine loop_next ⟨g.getD j.toNat 0, a, by omega, by rw [root_step hg hj0 hj1 he, hj]⟩ (by show (g.getD j.toNat 0).toNat < j.toNat; omega) (weakE_ [] [] ?_)
      simp only [go_sem]
def imax (a b : Int) : Int := if a < b then b else a
def imin (a b : Int) : Int := if b < a then b else a
def uni (w : Api.World) (g : List Int) (a b : Int) : List Int :=
  if (dynB w a && dynB w b) = true then g.set (imax (root g (findB w a)) (root g (findB w b))).toNat (imin (root g (findB w a)) (root g (findB w b))) else g
theorem uni_len (w : Api.World) (g : List Int) (a b : Int) : (uni w g a b).length = g.length := by unfold uni; split <;> simp
theorem dyn_rng {w : Api.World} {a : Int} (h : dynB w a = true) : 0 ≤ findB w a ∧ findB w a < (w.Bodies.length : Int) := by
  unfold dynB at h
  simp only [Bool.and_eq_true, decide_eq_true_eq] at h
  exact ⟨h.1, (findB_lt w a).2⟩
theorem uni_uf {w : Api.World} {g : List Int} (hg : UF g) (hl : g.length = w.Bodies.length) (a b : Int) : UF (uni w g a b) := by
  unfold uni
  split
  · rename_i h
    rw [Bool.and_eq_true] at h
    obtain ⟨a0, a1⟩ := dyn_rng h.1
    obtain ⟨b0, b1⟩ := dyn_rng h.2
    obtain ⟨x0, x1, _⟩ := root_in hg a0 (by omega)
    obtain ⟨y0, y1, _⟩ := root_in hg b0 (by omega)
    intro i hi
    rw [List.length_set] at hi
    generalize root g (findB w a) = x at *
    generalize root g (findB w b) = y at *
    have hmm : 0 ≤ imin x y ∧ imin x y ≤ imax x y ∧ imax x y < (g.length : Int) := by unfold imin imax; split <;> split <;> omega
    generalize imax x y = p at *
    generalize imin x y = q at *
    rw [getD_set _ _ _ _ _ (by omega)]
    split
    · rename_i he
      subst he
      omega
    · exact hg i hi
  · exact hg
theorem s_union (w : Api.World) (g : List Int) (a b : Int) (hg : UF g) (hl : g.length = w.Bodies.length) (hw : w.Bodies.length ≤ 1048576) :
    CallsA Tryz.prog F_island_partition_union [.sl 1 0 g.length g.length, .agg w.enc, .sc (.int .i64 a), .sc (.int .i64 b)] [(1, .arr 1 (encQ encInt 0 g))] (.tup []) [(1, .arr 1 (encQ encInt 0 (uni w g a b)))] := by
  refine callsIO_of (rs := []) hm Tryz.func176 (by kernel_rfl) (by kernel_rfl) is_island_partition_union (by kernel_rfl : tmpsOf Tryz.f176.results.toList = some []) (by decide) (by kernel_rfl) ?_
  simp only [c_island_partition_union, go_sem, ite_andP, ite_orP, dec_true, dec_false]
  refine CallGi_flat (s_island_dynamic w a hw) rfl ?_
  simp only [go_sem, ite_andP, ite_orP, dec_true, dec_false]
  refine CallGi_flat (s_island_dynamic w b hw) rfl ?_
  simp only [go_sem, ite_andP, ite_orP, dec_true, dec_false]
  cases hd : (dynB w a && dynB w b) with
  | false =>
    have hu : uni w g a b = g := by unfold uni; rw [if_neg (by rw [hd]; simp)]
    rw [if_neg (by simp)]
    refine retW_of [] [] [] rfl rfl (by simp [go_sem]) (by simp [assoc, go_sem]) (by simp [go_sem]) ?_
    simp only [go_sem, hu]
  | true =>
    have hu : uni w g a b = g.set (imax (root g (findB w a)) (root g (findB w b))).toNat (imin (root g (findB w a)) (root g (findB w b))) := by unfold uni; rw [if_pos hd]
    rw [if_pos rfl]
    rw [Bool.and_eq_true] at hd
    obtain ⟨a0, a1⟩ := dyn_rng hd.1
    obtain ⟨b0, b1⟩ := dyn_rng hd.2
    obtain ⟨x0, x1, _⟩ := root_in hg a0 (by omega)
    obtain ⟨y0, y1, _⟩ := root_in hg b0 (by omega)
    refine CallGi_subw (s_root_own g (findB w a) hg a0 (by omega)) (by refine ⟨by simp, ?_⟩; simp) rfl (by simp [go_sem]) (by simp [go_sem, AV.ids]) rfl ?_
    simp only [go_sem, ite_andP, ite_orP, dec_true, dec_false]
    refine CallGi_subw (s_root_own g (findB w b) hg b0 (by omega)) (by refine ⟨by simp, ?_⟩; simp) rfl (by simp [go_sem]) (by simp [go_sem, AV.ids]) rfl ?_
    simp only [go_sem, ite_andP, ite_orP, dec_true, dec_false]
    have hmx : 0 ≤ imax (root g (findB w a)) (root g (findB w b)) ∧ imax (root g (findB w a)) (root g (findB w b)) < (g.length : Int) := by unfold imax; split <;> omega
    have e1 : (if root g (findB w a) < root g (findB w b) then root g (findB w b) else root g (findB w a)) = imax (root g (findB w a)) (root g (findB w b)) := rfl
    have e2 : (if root g (findB w b) < root g (findB w a) then root g (findB w b) else root g (findB w a)) = imin (root g (findB w a)) (root g (findB w b)) := rfl
    simp only [e1, e2]
    refine ⟨⟨hmx.1, hmx.2⟩, ?_⟩
    refine retW_of [] [] [] rfl rfl (by simp [go_sem]) (by simp [assoc, go_sem]) (by simp [go_sem]) ?_
    simp only [go_sem, hu, List.length_set]
    exact q_set (imin (root g (findB w a)) (root g (findB w b))) (by omega) rfl rfl

def idL (n : Nat) : List Int := (List.range n).map fun (i : Nat) => (i : Int)
theorem idL_len (n : Nat) : (idL n).length = n := by simp [idL]
theorem idL_get {n i : Nat} (h : i < n) : (idL n).getD i 0 = i := by simp [idL, List.getD, h]
theorem idL_uf (n : Nat) : UF (idL n) := fun i hi => by
  rw [idL_len] at hi
  rw [idL_get hi]; omega
def uC (w : Api.World) (g : List Int) (c : Contact) : List Int := uni w g c.Key.BodyA c.Key.BodyB
def uJ (w : Api.World) (g : List Int) (j : Joint) : List Int := uni w g j.BodyA j.BodyB
def conC (w : Api.World) (k : Nat) : List Int := (w.Contacts.take k).foldl (uC w) (idL w.Bodies.length)
def conJ (w : Api.World) (k : Nat) : List Int := (w.Joints.take k).foldl (uJ w) (conC w w.Contacts.length)
def conn (w : Api.World) : List Int := conJ w w.Joints.length
def UFn (w : Api.World) (g : List Int) : Prop := UF g ∧ g.length = w.Bodies.length
theorem conC_uf (w : Api.World) : ∀ k, k ≤ w.Contacts.length → UFn w (conC w k)
  | 0, _ => ⟨idL_uf _, idL_len _⟩
  | k + 1, h => by
    have ih := conC_uf w k (by omega)
    have : conC w (k + 1) = uC w (conC w k) (w.Contacts.getD k default) := by unfold conC; rw [take_snoc default (by omega), List.foldl_append]; rfl
    rw [this]
    exact ⟨uni_uf ih.1 ih.2 _ _, by unfold uC; rw [uni_len]; exact ih.2⟩
theorem conJ_uf (w : Api.World) : ∀ k, k ≤ w.Joints.length → UFn w (conJ w k)
  | 0, _ => conC_uf w _ (Nat.le_refl _)
  | k + 1, h => by
    have ih := conJ_uf w k (by omega)
    have : conJ w (k + 1) = uJ w (conJ w k) (w.Joints.getD k default) := by unfold conJ; rw [take_snoc default (by omega), List.foldl_append]; rfl
    rw [this]
    exact ⟨uni_uf ih.1 ih.2 _ _, by unfold uJ; rw [uni_len]; exact ih.2⟩
theorem conn_uf (w : Api.World) : UFn w (conn w) := conJ_uf w _ (Nat.le_refl _)
/-- the first i numbers, then zeros -/
def idP (n i : Nat) : List Int := idL i ++ List.replicate (n - i) 0
theorem idP_len {n i : Nat} (h : i ≤ n) : (idP n i).length = n := by simp [idP, idL_len]; omega
theorem idP_set {n i : Nat} (h : i < n) : (idP n i).set i (i : Int) = idP n (i + 1) := by
  apply List.ext_getElem?
  intro j
  have hr : n - i = (n - (i + 1)) + 1 := by omega
  unfold idP
  rw [List.getElem?_set]
  by_cases hj : i = j
  · subst hj
    rw [if_pos rfl, if_pos (by simp [idL_len]; omega), List.getElem?_append_left (by rw [idL_len]; omega)]
    simp [idL]
  · rw [if_neg hj]
    rcases Nat.lt_or_ge j i with h1 | h1
    · rw [List.getElem?_append_left (by rw [idL_len]; exact h1), List.getElem?_append_left (by rw [idL_len]; omega)]
      simp [idL, h1, show j < i + 1 by omega]
    · rw [List.getElem?_append_right (by rw [idL_len]; exact h1), List.getElem?_append_right (by rw [idL_len]; omega), idL_len, idL_len]
      simp only [List.getElem?_replicate]
      congr 1
      simp only [eq_iff_iff]; omega
theorem s_connect (w : Api.World) (hw : Wsm w) : CallsA Tryz.prog F_island_connect [.agg w.enc] [] (encD 1 encInt 0 (conn w)) [] := by
  obtain ⟨w1, w2, w3, w4, w5, w6⟩ := hw
  refine callsI_of (rs := [_]) hm Tryz.func88 (by kernel_rfl) (by kernel_rfl) is_island_connect (by kernel_rfl : tmpsOf Tryz.f88.results.toList = some [2]) (by decide) (by kernel_rfl) ?_
  simp only [c_island_connect, go_sem, ite_andP, ite_orP, dec_true, dec_false]
  refine ⟨ok_, ?_⟩
  refine Wpi_loop hm (ι := {i : Nat // i ≤ w.Bodies.length}) (fun i => [(1, .share, .ptr 32 0 0 1), (3, .share, .sl 1 0 w.Bodies.length w.Bodies.length), (14, .share, .sc (.int .i64 w.Bodies.length)), (15, .share, .sc (.int .i64 i.1))])
    (fun i => [(32, .box w.enc), (1, .arr 1 (encQ encInt 0 (idP w.Bodies.length i.1)))]) (fun i => w.Bodies.length - i.1) ⟨0, by omega⟩ ?_ ?_
  · refine weakE_ [(1, 208)] [] ?_
    simp only [go_sem, ite_andP, ite_orP, dec_true, dec_false]
    refine ⟨rfl, (idP_len (Nat.zero_le _)).symm, fun k hk => ?_⟩
    have hk : k < w.Bodies.length := hk
    have : (idP w.Bodies.length 0).getD k 0 = 0 := by simp [idP, idL, List.getD, hk]
    simp only [encQ_g, encAt_app, this]
    exact avleL_refl _
  · rintro ⟨i, hi⟩
    have hpl := idP_len hi
    simp only [c_island_connectb0, go_sem, ite_andP, ite_orP, dec_true, dec_false]
    by_cases hlt : (i : Int) < w.Bodies.length
    · rw [if_pos hlt]
      have hlt : i < w.Bodies.length := by omega
      refine ⟨⟨by omega, by omega, by omega⟩, hpl.symm, ?_⟩
      refine loop_next ⟨i + 1, by omega⟩ (by show w.Bodies.length - (i + 1) < w.Bodies.length - i; omega) (weakE_ [] [] ?_)
      simp only [go_sem]
      exact ⟨(by rw [IntKind.wrap_i64]; omega), q_set (i : Int) (by omega) rfl (idP_set hlt)⟩
    · rw [if_neg hlt]
      obtain rfl : i = w.Bodies.length := by omega
      have hid : idP w.Bodies.length w.Bodies.length = idL w.Bodies.length := by simp [idP]
      refine Wpi_loop hm (ι := {i : Nat // i ≤ w.Contacts.length}) (fun i => [(1, .share, .ptr 32 0 0 1), (3, .share, .sl 1 0 w.Bodies.length w.Bodies.length), (24, .share, encD 7 Contact.enc default w.Contacts), (25, .share, .sc (.int .i64 w.Contacts.length)), (26, .share, .sc (.int .i64 i.1))])
        (fun i => [(32, .box w.enc), (1, .arr 1 (encQ encInt 0 (conC w i.1)))]) (fun i => w.Contacts.length - i.1) ⟨0, by omega⟩ ?_ ?_
      · refine weakE_ [] [] ?_
        simp only [go_sem, ite_andP, ite_orP, dec_true, dec_false, hid]
        exact q_same rfl
      · rintro ⟨i, hi⟩
        obtain ⟨hu, hl⟩ := conC_uf w i hi
        simp only [c_island_connectb1, go_sem, ite_andP, ite_orP, dec_true, dec_false]
        by_cases hlt : (i : Int) < w.Contacts.length
        · rw [if_pos hlt]
          have hlt : i < w.Contacts.length := by omega
          have hs : conC w (i + 1) = uC w (conC w i) (w.Contacts.getD i default) := by unfold conC; rw [take_snoc default (by omega), List.foldl_append]; rfl
          have hU := s_union w (conC w i) (w.Contacts.getD i default).Key.BodyA (w.Contacts.getD i default).Key.BodyB hu hl w1
          rw [hl] at hU
          refine ⟨ok_, ?_⟩
          refine CallGi_subw hU (by refine ⟨by simp, ?_⟩; simp) rfl (by simp [go_sem]) (by simp [go_sem, AV.ids]) rfl ?_
          simp only [go_sem, ite_andP, ite_orP, dec_true, dec_false]
          refine loop_next ⟨i + 1, by omega⟩ (by show w.Contacts.length - (i + 1) < w.Contacts.length - i; omega) (weakE_ [] [] ?_)
          simp only [go_sem]
          exact ⟨(by rw [IntKind.wrap_i64]; omega), q_same hs.symm⟩
        · rw [if_neg hlt]
          obtain rfl : i = w.Contacts.length := by omega
          refine Wpi_loop hm (ι := {i : Nat // i ≤ w.Joints.length}) (fun i => [(1, .share, .ptr 32 0 0 1), (3, .share, .sl 1 0 w.Bodies.length w.Bodies.length), (41, .share, encD 24 Joint.enc default w.Joints), (42, .share, .sc (.int .i64 w.Joints.length)), (43, .share, .sc (.int .i64 i.1))])
            (fun i => [(32, .box w.enc), (1, .arr 1 (encQ encInt 0 (conJ w i.1)))]) (fun i => w.Joints.length - i.1) ⟨0, by omega⟩ ?_ ?_
          · refine weakE_ [] [] ?_
            simp only [go_sem, ite_andP, ite_orP, dec_true, dec_false]
            exact q_same rfl
          · rintro ⟨i, hi⟩
            obtain ⟨hu, hl⟩ := conJ_uf w i hi
            simp only [c_island_connectb2, go_sem, ite_andP, ite_orP, dec_true, dec_false]
            by_cases hlt : (i : Int) < w.Joints.length
            · rw [if_pos hlt]
              have hlt : i < w.Joints.length := by omega
              have hs : conJ w (i + 1) = uJ w (conJ w i) (w.Joints.getD i default) := by unfold conJ; rw [take_snoc default (by omega), List.foldl_append]; rfl
              have hU := s_union w (conJ w i) (w.Joints.getD i default).BodyA (w.Joints.getD i default).BodyB hu hl w1
              rw [hl] at hU
              refine ⟨ok_, ?_⟩
              refine CallGi_subw hU (by refine ⟨by simp, ?_⟩; simp) rfl (by simp [go_sem]) (by simp [go_sem, AV.ids]) rfl ?_
              simp only [go_sem, ite_andP, ite_orP, dec_true, dec_false]
              refine loop_next ⟨i + 1, by omega⟩ (by show w.Joints.length - (i + 1) < w.Joints.length - i; omega) (weakE_ [] [] ?_)
              simp only [go_sem]
              exact ⟨(by rw [IntKind.wrap_i64]; omega), q_same hs.symm⟩
            · rw [if_neg hlt]
              obtain rfl : i = w.Joints.length := by omega
              have hcl := (conn_uf w).2
              have hcc : conJ w w.Joints.length = conn w := rfl
              simp only [go_sem, ite_andP, ite_orP, dec_true, dec_false, hcc, hcl]
              try trivial

end Go.Abs
