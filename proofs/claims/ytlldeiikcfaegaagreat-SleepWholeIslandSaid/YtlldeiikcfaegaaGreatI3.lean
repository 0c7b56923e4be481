/- A part of the walk: contracts of functions that the statement reaches. -/
import Derived.Test.YtlldeiikcfaegaaGreatAbsC
import Derived.Test.YtlldeiikcfaegaaGreatI2
set_option linter.unusedSimpArgs false
set_option linter.unusedVariables false
set_option linter.unnecessarySimpa false
set_option maxRecDepth 100000
set_option maxHeartbeats 2000000
set_option linter.unusedSimpArgs false
set_option linter.unusedVariables false
namespace Go.Abs
open Go.Proofs
open Api
def memb (p : Nat → Option Nat) (q : Nat) : Nat → List Int
  | 0 => []
  | k + 1 => if p k = some q then memb p q k ++ [(k : Int)] else memb p q k
theorem memb_len (p : Nat → Option Nat) (q : Nat) : ∀ k, (memb p q k).length ≤ k
  | 0 => Nat.le_refl _
  | k + 1 => by have := memb_len p q k; unfold memb; split <;> simp <;> omega
theorem memb_none {p : Nat → Option Nat} {q : Nat} : ∀ {k}, (∀ j, j < k → p j ≠ some q) → memb p q k = []
  | 0, _ => rfl
  | k + 1, h => by unfold memb; rw [if_neg (h k (by omega)), memb_none fun j hj => h j (by omega)]
theorem memb_no {p : Nat → Option Nat} {q k : Nat} (h : p k ≠ some q) : memb p q k = memb p q (k + 1) := by rw [memb.eq_2, if_neg h]
theorem memb_yes {p : Nat → Option Nat} {q k : Nat} (h : p k = some q) : memb p q (k + 1) = memb p q k ++ [(k : Int)] := by rw [memb.eq_2, if_pos h]
/-- the islands, each with three rows of its own -/
def islQ (m : Nat) (B C J : Nat → List Int) : Sq := ⟨m, fun q => [.own 1 (B q).length (encAt encInt 0 (B q)), .own 1 (C q).length (encAt encInt 0 (C q)), .own 1 (J q).length (encAt encInt 0 (J q))]⟩
theorem islQ_n (m : Nat) (B C J : Nat → List Int) : (islQ m B C J).n = m := rfl
theorem islQ_g (m : Nat) (B C J : Nat → List Int) (q : Nat) : (islQ m B C J).g q = [.own 1 (B q).length (encAt encInt 0 (B q)), .own 1 (C q).length (encAt encInt 0 (C q)), .own 1 (J q).length (encAt encInt 0 (J q))] := rfl
attribute [go_sem] islQ_n islQ_g
theorem islQ_app (m : Nat) (B C J : Nat → List Int) (t : Sq) : ((islQ m B C J).app t).g m = t.g 0 := by simp [Sq.app, islQ]
theorem Sq.app_n (s t : Sq) : (s.app t).n = s.n + t.n := rfl
def isR (w : Api.World) (g : List Int) (j : Nat) : Bool := kd w j && (g.getD j 0 == (j : Int))
def nb (w : Api.World) (g : List Int) : Nat → Nat
  | 0 => 0
  | i + 1 => if isR w g i = true then nb w g i + 1 else nb w g i
def nmB (w : Api.World) (g : List Int) : Nat → List (Int × Int)
  | 0 => []
  | i + 1 => if isR w g i = true then aput (nmB w g i) (i : Int) (nb w g i : Int) else nmB w g i
def pB (w : Api.World) (g : List Int) (j : Nat) : Option Nat := if kd w j = true then some (nb w g (root g (j : Int)).toNat) else none
def pC (w : Api.World) (g : List Int) (k : Nat) : Option Nat := (isl2 w g (w.Contacts.getD k default).Key.BodyA (w.Contacts.getD k default).Key.BodyB).map fun r => nb w g r.toNat
def pJ (w : Api.World) (g : List Int) (k : Nat) : Option Nat := (isl2 w g (w.Joints.getD k default).BodyA (w.Joints.getD k default).BodyB).map fun r => nb w g r.toNat
theorem nb_mono (w : Api.World) (g : List Int) {i : Nat} : ∀ {j : Nat}, i ≤ j → nb w g i ≤ nb w g j
  | 0, h => by obtain rfl : i = 0 := by omega
               exact Nat.le_refl _
  | j + 1, h => by
    rcases Nat.lt_or_ge i (j + 1) with h1 | h1
    · have := nb_mono w g (show i ≤ j by omega)
      show _ ≤ if isR w g j = true then nb w g j + 1 else nb w g j
      split <;> omega
    · obtain rfl : i = j + 1 := by omega
      exact Nat.le_refl _
theorem nb_le (w : Api.World) (g : List Int) : ∀ j : Nat, nb w g j ≤ j
  | 0 => Nat.le_refl _
  | j + 1 => by
    have := nb_le w g j
    show (if isR w g j = true then nb w g j + 1 else nb w g j) ≤ _
    split <;> omega
theorem nb_succ {w : Api.World} {g : List Int} {i : Nat} (h : isR w g i = true) : nb w g (i + 1) = nb w g i + 1 := by show (if isR w g i = true then nb w g i + 1 else nb w g i) = _; rw [if_pos h]
theorem nb_lt {w : Api.World} {g : List Int} {i j : Nat} (h : isR w g i = true) (hj : i < j) : nb w g i < nb w g j := by
  have := nb_mono w g (show i + 1 ≤ j by omega)
  rw [nb_succ h] at this; omega
theorem nmB_get {w : Api.World} {g : List Int} {r : Nat} (hr : isR w g r = true) : ∀ {i : Nat}, r < i → alook (nmB w g i) (r : Int) = nb w g r
  | i + 1, h => by
    show alook (if isR w g i = true then aput (nmB w g i) (i : Int) (nb w g i : Int) else nmB w g i) (r : Int) = _
    rcases Nat.lt_or_ge r i with h1 | h1
    · split
      · rw [alook_aput, if_neg (by omega), nmB_get hr h1]
      · exact nmB_get hr h1
    · obtain rfl : r = i := by omega
      rw [if_pos hr, alook_aput, if_pos rfl]
/-- a dynamic body's root is a root -/
theorem root_isR {w : Api.World} {g : List Int} (hg : UF g) (hd : DG w g) {i : Int} (h0 : 0 ≤ i) (h1 : i < (g.length : Int)) (hk : kd w i.toNat = true) : isR w g (root g i).toNat = true := by
  obtain ⟨a, b, c⟩ := root_in hg h0 h1
  unfold isR
  rw [root_dyn hg hd _ _ (Nat.le_refl _) h0 h1 hk, c]
  simp; omega
theorem nb_same {w : Api.World} {g : List Int} {i : Nat} (h : isR w g i = false) : nb w g (i + 1) = nb w g i := by show (if isR w g i = true then nb w g i + 1 else nb w g i) = _; rw [if_neg (by rw [h]; simp)]
theorem isl_le {ρ : Nat → Nat} {s : Sq} {m : Nat} {B C J : Nat → List Int} (hn : s.n = m) (h : ∀ q, q < m → avlePL (s.g q) ((islQ m B C J).g q)) : objLeC ρ (.arrP 3 s) (.arrP 3 (islQ m B C J)) := ⟨rfl, hn, fun i hi => h i (by omega)⟩
theorem own_refl {n : Nat} {g : Nat → List AV} : avleP (.own 1 n g) (.own 1 n g) := ⟨rfl, rfl, fun _ _ => avleL_refl _⟩
theorem row_le {B B' C C' J J' : List Int} (b : B = B') (c : C = C') (j : J = J') : avlePL [.own 1 B.length (encAt encInt 0 B), .own 1 C.length (encAt encInt 0 C), .own 1 J.length (encAt encInt 0 J)] [.own 1 B'.length (encAt encInt 0 B'), .own 1 C'.length (encAt encInt 0 C'), .own 1 J'.length (encAt encInt 0 J')] := by
  subst b c j; exact ⟨own_refl, own_refl, own_refl, trivial⟩
theorem own_app (a : Int) {l : List Int} : avleP (.own 1 ((encQ encInt 0 l).app ⟨1, fun i => List.take 1 (List.drop (i * 1) [AV.sc (.int .i64 a)])⟩).n ((encQ encInt 0 l).app ⟨1, fun i => List.take 1 (List.drop (i * 1) [AV.sc (.int .i64 a)])⟩).g) (.own 1 (l ++ [a]).length (encAt encInt 0 (l ++ [a]))) := by
  have h : objLeC id (.arr 1 ((encQ encInt 0 l).app ⟨1, fun i => List.take 1 (List.drop (i * 1) [AV.sc (.int .i64 a)])⟩)) (.arr 1 (encQ encInt 0 (l ++ [a]))) := q_app1 a rfl rfl
  obtain ⟨_, h1, h2⟩ := h
  exact ⟨rfl, h1, h2⟩
theorem Sq.set_same {s : Sq} {k : Nat} {c : List AV} : (s.set k c).g k = c := by simp [Sq.set]
theorem Sq.set_ne {s : Sq} {k q : Nat} {c : List AV} (h : q ≠ k) : (s.set k c).g q = s.g q := by simp [Sq.set, h]
theorem islQ_app_lt {m q : Nat} {B C J : Nat → List Int} {t : Sq} (h : q < m) : ((islQ m B C J).app t).g q = (islQ m B C J).g q := by simp [Sq.app, islQ, h]
theorem isl2_R {w : Api.World} {g : List Int} (hg : UF g) (hgl : g.length = w.Bodies.length) (hd : DG w g) {a b r : Int} (h : isl2 w g a b = some r) : ∃ k : Nat, r = (k : Int) ∧ k < g.length ∧ isR w g k = true := by
  have key : ∀ x, dynB w x = true → ∃ k : Nat, root g (findB w x) = (k : Int) ∧ k < g.length ∧ isR w g k = true := fun x hx => by
    obtain ⟨d0, d1⟩ := dyn_rng hx
    obtain ⟨ra, rb, rc⟩ := root_in hg d0 (by omega)
    have hR := root_isR hg hd d0 (by omega) (dynB_kd hx)
    exact ⟨(root g (findB w x)).toNat, (Int.toNat_of_nonneg ra).symm, by omega, hR⟩
  unfold isl2 at h
  split at h
  · rename_i hx
    injection h with h; subst h; exact key a hx
  · split at h
    · rename_i hx
      injection h with h; subst h; exact key b hx
    · cases h
def outB (w : Api.World) (i : Nat) : Sq := islQ (nb w (conn w) i) (fun q => memb (pB w (conn w)) q i) (fun _ => []) (fun _ => [])
attribute [go_sem] outB
def exSB (w : Api.World) (i : Nat) : List (Nat × AObj) := [(32, .box w.enc), (384, .map .i64 (nmE (nmB w (conn w) i))), (1, .arrP 3 (outB w i))]
attribute [go_sem] exSB
def exSC (w : Api.World) (k : Nat) : List (Nat × AObj) := [(32, .box w.enc), (384, .map .i64 (nmE (nmB w (conn w) w.Bodies.length))), (1, .arrP 3 (islQ (nb w (conn w) w.Bodies.length) (fun q => memb (pB w (conn w)) q w.Bodies.length) (fun q => memb (pC w (conn w)) q k) (fun _ => [])))]
attribute [go_sem] exSC
def exSJ (w : Api.World) (k : Nat) : List (Nat × AObj) := [(32, .box w.enc), (384, .map .i64 (nmE (nmB w (conn w) w.Bodies.length))), (1, .arrP 3 (islQ (nb w (conn w) w.Bodies.length) (fun q => memb (pB w (conn w)) q w.Bodies.length) (fun q => memb (pC w (conn w)) q w.Contacts.length) (fun q => memb (pJ w (conn w)) q k)))]
attribute [go_sem] exSJ
theorem s_Build_valid (w : Api.World) (hw : Wsm w) (hv : d_world_Validate w = 0) : CallsA Tryz.prog F_island_Build [.agg w.enc] [] (.sl 1 0 (nb w (conn w) w.Bodies.length) (nb w (conn w) w.Bodies.length))
    [(1, .arrP 3 (islQ (nb w (conn w) w.Bodies.length) (fun q => memb (pB w (conn w)) q w.Bodies.length) (fun q => memb (pC w (conn w)) q w.Contacts.length) (fun q => memb (pJ w (conn w)) q w.Joints.length)))] := by
  have hw' := hw
  obtain ⟨w1, w2, w3, w4, w5, w6⟩ := hw
  obtain ⟨hg, hgl⟩ := conn_uf w
  have hgd := conn_dg w
  refine callsIO_of (rs := [_]) hm Tryz.func33 (by kernel_rfl) (by kernel_rfl) is_island_Build (by kernel_rfl : tmpsOf Tryz.f33.results.toList = some [2]) (by decide) (by kernel_rfl) ?_
  simp only [c_island_Build, go_sem, ite_andP, ite_orP, dec_true, dec_false]
  refine CallGi_flat (s_world_Validate w hw') rfl ?_
  simp only [go_sem, ite_andP, ite_orP, dec_true, dec_false, hv]
  rw [if_neg (by simp)]
  refine CallGi_flat (s_connect w hw') rfl ?_
  simp only [go_sem, ite_andP, ite_orP, dec_true, dec_false]
  refine Wpi_loop hm (ι := {i : Nat // i ≤ w.Bodies.length}) (fun i => [(1, .share, .ptr 32 0 0 1), (3, .share, encD 1 encInt 0 (conn w)), (4, .share, .mp 384), (5, if i.1 = 0 then .adopt else .share, .sl 1 0 (nb w (conn w) i.1) (nb w (conn w) i.1)), (25, .share, encD 20 Body.enc default w.Bodies), (26, .share, .sc (.int .i64 w.Bodies.length)), (27, .share, .sc (.int .i64 i.1))])
    (fun i => exSB w i.1) (fun i => w.Bodies.length - i.1) ⟨0, by omega⟩ ?_ ?_
  · refine weakE_ [] [1] ?_
    have n0 : nb w (conn w) 0 = 0 := rfl
    simp only [go_sem, ite_andP, ite_orP, dec_true, dec_false, n0]
    first | rfl | exact ⟨by simp, rfl⟩
  · rintro ⟨i, hi⟩
    have hnb := nb_le w (conn w) i
    simp only [c_island_Buildb0, go_sem, ite_andP, ite_orP, dec_true, dec_false]
    by_cases hlt : (i : Int) < w.Bodies.length
    · rw [if_pos hlt]
      have hlt : i < w.Bodies.length := by omega
      refine ⟨ok_, ?_⟩
      by_cases hk : (w.Bodies.getD i default).Kind = 3
      · rw [if_neg (by rw [hk]; simp)]
        refine CallGi_flat (s_root_data (conn w) i hg (by omega) (by omega)) rfl ?_
        simp only [go_sem, ite_andP, ite_orP, dec_true, dec_false]
        have z0 : zeroAV (.int .i64 0) = .sc (.int .i64 0) := rfl
        by_cases hr : root (conn w) i = i
        · rw [if_pos (by simpa using hr)]
          refine ⟨ok_, ?_⟩
          simp only [mput_nmE, mget_nmE, z0, hr, alook_aput]
          simp only [go_sem, ite_andP, ite_orP, dec_true, dec_false, islQ_app, Sq.app_n]
          have hR : isR w (conn w) i = true := by
            have := root_isR hg hgd (i := (i : Int)) (by omega) (by omega) (by unfold kd; rw [Int.toNat_natCast, hk]; rfl)
            rw [hr] at this; simpa using this
          have hn1 := nb_succ hR
          refine ⟨⟨by omega, by omega⟩, by omega, by decide, ⟨by omega, by omega⟩, by omega, ?_⟩
          refine loop_next ⟨i + 1, by omega⟩ (by show w.Bodies.length - (i + 1) < w.Bodies.length - i; omega) (weakE_ [] [] ?_)
          simp only [go_sem, ite_andP, ite_orP, dec_true, dec_false]
          have hp : pB w (conn w) i = some (nb w (conn w) i) := by unfold pB kd; rw [hk, hr]; rfl
          have hz : memb (pB w (conn w)) (nb w (conn w) i) i = [] := memb_none fun j hj hh => by
            unfold pB at hh
            split at hh
            · rename_i hkj
              obtain ⟨ra, rb, rc⟩ := root_in hg (i := (j : Int)) (by omega) (by omega)
              have hR2 : isR w (conn w) (root (conn w) j).toNat = true := root_isR hg hgd (i := (j : Int)) (by omega) (by omega) (by rw [Int.toNat_natCast]; exact hkj)
              have := nb_lt hR2 (j := i) (by omega)
              injection hh with hh; omega
            · cases hh
          refine ⟨hn1.symm, (by rw [IntKind.wrap_i64]; omega), ?_, isl_le hn1.symm fun q hq => ?_⟩
          · show AObj.map _ _ = AObj.map _ _
            show _ = AObj.map _ (nmE (if isR w (conn w) i = true then _ else _))
            rw [if_pos hR]
          · by_cases hqm : q = nb w (conn w) i
            · subst hqm
              simp only [Sq.set_same, islQ_g]
              have : memb (pB w (conn w)) (nb w (conn w) i) (i + 1) = [(i : Int)] := by unfold memb; rw [if_pos hp, hz]; rfl
              rw [this]
              exact ⟨⟨rfl, rfl, fun k hk => by obtain rfl : k = 0 := by omega
                                               exact avleL_refl _⟩, ⟨rfl, rfl⟩, ⟨rfl, rfl⟩, trivial⟩
            · simp only [Sq.set_ne hqm, islQ_g]
              rw [islQ_app_lt (by omega), islQ_g]
              have : memb (pB w (conn w)) q (i + 1) = memb (pB w (conn w)) q i := by rw [memb, if_neg]; rw [hp]; intro e; injection e with e; exact hqm e.symm
              rw [this]
              exact row_le rfl rfl rfl
        · rw [if_neg (by simpa using hr)]
          obtain ⟨ra, rb, rc⟩ := root_in hg (i := (i : Int)) (by omega) (by omega)
          have hR : isR w (conn w) (root (conn w) i).toNat = true := root_isR hg hgd (i := (i : Int)) (by omega) (by omega) (by unfold kd; rw [Int.toNat_natCast, hk]; rfl)
          obtain ⟨r, hrr⟩ : ∃ r : Nat, root (conn w) i = r := ⟨_, (Int.toNat_of_nonneg ra).symm⟩
          rw [hrr] at hr rb hR
          rw [Int.toNat_natCast] at hR
          have hlook := nmB_get hR (i := i) (by omega)
          have hlt2 := nb_lt hR (j := i) (by omega)
          have hml := memb_len (pB w (conn w)) (nb w (conn w) r) i
          simp only [mget_nmE, z0, hrr, hlook]
          simp only [go_sem, ite_andP, ite_orP, dec_true, dec_false]
          refine ⟨⟨by omega, by omega⟩, by omega, ok_, ⟨by omega, by omega⟩, ⟨by omega, rfl⟩, ?_⟩
          refine loop_next ⟨i + 1, by omega⟩ (by show w.Bodies.length - (i + 1) < w.Bodies.length - i; omega) (weakE_ [] [] ?_)
          simp only [go_sem, ite_andP, ite_orP, dec_true, dec_false]
          have hp : pB w (conn w) i = some (nb w (conn w) r) := by unfold pB kd; rw [hk, hrr]; rfl
          have hR0 : isR w (conn w) i = false := by
            cases h : isR w (conn w) i with
            | false => rfl
            | true =>
              unfold isR at h
              rw [Bool.and_eq_true, beq_iff_eq] at h
              have := root_fix (g := conn w) (i := (i : Int)) (by rw [Int.toNat_natCast]; exact h.2)
              rw [hrr] at this; exact absurd this hr
          have hn0 := nb_same hR0
          refine ⟨hn0.symm, (by rw [IntKind.wrap_i64]; omega), ?_, isl_le hn0.symm fun q hq => ?_⟩
          · show AObj.map _ _ = AObj.map _ _
            show _ = AObj.map _ (nmE (if isR w (conn w) i = true then _ else _))
            rw [if_neg (by rw [hR0]; simp)]
          · by_cases hqm : q = nb w (conn w) r
            · subst hqm
              simp only [Sq.set_same, islQ_g, List.tail_cons]
              have : memb (pB w (conn w)) (nb w (conn w) r) (i + 1) = memb (pB w (conn w)) (nb w (conn w) r) i ++ [(i : Int)] := by rw [memb, if_pos hp]
              rw [this]
              exact ⟨own_app i, own_refl, own_refl, trivial⟩
            · simp only [Sq.set_ne hqm, islQ_g]
              have : memb (pB w (conn w)) q (i + 1) = memb (pB w (conn w)) q i := by rw [memb, if_neg]; rw [hp]; intro e; injection e with e; exact hqm e.symm
              rw [this]
              exact row_le rfl rfl rfl
      · rw [if_pos (by simpa using hk)]
        refine loop_next ⟨i + 1, by omega⟩ (by show w.Bodies.length - (i + 1) < w.Bodies.length - i; omega) (weakE_ [] [] ?_)
        simp only [go_sem, ite_andP, ite_orP, dec_true, dec_false]
        have hk' : kd w i = false := by unfold kd; simpa using hk
        have hp : pB w (conn w) i = none := by unfold pB; rw [hk']; rfl
        have hR0 : isR w (conn w) i = false := by unfold isR; rw [hk']; rfl
        have hn0 := nb_same hR0
        refine ⟨hn0.symm, (by rw [IntKind.wrap_i64]; omega), ?_, isl_le hn0.symm fun q hq => ?_⟩
        · show AObj.map _ _ = AObj.map _ _
          show _ = AObj.map _ (nmE (if isR w (conn w) i = true then _ else _))
          rw [if_neg (by rw [hR0]; simp)]
        · simp only [islQ_g]
          have : memb (pB w (conn w)) q (i + 1) = memb (pB w (conn w)) q i := by rw [memb, if_neg]; rw [hp]; simp
          rw [this]
          exact row_le rfl rfl rfl
    · rw [if_neg hlt]
      obtain rfl : i = w.Bodies.length := by omega
      have hnb2 := nb_le w (conn w) w.Bodies.length
      refine Wpi_loop hm (ι := {k : Nat // k ≤ w.Contacts.length}) (fun k => [(1, .share, .ptr 32 0 0 1), (3, .share, encD 1 encInt 0 (conn w)), (4, .share, .mp 384), (5, .share, .sl 1 0 (nb w (conn w) w.Bodies.length) (nb w (conn w) w.Bodies.length)), (66, .share, encD 7 Contact.enc default w.Contacts), (67, .share, .sc (.int .i64 w.Contacts.length)), (68, .share, .sc (.int .i64 k.1))])
        (fun k => exSC w k.1) (fun k => w.Contacts.length - k.1) ⟨0, by omega⟩ ?_ ?_
      · refine weakE_ [] [] ?_
        simp only [go_sem, ite_andP, ite_orP, dec_true, dec_false]
        exact ⟨rfl, isl_le rfl fun q hq => row_le rfl rfl rfl⟩
      · rintro ⟨k, hk⟩
        simp only [c_island_Buildb1, go_sem, ite_andP, ite_orP, dec_true, dec_false]
        by_cases hlt : (k : Int) < w.Contacts.length
        · rw [if_pos hlt]
          have hlt : k < w.Contacts.length := by omega
          refine ⟨ok_, ?_⟩
          refine CallGi_subw (s_islandOf w (conn w) (nmB w (conn w) w.Bodies.length) (w.Contacts.getD k default).Key.BodyA (w.Contacts.getD k default).Key.BodyB hg hgl w1) (by refine ⟨by simp, ?_⟩; simp) rfl (by simp [go_sem]) (by simp [go_sem, AV.ids]) rfl ?_
          simp only [go_sem, ite_andP, ite_orP, dec_true, dec_false]
          cases hi2 : isl2 w (conn w) (w.Contacts.getD k default).Key.BodyA (w.Contacts.getD k default).Key.BodyB with
          | none =>
            have e : isOf w (conn w) (nmB w (conn w) w.Bodies.length) (w.Contacts.getD k default).Key.BodyA (w.Contacts.getD k default).Key.BodyB = (0, false) := by unfold isOf; rw [hi2]
            have hp : pC w (conn w) k = none := by unfold pC; rw [hi2]; rfl
            simp only [e]
            rw [if_neg (by simp)]
            refine loop_next ⟨k + 1, by omega⟩ (by show w.Contacts.length - (k + 1) < w.Contacts.length - k; omega) (weakE_ [] [] ?_)
            simp only [go_sem, ite_andP, ite_orP, dec_true, dec_false]
            refine ⟨(by rw [IntKind.wrap_i64]; omega), rfl, isl_le rfl fun q hq => row_le rfl ?_ rfl⟩
            exact memb_no (by rw [hp]; simp)
          | some r =>
            obtain ⟨r, rfl, hrl, hR⟩ := isl2_R hg hgl hgd hi2
            have hlook := nmB_get hR (i := w.Bodies.length) (by omega)
            have hlt2 := nb_lt hR (j := w.Bodies.length) (by omega)
            have e : isOf w (conn w) (nmB w (conn w) w.Bodies.length) (w.Contacts.getD k default).Key.BodyA (w.Contacts.getD k default).Key.BodyB = ((nb w (conn w) r : Int), true) := by unfold isOf; rw [hi2]; simp only [hlook]
            have hp : pC w (conn w) k = some (nb w (conn w) r) := by unfold pC; rw [hi2]; rfl
            have hml := memb_len (pC w (conn w)) (nb w (conn w) r) k
            simp only [e]
            rw [if_pos trivial]
            simp only [go_sem, ite_andP, ite_orP, dec_true, dec_false]
            refine ⟨⟨by omega, by omega⟩, by omega, ok_, ⟨by omega, by omega⟩, ⟨by omega, rfl⟩, ?_⟩
            refine loop_next ⟨k + 1, by omega⟩ (by show w.Contacts.length - (k + 1) < w.Contacts.length - k; omega) (weakE_ [] [] ?_)
            simp only [go_sem, ite_andP, ite_orP, dec_true, dec_false]
            refine ⟨(by rw [IntKind.wrap_i64]; omega), rfl, isl_le rfl fun q hq => ?_⟩
            by_cases hqm : q = nb w (conn w) r
            · subst hqm
              simp only [Sq.set_same, islQ_g, List.tail_cons]
              rw [memb_yes hp]
              exact ⟨own_refl, own_app k, own_refl, trivial⟩
            · simp only [Sq.set_ne hqm, islQ_g]
              refine row_le rfl ?_ rfl
              exact memb_no (by rw [hp]; intro e; injection e with e; exact hqm e.symm)
        · rw [if_neg hlt]
          obtain rfl : k = w.Contacts.length := by omega
          refine Wpi_loop hm (ι := {k : Nat // k ≤ w.Joints.length}) (fun k => [(1, .share, .ptr 32 0 0 1), (3, .share, encD 1 encInt 0 (conn w)), (4, .share, .mp 384), (5, .share, .sl 1 0 (nb w (conn w) w.Bodies.length) (nb w (conn w) w.Bodies.length)), (101, .share, encD 24 Joint.enc default w.Joints), (102, .share, .sc (.int .i64 w.Joints.length)), (103, .share, .sc (.int .i64 k.1))])
            (fun k => exSJ w k.1) (fun k => w.Joints.length - k.1) ⟨0, by omega⟩ ?_ ?_
          · refine weakE_ [] [] ?_
            simp only [go_sem, ite_andP, ite_orP, dec_true, dec_false]
            exact ⟨rfl, isl_le rfl fun q hq => row_le rfl rfl rfl⟩
          · rintro ⟨k, hk⟩
            simp only [c_island_Buildb2, go_sem, ite_andP, ite_orP, dec_true, dec_false]
            by_cases hlt : (k : Int) < w.Joints.length
            · rw [if_pos hlt]
              have hlt : k < w.Joints.length := by omega
              refine ⟨ok_, ?_⟩
              refine CallGi_subw (s_islandOf w (conn w) (nmB w (conn w) w.Bodies.length) (w.Joints.getD k default).BodyA (w.Joints.getD k default).BodyB hg hgl w1) (by refine ⟨by simp, ?_⟩; simp) rfl (by simp [go_sem]) (by simp [go_sem, AV.ids]) rfl ?_
              simp only [go_sem, ite_andP, ite_orP, dec_true, dec_false]
              cases hi2 : isl2 w (conn w) (w.Joints.getD k default).BodyA (w.Joints.getD k default).BodyB with
              | none =>
                have e : isOf w (conn w) (nmB w (conn w) w.Bodies.length) (w.Joints.getD k default).BodyA (w.Joints.getD k default).BodyB = (0, false) := by unfold isOf; rw [hi2]
                have hp : pJ w (conn w) k = none := by unfold pJ; rw [hi2]; rfl
                simp only [e]
                rw [if_neg (by simp)]
                refine loop_next ⟨k + 1, by omega⟩ (by show w.Joints.length - (k + 1) < w.Joints.length - k; omega) (weakE_ [] [] ?_)
                simp only [go_sem, ite_andP, ite_orP, dec_true, dec_false]
                refine ⟨(by rw [IntKind.wrap_i64]; omega), rfl, isl_le rfl fun q hq => row_le rfl rfl ?_⟩
                exact memb_no (by rw [hp]; simp)
              | some r =>
                obtain ⟨r, rfl, hrl, hR⟩ := isl2_R hg hgl hgd hi2
                have hlook := nmB_get hR (i := w.Bodies.length) (by omega)
                have hlt2 := nb_lt hR (j := w.Bodies.length) (by omega)
                have e : isOf w (conn w) (nmB w (conn w) w.Bodies.length) (w.Joints.getD k default).BodyA (w.Joints.getD k default).BodyB = ((nb w (conn w) r : Int), true) := by unfold isOf; rw [hi2]; simp only [hlook]
                have hp : pJ w (conn w) k = some (nb w (conn w) r) := by unfold pJ; rw [hi2]; rfl
                have hml := memb_len (pJ w (conn w)) (nb w (conn w) r) k
                simp only [e]
                rw [if_pos trivial]
                simp only [go_sem, ite_andP, ite_orP, dec_true, dec_false]
                refine ⟨⟨by omega, by omega⟩, by omega, ok_, ⟨by omega, by omega⟩, ⟨by omega, rfl⟩, ?_⟩
                refine loop_next ⟨k + 1, by omega⟩ (by show w.Joints.length - (k + 1) < w.Joints.length - k; omega) (weakE_ [] [] ?_)
                simp only [go_sem, ite_andP, ite_orP, dec_true, dec_false]
                refine ⟨(by rw [IntKind.wrap_i64]; omega), rfl, isl_le rfl fun q hq => ?_⟩
                by_cases hqm : q = nb w (conn w) r
                · subst hqm
                  simp only [Sq.set_same, islQ_g, List.tail_cons]
                  rw [memb_yes hp]
                  exact ⟨own_refl, own_refl, own_app k, trivial⟩
                · simp only [Sq.set_ne hqm, islQ_g]
                  refine row_le rfl rfl ?_
                  exact memb_no (by rw [hp]; intro e; injection e with e; exact hqm e.symm)
            · rw [if_neg hlt]
              obtain rfl : k = w.Joints.length := by omega
              refine retW_of [.share] [] [] rfl rfl (by simp [go_sem]) (by simp [assoc, go_sem]) (by simp [go_sem]) ?_
              simp only [go_sem, ite_andP, ite_orP, dec_true, dec_false]
              exact isl_le rfl fun q hq => row_le rfl rfl rfl
def buildL (w : Api.World) : List Island := if d_world_Validate w = 0 then (List.range (nb w (conn w) w.Bodies.length)).map fun q => ⟨memb (pB w (conn w)) q w.Bodies.length, memb (pC w (conn w)) q w.Contacts.length, memb (pJ w (conn w)) q w.Joints.length⟩ else []
theorem s_Build (w : Api.World) (hw : Wsm w) : CallsA Tryz.prog F_island_Build [.agg w.enc] [] (encD 3 Island.enc default (buildL w)) [] := by
  by_cases hv : d_world_Validate w = 0
  · have h := s_Build_valid w hw hv
    generalize hB : (fun q => memb (pB w (conn w)) q w.Bodies.length) = B at h
    generalize hC : (fun q => memb (pC w (conn w)) q w.Contacts.length) = C at h
    generalize hJ : (fun q => memb (pJ w (conn w)) q w.Joints.length) = J at h
    generalize hm : nb w (conn w) w.Bodies.length = m at h
    have hl : buildL w = (List.range m).map fun q => ⟨B q, C q, J q⟩ := by unfold buildL; rw [if_pos hv, hm, ← hB, ← hC, ← hJ]
    have h2 := CallsA.settle (O2 := [(1, .arr 3 ⟨m, fun k => ((islQ m B C J).g k).map settleC⟩)]) h (id := 1) (z := 3) (s := islQ m B C J) (by rw [ofL1]; simp) (fun k j _ => by
      rw [islQ_g]
      match j with
      | 0 => simp
      | 1 => simp
      | 2 => simp
      | j + 3 => simp) (by
      rw [ofL1, ofL1]
      funext x
      by_cases hx : x = 1
      · subst hx; simp [islQ_n]
      · rw [upd_ne hx, upd_ne hx, upd_ne hx])
    have h3 := CallsA.dataRes (s := ⟨m, fun k => ((islQ m B C J).g k).map settleC⟩) h2
    refine h3.res_le (avle_ok _ _ ?_)
    rw [hl]
    refine ⟨rfl, by simp, fun i hi => ?_⟩
    have hi : i < m := hi
    have : encAt Island.enc default ((List.range m).map fun q => (⟨B q, C q, J q⟩ : Island)) i = ((islQ m B C J).g i).map settleC := by
      rw [encAt_app]
      simp [List.getD, hi, Island.enc, islQ_g, settleC, encD]
    rw [this]
    exact avleL_refl _
  · have hl : buildL w = [] := by unfold buildL; rw [if_neg hv]
    rw [hl]
    refine callsI_of (rs := [_]) hm Tryz.func33 (by kernel_rfl) (by kernel_rfl) is_island_Build (by kernel_rfl : tmpsOf Tryz.f33.results.toList = some [2]) (by decide) (by kernel_rfl) ?_
    simp only [c_island_Build, go_sem, ite_andP, ite_orP, dec_true, dec_false]
    refine CallGi_flat (s_world_Validate w hw) rfl ?_
    simp only [go_sem, ite_andP, ite_orP, dec_true, dec_false]
    rw [if_pos (by simpa using hv)]
    first | exact ⟨rfl, rfl⟩ | simp [avle]

end Go.Abs
