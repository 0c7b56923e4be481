/- A part of the walk: contracts of functions that the statement reaches. -/
import Derived.Test.YtlldeiikcfaegaaGreatAbsC
import Derived.Test.YtlldeiikcfaegaaGreatT5
set_option linter.unusedSimpArgs false
set_option linter.unusedVariables false
set_option linter.unnecessarySimpa false
set_option maxRecDepth 100000
set_option maxHeartbeats 2000000
set_option linter.unusedSimpArgs false
set_option linter.unusedVariables false
namespace Go.Abs
open Go.Proofs
open Api
def encLK (l : List PairKey) : List AV := [encD 4 PairKey.enc default l]
attribute [go_sem] encLK
theorem s_Grow_PairKey_pos (n : Nat) (h0 : 0 < n) (hn : n ≤ 4194304) : CallsA Tryz.prog F_slices_Grow_PairKey [.sc (.slice none 0 0), .sc (.int .i64 n)] [] (.sl 1 0 0 n) [(1, .arr 4 ⟨n, fun _ => PairKey.zero⟩)] := by
  have w1 : IntKind.i64.wrap (0 - 0) = 0 := rfl
  have w2 : IntKind.i64.wrap ((n : Int) - 0) = n := by rw [IntKind.wrap_i64]; omega
  refine callsIO_of (rs := [_]) hm Tryz.func217 (by kernel_rfl) (by kernel_rfl) is_slices_Grow_PairKey (by kernel_rfl : tmpsOf Tryz.f217.results.toList = some [4]) (by decide) (by kernel_rfl) ?_
  simp only [c_slices_Grow_PairKey, go_sem, ite_andP, ite_orP, dec_true, dec_false]
  rw [if_neg (by omega)]
  simp only [w1, w2]
  rw [if_pos (by omega)]
  refine ⟨ok_, ?_⟩
  refine ⟨by omega, ?_⟩
  simp only [Int.toNat_natCast]
  refine retW_of [.share] [(1, 368)] [] rfl rfl (by simp) (by simp) (by simp) ?_
  simp only [go_sem, Int.toNat_natCast]
  simp
theorem s_slices_Grow_PairKey (n : Nat) (hn : n ≤ 4194304) : CallsA Tryz.prog F_slices_Grow_PairKey [.sc (.slice none 0 0), .sc (.int .i64 n)] [] (.sl 1 0 0 0) [(1, .arr 4 (encQ PairKey.enc default []))] := by
  rcases Nat.eq_zero_or_pos n with rfl | h0
  · have w1 : IntKind.i64.wrap (0 - 0) = 0 := rfl
    refine callsIO_of (rs := [_]) hm Tryz.func217 (by kernel_rfl) (by kernel_rfl) is_slices_Grow_PairKey (by kernel_rfl : tmpsOf Tryz.f217.results.toList = some [4]) (by decide) (by kernel_rfl) ?_
    simp only [c_slices_Grow_PairKey, go_sem, ite_andP, ite_orP, dec_true, dec_false]
    rw [if_neg (by omega)]
    simp only [w1]
    rw [if_neg (by decide)]
    refine retW_of [.adopt] [] [1] rfl rfl (by simp) (by simp [assoc]) (by simp) ?_
    simp only [go_sem]
  · exact (s_Grow_PairKey_pos n h0 hn).shrink rfl _
def sumLK (L : List (List PairKey)) (k : Nat) : Nat := ((L.take k).flatten).length
theorem sumLK_succ {L : List (List PairKey)} {k : Nat} (h : k < L.length) : sumLK L (k + 1) = sumLK L k + (L.getD k default).length := by
  unfold sumLK; rw [take_snoc default h]; simp
theorem sumLK_le (L : List (List PairKey)) (k : Nat) : sumLK L k ≤ L.flatten.length := by
  unfold sumLK
  have : L.flatten = (L.take k).flatten ++ (L.drop k).flatten := by rw [← List.flatten_append, List.take_append_drop]
  rw [this, List.length_append]; omega
theorem s_slices_Concat_PairKey (L : List (List PairKey)) (hL : L.flatten.length ≤ 4194304) (hl : L.length ≤ 1000) : CallsA Tryz.prog F_slices_Concat_PairKey [encD 1 encLK default L] [] (encD 4 PairKey.enc default L.flatten) [] := by
  refine callsI_of (rs := [_]) hm Tryz.func145 (by kernel_rfl) (by kernel_rfl) is_slices_Concat_PairKey (by kernel_rfl : tmpsOf Tryz.f145.results.toList = some [2]) (by decide) (by kernel_rfl) ?_
  simp only [c_slices_Concat_PairKey, go_sem, ite_andP, ite_orP, dec_true, dec_false]
  refine Wpi_loop hm (ι := {i : Nat // i ≤ L.length}) (fun i => [(0, .share, encD 1 encLK default L), (3, .share, .sc (.int .i64 (sumLK L i.1))), (9, .share, encD 1 encLK default L), (10, .share, .sc (.int .i64 L.length)), (11, .share, .sc (.int .i64 i.1))])
    (fun i => []) (fun i => L.length - i.1) ⟨0, by omega⟩ ?_ ?_
  · refine weakE_ [] [] ?_
    simp only [go_sem]
    simp [sumLK]
  · rintro ⟨i, hi⟩
    have hs := sumLK_le L i
    simp only [c_slices_Concat_PairKeyb0, go_sem, ite_andP, ite_orP, dec_true, dec_false]
    by_cases hlt : (i : Int) < L.length
    · rw [if_pos hlt]
      have hlt : i < L.length := by omega
      have hs2 := sumLK_le L (i + 1)
      have he := sumLK_succ hlt
      refine ⟨ok_, ?_⟩
      have hw : IntKind.i64.wrap ((sumLK L i : Int) + ((L.getD i default).length : Int)) = (sumLK L (i + 1) : Int) := by rw [IntKind.wrap_i64, he]; omega
      rw [hw, if_neg (by omega)]
      refine loop_next ⟨i + 1, by omega⟩ (by show L.length - (i + 1) < L.length - i; omega) (weakE_ [] [] ?_)
      simp only [go_sem]
      exact (by rw [IntKind.wrap_i64]; omega)
    · rw [if_neg hlt]
      obtain rfl : i = L.length := by omega
      have hfull : sumLK L L.length = L.flatten.length := by unfold sumLK; rw [List.take_length]
      refine CallGi_obj [true, true] [(1, 7)] (s_slices_Grow_PairKey (sumLK L L.length) (by omega)) (by simp) (by simp) (by simp) (by simp) ?_
      simp only [go_sem]
      refine Wpi_loop hm (ι := {i : Nat // i ≤ L.length}) (fun i => [(6, .share, .sl 7 0 (sumLK L i.1) (sumLK L i.1)), (25, .share, encD 1 encLK default L), (26, .share, .sc (.int .i64 L.length)), (27, .share, .sc (.int .i64 i.1))])
        (fun i => [(7, .arr 4 (encQ PairKey.enc default (L.take i.1).flatten))]) (fun i => L.length - i.1) ⟨0, by omega⟩ ?_ ?_
      · refine weakE_ [] [] ?_
        simp only [go_sem]
        simp [sumLK, List.take_zero, go_sem]
      · rintro ⟨i, hi⟩
        have hs := sumLK_le L i
        simp only [c_slices_Concat_PairKeyb1, go_sem, ite_andP, ite_orP, dec_true, dec_false]
        by_cases hlt : (i : Int) < L.length
        · rw [if_pos hlt]
          have hlt : i < L.length := by omega
          have hs2 := sumLK_le L (i + 1)
          have he := sumLK_succ hlt
          have hm0 : (L.take i).flatten.length = sumLK L i := rfl
          refine ⟨ok_, ?_⟩
          refine ⟨⟨by omega, by omega, by omega, by simp only [maxLen]; omega⟩, ?_⟩
          refine loop_next ⟨i + 1, by omega⟩ (by show L.length - (i + 1) < L.length - i; omega) (weakE_ [] [] ?_)
          simp only [go_sem]
          all_goals ((repeat' (with_reducible apply And.intro)) <;> first | (rw [IntKind.wrap_i64]; omega) | exact he.symm | (rw [he, hm0]; done) | (rw [he]; done) | exact q_same (by rw [take_snoc default hlt]; simp) | omega)
        · rw [if_neg hlt]
          obtain rfl : i = L.length := by omega
          simp only [go_sem, List.take_length]
          exact ⟨hfull, by rw [hfull]; exact avle_refl _⟩
theorem l_all_succ {α : Type} {l : List α} {p : α → Bool} {i : Nat} (d : α) (h : (l.take i).all p = true) (hi : i < l.length) (hp : p (l.getD i d) = true) : (l.take (i + 1)).all p = true := by
  rw [take_snoc d hi, List.all_append, h]; simpa using hp
theorem l_all_false {α : Type} {l : List α} {p : α → Bool} {i : Nat} (d : α) (hi : i < l.length) (hp : p (l.getD i d) = false) : l.all p = false := by
  rw [List.all_eq_false]; exact ⟨_, mem_getD d hi, by rw [hp]; simp⟩
theorem l_all_end {α : Type} {l : List α} {p : α → Bool} (h : (l.take l.length).all p = true) : l.all p = true := by rwa [List.take_length] at h
def fixOut (w : Api.World) (k : PairKey) : Bool := !(d_world_fixturesExist w k)
theorem s_world_validContacts_f1 (w : Api.World) (k : PairKey) (hw : w.Bodies.length ≤ 1048576) : CallsA Tryz.prog F_world_validContacts_f1 [.agg k.enc, .ptr 32 0 0 1] [(32, .box w.enc)] (.sc (.bool (fixOut w k))) [(32, .box w.enc)] := by
  refine callsIO_of (rs := [_]) hm Tryz.func146 (by kernel_rfl) (by kernel_rfl) is_world_validContacts_f1 (by kernel_rfl : tmpsOf Tryz.f146.results.toList = some [3]) (by decide) (by kernel_rfl) ?_
  simp only [c_world_validContacts_f1, go_sem, ite_andP, ite_orP, dec_true, dec_false]
  refine CallGi_flat (s_world_fixturesExist w k hw) rfl ?_
  simp only [go_sem, ite_andP, ite_orP, dec_true, dec_false]
  refine retW_of [.share] [] [] rfl rfl (by simp [go_sem]) (by simp [assoc, go_sem]) (by simp [go_sem]) ?_
  simp only [go_sem, fixOut]
def keysC (w : Api.World) : List PairKey := w.Contacts.map fun c => c.Key
def okContacts (w : Api.World) : Bool := w.Contacts.all (fun c => d_world_validManifold c.Manifold) && d_broadphase_ValidKeys (keysC w) && d_broadphase_ValidKeys w.Overlaps && !((keysC w ++ w.Overlaps).any (fixOut w))
theorem okO_w (w : Api.World) : okO [(32, .box w.enc)] := by
  refine ⟨by simp [go_sem], ?_⟩
  simp [go_sem, idsL, AV.ids]
theorem s_world_validContacts (w : Api.World) (hw : Wsm w) : CallsA Tryz.prog F_world_validContacts [.agg w.enc] [] (.sc (.bool (okContacts w))) [] := by
  obtain ⟨w1, w2, w3, w4, w5, w6⟩ := hw
  refine callsI_of (rs := [_]) hm Tryz.func75 (by kernel_rfl) (by kernel_rfl) is_world_validContacts (by kernel_rfl : tmpsOf Tryz.f75.results.toList = some [2]) (by decide) (by kernel_rfl) ?_
  simp only [c_world_validContacts, go_sem, ite_andP, ite_orP, dec_true, dec_false]
  refine Wpi_loop hm (ι := {i : Nat // i ≤ w.Contacts.length ∧ (w.Contacts.take i).all (fun c => d_world_validManifold c.Manifold) = true}) (fun i => [(1, .share, .ptr 32 0 0 1), (3, if i.1 = 0 then .adopt else .share, .sl 7 0 i.1 i.1), (7, .share, encD 7 Contact.enc default w.Contacts), (8, .share, .sc (.int .i64 w.Contacts.length)), (9, .share, .sc (.int .i64 i.1))])
    (fun i => [(32, .box w.enc), (7, .arr 4 (encQ PairKey.enc default ((w.Contacts.take i.1).map fun c => c.Key)))]) (fun i => w.Contacts.length - i.1) ⟨0, by omega, rfl⟩ ?_ ?_
  · refine weakE_ [] [7] ?_
    simp only [go_sem, List.take_zero, List.map_nil]
    try simp
  · rintro ⟨i, hi, ht⟩
    simp only [c_world_validContactsb0, go_sem, ite_andP, ite_orP, dec_true, dec_false]
    by_cases hlt : (i : Int) < w.Contacts.length
    · rw [if_pos hlt]
      have hlt : i < w.Contacts.length := by omega
      have hmm := mem_getD default hlt
      refine ⟨ok_, ?_⟩
      refine CallGi_flat (s_world_validManifold (w.Contacts.getD i default).Manifold (w6 _ hmm)) rfl ?_
      simp only [go_sem, ite_andP, ite_orP, dec_true, dec_false]
      cases hv : d_world_validManifold (w.Contacts.getD i default).Manifold with
      | false =>
        rw [if_pos rfl]
        unfold okContacts
        have := l_all_false (p := fun c : Contact => d_world_validManifold c.Manifold) default hlt hv
        rw [this]; rfl
      | true =>
        rw [if_neg (by simp)]
        have hlen : (List.map (fun c : Contact => c.Key) (List.take i w.Contacts)).length = i := by simp; omega
        refine ⟨⟨by omega, by omega, by simp only [maxLen]; omega⟩, ?_⟩
        refine loop_next ⟨i + 1, by omega, l_all_succ default ht hlt hv⟩ (by show w.Contacts.length - (i + 1) < w.Contacts.length - i; omega) (weakE_ [] [] ?_)
        simp only [go_sem]
        refine ⟨by omega, (by rw [IntKind.wrap_i64]; omega), q_app1 (w.Contacts.getD i default).Key rfl ?_⟩
        rw [take_snoc default hlt, List.map_append]; rfl
    · rw [if_neg hlt]
      obtain rfl : i = w.Contacts.length := by omega
      have hall := l_all_end ht
      have hk : (List.map (fun c : Contact => c.Key) (List.take w.Contacts.length w.Contacts)) = keysC w := by rw [List.take_length]; rfl
      have hkl : (keysC w).length = w.Contacts.length := by simp [keysC]
      simp only [hk]
      refine CallGi_keep (s_broadphase_ValidKeys (keysC w) (by omega)) rfl ?_ ?_
      · simp only [argsC, go_sem, hkl]
      simp only [go_sem, ite_andP, ite_orP, dec_true, dec_false]
      refine CallGi_flat (s_broadphase_ValidKeys w.Overlaps w4) rfl ?_
      simp only [go_sem, ite_andP, ite_orP, dec_true, dec_false, hk, hkl]
      have hok : okContacts w = (d_broadphase_ValidKeys (keysC w) && d_broadphase_ValidKeys w.Overlaps && !((keysC w ++ w.Overlaps).any (fixOut w))) := by
        unfold okContacts; rw [hall, Bool.true_and]
      rw [hok]
      cases d_broadphase_ValidKeys (keysC w) with
      | false => rfl
      | true =>
        cases d_broadphase_ValidKeys w.Overlaps with
        | false => rfl
        | true =>
          rw [if_neg (by simp)]
          have hC := s_slices_Concat_PairKey [keysC w, w.Overlaps] (by simp; omega) (by simp)
          have hflat : [keysC w, w.Overlaps].flatten = keysC w ++ w.Overlaps := by simp
          rw [hflat] at hC
          refine CallGi_thaw hC ?_
          simp only [argsC, go_sem, ite_andP, ite_orP, dec_true, dec_false, hk, hkl]
          refine ⟨avle_lit2 (fun _ _ => rfl) (by simp [encLK, encD, hkl]) rfl rfl, ?_⟩
          refine CallGi_obj [true, true] [] (s_slices_ContainsFunc_PairKey (keysC w ++ w.Overlaps) F_world_validContacts_f1 [] [.ptr 32 0 0 1] [(32, .box w.enc)] (fixOut w) (by rw [List.length_append]; omega) (okO_w w) (by simp [go_sem, AV.ids]) (fun k _ => s_world_validContacts_f1 w k w1)) (by simp) (by simp) (by simp) (by simp [go_sem]) ?_
          simp only [go_sem, ite_andP, ite_orP, dec_true, dec_false, hk, hkl]
def d_r25_validContacts_L1 (w : Api.World) (i1 : Nat) (s1 : Unit) : (Unit) ⊕ (Bool) := let v6 := (d_r25_validPoints (w.Contacts.getD i1 default).Manifold); if v6 = false then (.inr false) else (.inl ())
def d_r25_validContacts (w : Api.World) : Bool := let v1 := (d_r25_Keys w.Contacts); let v2 := (d_r22_ValidKeys v1); let v3 := (d_r22_ValidKeys w.Overlaps); let v4 := (d_r25_resolved w v1); let v5 := (d_r25_resolved w w.Overlaps); if ((((!v2) || (!v3)) || (!v4)) || (!v5)) = true then (false) else ((match itrE (d_r25_validContacts_L1 w) w.Contacts.length () with | .inr r => r | .inl s1 => true))
set_option maxHeartbeats 200000 in
theorem s_r25_validContacts (w : Api.World) (hw : Wsm w) : CallsA Tryz.prog F_r25_validContacts [.agg w.enc] [] (.sc (.bool (d_r25_validContacts w))) [] := by
  have hw1 := hw.1; have hw3 := hw.2.2.1; have hw4 := hw.2.2.2.1
  refine callsI_of (rs := [_]) hm Tryz.func171 (by kernel_rfl) (by kernel_rfl) is_r25_validContacts (by kernel_rfl : tmpsOf Tryz.f171.results.toList = some [2]) (by decide) (by kernel_rfl) ?_
  simp only [c_r25_validContacts, go_sem, ite_andP, ite_orP, dec_true, dec_false]
  (repeat (with_reducible refine And.intro ?_ ?_; focus exact ob_))
  have p1 := keys_len w.Contacts
  refine CallGi_flat (s_r25_Keys w.Contacts (by (first | exact hw.2.2.2.2.2 _ (mem_getD _ (by omega)) | exact hw.1 | exact hw.2.2.1 | exact hw.2.2.2.1 | assumption | omega | (simp_all; done) | (simp_all; omega)))) rfl ?_
  generalize hv1 : (d_r25_Keys w.Contacts) = v1 at *
  simp only [go_sem, ite_andP, ite_orP, dec_true, dec_false]
  (repeat (with_reducible refine And.intro ?_ ?_; focus exact ob_))
  refine CallGi_flat (s_r22_ValidKeys v1 (by (first | exact hw.2.2.2.2.2 _ (mem_getD _ (by omega)) | exact hw.1 | exact hw.2.2.1 | exact hw.2.2.2.1 | assumption | omega | (simp_all; done) | (simp_all; omega)))) rfl ?_
  generalize hv2 : (d_r22_ValidKeys v1) = v2
  simp only [go_sem, ite_andP, ite_orP, dec_true, dec_false]
  (repeat (with_reducible refine And.intro ?_ ?_; focus exact ob_))
  refine CallGi_flat (s_r22_ValidKeys w.Overlaps (by (first | exact hw.2.2.2.2.2 _ (mem_getD _ (by omega)) | exact hw.1 | exact hw.2.2.1 | exact hw.2.2.2.1 | assumption | omega | (simp_all; done) | (simp_all; omega)))) rfl ?_
  generalize hv3 : (d_r22_ValidKeys w.Overlaps) = v3
  simp only [go_sem, ite_andP, ite_orP, dec_true, dec_false]
  (repeat (with_reducible refine And.intro ?_ ?_; focus exact ob_))
  refine CallGi_flat (s_r25_resolved w v1 (by (first | exact hw.2.2.2.2.2 _ (mem_getD _ (by omega)) | exact hw.1 | exact hw.2.2.1 | exact hw.2.2.2.1 | assumption | omega | (simp_all; done) | (simp_all; omega))) (by (first | exact hw.2.2.2.2.2 _ (mem_getD _ (by omega)) | exact hw.1 | exact hw.2.2.1 | exact hw.2.2.2.1 | assumption | omega | (simp_all; done) | (simp_all; omega)))) rfl ?_
  generalize hv4 : (d_r25_resolved w v1) = v4
  simp only [go_sem, ite_andP, ite_orP, dec_true, dec_false]
  (repeat (with_reducible refine And.intro ?_ ?_; focus exact ob_))
  refine CallGi_flat (s_r25_resolved w w.Overlaps (by (first | exact hw.2.2.2.2.2 _ (mem_getD _ (by omega)) | exact hw.1 | exact hw.2.2.1 | exact hw.2.2.2.1 | assumption | omega | (simp_all; done) | (simp_all; omega))) (by (first | exact hw.2.2.2.2.2 _ (mem_getD _ (by omega)) | exact hw.1 | exact hw.2.2.1 | exact hw.2.2.2.1 | assumption | omega | (simp_all; done) | (simp_all; omega)))) rfl ?_
  generalize hv5 : (d_r25_resolved w w.Overlaps) = v5
  simp only [go_sem, ite_andP, ite_orP, dec_true, dec_false]
  (repeat (with_reducible refine And.intro ?_ ?_; focus exact ob_))
  by_cases h2 : ((((!v2) || (!v3)) || (!v4)) || (!v5)) = true
  · first | rw [if_pos h2] | rw [if_pos (by simp_all)] | rw [if_pos (by omega)]
    (repeat (with_reducible refine And.intro ?_ ?_; focus exact ob_))
    have hd : d_r25_validContacts w = false := by first | with_reducible rfl | (unfold d_r25_validContacts; exact hd_)
    try rw [hd]
    try simp only [go_sem, ite_andP, ite_orP, dec_true, dec_false]
    all_goals exact fin_
  · first | rw [if_neg h2] | rw [if_neg (by simp_all)] | rw [if_neg (by omega)]
    (repeat (with_reducible refine And.intro ?_ ?_; focus exact ob_))
    refine Wpi_loop hm (ι := {p : Nat × Unit // p.1 ≤ w.Contacts.length ∧ itrE (d_r25_validContacts_L1 w) p.1 () = .inl p.2}) (fun i => [(1, .share, .ptr 32 0 0 1), (4, .share, .sc (.int .i64 (i.1.1 : Int)))]) (fun i => [(32, .box [.sc (.int .i64 w.Settings.TimeStep), .sc (.int .i64 w.Settings.Gravity.X), .sc (.int .i64 w.Settings.Gravity.Y), .sc (.int .i64 w.Settings.Iterations), .sc (.int .i64 w.Settings.SleepSteps), encD 20 Body.enc default w.Bodies, encD 24 Joint.enc default w.Joints, encD 7 Contact.enc default w.Contacts, encD 4 PairKey.enc default w.Overlaps, .sc (.int .i64 w.NextID), .sc (.int .i64 w.Frame)])]) (fun i => w.Contacts.length - i.1.1) ⟨(0, ()), by omega, rfl⟩ ?_ ?_
    · refine weakE_ [] [] ?_
      simp only [go_sem, ite_andP, ite_orP, dec_true, dec_false, itr_zero]
      all_goals exact fin_
    · rintro ⟨⟨i1, s1⟩, hi1, hs1⟩
      replace hi1 : i1 ≤ w.Contacts.length := hi1
      replace hs1 : itrE (d_r25_validContacts_L1 w) i1 () = .inl s1 := hs1
      simp only [c_r25_validContactsb0, go_sem, ite_andP, ite_orP, dec_true, dec_false]
      (repeat (with_reducible refine And.intro ?_ ?_; focus exact ob_))
      by_cases h3 : (i1 : Int) < (w.Contacts.length : Int)
      · first | rw [if_pos h3] | rw [if_pos (by simp_all)] | rw [if_pos (by omega)]
        have hlt1 : i1 < w.Contacts.length := by first | omega | (simp only [IntKind.wrap_i64] at h3; omega)
        (repeat (with_reducible refine And.intro ?_ ?_; focus exact ob_))
        refine CallGi_flat (s_r25_validPoints (w.Contacts.getD i1 default).Manifold (by (first | exact hw.2.2.2.2.2 _ (mem_getD _ (by omega)) | exact hw.1 | exact hw.2.2.1 | exact hw.2.2.2.1 | assumption | omega | (simp_all; done) | (simp_all; omega)))) rfl ?_
        generalize hv6 : (d_r25_validPoints (w.Contacts.getD i1 default).Manifold) = v6
        simp only [go_sem, ite_andP, ite_orP, dec_true, dec_false]
        (repeat (with_reducible refine And.intro ?_ ?_; focus exact ob_))
        by_cases h4 : v6 = false
        · first | rw [if_pos h4] | rw [if_pos (by simp_all)] | rw [if_pos (by omega)]
          (repeat (with_reducible refine And.intro ?_ ?_; focus exact ob_))
          have e1 : itrE (d_r25_validContacts_L1 w) (i1 + 1) () = .inr false := itrE_inl hs1 (by first | with_reducible rfl | (unfold d_r25_validContacts_L1; exact hd_))
          replace e1 := itrE_stop e1 (show i1 + 1 ≤ w.Contacts.length by omega)
          have hd : d_r25_validContacts w = false := by first | with_reducible rfl | (unfold d_r25_validContacts; exact hd_)
          try rw [hd]
          try simp only [go_sem, ite_andP, ite_orP, dec_true, dec_false]
          all_goals exact fin_
        · first | rw [if_neg h4] | rw [if_neg (by simp_all)] | rw [if_neg (by omega)]
          (repeat (with_reducible refine And.intro ?_ ?_; focus exact ob_))
          have hn : itrE (d_r25_validContacts_L1 w) (i1 + 1) () = .inl () := itrE_inl hs1 (by first | with_reducible rfl | (unfold d_r25_validContacts_L1; exact hd_))
          refine loop_next ⟨(i1 + 1, ()), by omega, hn⟩ (by show w.Contacts.length - (i1 + 1) < w.Contacts.length - i1; omega) (weakE_ [] [] ?_)
          simp only [go_sem, ite_andP, ite_orP, dec_true, dec_false]
          all_goals exact fin_
      · first | rw [if_neg h3] | rw [if_neg (by simp_all)] | rw [if_neg (by omega)]
        (repeat (with_reducible refine And.intro ?_ ?_; focus exact ob_))
        have hge : i1 = w.Contacts.length := by first | omega | (simp only [IntKind.wrap_i64] at h3; omega)
        subst hge
        have hd : d_r25_validContacts w = true := by first | with_reducible rfl | (unfold d_r25_validContacts; exact hd_)
        try rw [hd]
        try simp only [go_sem, ite_andP, ite_orP, dec_true, dec_false]
        all_goals exact fin_


end Go.Abs
