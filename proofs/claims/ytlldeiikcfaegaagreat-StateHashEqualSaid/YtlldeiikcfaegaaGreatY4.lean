/- A part of the walk: contracts of functions that the statement reaches. -/
import Derived.Test.YtlldeiikcfaegaaGreatAbsC
import Derived.Test.YtlldeiikcfaegaaGreatY2
import Derived.Test.YtlldeiikcfaegaaGreatS5
import Derived.Test.YtlldeiikcfaegaaGreatI9
import Derived.Test.YtlldeiikcfaegaaGreatSK
import Derived.Test.YtlldeiikcfaegaaGreatS6
set_option linter.unusedSimpArgs false
set_option linter.unusedVariables false
set_option linter.unnecessarySimpa false
set_option maxRecDepth 100000
set_option maxHeartbeats 2000000
set_option linter.unusedSimpArgs false
set_option linter.unusedVariables false
namespace Go.Abs
open Go.Proofs
open Api
/-- a call's own slice, given back, is data, also where the row is longer -/
theorem CallsA.dataResL {P : Program} {f : FuncId} {args : List AV} {id z len : Nat} {s : Sq} (h : CallsA P f args [] (.sl id 0 len s.n) [(id, .arr z s)]) : CallsA P f args [] (.dsl z len s.g) [] := by
  refine ⟨h.1, fun G w ob vals hs hr => (h.2 G w ob vals hs hr).mono ?_⟩
  rintro e w' ⟨v, G', ob', rfl, h1, h2, h3, h4⟩
  have mid : ofL [(id, AObj.arr z s)] id = some (.arr z s) := by rw [ofL1]; simp
  obtain ⟨G2, a1, a2, a3, _⟩ := h1.freeze mid
  have hd := frz_dsl a1 (upd_same _ _ _) (h2.ext a2 (fun _ _ => rfl) (OBext.refl ob')) rfl
  have hd : Rel G2 w' ob' (.dsl z len s.g) v := by simpa using hd
  have hob : ∀ q, ob q = none := fun q => (hs.dom q).1 rfl
  refine ⟨v, G2, fun _ => none, rfl, ⟨fun q => ⟨fun _ => rfl, fun _ => rfl⟩, (by intro _ _ _ _ _ h; cases h), a1.lt, (by intro _ _ _ h; cases h), (by intro _ _ _ _ h; cases h)⟩,
    hd.ob_free rfl, ⟨h3.size, h3.same, fun b hb => ?_, fun b hb => a2 b (h3.sub b hb), fun b hb => ?_, h3.os, h3.tape, h3.output⟩, fun q j hj => by rw [hob q] at hj; cases hj⟩
  · obtain ⟨q, j, hj, _⟩ := hb; cases hj
  · rcases a3 b hb with hb | hb
    · exact h3.new b hb
    · rcases h3.blk b hb with hb | hb
      · exact .inr (.inr hb)
      · exact .inr (.inl hb)
/-- do the two worlds differ in the body with this number? -/
def cP (a b : List Body) (id : Int) : Bool := match bF a id, bF b id with
  | some p, some q => !decide (p = q)
  | _, _ => true
def idsP (a b : List Body) (bs : List Body) : List Int := (bs.filter fun x => cP a b x.ID).map fun x => x.ID
theorem idsP_snoc {a b bs : List Body} {i : Nat} (h : i < bs.length) : idsP a b (bs.take (i + 1)) = if cP a b (bs.getD i default).ID = true then idsP a b (bs.take i) ++ [(bs.getD i default).ID] else idsP a b (bs.take i) := by
  unfold idsP
  rw [take_snoc default h, List.filter_append, List.map_append]
  generalize bs.getD i default = x
  cases hc : cP a b x.ID with
  | true => rw [if_pos rfl]; simp [hc]
  | false => rw [if_neg (by simp)]; simp [hc]
theorem idsP_len (a b bs : List Body) : (idsP a b bs).length ≤ bs.length := by
  unfold idsP; rw [List.length_map]; exact List.length_filter_le _ _
theorem idsP_app (a b u v : List Body) : idsP a b (u ++ v) = idsP a b u ++ idsP a b v := by
  unfold idsP; rw [List.filter_append, List.map_append]
/-- the bodies of the first so many worlds -/
def two (a b : Api.World) (j : Nat) : List Body := (([a, b].take j).flatMap fun w => w.Bodies)
theorem two_snoc {a b : Api.World} {j : Nat} (h : j < 2) : two a b (j + 1) = two a b j ++ ([a, b].getD j a).Bodies := by
  match j, h with
  | 0, _ => simp [two]
  | 1, _ => simp [two]
def chgL (a b : Api.World) : List Int := cmpct (msort (idsP a.Bodies b.Bodies (a.Bodies ++ b.Bodies)))
theorem bF_mem {l : List Body} {k : Int} {b : Body} (h : bF l k = some b) : b ∈ l := List.mem_of_find?_eq_some h
theorem s_ChangedBodies_own (a b : Api.World) (ha : Wsm a) (hb : Wsm b) : CallsA Tryz.prog F_statehash_ChangedBodies [.agg a.enc, .agg b.enc] [] (.sl 1 0 (chgL a b).length (idsP a.Bodies b.Bodies (a.Bodies ++ b.Bodies)).length)
    [(1, .arr 1 (encQ encInt 0 (chgL a b ++ List.replicate ((idsP a.Bodies b.Bodies (a.Bodies ++ b.Bodies)).length - (chgL a b).length) 0)))] := by
  have ha1 := ha.1
  have hb1 := hb.1
  refine callsIO_of (rs := [_]) hm Tryz.func50 (by kernel_rfl) (by kernel_rfl) is_statehash_ChangedBodies (by kernel_rfl : tmpsOf Tryz.f50.results.toList = some [4]) (by decide) (by kernel_rfl) ?_
  simp only [c_statehash_ChangedBodies, go_sem]
  refine CallGi_obj [true] [] (s_statehash_bodiesByID a ha1) (by simp) (by simp [go_sem]) (by simp [go_sem]) (by simp) ?_
  simp only [go_sem]
  refine CallGi_obj [true] [(1, 2)] (s_statehash_bodiesByID b hb1) (by simp) (by simp [go_sem]) (by simp [go_sem]) (by simp) ?_
  simp only [go_sem]
  have t0 : idsP a.Bodies b.Bodies (two a b 0) = [] := rfl
  refine Wpi_loop hm (ι := {j : Nat // j ≤ 2}) (fun j => [(5, .share, .mp 4), (6, .share, .mp 5), (7, if j.1 = 0 then .adopt else .share, .sl 1 0 (idsP a.Bodies b.Bodies (two a b j.1)).length (idsP a.Bodies b.Bodies (two a b j.1)).length), (22, .share, .sl 8 0 2 2), (23, .share, .sc (.int .i64 2)), (24, .share, .sc (.int .i64 j.1))])
    (fun j => [(4, .map .i64 (bmE (firsts a.Bodies))), (5, .map .i64 (bmE (firsts b.Bodies))), (1, .arr 1 (encQ encInt 0 (idsP a.Bodies b.Bodies (two a b j.1)))), (8, .arr 11 (encQ Api.World.enc a [a, b]))]) (fun j => 2 - j.1) ⟨0, by omega⟩ ?_ ?_
  · refine weakE_ [(8, 368), (4, 1), (5, 2)] [1] ?_
    simp only [t0, List.length_nil, go_sem]
    exact ⟨rfl, rfl, rfl, q_lit (z := 11) (enc := Api.World.enc) (fun _ _ => rfl) rfl rfl⟩
  · rintro ⟨j, hj⟩
    have hLl := idsP_len a.Bodies b.Bodies (two a b j)
    have hTl : (two a b j).length ≤ 2097152 := by
      match j, hj with
      | 0, _ => simp [two]
      | 1, _ => simp [two]; omega
      | 2, _ => simp [two]; omega
    simp only [c_statehash_ChangedBodiesb1, go_sem]
    by_cases hlt : j < 2
    · rw [if_pos (by omega)]
      refine ⟨ok_, ?_⟩
      have ht := two_snoc (a := a) (b := b) hlt
      have hw1 : ([a, b].getD j a).Bodies.length ≤ 1048576 := by
        match j, hlt with
        | 0, _ => exact ha1
        | 1, _ => exact hb1
      generalize [a, b].getD j a = w at *
      generalize two a b j = T at *
      refine Wpi_loop hm (ι := {k : Nat // k ≤ w.Bodies.length}) (fun k => [(5, .share, .mp 4), (6, .share, .mp 5), (7, .share, .sl 1 0 (idsP a.Bodies b.Bodies T ++ idsP a.Bodies b.Bodies (w.Bodies.take k.1)).length (idsP a.Bodies b.Bodies T ++ idsP a.Bodies b.Bodies (w.Bodies.take k.1)).length), (22, .share, .sl 8 0 2 2), (23, .share, .sc (.int .i64 2)), (24, .share, .sc (.int .i64 j)),
          (29, .share, encD 20 Body.enc default w.Bodies), (30, .share, .sc (.int .i64 w.Bodies.length)), (31, .share, .sc (.int .i64 k.1))])
        (fun k => [(4, .map .i64 (bmE (firsts a.Bodies))), (5, .map .i64 (bmE (firsts b.Bodies))), (1, .arr 1 (encQ encInt 0 (idsP a.Bodies b.Bodies T ++ idsP a.Bodies b.Bodies (w.Bodies.take k.1)))), (8, .arr 11 (encQ Api.World.enc a [a, b]))]) (fun k => w.Bodies.length - k.1) ⟨0, by omega⟩ ?_ ?_
      · refine weakE_ [] [] ?_
        have k0 : idsP a.Bodies b.Bodies [] = [] := rfl
        simp only [List.take_zero, k0, List.append_nil, go_sem]
        try exact ⟨rfl, rfl⟩
      · rintro ⟨k, hk⟩
        have hLk := idsP_len a.Bodies b.Bodies (w.Bodies.take k)
        rw [List.length_take] at hLk
        by_cases hkl : k < w.Bodies.length
        · have hs := idsP_snoc (a := a.Bodies) (b := b.Bodies) hkl
          cases hA : bF a.Bodies (w.Bodies.getD k default).ID with
          | none =>
            have mA : mget (bmE (firsts a.Bodies)) (w.Bodies.getD k default).ID = none := by rw [mget_bmE, bF_firsts, hA]; rfl
            cases hB : bF b.Bodies (w.Bodies.getD k default).ID with
            | none =>
              have mB : mget (bmE (firsts b.Bodies)) (w.Bodies.getD k default).ID = none := by rw [mget_bmE, bF_firsts, hB]; rfl
              have hc : cP a.Bodies b.Bodies (w.Bodies.getD k default).ID = true := by unfold cP; rw [hA]
              rw [if_pos hc] at hs
              have hs2 : idsP a.Bodies b.Bodies T ++ idsP a.Bodies b.Bodies (w.Bodies.take (k + 1)) = (idsP a.Bodies b.Bodies T ++ idsP a.Bodies b.Bodies (w.Bodies.take k)) ++ [(w.Bodies.getD k default).ID] := by rw [hs, List.append_assoc]
              simp only [c_statehash_ChangedBodiesb0, mA, mB, zB20, Option.getD_none, Option.getD_some, Option.isSome_none, Option.isSome_some, go_sem]
              rw [if_pos (by omega)]
              refine ⟨ok_, ?_⟩
              refine CallGi_skip (by simp) (.sc (.bool false)) ?_
              simp only [go_sem]
              refine ⟨⟨by simp only [List.length_append]; omega, by simp only [List.length_append, maxLen]; omega⟩, ?_⟩
              refine loop_next ⟨k + 1, by omega⟩ (by show w.Bodies.length - (k + 1) < w.Bodies.length - k; omega) (weakE_ [] [] ?_)
              simp only [hs2, List.length_append, List.length_singleton, go_sem]
              exact ⟨by omega, (by rw [IntKind.wrap_i64]; omega), rfl, rfl, q_app1 (w.Bodies.getD k default).ID rfl (List.append_assoc _ _ _).symm⟩
            | some q =>
              have mB : mget (bmE (firsts b.Bodies)) (w.Bodies.getD k default).ID = some (.agg q.enc) := by rw [mget_bmE, bF_firsts, hB]; rfl
              have hc : cP a.Bodies b.Bodies (w.Bodies.getD k default).ID = true := by unfold cP; rw [hA]
              rw [if_pos hc] at hs
              have hs2 : idsP a.Bodies b.Bodies T ++ idsP a.Bodies b.Bodies (w.Bodies.take (k + 1)) = (idsP a.Bodies b.Bodies T ++ idsP a.Bodies b.Bodies (w.Bodies.take k)) ++ [(w.Bodies.getD k default).ID] := by rw [hs, List.append_assoc]
              simp only [c_statehash_ChangedBodiesb0, mA, mB, zB20, Option.getD_none, Option.getD_some, Option.isSome_none, Option.isSome_some, go_sem]
              rw [if_pos (by omega)]
              refine ⟨ok_, ?_⟩
              refine CallGi_skip (by simp) (.sc (.bool false)) ?_
              simp only [go_sem]
              refine ⟨⟨by simp only [List.length_append]; omega, by simp only [List.length_append, maxLen]; omega⟩, ?_⟩
              refine loop_next ⟨k + 1, by omega⟩ (by show w.Bodies.length - (k + 1) < w.Bodies.length - k; omega) (weakE_ [] [] ?_)
              simp only [hs2, List.length_append, List.length_singleton, go_sem]
              exact ⟨by omega, (by rw [IntKind.wrap_i64]; omega), rfl, rfl, q_app1 (w.Bodies.getD k default).ID rfl (List.append_assoc _ _ _).symm⟩
          | some p =>
            have mA : mget (bmE (firsts a.Bodies)) (w.Bodies.getD k default).ID = some (.agg p.enc) := by rw [mget_bmE, bF_firsts, hA]; rfl
            cases hB : bF b.Bodies (w.Bodies.getD k default).ID with
            | none =>
              have mB : mget (bmE (firsts b.Bodies)) (w.Bodies.getD k default).ID = none := by rw [mget_bmE, bF_firsts, hB]; rfl
              have hc : cP a.Bodies b.Bodies (w.Bodies.getD k default).ID = true := by unfold cP; rw [hA, hB]
              rw [if_pos hc] at hs
              have hs2 : idsP a.Bodies b.Bodies T ++ idsP a.Bodies b.Bodies (w.Bodies.take (k + 1)) = (idsP a.Bodies b.Bodies T ++ idsP a.Bodies b.Bodies (w.Bodies.take k)) ++ [(w.Bodies.getD k default).ID] := by rw [hs, List.append_assoc]
              simp only [c_statehash_ChangedBodiesb0, mA, mB, zB20, Option.getD_none, Option.getD_some, Option.isSome_none, Option.isSome_some, go_sem]
              rw [if_pos (by omega)]
              refine ⟨ok_, ?_⟩
              refine CallGi_skip (by simp) (.sc (.bool false)) ?_
              simp only [go_sem]
              refine ⟨⟨by simp only [List.length_append]; omega, by simp only [List.length_append, maxLen]; omega⟩, ?_⟩
              refine loop_next ⟨k + 1, by omega⟩ (by show w.Bodies.length - (k + 1) < w.Bodies.length - k; omega) (weakE_ [] [] ?_)
              simp only [hs2, List.length_append, List.length_singleton, go_sem]
              exact ⟨by omega, (by rw [IntKind.wrap_i64]; omega), rfl, rfl, q_app1 (w.Bodies.getD k default).ID rfl (List.append_assoc _ _ _).symm⟩
            | some q =>
              have mB : mget (bmE (firsts b.Bodies)) (w.Bodies.getD k default).ID = some (.agg q.enc) := by rw [mget_bmE, bF_firsts, hB]; rfl
              have hc : cP a.Bodies b.Bodies (w.Bodies.getD k default).ID = !decide (p = q) := by unfold cP; rw [hA, hB]
              rw [hc] at hs
              simp only [c_statehash_ChangedBodiesb0, mA, mB, zB20, Option.getD_none, Option.getD_some, Option.isSome_none, Option.isSome_some, go_sem]
              rw [if_pos (by omega)]
              refine ⟨ok_, ?_⟩
              refine CallGi_flat (s_body_Equal p q (ha.2.2.2.2.1 _ (bF_mem hA))) rfl ?_
              simp only [go_sem]
              by_cases hpq : p = q
              · rw [decide_eq_true hpq, if_neg (by simp)] at hs
                rw [if_neg (by rw [decide_eq_true hpq]; simp)]
                refine loop_next ⟨k + 1, by omega⟩ (by show w.Bodies.length - (k + 1) < w.Bodies.length - k; omega) (weakE_ [] [] ?_)
                simp only [hs, go_sem]
                exact ⟨(by rw [IntKind.wrap_i64]; omega), rfl, rfl⟩
              · rw [decide_eq_false hpq, if_pos (show (!false) = true from rfl)] at hs
                have hs2 : idsP a.Bodies b.Bodies T ++ idsP a.Bodies b.Bodies (w.Bodies.take (k + 1)) = (idsP a.Bodies b.Bodies T ++ idsP a.Bodies b.Bodies (w.Bodies.take k)) ++ [(w.Bodies.getD k default).ID] := by rw [hs, List.append_assoc]
                rw [if_pos (by rw [decide_eq_false hpq])]
                refine ⟨⟨by simp only [List.length_append]; omega, by simp only [List.length_append, maxLen]; omega⟩, ?_⟩
                refine loop_next ⟨k + 1, by omega⟩ (by show w.Bodies.length - (k + 1) < w.Bodies.length - k; omega) (weakE_ [] [] ?_)
                simp only [hs2, List.length_append, List.length_singleton, go_sem]
                exact ⟨by omega, (by rw [IntKind.wrap_i64]; omega), rfl, rfl, q_app1 (w.Bodies.getD k default).ID rfl (List.append_assoc _ _ _).symm⟩
        · have hneg : ¬ ((k : Int) < w.Bodies.length) := by omega
          simp only [c_statehash_ChangedBodiesb0, hneg, decide_false, go_sem]
          obtain rfl : k = w.Bodies.length := by omega
          have e : idsP a.Bodies b.Bodies (two a b (j + 1)) = idsP a.Bodies b.Bodies T ++ idsP a.Bodies b.Bodies w.Bodies := by rw [ht, idsP_app]
          refine loop_next ⟨j + 1, by omega⟩ (by show 2 - (j + 1) < 2 - j; omega) (weakE_ [] [] ?_)
          simp only [e, List.take_length, go_sem]
          exact ⟨(by rw [IntKind.wrap_i64]; omega), rfl, rfl⟩
    · rw [if_neg (by omega)]
      obtain rfl : j = 2 := by omega
      have e2 : two a b 2 = a.Bodies ++ b.Bodies := by simp [two]
      rw [e2] at hLl ⊢
      have hml : (a.Bodies ++ b.Bodies).length ≤ 2097152 := by rw [List.length_append]; omega
      have hcl : chgL a b = cmpct (msort (idsP a.Bodies b.Bodies (a.Bodies ++ b.Bodies))) := rfl
      rw [hcl]
      generalize idsP a.Bodies b.Bodies (a.Bodies ++ b.Bodies) = L at *
      have hm4 := msort_len L
      refine CallGi_subw (s_slices_Sort_int L (by omega)) (by refine ⟨by simp, ?_⟩; simp) rfl (by simp [go_sem]) (by simp [go_sem, AV.ids]) rfl ?_
      simp only [go_sem]
      have hS := s_slices_Compact_int (msort L) (by omega)
      rw [hm4] at hS
      refine CallGi_subw hS (by refine ⟨by simp, ?_⟩; simp) rfl (by simp [go_sem]) (by simp [go_sem, AV.ids]) rfl ?_
      simp only [go_sem]
      refine retW_of [.share] [] [] rfl rfl (by simp [go_sem]) (by simp [assoc, go_sem]) (by simp [go_sem]) ?_
      simp only [go_sem]
theorem s_ChangedBodies (a b : Api.World) (ha : Wsm a) (hb : Wsm b) : CallsA Tryz.prog F_statehash_ChangedBodies [.agg a.enc, .agg b.enc] [] (encD 1 encInt 0 (chgL a b)) [] := by
  have h := s_ChangedBodies_own a b ha hb
  have hl := cmpct_len (msort (idsP a.Bodies b.Bodies (a.Bodies ++ b.Bodies)))
  have hm := msort_len (idsP a.Bodies b.Bodies (a.Bodies ++ b.Bodies))
  have hc : (chgL a b).length ≤ (idsP a.Bodies b.Bodies (a.Bodies ++ b.Bodies)).length := by unfold chgL; omega
  generalize idsP a.Bodies b.Bodies (a.Bodies ++ b.Bodies) = L at *
  generalize hC : chgL a b = C at *
  have hn : (C ++ List.replicate (L.length - C.length) 0).length = L.length := by simp; omega
  have hq : (encQ encInt 0 (C ++ List.replicate (L.length - C.length) 0)).n = L.length := hn
  have h' : CallsA Tryz.prog F_statehash_ChangedBodies [.agg a.enc, .agg b.enc] [] (.sl 1 0 C.length (encQ encInt 0 (C ++ List.replicate (L.length - C.length) 0)).n) [(1, .arr 1 (encQ encInt 0 (C ++ List.replicate (L.length - C.length) 0)))] := by
    rw [hq]; exact h
  refine (CallsA.dataResL h').res_le (avle_ok _ _ ?_)
  refine ⟨rfl, rfl, fun i hi => ?_⟩
  have e : (C ++ List.replicate (L.length - C.length) 0).getD i 0 = C.getD i 0 := by
    rw [List.getD, List.getElem?_append_left hi]; rfl
  simp only [encQ_g, encAt_app, e]
  exact avleL_refl _

end Go.Abs
