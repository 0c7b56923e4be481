/- A part of the walk: contracts of functions that the statement reaches. -/
import Derived.Test.YtlldeiikcfaegaaGreatAbsC
import Derived.Test.YtlldeiikcfaegaaGreatS4
set_option linter.unusedSimpArgs false
set_option linter.unusedVariables false
set_option linter.unnecessarySimpa false
set_option maxRecDepth 100000
set_option maxHeartbeats 2000000
set_option linter.unusedSimpArgs false
set_option linter.unusedVariables false
namespace Go.Abs
open Go.Proofs
open Api
/-- a call whose contract turns objects of the state -/
theorem CallGi_subw {P : Program} {m : Nat → Option AObj} {f : FuncId} {avs : List AV} {b : Bool} {Q : ContR} {O O' : List (Nat × AObj)} {r : AV} (hc : CallsA P f avs O r O') (h : okO O) (hk : O'.map (·.1) = O.map (·.1)) (hm : ∀ p ∈ O, m p.1 = some p.2)
    (ha : ∀ a ∈ avs, ∀ i ∈ a.ids, (ofL O i).isSome) (hb : b = true) (hK : @Ri Q b ⟨some r, O'⟩) : @CallGi P m f avs b Q := by
  rw [← renO_id O'] at hK
  have hiff : ∀ i, (ofL O' i).isSome ↔ (ofL O i).isSome := fun i => by
    have key : ∀ (l : List (Nat × AObj)), (l.map (·.1)).Nodup → ((ofL l i).isSome ↔ i ∈ l.map (·.1)) := fun l hl => by
      constructor
      · intro hs
        obtain ⟨o, ho⟩ := Option.isSome_iff_exists.1 hs
        exact List.mem_map_of_mem (f := (·.1)) (ofL_mem' hl ho)
      · intro hs
        rw [List.mem_map] at hs
        obtain ⟨p, hp, rfl⟩ := hs
        rw [ofL_mem_eq hl hp]; rfl
    rw [key O' (by rw [hk]; exact h.1), key O h.1, hk]
  refine ⟨⟨some r, renO id O'⟩, fun _ => ?_, fun _ => hb, hK⟩
  have := CallDoes.mk (P := P) (m := m) (avs.map fun _ => true) avs O r O' id [] false hc (argsOk_same ha)
    (fun i o hi => by rw [aobj_ren_id]; exact hm _ (ofL_mem' h.1 hi))
    (fun i cs hi j hj => h.2 _ (ofL_mem' h.1 hi) cs rfl j hj) (fun i hi => (hiff i).2 hi) (fun i hi => .inl ((hiff i).1 hi)) (by show (O'.map (·.1)).Nodup; rw [hk]; exact h.1) (fun e => by cases e)
  simpa [AV.ren_id] using this

def addI (n : Nat) (l : List Int) (i : Int) : List Int := if 0 ≤ i ∧ i < n then l ++ [i] else l
def addID (w : Api.World) (l : List Int) (id : Int) : List Int := if id ≠ 0 then addI w.Bodies.length l (findB w id) else l
def addO (w : Api.World) (l : List Int) : List (Nat × AObj) := [(48, .box w.enc), (96, .box [.sl 1 0 l.length l.length]), (1, .arr 1 (encQ encInt 0 l)), (112, .box [.fn (.func F_island_Bodies_f1) [] [.ptr 48 0 0 1, .ptr 96 0 0 1]])]
attribute [go_sem] addO
theorem okO_addO (w : Api.World) (l : List Int) : okO (addO w l) := by
  refine ⟨by simp [go_sem], ?_⟩
  simp [go_sem, idsL, AV.ids]
theorem addI_len (n : Nat) (l : List Int) (i : Int) : (addI n l i).length ≤ l.length + 1 := by unfold addI; split <;> simp
theorem addID_len (w : Api.World) (l : List Int) (i : Int) : (addID w l i).length ≤ l.length + 1 := by
  unfold addID; split
  · exact addI_len _ _ _
  · omega
theorem s_island_Bodies_f1 (w : Api.World) (l : List Int) (i : Int) (hl : l.length ≤ 10000000) : CallsA Tryz.prog F_island_Bodies_f1 [.sc (.int .i64 i), .ptr 48 0 0 1, .ptr 96 0 0 1] (addO w l) (.tup []) (addO w (addI w.Bodies.length l i)) := by
  refine callsIO_of (rs := []) hm Tryz.func98 (by kernel_rfl) (by kernel_rfl) is_island_Bodies_f1 (by kernel_rfl : tmpsOf Tryz.f98.results.toList = some []) (by decide) (by kernel_rfl) ?_
  simp only [c_island_Bodies_f1, go_sem]
  by_cases hc : 0 ≤ i ∧ i < (w.Bodies.length : Int)
  · have he : addI w.Bodies.length l i = l ++ [i] := by unfold addI; rw [if_pos hc]
    rw [if_pos (by rw [if_pos hc.1]; exact decide_eq_true hc.2)]
    refine ⟨ok_, ?_⟩
    refine retW_of [] [] [] rfl rfl (by simp [go_sem]) (by simp [assoc, go_sem]) (by simp [go_sem]) ?_
    simp only [go_sem, he, List.length_append, List.length_singleton]
    exact q_app1 i rfl rfl
  · have he : addI w.Bodies.length l i = l := by unfold addI; rw [if_neg hc]
    rw [if_neg (by
      intro h; apply hc
      by_cases c1 : 0 ≤ i
      · rw [if_pos c1] at h; exact ⟨c1, of_decide_eq_true h⟩
      · rw [if_neg c1] at h; cases h)]
    refine retW_of [] [] [] rfl rfl (by simp [go_sem]) (by simp [assoc, go_sem]) (by simp [go_sem]) ?_
    simp only [go_sem, he]
theorem s_island_Bodies_f2 (w : Api.World) (l : List Int) (i : Int) (hl : l.length ≤ 10000000) (hw : w.Bodies.length ≤ 1048576) : CallsA Tryz.prog F_island_Bodies_f2 [.sc (.int .i64 i), .ptr 112 0 0 1, .ptr 48 0 0 1] (addO w l) (.tup []) (addO w (addID w l i)) := by
  refine callsIO_of (rs := []) hm Tryz.func99 (by kernel_rfl) (by kernel_rfl) is_island_Bodies_f2 (by kernel_rfl : tmpsOf Tryz.f99.results.toList = some []) (by decide) (by kernel_rfl) ?_
  simp only [c_island_Bodies_f2, go_sem]
  by_cases hc : i = 0
  · have he : addID w l i = l := by unfold addID; rw [if_neg (by simp [hc])]
    rw [if_neg (by simp [hc])]
    refine retW_of [] [] [] rfl rfl (by simp [go_sem]) (by simp [assoc, go_sem]) (by simp [go_sem]) ?_
    simp only [go_sem, he]
  · have he : addID w l i = addI w.Bodies.length l (findB w i) := by unfold addID; rw [if_pos hc]
    rw [if_pos (by simp [hc])]
    refine CallGi_flat (s_world_FindBody w i hw) rfl ?_
    simp only [go_sem]
    refine CallGi_subw (s_island_Bodies_f1 w l (findB w i) hl) (okO_addO w l) rfl (by simp [go_sem]) (by simp [go_sem, AV.ids]) rfl ?_
    simp only [go_sem]
    refine retW_of [] [] [] rfl rfl (by simp [go_sem]) (by simp [assoc, go_sem]) (by simp [go_sem]) ?_
    simp only [go_sem, he]

def bodC (w : Api.World) (l : List Int) (i : Int) : List Int := if 0 ≤ i ∧ i < w.Contacts.length then addID w (addID w l (w.Contacts.getD i.toNat default).Key.BodyA) (w.Contacts.getD i.toNat default).Key.BodyB else l
def bodJ (w : Api.World) (l : List Int) (i : Int) : List Int := if 0 ≤ i ∧ i < w.Joints.length then addID w (addID w l (w.Joints.getD i.toNat default).BodyA) (w.Joints.getD i.toNat default).BodyB else l
def bod1 (w : Api.World) (x : Island) : List Int := x.Bodies.foldl (addI w.Bodies.length) []
def bod2 (w : Api.World) (x : Island) : List Int := x.Contacts.foldl (bodC w) (bod1 w x)
def bod3 (w : Api.World) (x : Island) : List Int := x.Joints.foldl (bodJ w) (bod2 w x)
theorem bodC_len (w : Api.World) (l : List Int) (i : Int) : (bodC w l i).length ≤ l.length + 2 := by
  unfold bodC; split
  · have h1 := addID_len w (addID w l (w.Contacts.getD i.toNat default).Key.BodyA) (w.Contacts.getD i.toNat default).Key.BodyB
    have h2 := addID_len w l (w.Contacts.getD i.toNat default).Key.BodyA
    omega
  · omega
theorem bodJ_len (w : Api.World) (l : List Int) (i : Int) : (bodJ w l i).length ≤ l.length + 2 := by
  unfold bodJ; split
  · have h1 := addID_len w (addID w l (w.Joints.getD i.toNat default).BodyA) (w.Joints.getD i.toNat default).BodyB
    have h2 := addID_len w l (w.Joints.getD i.toNat default).BodyA
    omega
  · omega
theorem fold_len {f : List Int → Int → List Int} {k : Nat} (hf : ∀ l i, (f l i).length ≤ l.length + k) (l : List Int) : ∀ (acc : List Int), (l.foldl f acc).length ≤ acc.length + k * l.length := by
  induction l with
  | nil => intro acc; simp
  | cons a l ih => intro acc; have := ih (f acc a); have := hf acc a; simp only [List.foldl_cons, List.length_cons, Nat.mul_add]; omega
theorem fold_snoc {f : List Int → Int → List Int} {l : List Int} {k : Nat} {acc : List Int} (h : k < l.length) : (l.take (k + 1)).foldl f acc = f ((l.take k).foldl f acc) (l.getD k 0) := by
  rw [take_snoc 0 h]; simp
def bodA (w : Api.World) (x : Island) (l : List Int) : List (Nat × AObj) := [(48, .box w.enc), (64, .box x.enc), (96, .box [.sl 1 0 l.length l.length]), (1, .arr 1 (encQ encInt 0 l)), (112, .box [.fn (.func F_island_Bodies_f1) [] [.ptr 48 0 0 1, .ptr 96 0 0 1]])]
attribute [go_sem] bodA
def bodL (w : Api.World) (x : Island) : List Int := cmpct (msort (bod3 w x))
theorem s_island_Bodies (w : Api.World) (x : Island) (hw : Wsm w) (hx : Ism x) : CallsA Tryz.prog F_island_Bodies [.agg w.enc, .agg x.enc] [] (.sl 1 0 (bodL w x).length (bod3 w x).length)
    [(1, .arr 1 (encQ encInt 0 (bodL w x ++ List.replicate ((bod3 w x).length - (bodL w x).length) 0)))] := by
  obtain ⟨w1, w2, w3, w4, w5, w6⟩ := hw
  obtain ⟨x1, x2, x3⟩ := hx
  refine callsIO_of (rs := [_]) hm Tryz.func41 (by kernel_rfl) (by kernel_rfl) is_island_Bodies (by kernel_rfl : tmpsOf Tryz.f41.results.toList = some [4]) (by decide) (by kernel_rfl) ?_
  simp only [c_island_Bodies, go_sem]
  refine Wpi_loop hm (ι := {i : Nat // i ≤ x.Bodies.length}) (fun i => [(2, .share, .ptr 48 0 0 1), (3, .share, .ptr 64 0 0 1), (5, .share, .ptr 96 0 0 1), (6, .share, .ptr 112 0 0 1), (7, .share, .fn (.func F_island_Bodies_f2) [] [.ptr 112 0 0 1, .ptr 48 0 0 1]), (17, .share, encD 1 encInt 0 x.Bodies), (18, .share, .sc (.int .i64 x.Bodies.length)), (19, .share, .sc (.int .i64 i.1))])
    (fun i => bodA w x ((x.Bodies.take i.1).foldl (addI w.Bodies.length) [])) (fun i => x.Bodies.length - i.1) ⟨0, by omega⟩ ?_ ?_
  · refine weakE_ [] [1] ?_
    simp only [go_sem]
  · rintro ⟨i, hi⟩
    have hn := fold_len (addI_len w.Bodies.length) (x.Bodies.take i) []
    have hn : ((x.Bodies.take i).foldl (addI w.Bodies.length) []).length ≤ 10000000 := by simp only [List.length_take, List.length_nil] at hn; omega
    simp only [c_island_Bodiesb0, go_sem]
    split
    · rename_i hlt
      have hlt : i < x.Bodies.length := by omega
      refine ⟨ok_, ?_⟩
      refine CallGi_subw (s_island_Bodies_f1 w _ (x.Bodies.getD i 0) hn) (okO_addO w _) rfl (by simp [go_sem]) (by simp [go_sem, AV.ids]) rfl ?_
      simp only [go_sem]
      refine loop_next ⟨i + 1, by omega⟩ (by show x.Bodies.length - (i + 1) < x.Bodies.length - i; omega) (weakE_ [] [] ?_)
      simp only [go_sem, fold_snoc hlt]
      exact (by rw [IntKind.wrap_i64]; omega)
    · rename_i hge
      obtain rfl : i = x.Bodies.length := by omega
      have hb1 : (bod1 w x).length ≤ 1048576 := by have := fold_len (addI_len w.Bodies.length) x.Bodies []; simp only [List.length_nil] at this; unfold bod1; omega
      refine Wpi_loop hm (ι := {i : Nat // i ≤ x.Contacts.length}) (fun i => [(2, .share, .ptr 48 0 0 1), (3, .share, .ptr 64 0 0 1), (5, .share, .ptr 96 0 0 1), (7, .share, .fn (.func F_island_Bodies_f2) [] [.ptr 112 0 0 1, .ptr 48 0 0 1]), (28, .share, encD 1 encInt 0 x.Contacts), (29, .share, .sc (.int .i64 x.Contacts.length)), (30, .share, .sc (.int .i64 i.1))])
        (fun i => bodA w x ((x.Contacts.take i.1).foldl (bodC w) (bod1 w x))) (fun i => x.Contacts.length - i.1) ⟨0, by omega⟩ ?_ ?_
      · refine weakE_ [] [] ?_
        simp only [go_sem, List.take_length, List.foldl_nil, bod1]
      · rintro ⟨i, hi⟩
        have hn := fold_len (bodC_len w) (x.Contacts.take i) (bod1 w x)
        have hn : ((x.Contacts.take i).foldl (bodC w) (bod1 w x)).length ≤ 4000000 := by simp only [List.length_take] at hn; omega
        simp only [c_island_Bodiesb1, go_sem]
        split
        · rename_i hlt
          have hlt : i < x.Contacts.length := by omega
          refine ⟨ok_, ?_⟩
          by_cases hc : 0 ≤ x.Contacts.getD i 0 ∧ x.Contacts.getD i 0 < (w.Contacts.length : Int)
          · have he : bodC w ((x.Contacts.take i).foldl (bodC w) (bod1 w x)) (x.Contacts.getD i 0) = addID w (addID w ((x.Contacts.take i).foldl (bodC w) (bod1 w x)) (w.Contacts.getD (x.Contacts.getD i 0).toNat default).Key.BodyA) (w.Contacts.getD (x.Contacts.getD i 0).toNat default).Key.BodyB := by unfold bodC; rw [if_pos hc]
            rw [if_pos (by rw [if_pos hc.1]; exact decide_eq_true hc.2)]
            refine ⟨⟨hc.1, hc.2⟩, ?_⟩
            have hn2 := addID_len w ((x.Contacts.take i).foldl (bodC w) (bod1 w x)) (w.Contacts.getD (x.Contacts.getD i 0).toNat default).Key.BodyA
            refine CallGi_subw (s_island_Bodies_f2 w ((x.Contacts.take i).foldl (bodC w) (bod1 w x)) (w.Contacts.getD (x.Contacts.getD i 0).toNat default).Key.BodyA (by omega) w1) (okO_addO w _) rfl (by simp [go_sem]) (by simp [go_sem, AV.ids]) rfl ?_
            simp only [go_sem]
            refine ⟨⟨hc.1, hc.2⟩, ?_⟩
            refine CallGi_subw (s_island_Bodies_f2 w (addID w ((x.Contacts.take i).foldl (bodC w) (bod1 w x)) (w.Contacts.getD (x.Contacts.getD i 0).toNat default).Key.BodyA) (w.Contacts.getD (x.Contacts.getD i 0).toNat default).Key.BodyB (by omega) w1) (okO_addO w _) rfl (by simp [go_sem]) (by simp [go_sem, AV.ids]) rfl ?_
            simp only [go_sem]
            refine loop_next ⟨i + 1, by omega⟩ (by show x.Contacts.length - (i + 1) < x.Contacts.length - i; omega) (weakE_ [] [] ?_)
            simp only [go_sem, fold_snoc hlt, he]
            exact (by rw [IntKind.wrap_i64]; omega)
          · have he : bodC w ((x.Contacts.take i).foldl (bodC w) (bod1 w x)) (x.Contacts.getD i 0) = ((x.Contacts.take i).foldl (bodC w) (bod1 w x)) := by unfold bodC; rw [if_neg hc]
            rw [if_neg (by
              intro h; apply hc
              by_cases c1 : 0 ≤ x.Contacts.getD i 0
              · rw [if_pos c1] at h; exact ⟨c1, of_decide_eq_true h⟩
              · rw [if_neg c1] at h; cases h)]
            refine loop_next ⟨i + 1, by omega⟩ (by show x.Contacts.length - (i + 1) < x.Contacts.length - i; omega) (weakE_ [] [] ?_)
            simp only [go_sem, fold_snoc hlt, he]
            exact (by rw [IntKind.wrap_i64]; omega)
        · rename_i hge
          obtain rfl : i = x.Contacts.length := by omega
          have hb2 : (bod2 w x).length ≤ 4000000 := by have := fold_len (bodC_len w) x.Contacts (bod1 w x); unfold bod2; omega
          refine Wpi_loop hm (ι := {i : Nat // i ≤ x.Joints.length}) (fun i => [(2, .share, .ptr 48 0 0 1), (5, .share, .ptr 96 0 0 1), (7, .share, .fn (.func F_island_Bodies_f2) [] [.ptr 112 0 0 1, .ptr 48 0 0 1]), (63, .share, encD 1 encInt 0 x.Joints), (64, .share, .sc (.int .i64 x.Joints.length)), (65, .share, .sc (.int .i64 i.1))])
            (fun i => bodA w x ((x.Joints.take i.1).foldl (bodJ w) (bod2 w x))) (fun i => x.Joints.length - i.1) ⟨0, by omega⟩ ?_ ?_
          · refine weakE_ [] [] ?_
            simp only [go_sem, List.take_length, List.foldl_nil, bod2]
          · rintro ⟨i, hi⟩
            have hn := fold_len (bodJ_len w) (x.Joints.take i) (bod2 w x)
            have hn : ((x.Joints.take i).foldl (bodJ w) (bod2 w x)).length ≤ 8000000 := by simp only [List.length_take] at hn; omega
            simp only [c_island_Bodiesb2, go_sem]
            split
            · rename_i hlt
              have hlt : i < x.Joints.length := by omega
              refine ⟨ok_, ?_⟩
              by_cases hc : 0 ≤ x.Joints.getD i 0 ∧ x.Joints.getD i 0 < (w.Joints.length : Int)
              · have he : bodJ w ((x.Joints.take i).foldl (bodJ w) (bod2 w x)) (x.Joints.getD i 0) = addID w (addID w ((x.Joints.take i).foldl (bodJ w) (bod2 w x)) (w.Joints.getD (x.Joints.getD i 0).toNat default).BodyA) (w.Joints.getD (x.Joints.getD i 0).toNat default).BodyB := by unfold bodJ; rw [if_pos hc]
                rw [if_pos (by rw [if_pos hc.1]; exact decide_eq_true hc.2)]
                refine ⟨⟨hc.1, hc.2⟩, ?_⟩
                have hn2 := addID_len w ((x.Joints.take i).foldl (bodJ w) (bod2 w x)) (w.Joints.getD (x.Joints.getD i 0).toNat default).BodyA
                refine CallGi_subw (s_island_Bodies_f2 w ((x.Joints.take i).foldl (bodJ w) (bod2 w x)) (w.Joints.getD (x.Joints.getD i 0).toNat default).BodyA (by omega) w1) (okO_addO w _) rfl (by simp [go_sem]) (by simp [go_sem, AV.ids]) rfl ?_
                simp only [go_sem]
                refine ⟨⟨hc.1, hc.2⟩, ?_⟩
                refine CallGi_subw (s_island_Bodies_f2 w (addID w ((x.Joints.take i).foldl (bodJ w) (bod2 w x)) (w.Joints.getD (x.Joints.getD i 0).toNat default).BodyA) (w.Joints.getD (x.Joints.getD i 0).toNat default).BodyB (by omega) w1) (okO_addO w _) rfl (by simp [go_sem]) (by simp [go_sem, AV.ids]) rfl ?_
                simp only [go_sem]
                refine loop_next ⟨i + 1, by omega⟩ (by show x.Joints.length - (i + 1) < x.Joints.length - i; omega) (weakE_ [] [] ?_)
                simp only [go_sem, fold_snoc hlt, he]
                exact (by rw [IntKind.wrap_i64]; omega)
              · have he : bodJ w ((x.Joints.take i).foldl (bodJ w) (bod2 w x)) (x.Joints.getD i 0) = ((x.Joints.take i).foldl (bodJ w) (bod2 w x)) := by unfold bodJ; rw [if_neg hc]
                rw [if_neg (by
                  intro h; apply hc
                  by_cases c1 : 0 ≤ x.Joints.getD i 0
                  · rw [if_pos c1] at h; exact ⟨c1, of_decide_eq_true h⟩
                  · rw [if_neg c1] at h; cases h)]
                refine loop_next ⟨i + 1, by omega⟩ (by show x.Joints.length - (i + 1) < x.Joints.length - i; omega) (weakE_ [] [] ?_)
                simp only [go_sem, fold_snoc hlt, he]
                exact (by rw [IntKind.wrap_i64]; omega)
            · rename_i hge
              obtain rfl : i = x.Joints.length := by omega
              have hb3 : (bod3 w x).length ≤ 8000000 := by have := fold_len (bodJ_len w) x.Joints (bod2 w x); unfold bod3; omega
              have hb4 := msort_len (bod3 w x)
              have ebod : (x.Joints.take x.Joints.length).foldl (bodJ w) (bod2 w x) = bod3 w x := by rw [List.take_length]; rfl
              simp only [go_sem, ebod]
              refine CallGi_subw (s_slices_Sort_int (bod3 w x) (by omega)) (by refine ⟨by simp, ?_⟩; simp) rfl (by simp [go_sem]) (by simp [go_sem, AV.ids]) rfl ?_
              simp only [go_sem, ebod]
              have hS := s_slices_Compact_int (msort (bod3 w x)) (by omega)
              rw [hb4] at hS
              refine CallGi_subw hS (by refine ⟨by simp, ?_⟩; simp) rfl (by simp [go_sem]) (by simp [go_sem, AV.ids]) rfl ?_
              simp only [go_sem]
              refine retW_of [.share] [] [] rfl rfl (by simp [go_sem]) (by simp [assoc, go_sem]) (by simp [go_sem]) ?_
              simp only [go_sem, bodL]

end Go.Abs
