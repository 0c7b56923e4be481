/- A part of the walk: contracts of functions that the statement reaches. -/
import Derived.Test.YtlldeiikcfaegaaGreatAbsC
import Derived.Test.YtlldeiikcfaegaaGreatS15
import Derived.Test.YtlldeiikcfaegaaGreatS6
set_option linter.unusedSimpArgs false
set_option linter.unusedVariables false
set_option linter.unnecessarySimpa false
set_option maxRecDepth 100000
set_option maxHeartbeats 2000000
set_option linter.unusedSimpArgs false
set_option linter.unusedVariables false
namespace Go.Abs
open Go.Proofs
open Api
/-- the reference's island.Bodies -/
def rbB (n : Nat) (l : List Int) (i : Int) : List Int := if 0 ≤ i ∧ i < n then insI l i else l
def rbC (w : Api.World) (l : List Int) (i : Int) : List Int := if 0 ≤ i ∧ i < w.Contacts.length then insB w (insB w l (w.Contacts.getD i.toNat default).Key.BodyA) (w.Contacts.getD i.toNat default).Key.BodyB else l
def rbJ (w : Api.World) (l : List Int) (i : Int) : List Int := if 0 ≤ i ∧ i < w.Joints.length then insB w (insB w l (w.Joints.getD i.toNat default).BodyA) (w.Joints.getD i.toNat default).BodyB else l
def rb1 (w : Api.World) (x : Island) : List Int := x.Bodies.foldl (rbB w.Bodies.length) []
def rb2 (w : Api.World) (x : Island) : List Int := x.Contacts.foldl (rbC w) (rb1 w x)
def rb3 (w : Api.World) (x : Island) : List Int := x.Joints.foldl (rbJ w) (rb2 w x)
theorem rbB_len (n : Nat) (l : List Int) (i : Int) : (rbB n l i).length ≤ l.length + 1 := by
  unfold rbB; split
  · exact insI_len _ _
  · omega
theorem rbC_len (w : Api.World) (l : List Int) (i : Int) : (rbC w l i).length ≤ l.length + 2 := by
  unfold rbC; split
  · have h1 := insB_len w (insB w l (w.Contacts.getD i.toNat default).Key.BodyA) (w.Contacts.getD i.toNat default).Key.BodyB
    have h2 := insB_len w l (w.Contacts.getD i.toNat default).Key.BodyA
    omega
  · omega
theorem rbJ_len (w : Api.World) (l : List Int) (i : Int) : (rbJ w l i).length ≤ l.length + 2 := by
  unfold rbJ; split
  · have h1 := insB_len w (insB w l (w.Joints.getD i.toNat default).BodyA) (w.Joints.getD i.toNat default).BodyB
    have h2 := insB_len w l (w.Joints.getD i.toNat default).BodyA
    omega
  · omega
/-- what sorting and removing duplicates makes of a list, insertion makes too -/
def likeS (r l : List Int) : Prop := StrS r ∧ ∀ x, x ∈ r ↔ x ∈ l
theorem like_ins {r l : List Int} {n : Nat} {i : Int} (h : likeS r l) : likeS (rbB n r i) (addI n l i) := by
  unfold rbB addI; split
  · exact ⟨insI_str h.1, fun x => by rw [insI_mem, List.mem_append, List.mem_singleton, h.2]; exact Or.comm⟩
  · exact h
theorem findB_lt16 (w : Api.World) (id : Int) : -1 ≤ findB w id ∧ findB w id < w.Bodies.length := idxG_lt
theorem like_insB {w : Api.World} {r l : List Int} {id : Int} (h : likeS r l) : likeS (insB w r id) (addID w l id) := by
  have hl := (findB_lt16 w id).2
  unfold insB addID
  by_cases h0 : id = 0
  · rw [if_pos (.inr h0), if_neg (by simp [h0])]; exact h
  · rw [if_pos h0]
    have := like_ins (n := w.Bodies.length) (i := findB w id) h
    unfold rbB at this
    by_cases h1 : findB w id < 0
    · rw [if_pos (.inl h1)]; rw [if_neg (by omega)] at this; exact this
    · rw [if_neg (by omega)]; rw [if_pos (by omega)] at this; exact this
theorem like_C {w : Api.World} {r l : List Int} {i : Int} (h : likeS r l) : likeS (rbC w r i) (bodC w l i) := by
  unfold rbC bodC; split
  · exact like_insB (like_insB h)
  · exact h
theorem like_J {w : Api.World} {r l : List Int} {i : Int} (h : likeS r l) : likeS (rbJ w r i) (bodJ w l i) := by
  unfold rbJ bodJ; split
  · exact like_insB (like_insB h)
  · exact h
theorem like_fold {f g : List Int → Int → List Int} (hf : ∀ r l i, likeS r l → likeS (f r i) (g l i)) : ∀ (xs : List Int) {r l : List Int}, likeS r l → likeS (xs.foldl f r) (xs.foldl g l)
  | [], _, _, h => h
  | a :: xs, _, _, h => like_fold hf xs (hf _ _ a h)
theorem like_rb3 (w : Api.World) (x : Island) : likeS (rb3 w x) (bod3 w x) :=
  like_fold (f := rbJ w) (g := bodJ w) (fun _ _ _ => like_J) x.Joints (like_fold (f := rbC w) (g := bodC w) (fun _ _ _ => like_C) x.Contacts (like_fold (f := rbB w.Bodies.length) (g := addI w.Bodies.length) (fun _ _ _ => like_ins) x.Bodies ⟨List.Pairwise.nil, fun _ => Iff.rfl⟩))
theorem rb3_eq (w : Api.World) (x : Island) : rb3 w x = bodL w x := by
  obtain ⟨h1, h2⟩ := like_rb3 w x
  exact str_ext h1 (compact_str (msort_le _)) fun y => by
    rw [h2]
    show y ∈ _ ↔ y ∈ cmpct (msort (bod3 w x))
    rw [cmpct_mem, msort_mem]
theorem s_r36_Bodies (w : Api.World) (x : Island) (hw : Wsm w) (hx : Ism x) : CallsA Tryz.prog F_r36_Bodies [.agg w.enc, .agg x.enc] [] (encD 1 encInt 0 (bodL w x)) [] := by
  obtain ⟨w1, w2, w3, w4, w5, w6⟩ := hw
  obtain ⟨x1, x2, x3⟩ := hx
  rw [← rb3_eq]
  refine callsI_of (rs := [_]) hm Tryz.func42 (by kernel_rfl) (by kernel_rfl) is_r36_Bodies (by kernel_rfl : tmpsOf Tryz.f42.results.toList = some [4]) (by decide) (by kernel_rfl) ?_
  simp only [c_r36_Bodies, go_sem]
  refine Wpi_loop hm (ι := {i : Nat // i ≤ x.Bodies.length}) (fun i => [(2, .share, .ptr 48 0 0 1), (3, .share, .ptr 64 0 0 1), (5, .thaw, encD 1 encInt 0 ((x.Bodies.take i.1).foldl (rbB w.Bodies.length) [])), (6, .share, .sc (.int .i64 i.1))])
    (fun i => [(48, .box w.enc), (64, .box x.enc)]) (fun i => x.Bodies.length - i.1) ⟨0, by omega⟩ ?_ ?_
  · refine weakE_ [] [] ?_
    simp only [go_sem]
    exact avle_nilD rfl
  · rintro ⟨i, hi⟩
    have hn := fold_len (rbB_len w.Bodies.length) (x.Bodies.take i) []
    have hn : ((x.Bodies.take i).foldl (rbB w.Bodies.length) []).length ≤ 1048576 := by simp only [List.length_take, List.length_nil] at hn; omega
    simp only [c_r36_Bodiesb0, go_sem]
    split
    · rename_i hlt
      have hlt : i < x.Bodies.length := by omega
      rw [ite_dec]
      refine ⟨ok_, ok_, ?_⟩
      by_cases hc : 0 ≤ x.Bodies.getD i 0 ∧ x.Bodies.getD i 0 < (w.Bodies.length : Int)
      · rw [if_pos (decide_eq_true hc)]
        have he : rbB w.Bodies.length ((x.Bodies.take i).foldl (rbB w.Bodies.length) []) (x.Bodies.getD i 0) = _ := if_pos hc
        refine ⟨ok_, ?_⟩
        refine CallGi_flat (s_r36_insertInt ((x.Bodies.take i).foldl (rbB w.Bodies.length) []) (x.Bodies.getD i 0) (by omega)) rfl ?_
        simp only [go_sem]
        refine loop_next ⟨i + 1, by omega⟩ (by show x.Bodies.length - (i + 1) < x.Bodies.length - i; omega) (weakE_ [] [] ?_)
        simp only [go_sem, fold_snoc hlt, he]
        exact (by rw [IntKind.wrap_i64]; omega)
      · rw [if_neg (by rw [decide_eq_true_eq]; exact hc)]
        have he : rbB w.Bodies.length ((x.Bodies.take i).foldl (rbB w.Bodies.length) []) (x.Bodies.getD i 0) = _ := if_neg hc
        refine loop_next ⟨i + 1, by omega⟩ (by show x.Bodies.length - (i + 1) < x.Bodies.length - i; omega) (weakE_ [] [] ?_)
        simp only [go_sem, fold_snoc hlt, he]
        exact (by rw [IntKind.wrap_i64]; omega)
    · rename_i hge
      obtain rfl : i = x.Bodies.length := by omega
      have hb1 : (rb1 w x).length ≤ 1048576 := by have := fold_len (rbB_len w.Bodies.length) x.Bodies []; simp only [List.length_nil] at this; unfold rb1; omega
      refine Wpi_loop hm (ι := {i : Nat // i ≤ x.Contacts.length}) (fun i => [(2, .share, .ptr 48 0 0 1), (3, .share, .ptr 64 0 0 1), (5, .thaw, encD 1 encInt 0 ((x.Contacts.take i.1).foldl (rbC w) (rb1 w x))), (7, .share, .sc (.int .i64 i.1))])
        (fun i => [(48, .box w.enc), (64, .box x.enc)]) (fun i => x.Contacts.length - i.1) ⟨0, by omega⟩ ?_ ?_
      · refine weakE_ [] [] ?_
        simp only [go_sem]
        simp only [List.take_zero, List.take_length, List.foldl_nil, rb1, go_sem]
      · rintro ⟨i, hi⟩
        have hn := fold_len (rbC_len w) (x.Contacts.take i) (rb1 w x)
        have hn : ((x.Contacts.take i).foldl (rbC w) (rb1 w x)).length ≤ 4000000 := by simp only [List.length_take, List.length_nil] at hn; omega
        simp only [c_r36_Bodiesb1, go_sem]
        split
        · rename_i hlt
          have hlt : i < x.Contacts.length := by omega
          rw [ite_dec]
          refine ⟨ok_, ok_, ?_⟩
          by_cases hc : 0 ≤ x.Contacts.getD i 0 ∧ x.Contacts.getD i 0 < (w.Contacts.length : Int)
          · rw [if_pos (decide_eq_true hc)]
            have he : rbC w ((x.Contacts.take i).foldl (rbC w) (rb1 w x)) (x.Contacts.getD i 0) = _ := if_pos hc
            have hA := insB_len w ((x.Contacts.take i).foldl (rbC w) (rb1 w x)) (w.Contacts.getD (x.Contacts.getD i 0).toNat default).Key.BodyA
            refine ⟨ok_, ⟨hc.1, hc.2⟩, ?_⟩
            refine CallGi_flat (s_r36_insertBody w ((x.Contacts.take i).foldl (rbC w) (rb1 w x)) (w.Contacts.getD (x.Contacts.getD i 0).toNat default).Key.BodyA w1 (by omega)) rfl ?_
            simp only [go_sem]
            refine ⟨ok_, ⟨hc.1, hc.2⟩, ?_⟩
            refine CallGi_flat (s_r36_insertBody w (insB w ((x.Contacts.take i).foldl (rbC w) (rb1 w x)) (w.Contacts.getD (x.Contacts.getD i 0).toNat default).Key.BodyA) (w.Contacts.getD (x.Contacts.getD i 0).toNat default).Key.BodyB w1 (by omega)) rfl ?_
            simp only [go_sem]
            refine loop_next ⟨i + 1, by omega⟩ (by show x.Contacts.length - (i + 1) < x.Contacts.length - i; omega) (weakE_ [] [] ?_)
            simp only [go_sem, fold_snoc hlt, he]
            exact (by rw [IntKind.wrap_i64]; omega)
          · rw [if_neg (by rw [decide_eq_true_eq]; exact hc)]
            have he : rbC w ((x.Contacts.take i).foldl (rbC w) (rb1 w x)) (x.Contacts.getD i 0) = _ := if_neg hc
            refine loop_next ⟨i + 1, by omega⟩ (by show x.Contacts.length - (i + 1) < x.Contacts.length - i; omega) (weakE_ [] [] ?_)
            simp only [go_sem, fold_snoc hlt, he]
            exact (by rw [IntKind.wrap_i64]; omega)
        · rename_i hge
          obtain rfl : i = x.Contacts.length := by omega
          have hb2 : (rb2 w x).length ≤ 4000000 := by have := fold_len (rbC_len w) x.Contacts (rb1 w x); unfold rb2; omega
          refine Wpi_loop hm (ι := {i : Nat // i ≤ x.Joints.length}) (fun i => [(2, .share, .ptr 48 0 0 1), (3, .share, .ptr 64 0 0 1), (5, .thaw, encD 1 encInt 0 ((x.Joints.take i.1).foldl (rbJ w) (rb2 w x))), (8, .share, .sc (.int .i64 i.1))])
            (fun i => [(48, .box w.enc), (64, .box x.enc)]) (fun i => x.Joints.length - i.1) ⟨0, by omega⟩ ?_ ?_
          · refine weakE_ [] [] ?_
            simp only [go_sem]
            simp only [List.take_zero, List.take_length, List.foldl_nil, rb2, go_sem]
          · rintro ⟨i, hi⟩
            have hn := fold_len (rbJ_len w) (x.Joints.take i) (rb2 w x)
            have hn : ((x.Joints.take i).foldl (rbJ w) (rb2 w x)).length ≤ 8000000 := by simp only [List.length_take, List.length_nil] at hn; omega
            simp only [c_r36_Bodiesb2, go_sem]
            split
            · rename_i hlt
              have hlt : i < x.Joints.length := by omega
              rw [ite_dec]
              refine ⟨ok_, ok_, ?_⟩
              by_cases hc : 0 ≤ x.Joints.getD i 0 ∧ x.Joints.getD i 0 < (w.Joints.length : Int)
              · rw [if_pos (decide_eq_true hc)]
                have he : rbJ w ((x.Joints.take i).foldl (rbJ w) (rb2 w x)) (x.Joints.getD i 0) = _ := if_pos hc
                have hA := insB_len w ((x.Joints.take i).foldl (rbJ w) (rb2 w x)) (w.Joints.getD (x.Joints.getD i 0).toNat default).BodyA
                refine ⟨ok_, ⟨hc.1, hc.2⟩, ?_⟩
                refine CallGi_flat (s_r36_insertBody w ((x.Joints.take i).foldl (rbJ w) (rb2 w x)) (w.Joints.getD (x.Joints.getD i 0).toNat default).BodyA w1 (by omega)) rfl ?_
                simp only [go_sem]
                refine ⟨ok_, ⟨hc.1, hc.2⟩, ?_⟩
                refine CallGi_flat (s_r36_insertBody w (insB w ((x.Joints.take i).foldl (rbJ w) (rb2 w x)) (w.Joints.getD (x.Joints.getD i 0).toNat default).BodyA) (w.Joints.getD (x.Joints.getD i 0).toNat default).BodyB w1 (by omega)) rfl ?_
                simp only [go_sem]
                refine loop_next ⟨i + 1, by omega⟩ (by show x.Joints.length - (i + 1) < x.Joints.length - i; omega) (weakE_ [] [] ?_)
                simp only [go_sem, fold_snoc hlt, he]
                exact (by rw [IntKind.wrap_i64]; omega)
              · rw [if_neg (by rw [decide_eq_true_eq]; exact hc)]
                have he : rbJ w ((x.Joints.take i).foldl (rbJ w) (rb2 w x)) (x.Joints.getD i 0) = _ := if_neg hc
                refine loop_next ⟨i + 1, by omega⟩ (by show x.Joints.length - (i + 1) < x.Joints.length - i; omega) (weakE_ [] [] ?_)
                simp only [go_sem, fold_snoc hlt, he]
                exact (by rw [IntKind.wrap_i64]; omega)
            · rename_i hge
              obtain rfl : i = x.Joints.length := by omega
              simp only [List.take_length, rb3, go_sem]

end Go.Abs
