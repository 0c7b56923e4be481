/- A part of the walk: contracts of functions that the statement reaches. -/
import Derived.Test.YtlldeiikcfaegaaGreatAbsC
import Derived.Test.YtlldeiikcfaegaaGreatS7
set_option linter.unusedSimpArgs false
set_option linter.unusedVariables false
set_option linter.unnecessarySimpa false
set_option maxRecDepth 100000
set_option maxHeartbeats 2000000
set_option linter.unusedSimpArgs false
set_option linter.unusedVariables false
namespace Go.Abs
open Go.Proofs
open Api
def upF (w : Api.World) (l : List Int) : List Body := l.foldl (fun bs i => bs.set i.toNat (updIdle (bs.getD i.toNat default))) w.Bodies
theorem upF_nil (w : Api.World) : upF w [] = w.Bodies := rfl
theorem upF_snoc {w : Api.World} {l : List Int} {k : Nat} (h : k < l.length) : upF w (l.take (k + 1)) = (upF w (l.take k)).set (l.getD k 0).toNat (updIdle ((upF w (l.take k)).getD (l.getD k 0).toNat default)) := by
  unfold upF; rw [take_snoc 0 h]; simp
theorem upF_len (w : Api.World) (l : List Int) : (upF w l).length = w.Bodies.length := by
  have : ∀ (l : List Int) (s : List Body), (l.foldl (fun bs i => bs.set i.toNat (updIdle (bs.getD i.toNat default))) s).length = s.length := by
    intro l
    induction l with
    | nil => intro s; rfl
    | cons a l ih => intro s; rw [List.foldl_cons, ih]; simp
  exact this l w.Bodies
theorem getD_mem_or {α : Type} (l : List α) (k : Nat) (d : α) : l.getD k d ∈ l ∨ l.getD k d = d := by
  by_cases h : k < l.length
  · exact .inl (mem_getD d h)
  · right; simp [List.getD, Nat.le_of_not_lt h]
theorem upF_sm {w : Api.World} (hw : Wsm w) (l : List Int) : Wsm (withB w (upF w l)) := by
  obtain ⟨w1, w2, w3, w4, w5, w6⟩ := hw
  have hd : Body.sm default := ⟨by decide, fun f hf => by cases hf⟩
  have : ∀ (l : List Int) (s : List Body), (∀ b ∈ s, Body.sm b) → ∀ b ∈ l.foldl (fun bs i => bs.set i.toNat (updIdle (bs.getD i.toNat default))) s, Body.sm b := by
    intro l
    induction l with
    | nil => exact fun s h => h
    | cons a l ih =>
      intro s h
      refine ih _ fun b hb => ?_
      rcases List.mem_or_eq_of_mem_set hb with h1 | rfl
      · exact h b h1
      · show Body.sm (s.getD a.toNat default)
        rcases getD_mem_or s a.toNat default with h2 | h2
        · exact h _ h2
        · rw [h2]; exact hd
  refine ⟨?_, w2, w3, w4, this l _ w5, w6⟩
  show (upF w l).length ≤ _
  rw [upF_len]; exact w1
def slB (b : Body) : Body := { b with Asleep := true, Velocity := ⟨0, 0⟩, AngularVelocity := 0 }
def slStep (s : List Body × List (Int × Int)) (i : Int) : List Body × List (Int × Int) := (s.1.set i.toNat (slB (s.1.getD i.toNat default)), s.2 ++ [(6, (s.1.getD i.toNat default).ID)])
def slF (bs : List Body) (l : List Int) : List Body × List (Int × Int) := l.foldl slStep (bs, [])
theorem slF_nil (bs : List Body) : slF bs [] = (bs, []) := rfl
theorem slF_snoc {bs : List Body} {l : List Int} {k : Nat} (h : k < l.length) : slF bs (l.take (k + 1)) = slStep (slF bs (l.take k)) (l.getD k 0) := by
  unfold slF; rw [take_snoc 0 h]; simp
theorem slF_len (bs : List Body) (l : List Int) : (slF bs l).1.length = bs.length ∧ (slF bs l).2.length ≤ l.length := by
  have : ∀ (l : List Int) (s : List Body × List (Int × Int)), (l.foldl slStep s).1.length = s.1.length ∧ (l.foldl slStep s).2.length ≤ s.2.length + l.length := by
    intro l
    induction l with
    | nil => intro s; simp
    | cons a l ih => intro s; have h1 := ih (slStep s a); simp only [slStep, List.length_set, List.length_append, List.length_singleton] at h1; simp only [List.foldl_cons, List.length_cons, slStep]; omega
  have := this l (bs, [])
  simpa [slF] using this
def stillB (w : Api.World) (x : Island) (l : List Int) : Bool :=
  !(decide (w.Settings.SleepSteps ≤ 0)) && !(decide (l.length = 0)) && !(l.any fun i => decide ((getB (withB w (upF w l)) i).IdleSteps < w.Settings.SleepSteps)) && !(drivenB (withB w (upF w l)) x)
def updR (w : Api.World) (x : Island) : List Body × List (Int × Int) :=
  if awakeB w x (indX w x) = true then (if stillB w x (indX w x) = true then slF (upF w (indX w x)) (indX w x) else (upF w (indX w x), [])) else (w.Bodies, [])
theorem s_sleep_Update (w : Api.World) (x : Island) (hw : Wsm w) (hx : Ism x) : CallsA Tryz.prog F_sleep_Update [.agg w.enc, .agg x.enc] [] (.tup [Wown (withB w (updR w x).1) 1 2 3 4, .sl 5 0 (updR w x).2.length (updR w x).2.length]) (Wobj (withB w (updR w x).1) 1 2 3 4 ++ evObj 5 (updR w x).2) := by
  have hl := indX_len (w := w) hx
  refine callsIRO'_of (rs := [_, _]) (N := 119) hm Tryz.func49 (by kernel_rfl) (by kernel_rfl) is_sleep_Update (by kernel_rfl) (by kernel_rfl : rvOf Tryz.prog Tryz.f49.results.toList = some [(4, some (some 11)), (5, none)]) (by decide) (by kernel_rfl) ?_
  simp only [c_sleep_Update, go_sem]
  refine CallGi_obj [true, true] [] (s_sleep_newGroup w x hw hx) (by simp) (by simp [go_sem]) (by simp [go_sem]) (by simp) ?_
  simp only [go_sem]
  refine CallGi_sub (s_sleep_group_awake w x (indX w x) hw hx hl (indX_in w x)) (okO_gobj w x _) (by simp [go_sem, indX]) (by simp [go_sem, AV.ids]) rfl ?_
  simp only [go_sem]
  cases haw : awakeB w x (indX w x) with
  | false =>
    simp only [go_sem]
    have hr : updR w x = (w.Bodies, []) := by unfold updR; rw [haw]; rfl
    rw [hr]
    refine retW_of [.share, .adopt] [] [5] rfl rfl (by simp [go_sem]) (by simp [assoc, go_sem]) (by simp [go_sem]) ?_
    simp only [go_sem]
  | true =>
    simp only [go_sem]
    have hr : updR w x = if stillB w x (indX w x) = true then slF (upF w (indX w x)) (indX w x) else (upF w (indX w x), []) := by unfold updR; rw [haw]; rfl
    rw [hr]
    have hin := indX_in w x
    generalize hll : indX w x = l at *
    refine Wpi_loop hm (ι := {i : Nat // i ≤ l.length}) (fun i => [(4, .share, .ptr 80 0 0 1), (6, .share, .ptr 6 0 0 1), (26, .share, .sl 5 0 l.length l.length), (27, .share, .sc (.int .i64 l.length)), (28, .share, .sc (.int .i64 i.1))])
      (fun i => (80, .box World.zero) :: gobjB w (upF w (l.take i.1)) x l) (fun i => l.length - i.1) ⟨0, by omega⟩ ?_ ?_
    · refine weakE_ [] [] ?_
      simp only [go_sem, upF_nil]
    · rintro ⟨i, hi⟩
      have hb1 := upF_len w (l.take i)
      simp only [c_sleep_Updateb0, go_sem]
      split
      · rename_i hlt
        have hlt : i < l.length := by omega
        obtain ⟨hi0, hi1⟩ := hin _ (mem_getD 0 hlt)
        refine ⟨ok_, ok_, hb1.symm, ?_⟩
        refine CallGi_flat (s_sleep_UpdateIdle ((upF w (l.take i)).getD (l.getD i 0).toNat default)) rfl ?_
        simp only [go_sem]
        refine ⟨⟨hb1.symm, hi0, hi1⟩, hb1.symm, ?_⟩
        refine loop_next ⟨i + 1, by omega⟩ (by show l.length - (i + 1) < l.length - i; omega) (weakE_ [] [] ?_)
        simp only [go_sem, upF_snoc hlt]
        exact ⟨(by rw [IntKind.wrap_i64]; omega), q_set (updIdle ((upF w (l.take i)).getD (l.getD i 0).toNat default)) (by omega) rfl rfl⟩
      · rename_i hge
        obtain rfl : i = l.length := by omega
        simp only [go_sem, List.take_length] at hb1 ⊢
        have hob := okO_gobj (withB w (upF w l)) x l
        have fin : (stillB w x l = false) → ∀ {σ : St}, True := fun _ _ => trivial
        cases hq : (if w.Settings.SleepSteps ≤ 0 then true else ((l.length : Int) == 0)) with
        | true =>
          have hst : stillB w x l = false := by
            unfold stillB
            by_cases h1 : w.Settings.SleepSteps ≤ 0
            · rw [decide_eq_true h1]; rfl
            · rw [if_neg h1, beq_iff_eq] at hq
              have : l.length = 0 := by omega
              rw [decide_eq_true this]; simp
          rw [if_neg (c := stillB w x l = true) (by rw [hst]; simp)]
          refine CallGi_skip (by simp) (.sc (.bool false)) ?_
          simp only [go_sem]
          refine CallGi_skip (by simp) (.sc (.bool false)) ?_
          simp only [go_sem]
          refine retW_of [.share, .adopt] [(5, 1000)] [5] rfl rfl (by simp [go_sem]) (by simp [assoc, go_sem]) (by simp [go_sem]) ?_
          simp only [go_sem, hb1]
          rw [List.take_length]; exact q_same rfl
        | false =>
          have hst : stillB w x l = (!(l.any fun i => decide ((getB (withB w (upF w l)) i).IdleSteps < w.Settings.SleepSteps)) && !(drivenB (withB w (upF w l)) x)) := by
            unfold stillB
            by_cases h1 : w.Settings.SleepSteps ≤ 0
            · rw [if_pos h1] at hq; cases hq
            · rw [if_neg h1, beq_eq_false_iff_ne] at hq
              have : ¬ l.length = 0 := by omega
              rw [decide_eq_false this, decide_eq_false h1]; rfl
          have hA := s_sleep_group_any (withB w (upF w l)) x l F_sleep_group_restless (fun b => decide (b.IdleSteps < w.Settings.SleepSteps)) (s_sleep_group_restless (withB w (upF w l)) x l) hl (by show ∀ i ∈ l, 0 ≤ i ∧ i < ((upF w l).length : Int); rw [hb1]; exact hin)
          have hD := s_sleep_group_driven (withB w (upF w l)) x l (upF_sm hw l) hx
          generalize (l.any fun i => decide ((getB (withB w (upF w l)) i).IdleSteps < w.Settings.SleepSteps)) = pa at hst hA
          generalize drivenB (withB w (upF w l)) x = pd at hst hD
          refine CallGi_sub hA hob (by simp [go_sem, hb1]) (by simp [go_sem, AV.ids]) rfl ?_
          simp only [go_sem, hb1]
          cases pa with
          | true =>
            rw [if_neg (c := stillB w x l = true) (by rw [hst]; simp)]
            refine CallGi_skip (by simp) (.sc (.bool false)) ?_
            simp only [go_sem]
            refine retW_of [.share, .adopt] [(5, 1000)] [5] rfl rfl (by simp [go_sem]) (by simp [assoc, go_sem]) (by simp [go_sem]) ?_
            simp only [go_sem, hb1]
          | false =>
            refine CallGi_sub hD hob (by simp [go_sem, hb1]) (by simp [go_sem, AV.ids]) rfl ?_
            simp only [go_sem, hb1]
            cases pd with
            | true =>
              rw [if_neg (c := stillB w x l = true) (by rw [hst]; simp)]
              simp only [go_sem]
              refine retW_of [.share, .adopt] [(5, 1000)] [5] rfl rfl (by simp [go_sem]) (by simp [assoc, go_sem]) (by simp [go_sem]) ?_
              simp only [go_sem, hb1]
            | false =>
              rw [if_pos (c := stillB w x l = true) (by rw [hst]; rfl)]
              simp only [go_sem]
              refine Wpi_loop hm (ι := {i : Nat // i ≤ l.length}) (fun i => [(4, .share, .ptr 80 0 0 1), (6, .share, .ptr 6 0 0 1), (9, if i.1 = 0 then .adopt else .share, .sl 7 0 (slF (upF w l) (l.take i.1)).2.length (slF (upF w l) (l.take i.1)).2.length), (81, .share, .sl 5 0 l.length l.length), (82, .share, .sc (.int .i64 l.length)), (83, .share, .sc (.int .i64 i.1))])
                (fun i => (80, .box World.zero) :: (7, .arr 5 (encQ encEv default (slF (upF w l) (l.take i.1)).2)) :: gobjB w (slF (upF w l) (l.take i.1)).1 x l) (fun i => l.length - i.1) ⟨0, by omega⟩ ?_ ?_
              · refine weakE_ [] [7] ?_
                simp only [go_sem, slF_nil, hb1]
              · rintro ⟨i, hi⟩
                obtain ⟨hc1, hc2⟩ := slF_len (upF w l) (l.take i)
                simp only [List.length_take] at hc2
                simp only [c_sleep_Updateb1, go_sem]
                split
                · rename_i hlt
                  have hlt : i < l.length := by omega
                  obtain ⟨hi0, hi1⟩ := hin _ (mem_getD 0 hlt)
                  have hc3 : w.Bodies.length = (slF (upF w l) (l.take i)).1.length := by rw [hc1, hb1]
                  refine ⟨ok_, ok_, hc3, ?_⟩
                  have he : slF (upF w l) (l.take (i + 1)) = ((slF (upF w l) (l.take i)).1.set (l.getD i 0).toNat (slB ((slF (upF w l) (l.take i)).1.getD (l.getD i 0).toNat default)), (slF (upF w l) (l.take i)).2 ++ [(6, ((slF (upF w l) (l.take i)).1.getD (l.getD i 0).toNat default).ID)]) := by
                    rw [slF_snoc hlt, slStep]
                  refine ⟨hc3, hc3, hc3, ok_, ?_⟩
                  refine loop_next ⟨i + 1, by omega⟩ (by show l.length - (i + 1) < l.length - i; omega) (weakE_ [] [] ?_)
                  simp only [go_sem, he, List.length_append, List.length_singleton]
                  exact ⟨(by rw [IntKind.wrap_i64]; omega), q_app1 (6, ((slF (upF w l) (l.take i)).1.getD (l.getD i 0).toNat default).ID) rfl rfl, q_set (slB ((slF (upF w l) (l.take i)).1.getD (l.getD i 0).toNat default)) (by omega) rfl rfl⟩
                · rename_i hge
                  obtain rfl : i = l.length := by omega
                  simp only [go_sem, List.take_length] at hc1 hc2 ⊢
                  rw [hb1] at hc1
                  refine retW_of [.share, .share] [(5, 7), (7, 5)] [] rfl rfl (by simp [go_sem]) (by simp [assoc, go_sem]) (by simp [go_sem]) ?_
                  simp only [go_sem, hc1]

end Go.Abs
