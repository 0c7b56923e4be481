/- A part of the walk: contracts of functions that the statement reaches. -/
import Derived.Test.YtlldeiikcfaegaaGreatAbsC
import Derived.Test.YtlldeiikcfaegaaGreatN1
import Derived.Test.YtlldeiikcfaegaaGreatI4
set_option linter.unusedSimpArgs false
set_option linter.unusedVariables false
set_option linter.unnecessarySimpa false
set_option maxRecDepth 100000
set_option maxHeartbeats 2000000
set_option linter.unusedSimpArgs false
set_option linter.unusedVariables false
namespace Go.Abs
open Go.Proofs
open Api
theorem s_law37_whole (w : Api.World) (x : Island) (hw : w.Bodies.length ≤ 1048576) (hl : x.Bodies.length ≤ 1048576) (hin : InW w x.Bodies) (h : ∃ c, Whc w x.Bodies c) : CallsA Tryz.prog F_law37_whole [.agg w.enc, .agg x.enc] [] (.sc (.bool true)) [] := by
  obtain ⟨c, hc⟩ := h
  refine callsI_of (rs := [_]) hm Tryz.func48 (by kernel_rfl) (by kernel_rfl) is_law37_whole (by kernel_rfl : tmpsOf Tryz.f48.results.toList = some [4]) (by decide) (by kernel_rfl) ?_
  simp only [c_law37_whole, go_sem]
  refine Wpi_loop hm (ι := {i : Nat // i ≤ x.Bodies.length}) (fun i => [(2, .share, .ptr 48 0 0 1), (3, .share, .ptr 64 0 0 1), (5, .share, .sc (.int .i64 (if c = true then (i.1 : Int) else 0))), (6, .share, .sc (.int .i64 i.1))])
    (fun _ => [(48, .box w.enc), (64, .box x.enc)]) (fun i => x.Bodies.length - i.1) ⟨0, by omega⟩ ?_ ?_
  · refine weakE_ [] [] ?_
    simp only [go_sem]
    try simp
  · rintro ⟨i, hi⟩
    simp only [c_law37_wholeb0, go_sem]
    by_cases hlt : (i : Int) < x.Bodies.length
    · rw [if_pos hlt]
      have hlt : i < x.Bodies.length := by omega
      have hm0 := mem_getD 0 hlt
      obtain ⟨h0, h1⟩ := hin _ hm0
      have ha := hc _ hm0
      refine ⟨⟨by omega, by omega⟩, ?_⟩
      rw [if_neg (by rw [if_neg (by omega), decide_eq_true_eq]; omega)]
      refine ⟨⟨h0, h1⟩, ?_⟩
      rw [ha]
      cases c with
      | true =>
        rw [if_pos rfl]
        refine loop_next ⟨i + 1, by omega⟩ (by show x.Bodies.length - (i + 1) < x.Bodies.length - i; omega) (weakE_ [] [] ?_)
        simp only [go_sem, if_true]
        exact (by rw [IntKind.wrap_i64]; omega)
      | false =>
        rw [if_neg (by simp)]
        refine loop_next ⟨i + 1, by omega⟩ (by show x.Bodies.length - (i + 1) < x.Bodies.length - i; omega) (weakE_ [] [] ?_)
        simp only [go_sem]
        exact (by rw [IntKind.wrap_i64]; omega)
    · rw [if_neg hlt]
      obtain rfl : i = x.Bodies.length := by omega
      cases c <;> simp

/-- the variable that holds a world with arrays of its own -/
def wBox (w : Api.World) : AObj := .box [.sc (.int .i64 w.Settings.TimeStep), .sc (.int .i64 w.Settings.Gravity.X), .sc (.int .i64 w.Settings.Gravity.Y), .sc (.int .i64 w.Settings.Iterations), .sc (.int .i64 w.Settings.SleepSteps),
  .sl 1 0 w.Bodies.length w.Bodies.length, .sl 2 0 w.Joints.length w.Joints.length, .sl 3 0 w.Contacts.length w.Contacts.length, .sl 4 0 w.Overlaps.length w.Overlaps.length, .sc (.int .i64 w.NextID), .sc (.int .i64 w.Frame)]
def Oown (w : Api.World) : List (Nat × AObj) := (32, wBox w) :: Wobj w 1 2 3 4
attribute [go_sem] wBox Oown
def Owv (own : Bool) (w : Api.World) : List (Nat × AObj) := if own = true then Oown w else [(32, .box w.enc)]
theorem Owv_t (w : Api.World) : Owv true w = Oown w := rfl
theorem Owv_f (w : Api.World) : Owv false w = [(32, .box w.enc)] := rfl
theorem islX_sm {w : Api.World} (hw : Wsm w) (k : Nat) : Ism (islX w k) := by
  obtain ⟨a, b, c⟩ := buildL_at (w := w) (k := k)
  have := hw.1; have := hw.2.1; have := hw.2.2.1
  exact ⟨by unfold islX; omega, by unfold islX; omega, by unfold islX; omega⟩
theorem s_law37_SleepWholeIsland (w0 : Api.World) : CallsA Tryz.prog F_law37_SleepWholeIsland [.agg w0.enc] [] (.sc (.bool true)) [] := by
  refine callsI_of (rs := [_]) hm Tryz.func12 (by kernel_rfl) (by kernel_rfl) is_law37_SleepWholeIsland (by kernel_rfl : tmpsOf Tryz.f12.results.toList = some [2]) (by decide) (by kernel_rfl) ?_
  simp only [c_law37_SleepWholeIsland, go_sem]
  refine CallGi_flat (s_r25_Few w0) rfl ?_
  simp only [go_sem]
  cases hf : few25 w0 with
  | false =>
    refine CallGi_skip (by simp) (.sc (.int .i64 0)) ?_
    simp only [go_sem]
    refine CallGi_flat s_law37_example rfl ?_
    simp only [go_sem]
  | true =>
    have hw := few25_sm hf
    refine CallGi_flat (s_world_Validate w0 hw) rfl ?_
    simp only [go_sem]
    by_cases hv : d_world_Validate w0 = 0
    · rw [if_neg (by simp [hv])]
      refine CallGi_flat (s_Build w0 hw) rfl ?_
      simp only [go_sem]
      have hbl := buildL_len w0
      have hw1 := hw.1
      refine Wpi_loop hm (ι := {p : Nat × Api.World // p.1 ≤ (buildL w0).length ∧ Slp w0 p.2 p.1 ∧ (p.1 = 0 → p.2 = w0)}) (fun p => [(1, .share, .ptr 32 0 0 1), (3, .share, encD 3 Island.enc default (buildL w0)), (4, .share, .sc (.int .i64 p.1.1))])
        (fun p => Owv (decide (0 < p.1.1)) p.1.2) (fun p => (buildL w0).length - p.1.1) ⟨(0, w0), by omega, ⟨hw, rfl, nbs_refl _, fun k hk => by omega⟩, fun _ => rfl⟩ ?_ ?_
      · refine weakE_of [] [] (by simp [go_sem, Owv]) (by simp [assoc, go_sem, Owv]) (by simp [go_sem, Owv]) ?_
        simp only [decide_false, Nat.lt_irrefl, Owv_f, go_sem]
      · rintro ⟨⟨i, w⟩, hi, hS, h0⟩
        replace hi : i ≤ (buildL w0).length := hi
        replace hS : Slp w0 w i := hS
        replace h0 : i = 0 → w = w0 := h0
        by_cases hi0 : i = 0
        · subst hi0
          obtain rfl := h0 rfl
          simp only [Nat.lt_irrefl, decide_false, Owv_f, c_law37_SleepWholeIslandb0, go_sem]
          by_cases hlt : 0 < (buildL w).length
          · rw [if_pos (by omega)]
            have hS2 := slp_wake hv hlt hS
            have hin := slp_in hv hS2 hlt
            have hx := islX_sm hw 0
            have hW : CallsA Tryz.prog F_sleep_Wake [.agg w.enc, .agg ((buildL w).getD 0 default).enc] [] (.tup [Wown (wakeW w (islX w 0)) 1 2 3 4, .sl 5 0 (wkR w (islX w 0)).2.length (wkR w (islX w 0)).2.length]) (Wobj (wakeW w (islX w 0)) 1 2 3 4 ++ evObj 5 (wkR w (islX w 0)).2) := s_sleep_Wake w (islX w 0) hw hx
            have hH : CallsA Tryz.prog F_law37_whole [.agg (wakeW w (islX w 0)).enc, .agg ((buildL w).getD 0 default).enc] [] (.sc (.bool true)) [] := s_law37_whole (wakeW w (islX w 0)) (islX w 0) hS2.1.1 hx.1 hin (hS2.2.2.2 0 (by omega) hlt)
            generalize (wkR w (islX w 0)).2 = ev at *
            generalize wakeW w (islX w 0) = w2 at *
            refine ⟨ok_, ?_⟩
            refine CallGi_obj [true, true] [] hW (by simp) (by simp [go_sem]) (by simp [go_sem]) (by simp) ?_
            simp only [go_sem]
            refine ⟨ok_, ?_⟩
            refine CallGi_keep hH rfl (by simp only [argsC, go_sem]) ?_
            simp only [go_sem]
            refine loop_next ⟨(1, w2), by show 1 ≤ (buildL w).length; omega, hS2, fun h => by cases h⟩ (by show (buildL w).length - 1 < (buildL w).length - 0; omega) (weakE_of [] [] (by simp [go_sem, Owv]) (by simp [assoc, go_sem, Owv]) (by simp [go_sem, Owv]) ?_)
            have e1 : decide (0 < 1) = true := rfl
            simp only [e1, Owv_t, go_sem]
            exact (by rw [IntKind.wrap_i64]; omega)
          · rw [if_neg (by omega)]
            refine Wpi_loop hm (ι := Unit) (fun _ => [(3, .share, encD 3 Island.enc default (buildL w)), (5, .share, .sc (.int .i64 0))]) (fun _ => []) (fun _ => 0) () ?_ ?_
            · refine weakE_ [] [] ?_
              simp only [go_sem]
            · rintro ⟨⟩
              simp only [c_law37_SleepWholeIslandb1, go_sem]
              rw [if_neg (by omega)]
              refine CallGi_flat s_law37_example rfl ?_
              simp only [go_sem]
        · have e0 : decide (0 < i) = true := decide_eq_true (by omega)
          simp only [e0, Owv_t, c_law37_SleepWholeIslandb0, go_sem]
          clear h0
          by_cases hlt : i < (buildL w0).length
          · rw [if_pos (by omega)]
            have hS2 := slp_wake hv hlt hS
            have hin := slp_in hv hS2 hlt
            have hx := islX_sm hw i
            have hW : CallsA Tryz.prog F_sleep_Wake [.agg w.enc, .agg ((buildL w0).getD i default).enc] [] (.tup [Wown (wakeW w (islX w0 i)) 1 2 3 4, .sl 5 0 (wkR w (islX w0 i)).2.length (wkR w (islX w0 i)).2.length]) (Wobj (wakeW w (islX w0 i)) 1 2 3 4 ++ evObj 5 (wkR w (islX w0 i)).2) := s_sleep_Wake w (islX w0 i) hS.1 hx
            have hH : CallsA Tryz.prog F_law37_whole [.agg (wakeW w (islX w0 i)).enc, .agg ((buildL w0).getD i default).enc] [] (.sc (.bool true)) [] := s_law37_whole (wakeW w (islX w0 i)) (islX w0 i) hS2.1.1 hx.1 hin (hS2.2.2.2 i (by omega) hlt)
            generalize (wkR w (islX w0 i)).2 = ev at *
            generalize wakeW w (islX w0 i) = w2 at *
            refine ⟨ok_, ?_⟩
            refine CallGi_obj [false, true] [(1, 11), (2, 12), (3, 13), (4, 14), (5, 15)] hW (by simp) (by simp [go_sem]) (by simp [go_sem]) (by simp) ?_
            simp only [go_sem]
            refine ⟨ok_, ?_⟩
            refine CallGi_keep hH rfl (by simp only [argsC, go_sem]) ?_
            simp only [go_sem]
            refine loop_next ⟨(i + 1, w2), by show i + 1 ≤ (buildL w0).length; omega, hS2, fun h => by cases h⟩ (by show (buildL w0).length - (i + 1) < (buildL w0).length - i; omega) (weakE_of [(1, 11), (2, 12), (3, 13), (4, 14)] [] (by simp [go_sem, Owv]) (by simp [assoc, go_sem, Owv]) (by simp [go_sem, Owv]) ?_)
            have e1 : decide (0 < i + 1) = true := decide_eq_true (by omega)
            simp only [e1, Owv_t, go_sem]
            exact (by rw [IntKind.wrap_i64]; omega)
          · rw [if_neg (by omega)]
            obtain rfl : i = (buildL w0).length := by omega
            refine Wpi_loop hm (ι := {p : Nat × Api.World // p.1 ≤ (buildL w0).length ∧ Slp w0 p.2 (buildL w0).length}) (fun p => [(1, .share, .ptr 32 0 0 1), (3, .share, encD 3 Island.enc default (buildL w0)), (5, .share, .sc (.int .i64 p.1.1))])
              (fun p => Oown p.1.2) (fun p => (buildL w0).length - p.1.1) ⟨(0, w), by omega, hS⟩ ?_ ?_
            · refine weakE_ [] [] ?_
              simp only [go_sem]
              try rfl
            · clear hS
              rintro ⟨⟨k, w⟩, hk, hS⟩
              replace hk : k ≤ (buildL w0).length := hk
              replace hS : Slp w0 w (buildL w0).length := hS
              simp only [c_law37_SleepWholeIslandb1, go_sem]
              by_cases hlt : k < (buildL w0).length
              · rw [if_pos (by omega)]
                have hS2 := slp_upd hv hlt hlt hS
                have hin := slp_in hv hS2 hlt
                have hx := islX_sm hw k
                have hv2 := slp_valid hv hS2
                have hW : CallsA Tryz.prog F_sleep_Update [.agg w.enc, .agg ((buildL w0).getD k default).enc] [] (.tup [Wown (updW w (islX w0 k)) 1 2 3 4, .sl 5 0 (updR w (islX w0 k)).2.length (updR w (islX w0 k)).2.length]) (Wobj (updW w (islX w0 k)) 1 2 3 4 ++ evObj 5 (updR w (islX w0 k)).2) := s_sleep_Update w (islX w0 k) hS.1 hx
                have hH : CallsA Tryz.prog F_law37_whole [.agg (updW w (islX w0 k)).enc, .agg ((buildL w0).getD k default).enc] [] (.sc (.bool true)) [] := s_law37_whole (updW w (islX w0 k)) (islX w0 k) hS2.1.1 hx.1 hin (hS2.2.2.2 k hlt hlt)
                generalize (updR w (islX w0 k)).2 = ev at *
                generalize updW w (islX w0 k) = w2 at *
                refine ⟨ok_, ?_⟩
                refine CallGi_obj [false, true] [(1, 11), (2, 12), (3, 13), (4, 14), (5, 15)] hW (by simp) (by simp [go_sem]) (by simp [go_sem]) (by simp) ?_
                simp only [go_sem]
                refine ⟨ok_, ?_⟩
                refine CallGi_keep hH rfl (by simp only [argsC, go_sem]) ?_
                simp only [go_sem]
                refine CallGi_keep (s_world_Validate w2 hS2.1) rfl (by simp only [argsC, go_sem]) ?_
                simp only [go_sem]
                rw [if_neg (by simp [hv2])]
                refine loop_next ⟨(k + 1, w2), by show k + 1 ≤ (buildL w0).length; omega, hS2⟩ (by show (buildL w0).length - (k + 1) < (buildL w0).length - k; omega) (weakE_ [(1, 11), (2, 12), (3, 13), (4, 14)] [] ?_)
                simp only [go_sem]
                exact (by rw [IntKind.wrap_i64]; omega)
              · rw [if_neg (by omega)]
                refine CallGi_flat s_law37_example rfl ?_
                simp only [go_sem]
    · rw [if_pos (by simpa using hv)]
      refine CallGi_flat s_law37_example rfl ?_
      simp only [go_sem]

end Go.Abs
