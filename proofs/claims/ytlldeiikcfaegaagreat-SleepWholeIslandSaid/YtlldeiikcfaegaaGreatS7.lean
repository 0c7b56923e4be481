/- A part of the walk: contracts of functions that the statement reaches. -/
import Derived.Test.YtlldeiikcfaegaaGreatAbsC
import Derived.Test.YtlldeiikcfaegaaGreatS6
set_option linter.unusedSimpArgs false
set_option linter.unusedVariables false
set_option linter.unnecessarySimpa false
set_option maxRecDepth 100000
set_option maxHeartbeats 2000000
set_option linter.unusedSimpArgs false
set_option linter.unusedVariables false
namespace Go.Abs
open Go.Proofs
open Api
theorem sq_set_g (s : Sq) (k : Nat) (c : List AV) : (s.set k c).g k = c := by simp [Sq.set]
theorem sq_set_set (s : Sq) (k : Nat) (c c' : List AV) : (s.set k c).set k c' = s.set k c' := by
  simp only [Sq.set, Sq.mk.injEq, true_and]; funext i; split <;> rfl
attribute [go_sem] sq_set_g sq_set_set
/-- an event: its kind and the body it is about -/
def encEv (e : Int × Int) : List AV := [.sc (.int .i64 e.1), .sc (.int .i64 e.2), .sc (.int .i64 0), .sc (.int .i64 0), .sc (.int .i64 0)]
attribute [go_sem] encEv
def wkB (b : Body) : Body := { b with Asleep := false, IdleSteps := 0 }
def wkStep (s : List Body × List (Int × Int)) (i : Int) : List Body × List (Int × Int) :=
  if (s.1.getD i.toNat default).Asleep = true then (s.1.set i.toNat (wkB (s.1.getD i.toNat default)), s.2 ++ [(7, (s.1.getD i.toNat default).ID)]) else s
def wkF (w : Api.World) (l : List Int) : List Body × List (Int × Int) := l.foldl wkStep (w.Bodies, [])
theorem wkF_nil (w : Api.World) : wkF w [] = (w.Bodies, []) := rfl
theorem wkF_snoc {w : Api.World} {l : List Int} {k : Nat} (h : k < l.length) : wkF w (l.take (k + 1)) = wkStep (wkF w (l.take k)) (l.getD k 0) := by
  unfold wkF; rw [take_snoc 0 h]; simp
theorem wkStep_len (s : List Body × List (Int × Int)) (i : Int) : (wkStep s i).1.length = s.1.length ∧ (wkStep s i).2.length ≤ s.2.length + 1 := by
  unfold wkStep; split <;> simp
theorem wkF_len (w : Api.World) (l : List Int) : (wkF w l).1.length = w.Bodies.length ∧ (wkF w l).2.length ≤ l.length := by
  have : ∀ (l : List Int) (s : List Body × List (Int × Int)), (l.foldl wkStep s).1.length = s.1.length ∧ (l.foldl wkStep s).2.length ≤ s.2.length + l.length := by
    intro l
    induction l with
    | nil => intro s; simp
    | cons a l ih => intro s; have h1 := ih (wkStep s a); have h2 := wkStep_len s a; simp only [List.foldl_cons, List.length_cons]; omega
  have := this l (w.Bodies, [])
  simpa [wkF] using this
def withB (w : Api.World) (bs : List Body) : Api.World := { w with Bodies := bs }
def evObj (k : Nat) (e : List (Int × Int)) : List (Nat × AObj) := [(k, .arr 5 (encQ encEv default e))]
attribute [go_sem] evObj withB
def gobjB (w : Api.World) (bs : List Body) (x : Island) (l : List Int) : List (Nat × AObj) := [(6, .box (gcells w x l.length)), (5, .arr 1 (encQ encInt 0 l)), (1, .arr 20 (encQ Body.enc default bs)), (2, .arr 24 (encQ Joint.enc default w.Joints)), (3, .arr 7 (encQ Contact.enc default w.Contacts)), (4, .arr 4 (encQ PairKey.enc default w.Overlaps))]
attribute [go_sem] gobjB
def wkR (w : Api.World) (x : Island) : List Body × List (Int × Int) := if awakeB w x (indX w x) = true then wkF w (indX w x) else (w.Bodies, [])
theorem s_sleep_Wake (w : Api.World) (x : Island) (hw : Wsm w) (hx : Ism x) : CallsA Tryz.prog F_sleep_Wake [.agg w.enc, .agg x.enc] [] (.tup [Wown (withB w (wkR w x).1) 1 2 3 4, .sl 5 0 (wkR w x).2.length (wkR w x).2.length]) (Wobj (withB w (wkR w x).1) 1 2 3 4 ++ evObj 5 (wkR w x).2) := by
  have hl := indX_len (w := w) hx
  refine callsIRO'_of (rs := [_, _]) (N := 62) hm Tryz.func47 (by kernel_rfl) (by kernel_rfl) is_sleep_Wake (by kernel_rfl) (by kernel_rfl : rvOf Tryz.prog Tryz.f47.results.toList = some [(4, some (some 11)), (5, none)]) (by decide) (by kernel_rfl) ?_
  simp only [c_sleep_Wake, go_sem]
  refine CallGi_obj [true, true] [] (s_sleep_newGroup w x hw hx) (by simp) (by simp [go_sem]) (by simp [go_sem]) (by simp) ?_
  simp only [go_sem]
  refine CallGi_sub (s_sleep_group_awake w x (indX w x) hw hx hl (indX_in w x)) (okO_gobj w x _) (by simp [go_sem, indX]) (by simp [go_sem, AV.ids]) rfl ?_
  simp only [go_sem]
  cases haw : awakeB w x (indX w x) with
  | false =>
    simp only [go_sem]
    have hr : wkR w x = (w.Bodies, []) := by unfold wkR; rw [haw]; rfl
    rw [hr]
    refine retW_of [.share, .adopt] [] [5] rfl rfl (by simp [go_sem]) (by simp [assoc, go_sem]) (by simp [go_sem]) ?_
    simp only [go_sem]
  | true =>
    simp only [go_sem]
    have hr : wkR w x = wkF w (indX w x) := by unfold wkR; rw [haw]; rfl
    rw [hr]
    have hin := indX_in w x
    generalize hll : indX w x = l at *
    refine Wpi_loop hm (ι := {i : Nat // i ≤ l.length}) (fun i => [(4, .share, .ptr 80 0 0 1), (6, .share, .ptr 6 0 0 1), (7, if i.1 = 0 then .adopt else .share, .sl 7 0 (wkF w (l.take i.1)).2.length (wkF w (l.take i.1)).2.length), (24, .share, .sl 5 0 l.length l.length), (25, .share, .sc (.int .i64 l.length)), (26, .share, .sc (.int .i64 i.1))])
      (fun i => (80, .box World.zero) :: (7, .arr 5 (encQ encEv default (wkF w (l.take i.1)).2)) :: gobjB w (wkF w (l.take i.1)).1 x l) (fun i => l.length - i.1) ⟨0, by omega⟩ ?_ ?_
    · refine weakE_ [] [7] ?_
      simp only [go_sem, wkF_nil]
    · rintro ⟨i, hi⟩
      obtain ⟨hb1, hb2⟩ := wkF_len w (l.take i)
      simp only [List.length_take] at hb2
      simp only [c_sleep_Wakeb0, go_sem]
      split
      · rename_i hlt
        have hlt : i < l.length := by omega
        obtain ⟨hi0, hi1⟩ := hin _ (mem_getD 0 hlt)
        refine ⟨ok_, ok_, hb1.symm, ?_⟩
        by_cases hs : ((wkF w (l.take i)).1.getD (l.getD i 0).toNat default).Asleep = true
        · have he : wkF w (l.take (i + 1)) = ((wkF w (l.take i)).1.set (l.getD i 0).toNat (wkB ((wkF w (l.take i)).1.getD (l.getD i 0).toNat default)), (wkF w (l.take i)).2 ++ [(7, ((wkF w (l.take i)).1.getD (l.getD i 0).toNat default).ID)]) := by
            rw [wkF_snoc hlt, wkStep, if_pos hs]
          rw [if_pos hs]
          refine ⟨hb1.symm, hb1.symm, hb1.symm, ok_, ?_⟩
          refine loop_next ⟨i + 1, by omega⟩ (by show l.length - (i + 1) < l.length - i; omega) (weakE_ [] [] ?_)
          simp only [go_sem, he, List.length_append, List.length_singleton]
          exact ⟨(by rw [IntKind.wrap_i64]; omega), q_app1 (7, ((wkF w (l.take i)).1.getD (l.getD i 0).toNat default).ID) rfl rfl, q_set (wkB ((wkF w (l.take i)).1.getD (l.getD i 0).toNat default)) (by omega) rfl rfl⟩
        · have he : wkF w (l.take (i + 1)) = wkF w (l.take i) := by
            rw [wkF_snoc hlt, wkStep, if_neg hs]
          rw [if_neg hs]
          refine loop_next ⟨i + 1, by omega⟩ (by show l.length - (i + 1) < l.length - i; omega) (weakE_ [] [] ?_)
          simp only [go_sem, he]
          exact (by rw [IntKind.wrap_i64]; omega)
      · rename_i hge
        obtain rfl : i = l.length := by omega
        simp only [go_sem, List.take_length] at hb1 hb2 ⊢
        refine retW_of [.share, .share] [(5, 7), (7, 5)] [] rfl rfl (by simp [go_sem]) (by simp [assoc, go_sem]) (by simp [go_sem]) ?_
        simp only [go_sem, hb1]

end Go.Abs
