/- A part of the walk: contracts of functions that the statement reaches. -/
import Derived.Test.YtlldeiikcfaegaaGreatAbsC
import Derived.Test.YtlldeiikcfaegaaGreatHP
set_option linter.unusedSimpArgs false
set_option linter.unusedVariables false
set_option linter.unnecessarySimpa false
set_option maxRecDepth 100000
set_option maxHeartbeats 2000000
set_option linter.unusedSimpArgs false
set_option linter.unusedVariables false
namespace Go.Abs
open Go.Proofs
open Api
def indL (n : Nat) (acc : List Int) (i : Int) : List Int := if (0 ≤ i ∧ i < n) ∧ ¬ (acc.any fun y => i == y) = true then acc ++ [i] else acc
/-- the distinct indices below n, in order -/
def inds (l : List Int) (n : Nat) : List Int := l.foldl (indL n) []
theorem inds_snoc {l : List Int} {n k : Nat} (h : k < l.length) : inds (l.take (k + 1)) n = indL n (inds (l.take k) n) (l.getD k 0) := by
  rw [take_snoc 0 h]; simp [inds]
theorem indL_len (n : Nat) (acc : List Int) (i : Int) : (indL n acc i).length ≤ acc.length + 1 := by unfold indL; split <;> simp
theorem inds_len (l : List Int) (n : Nat) : (inds l n).length ≤ l.length := by
  have : ∀ (l acc : List Int), (l.foldl (indL n) acc).length ≤ acc.length + l.length := by
    intro l
    induction l with
    | nil => intro acc; simp
    | cons a l ih => intro acc; have := ih (indL n acc a); have := indL_len n acc a; simp only [List.foldl_cons, List.length_cons]; omega
  simpa [inds] using this l []
theorem inds_mem {l : List Int} {n : Nat} {i : Int} : i ∈ inds l n ↔ i ∈ l ∧ 0 ≤ i ∧ i < n := by
  have : ∀ (l acc : List Int), i ∈ l.foldl (indL n) acc ↔ i ∈ acc ∨ (i ∈ l ∧ 0 ≤ i ∧ i < n) := by
    intro l
    induction l with
    | nil => intro acc; simp
    | cons a l ih =>
      intro acc
      rw [List.foldl_cons, ih]
      unfold indL
      split
      · rename_i h
        simp only [List.mem_append, List.mem_singleton, List.mem_cons, List.not_mem_nil, or_false]
        constructor
        · rintro ((h1 | rfl) | h1)
          · exact .inl h1
          · exact .inr ⟨.inl rfl, h.1⟩
          · exact .inr ⟨.inr h1.1, h1.2⟩
        · rintro (h1 | ⟨rfl | h1, h2⟩)
          · exact .inl (.inl h1)
          · exact .inl (.inr rfl)
          · exact .inr ⟨h1, h2⟩
      · rename_i h
        simp only [List.mem_cons]
        constructor
        · rintro (h1 | h1)
          · exact .inl h1
          · exact .inr ⟨.inr h1.1, h1.2⟩
        · rintro (h1 | ⟨rfl | h1, h2⟩)
          · exact .inl h1
          · left
            have : (acc.any fun y => i == y) = true := Classical.byContradiction fun hh => h ⟨h2, hh⟩
            rw [List.any_eq_true] at this
            obtain ⟨y, hy, e⟩ := this
            rw [beq_iff_eq] at e; rwa [e]
          · exact .inr ⟨h1, h2⟩
  simpa [inds] using this l []
/-- the cells of a group: a world of objects 1 to 4, an island, the indices (object 5) -/
def gcells (w : Api.World) (x : Island) (n : Nat) : List AV := [.sc (.int .i64 w.Settings.TimeStep), .sc (.int .i64 w.Settings.Gravity.X), .sc (.int .i64 w.Settings.Gravity.Y), .sc (.int .i64 w.Settings.Iterations), .sc (.int .i64 w.Settings.SleepSteps),
  .sl 1 0 w.Bodies.length w.Bodies.length, .sl 2 0 w.Joints.length w.Joints.length, .sl 3 0 w.Contacts.length w.Contacts.length, .sl 4 0 w.Overlaps.length w.Overlaps.length, .sc (.int .i64 w.NextID), .sc (.int .i64 w.Frame),
  encD 1 encInt 0 x.Bodies, encD 1 encInt 0 x.Contacts, encD 1 encInt 0 x.Joints, .sl 5 0 n n]
def gobj (w : Api.World) (x : Island) (l : List Int) : List (Nat × AObj) := (6, .box (gcells w x l.length)) :: (5, .arr 1 (encQ encInt 0 l)) :: Wobj w 1 2 3 4
attribute [go_sem] gcells gobj
def Ism (x : Island) : Prop := x.Bodies.length ≤ 1048576 ∧ x.Contacts.length ≤ 1048576 ∧ x.Joints.length ≤ 1048576

theorem s_sleep_newGroup (w : Api.World) (x : Island) (hw : Wsm w) (hx : Ism x) : CallsA Tryz.prog F_sleep_newGroup [.agg w.enc, .agg x.enc] [] (.ptr 6 0 0 1) (gobj w x (inds x.Bodies w.Bodies.length)) := by
  have hx1 := hx.1
  refine callsIO_of (rs := [_]) hm Tryz.func108 (by kernel_rfl) (by kernel_rfl) is_sleep_newGroup (by kernel_rfl : tmpsOf Tryz.f108.results.toList = some [4]) (by decide) (by kernel_rfl) ?_
  simp only [c_sleep_newGroup, go_sem]
  refine CallGi_obj [true] [] (s_world_Clone w hw) (by simp) (by simp [go_sem]) (by simp [go_sem]) (by simp) ?_
  simp only [go_sem]
  refine Wpi_loop hm (ι := {i : Nat // i ≤ x.Bodies.length}) (fun i => [(2, .share, .ptr 48 0 0 1), (3, .share, .ptr 64 0 0 1), (5, .share, .ptr 6 0 0 1), (14, .share, encD 1 encInt 0 x.Bodies), (15, .share, .sc (.int .i64 x.Bodies.length)), (16, .share, .sc (.int .i64 i.1))])
    (fun i => (48, .box w.enc) :: (64, .box x.enc) :: gobj w x (inds (x.Bodies.take i.1) w.Bodies.length)) (fun i => x.Bodies.length - i.1) ⟨0, by omega⟩ ?_ ?_
  · refine weakE_ [(6, 208)] [5] ?_
    simp only [go_sem]
    rfl
  · rintro ⟨i, hi⟩
    have hn := inds_len (x.Bodies.take i) w.Bodies.length
    have hn : (inds (x.Bodies.take i) w.Bodies.length).length ≤ 1048576 := by have := hx.1; simp at hn; omega
    simp only [c_sleep_newGroupb0, go_sem]
    split
    · rename_i hlt
      have hlt : i < x.Bodies.length := by omega
      refine ⟨ok_, ?_⟩
      refine CallGi_keep (s_slices_Contains_int (inds (x.Bodies.take i) w.Bodies.length) (x.Bodies.getD i 0) hn) rfl (by simp only [argsC, go_sem]) ?_
      simp only [go_sem]
      by_cases hc : (0 ≤ x.Bodies.getD i 0 ∧ x.Bodies.getD i 0 < (w.Bodies.length : Int)) ∧ ¬ ((inds (x.Bodies.take i) w.Bodies.length).any fun y => x.Bodies.getD i 0 == y) = true
      · have he : inds (x.Bodies.take (i + 1)) w.Bodies.length = inds (x.Bodies.take i) w.Bodies.length ++ [x.Bodies.getD i 0] := by
          rw [inds_snoc hlt]; unfold indL; rw [if_pos hc]
        rw [if_pos (by obtain ⟨⟨c1, c2⟩, c3⟩ := hc; rw [if_pos c1, decide_eq_true c2, Bool.eq_false_iff.2 c3]; rfl)]
        refine ⟨ok_, ?_⟩
        refine loop_next ⟨i + 1, by omega⟩ (by show x.Bodies.length - (i + 1) < x.Bodies.length - i; omega) (weakE_ [] [] ?_)
        simp only [go_sem, he, List.length_append, List.length_singleton]
        exact ⟨(by rw [IntKind.wrap_i64]; omega), q_app1 (x.Bodies.getD i 0) rfl rfl⟩
      · have he : inds (x.Bodies.take (i + 1)) w.Bodies.length = inds (x.Bodies.take i) w.Bodies.length := by
          rw [inds_snoc hlt]; unfold indL; rw [if_neg hc]
        rw [if_neg (by
          intro h; apply hc
          rw [Bool.and_eq_true, Bool.not_eq_true'] at h
          obtain ⟨h1, h2⟩ := h
          by_cases c1 : 0 ≤ x.Bodies.getD i 0
          · rw [if_pos c1] at h1; exact ⟨⟨c1, of_decide_eq_true h1⟩, Bool.eq_false_iff.1 h2⟩
          · rw [if_neg c1] at h1; cases h1)]
        refine loop_next ⟨i + 1, by omega⟩ (by show x.Bodies.length - (i + 1) < x.Bodies.length - i; omega) (weakE_ [] [] ?_)
        simp only [go_sem, he]
        exact (by rw [IntKind.wrap_i64]; omega)
    · rename_i hge
      obtain rfl : i = x.Bodies.length := by omega
      refine retW_of [.share] [] [] rfl rfl (by simp [go_sem]) (by simp [assoc, go_sem]) (by simp [go_sem]) ?_
      simp only [go_sem, List.take_length]

theorem okO_gobj (w : Api.World) (x : Island) (l : List Int) : okO (gobj w x l) := by
  refine ⟨by simp [go_sem], ?_⟩
  simp [go_sem, idsL, AV.ids]
def getB (w : Api.World) (i : Int) : Body := w.Bodies.getD i.toNat default

theorem s_sleep_group_active (w : Api.World) (x : Island) (l : List Int) (b : Body) : CallsA Tryz.prog F_sleep_group_active [.ptr 6 0 0 1, .agg b.enc] (gobj w x l) (.sc (.bool (!b.Asleep))) (gobj w x l) := by
  refine callsIO_of (rs := [_]) hm Tryz.func186 (by kernel_rfl) (by kernel_rfl) is_sleep_group_active (by kernel_rfl : tmpsOf Tryz.f186.results.toList = some [4]) (by decide) (by kernel_rfl) ?_
  simp only [c_sleep_group_active, go_sem]
  refine retW_of [.share] [] [] rfl rfl (by simp [go_sem]) (by simp [assoc, go_sem]) (by simp [go_sem]) ?_
  simp only [go_sem]
theorem s_sleep_group_restless (w : Api.World) (x : Island) (l : List Int) (b : Body) : CallsA Tryz.prog F_sleep_group_restless [.ptr 6 0 0 1, .agg b.enc] (gobj w x l) (.sc (.bool (decide (b.IdleSteps < w.Settings.SleepSteps)))) (gobj w x l) := by
  refine callsIO_of (rs := [_]) hm Tryz.func112 (by kernel_rfl) (by kernel_rfl) is_sleep_group_restless (by kernel_rfl : tmpsOf Tryz.f112.results.toList = some [4]) (by decide) (by kernel_rfl) ?_
  simp only [c_sleep_group_restless, go_sem]
  refine retW_of [.share] [] [] rfl rfl (by simp [go_sem]) (by simp [assoc, go_sem]) (by simp [go_sem]) ?_
  simp only [go_sem]
def drvB (b : Body) : Bool := (b.Kind == 2) && (!(b.Velocity.X == 0 && b.Velocity.Y == 0) || b.AngularVelocity != 0)
theorem s_sleep_group_driver (w : Api.World) (x : Island) (l : List Int) (b : Body) : CallsA Tryz.prog F_sleep_group_driver [.ptr 6 0 0 1, .agg b.enc] (gobj w x l) (.sc (.bool (drvB b))) (gobj w x l) := by
  refine callsIO_of (rs := [_]) hm Tryz.func191 (by kernel_rfl) (by kernel_rfl) is_sleep_group_driver (by kernel_rfl : tmpsOf Tryz.f191.results.toList = some [4]) (by decide) (by kernel_rfl) ?_
  simp only [c_sleep_group_driver, go_sem]
  cases hk : b.Kind == 2 with
  | true =>
    simp only [go_sem]
    refine retW_of [.share] [] [] rfl rfl (by simp [go_sem]) (by simp [assoc, go_sem]) (by simp [go_sem]) ?_
    simp only [go_sem]
    simp only [drvB, hk, Bool.true_and]
  | false =>
    simp only [go_sem]
    refine retW_of [.share] [] [] rfl rfl (by simp [go_sem]) (by simp [assoc, go_sem]) (by simp [go_sem]) ?_
    simp only [go_sem]
    simp only [drvB, hk, Bool.false_and]

def anyO (w : Api.World) (x : Island) (l : List Int) (f : FuncId) : List (Nat × AObj) := (48, .box [.ptr 6 0 0 1]) :: (64, .box [.fn (.func f) [.ptr 6 0 0 1] []]) :: gobj w x l
attribute [go_sem] anyO
theorem okO_anyO (w : Api.World) (x : Island) (l : List Int) (f : FuncId) : okO (anyO w x l f) := by
  refine ⟨by simp [go_sem], ?_⟩
  simp [go_sem, idsL, AV.ids]
theorem s_sleep_group_any_f1 (w : Api.World) (x : Island) (l : List Int) (f : FuncId) (p : Body → Bool) (hp : ∀ b : Body, CallsA Tryz.prog f [.ptr 6 0 0 1, .agg b.enc] (gobj w x l) (.sc (.bool (p b))) (gobj w x l))
    (i : Int) (h0 : 0 ≤ i) (h1 : i < w.Bodies.length) : CallsA Tryz.prog F_sleep_group_any_f1 [.sc (.int .i64 i), .ptr 64 0 0 1, .ptr 48 0 0 1] (anyO w x l f) (.sc (.bool (p (getB w i)))) (anyO w x l f) := by
  refine callsIO_of (rs := [_]) hm Tryz.func189 (by kernel_rfl) (by kernel_rfl) is_sleep_group_any_f1 (by kernel_rfl : tmpsOf Tryz.f189.results.toList = some [4]) (by decide) (by kernel_rfl) ?_
  simp only [c_sleep_group_any_f1, go_sem]
  refine ⟨⟨h0, h1⟩, ?_⟩
  refine CallGi_sub (hp (getB w i)) (okO_gobj w x l) (by simp [go_sem]) (by simp [go_sem, AV.ids]) rfl ?_
  simp only [go_sem]
  refine retW_of [.share] [] [] rfl rfl (by simp [go_sem]) (by simp [assoc, go_sem]) (by simp [go_sem]) ?_
  simp only [go_sem]
theorem s_sleep_group_any (w : Api.World) (x : Island) (l : List Int) (f : FuncId) (p : Body → Bool) (hp : ∀ b : Body, CallsA Tryz.prog f [.ptr 6 0 0 1, .agg b.enc] (gobj w x l) (.sc (.bool (p b))) (gobj w x l))
    (hl : l.length ≤ 1048576) (hi : ∀ i ∈ l, 0 ≤ i ∧ i < w.Bodies.length) : CallsA Tryz.prog F_sleep_group_any [.ptr 6 0 0 1, .fn (.func f) [.ptr 6 0 0 1] []] (gobj w x l) (.sc (.bool (l.any fun i => p (getB w i)))) (gobj w x l) := by
  refine callsIO_of (rs := [_]) hm Tryz.func111 (by kernel_rfl) (by kernel_rfl) is_sleep_group_any (by kernel_rfl : tmpsOf Tryz.f111.results.toList = some [4]) (by decide) (by kernel_rfl) ?_
  simp only [c_sleep_group_any, go_sem]
  refine CallGi_sub (s_slices_ContainsFunc_int_own 5 l F_sleep_group_any_f1 [] [.ptr 64 0 0 1, .ptr 48 0 0 1] (anyO w x l f) (fun i => p (getB w i)) (by omega) (okO_anyO w x l f) (by simp [go_sem]) (by simp [go_sem, AV.ids]) (fun i hm => s_sleep_group_any_f1 w x l f p hp i (hi i hm).1 (hi i hm).2)) (okO_anyO w x l f) (by simp [go_sem]) (by simp [go_sem, AV.ids]) rfl ?_
  simp only [go_sem]
  refine retW_of [.share] [] [] rfl rfl (by simp [go_sem]) (by simp [assoc, go_sem]) (by simp [go_sem]) ?_
  simp only [go_sem]

end Go.Abs
