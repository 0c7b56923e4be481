/- A part of the walk: contracts of functions that the statement reaches. -/
import Derived.Test.YtjakdlcknhfibaaX3
set_option linter.unusedSimpArgs false
set_option linter.unusedVariables false
set_option linter.unnecessarySimpa false
set_option maxRecDepth 100000
set_option maxHeartbeats 400000
set_option linter.unusedSimpArgs false
set_option linter.unusedVariables false
namespace Go.Abs
open Go.Proofs
open Api
def stepAt {α : Type} (d : α) (src : List α) (t : List α) (i : Int) : List α := if 0 ≤ i ∧ i < t.length ∧ i < src.length then t.set i.toNat (src.getD i.toNat d) else t
def copyAt {α : Type} (d : α) (to src : List α) (idx : List Int) : List α := idx.foldl (stepAt d src) to
theorem stepAt_length {α : Type} (d : α) (src t : List α) (i : Int) : (stepAt d src t i).length = t.length := by unfold stepAt; split <;> simp
theorem copyAt_length {α : Type} (d : α) (src : List α) : ∀ (idx : List Int) (to : List α), (copyAt d to src idx).length = to.length
  | [], to => rfl
  | i :: idx, to => by
    show (copyAt d (stepAt d src to i) src idx).length = _
    rw [copyAt_length d src idx, stepAt_length]
theorem copyAt_snoc {α : Type} (d : α) (to src : List α) {idx : List Int} {k : Nat} (h : k < idx.length) : copyAt d to src (idx.take (k + 1)) = stepAt d src (copyAt d to src (idx.take k)) (idx.getD k 0) := by
  rw [take_snoc 0 h]; simp [copyAt]
def mergeI (w : Api.World) (x : Island) (f : Api.World) : Api.World := { w with Bodies := copyAt default w.Bodies f.Bodies x.Bodies, Contacts := copyAt default w.Contacts f.Contacts x.Contacts, Joints := copyAt default w.Joints f.Joints x.Joints }
theorem copyAt_set {α : Type} {enc : α → List AV} {d : α} {to src : List α} {idx : List Int} {k : Nat} {c : List AV} {ρ : Nat → Nat} {z : Nat} (h : k < idx.length) (h0 : 0 ≤ idx.getD k 0) (h1 : idx.getD k 0 < to.length) (h2 : idx.getD k 0 < src.length) (hc : c = enc (src.getD (idx.getD k 0).toNat d)) :
    objLeC ρ (.arr z ((encQ enc d (copyAt d to src (idx.take k))).set (idx.getD k 0).toNat c)) (.arr z (encQ enc d (copyAt d to src (idx.take (k + 1))))) := by
  refine q_set (src.getD (idx.getD k 0).toNat d) (by rw [copyAt_length]; omega) hc ?_
  rw [copyAt_snoc d to src h, stepAt, if_pos ⟨h0, by rw [copyAt_length]; exact h1, h2⟩]
theorem copyAt_skip {α : Type} {enc : α → List AV} {d : α} {to src : List α} {idx : List Int} {k : Nat} {ρ : Nat → Nat} {z : Nat} (h : k < idx.length) (hn : ¬ (0 ≤ idx.getD k 0 ∧ idx.getD k 0 < to.length ∧ idx.getD k 0 < src.length)) :
    objLeC ρ (.arr z (encQ enc d (copyAt d to src (idx.take k)))) (.arr z (encQ enc d (copyAt d to src (idx.take (k + 1))))) := by
  refine q_same ?_
  rw [copyAt_snoc d to src h, stepAt, copyAt_length, if_neg hn]
theorem and3 {p q r : Prop} [Decidable p] [Decidable q] [Decidable r] : ((if p then decide q else false) && decide r) = decide (p ∧ q ∧ r) := by
  by_cases hp : p <;> by_cases hq : q <;> by_cases hr : r <;> simp [hp, hq, hr]

theorem s_workers_copyAt_Body (to src : List Body) (idx : List Int) (hi : idx.length ≤ 1048576) : CallsA Try.prog F_workers_copyAt_Body [.sl 1 0 to.length to.length, encD 20 Body.enc default src, encD 1 encInt 0 idx]
    [(1, .arr 20 (encQ Body.enc default to))] (.tup []) [(1, .arr 20 (encQ Body.enc default (copyAt default to src idx)))] := by
  refine callsIO_of (rs := []) hm Try.func47 (by kernel_rfl) (by kernel_rfl) is_workers_copyAt_Body (by kernel_rfl : tmpsOf Try.f47.results.toList = some []) (by decide) (by kernel_rfl) ?_
  simp only [c_workers_copyAt_Body, go_sem, reduceIte, Nat.reduceEqDiff, reduceCtorEq, Nat.reduceAdd, Nat.reduceLeDiff, Nat.reduceMul, Nat.reduceSub, Int.reduceToNat]
  refine Wpi_loop hm (ι := {i : Nat // i ≤ idx.length}) (fun i => [(0, .share, .sl 1 0 to.length to.length), (1, .share, encD 20 Body.enc default src), (8, .share, encD 1 encInt 0 idx), (9, .share, .sc (.int .i64 idx.length)), (10, .share, .sc (.int .i64 i.1))])
    (fun i => [(1, .arr 20 (encQ Body.enc default (copyAt default to src (idx.take i.1))))]) (fun i => idx.length - i.1) ⟨0, by omega⟩ ?_ ?_
  · refine weakE_of [] [] (by simp) (by simp [assoc]) (by simp [go_sem]) ?_
    simp only [go_sem, reduceIte, Nat.reduceEqDiff, reduceCtorEq, Nat.reduceAdd, Nat.reduceLeDiff, Nat.reduceMul, Nat.reduceSub, Int.reduceToNat]
    exact q_same rfl
  · rintro ⟨i, hle⟩
    have hcl := copyAt_length default src (idx.take i) to
    simp only [c_workers_copyAt_Bodyb0, go_sem, reduceIte, Nat.reduceEqDiff, reduceCtorEq, Nat.reduceAdd, Nat.reduceLeDiff, Nat.reduceMul, Nat.reduceSub, Int.reduceToNat]
    split
    · rename_i hlt
      have hlt : i < idx.length := by omega
      refine ⟨(by (repeat' (with_reducible apply And.intro)) <;> first | omega | (simp only [maxLen]; omega)), ?_⟩
      by_cases hc : 0 ≤ idx.getD i 0 ∧ idx.getD i 0 < (to.length : Int) ∧ idx.getD i 0 < (src.length : Int)
      · obtain ⟨c1, c2, c3⟩ := hc
        rw [if_pos (by rw [and3]; exact decide_eq_true ⟨c1, c2, c3⟩)]
        refine ⟨(by (repeat' (with_reducible apply And.intro)) <;> first | omega | (simp only [maxLen]; omega)), (by (repeat' (with_reducible apply And.intro)) <;> first | omega | (simp only [maxLen]; omega)), by omega, ?_⟩
        refine loop_next ⟨i + 1, by omega⟩ (by show idx.length - (i + 1) < idx.length - i; omega) (weakE_of [] [] (by simp [go_sem]) (by simp [go_sem]) (by simp [go_sem]) ?_)
        simp only [go_sem, reduceIte, Nat.reduceEqDiff, reduceCtorEq, Nat.reduceAdd, Nat.reduceLeDiff, Nat.reduceMul, Nat.reduceSub, Int.reduceToNat]
        exact ⟨(by rw [IntKind.wrap_i64]; omega), copyAt_set hlt c1 c2 c3 rfl⟩
      · rw [if_neg (by rw [and3]; simp only [hc, decide_false, Bool.false_eq_true, not_false_eq_true])]
        refine loop_next ⟨i + 1, by omega⟩ (by show idx.length - (i + 1) < idx.length - i; omega) (weakE_of [] [] (by simp [go_sem]) (by simp [go_sem]) (by simp [go_sem]) ?_)
        simp only [go_sem, reduceIte, Nat.reduceEqDiff, reduceCtorEq, Nat.reduceAdd, Nat.reduceLeDiff, Nat.reduceMul, Nat.reduceSub, Int.reduceToNat]
        exact ⟨(by rw [IntKind.wrap_i64]; omega), copyAt_skip hlt hc⟩
    · rename_i hge
      obtain rfl : i = idx.length := by omega
      refine retW_of [] [] [] rfl rfl (by simp) (by simp [assoc]) (by simp [go_sem]) ?_
      simp only [List.take_length, go_sem, reduceIte, Nat.reduceEqDiff, reduceCtorEq, Nat.reduceAdd, Nat.reduceLeDiff, Nat.reduceMul, Nat.reduceSub, Int.reduceToNat]

theorem s_workers_copyAt_Contact (to src : List Contact) (idx : List Int) (hi : idx.length ≤ 1048576) : CallsA Try.prog F_workers_copyAt_Contact [.sl 1 0 to.length to.length, encD 7 Contact.enc default src, encD 1 encInt 0 idx]
    [(1, .arr 7 (encQ Contact.enc default to))] (.tup []) [(1, .arr 7 (encQ Contact.enc default (copyAt default to src idx)))] := by
  refine callsIO_of (rs := []) hm Try.func48 (by kernel_rfl) (by kernel_rfl) is_workers_copyAt_Contact (by kernel_rfl : tmpsOf Try.f48.results.toList = some []) (by decide) (by kernel_rfl) ?_
  simp only [c_workers_copyAt_Contact, go_sem, reduceIte, Nat.reduceEqDiff, reduceCtorEq, Nat.reduceAdd, Nat.reduceLeDiff, Nat.reduceMul, Nat.reduceSub, Int.reduceToNat]
  refine Wpi_loop hm (ι := {i : Nat // i ≤ idx.length}) (fun i => [(0, .share, .sl 1 0 to.length to.length), (1, .share, encD 7 Contact.enc default src), (8, .share, encD 1 encInt 0 idx), (9, .share, .sc (.int .i64 idx.length)), (10, .share, .sc (.int .i64 i.1))])
    (fun i => [(1, .arr 7 (encQ Contact.enc default (copyAt default to src (idx.take i.1))))]) (fun i => idx.length - i.1) ⟨0, by omega⟩ ?_ ?_
  · refine weakE_of [] [] (by simp) (by simp [assoc]) (by simp [go_sem]) ?_
    simp only [go_sem, reduceIte, Nat.reduceEqDiff, reduceCtorEq, Nat.reduceAdd, Nat.reduceLeDiff, Nat.reduceMul, Nat.reduceSub, Int.reduceToNat]
    exact q_same rfl
  · rintro ⟨i, hle⟩
    have hcl := copyAt_length default src (idx.take i) to
    simp only [c_workers_copyAt_Contactb0, go_sem, reduceIte, Nat.reduceEqDiff, reduceCtorEq, Nat.reduceAdd, Nat.reduceLeDiff, Nat.reduceMul, Nat.reduceSub, Int.reduceToNat]
    split
    · rename_i hlt
      have hlt : i < idx.length := by omega
      refine ⟨(by (repeat' (with_reducible apply And.intro)) <;> first | omega | (simp only [maxLen]; omega)), ?_⟩
      by_cases hc : 0 ≤ idx.getD i 0 ∧ idx.getD i 0 < (to.length : Int) ∧ idx.getD i 0 < (src.length : Int)
      · obtain ⟨c1, c2, c3⟩ := hc
        rw [if_pos (by rw [and3]; exact decide_eq_true ⟨c1, c2, c3⟩)]
        refine ⟨(by (repeat' (with_reducible apply And.intro)) <;> first | omega | (simp only [maxLen]; omega)), (by (repeat' (with_reducible apply And.intro)) <;> first | omega | (simp only [maxLen]; omega)), by omega, ?_⟩
        refine loop_next ⟨i + 1, by omega⟩ (by show idx.length - (i + 1) < idx.length - i; omega) (weakE_of [] [] (by simp [go_sem]) (by simp [go_sem]) (by simp [go_sem]) ?_)
        simp only [go_sem, reduceIte, Nat.reduceEqDiff, reduceCtorEq, Nat.reduceAdd, Nat.reduceLeDiff, Nat.reduceMul, Nat.reduceSub, Int.reduceToNat]
        exact ⟨(by rw [IntKind.wrap_i64]; omega), copyAt_set hlt c1 c2 c3 rfl⟩
      · rw [if_neg (by rw [and3]; simp only [hc, decide_false, Bool.false_eq_true, not_false_eq_true])]
        refine loop_next ⟨i + 1, by omega⟩ (by show idx.length - (i + 1) < idx.length - i; omega) (weakE_of [] [] (by simp [go_sem]) (by simp [go_sem]) (by simp [go_sem]) ?_)
        simp only [go_sem, reduceIte, Nat.reduceEqDiff, reduceCtorEq, Nat.reduceAdd, Nat.reduceLeDiff, Nat.reduceMul, Nat.reduceSub, Int.reduceToNat]
        exact ⟨(by rw [IntKind.wrap_i64]; omega), copyAt_skip hlt hc⟩
    · rename_i hge
      obtain rfl : i = idx.length := by omega
      refine retW_of [] [] [] rfl rfl (by simp) (by simp [assoc]) (by simp [go_sem]) ?_
      simp only [List.take_length, go_sem, reduceIte, Nat.reduceEqDiff, reduceCtorEq, Nat.reduceAdd, Nat.reduceLeDiff, Nat.reduceMul, Nat.reduceSub, Int.reduceToNat]

theorem s_workers_copyAt_Joint (to src : List Joint) (idx : List Int) (hi : idx.length ≤ 1048576) : CallsA Try.prog F_workers_copyAt_Joint [.sl 1 0 to.length to.length, encD 24 Joint.enc default src, encD 1 encInt 0 idx]
    [(1, .arr 24 (encQ Joint.enc default to))] (.tup []) [(1, .arr 24 (encQ Joint.enc default (copyAt default to src idx)))] := by
  refine callsIO_of (rs := []) hm Try.func49 (by kernel_rfl) (by kernel_rfl) is_workers_copyAt_Joint (by kernel_rfl : tmpsOf Try.f49.results.toList = some []) (by decide) (by kernel_rfl) ?_
  simp only [c_workers_copyAt_Joint, go_sem, reduceIte, Nat.reduceEqDiff, reduceCtorEq, Nat.reduceAdd, Nat.reduceLeDiff, Nat.reduceMul, Nat.reduceSub, Int.reduceToNat]
  refine Wpi_loop hm (ι := {i : Nat // i ≤ idx.length}) (fun i => [(0, .share, .sl 1 0 to.length to.length), (1, .share, encD 24 Joint.enc default src), (8, .share, encD 1 encInt 0 idx), (9, .share, .sc (.int .i64 idx.length)), (10, .share, .sc (.int .i64 i.1))])
    (fun i => [(1, .arr 24 (encQ Joint.enc default (copyAt default to src (idx.take i.1))))]) (fun i => idx.length - i.1) ⟨0, by omega⟩ ?_ ?_
  · refine weakE_of [] [] (by simp) (by simp [assoc]) (by simp [go_sem]) ?_
    simp only [go_sem, reduceIte, Nat.reduceEqDiff, reduceCtorEq, Nat.reduceAdd, Nat.reduceLeDiff, Nat.reduceMul, Nat.reduceSub, Int.reduceToNat]
    exact q_same rfl
  · rintro ⟨i, hle⟩
    have hcl := copyAt_length default src (idx.take i) to
    simp only [c_workers_copyAt_Jointb0, go_sem, reduceIte, Nat.reduceEqDiff, reduceCtorEq, Nat.reduceAdd, Nat.reduceLeDiff, Nat.reduceMul, Nat.reduceSub, Int.reduceToNat]
    split
    · rename_i hlt
      have hlt : i < idx.length := by omega
      refine ⟨(by (repeat' (with_reducible apply And.intro)) <;> first | omega | (simp only [maxLen]; omega)), ?_⟩
      by_cases hc : 0 ≤ idx.getD i 0 ∧ idx.getD i 0 < (to.length : Int) ∧ idx.getD i 0 < (src.length : Int)
      · obtain ⟨c1, c2, c3⟩ := hc
        rw [if_pos (by rw [and3]; exact decide_eq_true ⟨c1, c2, c3⟩)]
        refine ⟨(by (repeat' (with_reducible apply And.intro)) <;> first | omega | (simp only [maxLen]; omega)), (by (repeat' (with_reducible apply And.intro)) <;> first | omega | (simp only [maxLen]; omega)), by omega, ?_⟩
        refine loop_next ⟨i + 1, by omega⟩ (by show idx.length - (i + 1) < idx.length - i; omega) (weakE_of [] [] (by simp [go_sem]) (by simp [go_sem]) (by simp [go_sem]) ?_)
        simp only [go_sem, reduceIte, Nat.reduceEqDiff, reduceCtorEq, Nat.reduceAdd, Nat.reduceLeDiff, Nat.reduceMul, Nat.reduceSub, Int.reduceToNat]
        exact ⟨(by rw [IntKind.wrap_i64]; omega), copyAt_set hlt c1 c2 c3 rfl⟩
      · rw [if_neg (by rw [and3]; simp only [hc, decide_false, Bool.false_eq_true, not_false_eq_true])]
        refine loop_next ⟨i + 1, by omega⟩ (by show idx.length - (i + 1) < idx.length - i; omega) (weakE_of [] [] (by simp [go_sem]) (by simp [go_sem]) (by simp [go_sem]) ?_)
        simp only [go_sem, reduceIte, Nat.reduceEqDiff, reduceCtorEq, Nat.reduceAdd, Nat.reduceLeDiff, Nat.reduceMul, Nat.reduceSub, Int.reduceToNat]
        exact ⟨(by rw [IntKind.wrap_i64]; omega), copyAt_skip hlt hc⟩
    · rename_i hge
      obtain rfl : i = idx.length := by omega
      refine retW_of [] [] [] rfl rfl (by simp) (by simp [assoc]) (by simp [go_sem]) ?_
      simp only [List.take_length, go_sem, reduceIte, Nat.reduceEqDiff, reduceCtorEq, Nat.reduceAdd, Nat.reduceLeDiff, Nat.reduceMul, Nat.reduceSub, Int.reduceToNat]

def Wcells (w : Api.World) (a b c d : Nat) : List AV := [.sc (.int .i64 w.Settings.TimeStep), .sc (.int .i64 w.Settings.Gravity.X), .sc (.int .i64 w.Settings.Gravity.Y), .sc (.int .i64 w.Settings.Iterations), .sc (.int .i64 w.Settings.SleepSteps),
  .sl a 0 w.Bodies.length w.Bodies.length, .sl b 0 w.Joints.length w.Joints.length, .sl c 0 w.Contacts.length w.Contacts.length, .sl d 0 w.Overlaps.length w.Overlaps.length, .sc (.int .i64 w.NextID), .sc (.int .i64 w.Frame)]
attribute [go_sem] Wcells
theorem s_workers_MergeIsland (w : Api.World) (x : Island) (f : Api.World) (hw : Wsm w) (hf : Wsm f) (h1 : x.Bodies.length ≤ 1048576) (h2 : x.Contacts.length ≤ 1048576) (h3 : x.Joints.length ≤ 1048576) :
    CallsA Try.prog F_workers_MergeIsland [.agg w.enc, .agg x.enc, .agg f.enc] [] (.agg (mergeI w x f).enc) [] := by
  refine callsIR'_of (rs := [_]) (N := 35) hm Try.func21 (by kernel_rfl) (by kernel_rfl) is_workers_MergeIsland (by kernel_rfl) (by kernel_rfl : rvOf Try.prog Try.f21.results.toList = some [(6, some (some 11))]) (by decide) (by kernel_rfl) ?_
  simp only [c_workers_MergeIsland, go_sem, reduceIte, Nat.reduceEqDiff, reduceCtorEq, Nat.reduceAdd, Nat.reduceLeDiff, Nat.reduceMul, Nat.reduceSub, Int.reduceToNat]
  refine CallGi_obj [false] [] (s_world_Clone w hw) (by simp) (by simp [go_sem]) (by simp [go_sem]) (by simp) ?_
  simp only [go_sem, reduceIte, Nat.reduceEqDiff, reduceCtorEq, Nat.reduceAdd, Nat.reduceLeDiff, Nat.reduceMul, Nat.reduceSub, Int.reduceToNat]
  refine CallGi_obj [false] [(1, 11), (2, 12), (3, 13), (4, 14)] (s_world_Clone f hf) (by simp) (by simp [go_sem]) (by simp [go_sem]) (by simp) ?_
  simp only [go_sem, reduceIte, Nat.reduceEqDiff, reduceCtorEq, Nat.reduceAdd, Nat.reduceLeDiff, Nat.reduceMul, Nat.reduceSub, Int.reduceToNat]
  refine CallGi_obj [true, false, false] [] (s_workers_copyAt_Body w.Bodies f.Bodies x.Bodies h1) (by simp) (by simp [go_sem]) (by simp [go_sem]) (by simp [go_sem]) ?_
  simp only [go_sem, reduceIte, Nat.reduceEqDiff, reduceCtorEq, Nat.reduceAdd, Nat.reduceLeDiff, Nat.reduceMul, Nat.reduceSub, Int.reduceToNat]
  refine CallGi_obj [true, false, false] [(1, 3)] (s_workers_copyAt_Contact w.Contacts f.Contacts x.Contacts h2) (by simp) (by simp [go_sem]) (by simp [go_sem]) (by simp [go_sem]) ?_
  simp only [go_sem, reduceIte, Nat.reduceEqDiff, reduceCtorEq, Nat.reduceAdd, Nat.reduceLeDiff, Nat.reduceMul, Nat.reduceSub, Int.reduceToNat]
  refine CallGi_obj [true, false, false] [(1, 2)] (s_workers_copyAt_Joint w.Joints f.Joints x.Joints h3) (by simp) (by simp [go_sem]) (by simp [go_sem]) (by simp [go_sem]) ?_
  simp only [go_sem, reduceIte, Nat.reduceEqDiff, reduceCtorEq, Nat.reduceAdd, Nat.reduceLeDiff, Nat.reduceMul, Nat.reduceSub, Int.reduceToNat]
  simp only [mergeI, copyAt_length, go_sem, reduceIte, Nat.reduceEqDiff, reduceCtorEq, Nat.reduceAdd, Nat.reduceLeDiff, Nat.reduceMul, Nat.reduceSub, Int.reduceToNat]

theorem s_r42_MergeIsland (w : Api.World) (x : Island) (f : Api.World) (hw : Wsm w) (hf : Wsm f) (h1 : x.Bodies.length ≤ 1048576) (h2 : x.Contacts.length ≤ 1048576) (h3 : x.Joints.length ≤ 1048576) :
    CallsA Try.prog F_r42_MergeIsland [.agg w.enc, .agg x.enc, .agg f.enc] [] (.agg (mergeI w x f).enc) [] := by
  refine callsIR'_of (rs := [_]) (N := 131) hm Try.func22 (by kernel_rfl) (by kernel_rfl) is_r42_MergeIsland (by kernel_rfl) (by kernel_rfl : rvOf Try.prog Try.f22.results.toList = some [(6, some (some 11))]) (by decide) (by kernel_rfl) ?_
  simp only [c_r42_MergeIsland, go_sem, reduceIte, Nat.reduceEqDiff, reduceCtorEq, Nat.reduceAdd, Nat.reduceLeDiff, Nat.reduceMul, Nat.reduceSub, Int.reduceToNat]
  refine CallGi_obj [false] [] (s_r25_Clone w hw) (by simp) (by simp [go_sem]) (by simp [go_sem]) (by simp) ?_
  simp only [go_sem, reduceIte, Nat.reduceEqDiff, reduceCtorEq, Nat.reduceAdd, Nat.reduceLeDiff, Nat.reduceMul, Nat.reduceSub, Int.reduceToNat]
  refine CallGi_obj [false] [(1, 11), (2, 12), (3, 13), (4, 14)] (s_r25_Clone f hf) (by simp) (by simp [go_sem]) (by simp [go_sem]) (by simp) ?_
  simp only [go_sem, reduceIte, Nat.reduceEqDiff, reduceCtorEq, Nat.reduceAdd, Nat.reduceLeDiff, Nat.reduceMul, Nat.reduceSub, Int.reduceToNat]
  refine Wpi_loop hm (ι := {i : Nat // i ≤ x.Bodies.length}) (fun i => [(4, .share, .ptr 80 0 0 1), (6, .share, .ptr 112 0 0 1), (7, .share, .ptr 128 0 0 1), (8, .share, .ptr 144 0 0 1), (9, .share, .sc (.int .i64 i.1))])
    (fun i => [(80, .box x.enc), (112, .box World.zero), (128, .box (Wcells w 1 2 3 4)), (144, .box (Wcells f 11 12 13 14)), (1, .arr 20 (encQ Body.enc default (copyAt default w.Bodies f.Bodies (x.Bodies.take i.1)))), (2, .arr 24 (encQ Joint.enc default (copyAt default w.Joints f.Joints []))), (3, .arr 7 (encQ Contact.enc default (copyAt default w.Contacts f.Contacts []))), (4, .arr 4 (encQ PairKey.enc default w.Overlaps)), (11, .arr 20 (encQ Body.enc default f.Bodies)), (12, .arr 24 (encQ Joint.enc default f.Joints)), (13, .arr 7 (encQ Contact.enc default f.Contacts)), (14, .arr 4 (encQ PairKey.enc default f.Overlaps))]) (fun i => x.Bodies.length - i.1) ⟨0, by omega⟩ ?_ ?_
  · refine weakE_of [] [] (by simp) (by simp [assoc]) (by simp) ?_
    simp only [go_sem, reduceIte, Nat.reduceEqDiff, reduceCtorEq, Nat.reduceAdd, Nat.reduceLeDiff, Nat.reduceMul, Nat.reduceSub, Int.reduceToNat]
    all_goals ((repeat' (with_reducible apply And.intro)) <;> first | omega | (rw [IntKind.wrap_i64]; omega) | (simp only [maxLen]; omega) | exact q_same rfl)
  · rintro ⟨i, hle⟩
    have hcl := copyAt_length default f.Bodies (x.Bodies.take i) w.Bodies
    simp only [c_r42_MergeIslandb0, go_sem, reduceIte, Nat.reduceEqDiff, reduceCtorEq, Nat.reduceAdd, Nat.reduceLeDiff, Nat.reduceMul, Nat.reduceSub, Int.reduceToNat]
    split
    · rename_i hlt
      have hlt : i < x.Bodies.length := by omega
      refine ⟨(by (repeat' (with_reducible apply And.intro)) <;> first | omega | (simp only [maxLen]; omega)), ?_⟩
      by_cases hc : 0 ≤ x.Bodies.getD i 0 ∧ x.Bodies.getD i 0 < (w.Bodies.length : Int) ∧ x.Bodies.getD i 0 < (f.Bodies.length : Int)
      · obtain ⟨c1, c2, c3⟩ := hc
        rw [if_pos (by rw [and3]; exact decide_eq_true ⟨c1, c2, c3⟩)]
        refine ⟨(by (repeat' (with_reducible apply And.intro)) <;> first | omega | (simp only [maxLen]; omega)), (by (repeat' (with_reducible apply And.intro)) <;> first | omega | (simp only [maxLen]; omega)), by omega, ?_⟩
        refine loop_next ⟨i + 1, by omega⟩ (by show x.Bodies.length - (i + 1) < x.Bodies.length - i; omega) (weakE_of [] [] (by simp [go_sem]) (by simp [go_sem]) (by simp [go_sem]) ?_)
        simp only [go_sem, reduceIte, Nat.reduceEqDiff, reduceCtorEq, Nat.reduceAdd, Nat.reduceLeDiff, Nat.reduceMul, Nat.reduceSub, Int.reduceToNat]
        exact ⟨(by rw [IntKind.wrap_i64]; omega), copyAt_set hlt c1 c2 c3 rfl⟩
      · rw [if_neg (by rw [and3]; simp only [hc, decide_false, Bool.false_eq_true, not_false_eq_true])]
        refine loop_next ⟨i + 1, by omega⟩ (by show x.Bodies.length - (i + 1) < x.Bodies.length - i; omega) (weakE_of [] [] (by simp [go_sem]) (by simp [go_sem]) (by simp [go_sem]) ?_)
        simp only [go_sem, reduceIte, Nat.reduceEqDiff, reduceCtorEq, Nat.reduceAdd, Nat.reduceLeDiff, Nat.reduceMul, Nat.reduceSub, Int.reduceToNat]
        exact ⟨(by rw [IntKind.wrap_i64]; omega), copyAt_skip hlt hc⟩
    · rename_i hge
      obtain rfl : i = x.Bodies.length := by omega
      simp only [List.take_length]
      refine Wpi_loop hm (ι := {i : Nat // i ≤ x.Contacts.length}) (fun i => [(4, .share, .ptr 80 0 0 1), (6, .share, .ptr 112 0 0 1), (7, .share, .ptr 128 0 0 1), (8, .share, .ptr 144 0 0 1), (11, .share, .sc (.int .i64 i.1))])
        (fun i => [(80, .box x.enc), (112, .box World.zero), (128, .box (Wcells w 1 2 3 4)), (144, .box (Wcells f 11 12 13 14)), (1, .arr 20 (encQ Body.enc default (copyAt default w.Bodies f.Bodies x.Bodies))), (2, .arr 24 (encQ Joint.enc default (copyAt default w.Joints f.Joints []))), (3, .arr 7 (encQ Contact.enc default (copyAt default w.Contacts f.Contacts (x.Contacts.take i.1)))), (4, .arr 4 (encQ PairKey.enc default w.Overlaps)), (11, .arr 20 (encQ Body.enc default f.Bodies)), (12, .arr 24 (encQ Joint.enc default f.Joints)), (13, .arr 7 (encQ Contact.enc default f.Contacts)), (14, .arr 4 (encQ PairKey.enc default f.Overlaps))]) (fun i => x.Contacts.length - i.1) ⟨0, by omega⟩ ?_ ?_
      · refine weakE_of [] [] (by simp) (by simp [assoc]) (by simp) ?_
        simp only [go_sem, reduceIte, Nat.reduceEqDiff, reduceCtorEq, Nat.reduceAdd, Nat.reduceLeDiff, Nat.reduceMul, Nat.reduceSub, Int.reduceToNat]
        all_goals ((repeat' (with_reducible apply And.intro)) <;> first | omega | (rw [IntKind.wrap_i64]; omega) | (simp only [maxLen]; omega) | exact q_same rfl)
      · rintro ⟨i, hle⟩
        have hcl := copyAt_length default f.Contacts (x.Contacts.take i) w.Contacts
        simp only [c_r42_MergeIslandb1, go_sem, reduceIte, Nat.reduceEqDiff, reduceCtorEq, Nat.reduceAdd, Nat.reduceLeDiff, Nat.reduceMul, Nat.reduceSub, Int.reduceToNat]
        split
        · rename_i hlt
          have hlt : i < x.Contacts.length := by omega
          refine ⟨(by (repeat' (with_reducible apply And.intro)) <;> first | omega | (simp only [maxLen]; omega)), ?_⟩
          by_cases hc : 0 ≤ x.Contacts.getD i 0 ∧ x.Contacts.getD i 0 < (w.Contacts.length : Int) ∧ x.Contacts.getD i 0 < (f.Contacts.length : Int)
          · obtain ⟨c1, c2, c3⟩ := hc
            rw [if_pos (by rw [and3]; exact decide_eq_true ⟨c1, c2, c3⟩)]
            refine ⟨(by (repeat' (with_reducible apply And.intro)) <;> first | omega | (simp only [maxLen]; omega)), (by (repeat' (with_reducible apply And.intro)) <;> first | omega | (simp only [maxLen]; omega)), by omega, ?_⟩
            refine loop_next ⟨i + 1, by omega⟩ (by show x.Contacts.length - (i + 1) < x.Contacts.length - i; omega) (weakE_of [] [] (by simp [go_sem]) (by simp [go_sem]) (by simp [go_sem]) ?_)
            simp only [go_sem, reduceIte, Nat.reduceEqDiff, reduceCtorEq, Nat.reduceAdd, Nat.reduceLeDiff, Nat.reduceMul, Nat.reduceSub, Int.reduceToNat]
            exact ⟨(by rw [IntKind.wrap_i64]; omega), copyAt_set hlt c1 c2 c3 rfl⟩
          · rw [if_neg (by rw [and3]; simp only [hc, decide_false, Bool.false_eq_true, not_false_eq_true])]
            refine loop_next ⟨i + 1, by omega⟩ (by show x.Contacts.length - (i + 1) < x.Contacts.length - i; omega) (weakE_of [] [] (by simp [go_sem]) (by simp [go_sem]) (by simp [go_sem]) ?_)
            simp only [go_sem, reduceIte, Nat.reduceEqDiff, reduceCtorEq, Nat.reduceAdd, Nat.reduceLeDiff, Nat.reduceMul, Nat.reduceSub, Int.reduceToNat]
            exact ⟨(by rw [IntKind.wrap_i64]; omega), copyAt_skip hlt hc⟩
        · rename_i hge
          obtain rfl : i = x.Contacts.length := by omega
          simp only [List.take_length]
          refine Wpi_loop hm (ι := {i : Nat // i ≤ x.Joints.length}) (fun i => [(4, .share, .ptr 80 0 0 1), (6, .share, .ptr 112 0 0 1), (7, .share, .ptr 128 0 0 1), (8, .share, .ptr 144 0 0 1), (13, .share, .sc (.int .i64 i.1))])
            (fun i => [(80, .box x.enc), (112, .box World.zero), (128, .box (Wcells w 1 2 3 4)), (144, .box (Wcells f 11 12 13 14)), (1, .arr 20 (encQ Body.enc default (copyAt default w.Bodies f.Bodies x.Bodies))), (2, .arr 24 (encQ Joint.enc default (copyAt default w.Joints f.Joints (x.Joints.take i.1)))), (3, .arr 7 (encQ Contact.enc default (copyAt default w.Contacts f.Contacts x.Contacts))), (4, .arr 4 (encQ PairKey.enc default w.Overlaps)), (11, .arr 20 (encQ Body.enc default f.Bodies)), (12, .arr 24 (encQ Joint.enc default f.Joints)), (13, .arr 7 (encQ Contact.enc default f.Contacts)), (14, .arr 4 (encQ PairKey.enc default f.Overlaps))]) (fun i => x.Joints.length - i.1) ⟨0, by omega⟩ ?_ ?_
          · refine weakE_of [] [] (by simp) (by simp [assoc]) (by simp) ?_
            simp only [go_sem, reduceIte, Nat.reduceEqDiff, reduceCtorEq, Nat.reduceAdd, Nat.reduceLeDiff, Nat.reduceMul, Nat.reduceSub, Int.reduceToNat]
            all_goals ((repeat' (with_reducible apply And.intro)) <;> first | omega | (rw [IntKind.wrap_i64]; omega) | (simp only [maxLen]; omega) | exact q_same rfl)
          · rintro ⟨i, hle⟩
            have hcl := copyAt_length default f.Joints (x.Joints.take i) w.Joints
            simp only [c_r42_MergeIslandb2, go_sem, reduceIte, Nat.reduceEqDiff, reduceCtorEq, Nat.reduceAdd, Nat.reduceLeDiff, Nat.reduceMul, Nat.reduceSub, Int.reduceToNat]
            split
            · rename_i hlt
              have hlt : i < x.Joints.length := by omega
              refine ⟨(by (repeat' (with_reducible apply And.intro)) <;> first | omega | (simp only [maxLen]; omega)), ?_⟩
              by_cases hc : 0 ≤ x.Joints.getD i 0 ∧ x.Joints.getD i 0 < (w.Joints.length : Int) ∧ x.Joints.getD i 0 < (f.Joints.length : Int)
              · obtain ⟨c1, c2, c3⟩ := hc
                rw [if_pos (by rw [and3]; exact decide_eq_true ⟨c1, c2, c3⟩)]
                refine ⟨(by (repeat' (with_reducible apply And.intro)) <;> first | omega | (simp only [maxLen]; omega)), (by (repeat' (with_reducible apply And.intro)) <;> first | omega | (simp only [maxLen]; omega)), by omega, ?_⟩
                refine loop_next ⟨i + 1, by omega⟩ (by show x.Joints.length - (i + 1) < x.Joints.length - i; omega) (weakE_of [] [] (by simp [go_sem]) (by simp [go_sem]) (by simp [go_sem]) ?_)
                simp only [go_sem, reduceIte, Nat.reduceEqDiff, reduceCtorEq, Nat.reduceAdd, Nat.reduceLeDiff, Nat.reduceMul, Nat.reduceSub, Int.reduceToNat]
                exact ⟨(by rw [IntKind.wrap_i64]; omega), copyAt_set hlt c1 c2 c3 rfl⟩
              · rw [if_neg (by rw [and3]; simp only [hc, decide_false, Bool.false_eq_true, not_false_eq_true])]
                refine loop_next ⟨i + 1, by omega⟩ (by show x.Joints.length - (i + 1) < x.Joints.length - i; omega) (weakE_of [] [] (by simp [go_sem]) (by simp [go_sem]) (by simp [go_sem]) ?_)
                simp only [go_sem, reduceIte, Nat.reduceEqDiff, reduceCtorEq, Nat.reduceAdd, Nat.reduceLeDiff, Nat.reduceMul, Nat.reduceSub, Int.reduceToNat]
                exact ⟨(by rw [IntKind.wrap_i64]; omega), copyAt_skip hlt hc⟩
            · rename_i hge
              obtain rfl : i = x.Joints.length := by omega
              simp only [List.take_length]
              simp only [mergeI, copyAt_length, go_sem, reduceIte, Nat.reduceEqDiff, reduceCtorEq, Nat.reduceAdd, Nat.reduceLeDiff, Nat.reduceMul, Nat.reduceSub, Int.reduceToNat]

end Go.Abs
