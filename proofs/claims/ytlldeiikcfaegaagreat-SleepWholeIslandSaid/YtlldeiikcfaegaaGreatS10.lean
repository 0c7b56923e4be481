/- A part of the walk: contracts of functions that the statement reaches. -/
import Derived.Test.YtlldeiikcfaegaaGreatAbsC
import Derived.Test.YtlldeiikcfaegaaGreatS9
set_option linter.unusedSimpArgs false
set_option linter.unusedVariables false
set_option linter.unnecessarySimpa false
set_option maxRecDepth 100000
set_option maxHeartbeats 2000000
set_option linter.unusedSimpArgs false
set_option linter.unusedVariables false
namespace Go.Abs
open Go.Proofs
open Api
theorem any_mem_congr {a b : List Int} {p : Int → Bool} (h : ∀ i, i ∈ a ↔ i ∈ b) : a.any p = b.any p := by
  rw [Bool.eq_iff_iff, List.any_eq_true, List.any_eq_true]
  constructor
  · rintro ⟨x, hx, hp⟩; exact ⟨x, (h x).1 hx, hp⟩
  · rintro ⟨x, hx, hp⟩; exact ⟨x, (h x).2 hx, hp⟩
theorem drivenB_eq (w : Api.World) (x : Island) : drivenB w x = ((bod3 w x).any (fun i => drvB (getB w i)) || x.Joints.any (motor w)) := by
  unfold drivenB; rw [any_mem_congr fun i => bodL_mem]
def exB : Body := ⟨5, 3, ⟨⟨0, 0⟩, 0⟩, ⟨0, 0⟩, 0, ⟨0, 0⟩, 0, 0, 0, 0, false, false, false, false, 0, []⟩
def exB1 : Body := ⟨5, 3, ⟨⟨0, 0⟩, 0⟩, ⟨0, 0⟩, 0, ⟨0, 0⟩, 0, 0, 0, 0, false, false, false, false, 1, []⟩
def exB2 : Body := ⟨5, 3, ⟨⟨0, 0⟩, 0⟩, ⟨0, 0⟩, 0, ⟨0, 0⟩, 0, 0, 0, 0, false, false, false, true, 2, []⟩
def exW (b : Body) : Api.World := ⟨⟨0, ⟨0, 0⟩, 0, 2⟩, [b], [], [], [], 0, 0⟩
def exI : Island := ⟨[0], [], []⟩
theorem exI_sm : Ism exI := ⟨by simp [exI], by simp [exI], by simp [exI]⟩
theorem exW_sm (b : Body) (h : b.Fixtures = []) : Wsm (exW b) := ⟨by simp [exW], by simp [exW], by simp [exW], by simp [exW], by simp only [exW, List.mem_singleton, forall_eq]; exact ⟨by rw [h]; decide, by rw [h]; intro f hf; cases hf⟩, by simp [exW]⟩
theorem ex_idle : updIdle exB = exB1 := by decide
theorem ex_idle1 : updIdle exB1 = { exB1 with IdleSteps := 2 } := by decide
theorem ex_drv (b : Body) (h : drvB b = false) : drivenB (exW b) exI = false := by
  rw [drivenB_eq]
  show (([0] : List Int).any (fun i => drvB (getB (exW b) i)) || _) = false
  simp only [List.any_cons, List.any_nil, Bool.or_false]
  rw [show getB (exW b) 0 = b from rfl, h]; rfl
theorem ex_ind (b : Body) : indX (exW b) exI = [0] := rfl
theorem ex_u1 : updR (exW exB) exI = ([exB1], []) := by
  unfold updR
  rw [ex_ind, if_pos (by unfold awakeB; rfl)]
  have hu : upF (exW exB) [0] = [exB1] := by rw [← ex_idle]; rfl
  rw [hu, if_neg]
  unfold stillB
  rw [hu]
  have : (([0] : List Int).any fun i => decide ((getB (withB (exW exB) [exB1]) i).IdleSteps < (exW exB).Settings.SleepSteps)) = true := by decide
  rw [this]; simp
theorem ex_u2 : updR (exW exB1) exI = ([exB2], [(6, 5)]) := by
  unfold updR
  rw [ex_ind, if_pos (by unfold awakeB; rfl)]
  have hu : upF (exW exB1) [0] = [{ exB1 with IdleSteps := 2 }] := by rw [← ex_idle1]; rfl
  rw [hu, if_pos]
  · rfl
  · unfold stillB
    rw [hu]
    have h1 : (([0] : List Int).any fun i => decide ((getB (withB (exW exB1) [{ exB1 with IdleSteps := 2 }]) i).IdleSteps < (exW exB1).Settings.SleepSteps)) = false := by decide
    have h2 : drivenB (withB (exW exB1) [{ exB1 with IdleSteps := 2 }]) exI = false := ex_drv { exB1 with IdleSteps := 2 } (by decide)
    rw [h1, h2]; rfl
theorem ex_u3 : updR (exW exB2) exI = ([exB2], []) := by
  unfold updR
  rw [ex_ind, if_neg]
  · rfl
  · unfold awakeB
    rw [ex_drv exB2 (by decide)]
    decide
theorem avle_one' {α : Type} {enc : α → List AV} {d : α} {z : Nat} {g : Nat → List AV} (a : α) (h : avleL (g 0) (enc a)) : avle (.dsl z 1 g) (.dsl z 1 (encAt enc d [a])) := by
  simp only [avle, true_and]
  intro i hi
  obtain rfl : i = 0 := by omega
  exact h
theorem s_ex1 : CallsA Tryz.prog F_sleep_Update [.agg (exW exB).enc, .agg exI.enc] [] (.tup [Wown (exW exB1) 1 2 3 4, .sl 5 0 0 0]) (Wobj (exW exB1) 1 2 3 4 ++ evObj 5 []) := by
  have h := s_sleep_Update (exW exB) exI (exW_sm exB rfl) exI_sm
  rw [ex_u1] at h; exact h
theorem s_ex2 : CallsA Tryz.prog F_sleep_Update [.agg (exW exB1).enc, .agg exI.enc] [] (.tup [Wown (exW exB2) 1 2 3 4, .sl 5 0 1 1]) (Wobj (exW exB2) 1 2 3 4 ++ evObj 5 [(6, 5)]) := by
  have h := s_sleep_Update (exW exB1) exI (exW_sm exB1 rfl) exI_sm
  rw [ex_u2] at h; exact h
theorem s_ex3 : CallsA Tryz.prog F_sleep_Update [.agg (exW exB2).enc, .agg exI.enc] [] (.tup [Wown (exW exB2) 1 2 3 4, .sl 5 0 0 0]) (Wobj (exW exB2) 1 2 3 4 ++ evObj 5 []) := by
  have h := s_sleep_Update (exW exB2) exI (exW_sm exB2 rfl) exI_sm
  rw [ex_u3] at h; exact h
attribute [go_sem] exW exB exB1 exB2 exI
theorem s_law37_example : CallsA Tryz.prog F_law37_example [] [] (.sc (.bool true)) [] := by
  refine callsI_of (rs := [_]) hm Tryz.func46 (by kernel_rfl) (by kernel_rfl) is_law37_example (by kernel_rfl : tmpsOf Tryz.f46.results.toList = some [0]) (by decide) (by kernel_rfl) ?_
  simp only [c_law37_example, go_sem]
  refine CallGi_obj [false, false] [] s_ex1 (by simp) (by simp [go_sem]) (by simp [go_sem]) (by simp) ?_
  simp only [go_sem]
  refine ⟨⟨avle_one' exB (by simp only [List.take_zero, go_sem]; exact avle_nilD rfl), avle_nilD rfl, avle_nilD rfl, avle_nilD rfl⟩, ⟨avle_one 0 rfl, avle_nilD rfl⟩, ?_⟩
  refine CallGi_obj [false, false] [(1, 11), (2, 12), (3, 13), (4, 14), (5, 15)] s_ex2 (by simp) (by simp [go_sem]) (by simp [go_sem]) (by simp) ?_
  simp only [go_sem]
  refine ⟨⟨avle_one 0 rfl, avle_nilD rfl⟩, ?_⟩
  refine CallGi_obj [false, false] [(1, 21), (2, 22), (3, 23), (4, 24), (5, 25)] s_ex3 (by simp) (by simp [go_sem]) (by simp [go_sem]) (by simp) ?_
  simp only [go_sem]
  refine ⟨⟨avle_one 0 rfl, avle_nilD rfl⟩, ?_⟩
  rw [if_neg (by decide)]
  refine ⟨fun _ => by decide, fun _ => by decide, ?_⟩
  have hEv := s_r37_Events [(6, 5)] [(6, 5)] (by simp)
  refine ⟨by decide, ?_⟩
  refine CallGi_keep hEv rfl ?_ ?_
  · simp only [argsC, go_sem]
    exact avle_one (6, 5) rfl
  · simp only [go_sem]
    exact ⟨fun _ => by decide, fun _ => by decide, by decide⟩

end Go.Abs
