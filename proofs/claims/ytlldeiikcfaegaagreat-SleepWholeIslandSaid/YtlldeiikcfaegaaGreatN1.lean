/- A part of the walk: contracts of functions that the statement reaches. -/
import Derived.Test.YtlldeiikcfaegaaGreatAbsC
import Derived.Test.YtlldeiikcfaegaaGreatS14
import Derived.Test.YtlldeiikcfaegaaGreatI9
import Derived.Test.YtlldeiikcfaegaaGreatS5
import Derived.Test.YtlldeiikcfaegaaGreatS6
set_option linter.unusedSimpArgs false
set_option linter.unusedVariables false
set_option linter.unnecessarySimpa false
set_option maxRecDepth 100000
set_option maxHeartbeats 2000000
set_option linter.unusedSimpArgs false
set_option linter.unusedVariables false
namespace Go.Abs
open Go.Proofs
open Api
/-- a body and what sleeping makes of it -/
def nbB (b b' : Body) : Prop := b'.ID = b.ID ∧ b'.Kind = b.Kind ∧ b'.Fixtures = b.Fixtures ∧ (d_body_Validate b = 0 → d_body_Validate b' = 0)
theorem nbB_refl (b : Body) : nbB b b := ⟨rfl, rfl, rfl, id⟩
theorem nbB_trans {a b c : Body} (h : nbB a b) (h2 : nbB b c) : nbB a c := ⟨h2.1.trans h.1, h2.2.1.trans h.2.1, h2.2.2.1.trans h.2.2.1, fun x => h2.2.2.2 (h.2.2.2 x)⟩
theorem vb_keep {b b' : Body} (hK : b'.Kind = b.Kind) (hF : b'.Fixtures = b.Fixtures) (hR : d_body_inRange b = true → d_body_inRange b' = true) (hC : d_body_consistent b = true → d_body_consistent b' = true) (h : d_body_Validate b = 0) : d_body_Validate b' = 0 := by
  have hL : d_body_Validate_L1 b' = d_body_Validate_L1 b := by funext i s; unfold d_body_Validate_L1; rw [hF]
  unfold d_body_Validate at h ⊢
  simp only [] at h ⊢
  rw [hK, hF, hL]
  split at h
  · cases h
  · rename_i h1
    rw [if_neg h1]
    split at h
    · cases h
    · rename_i h2
      rw [if_neg (by rw [hR (by simpa using h2)]; simp)]
      split at h
      · cases h
      · rename_i h3
        rw [if_neg h3]
        revert h
        cases itrE (d_body_Validate_L1 b) b.Fixtures.length () with
        | inr r => exact id
        | inl s =>
          intro h
          simp only [] at h ⊢
          split at h
          · cases h
          · rename_i h4
            rw [if_neg (by rw [hC (by simpa using h4)]; simp)]
theorem idle_rng {b : Body} (h : d_body_inRange b = true) : 0 ≤ b.IdleSteps ∧ b.IdleSteps ≤ 1048576 := by
  unfold d_body_inRange at h
  simp only [Bool.and_eq_true] at h
  exact inR_true.1 h.2
theorem nb_wk (b : Body) : nbB b (wkB b) := ⟨rfl, rfl, rfl, vb_keep rfl rfl (fun h => by
    unfold d_body_inRange at h ⊢
    simp only [Bool.and_eq_true] at h ⊢
    exact ⟨h.1, by rfl⟩) fun h => by
    unfold d_body_consistent at h ⊢
    have hm : d_body_moving (wkB b) = d_body_moving b := rfl
    simp only [hm] at h ⊢
    simp only [wkB] at h ⊢
    grind⟩
theorem nb_upd (b : Body) : nbB b (updIdle b) := ⟨rfl, rfl, rfl, vb_keep rfl rfl (fun h => by
    have hr := idle_rng h
    unfold d_body_inRange at h ⊢
    simp only [Bool.and_eq_true] at h ⊢
    refine ⟨h.1, inR_true.2 ?_⟩
    unfold updIdle
    simp only [IntKind.wrap_i64]
    split
    · split <;> omega
    · omega) fun h => by
    unfold d_body_consistent at h ⊢
    have hm : d_body_moving (updIdle b) = d_body_moving b := rfl
    simp only [hm] at h ⊢
    exact h⟩
theorem nb_sl {b : Body} (hk : b.Kind = 3) : nbB b (slB b) := ⟨rfl, rfl, rfl, vb_keep rfl rfl (fun h => by
    unfold d_body_inRange at h ⊢
    simp only [Bool.and_eq_true] at h ⊢
    exact ⟨⟨⟨⟨⟨h.1.1.1.1.1, by rfl, by rfl⟩, h.1.1.1.2⟩, h.1.1.2⟩, h.1.2⟩, h.2⟩) fun h => by
    unfold d_body_consistent at h ⊢
    have hm : d_body_moving (slB b) = false := rfl
    have hk2 : (slB b).Kind = 3 := hk
    simp only [hm, hk2] at h ⊢
    simp⟩
def nbs (a b : List Body) : Prop := a.length = b.length ∧ ∀ i : Nat, nbB (a.getD i default) (b.getD i default)
theorem nbs_refl (a : List Body) : nbs a a := ⟨rfl, fun _ => nbB_refl _⟩
theorem nbs_set {a b : List Body} (h : nbs a b) {k : Nat} {c : Body} (hc : k < b.length → nbB (b.getD k default) c) : nbs a (b.set k c) := by
  refine ⟨by rw [List.length_set]; exact h.1, fun i => ?_⟩
  by_cases hi : i = k
  · subst hi
    by_cases hl : i < b.length
    · rw [getD_set_self hl]; exact nbB_trans (h.2 i) (hc hl)
    · rw [List.set_eq_of_length_le (by omega)]; exact h.2 i
  · rw [getD_set_ne hi]; exact h.2 i
theorem nbs_wk {a : List Body} : ∀ (l : List Int) {s : List Body × List (Int × Int)}, nbs a s.1 → nbs a (l.foldl wkStep s).1
  | [], _, h => h
  | i :: l, s, h => by
    rw [List.foldl_cons]
    refine nbs_wk l ?_
    unfold wkStep; split
    · exact nbs_set h fun _ => nb_wk _
    · exact h
theorem nbs_up {a : List Body} : ∀ (l : List Int) {s : List Body}, nbs a s → nbs a (l.foldl (fun bs i => bs.set i.toNat (updIdle (bs.getD i.toNat default))) s)
  | [], _, h => h
  | i :: l, s, h => by
    rw [List.foldl_cons]
    exact nbs_up l (nbs_set h fun _ => nb_upd _)
theorem nbs_sl {a : List Body} : ∀ (l : List Int) {s : List Body × List (Int × Int)}, (∀ i ∈ l, (a.getD i.toNat default).Kind = 3) → nbs a s.1 → nbs a (l.foldl slStep s).1
  | [], _, _, h => h
  | i :: l, s, hk, h => by
    rw [List.foldl_cons]
    exact nbs_sl l (fun j hj => hk j (List.mem_cons_of_mem _ hj)) (nbs_set h fun _ => nb_sl (by rw [(h.2 i.toNat).2.1]; exact hk i (List.mem_cons_self ..)))
theorem nbs_wake {w : Api.World} {a : List Body} {x : Island} (h : nbs a w.Bodies) : nbs a (wakeW w x).Bodies := by
  show nbs a (wkR w x).1
  unfold wkR; split
  · exact nbs_wk _ (s := (w.Bodies, [])) h
  · exact h
theorem nbs_upd {w : Api.World} {a : List Body} {x : Island} (hk : ∀ i ∈ x.Bodies, (a.getD i.toNat default).Kind = 3) (h : nbs a w.Bodies) : nbs a (updW w x).Bodies := by
  show nbs a (updR w x).1
  have hu : nbs a (upF w (indX w x)) := nbs_up _ h
  unfold updR; split
  · split
    · exact nbs_sl _ (s := (upF w (indX w x), [])) (fun i hi => hk i (inds_mem.1 hi).1) hu
    · exact hu
  · exact h
/-- such a world is still valid -/
theorem nbs_findB {w w' : Api.World} (h : nbs w.Bodies w'.Bodies) (id : Int) : findB w' id = findB w id := by
  unfold findB idxG
  rw [h.1]
  have : (fun i => (fun b : Body => b.ID == id) (w'.Bodies.getD i default)) = fun i => (fun b : Body => b.ID == id) (w.Bodies.getD i default) := funext fun i => by
    show ((w'.Bodies.getD i default).ID == id) = _
    rw [(h.2 i).1]
  rw [this]
theorem nbs_bodies {w : Api.World} {bs : List Body} (h : nbs w.Bodies bs) : ∀ (k : Nat) (s : Int), itrE (d_world_validBodies_L1 w) k 0 = .inl s → itrE (d_world_validBodies_L1 (withB w bs)) k 0 = .inl s
  | 0, s, hs => hs
  | k + 1, s, hs => by
    simp only [itrE] at hs ⊢
    cases hk : itrE (d_world_validBodies_L1 w) k 0 with
    | inr r => rw [hk] at hs; cases hs
    | inl s' =>
      rw [hk] at hs
      rw [nbs_bodies h k s' hk]
      obtain ⟨h1, h2, h3, h4⟩ := h.2 k
      simp only [d_world_validBodies_L1] at hs ⊢
      have e1 : (withB w bs).Bodies = bs := rfl
      have e2 : (withB w bs).NextID = w.NextID := rfl
      rw [e1, e2, h1]
      split at hs
      · cases hs
      · rename_i hc
        simp only [Bool.or_eq_true, bne_iff_ne, ne_eq, decide_eq_true_eq, not_or, Classical.not_not] at hc
        rw [if_neg]
        · exact hs
        · simp only [Bool.or_eq_true, bne_iff_ne, ne_eq, decide_eq_true_eq, not_or, Classical.not_not]
          exact ⟨⟨h4 hc.1.1, hc.1.2⟩, hc.2⟩
theorem vB_inl {w : Api.World} (h : d_world_validBodies w = true) : ∃ s, itrE (d_world_validBodies_L1 w) w.Bodies.length 0 = .inl s := by
  unfold d_world_validBodies at h
  have key : ∀ (n : Nat) (s : Int) (r : Bool), itrE (d_world_validBodies_L1 w) n s = .inr r → r = false := by
    intro n
    induction n with
    | zero => intro s r h; cases h
    | succ n ih =>
      intro s r h
      simp only [itrE] at h
      cases hn : itrE (d_world_validBodies_L1 w) n s with
      | inr r' => rw [hn] at h; injection h with h; subst h; exact ih s _ hn
      | inl s' =>
        rw [hn] at h
        simp only [d_world_validBodies_L1] at h
        split at h
        · injection h with h; exact h.symm
        · cases h
  cases hk : itrE (d_world_validBodies_L1 w) w.Bodies.length 0 with
  | inr r => rw [hk] at h; have := key _ _ _ hk; subst this; cases h
  | inl s => exact ⟨s, rfl⟩
theorem nbs_valid {w : Api.World} {bs : List Body} (h : nbs w.Bodies bs) (hv : d_world_Validate w = 0) : d_world_Validate (withB w bs) = 0 := by
  have hF : ∀ id, findB (withB w bs) id = findB w id := nbs_findB (w' := withB w bs) h
  obtain ⟨v1, v2, v3, v4, v5, v6⟩ := (val_iff w).1 hv
  have hlen : bs.length = w.Bodies.length := h.1.symm
  refine (val_iff _).2 ⟨v1, ⟨by show bs.length ≤ 32; omega, v2.2⟩, v3, ?_, ?_, ?_⟩
  · obtain ⟨s, hs⟩ := vB_inl v4
    unfold d_world_validBodies
    show (match itrE (d_world_validBodies_L1 (withB w bs)) bs.length 0 with | .inr r => r | .inl s1 => true) = true
    rw [hlen, nbs_bodies h _ s hs]
  · have hL : d_world_validJoints_L1 (withB w bs) = d_world_validJoints_L1 w := by
      funext i s
      simp only [d_world_validJoints_L1, d_world_bodiesExist, hF]
      rfl
    unfold d_world_validJoints at v5 ⊢
    rw [hL]; exact v5
  · have hX : fixOut (withB w bs) = fixOut w := by
      funext k
      simp only [fixOut, d_world_fixturesExist, hF]
      have hf : ∀ i : Nat, ((withB w bs).Bodies.getD i default).Fixtures = (w.Bodies.getD i default).Fixtures := fun i => (h.2 i).2.2.1
      simp only [hf]
    unfold okContacts at v6 ⊢
    rw [hX]; exact v6
/-- all bodies of a list are asleep, or all awake -/
def Whc (w : Api.World) (l : List Int) (c : Bool) : Prop := ∀ i ∈ l, (w.Bodies.getD i.toNat default).Asleep = c
def InW (w : Api.World) (l : List Int) : Prop := ∀ i ∈ l, 0 ≤ i ∧ i < (w.Bodies.length : Int)
theorem not_awake {w : Api.World} {x : Island} (hin : InW w x.Bodies) (h : ¬ awakeB w x (indX w x) = true) : Whc w x.Bodies true := fun i hi => by
  have hm : i ∈ indX w x := inds_mem.2 ⟨hi, hin i hi⟩
  unfold awakeB at h
  rw [Bool.or_eq_true, not_or, List.any_eq_true] at h
  refine Classical.byContradiction fun hn => h.1 ⟨i, hm, ?_⟩
  unfold getB
  simpa using hn
theorem wake_whole {w : Api.World} {x : Island} (hin : InW w x.Bodies) : ∃ c, Whc (wakeW w x) x.Bodies c := by
  by_cases h : awakeB w x (indX w x) = true
  · refine ⟨false, fun i hi => ?_⟩
    have hm : i ∈ indX w x := inds_mem.2 ⟨hi, hin i hi⟩
    show ((wkR w x).1.getD i.toNat default).Asleep = false
    unfold wkR; rw [if_pos h]
    exact wk_awake (indX w x) (w.Bodies, []) (indX_in w x) i.toNat (.inl (by rw [Int.toNat_of_nonneg (hin i hi).1]; exact hm))
  · refine ⟨true, fun i hi => ?_⟩
    show ((wkR w x).1.getD i.toNat default).Asleep = true
    unfold wkR; rw [if_neg h]
    exact not_awake hin h i hi
theorem sl_asleep (l : List Int) : ∀ (s : List Body × List (Int × Int)), (∀ i ∈ l, 0 ≤ i ∧ i < (s.1.length : Int)) → ∀ i : Nat, ((i : Int) ∈ l ∨ (s.1.getD i default).Asleep = true) → ((l.foldl slStep s).1.getD i default).Asleep = true := by
  induction l with
  | nil => intro s h i hi; simpa using hi
  | cons a l ih =>
    intro s h i hi
    obtain ⟨h0, h1⟩ := h a (by simp)
    rw [List.foldl_cons]
    refine ih (slStep s a) (fun i hi => by
      show 0 ≤ i ∧ i < ((s.1.set a.toNat (slB (s.1.getD a.toNat default))).length : Int)
      rw [List.length_set]; exact h i (by simp [hi])) i ?_
    by_cases hia : (i : Int) = a
    · right
      have e : a.toNat = i := by omega
      unfold slStep
      rw [e]
      show ((s.1.set i (slB (s.1.getD i default))).getD i default).Asleep = true
      rw [getD_set_self (by omega)]; rfl
    · rcases hi with hi | hi
      · left; simpa [hia] using hi
      · right
        show ((s.1.set a.toNat (slB (s.1.getD a.toNat default))).getD i default).Asleep = true
        rw [getD_set_ne (by omega)]; exact hi
theorem upd_whole {w : Api.World} {x : Island} (hin : InW w x.Bodies) {c : Bool} (hc : Whc w x.Bodies c) : ∃ c, Whc (updW w x) x.Bodies c := by
  by_cases h : awakeB w x (indX w x) = true
  · by_cases hs : stillB w x (indX w x) = true
    · refine ⟨true, fun i hi => ?_⟩
      have hm : i ∈ indX w x := inds_mem.2 ⟨hi, hin i hi⟩
      show ((updR w x).1.getD i.toNat default).Asleep = true
      unfold updR; rw [if_pos h, if_pos hs]
      exact sl_asleep (indX w x) (upF w (indX w x), []) (fun i hi => by rw [upF_len]; exact indX_in w x i hi) i.toNat (.inl (by rw [Int.toNat_of_nonneg (hin i hi).1]; exact hm))
    · refine ⟨c, fun i hi => ?_⟩
      show ((updR w x).1.getD i.toNat default).Asleep = c
      unfold updR; rw [if_pos h, if_neg hs]
      show ((upF w (indX w x)).getD i.toNat default).Asleep = c
      rw [show ((upF w (indX w x)).getD i.toNat default).Asleep = (w.Bodies.getD i.toNat default).Asleep from up_asleep (indX w x) w.Bodies i.toNat]
      exact hc i hi
  · refine ⟨c, fun i hi => ?_⟩
    show ((updR w x).1.getD i.toNat default).Asleep = c
    unfold updR; rw [if_neg h]
    exact hc i hi
theorem any_not {l : List Int} {i : Nat} (h : (i : Int) ∉ l) : (l.any fun y => y == (i : Int)) = false := by
  rw [List.any_eq_false]
  intro y hy he
  rw [beq_iff_eq] at he
  subst he; exact h hy
/-- an island of the world that was built -/
def islX (w : Api.World) (k : Nat) : Island := (buildL w).getD k default
theorem islX_mem {w : Api.World} (hv : d_world_Validate w = 0) {k : Nat} (hk : k < (buildL w).length) {i : Int} (h : i ∈ (islX w k).Bodies) : ∃ j : Nat, i = j ∧ j < w.Bodies.length ∧ (w.Bodies.getD j default).Kind = 3 ∧ pB w (conn w) j = some k := by
  unfold islX at h
  rw [buildL_get hv (by rw [← buildL_n hv]; exact hk)] at h
  obtain ⟨j, rfl, hj, hp⟩ := memb_mem.1 h
  refine ⟨j, rfl, hj, ?_, hp⟩
  unfold pB at hp
  split at hp
  · rename_i hd; unfold kd at hd; simpa using hd
  · cases hp
/-- what holds between the steps: the world, and which islands are whole -/
def Slp (w0 w : Api.World) (m : Nat) : Prop := Wsm w ∧ w = withB w0 w.Bodies ∧ nbs w0.Bodies w.Bodies ∧ ∀ k, k < m → k < (buildL w0).length → ∃ c, Whc w (islX w0 k).Bodies c
theorem slp_in {w0 w : Api.World} (hv : d_world_Validate w0 = 0) {m : Nat} (h : Slp w0 w m) {k : Nat} (hk : k < (buildL w0).length) : InW w (islX w0 k).Bodies := fun i hi => by
  obtain ⟨j, rfl, hj, _⟩ := islX_mem hv hk hi
  have := h.2.2.1.1
  omega
theorem slp_other {w0 w w' : Api.World} (hv : d_world_Validate w0 = 0) {i k : Nat} (hi : i < (buildL w0).length) (hk : k < (buildL w0).length) (hne : k ≠ i) (ho : ∀ j : Nat, ((islX w0 i).Bodies.any fun y => y == (j : Int)) = false → w'.Bodies.getD j default = w.Bodies.getD j default) (h : ∃ c, Whc w (islX w0 k).Bodies c) : ∃ c, Whc w' (islX w0 k).Bodies c := by
  obtain ⟨c, hc⟩ := h
  refine ⟨c, fun y hy => ?_⟩
  obtain ⟨j, rfl, hj, _, hp⟩ := islX_mem hv hk hy
  have h1 := hc _ hy
  rw [Int.toNat_natCast] at h1 ⊢
  rw [ho j (any_not fun hm => ?_)]
  · exact h1
  · obtain ⟨j', hj', _, _, hp'⟩ := islX_mem hv hi hm
    obtain rfl : j = j' := by omega
    rw [hp] at hp'; injection hp' with hp'; exact hne hp'
theorem slp_wake {w0 w : Api.World} (hv : d_world_Validate w0 = 0) {m : Nat} (hm : m < (buildL w0).length) (h : Slp w0 w m) : Slp w0 (wakeW w (islX w0 m)) (m + 1) := by
  have hin := slp_in hv h hm
  obtain ⟨h1, h2, h3, h4⟩ := h
  refine ⟨wakeW_sm h1 _, ?_, nbs_wake h3, fun k hk hkl => ?_⟩
  · unfold wakeW
    rw [h2]; rfl
  · by_cases he : k = m
    · subst he; exact wake_whole hin
    · exact slp_other hv hm hkl he (fun j hj => wake_out hj) (h4 k (by omega) hkl)
theorem slp_upd {w0 w : Api.World} (hv : d_world_Validate w0 = 0) {n m : Nat} (hm : m < (buildL w0).length) (hn : m < n) (h : Slp w0 w n) : Slp w0 (updW w (islX w0 m)) n := by
  have hin := slp_in hv h hm
  obtain ⟨h1, h2, h3, h4⟩ := h
  refine ⟨updW_sm h1 _, ?_, nbs_upd (fun i hi => ?_) h3, fun k hk hkl => ?_⟩
  · unfold updW
    rw [h2]; rfl
  · obtain ⟨j, rfl, _, hK, _⟩ := islX_mem hv hm hi
    exact hK
  · by_cases he : k = m
    · subst he
      obtain ⟨c, hc⟩ := h4 k hk hkl
      exact upd_whole hin hc
    · exact slp_other hv hm hkl he (fun j hj => upd_out hj) (h4 k hk hkl)
theorem slp_valid {w0 w : Api.World} (hv : d_world_Validate w0 = 0) {n : Nat} (h : Slp w0 w n) : d_world_Validate w = 0 := by
  rw [h.2.1]; exact nbs_valid h.2.2.1 hv

end Go.Abs
