/- A part of the walk: contracts of functions that the statement reaches. -/
import Derived.Test.YtlldeiikcfaegaaGreatAbsC
import Derived.Test.YtlldeiikcfaegaaGreatU11
set_option linter.unusedSimpArgs false
set_option linter.unusedVariables false
set_option linter.unnecessarySimpa false
set_option maxRecDepth 100000
set_option maxHeartbeats 2000000
set_option linter.unusedSimpArgs false
set_option linter.unusedVariables false
namespace Go.Abs
open Go.Proofs
open Api
theorem memb_ext {p p' : Nat → Option Nat} {q q' : Nat} : ∀ {k : Nat}, (∀ j, j < k → (p j = some q ↔ p' j = some q')) → memb p q k = memb p' q' k
  | 0, _ => rfl
  | k + 1, h => by
    have ih := memb_ext (k := k) fun j hj => h j (by omega)
    have hk := h k (by omega)
    by_cases h1 : p k = some q
    · rw [memb_yes h1, memb_yes (hk.1 h1), ih]
    · rw [← memb_no h1, ← memb_no (fun e => h1 (hk.2 e)), ih]
theorem memb_str {p : Nat → Option Nat} {q : Nat} : ∀ {k : Nat}, StrS (memb p q k)
  | 0 => List.Pairwise.nil
  | k + 1 => by
    by_cases h1 : p k = some q
    · rw [memb_yes h1]
      refine List.pairwise_append.2 ⟨memb_str, List.pairwise_singleton _ _, fun a ha b hb => ?_⟩
      obtain ⟨j, rfl, hj, _⟩ := memb_mem.1 ha
      rw [List.mem_singleton] at hb; subst hb; omega
    · rw [← memb_no h1]; exact memb_str
theorem nb_inj {w : Api.World} {g : List Int} {r s : Nat} (hr : isR w g r = true) (hs : isR w g s = true) (h : nb w g r = nb w g s) : r = s := by
  rcases Nat.lt_trichotomy r s with h1 | h1 | h1
  · have := nb_lt hr h1; omega
  · exact h1
  · have := nb_lt hs h1; omega
/-- the bodies that a list names -/
def nmA (w : Api.World) (l : List Int) (a b : Int) : Bool := l.any fun y => (idB w y.toNat == a) || (idB w y.toNat == b)
def nmC (w : Api.World) (l : List Int) (k : Nat) : Option Nat := if nmA w l (w.Contacts.getD k default).Key.BodyA (w.Contacts.getD k default).Key.BodyB = true then some 0 else none
def nmJ (w : Api.World) (l : List Int) (k : Nat) : Option Nat := if nmA w l (w.Joints.getD k default).BodyA (w.Joints.getD k default).BodyB = true then some 0 else none
def islR (w : Api.World) (i : Int) : Island := ⟨compR w i w.Bodies.length, memb (nmC w (compR w i w.Bodies.length)) 0 w.Contacts.length, memb (nmJ w (compR w i w.Bodies.length)) 0 w.Joints.length⟩
def outR (w : Api.World) : Nat → List Island
  | 0 => []
  | i + 1 => if kd w i = true ∧ findI (outR w i) (i : Int) < 0 then outR w i ++ [islR w (i : Int)] else outR w i
/-- the class of a root -/
theorem root_self {w : Api.World} {i : Nat} (h : isR w (conn w) i = true) : root (conn w) (i : Int) = i ∧ kd w i = true := by
  unfold isR at h
  rw [Bool.and_eq_true, beq_iff_eq] at h
  exact ⟨root_fix (by rw [Int.toNat_natCast]; exact h.2), h.1⟩
theorem pB_iff {w : Api.World} {i j : Nat} (hR : isR w (conn w) i = true) (hj : j < w.Bodies.length) : pB w (conn w) j = some (nb w (conn w) i) ↔ kd w j = true ∧ root (conn w) (j : Int) = i := by
  obtain ⟨hg, hgl⟩ := conn_uf w
  unfold pB
  constructor
  · intro h
    split at h
    · rename_i hk
      injection h with h
      obtain ⟨a0, a1, _⟩ := root_in hg (i := (j : Int)) (by omega) (by omega)
      have := root_isR hg (conn_dg w) (i := (j : Int)) (by omega) (by omega) (by rw [Int.toNat_natCast]; exact hk)
      have := nb_inj this hR h
      exact ⟨hk, by omega⟩
    · cases h
  · rintro ⟨h1, h2⟩
    rw [if_pos h1, h2, Int.toNat_natCast]
theorem comp_pB {w : Api.World} (hv : d_world_Validate w = 0) {i : Nat} (hi : i < w.Bodies.length) (hR : isR w (conn w) i = true) : compR w i w.Bodies.length = memb (pB w (conn w)) (nb w (conn w) i) w.Bodies.length := by
  obtain ⟨hr, hk⟩ := root_self hR
  refine str_ext (ci_compR hi hk _).1 memb_str fun y => ?_
  rw [comp_mem hi hk, memb_mem]
  constructor
  · rintro ⟨j, rfl, hj, hkj, h⟩
    refine ⟨j, rfl, hj, (pB_iff hR hj).2 ⟨hkj, ?_⟩⟩
    have := (root_rch hv hi hj hk hkj).2 h
    omega
  · rintro ⟨j, rfl, hj, h⟩
    obtain ⟨hkj, h⟩ := (pB_iff hR hj).1 h
    exact ⟨j, rfl, hj, hkj, (root_rch hv hi hj hk hkj).1 (by rw [hr, h])⟩
/-- a link's names and its number -/
theorem nmA_iff {w : Api.World} (hv : d_world_Validate w = 0) {i : Nat} (hi : i < w.Bodies.length) (hR : isR w (conn w) i = true) {a b : Int} (hl : (a, b) ∈ links w) :
    nmA w (compR w i w.Bodies.length) a b = true ↔ (isl2 w (conn w) a b).map (fun r => nb w (conn w) r.toNat) = some (nb w (conn w) i) := by
  obtain ⟨hg, hgl⟩ := conn_uf w
  obtain ⟨hr, hk⟩ := root_self hR
  have hin : ∀ c : Int, (∃ y ∈ compR w i w.Bodies.length, idB w y.toNat = c) ↔ dynB w c = true ∧ root (conn w) (findB w c) = i := fun c => by
    constructor
    · rintro ⟨y, hy, rfl⟩
      obtain ⟨j, rfl, hj, hkj, h⟩ := (comp_mem hi hk).1 hy
      obtain ⟨h1, h2⟩ := dyn_find hv hj hkj
      rw [Int.toNat_natCast]
      refine ⟨h2, ?_⟩
      rw [h1]
      have := (root_rch hv hi hj hk hkj).2 h
      omega
    · rintro ⟨h1, h2⟩
      obtain ⟨d0, d1⟩ := dyn_rng h1
      obtain ⟨s1, s2⟩ := findB_spec d0
      have hkj := dynB_kd h1
      refine ⟨findB w c, (comp_mem hi hk).2 ⟨(findB w c).toNat, by omega, s1, hkj, (root_rch hv hi s1 hk hkj).1 ?_⟩, s2⟩
      rw [hr, Int.toNat_of_nonneg d0, h2]
  have hnb : ∀ c : Int, dynB w c = true → (nb w (conn w) (root (conn w) (findB w c)).toNat = nb w (conn w) i ↔ root (conn w) (findB w c) = i) := fun c h1 => by
    obtain ⟨d0, d1⟩ := dyn_rng h1
    obtain ⟨a0, a1, _⟩ := root_in hg d0 (by omega)
    have hR2 := root_isR hg (conn_dg w) d0 (by omega) (dynB_kd h1)
    constructor
    · intro h
      have := nb_inj hR2 hR h
      omega
    · intro h; rw [h, Int.toNat_natCast]
  have hA : nmA w (compR w i w.Bodies.length) a b = true ↔ (∃ y ∈ compR w i w.Bodies.length, idB w y.toNat = a) ∨ ∃ y ∈ compR w i w.Bodies.length, idB w y.toNat = b := by
    unfold nmA
    rw [List.any_eq_true]
    constructor
    · rintro ⟨y, hy, h⟩
      rw [Bool.or_eq_true, beq_iff_eq, beq_iff_eq] at h
      exact h.elim (fun h => .inl ⟨y, hy, h⟩) fun h => .inr ⟨y, hy, h⟩
    · rintro (⟨y, hy, h⟩ | ⟨y, hy, h⟩)
      · exact ⟨y, hy, by rw [h]; simp⟩
      · exact ⟨y, hy, by rw [h]; simp⟩
  rw [hA, hin a, hin b]
  unfold isl2
  cases ha : dynB w a with
  | true =>
    rw [if_pos rfl, Option.map_some, Option.some.injEq, hnb a ha]
    cases hb : dynB w b with
    | true =>
      have : root (conn w) (findB w a) = root (conn w) (findB w b) := by
        obtain ⟨d0, d1⟩ := dyn_rng ha
        obtain ⟨e0, e1⟩ := dyn_rng hb
        obtain ⟨s1, s2⟩ := findB_spec d0
        obtain ⟨t1, t2⟩ := findB_spec e0
        have := (root_rch hv s1 t1 (dynB_kd ha) (dynB_kd hb)).2 ((Rch.refl _).tail hl ⟨dynB_kd ha, dynB_kd hb, s1, t1, .inl ⟨s2, t2⟩⟩)
        rwa [Int.toNat_of_nonneg d0, Int.toNat_of_nonneg e0] at this
      rw [← this]; simp
    | false => simp
  | false =>
    rw [if_neg (by simp)]
    cases hb : dynB w b with
    | true => rw [if_pos rfl, Option.map_some, Option.some.injEq, hnb b hb]; simp
    | false => simp
theorem islR_eq {w : Api.World} (hv : d_world_Validate w = 0) {i : Nat} (hi : i < w.Bodies.length) (hR : isR w (conn w) i = true) : islR w (i : Int) = ⟨memb (pB w (conn w)) (nb w (conn w) i) w.Bodies.length, memb (pC w (conn w)) (nb w (conn w) i) w.Contacts.length, memb (pJ w (conn w)) (nb w (conn w) i) w.Joints.length⟩ := by
  have h1 := comp_pB hv hi hR
  have h2 : memb (nmC w (compR w i w.Bodies.length)) 0 w.Contacts.length = memb (pC w (conn w)) (nb w (conn w) i) w.Contacts.length := memb_ext fun k hk => by
    have hm : ((w.Contacts.getD k default).Key.BodyA, (w.Contacts.getD k default).Key.BodyB) ∈ links w := List.mem_append_left _ (List.mem_map.2 ⟨_, mem_getD default hk, rfl⟩)
    have := nmA_iff hv hi hR hm
    unfold nmC pC
    rw [← this]
    cases nmA w (compR w i w.Bodies.length) (w.Contacts.getD k default).Key.BodyA (w.Contacts.getD k default).Key.BodyB <;> simp
  have h3 : memb (nmJ w (compR w i w.Bodies.length)) 0 w.Joints.length = memb (pJ w (conn w)) (nb w (conn w) i) w.Joints.length := memb_ext fun k hk => by
    have hm : ((w.Joints.getD k default).BodyA, (w.Joints.getD k default).BodyB) ∈ links w := List.mem_append_right _ (List.mem_map.2 ⟨_, mem_getD default hk, rfl⟩)
    have := nmA_iff hv hi hR hm
    unfold nmJ pJ
    rw [← this]
    cases nmA w (compR w i w.Bodies.length) (w.Joints.getD k default).BodyA (w.Joints.getD k default).BodyB <;> simp
  unfold islR
  rw [h2, h3, h1]
theorem findI_neg {l : List Island} {a : Int} : findI l a < 0 ↔ ∀ q, q < l.length → a ∉ (l.getD q default).Bodies := by
  unfold findI idxG
  have hany : ∀ x : Island, (x.Bodies.any fun y => a == y) = true ↔ a ∈ x.Bodies := fun x => by
    rw [List.any_eq_true]
    constructor
    · rintro ⟨y, hy, h⟩; rw [beq_iff_eq] at h; subst h; exact hy
    · intro h; exact ⟨a, h, by simp⟩
  cases hf : (List.range l.length).find? (fun i => (l.getD i default).Bodies.any fun y => a == y) with
  | none =>
    rw [List.find?_range_eq_none] at hf
    refine ⟨fun _ q hq hm => ?_, fun _ => by simp⟩
    have := hf q hq
    rw [(hany _).2 hm] at this; simp at this
  | some i =>
    have h1 := List.mem_of_find?_eq_some hf
    have h2 := List.find?_some hf
    rw [List.mem_range] at h1
    refine ⟨fun h => by simp at h; omega, fun h => absurd ((hany _).1 h2) (h i h1)⟩
theorem outR_eq {w : Api.World} (hv : d_world_Validate w = 0) : ∀ {i : Nat}, i ≤ w.Bodies.length → outR w i = (List.range (nb w (conn w) i)).map fun q => (⟨memb (pB w (conn w)) q w.Bodies.length, memb (pC w (conn w)) q w.Contacts.length, memb (pJ w (conn w)) q w.Joints.length⟩ : Island)
  | 0, _ => rfl
  | i + 1, hi => by
    have ih := outR_eq hv (i := i) (by omega)
    obtain ⟨hg, hgl⟩ := conn_uf w
    have hfind : findI (outR w i) (i : Int) < 0 ↔ ∀ q, q < nb w (conn w) i → pB w (conn w) i ≠ some q := by
      rw [findI_neg, ih, List.length_map, List.length_range]
      refine forall_congr' fun q => forall_congr' fun hq => ?_
      have : (((List.range (nb w (conn w) i)).map fun q => (⟨memb (pB w (conn w)) q w.Bodies.length, memb (pC w (conn w)) q w.Contacts.length, memb (pJ w (conn w)) q w.Joints.length⟩ : Island)).getD q default).Bodies = memb (pB w (conn w)) q w.Bodies.length := by
        simp [List.getD, hq]
      rw [this, memb_mem]
      constructor
      · intro h e; exact h ⟨i, rfl, by omega, e⟩
      · rintro h ⟨j, hj, hj2, e⟩
        obtain rfl : i = j := by omega
        exact h e
    show (if kd w i = true ∧ findI (outR w i) (i : Int) < 0 then outR w i ++ [islR w (i : Int)] else outR w i) = _
    cases hR : isR w (conn w) i with
    | true =>
      obtain ⟨hr, hk⟩ := root_self hR
      have hpB := (pB_iff hR (show i < w.Bodies.length by omega)).2 ⟨hk, hr⟩
      rw [if_pos ⟨hk, hfind.2 fun q hq e => by rw [hpB] at e; injection e with e; omega⟩, ih, islR_eq hv (by omega) hR, nb_succ hR, List.range_succ, List.map_append]
      rfl
    | false =>
      rw [nb_same hR, if_neg]
      · exact ih
      · rintro ⟨hk, hf⟩
        have hR2 := root_isR hg (conn_dg w) (i := (i : Int)) (by omega) (by omega) (by rw [Int.toNat_natCast]; exact hk)
        obtain ⟨a0, a1, a2⟩ := root_in hg (i := (i : Int)) (by omega) (by omega)
        have hne : (root (conn w) (i : Int)).toNat ≠ i := fun e => by rw [e, hR] at hR2; cases hR2
        have := nb_lt hR2 (j := i) (by omega)
        refine hfind.1 hf _ this ?_
        unfold pB; rw [if_pos hk]
theorem outR_build {w : Api.World} (hv : d_world_Validate w = 0) : outR w w.Bodies.length = buildL w := by
  rw [outR_eq hv (Nat.le_refl _)]; unfold buildL; rw [if_pos hv]

end Go.Abs
