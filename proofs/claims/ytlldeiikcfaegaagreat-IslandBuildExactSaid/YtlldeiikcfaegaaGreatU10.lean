/- A part of the walk: contracts of functions that the statement reaches. -/
import Derived.Test.YtlldeiikcfaegaaGreatAbsC
import Derived.Test.YtlldeiikcfaegaaGreatU9
set_option linter.unusedSimpArgs false
set_option linter.unusedVariables false
set_option linter.unnecessarySimpa false
set_option maxRecDepth 100000
set_option maxHeartbeats 2000000
set_option linter.unusedSimpArgs false
set_option linter.unusedVariables false
namespace Go.Abs
open Go.Proofs
open Api
/-- joined by links -/
inductive Rch (w : Api.World) (E : List (Int × Int)) : Nat → Nat → Prop
  | refl (x : Nat) : Rch w E x x
  | tail {x y z : Nat} {e : Int × Int} : Rch w E x y → e ∈ E → lnk w y z e.1 e.2 → Rch w E x z
theorem Rch.trans {w : Api.World} {E : List (Int × Int)} {x y z : Nat} (h : Rch w E x y) (h2 : Rch w E y z) : Rch w E x z := by
  induction h2 with
  | refl => exact h
  | tail _ he hl ih => exact ih.tail he hl
theorem Rch.symm {w : Api.World} {E : List (Int × Int)} {x y : Nat} (h : Rch w E x y) : Rch w E y x := by
  induction h with
  | refl => exact .refl _
  | tail _ he hl ih => exact (Rch.tail (.refl _) he (lnk_symm hl)).trans ih
theorem Rch.mono {w : Api.World} {E E' : List (Int × Int)} (hE : ∀ e ∈ E, e ∈ E') {x y : Nat} (h : Rch w E x y) : Rch w E' x y := by
  induction h with
  | refl => exact .refl _
  | tail _ he hl ih => exact ih.tail (hE _ he) hl
def gOf (w : Api.World) (E : List (Int × Int)) : List Int := E.foldl (fun g e => uni w g e.1 e.2) (idL w.Bodies.length)
def links (w : Api.World) : List (Int × Int) := (w.Contacts.map fun c => (c.Key.BodyA, c.Key.BodyB)) ++ w.Joints.map fun j => (j.BodyA, j.BodyB)
theorem conn_links (w : Api.World) : conn w = gOf w (links w) := by
  unfold conn conJ conC gOf links
  rw [List.take_length, List.take_length, List.foldl_append, List.foldl_map, List.foldl_map]
  rfl
def Inv (w : Api.World) (D : List (Int × Int)) (g : List Int) : Prop := UF g ∧ g.length = w.Bodies.length ∧ DG w g ∧
  ∀ x y : Nat, x < w.Bodies.length → y < w.Bodies.length → kd w x = true → kd w y = true → (root g x = root g y ↔ Rch w D x y)
theorem Rch_in {w : Api.World} {D : List (Int × Int)} {x y : Nat} (h : Rch w D x y) (hx : x < w.Bodies.length) (hk : kd w x = true) : y < w.Bodies.length ∧ kd w y = true := by
  cases h with
  | refl => exact ⟨hx, hk⟩
  | tail _ _ hl => exact ⟨hl.2.2.2.1, hl.2.1⟩
theorem inv_step {w : Api.World} (hv : d_world_Validate w = 0) {D : List (Int × Int)} {g : List Int} (h : Inv w D g) (e : Int × Int) : Inv w (D ++ [e]) (uni w g e.1 e.2) := by
  obtain ⟨hg, hl, hd, hc⟩ := h
  refine ⟨uni_uf hg hl _ _, by rw [uni_len]; exact hl, uni_dg hg hl hd _ _, fun x y hx hy kx ky => ?_⟩
  have hmono : ∀ {x y}, Rch w D x y → Rch w (D ++ [e]) x y := fun h => h.mono fun e he => List.mem_append_left _ he
  cases hb : (dynB w e.1 && dynB w e.2) with
  | false =>
    have hu : uni w g e.1 e.2 = g := by unfold uni; rw [hb]; rfl
    rw [hu, hc x y hx hy kx ky]
    refine ⟨hmono, fun h => ?_⟩
    clear hc
    induction h with
    | refl => exact .refl _
    | @tail y z e' h1 he hlk ih =>
      have ih := ih (Rch_in h1 hx kx).1 (Rch_in h1 hx kx).2
      rcases List.mem_append.1 he with he | he
      · exact ih.tail he hlk
      · rw [List.mem_singleton] at he
        subst he
        exfalso
        obtain ⟨k1, k2, l1, l2, h5⟩ := hlk
        have d1 := (dyn_find hv l1 k1).2
        have d2 := (dyn_find hv l2 k2).2
        rcases h5 with ⟨e1, e2⟩ | ⟨e1, e2⟩
        · rw [e1] at d1; rw [e2] at d2; rw [d1, d2] at hb; cases hb
        · rw [e1] at d1; rw [e2] at d2; rw [d1, d2] at hb; cases hb
  | true =>
    have hru : ∀ z : Nat, z < w.Bodies.length → _ := fun z hz => uni_root hg hl hb (z := (z : Int)) (by omega) (by omega)
    rw [Bool.and_eq_true] at hb
    obtain ⟨a0, a1⟩ := dyn_rng hb.1
    obtain ⟨b0, b1⟩ := dyn_rng hb.2
    obtain ⟨i, hi⟩ : ∃ i : Nat, findB w e.1 = i := ⟨_, (Int.toNat_of_nonneg a0).symm⟩
    obtain ⟨k, hk⟩ : ∃ k : Nat, findB w e.2 = k := ⟨_, (Int.toNat_of_nonneg b0).symm⟩
    have ki := dynB_kd hb.1
    have kk := dynB_kd hb.2
    have si := (findB_spec a0).2
    have sk := (findB_spec b0).2
    rw [hi] at a1 ki si hru
    rw [hk] at b1 kk sk hru
    rw [Int.toNat_natCast] at ki kk si sk
    have li : i < w.Bodies.length := by omega
    have lk : k < w.Bodies.length := by omega
    have hlk : lnk w i k e.1 e.2 := ⟨ki, kk, li, lk, .inl ⟨si, sk⟩⟩
    have hik : Rch w (D ++ [e]) i k := (Rch.refl i).tail (List.mem_append_right _ (List.mem_singleton.2 rfl)) hlk
    have hm : (imax (root g i) (root g k) = root g i ∧ imin (root g i) (root g k) = root g k) ∨ (imax (root g i) (root g k) = root g k ∧ imin (root g i) (root g k) = root g i) := by
      unfold imax imin; split <;> split <;> first | (left; constructor <;> omega) | (right; constructor <;> omega)
    have gi : root (uni w g e.1 e.2) i = root (uni w g e.1 e.2) k := by
      rw [hru i li, hru k lk]
      rcases hm with ⟨m1, m2⟩ | ⟨m1, m2⟩ <;> rw [m1, m2]
      · rw [if_pos rfl]; split <;> first | rfl | (rename_i h; exact h.symm)
      · rw [if_pos (rfl : root g k = root g k)]; split <;> first | rfl | (rename_i h; exact h)
    have key : ∀ {x y : Nat}, Rch w (D ++ [e]) x y → x < w.Bodies.length → kd w x = true → root (uni w g e.1 e.2) x = root (uni w g e.1 e.2) y := by
      intro x y h hx kx
      induction h with
      | refl => rfl
      | @tail y z e' h1 he hlk ih =>
        rw [ih]
        obtain ⟨k1, k2, l1, l2, h5⟩ := hlk
        rcases List.mem_append.1 he with he | he
        · have hyz : root g y = root g z := (hc y z l1 l2 k1 k2).2 ((Rch.refl y).tail he ⟨k1, k2, l1, l2, h5⟩)
          rw [hru y l1, hru z l2, hyz]
        · rw [List.mem_singleton] at he
          subst he
          have d1 := (dyn_find hv l1 k1).1
          have d2 := (dyn_find hv l2 k2).1
          rcases h5 with ⟨e1, e2⟩ | ⟨e1, e2⟩
          · rw [e1, hi] at d1; rw [e2, hk] at d2
            have : i = y := by omega
            have : k = z := by omega
            subst i k; exact gi
          · rw [e1, hk] at d1; rw [e2, hi] at d2
            have : k = y := by omega
            have : i = z := by omega
            subst i k; exact gi.symm
    rw [hru x hx, hru y hy]
    have cxy := hc x y hx hy kx ky
    have cxi := hc x i hx li kx ki
    have cxk := hc x k hx lk kx kk
    have cyi := hc y i hy li ky ki
    have cyk := hc y k hy lk ky kk
    constructor
    · intro h
      by_cases hxy : root g x = root g y
      · exact hmono (cxy.1 hxy)
      · rcases hm with ⟨m1, m2⟩ | ⟨m1, m2⟩ <;> rw [m1, m2] at h
        · by_cases h1 : root g x = root g i
          · rw [if_pos h1] at h
            have h2 : root g y = root g k := by
              split at h
              · rename_i h2; exact absurd (h1.trans h2.symm) hxy
              · exact h.symm
            exact (hmono (cxi.1 h1)).trans (hik.trans (hmono (cyk.1 h2)).symm)
          · rw [if_neg h1] at h
            by_cases h2 : root g y = root g i
            · rw [if_pos h2] at h
              exact (hmono (cxk.1 h)).trans (hik.symm.trans (hmono (cyi.1 h2)).symm)
            · rw [if_neg h2] at h; exact absurd h hxy
        · by_cases h1 : root g x = root g k
          · rw [if_pos h1] at h
            have h2 : root g y = root g i := by
              split at h
              · rename_i h2; exact absurd (h1.trans h2.symm) hxy
              · exact h.symm
            exact (hmono (cxk.1 h1)).trans (hik.symm.trans (hmono (cyi.1 h2)).symm)
          · rw [if_neg h1] at h
            by_cases h2 : root g y = root g k
            · rw [if_pos h2] at h
              exact (hmono (cxi.1 h)).trans (hik.trans (hmono (cyk.1 h2)).symm)
            · rw [if_neg h2] at h; exact absurd h hxy
    · intro h
      have := key h hx kx
      rw [hru x hx, hru y hy] at this
      exact this
theorem inv_all {w : Api.World} (hv : d_world_Validate w = 0) : ∀ (E D : List (Int × Int)) (g : List Int), Inv w D g → Inv w (D ++ E) (E.foldl (fun g e => uni w g e.1 e.2) g)
  | [], D, g, h => by rw [List.append_nil]; exact h
  | e :: E, D, g, h => by
    have := inv_all hv E (D ++ [e]) _ (inv_step hv h e)
    rw [List.append_assoc] at this
    exact this
theorem inv_conn {w : Api.World} (hv : d_world_Validate w = 0) : Inv w (links w) (conn w) := by
  rw [conn_links]
  have h0 : Inv w [] (idL w.Bodies.length) := ⟨idL_uf _, idL_len _, idL_dg _ _, fun x y hx hy _ _ => by
    rw [bare_root w hx, bare_root w hy]
    constructor
    · intro h; obtain rfl : x = y := by omega
      exact .refl _
    · intro h
      cases h with
      | refl => rfl
      | tail _ he _ => cases he⟩
  have := inv_all hv (links w) [] _ h0
  rwa [List.nil_append] at this
/-- two dynamic bodies have one root if and only if links join them -/
theorem root_rch {w : Api.World} (hv : d_world_Validate w = 0) {x y : Nat} (hx : x < w.Bodies.length) (hy : y < w.Bodies.length) (kx : kd w x = true) (ky : kd w y = true) : root (conn w) x = root (conn w) y ↔ Rch w (links w) x y :=
  (inv_conn hv).2.2.2 x y hx hy kx ky

end Go.Abs
