/- The abstract layer: a contract of the kit's library over a row of ints, taken as a contract of the layer. -/
import Derived.Test.YtbpaheflphafiaaApiT
import Derived.Test.YtbpaheflphafiaaAbs29
import Derived.Sort.Grow
set_option linter.unusedSimpArgs false
set_option linter.unusedVariables false
set_option linter.unnecessarySimpa false
namespace Go.Abs
open Go.Sort

def encS (n : Int) : List AV := [.sc (.int .i64 n)]
theorem rowC_one {l : List Int} {j : Nat} {av : AV} (h : (encS (l.getD j 0))[0]? = some av) : av = .sc (.int .i64 (l.getD j 0)) := by
  simp only [encS, List.getElem?_cons_zero, Option.some.injEq] at h
  exact h.symm

/-- a function that turns a row of ints in place, and does nothing to an empty one -/
theorem rowA {P : Program} {f : FuncId} (hcb : callableB P f = true) (l l' : List Int) (hlen : l'.length = l.length) (res : Option Addr → Nat → Value) (r : AV)
    (hr : ∀ (G : Nat → Prop) (w : World) (ob : Place) (i : Info) (a : Option Addr) (cap : Nat), ob 1 = some i → i.len = l.length → SlV i 0 l.length (.slice a l.length cap) → Rel G w ob r (res a cap))
    (hc : ∀ (blk cap : Nat) (w : World), Holds (Value.int .i64) w blk 0 l.toArray → blk < w.heap.size → l.length ≤ cap →
      Calls P f #[.slice (some ⟨blk, 0, none⟩) l.length cap] w fun e w' => e = .returned (res (some ⟨blk, 0, none⟩) cap) ∧ ∃ n os, w' = grow (putRow (Value.int .i64) (Sort.ahead w n) blk 0 l'.toArray) os)
    (hnil : l = [] → ∀ (a : Option Addr) (w : World), Calls P f #[.slice a 0 0] w fun e w' => e = .returned (res a 0) ∧ w' = w) :
    CallsA P f [.sl 1 0 l.length l.length] [(1, .arr 1 (encQ encS 0 l))] r [(1, .arr 1 (encQ encS 0 l'))] := by
  refine ⟨hcb, fun G w ob vals hs hrl => ?_⟩
  obtain ⟨hn, hv⟩ := hrl
  match vals, hn with
  | [v], _ =>
  have hrel := hv 0 _ rfl
  simp only [List.getD, List.getElem?_cons_zero, Option.getD_some] at hrel
  cases hrel with
  | sl i h hle hsv hslv =>
  have hown := hs.own 1 _ i rfl h
  obtain ⟨o1, o2, o3, o4, o5⟩ := hown
  have o3' : i.len = l.length := o3
  have hsl := hslv o3'.symm.symm
  obtain ⟨a, c, rfl⟩ := hsv
  rcases o5 with ⟨b1, b2, b3⟩ | ⟨b, arr, T, b1, b2, b3, b4⟩
  · have hl : l = [] := List.length_eq_zero_iff.1 b2
    subst hl
    have hl' : l' = [] := List.length_eq_zero_iff.1 hlen
    subst hl'
    have hac : (Value.slice a 0 c : Value) = .slice none 0 0 ∨ ∃ a', (Value.slice a 0 c : Value) = .slice (some a') 0 0 := hsl.2.1 b1
    have hc0 : c = 0 := by
      rcases hac with e | ⟨a', e⟩ <;> cases e <;> rfl
    subst hc0
    refine (hnil rfl a w).mono ?_
    rintro e w' ⟨rfl, rfl⟩
    exact ⟨_, G, ob, rfl, hs, hr G w' ob i a 0 h o3' hsl, Fr.refl G w' ob, OBext.refl ob⟩
  · obtain ⟨o, c', e, hle', ho, h0⟩ := hsl.2.2 b b1
    cases e
    obtain ⟨rfl, rfl⟩ := h0 rfl
    have hsz : arr.size = i.cap := by rw [b3, o2, Nat.mul_one]
    have hcell : ∀ j, j < l.length → arr[j]? = some (.int .i64 (l.getD j 0)) := fun j hj => by
      obtain ⟨_, v, hv, hrv⟩ := b4.2 j 0 (.sc (.int .i64 (l.getD j 0))) hj rfl
      rw [o2, Nat.mul_one, Nat.add_zero] at hv
      rw [hrv.sc_eq] at hv
      exact hv
    have hblk : b < w.heap.size := (Array.getElem?_eq_some_iff.1 b2).1
    have hH : Holds (Value.int .i64) w b 0 l.toArray := fun j hj => by
      have hj' : j < l.length := by simpa using hj
      refine ⟨?_, ?_⟩
      · simp only [World.cell?, b2, Nat.zero_add, hcell j hj']
        simp [List.getD, hj']
      · simp [World.frozen?, b2]
    refine (hc b i.cap w hH hblk hle').mono ?_
    rintro e w' ⟨rfl, n, os, rfl⟩
    have hnG : ¬ G b := hs.sep 1 _ i b rfl rfl h b1
    have hheap : ∀ k, k < w.heap.size → k ≠ b → (grow (putRow (Value.int .i64) (Sort.ahead w n) b 0 l'.toArray) os).heap[k]? = w.heap[k]? := fun k hk hkb => by
      rw [heap_grow_old _ _ (by simpa using hk)]
      simp only [putRow, mapBlock, Array.getElem?_modify, Sort.ahead, if_neg (Ne.symm hkb)]
    have hb' : (grow (putRow (Value.int .i64) (Sort.ahead w n) b 0 l'.toArray) os).heap[b]? = some (.cells (putCells (Value.int .i64) 0 l'.toArray arr) T (0, 0)) := by
      rw [heap_grow_old _ _ (by simpa using hblk)]
      simp only [putRow, mapBlock, Array.getElem?_modify, Sort.ahead, if_true, b2, Option.map_some, onCells]
    refine ⟨_, G, ob, rfl, ⟨fun id => ?_, hs.inj, fun k hk => Nat.lt_of_lt_of_le (hs.lt k hk) (by simp), fun id o' i' ho' hi' => ?_, fun id o' i' b' ho' how hi' hb'' => ?_⟩, hr G _ ob i _ _ h o3' hsl, ⟨by simp, fun k hk hgb => ?_, fun k hk => .inl hk, fun k hk => hk, fun k hk => .inl hk, rfl, rfl, rfl⟩, OBext.refl ob⟩
    · rw [← hs.dom id]
      show upd (fun _ => none) 1 _ id = none ↔ upd (fun _ => none) 1 _ id = none
      simp only [upd]
      split <;> simp
    · have hid : id = 1 := by
        have ho' : upd (fun _ => none) 1 (some (AObj.arr 1 (encQ encS 0 l'))) id = some o' := ho'
        simp only [upd] at ho'
        split at ho'
        · assumption
        · cases ho'
      subst hid
      rw [h] at hi'; cases hi'
      have ho1 : o' = .arr 1 (encQ encS 0 l') := (Option.some.inj ho').symm
      subst ho1
      refine ⟨o1, o2, by rw [o3']; exact hlen.symm, by show l'.length ≤ _; omega, .inr ⟨b, _, T, b1, hb', by simp [putCells, b3], ?_⟩⟩
      refine ⟨fun j hj => by rw [o2]; rfl, fun j k av hj hk => ?_⟩
      have hj : j < l'.length := hj
      cases k with
      | succ k => exact absurd hk (by simp [encQ, encS, encAt])
      | zero =>
        have hk' : (encS (l'.getD j 0))[0]? = some av := hk
        rw [rowC_one hk']
        refine ⟨rfl, _, ?_, .sc rfl⟩
        rw [o2, Nat.mul_one, Nat.add_zero]
        have : j < arr.size := by omega
        simp only [putCells, Array.getElem?_mapIdx, hcell j (by omega), Option.map_some, Option.some.injEq]
        rw [if_pos ⟨Nat.zero_le _, by simpa using hj⟩]
        simp [List.getD, hj]
    · have hid : id = 1 := by
        have ho' : upd (fun _ => none) 1 (some (AObj.arr 1 (encQ encS 0 l'))) id = some o' := ho'
        simp only [upd] at ho'
        split at ho'
        · assumption
        · cases ho'
      subst hid
      rw [h] at hi'; cases hi'
      rw [b1] at hb''; cases hb''
      exact hnG
    · refine hheap k hk fun e => ?_
      subst e
      rcases hgb with h1 | h1
      · exact hnG h1
      · exact h1 ⟨1, i, h, b1⟩
end Go.Abs
