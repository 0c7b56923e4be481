/- A part of the walk: contracts of functions that the statement reaches. -/
import Derived.Test.YtlldeiikcfaegaaGreatAbsC
import Derived.Test.YtlldeiikcfaegaaGreatHO
import Derived.Test.YtlldeiikcfaegaaGreatSHE
set_option linter.unusedSimpArgs false
set_option linter.unusedVariables false
set_option linter.unnecessarySimpa false
set_option maxRecDepth 100000
set_option maxHeartbeats 2000000
set_option linter.unusedSimpArgs false
set_option linter.unusedVariables false
namespace Go.Abs
open Go.Proofs
open Api
open Go.Sort
def msort (l : List Int) : List Int := l.mergeSort fun x y => decide (x ≤ y)
theorem msort_len (l : List Int) : (msort l).length = l.length := by simp [msort]
theorem msort_mem {l : List Int} {x : Int} : x ∈ msort l ↔ x ∈ l := by simp [msort]
theorem s_slices_Sort_int (l : List Int) (hl : l.length < 4611686018427387904) : CallsA Tryz.prog F_slices_Sort_int [.sl 1 0 l.length l.length] [(1, .arr 1 (encQ encInt 0 l))] (.tup []) [(1, .arr 1 (encQ encInt 0 (msort l)))] :=
  rowA (by kernel_rfl) l (msort l) (msort_len l) (fun _ _ => .tuple #[]) (.tup []) (fun G w ob i a cap _ _ _ => .tup #[] rfl (fun j av h => by simp at h))
    (fun blk cap w hH hb hc => Tryz.slices_Sort_int blk 0 cap l w hH hb hl)
    (fun _ a w => Tryz.slices_Sort_int_none a 0 w)
def cmpct (l : List Int) : List Int := Go.Lib.compact l
theorem cmpct_len (l : List Int) : (cmpct l).length ≤ l.length := by
  unfold cmpct Go.Lib.compact Go.Lib.compactUpTo
  rw [List.length_map]
  have := List.length_filter_le (Go.Lib.keeps l.toArray) (List.range l.length)
  rwa [List.length_range] at this
theorem compactUpTo_mem (d : Array Int) (x : Int) : ∀ m, x ∈ Go.Lib.compactUpTo d m ↔ ∃ j, j < m ∧ d[j]! = x
  | 0 => by simp [Go.Lib.compactUpTo]
  | m + 1 => by
    rw [Go.Lib.compactUpTo_succ, List.mem_append, compactUpTo_mem d x m]
    constructor
    · rintro (⟨j, hj, e⟩ | h)
      · exact ⟨j, by omega, e⟩
      · by_cases hk : Go.Lib.keeps d m = true
        · rw [if_pos hk, List.mem_singleton] at h; exact ⟨m, by omega, h.symm⟩
        · rw [if_neg hk] at h; cases h
    · rintro ⟨j, hj, e⟩
      rcases Nat.lt_or_eq_of_le (Nat.le_of_lt_succ hj) with h | h
      · exact .inl ⟨j, h, e⟩
      · subst h
        by_cases hk : Go.Lib.keeps d j = true
        · right; rw [if_pos hk, List.mem_singleton]; exact e.symm
        · left
          simp only [Go.Lib.keeps, decide_eq_true_eq, not_or, ne_eq, Classical.not_not] at hk
          exact ⟨j - 1, by omega, by rw [← hk.2]; exact e⟩
theorem cmpct_mem {l : List Int} {x : Int} : x ∈ cmpct l ↔ x ∈ l := by
  unfold cmpct Go.Lib.compact
  rw [compactUpTo_mem]
  constructor
  · rintro ⟨j, hj, e⟩
    have : l[j] = x := by simpa [hj] using e
    rw [← this]; exact List.getElem_mem hj
  · intro h
    obtain ⟨j, hj, e⟩ := List.getElem_of_mem h
    exact ⟨j, hj, by simpa [hj] using e⟩
theorem s_slices_Compact_int (l : List Int) (hl : l.length ≤ 9223372036854775807) : CallsA Tryz.prog F_slices_Compact_int [.sl 1 0 l.length l.length] [(1, .arr 1 (encQ encInt 0 l))] (.sl 1 0 (cmpct l).length l.length)
    [(1, .arr 1 (encQ encInt 0 (cmpct l ++ List.replicate (l.length - (cmpct l).length) 0)))] := by
  refine rowA (by kernel_rfl) l _ (by have := cmpct_len l; simp; omega) (fun a cap => .slice a (cmpct l).length cap) _ (fun G w ob i a cap hi hlen hs => ?_)
    (fun blk cap w hH hb hc => (Tryz.slices_Compact_int blk 0 cap l w hH hl hc).mono ?_) (fun e a w => ?_)
  · obtain ⟨h1, h2, h3⟩ := hs
    have hcl := cmpct_len l
    refine .sl i hi (by omega) ⟨_, _, rfl⟩ fun _ => ⟨by omega, fun hb => ?_, fun b hb => ?_⟩
    · have hac := h2 hb
      have : l.length = 0 := by rcases hac with e | ⟨a', e⟩ <;> (injection e)
      have e0 : (cmpct l).length = 0 := by omega
      rw [e0]
      rw [this] at hac
      exact hac
    · obtain ⟨o, c, e, h5, h6, h7⟩ := h3 b hb
      injection e with e1 e2 e3
      subst e1; subst e3
      exact ⟨o, cap, rfl, by omega, fun h => by rw [(h7 rfl).1]; simp, h7⟩
  · rintro e w' ⟨rfl, q, rfl⟩
    exact ⟨rfl, q, #[], by rw [grow_empty]; rfl⟩
  · subst e
    refine (Tryz.slices_Compact_int_empty a 0 w).mono ?_
    rintro e w' ⟨rfl, rfl⟩
    exact ⟨rfl, rfl⟩

end Go.Abs
