/- The abstract layer, part 7: slices that grow. -/
import Derived.Test.YtbpaheflphafiaaAbs6
set_option linter.unusedSimpArgs false
set_option linter.unusedVariables false
set_option linter.unnecessarySimpa false
namespace Go.Abs
section
variable {P : Program} {G : Nat → Prop} {w : World} {ob : Place} {m : Nat → Option AObj}

/-- the numbers of a sequence's cells in the heap -/
structure Src (G : Nat → Prop) (w : World) (ob : Place) (esz : Nat) (t : Sq) (y : Value) (news : List Value) : Prop where
  len : news.length = t.n * esz
  one : ∀ u ∈ news, u.oneCell' = true
  glen : ∀ k, k < t.n → (t.g k).length = esz
  rel : ∀ (k j : Nat) (av : AV), k < t.n → (t.g k)[j]? = some av → av.pure = true ∧ ∃ u, news[k * esz + j]? = some u ∧ Rel G w ob av u
  val : (t.n = 0 ∧ y = .slice none 0 0) ∨ ∃ a c, y = .slice (some a) t.n c ∧ ∀ (j : Nat) (u : Value), news[j]? = some u → w.cell? (a.add j) = some u

theorem src_of_cells {esz n b off c : Nat} {g : Nat → List AV} (hlen : ∀ k, k < n → (g k).length = esz)
    (h : ∀ (k j : Nat) (av : AV), k < n → (g k)[j]? = some av → av.pure = true ∧ ∃ u, w.cell? ⟨b, off + (k * esz + j), none⟩ = some u ∧ Rel G w ob av u) :
    ∃ news, Src G w ob esz ⟨n, g⟩ (.slice (some ⟨b, off, none⟩) n c) news := by
  have cell : ∀ q, q < n * esz → ∃ u, w.cell? ⟨b, off + q, none⟩ = some u ∧ u.oneCell' = true := fun q hq => by
    have hpos : 0 < esz := by rcases Nat.eq_zero_or_pos esz with h | h; · rw [h] at hq; simp at hq
                              · exact h
    have hk : q / esz < n := (Nat.div_lt_iff_lt_mul hpos).2 hq
    have hj : q % esz < (g (q / esz)).length := by rw [hlen _ hk]; exact Nat.mod_lt _ hpos
    obtain ⟨h1, u, h2, h3⟩ := h (q / esz) (q % esz) _ hk (List.getElem?_eq_getElem hj)
    have e : q / esz * esz + q % esz = q := by rw [Nat.mul_comm]; exact Nat.div_add_mod q esz
    rw [e] at h2
    exact ⟨u, h2, h3.one_cell (pure_one h1)⟩
  refine ⟨(List.range (n * esz)).map fun q => (w.cell? ⟨b, off + q, none⟩).getD undef, by simp, fun u hu => ?_, hlen, fun k j av hk hj => ?_, .inr ⟨_, c, rfl, fun j u hj => ?_⟩⟩
  · rw [List.mem_map] at hu
    obtain ⟨q, hq, rfl⟩ := hu
    obtain ⟨u, h1, h2⟩ := cell q (by simpa using hq)
    rw [h1]; exact h2
  · obtain ⟨h1, u, h2, h3⟩ := h k j av hk hj
    refine ⟨h1, u, ?_, h3⟩
    have hjl : j < esz := by
      rw [← hlen k hk]; rcases Nat.lt_or_ge j (g k).length with h | h
      · exact h
      · rw [List.getElem?_eq_none h] at hj; cases hj
    have hq : k * esz + j < n * esz := by
      have : (k + 1) * esz ≤ n * esz := Nat.mul_le_mul_right _ hk
      rw [Nat.add_mul] at this; omega
    simp [hq, h2]
  · rw [addr_add]
    have hq : j < n * esz := by
      rcases Nat.lt_or_ge j (n * esz) with h | h
      · exact h
      · rw [List.getElem?_eq_none (by simpa using h)] at hj; cases hj
    obtain ⟨u', h1, h2⟩ := cell j hq
    simp [hq, h1] at hj
    rw [h1, hj]

theorem source_ok {esz : Nat} {b : AV} {p : Prop} {t : Sq} {y : Value} (hs : SimO G w ob m) (h : source m esz b = some (p, t)) (hp : p) (hr : Rel G w ob b y) : ∃ news, Src G w ob esz t y news := by
  have nilc : ∀ g : Nat → List AV, ∃ news, Src G w ob esz ⟨0, g⟩ (.slice none 0 0) news := fun g =>
    ⟨[], by simp, fun u hu => by simp at hu, fun k hk => by simp at hk, fun k j av hk => by simp at hk, .inl ⟨rfl, rfl⟩⟩
  have nile : ∀ (g : Nat → List AV) (a : Addr) (cap : Nat), ∃ news, Src G w ob esz ⟨0, g⟩ (.slice (some a) 0 cap) news := fun g a cap =>
    ⟨[], by simp, fun u hu => by simp at hu, fun k hk => by simp at hk, fun k j av hk => by simp at hk, .inr ⟨a, cap, rfl, fun j u hj => by simp at hj⟩⟩
  cases b with
  | sc u =>
    rw [hr.sc_eq]
    simp only [source] at h
    split at h
    all_goals first
      | (rename_i heq; cases heq; done)
      | skip
    · rename_i heq
      simp only [AV.sc.injEq] at heq
      subst heq
      simp only [Option.some.injEq, Prod.mk.injEq] at h
      obtain ⟨_, rfl⟩ := h
      exact nilc _
    · rename_i heq
      simp only [AV.sc.injEq] at heq
      subst heq
      simp only [Option.some.injEq, Prod.mk.injEq] at h
      obtain ⟨_, rfl⟩ := h
      exact nile _ _ _
    · cases h
  | dsl z n g =>
    simp only [source] at h
    split at h
    · rename_i hz
      simp only [Option.some.injEq, Prod.mk.injEq] at h
      obtain ⟨_, rfl⟩ := h
      subst hz
      cases hr with
      | dslNil => exact nilc g
      | dslE a cap => exact ⟨[], by simp, fun u hu => by simp at hu, fun k hk => by simp at hk, fun k j av hk => by simp at hk, .inr ⟨a, cap, rfl, fun j u hj => by simp at hj⟩⟩
      | dsl b off cap c hG hcap hlen hpp hc hrr =>
        exact src_of_cells hlen fun k j av hk hj => ⟨hpp k j av hk hj, c k j, hc k j hk (by
          rw [← hlen k hk]; rcases Nat.lt_or_ge j (g k).length with h | h
          · exact h
          · rw [List.getElem?_eq_none h] at hj; cases hj), hrr k j av hk hj⟩
    · cases h
  | dslx z n g =>
    simp only [source] at h
    split at h
    · rename_i hz
      simp only [Option.some.injEq, Prod.mk.injEq] at h
      obtain ⟨_, rfl⟩ := h
      subst hz
      cases hr with
      | dslxNil => exact nilc g
      | dslxE a => exact nile g a 0
      | dslx b off c hG hlen hpp hc hrr =>
        exact src_of_cells hlen fun k j av hk hj => ⟨hpp k j av hk hj, c k j, hc k j hk (by
          rw [← hlen k hk]; rcases Nat.lt_or_ge j (g k).length with h | h
          · exact h
          · rw [List.getElem?_eq_none h] at hj; cases hj), hrr k j av hk hj⟩
    · cases h
  | sl id off len tot =>
    have main : ∀ (i : Info) (z : Nat) (s : Sq), ob id = some i → z = esz → tot = s.n → i.esz = z → i.len = s.n → (i.blk = none → s.n = 0) →
        (∀ b, i.blk = some b → ∃ arr T fz, w.heap[b]? = some (.cells arr T fz) ∧ InRow G w ob arr i.esz s) → Rel G w ob (.sl id off len tot) y → ∃ news, Src G w ob esz ⟨len, fun i => s.g (off + i)⟩ y news := by
      intro i z s hi hz ht hiz hil hnb hrow hr
      cases hr with
      | sl i' h' hle hs' hv =>
        rw [hi] at h'; injection h' with h'; subst h'
        obtain ⟨h1, h2, h3⟩ := hv (by rw [hil, ht])
        cases hb : i.blk with
        | none =>
          have := hnb hb
          have hl0 : len = 0 := by omega
          subst hl0
          rcases h2 hb with rfl | ⟨a, rfl⟩
          · exact nilc _
          · exact nile _ a 0
        | some b =>
          obtain ⟨o, c, rfl, hc, ho1, _⟩ := h3 b hb
          obtain ⟨arr, T, fz, hh, hin⟩ := hrow b hb
          by_cases hl : len = 0
          · subst hl
            exact ⟨[], by simp, fun u hu => by simp at hu, fun k hk => by simp at hk, fun k j av hk => by simp at hk, .inr ⟨_, c, rfl, fun j u hj => by simp at hj⟩⟩
          · have := ho1 (by omega)
            subst this
            refine src_of_cells (fun k hk => by rw [← hz, ← hiz]; exact hin.1 _ (by omega)) fun k j av hk hj => ?_
            obtain ⟨h5, u, h6, h7⟩ := hin.2 (off + k) j av (by omega) hj
            refine ⟨h5, u, ?_, h7⟩
            have e : off * i.esz + (k * esz + j) = (off + k) * i.esz + j := by rw [Nat.add_mul, hiz, hz, Nat.add_assoc]
            rw [e, cell_of_row w b _ arr T _ hh, h6]
    simp only [source] at h
    cases hm : m id with
    | none => simp [hm] at h
    | some obj =>
      cases hi : ob id with
      | none => rw [(hs.dom id).2 hi] at hm; cases hm
      | some i =>
        have ho := hs.own id obj i hm hi
        rw [hm] at h
        cases obj with
        | arr z s =>
          simp only at h
          split at h
          · rename_i hz
            simp only [Option.some.injEq, Prod.mk.injEq] at h
            obtain ⟨rfl, rfl⟩ := h
            refine main i z s hi hz hp ho.2.1 ho.2.2.1 ho.arr_none (fun b hb => ?_) hr
            rcases ho.2.2.2.2 with ⟨h5, _⟩ | ⟨b', arr, T, h5, h6, _, h7⟩
            · rw [h5] at hb; cases hb
            · rw [h5] at hb; injection hb with hb; subst hb; exact ⟨arr, T, _, h6, h7⟩
          · cases h
        | frz z s =>
          simp only at h
          split at h
          · rename_i hz
            simp only [Option.some.injEq, Prod.mk.injEq] at h
            obtain ⟨rfl, rfl⟩ := h
            refine main i z s hi hz hp ho.2.1 ho.2.2.1 ho.frz_none (fun b hb => ?_) hr
            rcases ho.2.2.2.2 with ⟨h5, _⟩ | ⟨b', arr, T, fz, h5, _, h6, h7⟩
            · rw [h5] at hb; cases hb
            · rw [h5] at hb; injection hb with hb; subst hb; exact ⟨arr, T, fz, h6, h7⟩
          · cases h
        | _ => simp at h
  | _ => simp [source] at h

/-- what appending to a slice without room comes to -/
theorem run_append_full {t ty el : TypeId} {z : Value} {i : TypeInfo} (ht : P.underlying t = some (.slice el)) (hi : P.info? el = some i) (hz : i.zero = some z)
    {esz : Nat} (hsize : i.size = esz) (hzs : z.cells.size = esz) {y : Value} {a : Addr} {n : Nat} {q : Sq} {news old : List Value} (hsrc : Src G w ob esz q y news)
    (h63 : n + q.n ≤ maxLen) (hbytes : (n + q.n) * i.bytes ≤ 140737488355328)
    (hlo : old.length = n * esz) (holds : ∀ (j : Nat) (u : Value), old[j]? = some u → w.cell? (a.add j) = some u) :
    (q.n = 0 ∧ (Builtin.append_ #[t, t] ty #[.slice (some a) n n, y]).run P w = .ok (.slice (some a) n n) w) ∨
    (∃ newCap row, q.n ≠ 0 ∧ n + q.n ≤ newCap ∧ row.size = newCap * esz ∧ (Builtin.append_ #[t, t] ty #[.slice (some a) n n, y]).run P w = .ok (.slice (some ⟨w.heap.size, 0, none⟩) (n + q.n) newCap) (w.drew.alloc (.cells row el)) ∧
      (∀ j, j < n * esz → row[j]? = old[j]?) ∧ ∀ j, j < q.n * esz → row[n * esz + j]? = news[j]?) := by
  subst hsize
  have hlen := hsrc.len
  have hb := hbytes
  have h63' : n + q.n ≤ 9223372036854775807 := by simp only [maxLen] at h63; omega
  rcases hsrc.val with ⟨hq0, rfl⟩ | ⟨a2, c, rfl, hcells⟩
  · refine .inl ⟨hq0, ?_⟩
    simp [Builtin.append_, run_underlying ht, sizeOf, typeInfo, hi, Builtin.lenOf, Builtin.firstCells, storeCells]
  · by_cases hq0 : q.n = 0
    · refine .inl ⟨hq0, ?_⟩
      rw [hq0]
      simp [Builtin.append_, run_underlying ht, sizeOf, typeInfo, hi, Builtin.lenOf, Builtin.firstCells, loadCells, loadCellsFrom, storeCells]
    · have hr := run_append_grow (P := P) w t ty el i z ht hi hz a n n old hlo holds a2 q.n c news hlen hcells (by omega) (by omega) (growslice_fits (by omega) hbytes)
      refine .inr ⟨grownCap w (n + q.n) n el, _, hq0, grownCap_ge w (n + q.n) n el, ?_, hr, fun j hj => ?_, fun j hj => ?_⟩
      · have := grownCap_ge w (n + q.n) n el
        simp only [Array.size_append, List.size_toArray, hlo, hlen, size_zeroCells, hzs, ← Nat.add_mul]
        congr 1; omega
      · rw [Array.append_assoc, Array.getElem?_append_left (by rw [List.size_toArray, hlo]; exact hj)]
        simp
      · rw [Array.append_assoc, Array.getElem?_append_right (by rw [List.size_toArray, hlo]; omega), List.size_toArray, hlo, Nat.add_sub_cancel_left,
          Array.getElem?_append_left (by rw [List.size_toArray, hlen]; exact hj)]
        simp

/-- what appending to a slice (nil, or a whole row of a block) comes to -/
theorem run_append_any {t ty el : TypeId} {z : Value} {i : TypeInfo} (ht : P.underlying t = some (.slice el)) (hi : P.info? el = some i) (hz : i.zero = some z)
    {esz : Nat} (hsize : i.size = esz) (hzs : z.cells.size = esz) {x y : Value} {n : Nat} {q : Sq} {news : List Value} (hsrc : Src G w ob esz q y news)
    (h63 : n + q.n ≤ maxLen) (hbytes : (n + q.n) * i.bytes ≤ 140737488355328)
    (hx : ((x = .slice none 0 0 ∨ ∃ a, x = .slice (some a) 0 0) ∧ n = 0) ∨ ∃ b cap arr T, x = .slice (some ⟨b, 0, none⟩) n cap ∧ w.heap[b]? = some (.cells arr T (0, 0)) ∧ n ≤ cap ∧ arr.size = cap * esz) :
    (q.n = 0 ∧ (Builtin.append_ #[t, t] ty #[x, y]).run P w = .ok x w) ∨
    (∃ b cap arr T, q.n ≠ 0 ∧ x = .slice (some ⟨b, 0, none⟩) n cap ∧ w.heap[b]? = some (.cells arr T (0, 0)) ∧ n + q.n ≤ cap ∧
      (Builtin.append_ #[t, t] ty #[x, y]).run P w = .ok (.slice (some ⟨b, 0, none⟩) (n + q.n) cap) (w.setRow b (stored arr (n * esz) news))) ∨
    (∃ newCap row, q.n ≠ 0 ∧ n + q.n ≤ newCap ∧ row.size = newCap * esz ∧ (Builtin.append_ #[t, t] ty #[x, y]).run P w = .ok (.slice (some ⟨w.heap.size, 0, none⟩) (n + q.n) newCap) (w.drew.alloc (.cells row el)) ∧
      (∀ j, j < n * esz → ∀ b cap arr T, x = .slice (some ⟨b, 0, none⟩) n cap → w.heap[b]? = some (.cells arr T (0, 0)) → row[j]? = arr[j]?) ∧ ∀ j, j < q.n * esz → row[n * esz + j]? = news[j]?) := by
  by_cases hxe : ∃ a, x = .slice (some a) 0 0 ∧ n = 0
  · obtain ⟨a, rfl, rfl⟩ := hxe
    rcases run_append_full (ty := ty) ht hi hz hsize hzs (a := a) (n := 0) (old := []) hsrc h63 hbytes (by simp) (fun j u hj => by simp at hj) with h | ⟨nc, row, h1, h2, h3, h4, h5, h6⟩
    · exact .inl h
    · exact .inr (.inr ⟨nc, row, h1, h2, h3, h4, fun j hj => by simp at hj, h6⟩)
  replace hx : (x = .slice none 0 0 ∧ n = 0) ∨ ∃ b cap arr T, x = .slice (some ⟨b, 0, none⟩) n cap ∧ w.heap[b]? = some (.cells arr T (0, 0)) ∧ n ≤ cap ∧ arr.size = cap * esz := by
    rcases hx with ⟨h | ⟨a, h⟩, hn⟩ | h
    · exact .inl ⟨h, hn⟩
    · exact absurd ⟨a, h, hn⟩ hxe
    · exact .inr h
  subst hsize
  have hlen := hsrc.len
  have hb := hbytes
  have h63' : n + q.n ≤ 9223372036854775807 := by simp only [maxLen] at h63; omega
  rcases hsrc.val with ⟨hq0, rfl⟩ | ⟨a, c, rfl, hcells⟩
  · -- nothing is appended: nil
    refine .inl ⟨hq0, ?_⟩
    rcases hx with ⟨rfl, rfl⟩ | ⟨b, cap, arr, T, rfl, hg, hnc, _⟩
    · simp [Builtin.append_, run_underlying ht, sizeOf, typeInfo, hi, Builtin.lenOf, Builtin.firstCells]
    · simp [Builtin.append_, run_underlying ht, sizeOf, typeInfo, hi, Builtin.lenOf, Builtin.firstCells, hnc, storeCells]
  · by_cases hq0 : q.n = 0
    · refine .inl ⟨hq0, ?_⟩
      rw [hq0]
      rcases hx with ⟨rfl, rfl⟩ | ⟨b, cap, arr, T, rfl, hg, hnc, _⟩
      · simp [Builtin.append_, run_underlying ht, sizeOf, typeInfo, hi, Builtin.lenOf, Builtin.firstCells, loadCells, loadCellsFrom]
      · simp [Builtin.append_, run_underlying ht, sizeOf, typeInfo, hi, Builtin.lenOf, Builtin.firstCells, loadCells, loadCellsFrom, hnc, storeCells]
    · rcases hx with ⟨rfl, rfl⟩ | ⟨b, cap, arr, T, rfl, hg, hnc, hsz⟩
      · refine .inr (.inr ⟨grownCap w q.n 0 el, news.toArray ++ Builtin.zeroCells z.cells (grownCap w q.n 0 el - q.n), hq0, ?_, ?_, ?_, (fun j hj => by simp at hj), fun j hj => ?_⟩)
        · have := grownCap_ge w q.n 0 el; omega
        · have := grownCap_ge w q.n 0 el
          simp only [Array.size_append, List.size_toArray, hlen, size_zeroCells, hzs, ← Nat.add_mul]
          congr 1; omega
        · have hr := run_append_nil (P := P) w t ty el i z ht hi hz a q.n c news hlen hcells (by omega) (by omega) (by simp only [Nat.zero_add] at hb; omega)
          simpa using hr
        · simp only [Nat.zero_mul, Nat.zero_add]
          rw [Array.getElem?_append_left (by simp [hlen]; exact hj)]
          simp
      · by_cases hroom : n + q.n ≤ cap
        · refine .inr (.inl ⟨b, cap, arr, T, hq0, rfl, hg, hroom, ?_⟩)
          have hfit : n * i.size + news.length ≤ arr.size := by rw [hlen, hsz, ← Nat.add_mul]; exact Nat.mul_le_mul_right _ hroom
          have hf := run_firstCells_some (P := P) w i.size q.n a q.n c news hlen hcells
          have hst := run_storeCells_at P b (n * i.size) T news 0 arr w hg (by simpa using hfit) hsrc.one
          simp only [Nat.add_zero] at hst
          simp [Builtin.append_, run_underlying ht, sizeOf, typeInfo, hi, Builtin.lenOf, hroom, hf, Addr.add_lit, hst, stored]
        · have holds : ∀ (j : Nat) (u : Value), (arr.toList.take (n * i.size))[j]? = some u → w.cell? ((⟨b, 0, none⟩ : Addr).add j) = some u := fun j u hj => by
            rw [addr_add, Nat.zero_add, cell_of_row w b j arr T _ hg]
            rw [List.getElem?_take] at hj
            split at hj
            · simpa using hj
            · cases hj
          have hlo : (arr.toList.take (n * i.size)).length = n * i.size := by
            simp only [List.length_take, Array.length_toList, hsz]
            have := Nat.mul_le_mul_right i.size hnc
            omega
          have hr := run_append_grow (P := P) w t ty el i z ht hi hz ⟨b, 0, none⟩ n cap (arr.toList.take (n * i.size)) hlo holds a q.n c news hlen hcells (by omega) (by omega) (growslice_fits (by omega) hbytes)
          refine .inr (.inr ⟨grownCap w (n + q.n) cap el, _, hq0, grownCap_ge w (n + q.n) cap el, ?_, hr, fun j hj b' cap' arr' T' hxe hg' => ?_, fun j hj => ?_⟩)
          · have := grownCap_ge w (n + q.n) cap el
            simp only [Array.size_append, List.size_toArray, hlo, hlen, size_zeroCells, hzs, ← Nat.add_mul]
            congr 1; omega
          · simp only [Value.slice.injEq, Option.some.injEq, Addr.mk.injEq] at hxe
            obtain ⟨⟨rfl, _⟩, _⟩ := hxe
            rw [hg] at hg'
            simp only [Option.some.injEq, Obj.cells.injEq] at hg'
            obtain ⟨rfl, _⟩ := hg'
            rw [Array.append_assoc, Array.getElem?_append_left (by rw [List.size_toArray, hlo]; exact hj)]
            simp [hj]
          · rw [Array.append_assoc, Array.getElem?_append_right (by rw [List.size_toArray, hlo]; omega), List.size_toArray, hlo, Nat.add_sub_cancel_left,
              Array.getElem?_append_left (by rw [List.size_toArray, hlen]; exact hj)]
            simp

end
end Go.Abs
