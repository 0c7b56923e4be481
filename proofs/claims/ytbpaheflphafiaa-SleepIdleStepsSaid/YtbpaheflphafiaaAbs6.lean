/- The abstract layer, part 6: freezing; slices that are built; stores. -/
import Derived.Test.YtbpaheflphafiaaAbs5
set_option linter.unusedSimpArgs false
set_option linter.unusedVariables false
set_option linter.unnecessarySimpa false
namespace Go.Abs
section
variable {P : Program} {G : Nat → Prop} {w : World} {ob : Place} {m : Nat → Option AObj}

theorem upd_self {β : Type} {f : Nat → Option β} {k : Nat} {v : Option β} (h : f k = v) : upd f k v = f := by
  funext x; unfold upd; split
  · rename_i hx; rw [hx, h]
  · rfl

theorem frz_dsl {id z off len tot : Nat} {s : Sq} {v : Value} (hs : SimO G w ob m) (hm : m id = some (.frz z s)) (hr : Rel G w ob (.sl id off len tot) v) (ht : tot = s.n) :
    Rel G w ob (.dsl z len (fun i => s.g (off + i))) v := by
  cases hr with
  | sl i h hle hs' hv =>
    have ho := hs.own id _ i hm h
    obtain ⟨h0, h1, h2, h3, h4⟩ := ho
    obtain ⟨h5, h6, h7⟩ := hv (by rw [h2, ht])
    rcases h4 with ⟨hb, hn, _⟩ | ⟨b, arr, T, fz, hb, hG, hh, hin⟩
    · have : len = 0 := by omega
      subst this
      rcases h6 hb with rfl | ⟨a, rfl⟩
      · exact .dslNil
      · exact .dslE a 0
    · obtain ⟨o, c, rfl, hc, ho1, ho2⟩ := h7 b hb
      by_cases hl : len = 0
      · subst hl
        exact .dsl b o c (fun _ _ => undef) hG hc (fun i hi => by omega) (fun i j av hi => by omega) (fun i j hi => by omega) (fun i j av hi => by omega)
      · have := ho1 (by omega)
        subst this
        refine .dsl b _ c (fun k j => (arr[(off + k) * i.esz + j]?).getD undef) hG hc (fun k hk => by rw [← h1]; exact hin.1 _ (by omega)) (fun k j av hk hj => (hin.2 _ j av (by omega) hj).1) (fun k j hk hj => ?_) (fun k j av hk hj => ?_)
        · have hlen := hin.1 (off + k) (by omega)
          obtain ⟨_, u, hu, _⟩ := hin.2 (off + k) j (s.g (off + k))[j] (by omega) (List.getElem?_eq_getElem (by rw [hlen, h1]; exact hj))
          have e : off * i.esz + (k * z + j) = (off + k) * i.esz + j := by rw [Nat.add_mul, ← h1, Nat.add_assoc]
          rw [e, cell_of_row w b _ arr T _ hh, hu]; simp
        · obtain ⟨_, u, hu, hrel⟩ := hin.2 (off + k) j av (by omega) hj
          rw [hu]; exact hrel

/-- classes that have only grown by freezing -/
def Agree (m m1 : Nat → Option AObj) : Prop := ∀ id, m1 id = m id ∨ ∃ z s, m id = some (.arr z s) ∧ m1 id = some (.frz z s)

theorem freezeCell_ok {c c' : AV} {p : Prop} {wr : List (Nat × AObj)} {v : Value} (hf : freezeCell m c = some (p, c', wr)) (hp : p) {m1 : Nat → Option AObj}
    (hs : SimO G w ob m1) (ha : Agree m m1) (hr : Rel G w ob c v) :
    ∃ G2, SimO G2 w ob (wrm m1 wr) ∧ Agree m (wrm m1 wr) ∧ (∀ b, G b → G2 b) ∧ (∀ b, G2 b → G b ∨ blks ob b) ∧ c'.pure = true ∧ Rel G2 w ob c' v := by
  have triv : c.pure = true → c' = c → wr = [] → ∃ G2, SimO G2 w ob (wrm m1 wr) ∧ Agree m (wrm m1 wr) ∧ (∀ b, G b → G2 b) ∧ (∀ b, G2 b → G b ∨ blks ob b) ∧ c'.pure = true ∧ Rel G2 w ob c' v := by
    rintro h rfl rfl
    exact ⟨G, hs, ha, fun _ h => h, fun _ h => .inl h, h, hr⟩
  have frozen : ∀ id off len tot z s, c = .sl id off len tot → tot = s.n → m1 id = some (.frz z s) → c' = .dsl z len (fun i => s.g (off + i)) → wrm m1 wr = m1 →
      ∃ G2, SimO G2 w ob (wrm m1 wr) ∧ Agree m (wrm m1 wr) ∧ (∀ b, G b → G2 b) ∧ (∀ b, G2 b → G b ∨ blks ob b) ∧ c'.pure = true ∧ Rel G2 w ob c' v := by
    rintro id off len tot z s rfl ht hm1 rfl hw
    rw [hw]
    exact ⟨G, hs, ha, fun _ h => h, fun _ h => .inl h, rfl, frz_dsl hs hm1 hr ht⟩
  cases c with
  | sl id off len tot =>
    simp only [freezeCell] at hf
    cases hm : m id with
    | none => simp [hm] at hf
    | some obj =>
      rw [hm] at hf
      cases obj with
      | arr z s =>
        simp only [Option.some.injEq, Prod.mk.injEq] at hf
        obtain ⟨rfl, rfl, rfl⟩ := hf
        rcases ha id with h1 | ⟨z', s', h1, h2⟩
        · rw [hm] at h1
          obtain ⟨G2, h3, h4, h5, h6⟩ := hs.freeze h1
          refine ⟨G2, h3, ?_, h4, h5, rfl, frz_dsl h3 (by simp) (hr.ext h4 (fun _ _ => rfl) (OBext.refl ob)) hp⟩
          intro x
          by_cases hx : x = id
          · subst hx; exact .inr ⟨z, s, hm, by simp [wrm]⟩
          · simp only [wrm, List.foldl_cons, List.foldl_nil, upd_ne hx]; exact ha x
        · rw [hm] at h1; injection h1 with h1; injection h1 with h1 h1'; subst h1; subst h1'
          exact frozen id off len tot z s rfl hp h2 rfl (by simp only [wrm, List.foldl_cons, List.foldl_nil]; exact upd_self h2)
      | frz z s =>
        simp only [Option.some.injEq, Prod.mk.injEq] at hf
        obtain ⟨rfl, rfl, rfl⟩ := hf
        rcases ha id with h1 | ⟨z', s', h1, h2⟩
        · rw [hm] at h1
          exact frozen id off len tot z s rfl hp h1 rfl rfl
        · rw [hm] at h1; cases h1
      | _ => simp at hf
  | sc u => simp only [freezeCell, AV.pure, if_true, Option.some.injEq, Prod.mk.injEq] at hf; exact triv rfl hf.2.1.symm hf.2.2.symm
  | dsl => simp only [freezeCell, AV.pure, if_true, Option.some.injEq, Prod.mk.injEq] at hf; exact triv rfl hf.2.1.symm hf.2.2.symm
  | dslx => simp only [freezeCell, AV.pure, if_true, Option.some.injEq, Prod.mk.injEq] at hf; exact triv rfl hf.2.1.symm hf.2.2.symm
  | fn f xs ys =>
    simp only [freezeCell] at hf
    split at hf
    · rename_i h; simp only [Option.some.injEq, Prod.mk.injEq] at hf; exact triv h hf.2.1.symm hf.2.2.symm
    · cases hf
  | _ => simp [freezeCell, AV.pure] at hf

theorem wrm_append (m : Nat → Option AObj) (a b : List (Nat × AObj)) : wrm m (a ++ b) = wrm (wrm m a) b := by simp [wrm]

theorem freezeL_ok : ∀ (cs cs' : List AV) (p : Prop) (wr : List (Nat × AObj)) (v : Nat → Value) (G : Nat → Prop) (m1 : Nat → Option AObj), freezeL m cs = some (p, cs', wr) → p →
    SimO G w ob m1 → Agree m m1 → (∀ (j : Nat) (av : AV), cs[j]? = some av → Rel G w ob av (v j)) →
    ∃ G2, SimO G2 w ob (wrm m1 wr) ∧ Agree m (wrm m1 wr) ∧ (∀ b, G b → G2 b) ∧ (∀ b, G2 b → G b ∨ blks ob b) ∧ cs'.length = cs.length ∧
      ∀ (j : Nat) (av : AV), cs'[j]? = some av → av.pure = true ∧ Rel G2 w ob av (v j)
  | [], cs', p, wr, v, G, m1, hf, hp, hs, ha, hr => by
    simp only [freezeL, Option.some.injEq, Prod.mk.injEq] at hf
    obtain ⟨_, rfl, rfl⟩ := hf
    exact ⟨G, hs, ha, fun _ h => h, fun _ h => .inl h, rfl, fun j av h => by simp at h⟩
  | c :: cs, cs', p, wr, v, G, m1, hf, hp, hs, ha, hr => by
    simp only [freezeL] at hf
    split at hf
    · rename_i p1 c1 w1 q1 cs1 w2 h1 h2
      simp only [Option.some.injEq, Prod.mk.injEq] at hf
      obtain ⟨rfl, rfl, rfl⟩ := hf
      obtain ⟨G2, a1, a2, a3, a4, a5, a6⟩ := freezeCell_ok (v := v 0) h1 hp.1 hs ha (hr 0 c (by simp))
      obtain ⟨G3, b1, b2, b3, b4, b5, b6⟩ := freezeL_ok cs cs1 q1 w2 (fun j => v (j + 1)) G2 _ h2 hp.2 a1 a2 (fun j av hj => (hr (j + 1) av (by simpa using hj)).ext a3 (fun _ _ => rfl) (OBext.refl ob))
      refine ⟨G3, by rw [wrm_append]; exact b1, by rw [wrm_append]; exact b2, fun b h => b3 b (a3 b h), fun b h => ?_, by simp [b5], fun j av hj => ?_⟩
      · rcases b4 b h with h | h
        · exact a4 b h
        · exact .inr h
      · cases j with
        | zero => simp only [List.getElem?_cons_zero, Option.some.injEq] at hj; subst hj; exact ⟨a5, a6.ext b3 (fun _ _ => rfl) (OBext.refl ob)⟩
        | succ j => simp only [List.getElem?_cons_succ] at hj; exact b6 j av hj
    · cases hf

theorem Agree.refl (m : Nat → Option AObj) : Agree m m := fun _ => .inl rfl

theorem Fr.frozen {G' : Nat → Prop} (h1 : ∀ b, G b → G' b) (h2 : ∀ b, G' b → G b ∨ blks ob b) : Fr G w ob G' w ob :=
  ⟨Nat.le_refl _, fun _ _ _ => rfl, fun _ h => .inl h, h1, fun b h => (h2 b h).imp id (fun h => .inr h), rfl, rfl, rfl⟩

/-- first some classes are frozen, then the operation -/
theorem OpOk.after {G' : Nat → Prop} {m' : Nat → Option AObj} {s : Sem Next} {r : Res} {wr : List (Nat × AObj)} (h1 : ∀ b, G b → G' b) (h2 : ∀ b, G' b → G b ∨ blks ob b)
    (hm : m' = wrm m wr) (h : OpOk P G' w ob m' s r) : OpOk P G w ob m s ⟨r.val, wr ++ r.wr⟩ := by
  obtain ⟨G2, w2, ob2, v, a1, a2, a3, a4, a5⟩ := h
  refine ⟨G2, w2, ob2, v, a1, ?_, a3, a4, (Fr.frozen h1 h2).trans a5⟩
  rw [wrm_append, ← hm]; exact a2

/-- a new slice of the call's own -/
theorem ok_arr_core {s : Sem Next} {id esz len : Nat} {g : Nat → List AV} {vs : Array Value} {T : TypeId} (hs : SimO G w ob m) (hid : m id = none)
    (hn : vs.size = len * esz) (hlen : ∀ k, k < len → (g k).length = esz)
    (hrel : ∀ (k j : Nat) (av : AV), k < len → (g k)[j]? = some av → av.pure = true ∧ Rel G w ob av (vs.getD (k * esz + j) undef))
    (h : s.run P w = .ok (.value (.slice (some ⟨w.heap.size, 0, none⟩) len len)) (w.alloc (.cells vs T))) : OpOk P G w ob m s ⟨some (.sl id 0 len len), [(id, .arr esz ⟨len, g⟩)]⟩ := by
  have hno : ob id = none := (hs.dom id).1 hid
  have hext : OBext ob (upd ob id (some ⟨some w.heap.size, esz, len, len, false⟩)) := fun x j hj => by
    have hx : x ≠ id := fun e => by subst e; rw [hno] at hj; cases hj
    exact ⟨j, by rw [upd_ne hx]; exact hj, .inl rfl⟩
  have hGw : ∀ b, G b → (w.alloc (.cells vs T)).heap[b]? = w.heap[b]? := fun b hG => heap_alloc_old _ _ _ (hs.lt b hG)
  refine OpOk.new (w0 := w) (i := ⟨some w.heap.size, esz, len, len, false⟩) hs hid rfl rfl rfl rfl h (fun b hb => by simpa using hb.symm) ?_ ?_
  · refine ⟨rfl, rfl, rfl, Nat.le_refl _, .inr ⟨w.heap.size, vs, T, rfl, heap_alloc_new _ _, hn, hlen, fun k j av hk hj => ?_⟩⟩
    have hk : k < len := hk
    obtain ⟨h1, h2⟩ := hrel k j av hk hj
    refine ⟨h1, vs.getD (k * esz + j) undef, ?_, h2.ext (fun _ h => h) hGw hext⟩
    have hj' : j < esz := by
      rw [← hlen k hk]; rcases Nat.lt_or_ge j (g k).length with h | h
      · exact h
      · rw [List.getElem?_eq_none h] at hj; cases hj
    have hlt : k * esz + j < vs.size := by
      have : (k + 1) * esz ≤ len * esz := Nat.mul_le_mul_right _ (by omega)
      rw [Nat.add_mul] at this
      omega
    simp [Array.getElem?_eq_getElem hlt]
  · refine .sl ⟨some w.heap.size, esz, len, len, false⟩ (by simp) (Nat.le_refl _) ⟨_, _, rfl⟩ fun _ => ⟨by simp, fun h => by simp at h, fun b hb => ?_⟩
    simp only [Option.some.injEq] at hb
    subst hb
    exact ⟨0, len, rfl, Nat.le_refl _, fun _ => by simp, fun _ => ⟨rfl, rfl⟩⟩

theorem ok_bslice {t el : TypeId} {len size : Nat} {z : Value} {parts : Array (Nat × Operand)} {ps : List (Nat × Nat × AX)} {ρ : Operand → Value} {e : AX → Option AV} {p : Prop} {r : Res} {d : Nat}
    (ht : P.underlying t = some (.slice el)) (hz : (P.info? el).bind (·.zero) = some z) (hsz : szOf P el = some size)
    (hzs : z.cells.size = size) (hone : z.cells.all Value.oneCell' = true) (hsmall : len * size ≤ 2 ^ 24)
    (hps : (parts.toList.mapM fun p => match (some (p.1 * size, size) : Option (Nat × Nat)), cx p.2 with | some (o, s), some ax => some (o, s, ax) | _, _ => none) = some ps)
    (hs : SimO G w ob m) (he : OpRel G w ob ρ e)
    (hv : eval (.bslice size len ((Array.range (len * size)).map (z.cells[· % z.cells.size]!)).toList ps) e m d = some (p, r)) (hp : p) :
    OpOk P G w ob m (do pure (.value (← Instr.buildSlice t len (parts.map fun (i, x) => (i, ρ x))))) r := by
  simp only [eval] at hv
  cases hm : m (nid d) with
  | some o => simp [hm] at hv
  | none =>
    generalize hZ : (Array.range (len * size)).map (z.cells[· % z.cells.size]!) = Z at hv
    have hZone : Z.all Value.oneCell' = true := by
      rw [Array.all_eq_true']
      intro u hu
      rw [← hZ, Array.mem_map] at hu
      obtain ⟨k, hk, rfl⟩ := hu
      simp only [Array.mem_range] at hk
      have hpos : 0 < z.cells.size := by
        rcases Nat.eq_zero_or_pos size with h | h
        · rw [h] at hk; simp at hk
        · omega
      have hlt := Nat.mod_lt k hpos
      rw [getElem!_pos z.cells _ hlt]
      exact Array.all_eq_true'.1 hone _ (Array.getElem_mem hlt)
    cases hf : fillA e (Z.toList.map .sc) ps with
    | none => simp [hm, hf] at hv
    | some cs =>
      simp only [hm, hf] at hv
      split at hv
      case h_2 => cases hv
      rename_i p1 cs' wr hfr
      simp only [Option.some.injEq, Prod.mk.injEq] at hv
      obtain ⟨rfl, rfl⟩ := hv
      obtain ⟨Z', h1, h2⟩ := fill_rel (place := fun i => some (i * size, size)) he parts.toList ps Z _ cs hps (arr_rel hZone) hf
      have hlenZ : Z.size = len * size := by rw [← hZ]; simp
      have hZ'len : Z'.size = len * size := by
        have key : ∀ (l : List (Nat × Value)) (A B : Array Value), Instr.fill (fun i => some (i * size, size)) A l = some B → B.size = A.size := by
          intro l
          induction l with
          | nil => intro A B h; simp [Instr.fill] at h; rw [h]
          | cons x l ih =>
            intro A B h
            obtain ⟨i, v⟩ := x
            simp only [Instr.fill] at h
            split at h
            · cases h
            · rw [ih _ _ h, ← Array.foldl_toList, Array.toList_zipIdx]
              exact (foldl_set v.cells.toList 0 (i * size) A 0).1
        rw [key _ _ _ h1, hlenZ]
      obtain ⟨G2, a1, a2, a3, a4, a5, a6⟩ := freezeL_ok cs cs' p1 wr (fun j => Z'.getD j undef) G m hfr hp hs (Agree.refl m) (fun j av hj => h2.2.2 j av hj)
      have hm2 : wrm m wr (nid d) = none := by
        rcases a2 (nid d) with h | ⟨_, _, h, _⟩
        · rw [h, hm]
        · rw [hm] at h; cases h
      have hrun : (Instr.buildSlice t len (parts.map fun (x : Nat × Operand) => (x.1, ρ x.2))).run P w = .ok (.slice (some ⟨w.heap.size, 0, none⟩) len len) (w.alloc (.cells Z' el)) := by
        have h1' : Instr.fill (fun i => some (i * size, size)) Z (parts.map fun (x : Nat × Operand) => (x.1, ρ x.2)).toList = some Z' := by rw [Array.toList_map]; exact h1
        have hns : ¬ len * size > 2 ^ 24 := by omega
        unfold Instr.buildSlice
        simp only [Sem.run_bind, run_underlying ht, Result.andThen_ok, run_sizeOf hsz, if_neg hns]
        by_cases h0 : len * size = 0
        · have hZ0 : Z = #[] := Array.eq_empty_of_size_eq_zero (by omega)
          rw [hZ0] at h1'
          simp only [h0, if_true, Sem.run_pure, Result.andThen_ok, Array.range_zero', Array.map_empty, h1', newRow, Sem.run_bind, run_newObj]
          simp
        · simp only [h0, if_false, Sem.run_bind, run_zeroValue hz, Result.andThen_ok, Sem.run_pure, hZ, h1', newRow, run_newObj]
          simp
      refine OpOk.after (m' := wrm m wr) a3 a4 rfl (ok_arr_core (T := el) a1 hm2 hZ'len (fun k hk => ?_) (fun k j av hk hj => ?_) ?_)
      · have hl2 : cs'.length = len * size := by rw [a5, ← h2.1, hZ'len]
        simp only [List.length_take, List.length_drop, hl2]
        have : (k + 1) * size ≤ len * size := Nat.mul_le_mul_right _ (by omega)
        rw [Nat.add_mul] at this
        omega
      · rw [List.getElem?_take] at hj
        split at hj
        · rw [List.getElem?_drop] at hj
          exact a6 _ av hj
        · cases hj
      · simp [hrun]

theorem heap_setRow_same {b : Nat} {arr cs : Array Value} {T : TypeId} {fz : Nat × Nat} (h : w.heap[b]? = some (.cells arr T fz)) : (w.setRow b cs).heap[b]? = some (.cells cs T fz) :=
  setRow_heap w b arr cs T fz h

/-- the row behind a store of cells -/
def stored (arr : Array Value) (o : Nat) (vs : List Value) : Array Value := (arr.toList.take o ++ vs ++ arr.toList.drop (o + vs.length)).toArray

theorem stored_size (arr : Array Value) (o : Nat) (vs : List Value) (h : o + vs.length ≤ arr.size) : (stored arr o vs).size = arr.size := by
  simp only [stored, List.size_toArray, List.length_append, List.length_take, List.length_drop, Array.length_toList]; omega

theorem stored_get (arr : Array Value) (o : Nat) (vs : List Value) (h : o + vs.length ≤ arr.size) (q : Nat) :
    (stored arr o vs)[q]? = if o ≤ q ∧ q < o + vs.length then vs[q - o]? else arr[q]? := by
  have hn : (arr.toList.take o).length = o := by simp; omega
  simp only [stored, List.getElem?_toArray]
  by_cases h1 : q < o
  · rw [List.append_assoc, List.getElem?_append_left (by omega), if_neg (by omega), List.getElem?_take, if_pos h1]; simp
  · by_cases h2 : q < o + vs.length
    · rw [List.append_assoc, List.getElem?_append_right (by omega), hn, List.getElem?_append_left (by omega), if_pos ⟨by omega, h2⟩]
    · rw [List.append_assoc, List.getElem?_append_right (by omega), hn, List.getElem?_append_right (by omega), if_neg (by omega), List.getElem?_drop]
      simp; congr 1; omega

theorem run_storeAt {t : TypeId} {n : Nat} {b o : Nat} {arr : Array Value} {T : TypeId} {v : Value} (hsz : szOf P t = some n) (hn : v.cells.size = n)
    (hg : w.heap[b]? = some (.cells arr T (0, 0))) (hl : o + n ≤ arr.size) (hone : ∀ u ∈ v.cells.toList, u.oneCell' = true) :
    (Instr.storeAt t (.pointer (some ⟨b, o, none⟩)) v).run P w = .ok () (w.setRow b (stored arr o v.cells.toList)) := by
  have hst := run_storeCells_at (P := P) b o T v.cells.toList 0 arr w hg (by simp; omega) hone
  simp only [Nat.add_zero] at hst
  simp [Instr.storeAt, Instr.sureAddr, storeVar, run_sizeOf hsz, hn, hst, stored]

theorem frame_setRow {b : Nat} {cs : Array Value} : (w.setRow b cs).heap.size = w.heap.size ∧ ∀ k, k ≠ b → (w.setRow b cs).heap[k]? = w.heap[k]? :=
  ⟨by simp, fun k hk => setRow_other w b k cs hk⟩

theorem rel_undef_one {vs : Array Value} {cs : List AV} (hn : vs.size = cs.length) (hone : ∀ (j : Nat) (av : AV), cs[j]? = some av → av.one = true)
    (hrel : ∀ (j : Nat) (av : AV), cs[j]? = some av → Rel G w ob av (vs.getD j undef)) : ∀ u ∈ vs.toList, u.oneCell' = true := by
  intro u hu
  obtain ⟨j, hj⟩ := List.getElem?_of_mem hu
  have hlt : j < cs.length := by
    rw [← hn]; rcases Nat.lt_or_ge j vs.size with h | h
    · exact h
    · rw [List.getElem?_eq_none (by simpa using h)] at hj; cases hj
  have h1 := hrel j cs[j] (List.getElem?_eq_getElem hlt)
  have h2 : vs.getD j undef = u := by simp at hj; simp [hj]
  rw [h2] at h1
  exact h1.one_cell (hone j _ (List.getElem?_eq_getElem hlt))

theorem ok_store {t : TypeId} {n : Nat} {ρ : Operand → Value} {e : AX → Option AV} {x y : Operand} {ax ay : AX} {p : Prop} {r : Res} {d : Nat}
    (hsz : szOf P t = some n)
    (hs : SimO G w ob m) (hx : cx x = some ax) (hy : cx y = some ay) (he : OpRel G w ob ρ e) (hv : eval (.store n ax ay) e m d = some (p, r)) (hp : p) :
    OpOk P G w ob m (do Instr.storeAt t (ρ x) (ρ y); pure .skip) r := by
  simp only [eval] at hv
  cases hax : e ax with
  | none => simp [hax] at hv
  | some a =>
    cases hay : e ay with
    | none => cases a <;> simp [hax, hay] at hv
    | some v =>
      have hr := he x ax a hx hax
      have hr2 := he y ay v hy hay
      rw [hax, hay] at hv
      cases a with
      | ptr id k o tot =>
        simp only at hv
        generalize ρ x = vx at hr
        cases hr with
        | ptr ad i h hle hvv =>
          cases hm : m id with
          | none => simp [hm] at hv
          | some obj =>
            have ho := hs.own id obj i hm h
            rw [hm] at hv
            cases obj with
            | box cs =>
              simp only at hv
              split at hv
              case isFalse => cases hv
              rename_i hc
              obtain ⟨hc1, hc2, hc3⟩ := hc
              simp only [Option.some.injEq, Prod.mk.injEq] at hv
              obtain ⟨rfl, rfl⟩ := hv
              obtain ⟨rfl, rfl⟩ := hp
              obtain ⟨hmap, h1, h2, b, arr, T, h3, h4, h5, h6⟩ := ho
              obtain ⟨b', h7, h8, _⟩ := hvv h1
              rw [h3] at h7; injection h7 with h7; subst h7
              simp only [Nat.zero_mul, Nat.zero_add] at h8
              subst h8
              have hnt : ∀ l, v ≠ .tup l := fun l hl => by subst hl; simp [AV.cells, AV.one] at hc3
              obtain ⟨g1, g2, g3⟩ := cells_rel hr2 hnt
              have hrun := run_storeAt (P := P) (v := ρ y) (o := o) hsz (by rw [g1, hc1]) h4 (by rw [h5]; exact hc2) (rel_undef_one g1 g2 g3)
              have hsize := stored_size arr o (ρ y).cells.toList (by simp [g1, hc1, h5]; exact hc2)
              have hnG : ¬ G b := hs.sep id _ i b hm rfl h h3
              have hhold : ∀ k, k ≠ b → (w.setRow b (stored arr o (ρ y).cells.toList)).heap[k]? = w.heap[k]? := fun k hk => setRow_other w b k _ hk
              have hGw : ∀ b', G b' → (w.setRow b (stored arr o (ρ y).cells.toList)).heap[b']? = w.heap[b']? := fun b' hG => hhold b' (fun e => hnG (e ▸ hG))
              have hup : upd ob id (some i) = ob := upd_self h
              have hob : OBext ob (upd ob id (some i)) := by rw [hup]; exact OBext.refl ob
              obtain ⟨s1, s2, s3⟩ := hs.update (w' := w.setRow b (stored arr o (ρ y).cells.toList)) id (.box (splice cs o v.cells)) i (by simp)
                (fun b' _ hne => hhold b' (fun e => hne i h (by rw [h3, e]))) (fun j hj => by rw [h] at hj; injection hj with hj; exact .inl hj)
                (fun b' hb' => .inl ⟨i, h, hb'⟩) (fun j hj b' hb' hG => hGw b' hG)
                ⟨hmap, h1, by rw [h2, length_splice _ _ _ (by omega)], b, _, T, h3, heap_setRow_same h4, by rw [hsize, h5, length_splice _ _ _ (by omega)], fun j av hj => by
                  rw [getElem?_splice _ _ _ _ (by omega)] at hj
                  rw [stored_get _ _ _ (by simp [g1, hc1, h5]; exact hc2)]
                  simp only [Array.length_toList, g1]
                  split at hj
                  · rename_i hq
                    rw [if_pos hq]
                    refine ⟨g2 _ av hj, (ρ y).cells.getD (j - o) undef, ?_, (g3 _ av hj).ext (fun _ h => h) hGw hob⟩
                    have hlt : j - o < (ρ y).cells.size := by rw [g1]; omega
                    simp [Array.getElem?_eq_getElem hlt]
                  · rename_i hq
                    rw [if_neg hq]
                    obtain ⟨h10, u, h11, h12⟩ := h6 j av hj
                    exact ⟨h10, u, h11, h12.ext (fun _ h => h) hGw hob⟩⟩
                (fun _ b' hb' => by rw [h3] at hb'; injection hb' with hb'; exact hb' ▸ hnG)
              refine ⟨G, w.setRow b (stored arr o (ρ y).cells.toList), _, undef, .inr ⟨by simp [hrun], rfl⟩, s1, (fun _ hh => by cases hh), s2, Fr.of_heap (by simp) (fun b' hb' hc => ?_) s3 rfl rfl rfl⟩
              refine hhold b' fun e => ?_
              subst e
              rcases hc with hc | hc
              · exact hnG hc
              · exact hc ⟨id, i, h, h3⟩
            | arr z s =>
              simp only at hv
              split at hv
              case h_2 => cases hv
              rename_i p1 cs' wr hfr
              simp only [Option.some.injEq, Prod.mk.injEq] at hv
              obtain ⟨rfl, rfl⟩ := hv
              obtain ⟨hp1, ht, hcl, hoz, hwr⟩ := hp
              have hnt : ∀ l, v ≠ .tup l := fun l hl => by subst hl; simp [AV.cells, freezeL, freezeCell, AV.pure] at hfr
              obtain ⟨g1, g2, g3⟩ := cells_rel hr2 hnt
              obtain ⟨G2, a1, a2, a3, a4, a5, a6⟩ := freezeL_ok v.cells cs' p1 wr (fun j => (ρ y).cells.getD j undef) G m hfr hp1 hs (Agree.refl m) g3
              have hm2 : wrm m wr id = some (.arr z s) := by
                have key : ∀ (l : List (Nat × AObj)) (f : Nat → Option AObj), (l.all fun x => x.1 != id) = true → wrm f l id = f id := by
                  intro l
                  induction l with
                  | nil => intro f _; rfl
                  | cons x l ih =>
                    intro f hl
                    simp only [List.all_cons, Bool.and_eq_true, bne_iff_ne, ne_eq] at hl
                    show wrm (upd f x.1 (some x.2)) l id = f id
                    rw [ih _ hl.2, upd_ne (fun e => hl.1 e.symm)]
                rw [key wr m hwr, hm]
              have ho2 := a1.own id _ i hm2 h
              obtain ⟨hmap, hz1, h1, h2, h3⟩ := ho2
              obtain ⟨b', h7, h8, h9⟩ := hvv (by rw [h1, ht])
              rcases h3 with ⟨h3, _⟩ | ⟨b, arr, T, h3, h4, h5, h6⟩
              · rw [h3] at h7; cases h7
              · rw [h3] at h7; injection h7 with h7; subst h7
                subst h8
                have hks : k < s.n := by omega
                have hcap : (k + 1) * i.esz ≤ i.cap * i.esz := Nat.mul_le_mul_right _ (by omega)
                have hfit : k * i.esz + o + n ≤ arr.size := by rw [h5]; rw [Nat.add_mul] at hcap; omega
                have hcn : (ρ y).cells.size = n := by rw [g1, ← a5, hcl]
                have hrun := run_storeAt (P := P) (v := ρ y) (o := k * i.esz + o) hsz hcn h4 hfit (rel_undef_one g1 g2 g3)
                have hsize := stored_size arr (k * i.esz + o) (ρ y).cells.toList (by simp [hcn]; exact hfit)
                have hnG : ¬ G2 b := a1.sep id _ i b hm2 rfl h h3
                have hhold : ∀ q, q ≠ b → (w.setRow b (stored arr (k * i.esz + o) (ρ y).cells.toList)).heap[q]? = w.heap[q]? := fun q hk => setRow_other w b q _ hk
                have hGw : ∀ b', G2 b' → (w.setRow b (stored arr (k * i.esz + o) (ρ y).cells.toList)).heap[b']? = w.heap[b']? := fun b' hG => hhold b' (fun e => hnG (e ▸ hG))
                have hup : upd ob id (some i) = ob := upd_self h
                have hob : OBext ob (upd ob id (some i)) := by rw [hup]; exact OBext.refl ob
                have hgk : (s.g k).length = i.esz := h6.1 k hks
                have hrow : InRow G2 (w.setRow b (stored arr (k * i.esz + o) (ρ y).cells.toList)) (upd ob id (some i)) (stored arr (k * i.esz + o) (ρ y).cells.toList) i.esz (s.set k (splice (s.g k) o cs')) := by
                  refine ⟨fun q hq => ?_, fun q j av hq hj => ?_⟩
                  · simp only [Sq.set]
                    split
                    · rw [length_splice _ _ _ (by omega), hgk]
                    · exact h6.1 q hq
                  · simp only [Sq.set] at hq hj
                    rw [stored_get _ _ _ (by simp [hcn]; exact hfit)]
                    simp only [Array.length_toList, hcn]
                    by_cases hqk : q = k
                    · subst hqk
                      rw [if_pos rfl, getElem?_splice _ _ _ _ (by omega)] at hj
                      split at hj
                      · rename_i hqq
                        obtain ⟨c1, c2⟩ := a6 _ av hj
                        rw [if_pos ⟨by omega, by omega⟩]
                        refine ⟨c1, (ρ y).cells.getD (j - o) undef, ?_, c2.ext (fun _ h => h) hGw hob⟩
                        have hlt : j - o < (ρ y).cells.size := by omega
                        have e1 : q * i.esz + j - (q * i.esz + o) = j - o := by omega
                        rw [e1]
                        simp [Array.getElem?_eq_getElem hlt]
                      · rename_i hqq
                        rw [if_neg (by omega)]
                        obtain ⟨c1, u, c2, c3⟩ := h6.2 q j av hq hj
                        exact ⟨c1, u, c2, c3.ext (fun _ h => h) hGw hob⟩
                    · rw [if_neg hqk] at hj
                      obtain ⟨c1, u, c2, c3⟩ := h6.2 q j av hq hj
                      have hjl : j < i.esz := by
                        rw [← h6.1 q hq]; rcases Nat.lt_or_ge j (s.g q).length with h | h
                        · exact h
                        · rw [List.getElem?_eq_none h] at hj; cases hj
                      have hout : ¬ (k * i.esz + o ≤ q * i.esz + j ∧ q * i.esz + j < k * i.esz + o + n) := by
                        rintro ⟨e1, e2⟩
                        rcases Nat.lt_or_ge q k with hlt | hge
                        · have : (q + 1) * i.esz ≤ k * i.esz := Nat.mul_le_mul_right _ hlt
                          rw [Nat.add_mul] at this; omega
                        · have : (k + 1) * i.esz ≤ q * i.esz := Nat.mul_le_mul_right _ (by omega)
                          rw [Nat.add_mul] at this; omega
                      rw [if_neg hout]
                      exact ⟨c1, u, c2, c3.ext (fun _ h => h) hGw hob⟩
                obtain ⟨s1, s2, s3⟩ := a1.update (w' := w.setRow b (stored arr (k * i.esz + o) (ρ y).cells.toList)) id (.arr z (s.set k (splice (s.g k) o cs'))) i (by simp)
                  (fun b' _ hne => hhold b' (fun e => hne i h (by rw [h3, e]))) (fun j hj => by rw [h] at hj; injection hj with hj; exact .inl hj)
                  (fun b' hb' => .inl ⟨i, h, hb'⟩) (fun j hj b' hb' hG => hGw b' hG)
                  ⟨hmap, hz1, h1, h2, .inr ⟨b, _, T, h3, heap_setRow_same h4, by rw [hsize, h5], hrow⟩⟩
                  (fun _ b' hb' => by rw [h3] at hb'; injection hb' with hb'; exact hb' ▸ hnG)
                refine OpOk.after (r := ⟨none, [(id, .arr z (s.set k (splice (s.g k) o cs')))]⟩) (m' := wrm m wr) a3 a4 rfl
                  ⟨G2, w.setRow b (stored arr (k * i.esz + o) (ρ y).cells.toList), _, undef, .inr ⟨by simp [hrun], rfl⟩, s1, (fun _ hh => by cases hh), s2, Fr.of_heap (by simp) (fun b' hb' hc => ?_) s3 rfl rfl rfl⟩
                refine hhold b' fun e => ?_
                subst e
                rcases hc with hc | hc
                · exact hnG hc
                · exact hc ⟨id, i, h, h3⟩
            | _ => simp at hv
      | _ => simp at hv
end
end Go.Abs
