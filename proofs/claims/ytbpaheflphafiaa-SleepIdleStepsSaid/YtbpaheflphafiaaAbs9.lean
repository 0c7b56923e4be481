/- The abstract layer, part 9: make, arrays through a pointer, maps, parts of slices. -/
import Derived.Test.YtbpaheflphafiaaAbs8
import Derived.ChangeKeysEq
set_option linter.unusedSimpArgs false
set_option linter.unusedVariables false
set_option linter.unnecessarySimpa false
namespace Go.Abs
section
variable {P : Program} {G : Nat → Prop} {w : World} {ob : Place} {m : Nat → Option AObj}

theorem ok_arr_cap {s : Sem Next} {id esz len cap : Nat} {g : Nat → List AV} {vs : Array Value} {T : TypeId} (hs : SimO G w ob m) (hid : m id = none) (hlc : len ≤ cap)
    (hn : vs.size = cap * esz) (hlen : ∀ k, k < len → (g k).length = esz)
    (hrel : ∀ (k j : Nat) (av : AV), k < len → (g k)[j]? = some av → av.pure = true ∧ ∃ u, vs[k * esz + j]? = some u ∧ Rel G w ob av u)
    (h : s.run P w = .ok (.value (.slice (some ⟨w.heap.size, 0, none⟩) len cap)) (w.alloc (.cells vs T))) : OpOk P G w ob m s ⟨some (.sl id 0 len len), [(id, .arr esz ⟨len, g⟩)]⟩ := by
  have hno : ob id = none := (hs.dom id).1 hid
  have hext : OBext ob (upd ob id (some ⟨some w.heap.size, esz, len, cap, false⟩)) := fun x j hj => by
    have hx : x ≠ id := fun e => by subst e; rw [hno] at hj; cases hj
    exact ⟨j, by rw [upd_ne hx]; exact hj, .inl rfl⟩
  have hGw : ∀ b, G b → (w.alloc (.cells vs T)).heap[b]? = w.heap[b]? := fun b hG => heap_alloc_old _ _ _ (hs.lt b hG)
  refine OpOk.new (w0 := w) (i := ⟨some w.heap.size, esz, len, cap, false⟩) hs hid rfl rfl rfl rfl h (fun b hb => by simpa using hb.symm) ?_ ?_
  · refine ⟨rfl, rfl, rfl, hlc, .inr ⟨w.heap.size, vs, T, rfl, heap_alloc_new _ _, hn, hlen, fun k j av hk hj => ?_⟩⟩
    obtain ⟨h1, u, h2, h3⟩ := hrel k j av hk hj
    exact ⟨h1, u, h2, h3.ext (fun _ h => h) hGw hext⟩
  · refine .sl ⟨some w.heap.size, esz, len, cap, false⟩ (by simp) (Nat.le_refl _) ⟨_, _, rfl⟩ fun _ => ⟨by simp, fun h => by simp at h, fun b hb => ?_⟩
    simp only [Option.some.injEq] at hb
    subst hb
    exact ⟨0, cap, rfl, hlc, fun _ => by simp, fun _ => ⟨rfl, rfl⟩⟩

theorem made_get (z : Array Value) (n q : Nat) (hq : q < n) (hz : 0 < z.size) : (madeCells z n)[q]? = z[q % z.size]? := by
  have hlt := Nat.mod_lt q hz
  simp only [madeCells, Array.getElem?_map, Array.getElem?_range, hq, if_true, Option.map_some]
  rw [getElem!_pos z (q % z.size) hlt, Array.getElem?_eq_getElem hlt]

theorem ok_mkslice {t el : TypeId} {i : TypeInfo} {z : Value} {esz bytes : Nat} {ρ : Operand → Value} {e : AX → Option AV} {x y : Operand} {ax ay : AX} {p : Prop} {r : Res} {d : Nat}
    (ht : P.underlying t = some (.slice el)) (hi : P.info? el = some i) (hz : i.zero = some z) (hsize : i.size = esz) (hby : i.bytes = bytes) (hzs : z.cells.size = esz) (hone : z.cells.all Value.oneCell' = true)
    (hs : SimO G w ob m) (hx : cx x = some ax) (hy : cx y = some ay) (he : OpRel G w ob ρ e) (hv : eval (.mkslice esz bytes z.cells.toList ax ay) e m d = some (p, r)) (hp : p) :
    OpOk P G w ob m (do pure (.value (← Instr.makeSlice t (ρ x) (ρ y)))) r := by
  subst hsize; subst hby
  simp only [eval] at hv
  split at hv
  case h_2 => cases hv
  rename_i k1 l k2 c hm hax hay
  simp only [Option.some.injEq, Prod.mk.injEq] at hv
  obtain ⟨rfl, rfl⟩ := hv
  obtain ⟨h0, hlc, hb, h63⟩ := hp
  rw [(he x ax _ hx hax).sc_eq, (he y ay _ hy hay).sc_eq]
  have hr := run_make (P := P) w t el i z ht hi hz k1 k2 l c h0 hlc hb h63
  refine ok_arr_cap (cap := c.toNat) (vs := madeCells z.cells (c.toNat * i.size)) (T := el) hs hm (by omega) (size_madeCells _ _) (fun k hk => by simp [hzs]) (fun k j av hk hj => ?_) (by simp [hr])
  rw [List.getElem?_map, Option.map_eq_some_iff] at hj
  obtain ⟨u, hu, rfl⟩ := hj
  have hu' : z.cells[j]? = some u := by simpa using hu
  have hjl : j < i.size := by
    rw [← hzs]; rcases Nat.lt_or_ge j z.cells.size with h | h
    · exact h
    · rw [Array.getElem?_eq_none h] at hu'; cases hu'
  refine ⟨rfl, u, ?_, .sc (Array.all_eq_true'.1 hone u (Array.mem_of_getElem? hu'))⟩
  rw [made_get _ _ _ (idx_lt (by omega) hjl) (by omega), hzs, Nat.mul_comm, Nat.mul_add_mod, Nat.mod_eq_of_lt hjl]
  exact hu'

theorem ok_aaddr {t el : TypeId} {len esz : Nat} {ρ : Operand → Value} {e : AX → Option AV} {x y : Operand} {ax ay : AX} {p : Prop} {r : Res} {d : Nat}
    (ht : P.underlying t = some (.array len el)) (hz : szOf P el = some esz)
    (hs : SimO G w ob m) (hx : cx x = some ax) (hy : cx y = some ay) (he : OpRel G w ob ρ e) (hv : eval (.aaddr len esz ax ay) e m d = some (p, r)) (hp : p) :
    OpOk P G w ob m (do pure (.value (← Instr.indexAt t (ρ x) (ρ y)))) r := by
  have key : ∀ (a : Addr) (k : IntKind) (j : Int), 0 ≤ j → j < len → (Instr.indexAt t (.pointer (some a)) (.int k j)).run P w = .ok (.pointer (some (a.add (j.toNat * esz)))) w := fun a k j h0 h1 => by
    simp [Instr.indexAt, run_asIntOf, run_underlying ht, h0, h1, run_sizeOf hz, Instr.sureAddr]
  simp only [eval] at hv
  split at hv
  · rename_i cs k j hax hay
    simp only [Option.some.injEq, Prod.mk.injEq] at hv
    obtain ⟨rfl, rfl⟩ := hv
    obtain ⟨h0, h1⟩ := hp
    have hr := he x ax _ hx hax
    rw [(he y ay _ hy hay).sc_eq]
    generalize ρ x = v at hr
    cases hr with
    | fptr b o c hG hpp hc hrr =>
      refine OpOk.quiet hs (v := .pointer (some ⟨b, o + j.toNat * esz, none⟩)) (by simp [key _ _ _ h0 h1, addr_add]) ?_
      refine .fptr b _ (fun q => c (j.toNat * esz + q)) hG (fun q av hq => hpp _ av (getElem?_drop_lt hq)) (fun q hq => ?_) (fun q av hq => hrr _ av (getElem?_drop_lt hq))
      rw [Nat.add_assoc]
      exact hc _ (by rw [List.length_drop] at hq; omega)
  · rename_i id k o tot k' j hax hay
    simp only [Option.some.injEq, Prod.mk.injEq] at hv
    obtain ⟨rfl, rfl⟩ := hv
    obtain ⟨h0, h1⟩ := hp
    have hr := he x ax _ hx hax
    rw [(he y ay _ hy hay).sc_eq]
    generalize ρ x = v at hr
    cases hr with
    | ptr a i h hle hvv =>
      refine OpOk.quiet hs (v := .pointer (some (a.add (j.toNat * esz)))) (by simp [key _ _ _ h0 h1]) ?_
      refine .ptr _ i h hle fun hl => ?_
      obtain ⟨b, h2, rfl, h3⟩ := hvv hl
      exact ⟨b, h2, by rw [addr_add, Nat.add_assoc], h3⟩
  · cases hv

/-! ### maps with integer keys -/

theorem ok_mkmap {t : TypeId} {k : IntKind} {e : AX → Option AV} {p : Prop} {r : Res} {d : Nat}
    (hs : SimO G w ob m) (hv : eval (.mkmap k) e m d = some (p, r)) : OpOk P G w ob m (do pure (.value (← Instr.makeMap t none))) r := by
  simp only [eval] at hv
  cases hm : m (nid d) with
  | some o => simp [hm] at hv
  | none =>
    simp only [hm, Option.some.injEq, Prod.mk.injEq] at hv
    obtain ⟨_, rfl⟩ := hv
    refine OpOk.new (w0 := w) (x := .map #[] 0) (i := ⟨some w.heap.size, 0, 0, 0, true⟩) hs hm rfl rfl rfl rfl (v := .map (some w.heap.size)) ?_ (fun b hb => by simpa using hb.symm) ?_ ?_
    · simp [Instr.makeMap]
    · exact ⟨rfl, w.heap.size, #[], 0, rfl, heap_alloc_new _ _, rfl, fun j z av h => by simp at h⟩
    · exact .mp _ ⟨some w.heap.size, 0, 0, 0, true⟩ (by simp) rfl rfl

theorem findNow_int {k kk : IntKind} {z : Int} : ∀ (es : List (Int × AV)) (ents : List MapEntry) (q : Nat), ents.length = es.length →
    (∀ (j : Nat) (z' : Int) (av : AV), es[j]? = some (z', av) → ∃ (x : MapEntry), ents[j]? = some x ∧ x.key = .int k z') →
    Instr.findNow (.int kk) (.int k z) ents q = some ((es.findIdx? (fun x => z == x.1)).bind fun j => (ents[j]?).map fun x => (q + j, x.val))
  | [], [], q, _, _ => by simp [Instr.findNow]
  | [], _ :: _, q, h, _ => by simp at h
  | _ :: _, [], q, h, _ => by simp at h
  | (z', av) :: es, x :: ents, q, h, hk => by
    obtain ⟨x', h1, h2⟩ := hk 0 z' av (by simp)
    simp only [List.getElem?_cons_zero, Option.some.injEq] at h1
    subst h1
    have ih := findNow_int (kk := kk) (z := z) es ents (q + 1) (by simpa using h) (fun j z' av hj => by
      obtain ⟨y, h3, h4⟩ := hk (j + 1) z' av (by simpa using hj)
      exact ⟨y, by simpa using h3, h4⟩)
    simp only [Instr.findNow, h2, Instr.sameNow, if_true, List.findIdx?_cons]
    by_cases hz : (z == z') = true
    · simp [hz]
    · have hz' : (z == z') = false := by simpa using hz
      simp only [hz', ih, Bool.false_eq_true, if_false]
      cases es.findIdx? (fun x => z == x.1) with
      | none => rfl
      | some j => simp [Nat.add_assoc, Nat.add_comm 1 j]

theorem mget_idx : ∀ (es : List (Int × AV)) (z : Int), mget es z = (es.findIdx? (fun x => z == x.1)).bind fun j => (es[j]?).map (·.2)
  | [], z => rfl
  | (z', av) :: es, z => by
    simp only [mget, List.findIdx?_cons, mget_idx es z]
    split
    · simp
    · cases es.findIdx? (fun x => z == x.1) <;> simp

theorem flat_const {v : Value} (h : v.cells.all Value.oneCell' = true) (hv : ∀ vs, v ≠ .tuple vs) : Rel G w ob (zeroAV v) v := by
  cases v with
  | agg cs =>
    have := arr_rel (G := G) (w := w) (ob := ob) (Z := cs) h
    exact .agg cs this.1 this.2.1 this.2.2
  | tuple vs => exact absurd rfl (hv vs)
  | _ => exact .sc rfl

theorem run_checkKey_int {kt : TypeId} {k : IntKind} {b : Bool} {n : Nat} {z : Int} {k' : IntKind} (hk : P.underlying kt = some (.int k)) : (Instr.checkKey b (n + 1) kt (.int k' z)).run P w = .ok () w := by
  simp [Instr.checkKey, run_underlying hk]

theorem ok_lookup {t kt el : TypeId} {k : IntKind} {zero : Value} {ok : Bool} {ρ : Operand → Value} {e : AX → Option AV} {x y : Operand} {ax ay : AX} {p : Prop} {r : Res} {d : Nat}
    (ht : P.underlying t = some (.map kt el)) (hk : P.underlying kt = some (.int k)) (hz : (P.info? el).bind (·.zero) = some zero)
    (hone : zero.cells.all Value.oneCell' = true) (hnt : ∀ vs, zero ≠ .tuple vs)
    (hs : SimO G w ob m) (hx : cx x = some ax) (hy : cx y = some ay) (he : OpRel G w ob ρ e) (hv : eval (.lookup k zero ok ax ay) e m d = some (p, r)) :
    OpOk P G w ob m (do pure (.value (← Instr.lookup t (ρ x) (ρ y) ok))) r := by
  simp only [eval] at hv
  split at hv
  case h_2 => cases hv
  rename_i id k' z hax hay
  have hr := he x ax _ hx hax
  rw [(he y ay _ hy hay).sc_eq]
  split at hv
  case h_2 => cases hv
  rename_i k'' es hm
  split at hv
  case isFalse => cases hv
  rename_i hkk
  obtain ⟨rfl, rfl⟩ := hkk
  simp only [Option.some.injEq, Prod.mk.injEq] at hv
  obtain ⟨_, rfl⟩ := hv
  generalize ρ x = v at hr
  cases hr with
  | mp b i h hb hmap =>
    obtain ⟨_, b', ents, clock, h1, h2, h3, h4⟩ := hs.own id _ i hm h
    rw [hb] at h1; injection h1 with h1; subst h1
    have hfn := findNow_int (k := k) (kk := k) (z := z) es ents.toList 0 (by simpa using h3) (fun j z' av hj => by obtain ⟨_, x, h5, h6, _⟩ := h4 j z' av hj; exact ⟨x, by simpa using h5, h6⟩)
    have hck : (Instr.checkKey ents.isEmpty 10000 kt (.int k z)).run P w = .ok () w := run_checkKey_int hk
    -- what the lookup finds
    have found : ∃ u fnd, (Instr.lookup t (.map (some b)) (.int k z) ok).run P w = .ok (if ok then .tuple #[u, .bool fnd] else u) w ∧ fnd = (mget es z).isSome ∧
        Rel G w ob ((mget es z).getD (zeroAV zero)) u := by
      rw [mget_idx]
      have hget : (getObj b).run P w = .ok (.map ents clock) w := by simp [getObj, Sem.run, h2]
      cases hfi : es.findIdx? (fun x => z == x.1) with
      | none =>
        rw [hfi] at hfn
        refine ⟨zero, false, ?_, rfl, flat_const hone hnt⟩
        have hfk : (Instr.findKey kt (.int k z) ents.toList).run P w = .ok none w := by
          simp only [Option.bind_none] at hfn
          simp [Instr.findKey, run_underlying hk, hfn]
        cases ok <;> simp only [Instr.lookup, Sem.run_bind, run_underlying ht, Result.andThen_ok, hget, Sem.run_pure, hck, hfk, run_zeroValue hz, Bool.false_eq_true, if_false, if_true]
      | some j =>
        have hj : j < es.length := by
          have := List.findIdx?_eq_some_iff_findIdx_eq.1 hfi; exact this.1
        obtain ⟨hfl, x, h5, h6, h7⟩ := h4 j es[j].1 es[j].2 (by simp [List.getElem?_eq_getElem hj])
        have h5' : ents.toList[j]? = some x := by simpa using h5
        rw [hfi] at hfn
        simp only [Option.bind_some, h5', Option.map_some, Nat.zero_add] at hfn
        refine ⟨x.val, true, ?_, by simp [List.getElem?_eq_getElem hj], by simpa [List.getElem?_eq_getElem hj] using h7⟩
        have hfk : (Instr.findKey kt (.int k z) ents.toList).run P w = .ok (some (j, x.val)) w := by
          simp [Instr.findKey, run_underlying hk, hfn]
        cases ok <;> simp only [Instr.lookup, Sem.run_bind, run_underlying ht, Result.andThen_ok, hget, Sem.run_pure, hck, hfk, Bool.false_eq_true, if_false, if_true]
    obtain ⟨u, fnd, hrun, rfl, hrel⟩ := found
    cases ok with
    | false => exact OpOk.quiet hs (v := u) (by simp [hrun]) (by simpa using hrel)
    | true =>
      refine OpOk.quiet hs (v := .tuple #[u, .bool (mget es z).isSome]) (by simp [hrun]) ?_
      simp only [if_true]
      refine .tup _ rfl fun j av hj => ?_
      cases j with
      | zero => simp only [List.getElem?_cons_zero, Option.some.injEq] at hj; subst hj; exact hrel
      | succ j => cases j with
        | zero => simp only [List.getElem?_cons_succ, List.getElem?_cons_zero, Option.some.injEq] at hj; subst hj; exact .sc rfl
        | succ j => simp at hj

theorem mput_get : ∀ (es : List (Int × AV)) (z : Int) (v : AV), mput es z v = match es.findIdx? (fun x => z == x.1) with
    | some j => es.modify j (fun x => (x.1, v))
    | none => es ++ [(z, v)]
  | [], z, v => rfl
  | (z', u) :: es, z, v => by
    simp only [mput, List.findIdx?_cons, mput_get es z v]
    split
    · simp
    · cases es.findIdx? (fun x => z == x.1) <;> simp

theorem ok_mset {t kt el : TypeId} {k : IntKind} {ρ : Operand → Value} {e : AX → Option AV} {x y u : Operand} {ax ay au : AX} {p : Prop} {r : Res} {d : Nat}
    (ht : P.underlying t = some (.map kt el)) (hk : P.underlying kt = some (.int k))
    (hs : SimO G w ob m) (hx : cx x = some ax) (hy : cx y = some ay) (hu : cx u = some au) (he : OpRel G w ob ρ e) (hv : eval (.mset k ax ay au) e m d = some (p, r)) :
    OpOk P G w ob m (do Instr.mapUpdate t (ρ x) (ρ y) (ρ u); pure .skip) r := by
  simp only [eval] at hv
  split at hv
  case h_2 => cases hv
  rename_i id k' z av hax hay hau
  have hr := he x ax _ hx hax
  have hru := he u au _ hu hau
  rw [(he y ay _ hy hay).sc_eq]
  split at hv
  case h_2 => cases hv
  rename_i k'' es hm
  split at hv
  case isFalse => cases hv
  rename_i hkk
  obtain ⟨rfl, rfl, hflat⟩ := hkk
  simp only [Option.some.injEq, Prod.mk.injEq] at hv
  obtain ⟨_, rfl⟩ := hv
  generalize ρ x = v at hr
  generalize ρ u = vu at hru
  cases hr with
  | mp b i h hb hmap =>
    obtain ⟨hmp, b', ents, clock, h1, h2, h3, h4⟩ := hs.own id _ i hm h
    rw [hb] at h1; injection h1 with h1; subst h1
    have hfn := findNow_int (k := k) (kk := k) (z := z) es ents.toList 0 (by simpa using h3) (fun j z' av hj => by obtain ⟨_, x, h5, h6, _⟩ := h4 j z' av hj; exact ⟨x, by simpa using h5, h6⟩)
    have hck : (Instr.checkKey false 10000 kt (.int k z)).run P w = .ok () w := run_checkKey_int hk
    have hget : (getObj b).run P w = .ok (.map ents clock) w := by simp [getObj, Sem.run, h2]
    have hblt : b < w.heap.size := by
      rcases Nat.lt_or_ge b w.heap.size with h | h
      · exact h
      · rw [Array.getElem?_eq_none h] at h2; cases h2
    have hsetO : ∀ o, (setObj b o).run P w = .ok () { w with heap := w.heap.setIfInBounds b o } := fun o => by simp [setObj, Sem.run, h2]
    have hnG : ¬ G b := hs.sep id _ i b hm rfl h hb
    -- the common end
    have fin : ∀ (ents' : Array MapEntry) (clock' : Nat), (Instr.mapUpdate t (.map (some b)) (.int k z) vu).run P w = .ok () { w with heap := w.heap.setIfInBounds b (.map ents' clock') } →
        ents'.size = (mput es z av).length → (∀ (j : Nat) (z' : Int) (a : AV), (mput es z av)[j]? = some (z', a) → a.flat = true ∧ ∃ (x : MapEntry), ents'[j]? = some x ∧ x.key = .int k z' ∧ Rel G w ob a x.val) →
        OpOk P G w ob m (do Instr.mapUpdate t (.map (some b)) (.int k z) vu; pure .skip) ⟨none, [(id, .map k (mput es z av))]⟩ := by
      intro ents' clock' hrun hlen hents
      have hhold : ∀ q, q ≠ b → ({ w with heap := w.heap.setIfInBounds b (.map ents' clock') } : World).heap[q]? = w.heap[q]? := fun q hq => Array.getElem?_setIfInBounds_ne (Ne.symm hq)
      have hGw : ∀ q, G q → ({ w with heap := w.heap.setIfInBounds b (.map ents' clock') } : World).heap[q]? = w.heap[q]? := fun q hG => hhold q (fun e => hnG (e ▸ hG))
      have hup : upd ob id (some i) = ob := upd_self h
      obtain ⟨s1, s2, s3⟩ := hs.update (w' := { w with heap := w.heap.setIfInBounds b (.map ents' clock') }) id (.map k (mput es z av)) i (by simp)
        (fun q _ hne => hhold q (fun e => hne i h (by rw [hb, e]))) (fun j hj => by rw [h] at hj; injection hj with hj; exact .inl hj)
        (fun q hq => .inl ⟨i, h, hq⟩) (fun j hj q hq hG => hGw q hG)
        ⟨hmp, b, ents', clock', hb, by simp [hblt], hlen, fun j z' a hj => by
          obtain ⟨c1, x, c2, c3, c4⟩ := hents j z' a hj
          exact ⟨c1, x, c2, c3, c4.ext (fun _ h => h) hGw (by rw [hup]; exact OBext.refl ob)⟩⟩
        (fun _ q hq => by rw [hb] at hq; injection hq with hq; exact hq ▸ hnG)
      refine ⟨G, { w with heap := w.heap.setIfInBounds b (.map ents' clock') }, _, undef, .inr ⟨by simp [hrun], rfl⟩, s1, (fun _ hh => by cases hh), s2, Fr.of_heap (by simp) (fun q hq hc => ?_) s3 rfl rfl rfl⟩
      refine hhold q fun e => ?_
      subst e
      rcases hc with hc | hc
      · exact hnG hc
      · exact hc ⟨id, i, h, hb⟩
    cases hfi : es.findIdx? (fun x => z == x.1) with
    | none =>
      rw [hfi] at hfn
      simp only [Option.bind_none] at hfn
      have hfk : (Instr.findKey kt (.int k z) ents.toList).run P w = .ok none w := by simp [Instr.findKey, run_underlying hk, hfn]
      have hmp' : mput es z av = es ++ [(z, av)] := by rw [mput_get, hfi]
      refine fin (ents.push { key := .int k z, val := vu, born := clock }) (clock + 1) ?_ (by simp [hmp', h3]) (fun j z' a hj => ?_)
      · simp [Instr.mapUpdate, run_underlying ht, hget, hck, hfk, hsetO]
      · rw [hmp'] at hj
        by_cases hjl : j < es.length
        · rw [List.getElem?_append_left hjl] at hj
          obtain ⟨c1, x, c2, c3, c4⟩ := h4 j z' a hj
          exact ⟨c1, x, by rw [Array.getElem?_push, if_neg (by omega)]; exact c2, c3, c4⟩
        · rw [List.getElem?_append_right (by omega)] at hj
          have hje : j = es.length := by
            rcases Nat.lt_or_ge (j - es.length) 1 with h | h
            · omega
            · rw [List.getElem?_eq_none (by simpa using h)] at hj; cases hj
          subst hje
          simp only [Nat.sub_self, List.getElem?_cons_zero, Option.some.injEq, Prod.mk.injEq] at hj
          obtain ⟨rfl, rfl⟩ := hj
          exact ⟨hflat, _, by rw [Array.getElem?_push, if_pos h3.symm], rfl, hru⟩
    | some j =>
      have hj := List.findIdx?_eq_some_iff_findIdx_eq.1 hfi
      have hjl : j < es.length := hj.1
      have hzj : (z == es[j].1) = true := by
        have h1 := hj.2
        have h2 : List.findIdx (fun x : Int × AV => z == x.1) es < es.length := by rw [h1]; exact hjl
        have := List.findIdx_getElem (w := h2)
        simpa only [h1] using this
      obtain ⟨hfl, x, h5, h6, h7⟩ := h4 j es[j].1 es[j].2 (by simp [List.getElem?_eq_getElem hjl])
      have h5' : ents.toList[j]? = some x := by simpa using h5
      rw [hfi] at hfn
      simp only [Option.bind_some, h5', Option.map_some, Nat.zero_add] at hfn
      have hfk : (Instr.findKey kt (.int k z) ents.toList).run P w = .ok (some (j, x.val)) w := by simp [Instr.findKey, run_underlying hk, hfn]
      have hkey : x.key = .int k z := by rw [h6]; simp only [beq_iff_eq] at hzj; rw [hzj]
      have hstay : (Instr.keyThatStays (((ents[j]?).map (·.key)).getD (.int k z)) (.int k z)).run P w = .ok (.int k z) w := by
        simp [Instr.keyThatStays, h5, hkey, Instr.sameBits]
      have hmp' : mput es z av = es.modify j (fun x => (x.1, av)) := by rw [mput_get, hfi]
      refine fin (ents.modify j fun e => { e with key := .int k z, val := vu }) clock ?_ (by simp [hmp', h3]) (fun q z' a hq => ?_)
      · simp [Instr.mapUpdate, run_underlying ht, hget, hck, hfk, hsetO, hstay]
      · rw [hmp'] at hq
        rw [List.getElem?_modify] at hq
        rw [Array.getElem?_modify]
        by_cases hqj : j = q
        · subst hqj
          simp only [if_true, List.getElem?_eq_getElem hjl, Option.map_some, Option.some.injEq, Prod.mk.injEq] at hq
          obtain ⟨rfl, rfl⟩ := hq
          refine ⟨hflat, _, by rw [if_pos rfl, h5]; rfl, ?_, hru⟩
          simp only [beq_iff_eq] at hzj
          simp [hzj]
        · rw [if_neg hqj]
          simp only [hqj, if_false, Option.map_id_fun', id_eq, Option.map_eq_map, Option.map_id'] at hq
          exact h4 q z' a hq
end

/-! ### == and != of structs of integers and bools -/

def eqShapeF (P : Program) (S : TypeId → Option (List Bool)) : List Field → Nat → Option (List Bool)
  | [], _ => some []
  | f :: fs, off => match S f.type with
    | some sh => if f.name ≠ "_" ∧ f.offset = off ∧ szOf P f.type = some sh.length then (match eqShapeF P S fs (off + sh.length) with
      | some r => some (sh ++ r)
      | none => none) else none
    | none => none

def eqShape (P : Program) : Nat → TypeId → Option (List Bool)
  | 0, _ => none
  | d + 1, t => match P.underlying t with
    | some (.int _) => some [true]
    | some .bool => some [false]
    | some (.struct fs) => if P.stoodInHeld t then none else eqShapeF P (eqShape P d) fs.toList 0
    | some (.array n el) => match eqShape P d el with
      | some sh => if P.cellsOf el = sh.length ∧ szOf P el = some sh.length then some (List.replicate n sh).flatten else none
      | none => none
    | _ => none

def eqaShape (P : Program) (op : BinOp) (t : TypeId) : Option (List Bool) :=
  match op with
  | .eql | .neq => match P.underlying t with
    | some (.struct _) | some (.array _ _) => if P.eqGuardType P.depth t then none else eqShape P 100 t
    | _ => none
  | _ => none

def isNeq : BinOp → Bool
  | .neq => true
  | _ => false

def eqV : List Bool → List Value → List Value → Option Bool
  | [], [], [] => some true
  | true :: s, .int k a :: xs, .int k' b :: ys => if k = k' then (eqV s xs ys).map fun r => (a == b) && r else none
  | false :: s, .bool a :: xs, .bool b :: ys => (eqV s xs ys).map fun r => (a == b) && r
  | _, _, _ => none

section
variable {P : Program} {G : Nat → Prop} {w : World} {ob : Place} {m : Nat → Option AObj}

theorem eqV_of : ∀ (sh : List Bool) (cs ds : List AV) (xs ys : List Value) (r : Bool), eqCells sh cs ds = some r → xs.length = cs.length → ys.length = ds.length →
    (∀ (j : Nat) (av : AV), cs[j]? = some av → Rel G w ob av (xs.getD j undef)) → (∀ (j : Nat) (av : AV), ds[j]? = some av → Rel G w ob av (ys.getD j undef)) → eqV sh xs ys = some r
  | [], [], [], [], [], r, h, _, _, _, _ => by simpa [eqCells, eqV] using h
  | true :: sh, .sc (.int k a) :: cs, .sc (.int k' b) :: ds, x :: xs, y :: ys, r, h, h1, h2, h3, h4 => by
    have hx : x = .int k a := (h3 0 _ rfl).sc_eq
    have hy : y = .int k' b := (h4 0 _ rfl).sc_eq
    subst hx; subst hy
    simp only [eqCells] at h
    simp only [eqV]
    split at h
    · rename_i e; rw [if_pos e]
      simp only [Option.map_eq_some_iff] at h ⊢
      obtain ⟨r', hr', rfl⟩ := h
      exact ⟨r', eqV_of sh cs ds xs ys r' hr' (by simpa using h1) (by simpa using h2) (fun j av hj => h3 (j + 1) av (by simpa using hj)) (fun j av hj => h4 (j + 1) av (by simpa using hj)), rfl⟩
    · cases h
  | false :: sh, .sc (.bool a) :: cs, .sc (.bool b) :: ds, x :: xs, y :: ys, r, h, h1, h2, h3, h4 => by
    have hx : x = .bool a := (h3 0 _ rfl).sc_eq
    have hy : y = .bool b := (h4 0 _ rfl).sc_eq
    subst hx; subst hy
    simp only [eqCells, Option.map_eq_some_iff] at h
    simp only [eqV, Option.map_eq_some_iff]
    obtain ⟨r', hr', rfl⟩ := h
    exact ⟨r', eqV_of sh cs ds xs ys r' hr' (by simpa using h1) (by simpa using h2) (fun j av hj => h3 (j + 1) av (by simpa using hj)) (fun j av hj => h4 (j + 1) av (by simpa using hj)), rfl⟩
  | _, [], _, _ :: _, _, _, _, h1, _, _, _ => by simp at h1
  | _, _ :: _, _, [], _, _, _, h1, _, _, _ => by simp at h1
  | _, _, [], _, _ :: _, _, _, _, h2, _, _ => by simp at h2
  | _, _, _ :: _, _, [], _, _, _, h2, _, _ => by simp at h2

theorem eqV_length : ∀ {sh : List Bool} {xs ys : List Value} {r : Bool}, eqV sh xs ys = some r → xs.length = sh.length ∧ ys.length = sh.length
  | [], [], [], _, _ => ⟨rfl, rfl⟩
  | true :: sh, .int k a :: xs, .int k' b :: ys, r, h => by
    simp only [eqV] at h
    split at h
    · simp only [Option.map_eq_some_iff] at h
      obtain ⟨r', hr', _⟩ := h
      obtain ⟨h1, h2⟩ := eqV_length hr'
      exact ⟨by simp [h1], by simp [h2]⟩
    · cases h
  | false :: sh, .bool a :: xs, .bool b :: ys, r, h => by
    simp only [eqV, Option.map_eq_some_iff] at h
    obtain ⟨r', hr', _⟩ := h
    obtain ⟨h1, h2⟩ := eqV_length hr'
    exact ⟨by simp [h1], by simp [h2]⟩

theorem eqV_append : ∀ (s1 s2 : List Bool) (xs ys : List Value) (r : Bool), eqV (s1 ++ s2) xs ys = some r →
    ∃ r1 r2, eqV s1 (xs.take s1.length) (ys.take s1.length) = some r1 ∧ eqV s2 (xs.drop s1.length) (ys.drop s1.length) = some r2 ∧ r = (r1 && r2)
  | [], s2, xs, ys, r, h => ⟨true, r, rfl, by simpa using h, by simp⟩
  | true :: s1, s2, .int k a :: xs, .int k' b :: ys, r, h => by
    simp only [List.cons_append, eqV] at h
    split at h
    · rename_i e
      simp only [Option.map_eq_some_iff] at h
      obtain ⟨r', hr', rfl⟩ := h
      obtain ⟨r1, r2, g1, g2, rfl⟩ := eqV_append s1 s2 xs ys r' hr'
      exact ⟨(a == b) && r1, r2, by simp [eqV, e, g1], by simpa using g2, by rw [Bool.and_assoc]⟩
    · cases h
  | false :: s1, s2, .bool a :: xs, .bool b :: ys, r, h => by
    simp only [List.cons_append, eqV, Option.map_eq_some_iff] at h
    obtain ⟨r', hr', rfl⟩ := h
    obtain ⟨r1, r2, g1, g2, rfl⟩ := eqV_append s1 s2 xs ys r' hr'
    exact ⟨(a == b) && r1, r2, by simp [eqV, g1], by simpa using g2, by rw [Bool.and_assoc]⟩

/-- the comparison at a type, given the comparison's depth -/
def EqAtT (P : Program) (w : World) (D : Nat) (t : TypeId) (sh : List Bool) : Prop :=
  ∀ (xs ys : List Value) (r : Bool), eqV sh xs ys = some r →
    (isAggB P t = some false ∧ ∃ v u, xs = [v] ∧ ys = [u] ∧ (Op.equalIn D t v u).run P w = .ok r w) ∨
    (isAggB P t = some true ∧ (Op.equalIn D t (.agg xs.toArray) (.agg ys.toArray)).run P w = .ok r w)

theorem part_eq {D : Nat} {t : TypeId} {s1 : List Bool} {r1 : Bool} (h : EqAtT P w D t s1) (hsz : szOf P t = some s1.length) (xs ys : Array Value) (off : Nat)
    (g1 : eqV s1 ((xs.toList.drop off).take s1.length) ((ys.toList.drop off).take s1.length) = some r1) :
    ∃ a b, (part t xs off).run P w = .ok a w ∧ (part t ys off).run P w = .ok b w ∧ (Op.equalIn D t a b).run P w = .ok r1 w := by
  rcases h _ _ r1 g1 with ⟨ha, v, u, hx, hy, he⟩ | ⟨ha, he⟩
  · have get : ∀ (zs : Array Value) (v : Value), (zs.toList.drop off).take s1.length = [v] → zs[off]? = some v := fun zs v hz => by
      have h0 : ((zs.toList.drop off).take s1.length)[0]? = some v := by rw [hz]; rfl
      rw [List.getElem?_take] at h0
      split at h0
      · rw [List.getElem?_drop] at h0; simpa using h0
      · cases h0
    refine ⟨v, u, ?_, ?_, he⟩
    · simp [part, run_isAgg ha, get xs v hx]
    · simp [part, run_isAgg ha, get ys u hy]
  · have ext : ∀ (zs : Array Value), (part t zs off).run P w = .ok (.agg ((zs.toList.drop off).take s1.length).toArray) w := fun zs => by
      have : zs.extract off (off + s1.length) = ((zs.toList.drop off).take s1.length).toArray := by
        rw [← Array.toList_inj]
        simp [Array.toList_extract, List.extract]
      simp [part, run_isAgg ha, run_sizeOf hsz, this]
    exact ⟨_, _, ext xs, ext ys, he⟩

theorem eqItems_ok {D : Nat} {e : TypeId} {sh : List Bool} (h : EqAtT P w D e sh) (hsz : szOf P e = some sh.length) (xs ys : Array Value) : ∀ (n k : Nat) (r : Bool),
    eqV (List.replicate n sh).flatten (xs.toList.drop (k * sh.length)) (ys.toList.drop (k * sh.length)) = some r → (Op.eqItems D e sh.length xs ys (List.range' k n)).run P w = .ok r w
  | 0, k, r, hv => by
    obtain ⟨h1, h2⟩ := eqV_length hv
    simp only [List.replicate_zero, List.flatten_nil, List.length_nil] at h1 h2
    rw [List.length_eq_zero_iff.1 h1, List.length_eq_zero_iff.1 h2] at hv
    simp only [List.replicate_zero, List.flatten_nil, eqV, Option.some.injEq] at hv; subst hv
    simp [Op.eqItems]
  | n + 1, k, r, hv => by
    rw [List.replicate_succ, List.flatten_cons] at hv
    obtain ⟨r1, r2, g1, g2, rfl⟩ := eqV_append sh _ _ _ r hv
    rw [List.drop_drop, List.drop_drop] at g2
    have ih := eqItems_ok h hsz xs ys n (k + 1) r2 (by rw [Nat.add_mul, Nat.one_mul]; exact g2)
    obtain ⟨a, b, p1, p2, p3⟩ := part_eq h hsz xs ys _ g1
    rw [List.range'_succ]
    simp only [Op.eqItems, Sem.run_bind, p1, p2, p3, Result.andThen_ok]
    cases r1 with
    | false => simp
    | true => simpa using ih

theorem eqFields_ok {D : Nat} {S : TypeId → Option (List Bool)} (hS : ∀ t sh, S t = some sh → EqAtT P w D t sh) (xs ys : Array Value) : ∀ (fs : List Field) (off : Nat) (sh : List Bool) (r : Bool),
    eqShapeF P S fs off = some sh → eqV sh (xs.toList.drop off) (ys.toList.drop off) = some r → (Op.eqFields D xs ys fs).run P w = .ok r w
  | [], off, sh, r, h, hv => by
    simp only [eqShapeF, Option.some.injEq] at h; subst h
    obtain ⟨h1, h2⟩ := eqV_length hv
    rw [List.length_eq_zero_iff.1 h1, List.length_eq_zero_iff.1 h2] at hv
    simp only [eqV, Option.some.injEq] at hv; subst hv
    simp [Op.eqFields]
  | f :: fs, off, sh, r, h, hv => by
    simp only [eqShapeF] at h
    split at h
    case h_2 => cases h
    rename_i s1 hs1
    split at h
    case isFalse => cases h
    rename_i hc
    obtain ⟨hn, ho, hsz⟩ := hc
    split at h
    case h_2 => cases h
    rename_i s2 hs2
    simp only [Option.some.injEq] at h; subst h
    obtain ⟨r1, r2, g1, g2, rfl⟩ := eqV_append s1 s2 _ _ r hv
    rw [List.drop_drop, List.drop_drop] at g2
    have ih := eqFields_ok hS xs ys fs (off + s1.length) s2 r2 hs2 g2
    have fin : ∀ (a b : Value), (part f.type xs f.offset).run P w = .ok a w → (part f.type ys f.offset).run P w = .ok b w → (Op.equalIn D f.type a b).run P w = .ok r1 w →
        (Op.eqFields D xs ys (f :: fs)).run P w = .ok (r1 && r2) w := fun a b p1 p2 p3 => by
      simp only [Op.eqFields, hn, ne_eq, not_false_eq_true, if_true, Sem.run_bind, p1, p2, p3, Result.andThen_ok]
      cases r1 with
      | false => simp
      | true => simpa using ih
    rcases hS f.type s1 hs1 _ _ r1 g1 with ⟨ha, v, u, hx, hy, he⟩ | ⟨ha, he⟩
    · have get : ∀ (zs : Array Value) (v : Value), (zs.toList.drop off).take s1.length = [v] → zs[off]? = some v := fun zs v hz => by
        have h0 : ((zs.toList.drop off).take s1.length)[0]? = some v := by rw [hz]; rfl
        rw [List.getElem?_take] at h0
        split at h0
        · rw [List.getElem?_drop] at h0; simpa using h0
        · cases h0
      refine fin v u ?_ ?_ he
      · simp [part, run_isAgg ha, ho, get xs v hx]
      · simp [part, run_isAgg ha, ho, get ys u hy]
    · have ext : ∀ (zs : Array Value), (part f.type zs f.offset).run P w = .ok (.agg ((zs.toList.drop off).take s1.length).toArray) w := fun zs => by
        have : zs.extract off (off + s1.length) = ((zs.toList.drop off).take s1.length).toArray := by
          rw [← Array.toList_inj]
          simp [Array.toList_extract, List.extract]
        simp [part, run_isAgg ha, run_sizeOf hsz, ho, this]
      exact fin _ _ (ext xs) (ext ys) he

theorem eqShape_ok (k : Nat) : ∀ (d : Nat) (t : TypeId) (sh : List Bool), eqShape P d t = some sh → EqAtT P w (d + k) t sh
  | 0, t, sh, h => by simp [eqShape] at h
  | d + 1, t, sh, h => by
    intro xs ys r hv
    have hD : d + 1 + k = (d + k) + 1 := by omega
    simp only [eqShape] at h
    split at h
    · rename_i k' ht
      simp only [Option.some.injEq] at h; subst h
      refine .inl ⟨by simp [isAggB, ht], ?_⟩
      obtain ⟨h1, h2⟩ := eqV_length hv
      obtain ⟨x, rfl⟩ := List.length_eq_one_iff.1 h1
      obtain ⟨y, rfl⟩ := List.length_eq_one_iff.1 h2
      cases x <;> cases y <;> simp only [eqV, reduceCtorEq] at hv
      rename_i k1 a k2 b
      split at hv
      · rename_i e; subst e
        simp only [Option.map_some, Option.some.injEq, Bool.and_true] at hv
        subst hv
        exact ⟨_, _, rfl, rfl, by rw [hD]; exact run_equalIn_int w _ t k1 k' a b ht⟩
      · cases hv
    · rename_i ht
      simp only [Option.some.injEq] at h; subst h
      refine .inl ⟨by simp [isAggB, ht], ?_⟩
      obtain ⟨h1, h2⟩ := eqV_length hv
      obtain ⟨x, rfl⟩ := List.length_eq_one_iff.1 h1
      obtain ⟨y, rfl⟩ := List.length_eq_one_iff.1 h2
      cases x <;> cases y <;> simp only [eqV, reduceCtorEq] at hv
      rename_i a b
      simp only [Option.map_some, Option.some.injEq, Bool.and_true] at hv
      subst hv
      exact ⟨_, _, rfl, rfl, by rw [hD]; exact run_equalIn_bool' w _ t a b ht⟩
    · rename_i fs ht
      split at h
      · cases h
      · rename_i hst
        refine .inr ⟨by simp [isAggB, ht], ?_⟩
        have hf : P.fieldsOf t = fs := by simp [Program.fieldsOf, ht]
        rw [hD, run_equalIn_struct w _ t _ _ (by rw [hf]; exact ht) (by simpa using hst), hf]
        exact eqFields_ok (fun t sh h => eqShape_ok k d t sh h) _ _ fs.toList 0 sh r h (by simpa using hv)
    · rename_i n el ht
      split at h
      case h_2 => cases h
      rename_i s1 hs1
      split at h
      case isFalse => cases h
      rename_i hc
      simp only [Option.some.injEq] at h
      subst h
      refine .inr ⟨by simp [isAggB, ht], ?_⟩
      have hi : ∃ i, P.info? el = some i := by
        have := hc.2
        unfold szOf at this
        rw [Option.map_eq_some_iff] at this
        obtain ⟨i, hi, _⟩ := this
        exact ⟨i, hi⟩
      obtain ⟨i, hi⟩ := hi
      rw [hD, run_equalIn_array w _ _ _ ht hi, hc.1, List.range_eq_range']
      exact eqItems_ok (eqShape_ok k d el s1 hs1) hc.2 _ _ n 0 r (by simpa using hv)
    · cases h

theorem ok_eqb {op : BinOp} {t : TypeId} {neg : Bool} {ρ : Operand → Value} {e : AX → Option AV} {x y : Operand} {ax ay : AX} {p : Prop} {r : Res} {d : Nat}
    (ht : P.underlying t = some .bool) (hop : (op = .eql ∧ neg = false) ∨ (op = .neq ∧ neg = true)) (hs : SimO G w ob m) (hx : cx x = some ax) (hy : cx y = some ay) (he : OpRel G w ob ρ e) (hv : eval (.eqb neg ax ay) e m d = some (p, r)) :
    OpOk P G w ob m (do pure (.value (← (do eqGuard op t x y (ρ x) (ρ y); binOp op t (ρ x) (ρ y))))) r := by
  simp only [eval] at hv
  split at hv
  case h_2 => cases hv
  rename_i b1 b2 hax hay
  simp only [Option.some.injEq, Prod.mk.injEq] at hv
  obtain ⟨_, rfl⟩ := hv
  rw [(he x ax _ hx hax).sc_eq, (he y ay _ hy hay).sc_eq]
  have hE : (Op.equalIn 10000 t (.bool b1) (.bool b2)).run P w = .ok (b1 == b2) w := run_equalIn_bool' w 9999 t b1 b2 ht
  rcases hop with ⟨rfl, rfl⟩ | ⟨rfl, rfl⟩
  · refine OpOk.quiet hs (v := .bool (b1 == b2)) ?_ (.sc rfl)
    simp [eqGuard, binOp, Op.equal, Op.maxDepth, hE]
  · refine OpOk.quiet hs (v := .bool (!(b1 == b2))) ?_ (.sc rfl)
    simp [eqGuard, binOp, Op.equal, Op.maxDepth, hE]

theorem ok_eqa {op : BinOp} {t : TypeId} {sh : List Bool} {ρ : Operand → Value} {e : AX → Option AV} {x y : Operand} {ax ay : AX} {p : Prop} {r : Res} {d : Nat}
    (hsh : eqaShape P op t = some sh) (hs : SimO G w ob m) (hx : cx x = some ax) (hy : cx y = some ay) (he : OpRel G w ob ρ e) (hv : eval (.eqa sh (isNeq op) ax ay) e m d = some (p, r)) :
    OpOk P G w ob m (do pure (.value (← (do eqGuard op t x y (ρ x) (ρ y); binOp op t (ρ x) (ρ y))))) r := by
  simp only [eval] at hv
  split at hv
  case h_2 => cases hv
  rename_i cs ds hax hay
  simp only [Option.map_eq_some_iff, Prod.mk.injEq] at hv
  obtain ⟨q, hq, _, rfl⟩ := hv
  have hrx := he x ax _ hx hax
  have hry := he y ay _ hy hay
  cases hvx : ρ x with
  | agg xs =>
    cases hvy : ρ y with
    | agg ys =>
      rw [hvx] at hrx; rw [hvy] at hry
      cases hrx with
      | agg _ hn ho hr =>
        cases hry with
        | agg _ hn' ho' hr' =>
          have hE := eqV_of sh cs ds xs.toList ys.toList q hq (by simpa using hn) (by simpa using hn') (fun j av hj => by simpa [List.getD] using hr j av hj) (fun j av hj => by simpa [List.getD] using hr' j av hj)
          have key : P.eqGuardType P.depth t = false ∧ eqShape P 100 t = some sh ∧ (op = .eql ∨ op = .neq) ∧ isAggB P t = some true := by
            unfold eqaShape at hsh
            split at hsh
            · split at hsh
              · rename_i fs ht
                split at hsh
                · cases hsh
                · rename_i hg; exact ⟨by simpa using hg, hsh, .inl rfl, by simp [isAggB, ht]⟩
              · rename_i n el ht
                split at hsh
                · cases hsh
                · rename_i hg; exact ⟨by simpa using hg, hsh, .inl rfl, by simp [isAggB, ht]⟩
              · cases hsh
            · split at hsh
              · rename_i fs ht
                split at hsh
                · cases hsh
                · rename_i hg; exact ⟨by simpa using hg, hsh, .inr rfl, by simp [isAggB, ht]⟩
              · rename_i n el ht
                split at hsh
                · cases hsh
                · rename_i hg; exact ⟨by simpa using hg, hsh, .inr rfl, by simp [isAggB, ht]⟩
              · cases hsh
            · cases hsh
          obtain ⟨hg, hsp, hop, hagg⟩ := key
          have heq : (Op.equalIn 10000 t (.agg xs) (.agg ys)).run P w = .ok q w := by
            rcases eqShape_ok (P := P) (w := w) 9900 100 t sh hsp xs.toList ys.toList q hE with ⟨ha, _⟩ | ⟨_, h⟩
            · rw [hagg] at ha; cases ha
            · simpa using h
          rcases hop with rfl | rfl
          · refine OpOk.quiet hs (v := .bool q) ?_ (.sc rfl)
            simp [run_eqGuard_agg w .eql t x y xs ys hg, run_eql_struct, heq, isNeq]
          · refine OpOk.quiet hs (v := .bool (!q)) ?_ (.sc rfl)
            simp [run_eqGuard_agg w .neq t x y xs ys hg, run_neq_struct, heq, isNeq]
    | _ => rw [hvy] at hry; cases hry
  | _ => rw [hvx] at hrx; cases hrx
end
end Go.Abs
