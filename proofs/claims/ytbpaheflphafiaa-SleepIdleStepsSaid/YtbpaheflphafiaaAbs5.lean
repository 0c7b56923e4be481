/- The abstract layer, part 5: building aggregates and slices. -/
import Derived.Test.YtbpaheflphafiaaAbs4
set_option linter.unusedSimpArgs false
set_option linter.unusedVariables false
set_option linter.unnecessarySimpa false
namespace Go.Abs
section
variable {P : Program} {G : Nat → Prop} {w : World} {ob : Place} {m : Nat → Option AObj}

/-- cells that stand for abstract cells -/
def CellsRel (G : Nat → Prop) (w : World) (ob : Place) (vs : Array Value) (cs : List AV) : Prop :=
  vs.size = cs.length ∧ (∀ (j : Nat) (av : AV), cs[j]? = some av → av.one = true) ∧ ∀ (j : Nat) (av : AV), cs[j]? = some av → Rel G w ob av (vs.getD j undef)

theorem foldl_set : ∀ (l : List Value) (k off : Nat) (cs : Array Value) (q : Nat),
    (((l.zipIdx k).foldl (fun (cs : Array Value) (x : Value × Nat) => cs.setIfInBounds (off + x.2) x.1) cs).size = cs.size) ∧
    (((l.zipIdx k).foldl (fun (cs : Array Value) (x : Value × Nat) => cs.setIfInBounds (off + x.2) x.1) cs)[q]? =
      if off + k ≤ q ∧ q < off + k + l.length ∧ q < cs.size then l[q - (off + k)]? else cs[q]?)
  | [], k, off, cs, q => by
    refine ⟨rfl, ?_⟩
    simp only [List.zipIdx_nil, List.foldl_nil, List.length_nil, Nat.add_zero]
    rw [if_neg (by omega)]
  | v :: l, k, off, cs, q => by
    obtain ⟨h1, h2⟩ := foldl_set l (k + 1) off (cs.setIfInBounds (off + k) v) q
    simp only [List.zipIdx_cons, List.foldl_cons]
    refine ⟨by rw [h1]; simp, ?_⟩
    rw [h2]
    simp only [Array.size_setIfInBounds, List.length_cons]
    by_cases hq : q < cs.size
    · by_cases ha : off + (k + 1) ≤ q ∧ q < off + (k + 1) + l.length
      · rw [if_pos ⟨ha.1, ha.2, hq⟩, if_pos ⟨by omega, by omega, hq⟩]
        have : q - (off + k) = (q - (off + (k + 1))) + 1 := by omega
        rw [this, List.getElem?_cons_succ]
      · rw [if_neg (fun h => ha ⟨h.1, h.2.1⟩)]
        by_cases he : q = off + k
        · subst he
          rw [if_pos ⟨by omega, by omega, hq⟩]
          simp [hq]
        · rw [if_neg (by omega), Array.getElem?_setIfInBounds_ne (by omega)]
    · rw [if_neg (by omega), if_neg (by omega)]
      rw [Array.getElem?_eq_none (by simp; omega), Array.getElem?_eq_none (by omega)]

theorem getElem?_splice (cs p : List AV) (n q : Nat) (h : n + p.length ≤ cs.length) :
    (splice cs n p)[q]? = if n ≤ q ∧ q < n + p.length then p[q - n]? else cs[q]? := by
  rw [splice_eq _ _ _ (by omega)]
  have hn : (cs.take n).length = n := by simp; omega
  by_cases h1 : q < n
  · rw [List.append_assoc, List.getElem?_append_left (by omega), if_neg (by omega), List.getElem?_take, if_pos h1]
  · by_cases h2 : q < n + p.length
    · rw [List.append_assoc, List.getElem?_append_right (by omega), hn, List.getElem?_append_left (by omega), if_pos ⟨by omega, h2⟩]
    · rw [List.append_assoc, List.getElem?_append_right (by omega), hn, List.getElem?_append_right (by omega), if_neg (by omega), List.getElem?_drop]
      congr 1; omega

theorem length_splice (cs p : List AV) (n : Nat) (h : n + p.length ≤ cs.length) : (splice cs n p).length = cs.length := by
  rw [splice_eq _ _ _ (by omega)]; simp; omega

theorem getD_of {vs : Array Value} {j : Nat} {v : Value} (h : vs[j]? = some v) : vs.getD j undef = v := by simp [h]

theorem CellsRel.get {vs : Array Value} {cs : List AV} (h : CellsRel G w ob vs cs) {j : Nat} {av : AV} (hj : cs[j]? = some av) : ∃ v, vs[j]? = some v ∧ av.one = true ∧ Rel G w ob av v := by
  have hlt : j < vs.size := by
    rw [h.1]; rcases Nat.lt_or_ge j cs.length with h | h
    · exact h
    · rw [List.getElem?_eq_none h] at hj; cases hj
  refine ⟨vs[j], Array.getElem?_eq_getElem hlt, h.2.1 j av hj, ?_⟩
  have := h.2.2 j av hj
  rwa [getD_of (Array.getElem?_eq_getElem hlt)] at this

theorem CellsRel.mk' {vs : Array Value} {cs : List AV} (hn : vs.size = cs.length) (h : ∀ (j : Nat) (av : AV), cs[j]? = some av → ∃ v, vs[j]? = some v ∧ av.one = true ∧ Rel G w ob av v) : CellsRel G w ob vs cs :=
  ⟨hn, fun j av hj => (h j av hj).choose_spec.2.1, fun j av hj => by obtain ⟨v, h1, _, h3⟩ := h j av hj; rw [getD_of h1]; exact h3⟩

theorem fill_rel {e : AX → Option AV} {ρ : Operand → Value} (he : OpRel G w ob ρ e) {place : Nat → Option (Nat × Nat)} :
    ∀ (parts : List (Nat × Operand)) (ps : List (Nat × Nat × AX)) (Z : Array Value) (cs cs' : List AV),
      (parts.mapM fun p => match place p.1, cx p.2 with | some (o, s), some ax => some (o, s, ax) | _, _ => none) = some ps →
      CellsRel G w ob Z cs → fillA e cs ps = some cs' → ∃ Z', Instr.fill place Z (parts.map fun p => (p.1, ρ p.2)) = some Z' ∧ CellsRel G w ob Z' cs'
  | [], ps, Z, cs, cs', hp, hz, hf => by
    simp at hp; subst hp
    simp only [fillA, Option.some.injEq] at hf; subst hf
    exact ⟨Z, rfl, hz⟩
  | (i, x) :: parts, ps, Z, cs, cs', hp, hz, hf => by
    simp only [List.mapM_cons, Option.bind_eq_bind, Option.pure_def] at hp
    cases hpl : place i with
    | none => simp [hpl] at hp
    | some os =>
      obtain ⟨o, s⟩ := os
      cases hcx : cx x with
      | none => simp [hpl, hcx] at hp
      | some ax =>
        simp only [hpl, hcx, Option.bind_some] at hp
        rw [Option.bind_eq_some_iff] at hp
        obtain ⟨ps', hp', hps⟩ := hp
        simp only [Option.some.injEq] at hps
        subst hps
        simp only [fillA] at hf
        cases hax : e ax with
        | none => simp [hax] at hf
        | some a =>
          have hr := he x ax a hcx hax
          have hnt : ∀ l, a ≠ .tup l := fun l h => by subst h; simp [hax] at hf
          have hf' : (if a.cells.length = s ∧ o + s ≤ cs.length then fillA e (splice cs o a.cells) ps' else none) = some cs' := by
            rw [hax] at hf
            cases a with
            | tup l => exact absurd rfl (hnt l)
            | _ => exact hf
          split at hf'
          · rename_i hc
            obtain ⟨hc1, hc2⟩ := hc
            obtain ⟨h1, h2, h3⟩ := cells_rel hr hnt
            have hv : CellsRel G w ob (ρ x).cells a.cells := ⟨h1, h2, h3⟩
            have hzs := hz.1
            have hfs := fun q => foldl_set (ρ x).cells.toList 0 o Z q
            have hz' : CellsRel G w ob ((ρ x).cells.zipIdx.foldl (fun (cs : Array Value) (x : Value × Nat) => cs.setIfInBounds (o + x.2) x.1) Z) (splice cs o a.cells) := by
              rw [← Array.foldl_toList, Array.toList_zipIdx]
              refine CellsRel.mk' ?_ fun j av hj => ?_
              · rw [(hfs 0).1, length_splice _ _ _ (by omega)]; exact hz.1
              · rw [(hfs j).2]
                rw [getElem?_splice _ _ _ _ (by omega)] at hj
                simp only [Nat.add_zero, Array.length_toList] at hj ⊢
                split at hj
                · rename_i hq
                  rw [if_pos ⟨hq.1, by omega, by omega⟩]
                  obtain ⟨v, h4, h5, h6⟩ := hv.get hj
                  exact ⟨v, by simpa using h4, h5, h6⟩
                · rename_i hq
                  rw [if_neg (by omega)]
                  exact hz.get hj
            obtain ⟨Z', h4, h5⟩ := fill_rel he parts ps' _ _ cs' hp' hz' hf'
            refine ⟨Z', ?_, h5⟩
            simp only [List.map_cons, Instr.fill, hpl]
            rw [if_neg ?_]
            · exact h4
            · simp only [Bool.or_eq_true, ne_eq, decide_eq_true_eq, not_or, Classical.not_not]
              omega
          · cases hf'

theorem zero_rel {z : Value} (hone : z.cells.all Value.oneCell' = true) : CellsRel G w ob z.cells (z.cells.toList.map .sc) := by
  refine CellsRel.mk' (by simp) fun j av hj => ?_
  rw [List.getElem?_map, Option.map_eq_some_iff] at hj
  obtain ⟨u, hu, rfl⟩ := hj
  have hu' : z.cells[j]? = some u := by simpa using hu
  exact ⟨u, hu', rfl, .sc (Array.all_eq_true'.1 hone u (Array.mem_of_getElem? hu'))⟩

theorem arr_rel {Z : Array Value} (hone : Z.all Value.oneCell' = true) : CellsRel G w ob Z (Z.toList.map .sc) := by
  refine CellsRel.mk' (by simp) fun j av hj => ?_
  rw [List.getElem?_map, Option.map_eq_some_iff] at hj
  obtain ⟨u, hu, rfl⟩ := hj
  have hu' : Z[j]? = some u := by simpa using hu
  exact ⟨u, hu', rfl, .sc (Array.all_eq_true'.1 hone u (Array.mem_of_getElem? hu'))⟩

/-- the places of a type's parts -/
def placesOf (P : Program) (t : TypeId) : Option (Nat → Option (Nat × Nat)) :=
  match P.underlying t with
  | some (.struct fields) => match fields.toList.mapM (fun f => (P.info? f.type).map fun i => (f.offset, i.size)) with
    | some places => some (places.toArray[·]?)
    | none => none
  | some (.array _ e) => match P.info? e with
    | some ie => some (fun i => some (i * ie.size, ie.size))
    | none => none
  | _ => none

theorem ok_build {t : TypeId} {z : Value} {place : Nat → Option (Nat × Nat)} {parts : Array (Nat × Operand)} {ps : List (Nat × Nat × AX)} {ρ : Operand → Value} {e : AX → Option AV} {p : Prop} {r : Res} {d : Nat}
    (hz : (P.info? t).bind (·.zero) = some z) (hone : z.cells.all Value.oneCell' = true) (hpl : placesOf P t = some place)
    (hps : (parts.toList.mapM fun p => match place p.1, cx p.2 with | some (o, s), some ax => some (o, s, ax) | _, _ => none) = some ps)
    (hs : SimO G w ob m) (he : OpRel G w ob ρ e) (hv : eval (.build z.cells.toList ps) e m d = some (p, r)) :
    OpOk P G w ob m (do pure (.value (← Instr.build t (parts.map fun (i, x) => (i, ρ x))))) r := by
  simp only [eval] at hv
  cases hf : fillA e (z.cells.toList.map .sc) ps with
  | none => simp [hf] at hv
  | some cs =>
    simp only [hf, Option.some.injEq, Prod.mk.injEq] at hv
    obtain ⟨_, rfl⟩ := hv
    obtain ⟨Z', h1, h2⟩ := fill_rel he parts.toList ps z.cells _ cs hps (zero_rel hone) hf
    cases hi : P.info? t with
    | none => simp [hi] at hz
    | some it =>
      simp only [hi, Option.bind_some] at hz
      have hb : P.built t (parts.map fun (x : Nat × Operand) => (x.1, ρ x.2)).toList = some Z' := by
        rw [Array.toList_map]
        unfold Program.built
        unfold placesOf at hpl
        cases hu : P.underlying t with
        | none => simp [hu] at hpl
        | some dsc =>
          rw [hu] at hpl
          cases dsc with
          | struct fields =>
            simp only at hpl
            cases hm : fields.toList.mapM (fun f => (P.info? f.type).map fun i => (f.offset, i.size)) with
            | none => simp [hm] at hpl
            | some places =>
              simp only [hm, Option.some.injEq] at hpl
              subst hpl
              simp only [hi, hz, hm]
              exact h1
          | array n el =>
            simp only at hpl
            cases hie : P.info? el with
            | none => simp [hie] at hpl
            | some ie =>
              simp only [hie, Option.some.injEq] at hpl
              subst hpl
              simp only [hi, hz, hie]
              exact h1
          | _ => simp at hpl
      refine OpOk.quiet hs (v := .agg Z') ?_ (.agg Z' h2.1 h2.2.1 h2.2.2)
      have := run_build (P := P) w t (parts.map fun (x : Nat × Operand) => (x.1, ρ x.2)) Z' hb
      simp [this]

/-! ### freezing -/

/-- some slices of the call's own are frozen: the same world, other classes -/
theorem SimO.freeze (hs : SimO G w ob m) {id z : Nat} {s : Sq} (hm : m id = some (.arr z s)) :
    ∃ G', SimO G' w ob (upd m id (some (.frz z s))) ∧ (∀ b, G b → G' b) ∧ (∀ b, G' b → G b ∨ blks ob b) ∧
      (∀ i b, ob id = some i → i.blk = some b → G' b) := by
  cases hi : ob id with
  | none => rw [(hs.dom id).2 hi] at hm; cases hm
  | some i =>
    have ho := hs.own id _ i hm hi
    refine ⟨fun b => G b ∨ i.blk = some b, ⟨?_, hs.inj, ?_, ?_, ?_⟩, fun b h => .inl h, fun b h => h.imp (fun h => h) (fun h => ⟨id, i, hi, h⟩), fun j b hj hb => ?_⟩
    · intro x
      by_cases hx : x = id
      · subst hx; simp [hi]
      · rw [upd_ne hx]; exact hs.dom x
    · rintro b (h | h)
      · exact hs.lt b h
      · exact ho.blk_lt h
    · intro x o j hx hj
      by_cases hxe : x = id
      · subst hxe
        simp only [upd_same, Option.some.injEq] at hx
        subst hx
        rw [hi] at hj; injection hj with hj; subst hj
        obtain ⟨h1, h2, h3, h4, h5⟩ := ho
        refine ⟨h1, h2, h3, h4, ?_⟩
        rcases h5 with h5 | ⟨b, arr, T, h6, h7, h8, h9⟩
        · exact .inl h5
        · exact .inr ⟨b, arr, T, (0, 0), h6, .inr h6, h7, h9.ext (fun _ h => .inl h) (fun _ _ => rfl) (OBext.refl ob)⟩
      · rw [upd_ne hxe] at hx
        exact (hs.own x o j hx hj).ext (fun _ h => .inl h) (fun _ _ => rfl) (OBext.refl ob) (fun _ _ => rfl)
    · intro x o j b hx hown hj hb
      by_cases hxe : x = id
      · subst hxe
        simp only [upd_same, Option.some.injEq] at hx
        subst hx
        simp [AObj.owned] at hown
      · rw [upd_ne hxe] at hx
        rintro (h | h)
        · exact hs.sep x o j b hx hown hj hb h
        · exact hxe (hs.inj _ _ _ _ b hj hi hb h)
    · injection hj with hj; subst hj; exact .inr hb

end
end Go.Abs
