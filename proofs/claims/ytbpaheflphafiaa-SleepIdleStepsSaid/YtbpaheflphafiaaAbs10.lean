/- The abstract layer, part 10: contracts, and what a call by a contract comes to. -/
import Derived.Test.YtbpaheflphafiaaAbs9n
set_option linter.unusedSimpArgs false
set_option linter.unusedVariables false
set_option linter.unnecessarySimpa false
namespace Go.Abs

mutual
def AV.ren (ρ : Nat → Nat) : AV → AV
  | .sc v => .sc v
  | .dsl z n g => .dsl z n g
  | .dslx z n g => .dslx z n g
  | .sl id off len tot => .sl (ρ id) off len tot
  | .ptr id i o tot => .ptr (ρ id) i o tot
  | .mp id => .mp (ρ id)
  | .fptr cs => .fptr cs
  | .agg cs => .agg (renL ρ cs)
  | .tup cs => .tup (renL ρ cs)
  | .fn f a b => .fn f (renL ρ a) (renL ρ b)
def renL (ρ : Nat → Nat) : List AV → List AV
  | [] => []
  | c :: cs => c.ren ρ :: renL ρ cs
end

mutual
def AV.ids : AV → List Nat
  | .sl id _ _ _ => [id]
  | .ptr id _ _ _ => [id]
  | .mp id => [id]
  | .agg cs => idsL cs
  | .tup cs => idsL cs
  | .fn _ a b => idsL a ++ idsL b
  | .sc _ => []
  | .dsl .. => []
  | .dslx .. => []
  | .fptr _ => []
def idsL : List AV → List Nat
  | [] => []
  | c :: cs => c.ids ++ idsL cs
end

def AObj.ren (ρ : Nat → Nat) : AObj → AObj
  | .box cs => .box (renL ρ cs)
  | o => o

def ofL (O : List (Nat × AObj)) : Nat → Option AObj := wrm (fun _ => none) O

section
variable {P : Program} {G : Nat → Prop} {w : World} {ob : Place} {m : Nat → Option AObj}

theorem getElem?_renL (ρ : Nat → Nat) : ∀ (cs : List AV) (j : Nat), (renL ρ cs)[j]? = (cs[j]?).map (AV.ren ρ)
  | [], j => by simp [renL]
  | c :: cs, 0 => by simp [renL]
  | c :: cs, j + 1 => by simp [renL, getElem?_renL ρ cs j]

theorem length_renL (ρ : Nat → Nat) : ∀ (cs : List AV), (renL ρ cs).length = cs.length
  | [] => rfl
  | c :: cs => by simp [renL, length_renL ρ cs]

theorem ren_one (ρ : Nat → Nat) (av : AV) : (av.ren ρ).one = av.one := by cases av <;> simp [AV.ren, AV.one]
theorem ren_pure {ρ : Nat → Nat} {av : AV} (h : av.pure = true) : av.ren ρ = av := by
  cases av with
  | fn f a b => cases a with
    | nil => cases b with
      | nil => simp [AV.ren, renL]
      | cons => simp [AV.pure] at h
    | cons => simp [AV.pure] at h
  | _ => simp_all [AV.pure, AV.ren]

theorem mem_idsL {c : AV} : ∀ {cs : List AV} {j : Nat}, cs[j]? = some c → ∀ i ∈ c.ids, i ∈ idsL cs
  | [], j, h => by simp at h
  | d :: cs, 0, h => by
    simp only [List.getElem?_cons_zero, Option.some.injEq] at h; subst h
    intro i hi; simp [idsL, hi]
  | d :: cs, j + 1, h => by
    simp only [List.getElem?_cons_succ] at h
    intro i hi; simp [idsL, mem_idsL h i hi]

/-- a value stands under other names as well -/
theorem Rel.ren {ob2 : Place} {ρ : Nat → Nat} {av : AV} {v : Value} (h : Rel G w ob av v) (hρ : ∀ i inf, ob i = some inf → ob2 (ρ i) = some inf) : Rel G w ob2 (av.ren ρ) v := by
  induction h with
  | sc h => exact .sc h
  | dslNil => exact .dslNil
  | dslxNil => exact .dslxNil
  | dslE a cap => exact .dslE a cap
  | dslxE a => exact .dslxE a
  | dsl b off cap c hg hcap hlen hpp hc hr ih => exact .dsl b off cap c hg hcap hlen hpp hc (fun i j av hi h => (hr i j av hi h).ob_free (hpp i j av hi h))
  | dslx b off c hg hlen hpp hc hr ih => exact .dslx b off c hg hlen hpp hc (fun i j av hi h => (hr i j av hi h).ob_free (hpp i j av hi h))
  | sl i h hle hs hv => exact .sl i (hρ _ _ h) hle hs hv
  | ptr a i h hle hv => exact .ptr a i (hρ _ _ h) hle hv
  | mp b i h hb hm => exact .mp b i (hρ _ _ h) hb hm
  | fptr b off c hg hp hc hr ih => exact .fptr b off c hg hp hc (fun j av h => (hr j av h).ob_free (hp j av h))
  | agg vs hn ho hr ih =>
    refine .agg vs (by rw [hn, length_renL]) (fun j av hj => ?_) (fun j av hj => ?_)
    all_goals
      rw [getElem?_renL, Option.map_eq_some_iff] at hj
      obtain ⟨c, hc, rfl⟩ := hj
    · rw [ren_one]; exact ho j c hc
    · exact ih j c hc
  | tup vs hn hr ih =>
    refine .tup vs (by rw [hn, length_renL]) (fun j av hj => ?_)
    rw [getElem?_renL, Option.map_eq_some_iff] at hj
    obtain ⟨c, hc, rfl⟩ := hj
    exact ih j c hc
  | fn vs us hn hm hr hq ih1 ih2 =>
    refine .fn vs us (by rw [hn, length_renL]) (by rw [hm, length_renL]) (fun j av hj => ?_) (fun j av hj => ?_)
    all_goals
      rw [getElem?_renL, Option.map_eq_some_iff] at hj
      obtain ⟨c, hc, rfl⟩ := hj
    · exact ih1 j c hc
    · exact ih2 j c hc

/-- back: a value that stands under other names -/
theorem Rel.unren {ob2 : Place} {ρ : Nat → Nat} {x : AV} {v : Value} (h : Rel G w ob2 x v) : ∀ av : AV, av.ren ρ = x → (∀ i ∈ av.ids, ob i = ob2 (ρ i)) → Rel G w ob av v := by
  induction h with
  | sc h => intro av e _; cases av <;> simp [AV.ren] at e; subst e; exact .sc h
  | dslNil => intro av e _; cases av <;> simp [AV.ren] at e; obtain ⟨rfl, rfl, rfl⟩ := e; exact .dslNil
  | dslE a cap => intro av e _; cases av <;> simp [AV.ren] at e; obtain ⟨rfl, rfl, rfl⟩ := e; exact .dslE a cap
  | dslxNil => intro av e _; cases av <;> simp [AV.ren] at e; obtain ⟨rfl, rfl, rfl⟩ := e; exact .dslxNil
  | dslxE a => intro av e _; cases av <;> simp [AV.ren] at e; obtain ⟨rfl, rfl, rfl⟩ := e; exact .dslxE a
  | dsl b off cap c hg hcap hlen hpp hc hr ih =>
    intro av e _; cases av <;> simp [AV.ren] at e; obtain ⟨rfl, rfl, rfl⟩ := e
    exact .dsl b off cap c hg hcap hlen hpp hc (fun i j av hi h => (hr i j av hi h).ob_free (hpp i j av hi h))
  | dslx b off c hg hlen hpp hc hr ih =>
    intro av e _; cases av <;> simp [AV.ren] at e; obtain ⟨rfl, rfl, rfl⟩ := e
    exact .dslx b off c hg hlen hpp hc (fun i j av hi h => (hr i j av hi h).ob_free (hpp i j av hi h))
  | sl i h hle hs hv =>
    intro av e hi; cases av <;> simp [AV.ren] at e; obtain ⟨rfl, rfl, rfl, rfl⟩ := e
    exact .sl i (by rw [hi _ (by simp [AV.ids])]; exact h) hle hs hv
  | ptr a i h hle hv =>
    intro av e hi; cases av <;> simp [AV.ren] at e; obtain ⟨rfl, rfl, rfl, rfl⟩ := e
    exact .ptr a i (by rw [hi _ (by simp [AV.ids])]; exact h) hle hv
  | mp b i h hb hm =>
    intro av e hi; cases av <;> simp [AV.ren] at e; subst e
    exact .mp b i (by rw [hi _ (by simp [AV.ids])]; exact h) hb hm
  | fptr b off c hg hp hc hr ih =>
    intro av e _; cases av <;> simp [AV.ren] at e; subst e
    exact .fptr b off c hg hp hc (fun j av h => (hr j av h).ob_free (hp j av h))
  | agg vs hn ho hr ih =>
    intro av e hi; cases av <;> simp [AV.ren] at e; subst e
    rename_i cs
    refine .agg vs (by rw [hn, length_renL]) (fun j av hj => ?_) (fun j av hj => ?_)
    · have := ho j (av.ren ρ) (by rw [getElem?_renL, hj]; rfl); rwa [ren_one] at this
    · exact ih j (av.ren ρ) (by rw [getElem?_renL, hj]; rfl) av rfl fun i hi' => hi i (by simp only [AV.ids]; exact mem_idsL hj i hi')
  | tup vs hn hr ih =>
    intro av e hi; cases av <;> simp [AV.ren] at e; subst e
    rename_i cs
    refine .tup vs (by rw [hn, length_renL]) (fun j av hj => ?_)
    exact ih j (av.ren ρ) (by rw [getElem?_renL, hj]; rfl) av rfl fun i hi' => hi i (by simp only [AV.ids]; exact mem_idsL hj i hi')
  | fn vs us hn hm hr hq ih1 ih2 =>
    intro av e hi; cases av <;> simp [AV.ren] at e; obtain ⟨rfl, rfl, rfl⟩ := e
    refine .fn vs us (by rw [hn, length_renL]) (by rw [hm, length_renL]) (fun j av hj => ?_) (fun j av hj => ?_)
    · exact ih1 j (av.ren ρ) (by rw [getElem?_renL, hj]; rfl) av rfl fun i hi' => hi i (by simp only [AV.ids, List.mem_append]; exact .inl (mem_idsL hj i hi'))
    · exact ih2 j (av.ren ρ) (by rw [getElem?_renL, hj]; rfl) av rfl fun i hi' => hi i (by simp only [AV.ids, List.mem_append]; exact .inr (mem_idsL hj i hi'))

theorem ObjRel.ren {ob2 : Place} {ρ : Nat → Nat} {o : AObj} {i : Info} (h : ObjRel G w ob i o) (hρ : ∀ i inf, ob i = some inf → ob2 (ρ i) = some inf) : ObjRel G w ob2 i (o.ren ρ) := by
  cases o with
  | box cs =>
    obtain ⟨h0, h1, h2, b, arr, T, h3, h4, h5, h6⟩ := h
    refine ⟨h0, h1, by rw [h2, length_renL], b, arr, T, h3, h4, by rw [h5, length_renL], fun j av hj => ?_⟩
    rw [getElem?_renL, Option.map_eq_some_iff] at hj
    obtain ⟨c, hc, rfl⟩ := hj
    obtain ⟨ho, v, hv, hr⟩ := h6 j c hc
    exact ⟨by rw [ren_one]; exact ho, v, hv, hr.ren hρ⟩
  | arr z s =>
    obtain ⟨h0, h00, h1, h2, h3⟩ := h
    refine ⟨h0, h00, h1, h2, ?_⟩
    rcases h3 with h3 | ⟨b, arr, T, h3, h4, h5, h6⟩
    · exact .inl h3
    · exact .inr ⟨b, arr, T, h3, h4, h5, h6.1, fun i j av hi hj => let ⟨hp, v, hv, hr⟩ := h6.2 i j av hi hj; ⟨hp, v, hv, hr.ob_free hp⟩⟩
  | frz z s =>
    obtain ⟨h0, h00, h1, h2, h3⟩ := h
    refine ⟨h0, h00, h1, h2, ?_⟩
    rcases h3 with h3 | ⟨b, arr, T, fz, h3, h4, h5, h6⟩
    · exact .inl h3
    · exact .inr ⟨b, arr, T, fz, h3, h4, h5, h6.1, fun i j av hi hj => let ⟨hp, v, hv, hr⟩ := h6.2 i j av hi hj; ⟨hp, v, hv, hr.ob_free hp⟩⟩
  | frzb cs =>
    obtain ⟨h0, h1, h2, b, arr, T, fz, h3, h4, h5, h6, h7⟩ := h
    exact ⟨h0, h1, h2, b, arr, T, fz, h3, h4, h5, h6, fun j av hj => let ⟨hp, v, hv, hr⟩ := h7 j av hj; ⟨hp, v, hv, hr.ob_free hp⟩⟩
  | map k es =>
    obtain ⟨h0, b, ents, clock, h3, h4, h5, h6⟩ := h
    exact ⟨h0, b, ents, clock, h3, h4, h5, fun j z av hj => let ⟨hf, e, he, hk, hr⟩ := h6 j z av hj; ⟨hf, e, he, hk, hr.flat_free hf⟩⟩

/-- back, for objects: a box's cells mention known names alone -/
theorem ObjRel.unren {ob2 : Place} {ρ : Nat → Nat} {o : AObj} {i : Info} (h : ObjRel G w ob2 i (o.ren ρ)) (hρ : ∀ cs, o = .box cs → ∀ i ∈ idsL cs, ob i = ob2 (ρ i)) : ObjRel G w ob i o := by
  cases o with
  | box cs =>
    obtain ⟨h0, h1, h2, b, arr, T, h3, h4, h5, h6⟩ := h
    refine ⟨h0, h1, by rw [h2, length_renL], b, arr, T, h3, h4, by rw [h5, length_renL], fun j av hj => ?_⟩
    obtain ⟨ho, v, hv, hr⟩ := h6 j (av.ren ρ) (by rw [getElem?_renL, hj]; rfl)
    rw [ren_one] at ho
    exact ⟨ho, v, hv, hr.unren av rfl fun i hi => hρ cs rfl i (mem_idsL hj i hi)⟩
  | arr z s =>
    obtain ⟨h0, h00, h1, h2, h3⟩ := h
    refine ⟨h0, h00, h1, h2, ?_⟩
    rcases h3 with h3 | ⟨b, arr, T, h3, h4, h5, h6⟩
    · exact .inl h3
    · exact .inr ⟨b, arr, T, h3, h4, h5, h6.1, fun i j av hi hj => let ⟨hp, v, hv, hr⟩ := h6.2 i j av hi hj; ⟨hp, v, hv, hr.ob_free hp⟩⟩
  | frz z s =>
    obtain ⟨h0, h00, h1, h2, h3⟩ := h
    refine ⟨h0, h00, h1, h2, ?_⟩
    rcases h3 with h3 | ⟨b, arr, T, fz, h3, h4, h5, h6⟩
    · exact .inl h3
    · exact .inr ⟨b, arr, T, fz, h3, h4, h5, h6.1, fun i j av hi hj => let ⟨hp, v, hv, hr⟩ := h6.2 i j av hi hj; ⟨hp, v, hv, hr.ob_free hp⟩⟩
  | frzb cs =>
    obtain ⟨h0, h1, h2, b, arr, T, fz, h3, h4, h5, h6, h7⟩ := h
    exact ⟨h0, h1, h2, b, arr, T, fz, h3, h4, h5, h6, fun j av hj => let ⟨hp, v, hv, hr⟩ := h7 j av hj; ⟨hp, v, hv, hr.ob_free hp⟩⟩
  | map k es =>
    obtain ⟨h0, b, ents, clock, h3, h4, h5, h6⟩ := h
    exact ⟨h0, b, ents, clock, h3, h4, h5, fun j z av hj => let ⟨hf, e, he, hk, hr⟩ := h6 j z av hj; ⟨hf, e, he, hk, hr.flat_free hf⟩⟩

/-- the arguments stand for abstract arguments -/
def RelL (G : Nat → Prop) (w : World) (ob : Place) (args : List AV) (vals : List Value) : Prop :=
  vals.length = args.length ∧ ∀ (j : Nat) (av : AV), args[j]? = some av → Rel G w ob av (vals.getD j undef)

/-- of the objects K the classes only grow -/
def OBx (K : Nat → Prop) (ob ob' : Place) : Prop := ∀ id i, K id → ob id = some i → ∃ i', ob' id = some i' ∧ (i' = i ∨ (i.len < i'.len ∧ i.isMap = false))

/-- a function with a body of its own -/
def callableB (P : Program) (f : FuncId) : Bool :=
  match P.funcs[f]? with
  | some fn => fn.body.isSome && fn.name != "runtime.NumGoroutine"
  | none => false

/-- A CONTRACT: called with 'args' where the objects are 'O', function f returns r, and the objects are O' -/
def CallsA (P : Program) (f : FuncId) (args : List AV) (O : List (Nat × AObj)) (r : AV) (O' : List (Nat × AObj)) : Prop :=
  callableB P f = true ∧ ∀ (G : Nat → Prop) (w : World) (ob : Place) (vals : List Value), SimO G w ob (ofL O) → RelL G w ob args vals →
    Calls P f vals.toArray w fun e w' => ∃ v G' ob', e = .returned v ∧ SimO G' w' ob' (ofL O') ∧ Rel G' w' ob' r v ∧ Fr G w ob G' w' ob' ∧ OBext ob ob'

/-! ### values without frozen parts -/

mutual
def AV.noDsl : AV → Bool
  | .sc _ => true
  | .sl .. => true
  | .ptr .. => true
  | .mp _ => true
  | .agg cs => noDslL cs
  | .tup cs => noDslL cs
  | .fn _ a b => noDslL a && noDslL b
  | .dsl .. => false
  | .dslx .. => false
  | .fptr _ => false
def noDslL : List AV → Bool
  | [] => true
  | c :: cs => c.noDsl && noDslL cs
end

theorem noDslL_get : ∀ {cs : List AV} {j : Nat} {av : AV}, noDslL cs = true → cs[j]? = some av → av.noDsl = true
  | [], j, av, _, h => by simp at h
  | c :: cs, 0, av, hn, h => by
    simp only [List.getElem?_cons_zero, Option.some.injEq] at h; subst h
    simp only [noDslL, Bool.and_eq_true] at hn; exact hn.1
  | c :: cs, j + 1, av, hn, h => by
    simp only [List.getElem?_cons_succ] at h
    simp only [noDslL, Bool.and_eq_true] at hn
    exact noDslL_get hn.2 h

theorem Rel.noDsl {G' : Nat → Prop} {av : AV} {v : Value} (h : Rel G w ob av v) (hn : av.noDsl = true) : Rel G' w ob av v := by
  induction h with
  | sc h => exact .sc h
  | sl i h hle hs hv => exact .sl i h hle hs hv
  | ptr a i h hle hv => exact .ptr a i h hle hv
  | mp b i h hb hm => exact .mp b i h hb hm
  | agg vs hn' ho hr ih => exact .agg vs hn' ho fun j av hj => ih j av hj (noDslL_get (by simpa [AV.noDsl] using hn) hj)
  | tup vs hn' hr ih => exact .tup vs hn' fun j av hj => ih j av hj (noDslL_get (by simpa [AV.noDsl] using hn) hj)
  | fn vs us hn' hm hr hq ih1 ih2 =>
    simp only [AV.noDsl, Bool.and_eq_true] at hn
    exact .fn vs us hn' hm (fun j av hj => ih1 j av hj (noDslL_get hn.1 hj)) (fun j av hj => ih2 j av hj (noDslL_get hn.2 hj))
  | _ => simp [AV.noDsl] at hn

def AObj.NoDsl : AObj → Prop
  | .box cs => noDslL cs = true
  | .arr _ s => ∀ k, k < s.n → noDslL (s.g k) = true
  | .frz .. => False
  | .frzb _ => False
  | .map _ es => ∀ (j : Nat) (z : Int) (av : AV), es[j]? = some (z, av) → av.noDsl = true

theorem ObjRel.noDsl {G' : Nat → Prop} {i : Info} {o : AObj} (h : ObjRel G w ob i o) (hn : o.NoDsl) : ObjRel G' w ob i o := by
  cases o with
  | box cs =>
    obtain ⟨h0, h1, h2, b, arr, T, h3, h4, h5, h6⟩ := h
    exact ⟨h0, h1, h2, b, arr, T, h3, h4, h5, fun j av hj => let ⟨ho, v, hv, hr⟩ := h6 j av hj; ⟨ho, v, hv, hr.noDsl (noDslL_get hn hj)⟩⟩
  | arr z s =>
    obtain ⟨h0, h00, h1, h2, h3⟩ := h
    refine ⟨h0, h00, h1, h2, ?_⟩
    rcases h3 with h3 | ⟨b, arr, T, h3, h4, h5, h6⟩
    · exact .inl h3
    · exact .inr ⟨b, arr, T, h3, h4, h5, h6.1, fun i j av hi hj => let ⟨hp, v, hv, hr⟩ := h6.2 i j av hi hj; ⟨hp, v, hv, hr.noDsl (noDslL_get (hn i hi) hj)⟩⟩
  | frz z s => exact hn.elim
  | frzb cs => exact hn.elim
  | map k es =>
    obtain ⟨h0, b, ents, clock, h3, h4, h5, h6⟩ := h
    exact ⟨h0, b, ents, clock, h3, h4, h5, fun j z av hj => let ⟨hf, e, he, hk, hr⟩ := h6 j z av hj; ⟨hf, e, he, hk, hr.noDsl (hn j z av hj)⟩⟩
end

/-! ### joining a callee's objects with the caller's -/
section
variable {P : Program} {G : Nat → Prop} {w : World} {ob : Place} {m : Nat → Option AObj}

theorem wrm_get : ∀ (l : List (Nat × AObj)) (f : Nat → Option AObj), (l.map (·.1)).Nodup → ∀ x, wrm f l x = match l.find? (fun p => p.1 == x) with | some p => some p.2 | none => f x
  | [], f, _, x => rfl
  | p :: l, f, h, x => by
    simp only [List.map_cons, List.nodup_cons] at h
    have ih := wrm_get l (upd f p.1 (some p.2)) h.2 x
    show wrm (upd f p.1 (some p.2)) l x = _
    rw [ih, List.find?_cons]
    by_cases hx : (p.1 == x) = true
    · simp only [beq_iff_eq] at hx
      subst hx
      have : l.find? (fun q => q.1 == p.1) = none := by
        rw [List.find?_eq_none]
        intro q hq hqe
        simp only [beq_iff_eq] at hqe
        exact h.1 (by rw [← hqe]; exact List.mem_map_of_mem hq)
      simp [this]
    · have hx' : (p.1 == x) = false := by simpa using hx
      simp only [hx']
      cases l.find? (fun q => q.1 == x) with
      | some q => rfl
      | none => simp only [beq_eq_false_iff_ne] at hx'; exact upd_ne (fun e => hx' e.symm)

theorem ofL_get (l : List (Nat × AObj)) (h : (l.map (·.1)).Nodup) (x : Nat) : ofL l x = (l.find? (fun p => p.1 == x)).map (·.2) := by
  unfold ofL; rw [wrm_get l _ h]; cases l.find? (fun p => p.1 == x) <;> rfl

def renO (ρ : Nat → Nat) (O : List (Nat × AObj)) : List (Nat × AObj) := O.map fun p => (ρ p.1, p.2.ren ρ)

theorem nodup_of_map {ρ : Nat → Nat} {O : List (Nat × AObj)} (h : (O.map fun p => ρ p.1).Nodup) : (O.map (·.1)).Nodup ∧ ∀ i j, (ofL O i).isSome → (ofL O j).isSome → ρ i = ρ j → i = j := by
  have h1 : (O.map (·.1)).Nodup := by
    have : (O.map fun p => ρ p.1) = (O.map (·.1)).map ρ := by simp
    rw [this] at h
    rw [List.Nodup, List.pairwise_map] at h
    exact h.imp (fun hab e => hab (by rw [e]))
  refine ⟨h1, fun i j hi hj e => ?_⟩
  rw [ofL_get O h1] at hi hj
  simp only [Option.isSome_map] at hi hj
  obtain ⟨p, hp⟩ := Option.isSome_iff_exists.1 hi
  obtain ⟨q, hq⟩ := Option.isSome_iff_exists.1 hj
  have e1 := List.find?_some hp
  have e2 := List.find?_some hq
  simp only [beq_iff_eq] at e1 e2
  subst e1; subst e2
  have hpm := List.mem_of_find?_eq_some hp
  have hqm := List.mem_of_find?_eq_some hq
  clear hi hj hp hq h1
  induction O with
  | nil => cases hpm
  | cons x O ih =>
    simp only [List.map_cons, List.nodup_cons] at h
    rcases List.mem_cons.1 hpm with rfl | hpm'
    · rcases List.mem_cons.1 hqm with rfl | hqm'
      · rfl
      · exact absurd (by rw [e]; exact List.mem_map_of_mem (f := fun p : Nat × AObj => ρ p.1) hqm') h.1
    · rcases List.mem_cons.1 hqm with rfl | hqm'
      · exact absurd (by rw [← e]; exact List.mem_map_of_mem (f := fun p : Nat × AObj => ρ p.1) hpm') h.1
      · exact ih h.2 hpm' hqm'

theorem wrm_renO {ρ : Nat → Nat} {O : List (Nat × AObj)} (h : (O.map fun p => ρ p.1).Nodup) (f : Nat → Option AObj) :
    (∀ i o, ofL O i = some o → wrm f (renO ρ O) (ρ i) = some (o.ren ρ)) ∧ (∀ x, (∀ i, (ofL O i).isSome → ρ i ≠ x) → wrm f (renO ρ O) x = f x) := by
  obtain ⟨h1, hinj⟩ := nodup_of_map h
  have h2 : ((renO ρ O).map (·.1)).Nodup := by simpa [renO, Function.comp_def] using h
  have hfind : ∀ x, (renO ρ O).find? (fun p => p.1 == x) = (O.find? (fun p => ρ p.1 == x)).map fun p => (ρ p.1, p.2.ren ρ) := fun x => by
    simp only [renO, List.find?_map]; rfl
  refine ⟨fun i o hi => ?_, fun x hx => ?_⟩
  · rw [wrm_get _ _ h2, hfind]
    have hi' := hi
    rw [ofL_get O h1, Option.map_eq_some_iff] at hi
    obtain ⟨p, hp, rfl⟩ := hi
    have e1 := List.find?_some hp
    simp only [beq_iff_eq] at e1
    have hpm := List.mem_of_find?_eq_some hp
    cases hq : O.find? (fun p => ρ p.1 == ρ i) with
    | none => rw [List.find?_eq_none] at hq; exact absurd (by simp [e1]) (hq p hpm)
    | some q =>
      have e2 := List.find?_some hq
      simp only [beq_iff_eq] at e2
      have hqm := List.mem_of_find?_eq_some hq
      have hqs : (ofL O q.1).isSome := by
        rw [ofL_get O h1, Option.isSome_map, List.find?_isSome]; exact ⟨q, hqm, by simp⟩
      have hqi := hinj q.1 i hqs (by rw [hi']; rfl) e2
      have hfi : O.find? (fun p => p.1 == i) = some q := by
        have hq2 : O.find? (fun p => p.1 == i) ≠ none := by rw [hp]; simp
        -- distinct names: the two are one
        have uniq : ∀ (l : List (Nat × AObj)), (l.map (·.1)).Nodup → ∀ p q : Nat × AObj, p ∈ l → q ∈ l → p.1 = q.1 → p = q := by
          intro l
          induction l with
          | nil => intro _ p q hp; cases hp
          | cons x l ih =>
            intro hl p q hp hq e
            simp only [List.map_cons, List.nodup_cons] at hl
            rcases List.mem_cons.1 hp with rfl | hp'
            · rcases List.mem_cons.1 hq with rfl | hq'
              · rfl
              · exact absurd (by rw [e]; exact List.mem_map_of_mem hq') hl.1
            · rcases List.mem_cons.1 hq with rfl | hq'
              · exact absurd (by rw [← e]; exact List.mem_map_of_mem hp') hl.1
              · exact ih hl.2 p q hp' hq' e
        rw [hp, uniq O h1 p q hpm hqm (by rw [e1, hqi])]
      rw [hp] at hfi
      injection hfi with hfi
      subst hfi
      rfl
  · rw [wrm_get _ _ h2, hfind]
    cases hq : O.find? (fun p => ρ p.1 == x) with
    | none => rfl
    | some q =>
      have e2 := List.find?_some hq
      simp only [beq_iff_eq] at e2
      have hqm := List.mem_of_find?_eq_some hq
      exact absurd e2 (hx q.1 (by rw [ofL_get O h1, Option.isSome_map, List.find?_isSome]; exact ⟨q, hqm, by simp⟩))

/-- the caller's names for the callee's objects -/
noncomputable def joinOb (ρ : Nat → Nat) (O' : List (Nat × AObj)) (ob ob' : Place) : Place := fun x =>
  open Classical in if h : ∃ i, (ofL O' i).isSome ∧ ρ i = x then ob' h.choose else ob x

theorem joinOb_in {ρ : Nat → Nat} {O' : List (Nat × AObj)} {ob' : Place} (hinj : ∀ i j, (ofL O' i).isSome → (ofL O' j).isSome → ρ i = ρ j → i = j) {i : Nat} (hi : (ofL O' i).isSome) :
    joinOb ρ O' ob ob' (ρ i) = ob' i := by
  unfold joinOb
  have h : ∃ k, (ofL O' k).isSome ∧ ρ k = ρ i := ⟨i, hi, rfl⟩
  rw [dif_pos h]
  rw [hinj _ _ h.choose_spec.1 hi h.choose_spec.2]

theorem joinOb_out {ρ : Nat → Nat} {O' : List (Nat × AObj)} {ob' : Place} {x : Nat} (hx : ∀ i, (ofL O' i).isSome → ρ i ≠ x) : joinOb ρ O' ob ob' x = ob x := by
  unfold joinOb
  rw [dif_neg]
  rintro ⟨i, hi, rfl⟩
  exact hx i hi rfl

theorem merge {Ga Gf Gc : Nat → Prop} {w' : World} {ob' obc : Place} {ρ : Nat → Nat} {O O' : List (Nat × AObj)}
    (ha : SimO Ga w ob m) (hnd : (O'.map fun p => ρ p.1).Nodup)
    (hobc : ∀ i, obc i = if (ofL O i).isSome then ob (ρ i) else none)
    (hOO : ∀ i, (ofL O i).isSome → (ofL O' i).isSome)
    (hnew : ∀ i, (ofL O' i).isSome → (ofL O i).isSome ∨ ob (ρ i) = none)
    (hsub : ∀ b, Ga b → Gf b) (hfn : ∀ b, Gf b → Ga b ∨ w.heap.size ≤ b ∨ blks obc b) (hlt : ∀ b, Gf b → b < w'.heap.size)
    (hsame : ∀ b, b < w.heap.size → (Ga b ∨ ¬ blks obc b) → w'.heap[b]? = w.heap[b]?)
    (hblk : ∀ b, blks ob' b → blks obc b ∨ w.heap.size ≤ b) (hext : OBext obc ob')
    (hc : SimO Gc w' ob' (ofL O')) (hown : ∀ i o inf, ofL O' i = some o → ob' i = some inf → ObjRel Gf w' ob' inf o)
    (hsep : ∀ i o inf b, ofL O' i = some o → o.owned = true → ob' i = some inf → inf.blk = some b → ¬ Gf b) :
    SimO Gf w' (joinOb ρ O' ob ob') (wrm m (renO ρ O')) ∧ OBext ob (joinOb ρ O' ob ob') ∧
      (∀ b, blks (joinOb ρ O' ob ob') b → blks ob b ∨ w.heap.size ≤ b) ∧ (∀ i inf, ob' i = some inf → joinOb ρ O' ob ob' (ρ i) = some inf) ∧ (∀ b, blks obc b → blks ob b) := by
  obtain ⟨hnd1, hinj⟩ := nodup_of_map hnd
  obtain ⟨hw1, hw2⟩ := wrm_renO hnd m
  have hsome : ∀ i inf, ob' i = some inf → (ofL O' i).isSome := fun i inf hi => by
    cases ho : ofL O' i with
    | none => rw [(hc.dom i).1 ho] at hi; cases hi
    | some o => rfl
  have hren : ∀ i inf, ob' i = some inf → joinOb ρ O' ob ob' (ρ i) = some inf := fun i inf hi => by rw [joinOb_in hinj (hsome i inf hi)]; exact hi
  have himg : ∀ x, (∃ i, (ofL O' i).isSome ∧ ρ i = x) ∨ (∀ i, (ofL O' i).isSome → ρ i ≠ x) := fun x => by
    by_cases h : ∃ i, (ofL O' i).isSome ∧ ρ i = x
    · exact .inl h
    · exact .inr fun i hi e => h ⟨i, hi, e⟩
  have hbsub : ∀ b, blks obc b → ∃ i inf, (ofL O i).isSome ∧ ob (ρ i) = some inf ∧ inf.blk = some b := by
    rintro b ⟨i, inf, hi, hb⟩
    rw [hobc] at hi
    split at hi
    · exact ⟨i, inf, by assumption, hi, hb⟩
    · cases hi
  have holdlt : ∀ x inf b, ob x = some inf → inf.blk = some b → b < w.heap.size := fun x inf b hx hb => by
    cases ho : m x with
    | none => rw [(ha.dom x).1 ho] at hx; cases hx
    | some o => exact (ha.own x o inf ho hx).blk_lt hb
  -- an old object that the callee did not get
  have hout : ∀ x inf b, (∀ i, (ofL O' i).isSome → ρ i ≠ x) → ob x = some inf → inf.blk = some b → ¬ blks obc b := fun x inf b hx hox hb hbc => by
    obtain ⟨i, inf', hi, hoi, hbi⟩ := hbsub b hbc
    exact hx i (hOO i hi) (ha.inj _ _ _ _ b hoi hox hbi hb)
  have hOB : OBext ob (joinOb ρ O' ob ob') := fun x inf hx => by
    rcases himg x with ⟨i, hi, rfl⟩ | h
    · rw [joinOb_in hinj hi]
      rcases hnew i hi with hO | hn
      · exact hext i inf (by rw [hobc, if_pos hO]; exact hx)
      · rw [hn] at hx; cases hx
    · exact ⟨inf, by rw [joinOb_out h]; exact hx, .inl rfl⟩
  refine ⟨⟨?_, ?_, hlt, ?_, ?_⟩, hOB, ?_, hren, fun b hb => let ⟨i, inf, _, h1, h2⟩ := hbsub b hb; ⟨_, inf, h1, h2⟩⟩
  · intro x
    rcases himg x with ⟨i, hi, rfl⟩ | h
    · obtain ⟨o, ho⟩ := Option.isSome_iff_exists.1 hi
      rw [hw1 i o ho, joinOb_in hinj hi]
      constructor
      · intro h; cases h
      · intro h; rw [(hc.dom i).2 h] at ho; cases ho
    · rw [hw2 x h, joinOb_out h]; exact ha.dom x
  · intro x y i j b hx hy hbx hby
    rcases himg x with ⟨p, hp, rfl⟩ | hx'
    · rw [joinOb_in hinj hp] at hx
      rcases himg y with ⟨q, hq, rfl⟩ | hy'
      · rw [joinOb_in hinj hq] at hy
        rw [hc.inj _ _ _ _ b hx hy hbx hby]
      · rw [joinOb_out hy'] at hy
        rcases hblk b ⟨p, i, hx, hbx⟩ with h | h
        · exact absurd h (hout y j b hy' hy hby)
        · have := holdlt y j b hy hby; omega
    · rw [joinOb_out hx'] at hx
      rcases himg y with ⟨q, hq, rfl⟩ | hy'
      · rw [joinOb_in hinj hq] at hy
        rcases hblk b ⟨q, j, hy, hby⟩ with h | h
        · exact absurd h (hout x i b hx' hx hbx)
        · have := holdlt x i b hx hbx; omega
      · rw [joinOb_out hy'] at hy
        exact ha.inj _ _ _ _ b hx hy hbx hby
  · intro x o inf hm hx
    rcases himg x with ⟨i, hi, rfl⟩ | h
    · obtain ⟨o', ho'⟩ := Option.isSome_iff_exists.1 hi
      rw [hw1 i o' ho'] at hm
      injection hm with hm
      subst hm
      rw [joinOb_in hinj hi] at hx
      exact (hown i o' inf ho' hx).ren hren
    · rw [hw2 x h] at hm
      rw [joinOb_out h] at hx
      have hr := ha.own x o inf hm hx
      exact hr.ext hsub (fun b hb => hsame b (ha.lt b hb) (.inl hb)) hOB fun b hb => hsame b (hr.blk_lt hb) (.inr (hout x inf b h hx hb))
  · intro x o inf b hm how hx hb
    rcases himg x with ⟨i, hi, rfl⟩ | h
    · obtain ⟨o', ho'⟩ := Option.isSome_iff_exists.1 hi
      rw [hw1 i o' ho'] at hm
      injection hm with hm
      subst hm
      rw [joinOb_in hinj hi] at hx
      exact hsep i o' inf b ho' (by cases o' <;> simp_all [AObj.ren, AObj.owned]) hx hb
    · rw [hw2 x h] at hm
      rw [joinOb_out h] at hx
      intro hG
      rcases hfn b hG with h1 | h1 | h1
      · exact ha.sep x o inf b hm how hx hb h1
      · have := holdlt x inf b hx hb; omega
      · exact hout x inf b h hx hb h1
  · rintro b ⟨x, inf, hx, hb⟩
    rcases himg x with ⟨i, hi, rfl⟩ | h
    · rw [joinOb_in hinj hi] at hx
      rcases hblk b ⟨i, inf, hx, hb⟩ with h | h
      · obtain ⟨k, inf', _, h1, h2⟩ := hbsub b h
        exact .inl ⟨_, inf', h1, h2⟩
      · exact .inr h
    · rw [joinOb_out h] at hx
      exact .inl ⟨x, inf, hx, hb⟩
end
end Go.Abs
