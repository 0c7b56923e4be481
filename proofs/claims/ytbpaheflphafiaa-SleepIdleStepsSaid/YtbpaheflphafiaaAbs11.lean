/- The abstract layer, part 11: a call by a contract, in the caller's own names. -/
import Derived.Test.YtbpaheflphafiaaAbs10
set_option linter.unusedSimpArgs false
set_option linter.unusedVariables false
set_option linter.unnecessarySimpa false
namespace Go.Abs
section
variable {P : Program} {G : Nat → Prop} {w : World} {ob : Place} {m : Nat → Option AObj}

/-- an argument as a callee without the caller's objects sees it -/
def freezeAV (m : Nat → Option AObj) : AV → Option (Prop × AV × List (Nat × AObj))
  | .agg cs => match freezeL m cs with
    | some (p, cs', wr) => some (p, .agg cs', wr)
    | none => none
  | .tup _ => none
  | v => freezeCell m v

theorem freezeAV_ok {c c' : AV} {p : Prop} {wr : List (Nat × AObj)} {v : Value} (hf : freezeAV m c = some (p, c', wr)) (hp : p) {m1 : Nat → Option AObj}
    (hs : SimO G w ob m1) (ha : Agree m m1) (hr : Rel G w ob c v) :
    ∃ G2, SimO G2 w ob (wrm m1 wr) ∧ Agree m (wrm m1 wr) ∧ (∀ b, G b → G2 b) ∧ (∀ b, G2 b → G b ∨ blks ob b) ∧ c'.flat = true ∧ Rel G2 w ob c' v := by
  have one : freezeCell m c = some (p, c', wr) → ∃ G2, SimO G2 w ob (wrm m1 wr) ∧ Agree m (wrm m1 wr) ∧ (∀ b, G b → G2 b) ∧ (∀ b, G2 b → G b ∨ blks ob b) ∧ c'.flat = true ∧ Rel G2 w ob c' v := fun h => by
    obtain ⟨G2, a1, a2, a3, a4, a5, a6⟩ := freezeCell_ok h hp hs ha hr
    exact ⟨G2, a1, a2, a3, a4, by cases c' <;> simp_all [AV.flat, AV.pure], a6⟩
  cases c with
  | agg cs =>
    simp only [freezeAV] at hf
    split at hf
    · rename_i p1 cs' w1 h1
      simp only [Option.some.injEq, Prod.mk.injEq] at hf
      obtain ⟨rfl, rfl, rfl⟩ := hf
      cases hr with
      | agg vs hn ho hrr =>
        obtain ⟨G2, a1, a2, a3, a4, a5, a6⟩ := freezeL_ok cs cs' p1 w1 (fun j => vs.getD j undef) G m1 h1 hp hs ha hrr
        refine ⟨G2, a1, a2, a3, a4, ?_, .agg vs (by rw [hn, a5]) (fun j av hj => pure_one (a6 j av hj).1) (fun j av hj => (a6 j av hj).2)⟩
        simp only [AV.flat, List.all_eq_true]
        intro av hav
        obtain ⟨j, hj⟩ := List.getElem?_of_mem hav
        exact (a6 j av hj).1
    · cases hf
  | tup cs => simp [freezeAV] at hf
  | _ => exact one (by simpa only [freezeAV] using hf)

def ArgsOk (m : Nat → Option AObj) (ρ : Nat → Nat) (O : List (Nat × AObj)) : List Bool → List AV → List AV → List (Nat × AObj) → Prop
  | [], [], [], wr => wr = []
  | true :: md, av :: avs, c :: cs, wr => c.ren ρ = av ∧ (∀ i ∈ c.ids, (ofL O i).isSome) ∧ ArgsOk m ρ O md avs cs wr
  | false :: md, av :: avs, c :: cs, wr => ∃ p w1 w2, freezeAV m av = some (p, c, w1) ∧ p ∧ wr = w1 ++ w2 ∧ ArgsOk m ρ O md avs cs w2
  | _, _, _, _ => False

theorem argsOk_ok {ρ : Nat → Nat} {O : List (Nat × AObj)} : ∀ (md : List Bool) (avs cargs : List AV) (wr : List (Nat × AObj)) (v : Nat → Value) (G : Nat → Prop) (m1 : Nat → Option AObj),
    ArgsOk m ρ O md avs cargs wr → SimO G w ob m1 → Agree m m1 → (∀ (j : Nat) (av : AV), avs[j]? = some av → Rel G w ob av (v j)) →
    ∃ G2, SimO G2 w ob (wrm m1 wr) ∧ Agree m (wrm m1 wr) ∧ (∀ b, G b → G2 b) ∧ (∀ b, G2 b → G b ∨ blks ob b) ∧ cargs.length = avs.length ∧
      ∀ (j : Nat) (c : AV), cargs[j]? = some c → (c.flat = true ∧ Rel G2 w ob c (v j)) ∨ ((∀ i ∈ c.ids, (ofL O i).isSome) ∧ Rel G2 w ob (c.ren ρ) (v j))
  | [], [], [], wr, v, G, m1, h, hs, ha, hr => by
    simp only [ArgsOk] at h; subst h
    exact ⟨G, hs, ha, fun _ h => h, fun _ h => .inl h, rfl, fun j c h => by simp at h⟩
  | true :: md, av :: avs, c :: cs, wr, v, G, m1, h, hs, ha, hr => by
    simp only [ArgsOk] at h
    obtain ⟨h1, h2, h3⟩ := h
    obtain ⟨G2, a1, a2, a3, a4, a5, a6⟩ := argsOk_ok md avs cs wr (fun j => v (j + 1)) G m1 h3 hs ha (fun j av hj => hr (j + 1) av (by simpa using hj))
    refine ⟨G2, a1, a2, a3, a4, by simp [a5], fun j c' hj => ?_⟩
    cases j with
    | zero =>
      simp only [List.getElem?_cons_zero, Option.some.injEq] at hj; subst hj
      exact .inr ⟨h2, by rw [h1]; exact (hr 0 av (by simp)).ext a3 (fun _ _ => rfl) (OBext.refl ob)⟩
    | succ j => simp only [List.getElem?_cons_succ] at hj; exact a6 j c' hj
  | false :: md, av :: avs, c :: cs, wr, v, G, m1, h, hs, ha, hr => by
    simp only [ArgsOk] at h
    obtain ⟨p, w1, w2, h1, h2, rfl, h3⟩ := h
    obtain ⟨G1, b1, b2, b3, b4, b5, b6⟩ := freezeAV_ok h1 h2 hs ha (hr 0 av (by simp))
    obtain ⟨G2, a1, a2, a3, a4, a5, a6⟩ := argsOk_ok md avs cs w2 (fun j => v (j + 1)) G1 _ h3 b1 b2 (fun j av hj => (hr (j + 1) av (by simpa using hj)).ext b3 (fun _ _ => rfl) (OBext.refl ob))
    refine ⟨G2, by rw [wrm_append]; exact a1, by rw [wrm_append]; exact a2, fun b h => a3 b (b3 b h), fun b h => ?_, by simp [a5], fun j c' hj => ?_⟩
    · rcases a4 b h with h | h
      · exact b4 b h
      · exact .inr h
    · cases j with
      | zero =>
        simp only [List.getElem?_cons_zero, Option.some.injEq] at hj; subst hj
        exact .inl ⟨b5, b6.ext a3 (fun _ _ => rfl) (OBext.refl ob)⟩
      | succ j => simp only [List.getElem?_cons_succ] at hj; exact a6 j c' hj
  | [], _ :: _, _, _, _, _, _, h, _, _, _ => by simp [ArgsOk] at h
  | [], [], _ :: _, _, _, _, _, h, _, _, _ => by simp [ArgsOk] at h
  | true :: _, [], _, _, _, _, _, h, _, _, _ => by simp [ArgsOk] at h
  | true :: _, _ :: _, [], _, _, _, _, h, _, _, _ => by simp [ArgsOk] at h
  | false :: _, [], _, _, _, _, _, h, _, _, _ => by simp [ArgsOk] at h
  | false :: _, _ :: _, [], _, _, _, _, h, _, _, _ => by simp [ArgsOk] at h

/-- what a call by a contract comes to -/
inductive CallDoes (P : Program) (m : Nat → Option AObj) (f : FuncId) (avs : List AV) : Res → Prop
  | mk (md : List Bool) (cargs : List AV) (O : List (Nat × AObj)) (r : AV) (O' : List (Nat × AObj)) (ρ : Nat → Nat) (wr : List (Nat × AObj)) (keep : Bool)
      (spec : CallsA P f cargs O r O') (ha : ArgsOk m ρ O md avs cargs wr)
      (hO : ∀ i o, ofL O i = some o → wrm m wr (ρ i) = some (o.ren ρ))
      (hOc : ∀ i cs, ofL O i = some (.box cs) → ∀ j ∈ idsL cs, (ofL O j).isSome)
      (hOO : ∀ i, (ofL O i).isSome → (ofL O' i).isSome)
      (hnew : ∀ i, (ofL O' i).isSome → (ofL O i).isSome ∨ m (ρ i) = none)
      (hnd : (O'.map fun p => ρ p.1).Nodup)
      (hk : keep = true → r.noDsl = true ∧ ∀ i o, ofL O' i = some o → o.NoDsl) :
      CallDoes P m f avs ⟨some (r.ren ρ), (if keep then [] else wr) ++ renO ρ O'⟩

theorem CallDoes.callable {f : FuncId} {avs : List AV} {r : Res} (h : CallDoes P m f avs r) : callableB P f = true := by
  cases h with
  | mk md cargs O r O' ρ wr keep spec => exact spec.1

theorem callDoes_ok {f : FuncId} {avs : List AV} {r : Res} (h : CallDoes P m f avs r) {vals : List Value} (hs : SimO G w ob m) (hv : RelL G w ob avs vals) :
    Calls P f vals.toArray w fun e w' => ∃ v G' ob', e = .returned v ∧ SimO G' w' ob' (wrm m r.wr) ∧ (∀ av, r.val = some av → Rel G' w' ob' av v) ∧ OBext ob ob' ∧ Fr G w ob G' w' ob' := by
  cases h with
  | mk md cargs O r O' ρ wr keep spec ha hO hOc hOO hnew hnd hk =>
    obtain ⟨G2, a1, a2, a3, a4, a5, a6⟩ := argsOk_ok md avs cargs wr (fun j => vals.getD j undef) G m ha hs (Agree.refl m) hv.2
    obtain ⟨_, hinj'⟩ := nodup_of_map hnd
    have hinj : ∀ i j, (ofL O i).isSome → (ofL O j).isSome → ρ i = ρ j → i = j := fun i j hi hj => hinj' i j (hOO i hi) (hOO j hj)
    let obc : Place := fun i => if (ofL O i).isSome then ob (ρ i) else none
    have hobc : ∀ i, obc i = if (ofL O i).isSome then ob (ρ i) else none := fun _ => rfl
    have hob1 : ∀ i, (ofL O i).isSome → obc i = ob (ρ i) := fun i hi => by rw [hobc, if_pos hi]
    have hobs : ∀ i inf, obc i = some inf → (ofL O i).isSome ∧ ob (ρ i) = some inf := fun i inf h => by
      rw [hobc] at h; split at h
      · exact ⟨by assumption, h⟩
      · cases h
    have hsc : SimO G2 w obc (ofL O) := by
      refine ⟨fun i => ?_, fun i j inf inf' b hi hj hb hb' => ?_, a1.lt, fun i o inf ho hi => ?_, fun i o inf b ho how hi hb => ?_⟩
      · constructor
        · intro h; rw [hobc, h]; rfl
        · intro h
          cases ho : ofL O i with
          | none => rfl
          | some o =>
            rw [hobc, ho] at h
            simp only [Option.isSome_some, if_true] at h
            have := hO i o ho
            rw [(a1.dom _).2 h] at this
            cases this
      · obtain ⟨h1, h2⟩ := hobs i inf hi
        obtain ⟨h3, h4⟩ := hobs j inf' hj
        exact hinj i j h1 h3 (a1.inj _ _ _ _ b h2 h4 hb hb')
      · obtain ⟨h1, h2⟩ := hobs i inf hi
        exact (a1.own _ _ inf (hO i o ho) h2).unren (fun cs hc j hj => hob1 j (hOc i cs (by rw [ho, hc]) j hj))
      · obtain ⟨h1, h2⟩ := hobs i inf hi
        exact a1.sep _ _ inf b (hO i o ho) (by cases o <;> simp_all [AObj.ren, AObj.owned]) h2 hb
    have hrl : RelL G2 w obc cargs vals := by
      refine ⟨by rw [hv.1, a5], fun j c hj => ?_⟩
      rcases a6 j c hj with ⟨h1, h2⟩ | ⟨h1, h2⟩
      · exact h2.flat_free h1
      · exact h2.unren c rfl fun i hi => hob1 i (h1 i hi)
    refine (spec.2 G2 w obc vals hsc hrl).mono ?_
    rintro e w' ⟨v, G', ob', rfl, s1, s2, s3, s4⟩
    have hbs : ∀ b, blks obc b → blks ob b := by
      rintro b ⟨i, inf, hi, hb⟩; exact ⟨_, inf, (hobs i inf hi).2, hb⟩
    have hnew2 : ∀ i, (ofL O' i).isSome → (ofL O i).isSome ∨ ob (ρ i) = none := fun i hi => (hnew i hi).imp id fun h => (hs.dom _).1 h
    cases keep with
    | false =>
      obtain ⟨m1, m2, m3, m4, m5⟩ := merge (Gf := G') a1 hnd hobc hOO hnew2 s3.sub s3.new s1.lt s3.same s3.blk s4 s1 (fun i o inf ho hi => s1.own i o inf ho hi) (fun i o inf b => s1.sep i o inf b)
      refine ⟨v, G', joinOb ρ O' ob ob', rfl, by rw [if_neg (by simp), wrm_append]; exact m1, fun av hav => ?_, m2, ?_⟩
      · injection hav with hav; subst hav; exact s2.ren m4
      · refine ⟨s3.size, fun b hb hc => s3.same b hb ?_, m3, fun b h => s3.sub b (a3 b h), fun b h => ?_, s3.os, s3.tape, s3.output⟩
        · rcases hc with hc | hc
          · exact .inl (a3 b hc)
          · exact .inr fun h => hc (hbs b h)
        · rcases s3.new b h with h | h | h
          · rcases a4 b h with h | h
            · exact .inl h
            · exact .inr (.inr h)
          · exact .inr (.inl h)
          · exact .inr (.inr (hbs b h))
    | true =>
      obtain ⟨hk1, hk2⟩ := hk rfl
      obtain ⟨m1, m2, m3, m4, m5⟩ := merge (Gf := G) hs hnd hobc hOO hnew2 (fun _ h => h) (fun _ h => .inl h) (fun b h => Nat.lt_of_lt_of_le (hs.lt b h) s3.size)
        (fun b hb hc => s3.same b hb (hc.imp (a3 b) id)) s3.blk s4 s1 (fun i o inf ho hi => (s1.own i o inf ho hi).noDsl (hk2 i o ho)) (fun i o inf b ho how hi hb hG => s1.sep i o inf b ho how hi hb (s3.sub b (a3 b hG)))
      refine ⟨v, G, joinOb ρ O' ob ob', rfl, by simpa using m1, fun av hav => ?_, m2, ?_⟩
      · injection hav with hav; subst hav; exact (s2.noDsl hk1).ren m4
      · refine ⟨s3.size, fun b hb hc => s3.same b hb ?_, m3, fun _ h => h, fun _ h => .inl h, s3.os, s3.tape, s3.output⟩
        rcases hc with hc | hc
        · exact .inl (a3 b hc)
        · exact .inr fun h => hc (hbs b h)
end
end Go.Abs
