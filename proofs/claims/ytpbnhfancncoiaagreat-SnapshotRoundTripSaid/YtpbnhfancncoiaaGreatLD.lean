/- A part of the proof: what a function does, over abstract values and objects, and its ties to the model. -/
import Derived.Test.YtpbnhfancncoiaaGreatLC
import Derived.Recover
set_option linter.unusedSimpArgs false
set_option linter.unusedVariables false
set_option linter.unnecessarySimpa false
set_option maxRecDepth 100000
set_option maxHeartbeats 2000000
section
namespace Go.Abs
structure FrD (G : Nat → Prop) (w : World) (ob : Place) (w' : World) : Prop where
  size : w.heap.size ≤ w'.heap.size
  same : ∀ b, b < w.heap.size → (G b ∨ ¬ blks ob b) → w'.heap[b]? = w.heap[b]?
  os : w'.os = w.os
  tape : w'.tape = w.tape
  output : w'.output = w.output
class ContD where
  ev : Int → Value
  d : Int → Prop
def CallsDie (P : Program) (ev : Int → Value) (f : FuncId) (args : List AV) (O : List (Nat × AObj)) (n : Int) : Prop :=
  callableB P f = true ∧ ∀ (G : Nat → Prop) (w : World) (ob : Place) (vals : List Value), SimO G w ob (ofL O) → RelL G w ob args vals →
    Calls P f vals.toArray w fun e w' => e = .panicked [{ v := ev n, recovered := false }] ∧ FrD G w ob w'
def CallsT (P : Program) (ev : Int → Value) (f : FuncId) (args : List AV) (O : List (Nat × AObj)) : Except Int (List AV × List (Nat × AObj)) → Prop
  | .ok (rs, O') => CallsA P f args O (pack rs) O'
  | .error n => CallsDie P ev f args O n
section
variable {P : Program}
theorem Fr.thenD {G G1 : Nat → Prop} {w w1 w2 : World} {ob ob1 : Place} (h : Fr G w ob G1 w1 ob1) (h' : FrD G1 w1 ob1 w2) : FrD G w ob w2 where
  size := Nat.le_trans h.size h'.size
  same := fun b hb hc => by
    rw [h'.same b (Nat.lt_of_lt_of_le hb h.size) ?_, h.same b hb hc]
    rcases hc with hc | hc
    · exact .inl (h.sub b hc)
    · exact .inr fun hk => (h.blk b hk).elim hc (by omega)
  os := h'.os.trans h.os
  tape := h'.tape.trans h.tape
  output := h'.output.trans h.output
def DieDoes (P : Program) (ev : Int → Value) (D : Int → Prop) (m : Nat → Option AObj) (f : FuncId) (avs : List AV) : Prop :=
  ∃ (md : List Bool) (cargs : List AV) (O : List (Nat × AObj)) (ρ : Nat → Nat) (wr : List (Nat × AObj)) (n : Int), D n ∧ CallsDie P ev f cargs O n ∧ ArgsOk m ρ O md avs cargs wr ∧
    (∀ i o, ofL O i = some o → wrm m wr (ρ i) = some (o.ren ρ)) ∧ (∀ i cs, ofL O i = some (.box cs) → ∀ j ∈ idsL cs, (ofL O j).isSome) ∧
    (∀ i j, (ofL O i).isSome → (ofL O j).isSome → ρ i = ρ j → i = j)
theorem dieDoes_ok {ev : Int → Value} {D : Int → Prop} {m : Nat → Option AObj} {G : Nat → Prop} {w : World} {ob : Place} {f : FuncId} {avs : List AV} (h : DieDoes P ev D m f avs) {vals : List Value} (hs : SimO G w ob m) (hv : RelL G w ob avs vals) :
    Calls P f vals.toArray w fun e w' => ∃ n, D n ∧ e = .panicked [{ v := ev n, recovered := false }] ∧ FrD G w ob w' := by
  obtain ⟨md, cargs, O, ρ, wr, n, hn, spec, ha, hO, hOc, hinj⟩ := h
  obtain ⟨G2, a1, a2, a3, a4, a5, a6⟩ := argsOk_ok md avs cargs wr (fun j => vals.getD j undef) G m ha hs (Agree.refl m) hv.2
  let obc : Place := fun i => if (ofL O i).isSome then ob (ρ i) else none
  have hobc : ∀ i, obc i = if (ofL O i).isSome then ob (ρ i) else none := fun _ => rfl
  have hob1 : ∀ i, (ofL O i).isSome → obc i = ob (ρ i) := fun i hi => by rw [hobc, if_pos hi]
  have hobs : ∀ i inf, obc i = some inf → (ofL O i).isSome ∧ ob (ρ i) = some inf := fun i inf h => by
    rw [hobc] at h; split at h
    · exact ⟨by assumption, h⟩
    · cases h
  have hsc : SimO G2 w obc (ofL O) := by
    refine ⟨fun i => ?_, fun i j inf inf' b hi hj hb hb' => ?_, a1.lt, fun i o inf ho hi => ?_, fun i o inf b ho how hi hb => ?_⟩
    · constructor
      · intro h; rw [hobc, h]; rfl
      · intro h
        cases ho : ofL O i with
        | none => rfl
        | some o =>
          rw [hobc, ho] at h
          simp only [Option.isSome_some, if_true] at h
          have := hO i o ho
          rw [(a1.dom _).2 h] at this
          cases this
    · obtain ⟨h1, h2⟩ := hobs i inf hi
      obtain ⟨h3, h4⟩ := hobs j inf' hj
      exact hinj i j h1 h3 (a1.inj _ _ _ _ b h2 h4 hb hb')
    · obtain ⟨h1, h2⟩ := hobs i inf hi
      exact (a1.own _ _ inf (hO i o ho) h2).unren (fun cs hc j hj => hob1 j (hOc i cs (by rw [ho, hc]) j hj))
    · obtain ⟨h1, h2⟩ := hobs i inf hi
      exact a1.sep _ _ inf b (hO i o ho) (by cases o <;> simp_all [AObj.ren, AObj.owned]) h2 hb
  have hrl : RelL G2 w obc cargs vals := by
    refine ⟨by rw [hv.1, a5], fun j c hj => ?_⟩
    rcases a6 j c hj with ⟨h1, h2⟩ | ⟨h1, h2⟩
    · exact h2.flat_free h1
    · exact h2.unren c rfl fun i hi => hob1 i (h1 i hi)
  refine (spec.2 G2 w obc vals hsc hrl).mono ?_
  rintro e w' ⟨rfl, s⟩
  refine ⟨n, hn, rfl, s.size, fun b hb hc => s.same b hb ?_, s.os, s.tape, s.output⟩
  rcases hc with hc | hc
  · exact .inl (a3 b hc)
  · exact .inr fun ⟨i, inf, hi, hb'⟩ => hc ⟨_, inf, (hobs i inf hi).2, hb'⟩
theorem DieDoes.callable {ev : Int → Value} {D : Int → Prop} {m : Nat → Option AObj} {f : FuncId} {avs : List AV} (h : DieDoes P ev D m f avs) : callableB P f = true := by
  obtain ⟨md, cargs, O, ρ, wr, n, hn, spec, _⟩ := h
  exact spec.1
def wdie (P : Program) (ev : Int → Value) (D : Int → Prop) (o : AOper) (σ : St) : Prop :=
  guardV σ o.guard = some true ∧ ∃ f avs, target σ o.op = some (f, avs) ∧ allC σ true o.op.ops ∧ DieDoes P ev D σ.objs f avs
variable {N : Nat} {σ : St} {a : Act} {w : World} {ob : Place} {G : Nat → Prop}
theorem call_run {ops : Array Oper} {o : Oper} {ao : AOper} (hc : coper P N ops o = some ao) (hs : Sim N σ a w ob G) {f : FuncId} {avs : List AV}
    (ht : target σ ao.op = some (f, avs)) (hcc : allC σ true ao.op.ops) (hcall : callableB P f = true) :
    ∃ vals : List Value, (execOp a.eval o).run P w = .ok (.enter f vals.toArray) w ∧ RelL G w ob avs vals := by
  obtain ⟨hop, hdst, hdN⟩ := coper_parts hc
  have hcc' := allC_spec hcc
  have hop' : cop P o.op = some ao.op := by
    unfold copB at hop
    split at hop
    · rename_i a ha; rw [ha, hop]
    · exfalso; rw [← hop] at ht; simp [target] at ht
  replace hop := hop'
  obtain ⟨dst, op, type, pos, after, guard⟩ := o
  simp only at hop
  obtain ⟨cl, rfl⟩ := (cop_kind hop).2 (target_isCall ht)
  simp only [cop] at hop
  obtain ⟨callee, args, argTypes⟩ := cl
  obtain ⟨args⟩ := args
  obtain ⟨argTypes⟩ := argTypes
  simp only at hop
  split at hop
  · exfalso; split at hop <;> simp only [Option.some.injEq, reduceCtorEq] at hop <;> (rw [← hop] at ht; simp [target] at ht)
  · exfalso
    split at hop
    · split at hop
      · split at hop
        · split at hop
          · simp only [Option.some.injEq] at hop; rw [← hop] at ht; simp [target] at ht
          · split at hop
            · simp only [Option.some.injEq] at hop; rw [← hop] at ht; simp [target] at ht
            · cases hop
        · cases hop
      · cases hop
    · cases hop
  · exfalso; split at hop <;> simp only [Option.some.injEq, reduceCtorEq] at hop; rw [← hop] at ht; simp [target] at ht
  · exfalso
    split at hop
    · split at hop <;> simp only [Option.some.injEq, reduceCtorEq] at hop
      rw [← hop] at ht; simp [target] at ht
    · cases hop
  · exfalso; split at hop <;> simp only [Option.some.injEq, reduceCtorEq] at hop; rw [← hop] at ht; simp [target] at ht
  · exfalso; split at hop <;> simp only [Option.some.injEq, reduceCtorEq] at hop; rw [← hop] at ht; simp [target] at ht
  · split at hop
    case h_2 => cases hop
    split at hop
    case isFalse => cases hop
    split at hop
    case h_2 => cases hop
    rename_i al hal
    simp only [Option.some.injEq] at hop
    rw [← hop] at ht hcc'
    simp only [target] at ht
    split at ht
    case h_2 => cases ht
    rename_i vs hvs
    simp only [Option.some.injEq, Prod.mk.injEq] at ht
    obtain ⟨rfl, rfl⟩ := ht
    refine ⟨args.map a.eval, ?_, args_rel hs hal hvs hcc'⟩
    simp [execOp, resolve, Act.eval, Deferred.ofValue, invoke, run_callFunc hcall]
  · rename_i x _
    split at hop
    case h_2 => cases hop
    rename_i ax al hax hal
    simp only [Option.some.injEq] at hop
    rw [← hop] at ht hcc'
    simp only [target] at ht
    split at ht
    case h_2 => cases ht
    rename_i f' first cap vs hfv hvs
    simp only [Option.some.injEq, Prod.mk.injEq] at ht
    obtain ⟨rfl, rfl⟩ := ht
    have hxr := hs.opRel x ax _ hax (by rw [← e_eq_e' (hcc' ax (by simp [AOp.ops]))]; exact hfv)
    have har := args_rel hs hal hvs (fun x hx => hcc' x (by simp [AOp.ops, hx]))
    generalize hxv : a.eval x = xv at hxr
    cases hxr with
    | fn fs us hn hm hr hq =>
      refine ⟨fs.toList ++ args.map a.eval ++ us.toList, ?_, relL_append (relL_append ⟨by simp [hn], fun j av hj => by simpa using hr j av hj⟩ har) ⟨by simp [hm], fun j av hj => by simpa using hq j av hj⟩⟩
      simp [execOp, resolve, hxv, Deferred.ofValue, invoke, run_callFunc hcall]
  · cases hop
theorem wdie_ok {ev : Int → Value} {D : Int → Prop} {ops : Array Oper} {o : Oper} {ao : AOper} (hc : coper P N ops o = some ao) (hs : Sim N σ a w ob G) (hd : wdie P ev D ao σ)
    {K : Act → World → Prop} {Q : Exit → Act → World → Prop} (hQ : ∀ n w', D n → FrD G w ob w' → Q (.panic [{ v := ev n, recovered := false }]) a w') :
    Region.wanted o (yielded ops a.tmps) = true ∧ o.wp P a w K Q := by
  obtain ⟨hg, f, avs, ht, hcc, hdd⟩ := hd
  refine ⟨guard_wanted hs hc hg, ?_⟩
  obtain ⟨vals, hrun, hrel⟩ := call_run hc hs ht hcc hdd.callable
  unfold Oper.wp
  rw [hrun]
  simp only [Oper.upon]
  refine (dieDoes_ok hdd hs.objs hrel).mono ?_
  rintro e w' ⟨n, hn, rfl, hfr⟩
  exact hQ n w' hn hfr
def wopT (P : Program) (ev : Int → Value) (D : Int → Prop) (o : AOper) (σ : St) (K : Bool → Res → Prop) : Prop := wop P o σ K ∨ wdie P ev D o σ
def wseqT (P : Program) (ev : Int → Value) (D : Int → Prop) : List AOper → (St → Prop) → St → Prop
  | [], Q, σ => Q σ
  | o :: os, Q, σ => wopT P ev D o σ fun b r => wseqT P ev D os Q (σ.put o.dst b r)
theorem wseqT_ok {ev : Int → Value} {D : Int → Prop} {ops : Array Oper} {Q : St → Prop} {R : Exit → Act → World → Prop} : ∀ (l : List Oper) (as : List AOper) (k : Nat) (σ : St) (a : Act) (w : World) (ob : Place) (G : Nat → Prop),
    copers P N ops l = some as → (∀ i o, l[i]? = some o → ops[k + i]? = some o) → Sim N σ a w ob G → wseqT P ev D as Q σ →
    (∀ τ a' w' ob' G', Q τ → Sim N τ a' w' ob' G' → Fr G w ob G' w' ob' → OBext ob ob' → R .normal a' w') →
    (∀ n a' w', D n → a'.defers = [] → FrD G w ob w' → R (.panic [{ v := ev n, recovered := false }]) a' w') →
    wpOps P ops R (List.range' k l.length) a w
  | [], as, k, σ, a, w, ob, G, hc, hl, hs, h, hQ, hD => by
    simp only [copers, Option.some.injEq] at hc; subst hc
    exact hQ σ a w ob G h hs (Fr.refl G w ob) (OBext.refl ob)
  | o :: l, as, k, σ, a, w, ob, G, hc, hl, hs, h, hQ, hD => by
    simp only [copers] at hc
    split at hc
    case h_2 => cases hc
    rename_i ao as' h1 h2
    simp only [Option.some.injEq] at hc; subst hc
    have ho : ops[k]? = some o := by simpa using hl 0 o (by simp)
    simp only [List.length_cons, List.range'_succ]
    simp only [wpOps, ho]
    rcases h with h | h
    · obtain ⟨b, r, hd, hk⟩ := wop_does h
      have := does_ok (K := wpOps P ops R (List.range' (k + 1) l.length)) (Q := R) h1 hs hd (fun a' w' ob' G' s f e => wseqT_ok l as' (k + 1) _ a' w' ob' G' h2
        (fun i o' hi => by have := hl (i + 1) o' (by simpa using hi); rwa [show k + (i + 1) = k + 1 + i by omega] at this) s hk
        (fun τ a'' w'' ob'' G'' q s' f' e' => hQ τ a'' w'' ob'' G'' q s' (f.trans f') (e.trans e'))
        (fun n a'' w'' hn hd' hf' => hD n a'' w'' hn hd' (f.thenD hf')))
      by_cases hw : Region.wanted o (yielded ops a.tmps) = true
      · rw [if_pos hw] at this ⊢; exact .inl this
      · rw [if_neg hw] at this ⊢; exact this
    · obtain ⟨hw, hwp⟩ := wdie_ok (K := wpOps P ops R (List.range' (k + 1) l.length)) (Q := R) h1 hs h (fun n w' hn hf => hD n a w' hn hs.defers hf)
      rw [if_pos hw]; exact .inl hwp
end
def liftT (K : List Nat) (N : Nat) (Γ : Start) (ev : Int → Value) (D : Int → Prop) (Q : Out → St → Prop) : Exit → Act → World → Prop := fun e a w =>
  lift K N Γ Q e a w ∨ ∃ n, D n ∧ e = .panic [{ v := ev n, recovered := false }] ∧ a.defers = [] ∧ FrD Γ.G Γ.w Γ.ob w
def WpT (P : Program) (N : Nat) (K : List Nat) (ev : Int → Value) (D : Int → Prop) (ac : ACode) (Q : Out → St → Prop) (σ : St) : Prop :=
  ∀ c, compile P N c = some ac.strip → ∀ (Γ : Start) (a : Act) (w : World) (ob : Place) (G : Nat → Prop), Sim N σ a w ob G → Since K Γ G w ob → c.wp P (liftT K N Γ ev D Q) a w
def WT (P : Program) (N : Nat) (K : List Nat) (ev : Int → Value) (D : Int → Prop) : ACode → (Out → St → Prop) → St → Prop
  | .skip, Q, σ => Q .normal σ
  | .region false ops, Q, σ => wseqT P ev D ops (Q .normal) σ
  | .region true ops, Q, σ => wany P ops [] (Q .normal) σ
  | .seq a b, Q, σ => WT P N K ev D a (Out.then (WT P N K ev D b Q) Q) σ
  | .cond c a b, Q, σ => match σ.ev c with
    | some (true, .sc (.bool t)) => if t = true then WT P N K ev D a Q σ else WT P N K ev D b Q σ
    | _ => False
  | .block id a, Q, σ => WT P N K ev D a (Out.inBlock id Q) σ
  | .loop a, Q, σ => WpT P N K ev D (.loop a) Q σ
  | .exit id, Q, σ => Q (.exit id) σ
  | .ret, Q, σ => Q .ret σ
  | .mark a, Q, σ => WpT P N K ev D a Q σ
section
variable {P : Program} {N : Nat} {K : List Nat} {ev : Int → Value} {D : Int → Prop}
theorem WpT.mono {ac : ACode} {Q Q' : Out → St → Prop} {D' : Int → Prop} {σ : St} (h : WpT P N K ev D ac Q σ) (hq : ∀ o σ, Q o σ → Q' o σ) (hd : ∀ n, D n → D' n) : WpT P N K ev D' ac Q' σ :=
  fun c hc Γ a w ob G hs hΓ => wp_mono (h c hc Γ a w ob G hs hΓ) fun _ _ _ h => by
    rcases h with ⟨o, σ, ob, G, h1, h2, h3, h4⟩ | ⟨n, hn, h⟩
    · exact .inl ⟨o, σ, ob, G, h1, hq o σ h2, h3, h4⟩
    · exact .inr ⟨n, hd n hn, h⟩
theorem WpT.of_Wp {ac : ACode} {Q : Out → St → Prop} {σ : St} (h : Wp P N K ac Q σ) : WpT P N K ev D ac Q σ :=
  fun c hc Γ a w ob G hs hΓ => wp_mono (h c hc Γ a w ob G hs hΓ) fun _ _ _ h => .inl h
theorem liftT.seq {Γ : Start} {Q : Out → St → Prop} {y : ACode} {c2 : Code} {R : Out → St → Prop} (hy : ∀ τ a w ob G, R .normal τ → Sim N τ a w ob G → Since K Γ G w ob → c2.wp P (liftT K N Γ ev D Q) a w)
    (he : ∀ i τ, R (.exit i) τ → Q (.exit i) τ) (hr : ∀ τ, R .ret τ → Q .ret τ) {c1 : Code} {a : Act} {w : World} (h : c1.wp P (liftT K N Γ ev D R) a w) : (Code.seq c1 c2).wp P (liftT K N Γ ev D Q) a w := by
  refine wp_seq (wp_mono h ?_)
  rintro e a' w' (⟨o, τ, ob', G', rfl, hq, s, hΓ'⟩ | ⟨n, hn, rfl, hdd, hf⟩)
  · cases o with
    | normal => exact hy τ a' w' ob' G' hq s hΓ'
    | exit i => exact .inl ⟨.exit i, τ, ob', G', rfl, he i τ hq, s, hΓ'⟩
    | ret => exact .inl ⟨.ret, τ, ob', G', rfl, hr τ hq, s, hΓ'⟩
  · exact .inr ⟨n, hn, rfl, hdd, hf⟩
theorem WpT.seq {x y : ACode} {Q : Out → St → Prop} {σ : St} (h : WpT P N K ev D x (Out.then (WpT P N K ev D y Q) Q) σ) : WpT P N K ev D (.seq x y) Q σ := by
  intro c hc Γ a w ob G hs hΓ
  cases c <;> simp only [compile, ACode.strip, Option.some.injEq, reduceCtorEq] at hc
  case seq c1 c2 =>
    split at hc
    · rename_i x' y' h1 h2
      simp only [Option.some.injEq, ACode.seq.injEq] at hc
      obtain ⟨rfl, rfl⟩ := hc
      exact liftT.seq (y := y) (R := Out.then (WpT P N K ev D y Q) Q) (fun τ a w ob G hq s hΓ' => hq c2 h2 Γ a w ob G s hΓ') (fun _ _ h => h) (fun _ h => h) (h c1 h1 Γ a w ob G hs hΓ)
    · cases hc
  all_goals (repeat' split at hc) <;> simp at hc
theorem liftT.block {Γ : Start} {Q : Out → St → Prop} {id : Nat} {c1 : Code} {a : Act} {w : World} (h : c1.wp P (liftT K N Γ ev D (Out.inBlock id Q)) a w) : (Code.block id c1).wp P (liftT K N Γ ev D Q) a w := by
  refine wp_block (wp_mono h ?_)
  rintro e a' w' (⟨o, τ, ob', G', rfl, hq, s, hΓ'⟩ | ⟨n, hn, rfl, hdd, hf⟩)
  · cases o with
    | normal => exact .inl ⟨.normal, τ, ob', G', rfl, hq, s, hΓ'⟩
    | exit i =>
      simp only [Out.exit', Exit.inBlock]
      simp only [Out.inBlock] at hq
      split
      · rename_i e; rw [if_pos e] at hq; exact .inl ⟨.normal, τ, ob', G', rfl, hq, s, hΓ'⟩
      · rename_i e; rw [if_neg e] at hq; exact .inl ⟨.exit i, τ, ob', G', rfl, hq, s, hΓ'⟩
    | ret => exact .inl ⟨.ret, τ, ob', G', rfl, hq, s, hΓ'⟩
  · exact .inr ⟨n, hn, rfl, hdd, hf⟩
theorem WpT.of_WT (hm : P.follows .mixedOrders = true) : ∀ (ac : ACode) {Q : Out → St → Prop} {σ : St}, WT P N K ev D ac Q σ → WpT P N K ev D ac Q σ
  | .skip, Q, σ, h => WpT.of_Wp (Wp.of_W hm .skip h)
  | .region true ops, Q, σ, h => WpT.of_Wp (Wp.of_W hm (.region true ops) h)
  | .region false ops, Q, σ, h => fun c hc Γ a w ob G hs hΓ => by
    cases c <;> simp only [compile, ACode.strip, Option.some.injEq, reduceCtorEq] at hc
    case region id os draw =>
      split at hc
      · rename_i as has
        simp only [Option.some.injEq, ACode.region.injEq] at hc
        obtain ⟨rfl, rfl⟩ := hc
        unfold cregion at has
        split at has
        · rename_i as' hcop
          simp only [Bool.false_eq_true, if_false, Option.some.injEq] at has
          subst has
          refine wp_region ?_
          have := wseqT_ok (Q := Q .normal) (R := liftT K N Γ ev D Q) os.toList as' 0 σ a w ob G hcop (fun i o hi => by simpa using hi) hs h
            (fun τ a' w' ob' G' hq s f e => .inl ⟨.normal, τ, ob', G', rfl, hq, s, hΓ.step f e⟩)
            (fun n a' w' hn hdd hf => .inr ⟨n, hn, rfl, hdd, hΓ.fr.thenD hf⟩)
          rw [List.range_eq_range']; simpa using this
        · cases has
      · cases hc
    all_goals (repeat' split at hc) <;> simp at hc
  | .seq x y, Q, σ, h => WpT.seq ((WpT.of_WT hm x h).mono (fun o τ hq => by
      cases o with
      | normal => exact WpT.of_WT hm y hq
      | exit i => exact hq
      | ret => exact hq) fun _ h => h)
  | .cond k x y, Q, σ, h => fun c hc Γ a w ob G hs hΓ => by
    cases c <;> simp only [compile, ACode.strip, Option.some.injEq, reduceCtorEq] at hc
    case cond c0 c1 c2 =>
      split at hc
      · rename_i k' x' y' h0 h1 h2
        simp only [Option.some.injEq, ACode.cond.injEq] at hc
        obtain ⟨rfl, rfl, rfl⟩ := hc
        simp only [WT] at h
        split at h
        · rename_i t ht
          have hv : a.eval c0 = .bool t := (hs.opRel c0 k' (.sc (.bool t)) h0 (by simp [St.e', ht])).sc_eq
          refine wp_cond hv ?_
          cases t with
          | true => rw [if_pos rfl] at h; exact WpT.of_WT hm x h c1 h1 Γ a w ob G hs hΓ
          | false => rw [if_neg (by simp)] at h; exact WpT.of_WT hm y h c2 h2 Γ a w ob G hs hΓ
        · exact h.elim
      · cases hc
    all_goals (repeat' split at hc) <;> simp at hc
  | .block id x, Q, σ, h => fun c hc Γ a w ob G hs hΓ => by
    cases c <;> simp only [compile, ACode.strip, Option.some.injEq, reduceCtorEq] at hc
    case block id' c1 =>
      split at hc
      · rename_i x' h1
        simp only [Option.some.injEq, ACode.block.injEq] at hc
        obtain ⟨rfl, rfl⟩ := hc
        exact liftT.block (WpT.of_WT hm x h c1 h1 Γ a w ob G hs hΓ)
      · cases hc
    all_goals (repeat' split at hc) <;> simp at hc
  | .loop x, Q, σ, h => h
  | .exit id, Q, σ, h => WpT.of_Wp (Wp.of_W hm (.exit id) h)
  | .ret, Q, σ, h => WpT.of_Wp (Wp.of_W hm .ret h)
  | .mark x, Q, σ, h => fun c hc => h c hc
theorem WpT.loop {x : ACode} {Q : Out → St → Prop} {σ : St} {ι : Type} (T : ι → Slots) (O : ι → List (Nat × AObj)) (μ : ι → Nat) (i0 : ι) (h0 : WeakE K σ (T i0) (O i0))
    (h : ∀ i, WpT P N K ev D x (Out.then (fun τ => ∃ i', μ i' < μ i ∧ WeakE K τ (T i') (O i')) Q) (stOf (T i) (O i))) : WpT P N K ev D (.loop x) Q σ := by
  intro c hc Γ a w ob G hs hΓ
  cases c <;> simp only [compile, ACode.strip, Option.some.injEq, reduceCtorEq] at hc
  case loop c1 =>
    split at hc
    · rename_i x' h1
      simp only [Option.some.injEq, ACode.loop.injEq] at hc
      obtain rfl := hc
      have enter : ∀ (τ : St) (a' : Act) (w' : World) (ob' : Place) (G' : Nat → Prop) (i : ι), WeakE K τ (T i) (O i) → Sim N τ a' w' ob' G' → Since K Γ G' w' ob' →
          ∃ ob2 G2, Sim N (stOf (T i) (O i)) a' w' ob2 G2 ∧ Since K Γ G2 w' ob2 := by
        rintro τ a' w' ob' G' i ⟨ρ, A, hw⟩ s hΓ'
        obtain ⟨ob2, G2, g1, g2, g3⟩ := weak_ok s hw
        exact ⟨ob2, G2, g1, hΓ'.fr.trans g2, hΓ'.ext.trans fun id j hk hi => ⟨j, by rw [g3 id hk]; exact hi, .inl rfl⟩⟩
      intro b k cs
      have key : ∀ n i, μ i = n → ∀ (a' : Act) (w' : World) (ob' : Place) (G' : Nat → Prop), Sim N (stOf (T i) (O i)) a' w' ob' G' → Since K Γ G' w' ob' →
          ∃ e a2 w2, liftT K N Γ ev D Q e a2 w2 ∧ Arrives P (lone (b.at a' (.code c1 :: .inLoop c1 :: k)) cs w') b k cs e a2 w2 := by
        intro n
        induction n using Nat.strongRecOn with
        | _ n ih =>
          intro i hn a' w' ob' G' hs' hΓ'
          obtain ⟨e, a1, w1, hq, harr⟩ := h i c1 h1 Γ a' w' ob' G' hs' hΓ' b (.inLoop c1 :: k) cs
          rcases hq with ⟨o, τ, ob1, G1, rfl, hq, s, hΓ1⟩ | ⟨m, hm, rfl, hdd, hf⟩
          · cases o with
            | normal =>
              obtain ⟨i', hlt, hw⟩ := hq
              obtain ⟨ob2, G2, s2, hΓ2⟩ := enter τ a1 w1 ob1 G1 i' hw s hΓ1
              obtain ⟨e2, a2, w2, hq2, harr2⟩ := ih (μ i') (hn ▸ hlt) i' rfl a1 w1 ob2 G2 s2 hΓ2
              exact ⟨e2, a2, w2, hq2, .of_steps (Steps.trans harr (.one step_inLoop)) harr2⟩
            | exit id => exact ⟨.exit id, a1, w1, .inl ⟨.exit id, τ, ob1, G1, rfl, hq, s, hΓ1⟩, .pass (x := .inLoop c1) rfl (fun _ _ => .inl (by simp)) harr⟩
            | ret => exact ⟨.ret, a1, w1, .inl ⟨.ret, τ, ob1, G1, rfl, hq, s, hΓ1⟩, .pass (x := .inLoop c1) rfl (fun _ _ => .inl (by simp)) harr⟩
          · exact ⟨_, a1, w1, .inr ⟨m, hm, rfl, hdd, hf⟩, .pass (x := .inLoop c1) rfl (fun _ _ => .inl (by simp)) harr⟩
      obtain ⟨ob2, G2, s2, hΓ2⟩ := enter σ a w ob G i0 h0 hs hΓ
      obtain ⟨e, a', w', hq, harr⟩ := key _ i0 rfl a w ob2 G2 s2 hΓ2
      exact ⟨e, a', w', hq, .of_steps (.one step_loop) harr⟩
    · cases hc
  all_goals (repeat' split at hc) <;> simp at hc
end
end Go.Abs
end
section
namespace Go.Abs
section
variable (P : Program) (N : Nat) (K : List Nat)
def WiT (c : ACode) [Q : Cont] [D : ContD] (σ : St) : Prop := WT P N K D.ev D.d c Q.q σ
def WpiT (c : ACode) [Q : Cont] [D : ContD] (σ : St) : Prop := WpT P N K D.ev D.d c Q.q σ
def WsiT (l : List AOper) [Q : ContS] [D : ContD] (σ : St) : Prop := wseqT P D.ev D.d l Q.q σ
def WoiT (o : AOper) (σ : St) [Q : ContR] [D : ContD] : Prop := wopT P D.ev D.d o σ Q.q
def CallGiT (m : Nat → Option AObj) (f : FuncId) (avs : List AV) (b : Bool) [Q : ContR] [D : ContD] : Prop :=
  @CallGi P m f avs b Q ∨ (b = true ∧ DieDoes P D.ev D.d m f avs)
def WopMiT (o : AOper) (σ : St) (b : Bool) [Q : ContR] [D : ContD] : Prop :=
  match o.op with
  | .call f xs => match target σ (.call f xs) with
    | some (f, avs) => allC σ b (AOp.call f xs).ops ∧ CallGiT P σ.objs f avs b
    | none => b = false ∧ Ri false ⟨none, []⟩
  | .callv x xs => match target σ (.callv x xs) with
    | some (f, avs) => allC σ b (AOp.callv x xs).ops ∧ CallGiT P σ.objs f avs b
    | none => b = false ∧ Ri false ⟨none, []⟩
  | _ => WopMi P o σ b

@[reducible] def thenCT (b : ACode) (Q : Cont) (D : ContD) : Cont := ⟨Out.then (WT P N K D.ev D.d b Q.q) Q.q⟩
@[reducible] def seqCT (os : List AOper) (Q : ContS) (D : ContD) (d : Option Nat) (σ : St) : ContR := ⟨fun b r => wseqT P D.ev D.d os Q.q (σ.put d b r)⟩
@[reducible] def retTR (rvs : List (Nat × Option (Option Nat))) (spec : Except Int (List AV × List (Nat × AObj))) : Cont :=
  ⟨fun o σ => match o with | .exit _ => False | .normal => ∃ rs O', spec = .ok (rs, O') ∧ retR σ N rvs fun σ2 => RetW K σ2 (List.range' N rvs.length) rs O' | .ret => ∃ rs O', spec = .ok (rs, O') ∧ retR σ N rvs fun σ2 => RetW K σ2 (List.range' N rvs.length) rs O'⟩
variable {P N K}
theorem WiT_skip {Q : Cont} {D : ContD} {σ : St} : @WiT P N K .skip Q D σ = @Qi Q .normal σ := Eq.trans rfl rfl
theorem WiT_seq {Q : Cont} {D : ContD} {σ : St} {a b : ACode} : @WiT P N K (.seq a b) Q D σ = @WiT P N K a (thenCT P N K b Q D) D σ := Eq.trans rfl rfl
theorem WiT_seqr {Q : Cont} {D : ContD} {σ : St} {l : List AOper} : @WiT P N K (.region false l) Q D σ = @WsiT P l (normC Q) D σ := rfl
theorem WiT_anyr {Q : Cont} {D : ContD} {σ : St} {l : List AOper} : @WiT P N K (.region true l) Q D σ = @Wni P l [] (normC Q) σ := rfl
theorem WiT_cond {Q : Cont} {D : ContD} {σ : St} {c : AX} {a b : ACode} : @WiT P N K (.cond c a b) Q D σ = (match σ.ev c with
    | some (true, .sc (.bool t)) => if t = true then @WiT P N K a Q D σ else @WiT P N K b Q D σ
    | _ => False) := Eq.trans rfl rfl
theorem WiT_block {Q : Cont} {D : ContD} {σ : St} {i : Nat} {a : ACode} : @WiT P N K (.block i a) Q D σ = @WiT P N K a (blockC i Q) D σ := Eq.trans rfl rfl
theorem WiT_loop {Q : Cont} {D : ContD} {σ : St} {a : ACode} : @WiT P N K (.loop a) Q D σ = @WpiT P N K (.loop a) Q D σ := rfl
theorem WiT_mark {Q : Cont} {D : ContD} {σ : St} {a : ACode} : @WiT P N K (.mark a) Q D σ = @WpiT P N K a Q D σ := rfl
theorem WiT_exit {Q : Cont} {D : ContD} {σ : St} {i : Nat} : @WiT P N K (.exit i) Q D σ = @Qi Q (.exit i) σ := Eq.trans rfl rfl
theorem WiT_ret {Q : Cont} {D : ContD} {σ : St} : @WiT P N K .ret Q D σ = @Qi Q .ret σ := Eq.trans rfl rfl
theorem Qi_thenT_normal {Q : Cont} {D : ContD} {σ : St} {b : ACode} : @Qi (thenCT P N K b Q D) .normal σ = @WiT P N K b Q D σ := Eq.trans rfl rfl
theorem Qi_thenT_exit {Q : Cont} {D : ContD} {σ : St} {b : ACode} {i : Nat} : @Qi (thenCT P N K b Q D) (.exit i) σ = @Qi Q (.exit i) σ := Eq.trans rfl rfl
theorem Qi_thenT_ret {Q : Cont} {D : ContD} {σ : St} {b : ACode} : @Qi (thenCT P N K b Q D) .ret σ = @Qi Q .ret σ := Eq.trans rfl rfl
theorem WsiT_nil {Q : ContS} {D : ContD} {σ : St} : @WsiT P [] Q D σ = @Si Q σ := rfl
theorem WsiT_cons {Q : ContS} {D : ContD} {σ : St} {o : AOper} {os : List AOper} : @WsiT P (o :: os) Q D σ = @WoiT P o σ (seqCT P os Q D o.dst σ) D := rfl
theorem Ri_seqT {Q : ContS} {D : ContD} {σ : St} {os : List AOper} {d : Option Nat} {b : Bool} {r : Res} : @Ri (seqCT P os Q D d σ) b r = @WsiT P os Q D (σ.put d b r) := rfl
theorem WoiT_def {Q : ContR} {D : ContD} {σ : St} {o : AOper} : @WoiT P o σ Q D = (match guardV σ o.guard with
    | some b => @WopMiT P o σ b Q D
    | none => False) := by
  have h0 := @Woi_def P Q σ o
  unfold Woi at h0
  unfold WoiT wopT wdie
  rw [h0]
  cases hg : guardV σ o.guard with
  | none => simp
  | some b =>
    simp only
    have other : o.op.isCall = false → (WopMi P o σ b ∨ (some b = some true ∧ ∃ f avs, target σ o.op = some (f, avs) ∧ allC σ true o.op.ops ∧ DieDoes P D.ev D.d σ.objs f avs)) = WopMi P o σ b := fun hc => by
      refine propext ⟨fun h => h.elim id ?_, .inl⟩
      rintro ⟨_, f, avs, ht, _⟩
      rw [target_isCall ht] at hc; cases hc
    have call : ∀ (op : AOp) (b : Bool), ((match target σ op with | some (f, avs) => allC σ b op.ops ∧ @CallGi P σ.objs f avs b Q | none => b = false ∧ @Ri Q false ⟨none, []⟩) ∨
        (some b = some true ∧ ∃ f avs, target σ op = some (f, avs) ∧ allC σ true op.ops ∧ DieDoes P D.ev D.d σ.objs f avs)) =
        (match target σ op with | some (f, avs) => allC σ b op.ops ∧ @CallGiT P σ.objs f avs b Q D | none => b = false ∧ @Ri Q false ⟨none, []⟩) := fun op b => by
      cases ht : target σ op with
      | none => simp
      | some p =>
        obtain ⟨f, avs⟩ := p
        simp only [CallGiT, Option.some.injEq, Prod.mk.injEq]
        refine propext ⟨?_, ?_⟩
        · rintro (⟨h1, h2⟩ | ⟨rfl, f', avs', ⟨rfl, rfl⟩, h2, h3⟩)
          · exact ⟨h1, .inl h2⟩
          · exact ⟨h2, .inr ⟨rfl, h3⟩⟩
        · rintro ⟨h1, h2 | ⟨rfl, h3⟩⟩
          · exact .inl ⟨h1, h2⟩
          · exact .inr ⟨rfl, f, avs, ⟨rfl, rfl⟩, h1, h3⟩
    unfold WopMiT
    cases hop : o.op with
    | call f xs =>
      have hW : @WopMi P o σ b Q = (match target σ (.call f xs) with | some (f, avs) => allC σ b (AOp.call f xs).ops ∧ @CallGi P σ.objs f avs b Q | none => b = false ∧ @Ri Q false ⟨none, []⟩) := by simp only [WopMi, hop]; rfl
      rw [hW]
      exact call (.call f xs) b
    | callv x xs =>
      have hW : @WopMi P o σ b Q = (match target σ (.callv x xs) with | some (f, avs) => allC σ b (AOp.callv x xs).ops ∧ @CallGi P σ.objs f avs b Q | none => b = false ∧ @Ri Q false ⟨none, []⟩) := by simp only [WopMi, hop]; rfl
      rw [hW]
      exact call (.callv x xs) b
    | _ =>
      rw [hop] at other
      exact other rfl
theorem WpiT_loop {x : ACode} {Q : Cont} {D : ContD} {σ : St} {ι : Type} (hm : P.follows .mixedOrders = true) (T : ι → Slots) (O : ι → List (Nat × AObj)) (μ : ι → Nat) (i0 : ι) (h0 : WeakE K σ (T i0) (O i0))
    (h : ∀ i, @WiT P N K x (loopC K T O μ i Q) D (stOf (T i) (O i))) : @WpiT P N K (.loop x) Q D σ := WpT.loop T O μ i0 h0 fun i => WpT.of_WT hm x (h i)
theorem callsT_ofW {f : FuncId} {fn : Func} {c : Code} {args : List AV} {O : List (Nat × AObj)} {rvs : List (Nat × Option (Option Nat))} {ev : Int → Value} {spec : Except Int (List AV × List (Nat × AObj))}
    (hf : P.funcs[f]? = some fn) (hb : fn.body = some c) (hname : (fn.name != "runtime.NumGoroutine") = true)
    (hts : rvOf P fn.results.toList = some rvs) (hlt : (rvs.all fun p => p.1.blt fn.ntmps) = true) (hl : (args.length.ble fn.ntmps) = true)
    (h : ∀ (Γ : Start) (a : Act) (w : World) (ob : Place) (G : Nat → Prop), Sim fn.ntmps (start args O) a w ob G → Since (O.map (·.1)) Γ G w ob →
      c.wp P (liftT (O.map (·.1)) fn.ntmps Γ ev (fun n => spec = .error n) (retTR fn.ntmps (O.map (·.1)) rvs spec).q) a w) : CallsT P ev f args O spec := by
  have hcall : callableB P f = true := by unfold callableB; rw [hf]; simp only; rw [hb]; simp [hname]
  have hlt' : ∀ p ∈ rvs, p.1 < fn.ntmps := fun p hp => by
    have := List.all_eq_true.1 hlt p hp
    simpa [Nat.blt_eq] using this
  cases spec with
  | error n =>
    refine ⟨hcall, fun G w ob vals hs hr => calls_of_wp hf hb ?_⟩
    have h1 := h ⟨G, w, ob⟩ _ w ob G (start_sim hs hr (Nat.le_of_ble_eq_true hl)) ⟨Fr.refl G w ob, fun id i _ hi => ⟨i, hi, .inl rfl⟩⟩
    refine wp_mono h1 ?_
    rintro e a' w' (⟨o, σ, ob1, G1, rfl, hq, s, hΓ⟩ | ⟨m, hm, rfl, hd, hfr⟩)
    · cases o with
      | normal => obtain ⟨_, _, h, _⟩ := hq; cases h
      | exit i => exact hq.elim
      | ret => obtain ⟨_, _, h, _⟩ := hq; cases h
    · cases hm
      exact ⟨hd, rfl, hfr⟩
  | ok p =>
    obtain ⟨rs, O'⟩ := p
    refine ⟨hcall, fun G w ob vals hs hr => calls_of_wp hf hb ?_⟩
    have h1 := h ⟨G, w, ob⟩ _ w ob G (start_sim hs hr (Nat.le_of_ble_eq_true hl)) ⟨Fr.refl G w ob, fun id i _ hi => ⟨i, hi, .inl rfl⟩⟩
    refine wp_mono h1 ?_
    rintro e a' w' (⟨o, σ, ob1, G1, rfl, hq, s, hΓ⟩ | ⟨m, hm, rfl, hd, hfr⟩)
    · have fin : (∃ rs1 O1, (Except.ok (rs, O') : Except Int (List AV × List (Nat × AObj))) = .ok (rs1, O1) ∧ retR σ fn.ntmps rvs fun σ2 => RetW (O.map (·.1)) σ2 (List.range' fn.ntmps rvs.length) rs1 O1) → a'.defers = [] ∧ ∃ v, (results fn a'.tmps).run P w' = .ok v w' ∧
          ∃ v' G' ob', Ending.returned v = .returned v' ∧ SimO G' w' ob' (ofL O') ∧ Rel G' w' ob' (pack rs) v' ∧ Fr G w ob G' w' ob' ∧ OBext ob ob' := by
        rintro ⟨rs1, O1, he, hR⟩
        cases he
        obtain ⟨σ2, a2, v, k1, k2, hv, hv'⟩ := results_run2 hts s hlt' hR
        obtain ⟨md, hml, hrl, ρ, A, hw⟩ := k1
        obtain ⟨ob2, G2, g1, g2, g3⟩ := weak_ok k2 hw
        refine ⟨s.defers, v, hv, v, G2, ob2, rfl, g1.objs, ?_, hΓ.fr.trans g2, ?_⟩
        · rw [hv']
          exact pack_rel hrl fun j t r ht hr => g1.env t r (envT_zip3 hml hrl List.nodup_range' j t r ht hr)
        · intro id i hi
          have hk : id ∈ O.map (·.1) := by
            cases ho : ofL O id with
            | none => rw [(hs.dom id).1 ho] at hi; cases hi
            | some o => obtain ⟨o', ho'⟩ := ofL_mem (by rw [ho]; rfl); exact List.mem_map_of_mem (f := (·.1)) ho'
          obtain ⟨i', hi', h'⟩ := hΓ.ext id i hk hi
          exact ⟨i', by rw [g3 id hk]; exact hi', h'⟩
      cases o with
      | normal => exact fin hq
      | exit i => exact hq.elim
      | ret => exact fin hq
    · cases hm
theorem callsT_of {f N : Nat} {fn : Func} {ac : ACode} {args : List AV} {O : List (Nat × AObj)} {rvs : List (Nat × Option (Option Nat))} {ev : Int → Value} {spec : Except Int (List AV × List (Nat × AObj))} (hm : P.follows .mixedOrders = true)
    (hf : P.funcs[f]? = some fn) (hb : fn.body = some (fn.body.getD .skip)) (hname : (fn.name != "runtime.NumGoroutine") = true) (hc : compile P fn.ntmps (fn.body.getD .skip) = some ac.strip) (hN : fn.ntmps = N)
    (hts : rvOf P fn.results.toList = some rvs) (hlt : (rvs.all fun p => p.1.blt N) = true) (hl : (args.length.ble N) = true)
    (h : @WiT P N (O.map (·.1)) ac (retTR N (O.map (·.1)) rvs spec) ⟨ev, fun n => spec = .error n⟩ (start args O)) : CallsT P ev f args O spec := by
  subst hN
  exact callsT_ofW hf hb hname hts hlt hl fun Γ a w ob G hs hΓ => WpT.of_WT hm ac h _ hc Γ a w ob G hs hΓ
end
attribute [go_sem] WiT_skip WiT_seq WiT_seqr WiT_anyr WiT_cond WiT_block WiT_loop WiT_mark WiT_exit WiT_ret Qi_thenT_normal Qi_thenT_exit Qi_thenT_ret WsiT_nil WsiT_cons Ri_seqT WoiT_def WopMiT
end Go.Abs
end
section
namespace Go.Abs
def dieReg (P : Program) (N : Nat) (ty : TypeId) : Code → Option (List AOper × AX)
  | .region _ ops false => match ops.toList.reverse with
    | ⟨_, .panic (.tmp d'), _, _, _, none⟩ :: ⟨some d, .makeInterface ty' x, _, _, _, none⟩ :: rpre =>
      if (d = d' ∧ ty' = ty) ∧ d < N then (match copers P N ops rpre.reverse, cx x with
        | some as, some ax => some (as, ax)
        | _, _ => none) else none
    | _ => none
  | _ => none
inductive TCode where
  | plain (ac : ACode)
  | seq (a b : TCode)
  | cond (c : AX) (a b : TCode)
  | block (id : Nat) (a : TCode)
  | die (as : List AOper) (x : AX)
def tcompile (P : Program) (N : Nat) (ty : TypeId) (c : Code) : Option TCode :=
  match c with
  | .seq a b => match tcompile P N ty a, tcompile P N ty b with
    | some x, some y => some (.seq x y)
    | _, _ => none
  | .cond k a b => match cx k, tcompile P N ty a, tcompile P N ty b with
    | some k, some x, some y => some (.cond k x y)
    | _, _, _ => none
  | .block id a => match tcompile P N ty a with
    | some x => some (.block id x)
    | none => none
  | c => match dieReg P N ty c with
    | some (as, x) => some (.die as x)
    | none => match compile P N c with
      | some ac => some (.plain ac)
      | none => none
def WTC (P : Program) (N : Nat) (K : List Nat) (ev : Int → Value) (D : Int → Prop) : TCode → (Out → St → Prop) → St → Prop
  | .plain ac, Q, σ => ac.strip = ac ∧ WT P N K ev D ac Q σ
  | .seq a b, Q, σ => WTC P N K ev D a (Out.then (WTC P N K ev D b Q) Q) σ
  | .cond c a b, Q, σ => match σ.ev c with
    | some (true, .sc (.bool t)) => if t = true then WTC P N K ev D a Q σ else WTC P N K ev D b Q σ
    | _ => False
  | .block id a, Q, σ => WTC P N K ev D a (Out.inBlock id Q) σ
  | .die as x, Q, σ => wseq P as (fun τ => ∃ n, D n ∧ τ.ev x = some (true, .agg [.sc (.int .i64 n)])) σ
section
variable {P : Program} {N : Nat} {K : List Nat} {ev : Int → Value} {D : Int → Prop}
theorem rel_agg1 {G : Nat → Prop} {w : World} {ob : Place} {n : Int} {v : Value} (h : Rel G w ob (.agg [.sc (.int .i64 n)]) v) : v = .agg #[.int .i64 n] := by
  cases h with
  | agg vs hn ho hr =>
    have h0 := (hr 0 _ rfl).sc_eq
    match vs, hn with
    | ⟨[x]⟩, _ =>
      simp [Array.getD] at h0
      subst h0; rfl
theorem makeInterface_run {ty : TypeId} (hty : ∃ fs, P.underlying ty = some (.struct fs)) (v : Value) (w : World) : (Instr.makeInterface ty v).run P w = .ok (.iface ty v) w := by
  obtain ⟨fs, hty⟩ := hty
  simp [Instr.makeInterface, underlying, hty]
theorem wpOps_append {ops : Array Oper} {R : Exit → Act → World → Prop} {l2 : List Nat} : ∀ (l1 : List Nat) (a : Act) (w : World),
    wpOps P ops (fun e a w => match e with | .normal => wpOps P ops R l2 a w | e => R e a w) l1 a w → wpOps P ops R (l1 ++ l2) a w := by
  intro l1
  induction l1 with
  | nil => intro a w h; exact h
  | cons i l1 ih =>
    intro a w h
    simp only [List.cons_append, wpOps] at h ⊢
    cases ho : ops[i]? with
    | none => simp only [ho] at h ⊢; exact ih a w h
    | some o =>
      simp only [ho] at h ⊢
      by_cases hw : Region.wanted o (yielded ops a.tmps) = true
      · rw [if_pos hw] at h ⊢
        rcases h with h | h
        · refine .inl ?_
          unfold Oper.wp at h ⊢
          revert h
          generalize (execOp a.eval o).run P w = r
          unfold Oper.upon
          split
          · exact fun h => ih _ _ h
          · exact fun h => ih _ _ h
          · exact fun h => ih _ _ h
          · intro h
            refine h.mono ?_
            intro e w'
            cases e with
            | returned v => exact fun h => ih _ _ h
            | panicked chain => exact id
            | outgrown =>
              rintro ⟨a', w', h⟩
              exact ⟨a', w', h⟩
          · intro h
            exact h.mono fun v w' h => ih _ _ h
          · exact id
          · exact id
        · exact .inr ⟨h.1, by obtain ⟨a', w', h⟩ := h.2; exact ⟨a', w', h⟩⟩
      · rw [if_neg hw] at h ⊢; exact ih _ _ h
theorem op_value {o : Oper} {a : Act} {w w' : World} {next : Act → World → Prop} {Q : Exit → Act → World → Prop} {v : Value} (h : (execOp a.eval o).run P w = .ok (.value v) w') (hn : next (a.put o.dst v) w') : o.wp P a w next Q := by
  unfold Oper.wp; rw [h]; exact hn
theorem op_defer {o : Oper} {a : Act} {w w' : World} {next : Act → World → Prop} {Q : Exit → Act → World → Prop} {d : Deferred} (h : (execOp a.eval o).run P w = .ok (.defer d) w') (hn : next ({ a with defers := d :: a.defers }.put o.dst undef) w') : o.wp P a w next Q := by
  unfold Oper.wp; rw [h]; exact hn
theorem op_panic {o : Oper} {a : Act} {w w' : World} {next : Act → World → Prop} {Q : Exit → Act → World → Prop} {v : Value} (h : (execOp a.eval o).run P w = .halt (.panic v) w') (hn : Q (.panic [{ v, recovered := false }]) a w') : o.wp P a w next Q := by
  unfold Oper.wp; rw [h]; exact hn
theorem dieReg_ok {ty : TypeId} (hty : ∃ fs, P.underlying ty = some (.struct fs)) (hev : ∀ n, ev n = .iface ty (.agg #[.int .i64 n])) {c : Code} {as : List AOper} {x : AX} (hd : dieReg P N ty c = some (as, x))
    {σ : St} {Γ : Start} {a : Act} {w : World} {ob : Place} {G : Nat → Prop} {Q : Out → St → Prop} (hs : Sim N σ a w ob G) (hΓ : Since K Γ G w ob)
    (h : wseq P as (fun τ => ∃ n, D n ∧ τ.ev x = some (true, .agg [.sc (.int .i64 n)])) σ) : c.wp P (liftT K N Γ ev D Q) a w := by
  unfold dieReg at hd
  split at hd
  case h_2 => cases hd
  rename_i id ops
  split at hd
  case h_2 => cases hd
  rename_i d1 d' t1 p1 f1 d ty' x' t2 p2 f2 rpre hrev
  split at hd
  case isFalse => cases hd
  rename_i hdd
  obtain ⟨⟨rfl, rfl⟩, hdN⟩ := hdd
  split at hd
  case h_2 => cases hd
  rename_i as' ax' hcop hcx
  simp only [Option.some.injEq, Prod.mk.injEq] at hd
  obtain ⟨rfl, rfl⟩ := hd
  have hl : ops.toList = rpre.reverse ++ [⟨some d, .makeInterface ty' x', t2, p2, f2, none⟩, ⟨d1, .panic (.tmp d), t1, p1, f1, none⟩] := by
    have := congrArg List.reverse hrev
    simpa using this
  have hsz : ops.size = rpre.reverse.length + 2 := by
    have := congrArg List.length hl
    simpa using this
  have hget : ∀ i o, (rpre.reverse)[i]? = some o → ops[i]? = some o := fun i o hi => by
    have hlt : i < rpre.reverse.length := (List.getElem?_eq_some_iff.1 hi).1
    rw [← Array.getElem?_toList, hl, List.getElem?_append_left hlt]; exact hi
  have hg1 : ops[rpre.reverse.length]? = some ⟨some d, .makeInterface ty' x', t2, p2, f2, none⟩ := by
    rw [← Array.getElem?_toList, hl, List.getElem?_append_right (Nat.le_refl _)]; simp
  have hg2 : ops[rpre.reverse.length + 1]? = some ⟨d1, .panic (.tmp d), t1, p1, f1, none⟩ := by
    rw [← Array.getElem?_toList, hl, List.getElem?_append_right (by omega)]; simp
  refine wp_region ?_
  have hr : List.range ops.size = List.range' 0 rpre.reverse.length ++ [rpre.reverse.length, rpre.reverse.length + 1] := by
    rw [hsz, List.range_eq_range', ← List.range'_append]
    simp [List.range'_succ]
  rw [hr]
  refine wpOps_append _ a w ?_
  refine wseq_ok (Q := fun τ => ∃ n, D n ∧ τ.ev ax' = some (true, .agg [.sc (.int .i64 n)])) rpre.reverse as' 0 σ a w ob G hcop (fun i o hi => by simpa using hget i o hi) hs h ?_
  rintro τ a' w' ob' G' ⟨n, hn, hx⟩ hs' hf' he'
  have hv : a'.eval x' = .agg #[.int .i64 n] := rel_agg1 (hs'.opRel x' ax' _ hcx (by simp [St.e', hx]))
  have hw1 : Region.wanted ⟨some d, .makeInterface ty' x', t2, p2, f2, none⟩ (yielded ops a'.tmps) = true := rfl
  have hdN' : d < a'.tmps.size := by rw [hs'.size]; exact hdN
  have hev2 : (a'.put (some d) (.iface ty' (.agg #[.int .i64 n]))).eval (.tmp d) = .iface ty' (.agg #[.int .i64 n]) := by
    simp [Act.put, Act.eval, hdN']
  have hrun : (execOp a'.eval ⟨some d, .makeInterface ty' x', t2, p2, f2, none⟩).run P w' = .ok (.value (.iface ty' (.agg #[.int .i64 n]))) w' := by
    simp only [execOp, hv]
    simp [makeInterface_run hty]
  have hrun2 : (execOp (a'.put (some d) (.iface ty' (.agg #[.int .i64 n]))).eval ⟨d1, .panic (.tmp d), t1, p1, f1, none⟩).run P w' = .halt (.panic (.iface ty' (.agg #[.int .i64 n]))) w' := by
    simp only [execOp, hev2]
    simp [Instr.panic, goPanic]
  simp only [wpOps, hg1, hg2]
  rw [if_pos hw1]
  refine .inl (op_value hrun ?_)
  have hw2 : Region.wanted ⟨d1, .panic (.tmp d), t1, p1, f1, none⟩ (yielded ops (a'.put (some d) (.iface ty' (.agg #[.int .i64 n]))).tmps) = true := rfl
  rw [if_pos hw2]
  refine .inl (op_panic hrun2 ?_)
  refine .inr ⟨n, hn, by rw [hev], by simp [Act.put, hs'.defers], hΓ.fr.thenD ?_⟩
  exact ⟨hf'.size, fun b hb hc => hf'.same b hb hc, hf'.os, hf'.tape, hf'.output⟩
theorem WTC_ok (hm : P.follows .mixedOrders = true) {ty : TypeId} (hty : ∃ fs, P.underlying ty = some (.struct fs)) (hev : ∀ n, ev n = .iface ty (.agg #[.int .i64 n])) :
    ∀ (c : Code) (tc : TCode) {Q : Out → St → Prop} {σ : St}, tcompile P N ty c = some tc → WTC P N K ev D tc Q σ →
    ∀ (Γ : Start) (a : Act) (w : World) (ob : Place) (G : Nat → Prop), Sim N σ a w ob G → Since K Γ G w ob → c.wp P (liftT K N Γ ev D Q) a w := by
  have leaf : ∀ (c : Code) (tc : TCode) {Q : Out → St → Prop} {σ : St}, (match dieReg P N ty c with
      | some (as, x) => some (.die as x)
      | none => match compile P N c with
        | some ac => some (TCode.plain ac)
        | none => none) = some tc → WTC P N K ev D tc Q σ →
      ∀ (Γ : Start) (a : Act) (w : World) (ob : Place) (G : Nat → Prop), Sim N σ a w ob G → Since K Γ G w ob → c.wp P (liftT K N Γ ev D Q) a w := by
    intro c tc Q σ hc h Γ a w ob G hs hΓ
    split at hc
    · rename_i as x hd
      simp only [Option.some.injEq] at hc; subst hc
      exact dieReg_ok hty hev hd hs hΓ h
    · split at hc
      · rename_i ac hac
        simp only [Option.some.injEq] at hc; subst hc
        exact WpT.of_WT hm ac h.2 c (by rw [h.1]; exact hac) Γ a w ob G hs hΓ
      · cases hc
  intro c
  induction c with
  | seq c1 c2 ih1 ih2 =>
    intro tc Q σ hc h Γ a w ob G hs hΓ
    rw [tcompile] at hc
    split at hc
    · rename_i x y h1 h2
      simp only [Option.some.injEq] at hc; subst hc
      exact liftT.seq (y := .skip) (R := Out.then (WTC P N K ev D y Q) Q) (fun τ a w ob G hq s hΓ' => ih2 y h2 hq Γ a w ob G s hΓ') (fun _ _ h => h) (fun _ h => h) (ih1 x h1 h Γ a w ob G hs hΓ)
    · cases hc
  | cond k c1 c2 ih1 ih2 =>
    intro tc Q σ hc h Γ a w ob G hs hΓ
    rw [tcompile] at hc
    split at hc
    · rename_i k' x y h0 h1 h2
      simp only [Option.some.injEq] at hc; subst hc
      simp only [WTC] at h
      split at h
      · rename_i t ht
        have hv : a.eval k = .bool t := (hs.opRel k k' (.sc (.bool t)) h0 (by simp [St.e', ht])).sc_eq
        refine wp_cond hv ?_
        cases t with
        | true => rw [if_pos rfl] at h; exact ih1 x h1 h Γ a w ob G hs hΓ
        | false => rw [if_neg (by simp)] at h; exact ih2 y h2 h Γ a w ob G hs hΓ
      · exact h.elim
    · cases hc
  | block id c1 ih =>
    intro tc Q σ hc h Γ a w ob G hs hΓ
    rw [tcompile] at hc
    split at hc
    · rename_i x h1
      simp only [Option.some.injEq] at hc; subst hc
      exact liftT.block (ih x h1 h Γ a w ob G hs hΓ)
    · cases hc
  | _ => exact fun tc Q σ hc h => leaf _ tc (by simpa only [tcompile] using hc) h
variable (P N K)
def WTi (t : TCode) [Q : Cont] [D : ContD] (σ : St) : Prop := WTC P N K D.ev D.d t Q.q σ
@[reducible] def thenTC (b : TCode) (Q : Cont) (D : ContD) : Cont := ⟨Out.then (WTC P N K D.ev D.d b Q.q) Q.q⟩
@[reducible] def dieC (x : AX) (D : ContD) : ContS := ⟨fun τ => ∃ n, D.d n ∧ τ.ev x = some (true, .agg [.sc (.int .i64 n)])⟩
variable {P N K}
theorem WTi_seq {Q : Cont} {D : ContD} {σ : St} {a b : TCode} : @WTi P N K (.seq a b) Q D σ = @WTi P N K a (thenTC P N K b Q D) D σ := Eq.trans rfl rfl
theorem WTi_cond {Q : Cont} {D : ContD} {σ : St} {c : AX} {a b : TCode} : @WTi P N K (.cond c a b) Q D σ = (match σ.ev c with
    | some (true, .sc (.bool t)) => if t = true then @WTi P N K a Q D σ else @WTi P N K b Q D σ
    | _ => False) := Eq.trans rfl rfl
theorem WTi_block {Q : Cont} {D : ContD} {σ : St} {i : Nat} {a : TCode} : @WTi P N K (.block i a) Q D σ = @WTi P N K a (blockC i Q) D σ := Eq.trans rfl rfl
theorem WTi_die {Q : Cont} {D : ContD} {σ : St} {as : List AOper} {x : AX} : @WTi P N K (.die as x) Q D σ = @Wsi P as (dieC x D) σ := Eq.trans rfl rfl
theorem WTi_reg {Q : Cont} {D : ContD} {σ : St} {d : Bool} {l : List AOper} : @WTi P N K (.plain (.region d l)) Q D σ = @WiT P N K (.region d l) Q D σ := propext ⟨And.right, fun h => ⟨rfl, h⟩⟩
theorem WTi_ret {Q : Cont} {D : ContD} {σ : St} : @WTi P N K (.plain .ret) Q D σ = @WiT P N K .ret Q D σ := propext ⟨And.right, fun h => ⟨rfl, h⟩⟩
theorem WTi_skip {Q : Cont} {D : ContD} {σ : St} : @WTi P N K (.plain .skip) Q D σ = @WiT P N K .skip Q D σ := propext ⟨And.right, fun h => ⟨rfl, h⟩⟩
theorem Qi_thenC_normal {Q : Cont} {D : ContD} {σ : St} {b : TCode} : @Qi (thenTC P N K b Q D) .normal σ = @WTi P N K b Q D σ := Eq.trans rfl rfl
theorem Qi_thenC_exit {Q : Cont} {D : ContD} {σ : St} {b : TCode} {i : Nat} : @Qi (thenTC P N K b Q D) (.exit i) σ = @Qi Q (.exit i) σ := Eq.trans rfl rfl
theorem Qi_thenC_ret {Q : Cont} {D : ContD} {σ : St} {b : TCode} : @Qi (thenTC P N K b Q D) .ret σ = @Qi Q .ret σ := Eq.trans rfl rfl
theorem Si_die {D : ContD} {σ : St} {x : AX} : @Si (dieC x D) σ = ∃ n, D.d n ∧ σ.ev x = some (true, .agg [.sc (.int .i64 n)]) := rfl
theorem callsTC_of {f N : Nat} {fn : Func} {tc : TCode} {ty : TypeId} {args : List AV} {O : List (Nat × AObj)} {rvs : List (Nat × Option (Option Nat))} {spec : Except Int (List AV × List (Nat × AObj))} (hm : P.follows .mixedOrders = true)
    (hty : ∃ fs, P.underlying ty = some (.struct fs)) (hev : ∀ n, ev n = .iface ty (.agg #[.int .i64 n]))
    (hf : P.funcs[f]? = some fn) (hb : fn.body = some (fn.body.getD .skip)) (hname : (fn.name != "runtime.NumGoroutine") = true) (hN : fn.ntmps = N) (hc : tcompile P N ty (fn.body.getD .skip) = some tc)
    (hts : rvOf P fn.results.toList = some rvs) (hlt : (rvs.all fun p => p.1.blt N) = true) (hl : (args.length.ble N) = true)
    (h : @WTi P N (O.map (·.1)) tc (retTR N (O.map (·.1)) rvs spec) ⟨ev, fun n => spec = .error n⟩ (start args O)) : CallsT P ev f args O spec := by
  subst hN
  exact callsT_ofW hf hb hname hts hlt hl fun Γ a w ob G hs hΓ => WTC_ok hm hty hev _ tc hc h Γ a w ob G hs hΓ
end
attribute [go_sem] WTi_seq WTi_cond WTi_block WTi_die WTi_reg WTi_ret WTi_skip Qi_thenC_normal Qi_thenC_exit Qi_thenC_ret Si_die
end Go.Abs
end
section
namespace Go.Abs
structure RecD where
  r : Nat
  x : Nat
  y : Nat
  z : Nat
  p : Nat
  p0 : Nat
  ty : TypeId
  as : List AOper
  ac : ACode
def recog (P : Program) (N : Nat) (I : TypeId) : Code → Option RecD
  | .seq (.region _ ops0 false) (.seq (.seq (.region _ ops1 false) (.cond (.tmp z') .ret .skip)) (.seq (.region _ ops2 false) rest)) =>
    match ops0.toList, ops1.toList, ops2.toList with
    | [⟨some r, .call ⟨.builtin .recover, _, _⟩, _, _, _, none⟩, ⟨some x, .assign (.tmp r'), _, _, _, none⟩],
      [⟨some y, .move (.tmp x'), _, _, _, none⟩, ⟨some z, .binOp .eql t (.tmp y') (.const .nilIface) _, _, _, _, none⟩],
      ⟨some p0, .move (.tmp x''), _, _, _, none⟩ :: ⟨some p, .typeAssert (.tmp p0') _ ty true, _, _, _, none⟩ :: more =>
        if (r = r' ∧ x = x' ∧ y = y' ∧ z = z' ∧ x = x'' ∧ p0 = p0' ∧ t = I) ∧ (r < N ∧ x < N ∧ y < N ∧ z < N ∧ p0 < N ∧ p < N) ∧ (0 < x ∧ 0 < r ∧ 0 < y ∧ 0 < z ∧ 0 < p0 ∧ 0 < p) ∧ (x ≠ y ∧ x ≠ z ∧ x ≠ p0 ∧ x ≠ p ∧ ty ≠ I) then
          (match copers P N ops2 more, compile P N rest with
          | some as, some ac => some ⟨r, x, y, z, p, p0, ty, as, ac⟩
          | _, _ => none) else none
    | _, _, _ => none
  | _ => none
section
variable {P : Program} {N : Nat}
theorem run_recover {a : Act} {w : World} {d : Option Nat} {args : Array Operand} {ts : Array TypeId} {t : TypeId} {p : String} {f : Array Edge} :
    (execOp a.eval ⟨d, .call ⟨.builtin .recover, args, ts⟩, t, p, f, none⟩).run P w = .ok .recover w := by
  simp [execOp, resolve, invoke, builtin]
theorem equal_nil {I : TypeId} {w : World} {ms : Array (String × TypeId)} (hI : P.underlying I = some (.interface ms)) : (Op.equal I .nilIface .nilIface).run P w = .ok true w := by
  show (Op.equalIn (9999 + 1) I .nilIface .nilIface).run P w = _
  rw [Op.equalIn]
  simp [underlying, hI]
theorem equal_some {I t : TypeId} {x : Value} {w : World} {ms : Array (String × TypeId)} (hI : P.underlying I = some (.interface ms)) : (Op.equal I (.iface t x) .nilIface).run P w = .ok false w := by
  show (Op.equalIn (9999 + 1) I (.iface t x) .nilIface).run P w = _
  rw [Op.equalIn]
  simp [underlying, hI]
theorem binOp_nil {I : TypeId} : binOp .eql I .nilIface .nilIface = (do pure (.bool (← Op.equal I .nilIface .nilIface))) := rfl
theorem binOp_some {I t : TypeId} {x : Value} : binOp .eql I (.iface t x) .nilIface = (do pure (.bool (← Op.equal I (.iface t x) .nilIface))) := rfl
theorem run_eqNil {a : Act} {w : World} {d : Option Nat} {I u : TypeId} {y : Nat} {t : TypeId} {p : String} {f : Array Edge} {ms : Array (String × TypeId)} (hI : P.underlying I = some (.interface ms))
    (hv : a.eval (.tmp y) = .nilIface) : (execOp a.eval ⟨d, .binOp .eql I (.tmp y) (.const .nilIface) u, t, p, f, none⟩).run P w = .ok (.value (.bool true)) w := by
  have hc : a.eval (.const .nilIface) = .nilIface := rfl
  simp only [execOp, hv, hc, binOp_nil]
  simp [eqGuard, equal_nil hI]
theorem run_eqSome {a : Act} {w : World} {d : Option Nat} {I u : TypeId} {y : Nat} {t : TypeId} {p : String} {f : Array Edge} {ms : Array (String × TypeId)} {tt : TypeId} {x : Value} (hI : P.underlying I = some (.interface ms))
    (hv : a.eval (.tmp y) = .iface tt x) : (execOp a.eval ⟨d, .binOp .eql I (.tmp y) (.const .nilIface) u, t, p, f, none⟩).run P w = .ok (.value (.bool false)) w := by
  have hc : a.eval (.const .nilIface) = .nilIface := rfl
  simp only [execOp, hv, hc, binOp_some]
  simp [eqGuard, equal_some hI]
theorem recog_ok {I : TypeId} {c : Code} {D : RecD} (h : recog P N I c = some D) :
    ∃ id0 ops0 id1 ops1 id2 ops2 rest more, c = .seq (.region id0 ops0 false) (.seq (.seq (.region id1 ops1 false) (.cond (.tmp D.z) .ret .skip)) (.seq (.region id2 ops2 false) rest)) ∧
      (∃ a1 a2 t1 p1 f1 t2 p2 f2, ops0.toList = [⟨some D.r, .call ⟨.builtin .recover, a1, a2⟩, t1, p1, f1, none⟩, ⟨some D.x, .assign (.tmp D.r), t2, p2, f2, none⟩]) ∧
      (∃ t1 p1 f1 u t2 p2 f2, ops1.toList = [⟨some D.y, .move (.tmp D.x), t1, p1, f1, none⟩, ⟨some D.z, .binOp .eql I (.tmp D.y) (.const .nilIface) u, t2, p2, f2, none⟩]) ∧
      (∃ t1 p1 f1 u t2 p2 f2, ops2.toList = ⟨some D.p0, .move (.tmp D.x), t1, p1, f1, none⟩ :: ⟨some D.p, .typeAssert (.tmp D.p0) u D.ty true, t2, p2, f2, none⟩ :: more) ∧
      copers P N ops2 more = some D.as ∧ compile P N rest = some D.ac ∧ (D.r < N ∧ D.x < N ∧ D.y < N ∧ D.z < N ∧ D.p0 < N ∧ D.p < N) ∧ (0 < D.x ∧ 0 < D.r ∧ 0 < D.y ∧ 0 < D.z ∧ 0 < D.p0 ∧ 0 < D.p) ∧ (D.x ≠ D.y ∧ D.x ≠ D.z ∧ D.x ≠ D.p0 ∧ D.x ≠ D.p) := by
  unfold recog at h
  split at h
  case h_2 => cases h
  rename_i id0 ops0 id1 ops1 z' id2 ops2 rest
  split at h
  case h_2 => cases h
  rename_i r a1 a2 t1 p1 f1 x r' t2 p2 f2 y x' t3 p3 f3 z t y' u t4 p4 f4 p0 x'' t5 p5 f5 p p0' u' ty t6 p6 f6 more h0 h1 h2
  split at h
  case isFalse => cases h
  rename_i hc
  obtain ⟨⟨rfl, rfl, rfl, rfl, rfl, rfl, rfl⟩, hc2, hc3, hc4⟩ := hc
  split at h
  case h_2 => cases h
  rename_i as ac has hac
  simp only [Option.some.injEq] at h
  subst h
  exact ⟨_, _, _, _, _, _, _, more, rfl, ⟨_, _, _, _, _, _, _, _, h0⟩, ⟨_, _, _, _, _, _, _, h1⟩, ⟨_, _, _, _, _, _, _, h2⟩, has, hac, hc2, hc3, ⟨hc4.1, hc4.2.1, hc4.2.2.1, hc4.2.2.2.1⟩⟩
theorem get_list {ops : Array Oper} {l : List Oper} (h : ops.toList = l) (i : Nat) : ops[i]? = l[i]? := by rw [← Array.getElem?_toList, h]
theorem put_size (a : Act) (d : Option Nat) (v : Value) : (a.put d v).tmps.size = a.tmps.size := by cases d <;> simp [Act.put]
theorem put_get {a : Act} {d : Nat} {v : Value} (h : d < a.tmps.size) : (a.put (some d) v).tmps[d]? = some v := by simp [Act.put, h]
theorem put_ne {a : Act} {d t : Nat} {v : Value} (h : d ≠ t) : (a.put (some d) v).tmps[t]? = a.tmps[t]? := by simp only [Act.put]; rw [Array.getElem?_setIfInBounds_ne h]
theorem put_defers (a : Act) (d : Option Nat) (v : Value) : (a.put d v).defers = a.defers := by cases d <;> rfl
theorem eval_of {a : Act} {t : Nat} {v : Value} (h : a.tmps[t]? = some v) : a.eval (.tmp t) = v := by simp [Act.eval, Array.getD_eq_getD_getElem?, h]
theorem run_move {a : Act} {w : World} {d : Option Nat} {x : Operand} {t : TypeId} {p : String} {f : Array Edge} : (execOp a.eval ⟨d, .move x, t, p, f, none⟩).run P w = .ok (.value (a.eval x)) w := by
  simp only [execOp]; simp
theorem run_assign {a : Act} {w : World} {d : Option Nat} {x : Operand} {t : TypeId} {p : String} {f : Array Edge} {v : Value} (h : a.eval x = v) (hb : v = .nilIface ∨ ∃ t x, v = .iface t x) : (execOp a.eval ⟨d, .assign x, t, p, f, none⟩).run P w = .ok (.value v) w := by
  simp only [execOp, h]
  rcases hb with rfl | ⟨t, x, rfl⟩ <;> simp
theorem results_none {fn : Func} (h : fn.results = #[]) (tmps : Array Value) (w : World) : (results fn tmps).run P w = .ok (.tuple #[]) w := by
  unfold results; rw [h]; simp
theorem wanted_none {o : Oper} {ys : Nat → Option Bool} (h : o.guard = none) : Region.wanted o ys = true := by
  unfold Region.wanted; rw [h]
theorem rec_ret {I : TypeId} {ms : Array (String × TypeId)} (hI : P.underlying I = some (.interface ms)) {f : FuncId} {fn : Func} {c : Code} {D : RecD} (hf : P.funcs[f]? = some fn) (hb : fn.body = some c) (hr : fn.results = #[])
    (h : recog P fn.ntmps I c = some D) {args : Array Value} (ha : args.size ≤ fn.ntmps) (w : World) : CallsD P f args .returning w fun e u' w' => (∃ v, e = .returned v) ∧ u' = .returning ∧ w' = w := by
  obtain ⟨id0, ops0, id1, ops1, id2, ops2, rest, more, rfl, ⟨a1, a2, t1, p1, f1, t2, p2, f2, h0⟩, ⟨t3, p3, f3, u4, t4, p4, f4, h1⟩, _, _, _, ⟨n1, n2, n3, n4, _⟩, _, _⟩ := recog_ok h
  refine callsD_of_wpS hf hb fun c₀ cs hu => ?_
  refine wpS_seq (wpS_region ?_)
  have s0 : ops0.size = 2 := by have := congrArg List.length h0; simpa using this
  have s1 : ops1.size = 2 := by have := congrArg List.length h1; simpa using this
  generalize ha0 : ({ tmps := args ++ Array.replicate (fn.ntmps - args.size) undef, defers := [] } : Act) = a0
  have hsz : a0.tmps.size = fn.ntmps := by subst ha0; simp; omega
  have hdf : a0.defers = [] := by subst ha0; rfl
  have hrec : recoverD (c₀ :: cs) = none := by simp only [recoverD, hu]
  rw [s0]
  show wpOpsS P ops0 _ [0, 1] a0 (c₀ :: cs) w
  simp only [wpOpsS, get_list h0, List.getElem?_cons_zero, List.getElem?_cons_succ]
  rw [if_pos (wanted_none rfl)]
  simp only [run_recover, hrec]
  rw [if_pos (wanted_none rfl)]
  have e1 : (a0.put (some D.r) .nilIface).eval (.tmp D.r) = .nilIface := eval_of (put_get (by rw [hsz]; exact n1))
  rw [run_assign e1 (.inl rfl)]
  simp only [Oper.upon]
  generalize ha2 : (a0.put (some D.r) .nilIface).put (some D.x) .nilIface = b0
  have hsz2 : b0.tmps.size = fn.ntmps := by subst ha2; rw [put_size, put_size, hsz]
  have hx2 : b0.tmps[D.x]? = some .nilIface := by subst ha2; exact put_get (by rw [put_size, hsz]; exact n2)
  have hd2 : b0.defers = [] := by subst ha2; rw [put_defers, put_defers, hdf]
  refine wpS_of_wp ?_
  refine wp_seq (wp_seq (wp_region ?_))
  rw [s1]
  show wpOps P ops1 _ [0, 1] b0 w
  simp only [wpOps, get_list h1, List.getElem?_cons_zero, List.getElem?_cons_succ]
  rw [if_pos (wanted_none rfl)]
  refine .inl (op_value run_move ?_)
  rw [if_pos (wanted_none rfl)]
  rw [eval_of hx2]
  refine .inl (op_value (run_eqNil hI (eval_of (put_get (by rw [hsz2]; exact n3)))) ?_)
  refine wp_cond (t := true) (eval_of (put_get (by rw [put_size, hsz2]; exact n4))) ?_
  rw [if_pos rfl]
  refine wp_ret ?_
  exact ⟨by rw [put_defers, put_defers]; exact hd2, c₀.mode, rfl, _, results_none hr _ _, ⟨_, rfl⟩, hu, rfl⟩
theorem run_typeAssert {a : Act} {w : World} {d : Option Nat} {x : Operand} {u ty : TypeId} {t : TypeId} {p : String} {f : Array Edge} {v : Value} (hty : ∃ fs, P.underlying ty = some (.struct fs)) (h : a.eval x = .iface ty v) :
    (execOp a.eval ⟨d, .typeAssert x u ty true, t, p, f, none⟩).run P w = .ok (.value (.tuple #[v, .bool true])) w := by
  obtain ⟨fs, hty⟩ := hty
  simp only [execOp, h]
  simp [Instr.typeAssert, underlying, hty]
def doneQ (K : List Nat) (O' : List (Nat × AObj)) (o : Out) (τ : St) : Prop := match o with | .exit _ => False | _ => WeakE K τ [] O'
theorem rec_die (hm : P.follows .mixedOrders = true) {I : TypeId} {ms : Array (String × TypeId)} (hI : P.underlying I = some (.interface ms)) {f : FuncId} {fn : Func} {c : Code} {D : RecD} (hf : P.funcs[f]? = some fn) (hb : fn.body = some c) (hr : fn.results = #[])
    (h : recog P fn.ntmps I c = some D) (hst : D.ac.strip = D.ac) {ty : TypeId} (hDty : D.ty = ty) (hty : ∃ fs, P.underlying ty = some (.struct fs)) {ev : Int → Value} (hev : ∀ n, ev n = .iface ty (.agg #[.int .i64 n])) {O O' : List (Nat × AObj)} {idc : Nat} {n : Int}
    (hW : wseq P D.as (fun τ => Wp P fn.ntmps (O.map (·.1)) D.ac (doneQ (O.map (·.1)) O') τ) (stOf [(0, .share, .ptr idc 0 0 1), (D.x, .share, .sc (ev n)), (D.p, .share, .tup [.agg [.sc (.int .i64 n)], .sc (.bool true)])] O))
    {G : Nat → Prop} {w : World} {ob : Place} {v : Value} (hs : SimO G w ob (ofL O)) (hv : Rel G w ob (.ptr idc 0 0 1) v) :
    CallsD P f #[v] (.panicking [{ v := ev n, recovered := false }]) w fun e u' w' => (∃ r, e = .returned r) ∧ u' = .panicking [{ v := ev n, recovered := true }] ∧
      ∃ G' ob', SimO G' w' ob' (ofL O') ∧ Fr G w ob G' w' ob' ∧ OBx (· ∈ O.map (·.1)) ob ob' := by
  obtain ⟨id0, ops0, id1, ops1, id2, ops2, rest, more, rfl, ⟨a1, a2, t1, p1, f1, t2, p2, f2, h0⟩, ⟨t3, p3, f3, u4, t4, p4, f4, h1⟩, ⟨t5, p5, f5, u6, t6, p6, f6, h2⟩, has, hac, ⟨n1, n2, n3, n4, n5, n6⟩, ⟨z1, z2, z3, z4, z5, z6⟩, ⟨q1, q2, q3, q4⟩⟩ := recog_ok h
  refine callsD_of_wpS hf hb fun c₀ cs hu => ?_
  refine wpS_seq (wpS_region ?_)
  have s0 : ops0.size = 2 := by have := congrArg List.length h0; simpa using this
  have s1 : ops1.size = 2 := by have := congrArg List.length h1; simpa using this
  have s2 : ops2.size = more.length + 2 := by have := congrArg List.length h2; simpa using this
  generalize ha0 : ({ tmps := #[v] ++ Array.replicate (fn.ntmps - (#[v] : Array Value).size) undef, defers := [] } : Act) = a0
  have hsz : a0.tmps.size = fn.ntmps := by subst ha0; simp; omega
  have hdf : a0.defers = [] := by subst ha0; rfl
  have h00 : a0.tmps[0]? = some v := by subst ha0; simp [Array.getElem?_append]
  have hrec : recoverD (c₀ :: cs) = some (ev n, { c₀ with mode := .panicking [{ v := ev n, recovered := true }] } :: cs) := by simp only [recoverD, hu]
  rw [s0]
  show wpOpsS P ops0 _ [0, 1] a0 (c₀ :: cs) w
  simp only [wpOpsS, get_list h0, List.getElem?_cons_zero, List.getElem?_cons_succ]
  rw [if_pos (wanted_none rfl)]
  simp only [run_recover, hrec]
  rw [if_pos (wanted_none rfl)]
  have e1 : (a0.put (some D.r) (ev n)).eval (.tmp D.r) = ev n := eval_of (put_get (by rw [hsz]; exact n1))
  rw [run_assign e1 (.inr ⟨_, _, hev n⟩)]
  simp only [Oper.upon]
  generalize ha2 : (a0.put (some D.r) (ev n)).put (some D.x) (ev n) = b0
  have hsz2 : b0.tmps.size = fn.ntmps := by subst ha2; rw [put_size, put_size, hsz]
  have hx2 : b0.tmps[D.x]? = some (ev n) := by subst ha2; exact put_get (by rw [put_size, hsz]; exact n2)
  have hd2 : b0.defers = [] := by subst ha2; rw [put_defers, put_defers, hdf]
  have h02 : b0.tmps[0]? = some v := by subst ha2; rw [put_ne (by omega), put_ne (by omega)]; exact h00
  refine wpS_of_wp ?_
  refine wp_seq (wp_seq (wp_region ?_))
  rw [s1]
  show wpOps P ops1 _ [0, 1] b0 w
  simp only [wpOps, get_list h1, List.getElem?_cons_zero, List.getElem?_cons_succ]
  rw [if_pos (wanted_none rfl)]
  refine .inl (op_value run_move ?_)
  rw [if_pos (wanted_none rfl)]
  rw [eval_of hx2]
  refine .inl (op_value (run_eqSome hI ((eval_of (put_get (by rw [hsz2]; exact n3))).trans (hev n))) ?_)
  refine wp_cond (t := false) (eval_of (put_get (by rw [put_size, hsz2]; exact n4))) ?_
  rw [if_neg (by simp)]
  refine wp_skip ?_
  show (Code.seq (.region id2 ops2 false) rest).wp P _ _ w
  generalize ha3 : (b0.put (some D.y) (ev n)).put (some D.z) (.bool false) = b1
  have hsz3 : b1.tmps.size = fn.ntmps := by subst ha3; rw [put_size, put_size, hsz2]
  have hx3 : b1.tmps[D.x]? = some (ev n) := by subst ha3; rw [put_ne (fun e => q2 e.symm), put_ne (fun e => q1 e.symm)]; exact hx2
  have hd3 : b1.defers = [] := by subst ha3; rw [put_defers, put_defers, hd2]
  have h03 : b1.tmps[0]? = some v := by subst ha3; rw [put_ne (by omega), put_ne (by omega)]; exact h02
  refine wp_seq (wp_region ?_)
  have hrng : List.range ops2.size = 0 :: 1 :: List.range' 2 more.length := by
    rw [s2, List.range_eq_range', List.range'_succ, List.range'_succ]
  rw [hrng]
  simp only [wpOps, get_list h2, List.getElem?_cons_zero, List.getElem?_cons_succ]
  rw [if_pos (wanted_none rfl)]
  refine .inl (op_value run_move ?_)
  rw [if_pos (wanted_none rfl)]
  rw [eval_of hx3]
  refine .inl (op_value (run_typeAssert (by rw [hDty]; exact hty) ((eval_of (put_get (by rw [hsz3]; exact n5))).trans (by rw [hev n, hDty]))) ?_)
  generalize ha4 : (b1.put (some D.p0) (ev n)).put (some D.p) (.tuple #[.agg #[.int .i64 n], .bool true]) = b2
  have hsz4 : b2.tmps.size = fn.ntmps := by subst ha4; rw [put_size, put_size, hsz3]
  have hx4 : b2.tmps[D.x]? = some (ev n) := by subst ha4; rw [put_ne (fun e => q4 e.symm), put_ne (fun e => q3 e.symm)]; exact hx3
  have hd4 : b2.defers = [] := by subst ha4; rw [put_defers, put_defers, hd3]
  have h04 : b2.tmps[0]? = some v := by subst ha4; rw [put_ne (by omega), put_ne (by omega)]; exact h03
  have hp4 : b2.tmps[D.p]? = some (.tuple #[.agg #[.int .i64 n], .bool true]) := by subst ha4; exact put_get (by rw [put_size, hsz3]; exact n6)
  have hsim : Sim fn.ntmps (stOf [(0, .share, .ptr idc 0 0 1), (D.x, .share, .sc (ev n)), (D.p, .share, .tup [.agg [.sc (.int .i64 n)], .sc (.bool true)])] O) b2 w ob G := by
    refine ⟨hsz4, hd4, hs, fun t av ht => ?_, fun t av ht => absurd ht envT_true⟩
    simp only [stOf, envT] at ht
    split at ht
    · rename_i e; subst e; simp only [Option.some.injEq, Prod.mk.injEq, true_and] at ht; subst ht; exact ⟨v, h04, hv⟩
    · split at ht
      · rename_i e; subst e; simp only [Option.some.injEq, Prod.mk.injEq, true_and] at ht; subst ht; exact ⟨ev n, hx4, .sc (by rw [hev]; rfl)⟩
      · split at ht
        · rename_i e; subst e; simp only [Option.some.injEq, Prod.mk.injEq, true_and] at ht; subst ht
          refine ⟨_, hp4, .tup _ rfl fun j av hj => ?_⟩
          match j, hj with
          | 0, hj =>
            simp only [List.getElem?_cons_zero, Option.some.injEq] at hj; subst hj
            refine .agg _ rfl (fun j av hj => ?_) fun j av hj => ?_
            · match j, hj with
              | 0, hj => simp only [List.getElem?_cons_zero, Option.some.injEq] at hj; subst hj; rfl
            · match j, hj with
              | 0, hj => simp only [List.getElem?_cons_zero, Option.some.injEq] at hj; subst hj; exact .sc rfl
          | 1, hj => simp only [List.getElem?_cons_succ, List.getElem?_cons_zero, Option.some.injEq] at hj; subst hj; exact .sc rfl
        · cases ht
  refine wseq_ok (Q := fun τ => Wp P fn.ntmps (O.map (·.1)) D.ac (doneQ (O.map (·.1)) O') τ) more D.as 2 _ b2 w ob G has (fun i o hi => by
    rw [get_list h2, show 2 + i = i + 1 + 1 by omega]; simpa using hi) hsim hW ?_
  intro τ a' w' ob' G' hq hs' hf' he'
  refine wp_mono (hq rest (by rw [hst]; exact hac) ⟨G, w, ob⟩ a' w' ob' G' hs' ⟨hf', fun id i _ hi => he' id i hi⟩) ?_
  rintro e a'' w'' ⟨o, τ', ob1, G1, rfl, hq', s', hΓ⟩
  have fin : WeakE (O.map (·.1)) τ' [] O' → a''.defers = [] ∧ ∃ u', ({ c₀ with mode := .panicking [{ v := ev n, recovered := true }] } :: cs : List Frame) = { c₀ with mode := u' } :: cs ∧ ∃ r, (results fn a''.tmps).run P w'' = .ok r w'' ∧
      ((∃ r', Ending.returned r = .returned r') ∧ u' = .panicking [{ v := ev n, recovered := true }] ∧ ∃ G' ob', SimO G' w'' ob' (ofL O') ∧ Fr G w ob G' w'' ob' ∧ OBx (· ∈ O.map (·.1)) ob ob') := by
    rintro ⟨ρ, A, hw⟩
    obtain ⟨ob2, G2, g1, g2, g3⟩ := weak_ok s' hw
    exact ⟨s'.defers, _, rfl, _, results_none hr _ _, ⟨_, rfl⟩, rfl, G2, ob2, g1.objs, hΓ.fr.trans g2, hΓ.ext.trans fun id i hk hi => ⟨i, by rw [g3 id hk]; exact hi, .inl rfl⟩⟩
  cases o with
  | normal => exact fin hq'
  | exit i => exact hq'.elim
  | ret => exact fin hq'
end
end Go.Abs
end
section
namespace Go.Abs
section
variable {P : Program} {N : Nat}
theorem wany_ok {ops : Array Oper} {as : List AOper} {Q : St → Prop} {R : Exit → Act → World → Prop} {σ : St} {a : Act} {w : World} {ob : Place} {G : Nat → Prop} 
    (hc : cregion P N ops true = some as) (hs : Sim N σ a w ob G) (h : wany P as [] Q σ)
    (hQ : ∀ τ a' w' ob' G', Q τ → Sim N τ a' w' ob' G' → Fr G w ob G' w' ob' → OBext ob ob' → R .normal a' w') : wpAny P .any ops R ops.size (Array.replicate ops.size false) a { w with drawn := w.drawn + 1 } := by
  unfold cregion at hc
  split at hc
  case h_2 => cases hc
  rename_i as0 hcop
  rw [if_pos rfl] at hc
  split at hc
  case isFalse => cases hc
  rename_i hedge
  obtain ⟨hl0, hget0⟩ := copers_get hcop
  obtain ⟨hl1, hget1⟩ := anyForm_spec hc
  obtain ⟨es, ft, hle, hlf, hQn, htr⟩ := wany_trace as [] σ h
  have hn : as.length = ops.size := by rw [hl1, hl0]; simp
  -- the entries
  let E : Nat → Ent := fun i => es.getD i ⟨none, false, ⟨none, []⟩⟩
  have hE : ∀ k, k ≤ ops.size → atS E σ (fun _ => true) k = runL σ (es.take k) := fun k hk => atS_run k (by omega)
  have hEget : ∀ i e, es[i]? = some e → E i = e := fun i e he => by simp only [E, List.getD]; rw [he]; rfl
  let ms := maskL ops.toList []
  have hmask : ∀ S, Closed ops S → ∀ k i, (ms.getD k 0).testBit i = true → S k = true → S i = true := fun S hS =>
    (maskL_spec hS ops.toList [] (fun i o hi => by simpa using hi) (fun k i hb => by simp at hb)).2
  -- what the trace says of one operation
  have one : ∀ i, i < ops.size → ∃ o ao ao0 m f, ops[i]? = some o ∧ as0[i]? = some ao0 ∧ as[i]? = some ao ∧ ao = { ao0 with chk := chkOf m ao0 (as0.take i) 0 } ∧ ms[i]? = some m ∧
      coper P N ops o = some ao0 ∧ apartAll m ao0 (as0.take i) 0 = true ∧ (E i).dst = ao.dst ∧ ft[i]? = some f ∧ f = (foot (atS E σ (fun _ => true) i) ao, keys (E i).r) ∧
      Does P ao (atS E σ (fun _ => true) i) (E i).b (E i).r ∧ keepOff (ft.take i) f.1 f.2 ao.chk ∧ quietR ao.op (E i).r := fun i hi => by
    have ho : ops.toList[i]? = some ops[i] := by simp [hi]
    obtain ⟨ao0, g1, g2⟩ := hget0 i _ ho
    obtain ⟨m, g3, g4, g5⟩ := hget1 i ao0 g1
    obtain ⟨e, f, k1, k2, k3, k4, k5, k6⟩ := htr i _ g4
    have hEi := hEget i e k1
    rw [← hE i (by omega)] at k4 k5
    exact ⟨ops[i], _, ao0, m, f, by simpa using ho, g1, g4, by simp, g3, g2, by simpa using g5, by rw [hEi]; exact k3, k2, by rw [hEi]; exact k4, by rw [hEi]; exact k5, by simpa using k6.1, by rw [hEi]; exact k6.2⟩
  -- a pair that no edge orders
  have pair : ∀ i j, i < j → j < ops.size → (∃ m, ms[j]? = some m ∧ m.testBit i = false) → ∀ ai aj, as[i]? = some ai → as[j]? = some aj →
      Apart ai aj (foot (atS E σ (fun _ => true) i) ai) (foot (atS E σ (fun _ => true) j) aj) (E i) (E j) := fun i j hij hj hb ai aj hai haj => by
    obtain ⟨o, ao, ao0, m, f, p1, p2, p3, p4, p5, p6, p7, p8, p9, p10, p11, p12, p13⟩ := one j hj
    obtain ⟨o', ao', ao0', m', f', q1, q2, q3, q4, q5, q6, q7, q8, q9, q10, q11, q12, q13⟩ := one i (by omega)
    rw [hai] at q3; injection q3 with q3; subst q3
    rw [haj] at p3; injection p3 with p3; subst p3
    obtain ⟨m2, hm2, hbit⟩ := hb
    rw [p5] at hm2; injection hm2 with hm2; subst hm2
    have hgi : (as0.take j)[i]? = some ao0' := by rw [List.getElem?_take]; simp [hij, q2]
    have hap := (apartAll_spec p7 i ao0' hgi).resolve_left (by simp [hbit])
    obtain ⟨s1, s2⟩ := apartS_spec hap
    have dyn : (∀ x ∈ keys (E i).r, x ∉ foot (atS E σ (fun _ => true) j) aj ∧ x ∉ keys (E j).r) ∧ (∀ x ∈ keys (E j).r, x ∉ foot (atS E σ (fun _ => true) i) ai ∧ x ∉ keys (E i).r) := by
      cases hin : interplay ao0' ao0 with
      | true =>
        have hch := chkOf_spec (i := 0) i ao0' hgi (by simpa using hbit) hin
        obtain ⟨f2, k2, hf2, hd1, hd2⟩ := keepOff_spec p12 i (by rw [p4]; simpa using hch)
        rw [List.getElem?_take, if_pos hij, q9] at hf2
        injection hf2 with hf2
        rw [q10] at hf2; injection hf2 with e1 e2
        subst e1; subst e2
        rw [p10] at hd1 hd2
        simp only at hd1 hd2
        refine ⟨fun x hx => ?_, fun x hx => ?_⟩
        · have := hd2 x hx
          simpa [List.mem_append, not_or] using this
        · have := hd1 x hx
          simpa [List.mem_append, not_or] using this
      | false =>
        simp only [interplay, Bool.or_eq_false_iff, Bool.and_eq_false_iff] at hin
        have hopi : ai.op = ao0'.op := by rw [q4]
        have hopj : aj.op = ao0.op := by rw [p4]
        rw [← hopi, ← hopj] at hin
        obtain ⟨h1, h2⟩ := hin
        have quiet : ∀ (b : AOper) (τ : St) (c : Bool) (r : Res), Does P b τ c r → b.op.mayWrite = false → quietR b.op r → keys r = [] := fun b τ c r hd hw hq => hd.quiet hw hq
        have tch : ∀ op : AOp, op.touches = false → op.mayWrite = false := fun op ht => by
          cases hw : op.mayWrite with
          | false => rfl
          | true => rw [mayWrite_touches hw] at ht; cases ht
        refine ⟨fun x hx => ?_, fun x hx => ?_⟩
        · rcases h1 with h1 | h1
          · rw [quiet _ _ _ _ q11 h1 q13] at hx; cases hx
          · exact ⟨by rw [foot_quiet h1]; simp, by rw [quiet _ _ _ _ p11 (tch _ h1) p13]; simp⟩
        · rcases h2 with h2 | h2
          · rw [quiet _ _ _ _ p11 h2 p13] at hx; cases hx
          · exact ⟨by rw [foot_quiet h2]; simp, by rw [quiet _ _ _ _ q11 (tch _ h2) q13]; simp⟩
    refine ⟨fun d hd => ?_, fun d hd => ?_, dyn.1, dyn.2⟩
    · rw [q8, q4] at hd
      have := s1 d hd
      rw [p8, p4]; exact this
    · rw [p8, p4] at hd
      have := s2 d hd
      rw [q8, q4]; exact this
  -- the walk in any order
  have main : ∀ (fuel : Nat) (listed : Array Bool) (a' : Act) (w' : World) (ob' : Place) (G' : Nat → Prop), listed.size = ops.size →
      (List.range ops.size).countP (fun i => !listed.getD i false) ≤ fuel → Closed ops (fun i => listed.getD i false) →
      Sim N (atS E σ (fun i => listed.getD i false) ops.size) a' w' ob' G' → Fr G w ob G' w' ob' → OBext ob ob' → wpAny P .any ops R fuel listed a' w' := by
    intro fuel
    have final : ∀ (listed : Array Bool) (a' : Act) (w' : World) (ob' : Place) (G' : Nat → Prop), listed.size = ops.size → Region.ready .any ops listed = [] →
        Sim N (atS E σ (fun i => listed.getD i false) ops.size) a' w' ob' G' → Fr G w ob G' w' ob' → OBext ob ob' → R .normal a' w' := by
      intro listed a' w' ob' G' hsz hr hsim hfr hob
      have hall : ∀ i, i < ops.size → listed.getD i false = true := by
        intro i
        induction i using Nat.strongRecOn with
        | _ i ih =>
          intro hi
          by_cases hli : listed.getD i false = true
          · exact hli
          · exfalso
            have : i ∈ Region.ready .any ops listed := by
              rw [mem_ready]
              refine ⟨?_, ops[i], by simp [hi], fun e he hb => ?_⟩
              · have hlt : i < listed.size := by omega
                simp only [Array.getD_eq_getD_getElem?, Array.getElem?_eq_getElem hlt, Option.getD_some] at hli ⊢
                simpa using hli
              · have := edgesOk_spec hedge i ops[i] (by simp [hi]) e he hb
                exact ih e.on (by omega) (by omega)
            rw [hr] at this; cases this
      have heq : atS E σ (fun i => listed.getD i false) ops.size = runL σ es := by
        rw [atS_eq (S' := fun _ => true) ops.size (fun j hj => hall j hj), hE _ (Nat.le_refl _), List.take_of_length_le (by omega)]
      rw [heq] at hsim
      exact hQ _ a' w' ob' G' hQn hsim hfr hob
    induction fuel with
    | zero =>
      intro listed a' w' ob' G' hsz hcnt hcl hsim hfr hob
      have hr : Region.ready .any ops listed = [] := by
        cases hr : Region.ready .any ops listed with
        | nil => rfl
        | cons i rs =>
          exfalso
          have hi : i ∈ Region.ready .any ops listed := by rw [hr]; exact List.mem_cons_self ..
          obtain ⟨h0, o, ho, _⟩ := mem_ready.1 hi
          have hlt : i < ops.size := (Array.getElem?_eq_some_iff.1 ho).1
          have : 0 < (List.range ops.size).countP (fun i => !listed.getD i false) := by
            rw [List.countP_pos_iff]
            refine ⟨i, List.mem_range.2 hlt, ?_⟩
            have hlt' : i < listed.size := by omega
            simp only [Array.getD_eq_getD_getElem?, Array.getElem?_eq_getElem hlt', Option.getD_some] at h0 ⊢
            simpa using h0
          omega
      exact ⟨hr, final listed a' w' ob' G' hsz hr hsim hfr hob⟩
    | succ fuel ih =>
      intro listed a' w' ob' G' hsz hcnt hcl hsim hfr hob
      refine ⟨fun hr => final listed a' w' ob' G' hsz hr hsim hfr hob, fun j hj => ?_⟩
      obtain ⟨h0, o, ho, hedges⟩ := mem_ready.1 hj
      have hlt : j < ops.size := (Array.getElem?_eq_some_iff.1 ho).1
      have hlt' : j < listed.size := by omega
      have h0' : listed.getD j false = false := by
        simp only [Array.getD_eq_getD_getElem?, Array.getElem?_eq_getElem hlt', Option.getD_some] at h0 ⊢
        exact h0
      have hset : (fun i => (listed.setIfInBounds j true).getD i false) = fun i => if i = j then true else listed.getD i false := by
        funext i
        by_cases hij : i = j
        · subst hij; simp [hlt']
        · rw [getD_set_ne false (fun e => hij e.symm)]; simp [hij]
      have hcl' : Closed ops (fun i => (listed.setIfInBounds j true).getD i false) := by
        rw [hset]
        intro k o' ho' hk e he hb
        by_cases hej : e.on = j
        · simp [hej]
        · simp only [hej, if_false]
          by_cases hkj : k = j
          · subst hkj
            rw [ho] at ho'; injection ho' with ho'; subst ho'
            exact hedges e he hb
          · simp only [hkj, if_false] at hk
            exact hcl k o' ho' hk e he hb
      obtain ⟨o1, ao, ao0, m, f, p1, p2, p3, p4, p5, p6, p7, p8, p9, p10, p11, p12⟩ := one j hlt
      rw [ho] at p1; injection p1 with p1; subst p1
      -- the operations that are listed out of turn
      have odd : ∀ k, k < ops.size → k ≠ j → decide (k < j) ≠ listed.getD k false → ∀ ak, as[k]? = some ak →
          Apart ak ao (foot (atS E σ (fun _ => true) k) ak) (foot (atS E σ (fun _ => true) j) ao) (E k) (E j) := by
        intro k hk hkj hne ak hak
        rcases Nat.lt_or_gt_of_ne hkj with hlt2 | hgt
        · have hSk : listed.getD k false = false := by
            cases hs : listed.getD k false with
            | false => rfl
            | true => rw [hs, decide_eq_true hlt2] at hne; exact absurd rfl hne
          refine pair k j hlt2 hlt ⟨m, p5, ?_⟩ ak ao hak p3
          cases hbit : m.testBit k with
          | false => rfl
          | true =>
            have hj' := congrFun hset j
            have hk' := congrFun hset k
            simp only at hj' hk'
            have := hmask _ hcl' j k (by rw [List.getD, p5]; exact hbit) (by rw [hj']; simp)
            rw [hk', if_neg hkj, hSk] at this; cases this
        · have hSk : listed.getD k false = true := by
            cases hs : listed.getD k false with
            | true => rfl
            | false => rw [hs, decide_eq_false (by omega)] at hne; exact absurd rfl hne
          obtain ⟨_, _, _, m', _, _, _, _, _, q5, _⟩ := one k hk
          refine (pair j k hgt hk ⟨m', q5, ?_⟩ ao ak p3 hak).symm
          cases hbit : m'.testBit j with
          | false => rfl
          | true =>
            have := hmask _ hcl k j (by rw [List.getD, q5]; exact hbit) hSk
            rw [h0'] at this; cases this
      have hask : ∀ k, k < ops.size → ∃ ak, as[k]? = some ak := fun k hk => ⟨as[k]'(by omega), List.getElem?_eq_getElem _⟩
      -- the operation does here what it does in text order
      have hup : atS E σ (fun _ => true) j = atS E σ (fun i => decide (i < j)) ops.size := (atS_upto j ops.size (by omega)).symm
      have hdo : Does P ao (atS E σ (fun i => listed.getD i false) ops.size) (E j).b (E j).r := by
        refine does_m p11 (fun t ht => ?_) (fun x hx => ?_) (fun x hx => ?_)
        · rw [hup]
          refine atS_env ops.size fun k hk hne hd => ?_
          by_cases hkj : k = j
          · subst hkj; rw [h0', decide_eq_false (by omega)] at hne; exact hne rfl
          · obtain ⟨ak, hak⟩ := hask k hk
            exact ((odd k hk hkj hne ak hak).di t hd).1 ht
        · rw [hup]
          refine atS_objs ops.size fun k hk hne hd => ?_
          by_cases hkj : k = j
          · subst hkj; rw [h0', decide_eq_false (by omega)] at hne; exact hne rfl
          · obtain ⟨ak, hak⟩ := hask k hk
            exact ((odd k hk hkj hne ak hak).ij x hd).1 hx
        · rw [hup]
          refine atS_objs ops.size fun k hk hne hd => ?_
          by_cases hkj : k = j
          · subst hkj; rw [h0', decide_eq_false (by omega)] at hne; exact hne rfl
          · obtain ⟨ak, hak⟩ := hask k hk
            exact ((odd k hk hkj hne ak hak).ij x hd).2 hx
      have hdo0 : Does P ao0 (atS E σ (fun i => listed.getD i false) ops.size) (E j).b (E j).r := hdo.reclad (by rw [p4]) (by rw [p4]) (by rw [p4])
      have hd0 : ao0.dst = (E j).dst := by rw [p8, p4]
      have := does_ok (K := wpAny P .any ops R fuel (listed.setIfInBounds j true)) (Q := R) p6 hsim hdo0 (fun a2 w2 ob2 G2 s2 f2 e2 => by
        have hst : (atS E σ (fun i => listed.getD i false) ops.size).put ao0.dst (E j).b (E j).r = atS E σ (fun i => (listed.setIfInBounds j true).getD i false) ops.size := by
          rw [hset, atS_put h0' ops.size hlt]
          · rw [hd0]; rfl
          · intro k hjk hk hSk
            obtain ⟨ak, hak⟩ := hask k hk
            have hap := (odd k hk (by omega) (by rw [hSk, decide_eq_false (by omega)]; simp) ak hak).symm
            exact ⟨fun d hd => (hap.di d hd).2, fun x hx => (hap.ij x hx).2⟩
        rw [hst] at s2
        refine ih _ a2 w2 ob2 G2 (by simpa using hsz) ?_ hcl' s2 (hfr.trans f2) (hob.trans e2)
        have := count_lt (p := fun i => !listed.getD i false) (q := fun i => !(listed.setIfInBounds j true).getD i false) (i := j)
          (fun x hx => by
            by_cases hxj : x = j
            · subst hxj; simp [h0']
            · rw [getD_set_ne false (fun e => hxj e.symm)] at hx; exact hx)
          (by simp [h0']) (by simp [hlt']) (List.range ops.size) (List.mem_range.2 hlt)
        omega)
      unfold wpOp
      rw [ho]
      by_cases hw : Region.wanted o (yielded ops a'.tmps) = true
      · rw [if_pos hw] at this; simp only [hw, if_true]; exact .inl this
      · rw [if_neg hw] at this; simp only [hw]; exact this
  have hsim0 : Sim N (atS E σ (fun i => (Array.replicate ops.size false).getD i false) ops.size) a { w with drawn := w.drawn + 1 } ob G := by
    have : atS E σ (fun i => (Array.replicate ops.size false).getD i false) ops.size = σ := by
      have key : ∀ k, atS E σ (fun i => (Array.replicate ops.size false).getD i false) k = σ := by
        intro k
        induction k with
        | zero => rfl
        | succ k ih =>
          simp only [atS]
          rw [ih]
          have : (Array.replicate ops.size false).getD k false = false := by
            simp only [Array.getD_eq_getD_getElem?, Array.getElem?_replicate]; split <;> rfl
          rw [this]; rfl
      exact key _
    rw [this]
    refine ⟨hs.size, hs.defers, hs.objs.heap_eq rfl, fun t av ht => ?_, hs.env0⟩
    obtain ⟨v, h1, h2⟩ := hs.env t av ht
    exact ⟨v, h1, h2.ext (fun _ h => h) (fun _ _ => rfl) (OBext.refl ob)⟩
  refine main ops.size _ a _ ob G (by simp) ?_ ?_ hsim0 (Fr.of_heap (Nat.le_refl _) (fun _ _ _ => rfl) (fun _ h => .inl h) rfl rfl rfl) (OBext.refl ob)
  · exact Nat.le_trans (List.countP_le_length) (by simp)
  · intro j o ho hj
    have : (Array.replicate ops.size false).getD j false = false := by
      simp only [Array.getD_eq_getD_getElem?, Array.getElem?_replicate]; split <;> rfl
    simp only [this] at hj; cases hj
def _root_.Go.Act.more (a : Act) (ds : List Deferred) : Act := { a with defers := a.defers ++ ds }
theorem more_put (a : Act) (d : Option Nat) (v : Value) (ds : List Deferred) : (a.put d v).more ds = (a.more ds).put d v := by cases d <;> rfl
theorem upon_more {o : Oper} {a : Act} {ds : List Deferred} {K K' : Act → World → Prop} {R : Exit → Act → World → Prop} (hK : ∀ a w, K a w → K' (a.more ds) w) {r : Result Next}
    (h : o.upon P a K (fun e a w => R e (a.more ds) w) r) : o.upon P (a.more ds) K' R r := by
  unfold Oper.upon at h ⊢
  split at h
  · have := hK _ _ h; rw [more_put] at this; exact this
  · have := hK _ _ h; rw [more_put] at this; exact this
  · have := hK _ _ h; rw [more_put] at this; exact this
  · refine h.mono ?_
    intro e w'
    cases e with
    | returned v => intro h; have := hK _ _ h; rw [more_put] at this; exact this
    | panicked chain => exact id
    | outgrown =>
      rintro ⟨a', w', h⟩
      exact ⟨_, w', h⟩
  · exact h.mono fun v w' h => by have := hK _ _ h; rw [more_put] at this; exact this
  · exact h
  · exact h.elim
theorem op_more {ops : Array Oper} {o : Oper} {a : Act} {w : World} {ds : List Deferred} {K K' : Act → World → Prop} {R : Exit → Act → World → Prop} (hK : ∀ a w, K a w → K' (a.more ds) w)
    (h : if Region.wanted o (yielded ops a.tmps) then o.wp P a w K (fun e a w => R e (a.more ds) w) ∨ (o.asks P a w ∧ LetsOut fun e a w => R e (a.more ds) w) else K (a.put o.dst undef) w) :
    if Region.wanted o (yielded ops (a.more ds).tmps) then o.wp P (a.more ds) w K' R ∨ (o.asks P (a.more ds) w ∧ LetsOut R) else K' ((a.more ds).put o.dst undef) w := by
  by_cases hw : Region.wanted o (yielded ops a.tmps) = true
  · have hw' : Region.wanted o (yielded ops (a.more ds).tmps) = true := hw
    rw [if_pos hw] at h; rw [if_pos hw']
    rcases h with h | h
    · exact .inl (upon_more hK h)
    · exact .inr ⟨h.1, by obtain ⟨a', w', h⟩ := h.2; exact ⟨_, w', h⟩⟩
  · have hw' : ¬ Region.wanted o (yielded ops (a.more ds).tmps) = true := hw
    rw [if_neg hw] at h; rw [if_neg hw', ← more_put]; exact hK _ _ h
theorem wpOps_more {ops : Array Oper} {ds : List Deferred} {R : Exit → Act → World → Prop} : ∀ (l : List Nat) (a : Act) (w : World), wpOps P ops (fun e a w => R e (a.more ds) w) l a w → wpOps P ops R l (a.more ds) w
  | [], a, w, h => h
  | i :: l, a, w, h => by
    rw [wpOps] at h ⊢
    cases ho : ops[i]? with
    | none => rw [ho] at h; exact wpOps_more l a w h
    | some o =>
      rw [ho] at h
      exact op_more (fun a w => wpOps_more l a w) h
theorem wpAny_more {ops : Array Oper} {ds : List Deferred} {R : Exit → Act → World → Prop} : ∀ (n : Nat) (listed : Array Bool) (a : Act) (w : World), wpAny P .any ops (fun e a w => R e (a.more ds) w) n listed a w → wpAny P .any ops R n listed (a.more ds) w
  | 0, listed, a, w, h => h
  | n + 1, listed, a, w, h => by
    refine ⟨h.1, fun i hi => ?_⟩
    have h2 := h.2 i hi
    unfold wpOp at h2 ⊢
    cases ho : ops[i]? with
    | none => rw [ho] at h2; exact wpAny_more n _ a w h2
    | some o =>
      rw [ho] at h2
      exact op_more (fun a w => wpAny_more n _ a w) h2
def obOf (ρ : Nat → Nat) (O : List (Nat × AObj)) (ob : Place) : Place := fun i => if (ofL O i).isSome then ob (ρ i) else none
theorem obOf_some {ρ : Nat → Nat} {O : List (Nat × AObj)} {ob : Place} {i : Nat} {inf : Info} (h : obOf ρ O ob i = some inf) : (ofL O i).isSome ∧ ob (ρ i) = some inf := by
  unfold obOf at h; split at h
  · exact ⟨by assumption, h⟩
  · cases h
theorem SimO.restrict {G : Nat → Prop} {w : World} {ob : Place} {m : Nat → Option AObj} (a1 : SimO G w ob m) {ρ : Nat → Nat} {O : List (Nat × AObj)} (hO : ∀ i o, ofL O i = some o → m (ρ i) = some (o.ren ρ))
    (hOc : ∀ i cs, ofL O i = some (.box cs) → ∀ j ∈ idsL cs, (ofL O j).isSome) (hinj : ∀ i j, (ofL O i).isSome → (ofL O j).isSome → ρ i = ρ j → i = j) : SimO G w (obOf ρ O ob) (ofL O) := by
  have hob1 : ∀ i, (ofL O i).isSome → obOf ρ O ob i = ob (ρ i) := fun i hi => by unfold obOf; rw [if_pos hi]
  refine ⟨fun i => ?_, fun i j inf inf' b hi hj hb hb' => ?_, a1.lt, fun i o inf ho hi => ?_, fun i o inf b ho how hi hb => ?_⟩
  · constructor
    · intro h; unfold obOf; rw [h]; rfl
    · intro h
      cases ho : ofL O i with
      | none => rfl
      | some o =>
        unfold obOf at h
        rw [ho] at h
        simp only [Option.isSome_some, if_true] at h
        have := hO i o ho
        rw [(a1.dom _).2 h] at this
        cases this
  · obtain ⟨h1, h2⟩ := obOf_some hi
    obtain ⟨h3, h4⟩ := obOf_some hj
    exact hinj i j h1 h3 (a1.inj _ _ _ _ b h2 h4 hb hb')
  · obtain ⟨h1, h2⟩ := obOf_some hi
    exact (a1.own _ _ inf (hO i o ho) h2).unren (fun cs hc j hj => hob1 j (hOc i cs (by rw [ho, hc]) j hj))
  · obtain ⟨h1, h2⟩ := obOf_some hi
    exact a1.sep _ _ inf b (hO i o ho) (by cases o <;> simp_all [AObj.ren, AObj.owned]) h2 hb
theorem SimO.frame {G : Nat → Prop} {w w' : World} {ob : Place} {m : Nat → Option AObj} (h : SimO G w ob m) (hs : w.heap.size ≤ w'.heap.size) (he : ∀ b, b < w.heap.size → (G b ∨ blks ob b) → w'.heap[b]? = w.heap[b]?) : SimO G w' ob m where
  dom := h.dom
  inj := h.inj
  lt := fun b hb => Nat.lt_of_lt_of_le (h.lt b hb) hs
  own := fun id o i ho hi => (h.own id o i ho hi).ext (fun _ h => h) (fun b hb => he b (h.lt b hb) (.inl hb)) (OBext.refl ob) fun b hb => he b ((h.own id o i ho hi).has_lt hb) (.inr ⟨id, i, hi, hb⟩)
  sep := h.sep
theorem ptr_ob {G G' : Nat → Prop} {w w' : World} {ob ob' : Place} {id k o tot : Nat} {v : Value} (h : Rel G w ob (.ptr id k o tot) v) (he : ob' id = ob id) : Rel G' w' ob' (.ptr id k o tot) v := by
  cases h with
  | ptr a i h hle hv => exact .ptr a i (by rw [he]; exact h) hle hv
theorem callsDA {h : FuncId} {fn : Func} {c : Code} {ac : ACode} {args : List AV} {O O' : List (Nat × AObj)} (hf : P.funcs[h]? = some fn) (hb : fn.body = some c) (hr : fn.results = #[]) (hc : compile P fn.ntmps c = some ac.strip) (hl : args.length ≤ fn.ntmps)
    (hW : Wp P fn.ntmps (O.map (·.1)) ac (doneQ (O.map (·.1)) O') (start args O)) {G : Nat → Prop} {w : World} {ob : Place} {vals : List Value} (hs : SimO G w ob (ofL O)) (hrl : RelL G w ob args vals) (u : FrameMode) :
    CallsD P h vals.toArray u w fun e u' w' => (∃ r, e = .returned r) ∧ u' = u ∧ ∃ G' ob', SimO G' w' ob' (ofL O') ∧ Fr G w ob G' w' ob' ∧ OBx (· ∈ O.map (·.1)) ob ob' := by
  refine (callsD_of_wp (R := fun e w' => (∃ r, e = .returned r) ∧ ∃ G' ob', SimO G' w' ob' (ofL O') ∧ Fr G w ob G' w' ob' ∧ OBx (· ∈ O.map (·.1)) ob ob') hf hb ?_).mono fun e u' w' h => ⟨h.2.1, h.1, h.2.2⟩
  refine wp_mono (hW c hc ⟨G, w, ob⟩ _ w ob G (start_sim hs hrl hl) ⟨Fr.refl G w ob, fun id i _ hi => ⟨i, hi, .inl rfl⟩⟩) ?_
  rintro e a' w' ⟨o, σ, ob1, G1, rfl, hq, s, hΓ⟩
  have fin : WeakE (O.map (·.1)) σ [] O' → a'.defers = [] ∧ ∃ v, (results fn a'.tmps).run P w' = .ok v w' ∧ ((∃ r, Ending.returned v = .returned r) ∧ ∃ G' ob', SimO G' w' ob' (ofL O') ∧ Fr G w ob G' w' ob' ∧ OBx (· ∈ O.map (·.1)) ob ob') := by
    rintro ⟨ρ, A, hw⟩
    obtain ⟨ob2, G2, g1, g2, g3⟩ := weak_ok s hw
    exact ⟨s.defers, _, results_none hr _ _, ⟨_, rfl⟩, G2, ob2, g1.objs, hΓ.fr.trans g2, hΓ.ext.trans fun id i hk hi => ⟨i, by rw [g3 id hk]; exact hi, .inl rfl⟩⟩
  cases o with
  | normal => exact fin hq
  | exit i => exact hq.elim
  | ret => exact fin hq
end
end Go.Abs
end
section
namespace Go.Abs
structure DecD where
  as0 : List AOper
  as1 : List AOper
  mkf : List AOper
  fv : Nat
  g : FuncId
  tc : Nat
  as4 : List AOper
  as5 : List AOper
def recogA (P : Program) (N : Nat) : Code → Option DecD
  | .seq (.region _ o0 false) (.seq (.region _ o1 false) (.seq (.region _ o2 false) (.seq (.region _ o3 false) (.seq (.region _ o4 false) (.seq (.region _ o5 true) .ret))))) =>
    match o2.toList, o3.toList with
    | [mk, ⟨none, .defer ⟨.value (.tmp fv), ⟨[]⟩, _⟩, _, _, _, none⟩], [⟨none, .defer ⟨.value (.func g), ⟨[.tmp tc]⟩, _⟩, _, _, _, none⟩] =>
      match copers P N o0 o0.toList, copers P N o1 o1.toList, copers P N o2 [mk], copers P N o4 o4.toList, cregion P N o5 true with
      | some as0, some as1, some mk, some as4, some as5 => some ⟨as0, as1, mk, fv, g, tc, as4, as5⟩
      | _, _, _, _, _ => none
    | _, _ => none
  | _ => none
section
variable {P : Program} {N : Nat}
theorem recogA_ok {c : Code} {D : DecD} (h : recogA P N c = some D) :
    ∃ i0 o0 i1 o1 i2 o2 i3 o3 i4 o4 i5 o5 mk, c = .seq (.region i0 o0 false) (.seq (.region i1 o1 false) (.seq (.region i2 o2 false) (.seq (.region i3 o3 false) (.seq (.region i4 o4 false) (.seq (.region i5 o5 true) .ret))))) ∧
      (∃ x1 x2 x3 x4, o2.toList = [mk, ⟨none, .defer ⟨.value (.tmp D.fv), #[], x1⟩, x2, x3, x4, none⟩]) ∧
      (∃ x1 x2 x3 x4, o3.toList = [⟨none, .defer ⟨.value (.func D.g), #[.tmp D.tc], x1⟩, x2, x3, x4, none⟩]) ∧
      copers P N o0 o0.toList = some D.as0 ∧ copers P N o1 o1.toList = some D.as1 ∧ copers P N o2 [mk] = some D.mkf ∧ copers P N o4 o4.toList = some D.as4 ∧ cregion P N o5 true = some D.as5 := by
  unfold recogA at h
  split at h
  case h_2 => cases h
  rename_i i0 o0 i1 o1 i2 o2 i3 o3 i4 o4 i5 o5
  split at h
  case h_2 => cases h
  rename_i mk fv x1 x2 x3 x4 g tc y1 y2 y3 y4 h2 h3
  split at h
  case h_2 => cases h
  rename_i as0 as1 mk' as4 as5 e0 e1 e2 e4 e5
  simp only [Option.some.injEq] at h
  subst h
  exact ⟨_, _, _, _, _, _, _, _, _, _, _, _, mk, rfl, ⟨_, _, _, _, h2⟩, ⟨_, _, _, _, h3⟩, e0, e1, e2, e4, e5⟩
theorem run_deferV {a : Act} {w : World} {d : Option Nat} {x : Operand} {ts : Array TypeId} {t : TypeId} {p : String} {f : Array Edge} {fv : Fn} {us : Array Value} (h : a.eval x = .func fv #[] us) :
    (execOp a.eval ⟨d, .defer ⟨.value x, #[], ts⟩, t, p, f, none⟩).run P w = .ok (.defer { target := .fn fv us, args := #[] }) w := by
  simp [execOp, resolve, h, Deferred.ofValue]
theorem run_deferF {a : Act} {w : World} {d : Option Nat} {g y : Nat} {ts : Array TypeId} {t : TypeId} {p : String} {f : Array Edge} :
    (execOp a.eval ⟨d, .defer ⟨.value (.func g), #[.tmp y], ts⟩, t, p, f, none⟩).run P w = .ok (.defer { target := .fn (.func g) #[], args := #[a.eval (.tmp y)] }) w := by
  have : a.eval (.func g) = .func (.func g) #[] #[] := rfl
  simp [execOp, resolve, this, Deferred.ofValue]
theorem dec_wp {c : Code} {D : DecD} (hd : recogA P N c = some D) {σ : St} {a : Act} {w : World} {ob : Place} {G : Nat → Prop} (hs : Sim N σ a w ob G) {h : FuncId} {caps : List AV} {Q2 : St → Prop}
    (hQ2 : ∀ τ, Q2 τ → τ.env D.fv = some (true, .fn (.func h) [] caps))
    (hW : wseq P D.as0 (fun τ0 => wseq P D.as1 (fun τ1 => wseq P D.mkf Q2 τ1) τ0) σ) {R : Exit → Act → World → Prop}
    (hnext : ∀ τ a2 w2 ob2 G2 us i4 o4 i5 o5, copers P N o4 o4.toList = some D.as4 → cregion P N o5 true = some D.as5 → Q2 τ → Sim N τ a2 w2 ob2 G2 → Fr G w ob G2 w2 ob2 → OBext ob ob2 → RelL G2 w2 ob2 caps us.toList →
      (Code.seq (.region i4 o4 false) (.seq (.region i5 o5 true) .ret)).wp P R (a2.more [{ target := .fn (.func D.g) #[], args := #[a2.eval (.tmp D.tc)] }, { target := .fn (.func h) us, args := #[] }]) w2) : c.wp P R a w := by
  obtain ⟨i0, o0, i1, o1, i2, o2, i3, o3, i4, o4, i5, o5, mk, rfl, ⟨x1, x2, x3, x4, h2⟩, ⟨y1, y2, y3, y4, h3⟩, e0, e1, e2, e4, e5⟩ := recogA_ok hd
  refine wp_seq (wp_region ?_)
  have r0 := wseq_ok (Q := fun τ0 => wseq P D.as1 (fun τ1 => wseq P D.mkf Q2 τ1) τ0) (R := Exit.then (fun a w => (Code.seq (.region i1 o1 false) (.seq (.region i2 o2 false) (.seq (.region i3 o3 false) (.seq (.region i4 o4 false) (.seq (.region i5 o5 true) .ret))))).wp P R a w) R) o0.toList D.as0 0 σ a w ob G e0 (fun i o hi => by simpa using hi) hs hW ?_
  · rw [List.range_eq_range']; simpa using r0
  intro τ0 a0 w0 ob0 G0 q0 s0 f0 b0
  show (Code.seq _ _).wp P R a0 w0
  refine wp_seq (wp_region ?_)
  have r1 := wseq_ok (Q := fun τ1 => wseq P D.mkf Q2 τ1) (R := Exit.then (fun a w => (Code.seq (.region i2 o2 false) (.seq (.region i3 o3 false) (.seq (.region i4 o4 false) (.seq (.region i5 o5 true) .ret)))).wp P R a w) R) o1.toList D.as1 0 τ0 a0 w0 ob0 G0 e1 (fun i o hi => by simpa using hi) s0 q0 ?_
  · rw [List.range_eq_range']; simpa using r1
  intro τ1 a1 w1 ob1 G1 q1 s1 f1 b1
  show (Code.seq _ _).wp P R a1 w1
  refine wp_seq (wp_region ?_)
  have z2 : o2.size = 2 := by have := congrArg List.length h2; simpa using this
  have z3 : o3.size = 1 := by have := congrArg List.length h3; simpa using this
  rw [z2]
  show wpOps P o2 _ ([0] ++ [1]) a1 w1
  refine wpOps_append _ a1 w1 ?_
  refine wseq_ok (Q := Q2) [mk] D.mkf 0 τ1 a1 w1 ob1 G1 e2 (fun i o hi => by
    have hi0 : i = 0 := by
      rcases i with _ | i
      · rfl
      · simp at hi
    subst hi0
    rw [get_list h2]; simpa using hi) s1 q1 ?_
  intro τ2 a2 w2 ob2 G2 q2 s2 f2 b2
  obtain ⟨v, hv, hrel⟩ := s2.env D.fv _ (hQ2 τ2 q2)
  cases hrel with
  | fn vs us hn hm hr hq =>
  have hvs : vs = #[] := Array.eq_empty_of_size_eq_zero (by simpa using hn)
  subst hvs
  show wpOps P o2 _ [1] a2 w2
  simp only [wpOps, get_list h2, List.getElem?_cons_zero, List.getElem?_cons_succ]
  rw [if_pos (wanted_none rfl)]
  refine .inl (op_defer (run_deferV (eval_of hv)) ?_)
  show (Code.seq _ _).wp P R ({ a2 with defers := { target := .fn (.func h) us, args := #[] } :: a2.defers } : Act) w2
  refine wp_seq (wp_region ?_)
  rw [z3]
  show wpOps P o3 _ [0] _ w2
  simp only [wpOps, get_list h3, List.getElem?_cons_zero]
  rw [if_pos (wanted_none rfl)]
  refine .inl (op_defer run_deferF ?_)
  have hk := hnext τ2 a2 w2 ob2 G2 us i4 o4 i5 o5 e4 e5 q2 s2 (f0.trans (f1.trans f2)) (b0.trans (b1.trans b2)) ⟨by simpa using hm, fun j av hj => by simpa using hq j av hj⟩
  have he : a2.more [{ target := .fn (.func D.g) #[], args := #[a2.eval (.tmp D.tc)] }, { target := .fn (.func h) us, args := #[] }] =
      { tmps := a2.tmps, defers := [{ target := .fn (.func D.g) #[], args := #[a2.eval (.tmp D.tc)] }, { target := .fn (.func h) us, args := #[] }] } := by
    unfold Act.more; rw [s2.defers]; rfl
  rw [he] at hk
  have he2 : ({ tmps := a2.tmps, defers := { target := .fn (.func h) us, args := #[] } :: a2.defers } : Act) = { tmps := a2.tmps, defers := [{ target := .fn (.func h) us, args := #[] }] } := by rw [s2.defers]
  simp only [s2.defers]
  exact hk
theorem dec_normal (hm : P.follows .mixedOrders = true) {D : DecD} {i4 i5 : Nat} {o4 o5 : Array Oper} (e4 : copers P N o4 o4.toList = some D.as4) (e5 : cregion P N o5 true = some D.as5) {τ : St} {a : Act} {w : World} {ob : Place} {G : Nat → Prop}
    (hs : Sim N τ a w ob G) {Z : St → Prop} (hW : wseq P D.as4 (fun τ4 => wany P D.as5 [] Z τ4) τ) {ds : List Deferred} {R : Exit → Act → World → Prop}
    (hR : ∀ τ5 a5 w5 ob5 G5, Z τ5 → Sim N τ5 a5 w5 ob5 G5 → Fr G w ob G5 w5 ob5 → OBext ob ob5 → R .ret (a5.more ds) w5) : (Code.seq (.region i4 o4 false) (.seq (.region i5 o5 true) .ret)).wp P R (a.more ds) w := by
  refine wp_seq (wp_region (wpOps_more _ a w ?_))
  have r4 := wseq_ok (Q := fun τ4 => wany P D.as5 [] Z τ4) (R := fun e a w => Exit.then (fun a w => (Code.seq (.region i5 o5 true) .ret).wp P R a w) R e (a.more ds) w) o4.toList D.as4 0 τ a w ob G e4 (fun i o hi => by simpa using hi) hs hW ?_
  · rw [List.range_eq_range']; simpa using r4
  intro τ4 a4 w4 ob4 G4 q4 s4 f4 b4
  show (Code.seq _ _).wp P R (a4.more ds) w4
  refine wp_seq (wp_region_any hm (wpAny_more _ _ a4 _ ?_))
  refine wany_ok e5 s4 q4 ?_
  intro τ5 a5 w5 ob5 G5 q5 s5 f5 b5
  show Code.ret.wp P R (a5.more ds) w5
  exact wp_ret (hR τ5 a5 w5 ob5 G5 q5 s5 (f4.trans f5) (b4.trans b5))
def dieAt (P : Program) (ev : Int → Value) (n : Int) (ρ : Nat → Nat) (O : List (Nat × AObj)) (o : AOper) (σ : St) : Prop :=
  guardV σ o.guard = some true ∧ ∃ f avs md cargs, target σ o.op = some (f, avs) ∧ allC σ true o.op.ops ∧ CallsDie P ev f cargs O n ∧ ArgsOk σ.objs ρ O md avs cargs [] ∧
    (∀ i o, ofL O i = some o → σ.objs (ρ i) = some (o.ren ρ)) ∧ (∀ i cs, ofL O i = some (.box cs) → ∀ j ∈ idsL cs, (ofL O j).isSome) ∧
    (∀ i j, (ofL O i).isSome → (ofL O j).isSome → ρ i = ρ j → i = j)
def wdieF (P : Program) (ev : Int → Value) (n : Int) (ρ : Nat → Nat) (O : List (Nat × AObj)) (Z : St → Prop) : List AOper → St → Prop
  | [], _ => False
  | o :: os, σ => (wop P o σ fun b r => wdieF P ev n ρ O Z os (σ.put o.dst b r)) ∨ (dieAt P ev n ρ O o σ ∧ Z σ)
theorem dieAt_ok {ev : Int → Value} {n : Int} {ρ : Nat → Nat} {O : List (Nat × AObj)} {ops : Array Oper} {o : Oper} {ao : AOper} {σ : St} {a : Act} {w : World} {ob : Place} {G : Nat → Prop} (hc : coper P N ops o = some ao) (hs : Sim N σ a w ob G)
    (hd : dieAt P ev n ρ O ao σ) {K : Act → World → Prop} {Q : Exit → Act → World → Prop} (hQ : ∀ w', FrD G w (obOf ρ O ob) w' → Q (.panic [{ v := ev n, recovered := false }]) a w') :
    Region.wanted o (yielded ops a.tmps) = true ∧ o.wp P a w K Q := by
  obtain ⟨hg, f, avs, md, cargs, ht, hcc, spec, ha, hO, hOc, hinj⟩ := hd
  refine ⟨guard_wanted hs hc hg, ?_⟩
  obtain ⟨vals, hrun, hrel⟩ := call_run hc hs ht hcc spec.1
  unfold Oper.wp
  rw [hrun]
  simp only [Oper.upon]
  obtain ⟨G2, a1, a2, a3, a4, a5, a6⟩ := argsOk_ok md avs cargs [] (fun j => vals.getD j undef) G σ.objs ha hs.objs (Agree.refl _) hrel.2
  have hsc : SimO G2 w (obOf ρ O ob) (ofL O) := SimO.restrict a1 (fun i o hi => hO i o hi) hOc hinj
  have hrl : RelL G2 w (obOf ρ O ob) cargs vals := by
    refine ⟨by rw [hrel.1, a5], fun j c hj => ?_⟩
    rcases a6 j c hj with ⟨h1, h2⟩ | ⟨h1, h2⟩
    · exact h2.flat_free h1
    · exact h2.unren c rfl fun i hi => by unfold obOf; rw [if_pos (h1 i hi)]
  refine (spec.2 G2 w (obOf ρ O ob) vals hsc hrl).mono ?_
  rintro e w' ⟨rfl, s⟩
  exact hQ w' ⟨s.size, fun b hb hc => s.same b hb (hc.imp (a3 b) id), s.os, s.tape, s.output⟩
theorem wdieF_ok {ev : Int → Value} {n : Int} {ρ : Nat → Nat} {O : List (Nat × AObj)} {Z : St → Prop} {ops : Array Oper} {R : Exit → Act → World → Prop} : ∀ (l : List Oper) (as : List AOper) (k : Nat) (σ : St) (a : Act) (w : World) (ob : Place) (G : Nat → Prop),
    copers P N ops l = some as → (∀ i o, l[i]? = some o → ops[k + i]? = some o) → Sim N σ a w ob G → wdieF P ev n ρ O Z as σ →
    (∀ τ a' w1 ob1 G1 w', Z τ → Sim N τ a' w1 ob1 G1 → Fr G w ob G1 w1 ob1 → OBext ob ob1 → FrD G1 w1 (obOf ρ O ob1) w' → R (.panic [{ v := ev n, recovered := false }]) a' w') →
    wpOps P ops R (List.range' k l.length) a w
  | [], as, k, σ, a, w, ob, G, hc, hl, hs, h, hD => by
    simp only [copers, Option.some.injEq] at hc; subst hc
    exact h.elim
  | o :: l, as, k, σ, a, w, ob, G, hc, hl, hs, h, hD => by
    simp only [copers] at hc
    split at hc
    case h_2 => cases hc
    rename_i ao as' h1 h2
    simp only [Option.some.injEq] at hc; subst hc
    have ho : ops[k]? = some o := by simpa using hl 0 o (by simp)
    simp only [List.length_cons, List.range'_succ]
    simp only [wpOps, ho]
    rcases h with h | ⟨h, hz⟩
    · obtain ⟨b, r, hd, hk⟩ := wop_does h
      have := does_ok (K := wpOps P ops R (List.range' (k + 1) l.length)) (Q := R) h1 hs hd (fun a' w' ob' G' s f e => wdieF_ok l as' (k + 1) _ a' w' ob' G' h2
        (fun i o' hi => by have := hl (i + 1) o' (by simpa using hi); rwa [show k + (i + 1) = k + 1 + i by omega] at this) s hk
        (fun τ a'' w1 ob1 G1 w'' hz hs' f' e' hf' => hD τ a'' w1 ob1 G1 w'' hz hs' (f.trans f') (e.trans e') hf'))
      by_cases hw : Region.wanted o (yielded ops a.tmps) = true
      · rw [if_pos hw] at this ⊢; exact .inl this
      · rw [if_neg hw] at this ⊢; exact this
    · obtain ⟨hw, hwp⟩ := dieAt_ok (K := wpOps P ops R (List.range' (k + 1) l.length)) (Q := R) h1 hs h (fun w' hf => hD σ a w ob G w' hz hs (Fr.refl G w ob) (OBext.refl ob) hf)
      rw [if_pos hw]; exact .inl hwp
theorem dec_dies {D : DecD} {i4 i5 : Nat} {o4 o5 : Array Oper} (e4 : copers P N o4 o4.toList = some D.as4) {ev : Int → Value} {n : Int} {ρ : Nat → Nat} {O : List (Nat × AObj)} {τ : St} {a : Act} {w : World} {ob : Place} {G : Nat → Prop}
    (hs : Sim N τ a w ob G) {Z : St → Prop} (hW : wdieF P ev n ρ O Z D.as4 τ) {ds : List Deferred} {R : Exit → Act → World → Prop}
    (hR : ∀ τ1 a1 w1 ob1 G1 w', Z τ1 → Sim N τ1 a1 w1 ob1 G1 → Fr G w ob G1 w1 ob1 → OBext ob ob1 → FrD G1 w1 (obOf ρ O ob1) w' → R (.panic [{ v := ev n, recovered := false }]) (a1.more ds) w') :
    (Code.seq (.region i4 o4 false) (.seq (.region i5 o5 true) .ret)).wp P R (a.more ds) w := by
  refine wp_seq (wp_region (wpOps_more _ a w ?_))
  have r4 := wdieF_ok (Z := Z) (R := fun e a w => Exit.then (fun a w => (Code.seq (.region i5 o5 true) .ret).wp P R a w) R e (a.more ds) w) o4.toList D.as4 0 τ a w ob G e4 (fun i o hi => by simpa using hi) hs hW ?_
  · rw [List.range_eq_range']; simpa using r4
  intro τ1 a1 w1 ob1 G1 w' hz hs' hf he hd
  exact hR τ1 a1 w1 ob1 G1 w' hz hs' hf he hd
def finR (Γ : Start) (rs : List AV) : Ending → World → Prop := fun e w' => ∃ v G' ob', e = .returned v ∧ SimO G' w' ob' (ofL []) ∧ Rel G' w' ob' (pack rs) v ∧ Fr Γ.G Γ.w Γ.ob G' w' ob' ∧ OBext Γ.ob ob'
theorem obx_full {O : List (Nat × AObj)} {G : Nat → Prop} {w : World} {ob ob' : Place} (hs : SimO G w ob (ofL O)) (h : OBx (· ∈ O.map (·.1)) ob ob') : OBext ob ob' := by
  intro id i hi
  have hk : id ∈ O.map (·.1) := by
    cases ho : ofL O id with
    | none => rw [(hs.dom id).1 ho] at hi; cases hi
    | some o => obtain ⟨o', ho'⟩ := ofL_mem (by rw [ho]; rfl); exact List.mem_map_of_mem (f := (·.1)) ho'
  exact h id i hk hi
theorem relL_ext {G G' : Nat → Prop} {w w' : World} {ob ob' : Place} {avs : List AV} {vals : List Value} (hs : ∀ b, G b → b < w.heap.size) (h : RelL G w ob avs vals) (hf : Fr G w ob G' w' ob') (he : OBext ob ob') : RelL G' w' ob' avs vals :=
  ⟨h.1, fun j av hj => (h.2 j av hj).ext hf.sub (fun b hb => hf.same b (hs b hb) (.inl hb)) he⟩
theorem leaves_fin {fn : Func} {rvs : List (Nat × Option (Option Nat))} (hts : rvOf P fn.results.toList = some rvs) (hlt : ∀ p ∈ rvs, p.1 < fn.ntmps) {rs : List AV} {OA OF : List (Nat × AObj)} {T : Slots}
    {h : FuncId} {fnH : Func} {cH : Code} {acH : ACode} {caps : List AV} (hfH : P.funcs[h]? = some fnH) (hcb : callableB P h = true) (hbH : fnH.body = some cH) (hrH : fnH.results = #[]) (hcH : compile P fnH.ntmps cH = some acH.strip) (hlH : caps.length ≤ fnH.ntmps)
    (hWH : Wp P fnH.ntmps (OA.map (·.1)) acH (doneQ (OA.map (·.1)) OF) (start caps OA))
    (hRes : retR (stOf T OF) fn.ntmps rvs fun σ2 => RetW [] σ2 (List.range' fn.ntmps rvs.length) rs [])
    {Γ : Start} (hΓ0 : ∀ i, Γ.ob i = none) {G : Nat → Prop} {w : World} {ob : Place} (hs : SimO G w ob (ofL OA)) (hΓ : Fr Γ.G Γ.w Γ.ob G w ob) {tmps us : Array Value} (hsz : tmps.size = fn.ntmps) (hus : RelL G w ob caps us.toList)
    (hT : ∀ t av, envT T t = some (true, av) → ∃ v, tmps[t]? = some v ∧ Rel G w ob av v) :
    Leaves P fn tmps (finR Γ rs) [{ target := .fn (.func h) us, args := #[] }] .returning w := by
  refine leaves_cons (by simp) (f := h) (args := us) (by simp [invoke, run_callFunc hcb]) ?_
  have hcall := callsDA hfH hbH hrH hcH hlH hWH hs hus .returning
  rw [show us.toList.toArray = us by simp] at hcall
  refine hcall.mono ?_
  rintro e u' w' ⟨⟨r, rfl⟩, rfl, G', ob', h1, h2, h3⟩
  have he := obx_full hs h3
  show Leaves P fn tmps (finR Γ rs) [] (settle .returning) w'
  have hsim : Sim fn.ntmps (stOf T OF) { tmps := tmps, defers := [] } w' ob' G' := by
    refine ⟨hsz, rfl, h1, fun t av ht => ?_, fun t av ht => absurd ht envT_true⟩
    obtain ⟨v, hv, hr⟩ := hT t av ht
    exact ⟨v, hv, hr.ext h2.sub (fun b hb => h2.same b (hs.lt b hb) (.inl hb)) he⟩
  obtain ⟨σ2, a2, v, k1, k2, hv, hv'⟩ := results_run2 hts hsim hlt hRes
  obtain ⟨md, hml, hrl, ρ, A, hw⟩ := k1
  obtain ⟨ob2, G2, g1, g2, g3⟩ := weak_ok k2 hw
  refine ⟨v, hv, v, G2, ob2, rfl, g1.objs, ?_, hΓ.trans (h2.trans g2), fun id i hi => by rw [hΓ0] at hi; cases hi⟩
  rw [hv']
  exact pack_rel hrl fun j t r ht hr => g1.env t r (envT_zip3 hml hrl List.nodup_range' j t r ht hr)
end
end Go.Abs
end
section
namespace Go.Abs
theorem aobj_id (o : AObj) : o.ren id = o := by
  cases o <;> simp only [AObj.ren]
  rw [renL_id]
section
variable {P : Program}
theorem leaves_rec {fn : Func} {tmps : Array Value} {R : Ending → World → Prop} {g : FuncId} (hcb : callableB P g = true) {v : Value} {ds : List Deferred} {u u2 : FrameMode} (hu : u ≠ .run) {w : World} {Q : World → Prop}
    (hc : CallsD P g #[v] u w fun e u' w' => (∃ r, e = .returned r) ∧ u' = u2 ∧ Q w') (h : ∀ w', Q w' → Leaves P fn tmps R ds (settle u2) w') : Leaves P fn tmps R ({ target := .fn (.func g) #[], args := #[v] } :: ds) u w := by
  refine leaves_cons hu (f := g) (args := #[v]) (by simp [invoke, run_callFunc hcb]) ?_
  refine hc.mono ?_
  rintro e u' w' ⟨⟨r, rfl⟩, rfl, hq⟩
  exact h w' hq
theorem decA_normal (hm : P.follows .mixedOrders = true) {f : FuncId} {fn : Func} {c : Code} {D : DecD} (hf : P.funcs[f]? = some fn) (hb : fn.body = some c) (hname : (fn.name != "runtime.NumGoroutine") = true) (hd : recogA P fn.ntmps c = some D)
    {rvs : List (Nat × Option (Option Nat))} (hts : rvOf P fn.results.toList = some rvs) (hlt : (rvs.all fun p => p.1.blt fn.ntmps) = true) {args : List AV} (hl : (args.length.ble fn.ntmps) = true)
    {I : TypeId} {ms : Array (String × TypeId)} (hI : P.underlying I = some (.interface ms)) {fnG : Func} {cG : Code} {RD : RecD} (hfG : P.funcs[D.g]? = some fnG) (hcbG : callableB P D.g = true) (hbG : fnG.body = some cG) (hrG : fnG.results = #[]) (hrec : recog P fnG.ntmps I cG = some RD)
    {h : FuncId} {fnH : Func} {cH : Code} {acH : ACode} {caps : List AV} (hfH : P.funcs[h]? = some fnH) (hcb : callableB P h = true) (hbH : fnH.body = some cH) (hrH : fnH.results = #[]) (hcH : compile P fnH.ntmps cH = some acH.strip) (hlH : caps.length ≤ fnH.ntmps)
    {OA OF : List (Nat × AObj)} {T : Slots} {rs : List AV} {KK : List Nat} (hcaps : ∀ av ∈ caps, ∃ k ∈ KK, av = .ptr k 0 0 1)
    (hWH : Wp P fnH.ntmps (OA.map (·.1)) acH (doneQ (OA.map (·.1)) OF) (start caps OA))
    (hRes : retR (stOf T OF) fn.ntmps rvs fun σ2 => RetW [] σ2 (List.range' fn.ntmps rvs.length) rs [])
    (hW : wseq P D.as0 (fun τ0 => wseq P D.as1 (fun τ1 => wseq P D.mkf (fun τ => τ.env D.fv = some (true, .fn (.func h) [] caps) ∧ wseq P D.as4 (fun τ4 => wany P D.as5 [] (fun τ5 => WeakE KK τ5 T OA) τ4) τ) τ1) τ0) (start args [])) :
    CallsA P f args [] (pack rs) [] := by
  refine ⟨by unfold callableB; rw [hf]; simp only; rw [hb]; simp [hname], fun G w ob vals hs hr => ?_⟩
  have hob : ∀ i, ob i = none := fun i => (hs.dom i).1 rfl
  have hlt' : ∀ p ∈ rvs, p.1 < fn.ntmps := fun p hp => by
    have := List.all_eq_true.1 hlt p hp
    simpa [Nat.blt_eq] using this
  have hnG : 1 ≤ fnG.ntmps := by
    obtain ⟨_, _, _, _, _, _, _, _, _, _, _, _, _, _, ⟨n1, _⟩, _⟩ := recog_ok hrec
    omega
  refine calls_of_wp_defers (R := finR ⟨G, w, ob⟩ rs) hf hb ?_
  refine dec_wp hd (start_sim hs hr (Nat.le_of_ble_eq_true hl)) (fun τ h => h.1) hW ?_
  rintro τ a2 w2 ob2 G2 us i4 o4 i5 o5 e4 e5 ⟨q1, q2⟩ s2 f2 b2 hus
  refine dec_normal hm e4 e5 s2 q2 ?_
  rintro τ5 a5 w5 ob5 G5 ⟨ρ, A, hw⟩ s5 f5 b5
  obtain ⟨obW, GW, g1, g2, g3⟩ := weak_ok s5 hw
  show Leaves P fn a5.tmps _ (a5.defers ++ [_, _]) .returning w5
  rw [s5.defers, List.nil_append]
  refine leaves_rec hcbG (by simp) (Q := fun w' => w' = w5) (u2 := .returning) (rec_ret hI hfG hbG hrG hrec (by simpa using hnG) w5) ?_
  rintro w' rfl
  have hus5 := relL_ext s2.objs.lt hus f5 b5
  have husW : RelL GW w' obW caps us.toList := ⟨hus5.1, fun j av hj => by
    obtain ⟨k, hk, rfl⟩ := hcaps av (List.mem_of_getElem? hj)
    exact ptr_ob (hus5.2 j _ hj) (g3 k hk)⟩
  refine leaves_fin hts hlt' hfH hcb hbH hrH hcH hlH hWH hRes hob g1.objs ((f2.trans f5).trans g2) g1.size husW ?_
  intro t av ht
  exact g1.env t av ht
theorem decA_dies (hm : P.follows .mixedOrders = true) {f : FuncId} {fn : Func} {c : Code} {D : DecD} (hf : P.funcs[f]? = some fn) (hb : fn.body = some c) (hname : (fn.name != "runtime.NumGoroutine") = true) (hd : recogA P fn.ntmps c = some D)
    {rvs : List (Nat × Option (Option Nat))} (hts : rvOf P fn.results.toList = some rvs) (hlt : (rvs.all fun p => p.1.blt fn.ntmps) = true) {args : List AV} (hl : (args.length.ble fn.ntmps) = true)
    {I : TypeId} {ms : Array (String × TypeId)} (hI : P.underlying I = some (.interface ms)) {fnG : Func} {cG : Code} {RD : RecD} (hfG : P.funcs[D.g]? = some fnG) (hcbG : callableB P D.g = true) (hbG : fnG.body = some cG) (hrG : fnG.results = #[]) (hrec : recog P fnG.ntmps I cG = some RD)
    (hst : RD.ac.strip = RD.ac) {ty : TypeId} (hDty : RD.ty = ty) (hty : ∃ fs, P.underlying ty = some (.struct fs)) {ev : Int → Value} (hev : ∀ n, ev n = .iface ty (.agg #[.int .i64 n]))
    {h : FuncId} {fnH : Func} {cH : Code} {acH : ACode} {caps : List AV} (hfH : P.funcs[h]? = some fnH) (hcb : callableB P h = true) (hbH : fnH.body = some cH) (hrH : fnH.results = #[]) (hcH : compile P fnH.ntmps cH = some acH.strip) (hlH : caps.length ≤ fnH.ntmps)
    {n : Int} {ρ : Nat → Nat} {O OA0 OA OF : List (Nat × AObj)} {T : Slots} {rs : List AV} {ic : Nat}
    (hcaps : ∀ av ∈ caps, ∃ k, (ofL OA0 k).isSome ∧ av = .ptr k 0 0 1) (hTp : ∀ t av, envT T t = some (true, av) → ∃ k, (ofL OA0 k).isSome ∧ av = .ptr k 0 0 1) (hic : (ofL OA0 ic).isSome)
    (hOc : ∀ i cs, ofL OA0 i = some (.box cs) → ∀ j ∈ idsL cs, (ofL OA0 j).isSome) (hdisj : ∀ i j, (ofL OA0 i).isSome → (ofL O j).isSome → i ≠ ρ j)
    (hrecW : wseq P RD.as (fun τ => Wp P fnG.ntmps (OA0.map (·.1)) RD.ac (doneQ (OA0.map (·.1)) OA) τ) (stOf [(0, .share, .ptr ic 0 0 1), (RD.x, .share, .sc (ev n)), (RD.p, .share, .tup [.agg [.sc (.int .i64 n)], .sc (.bool true)])] OA0))
    (hWH : Wp P fnH.ntmps (OA.map (·.1)) acH (doneQ (OA.map (·.1)) OF) (start caps OA))
    (hRes : retR (stOf T OF) fn.ntmps rvs fun σ2 => RetW [] σ2 (List.range' fn.ntmps rvs.length) rs [])
    (hW : wseq P D.as0 (fun τ0 => wseq P D.as1 (fun τ1 => wseq P D.mkf (fun τ => τ.env D.fv = some (true, .fn (.func h) [] caps) ∧ τ.env D.tc = some (true, .ptr ic 0 0 1) ∧
      wdieF P ev n ρ O (fun τ1 => (∀ i o, ofL OA0 i = some o → τ1.objs i = some o) ∧ ∀ t av, envT T t = some (true, av) → τ1.env t = some (true, av)) D.as4 τ) τ1) τ0) (start args [])) :
    CallsA P f args [] (pack rs) [] := by
  refine ⟨by unfold callableB; rw [hf]; simp only; rw [hb]; simp [hname], fun G w ob vals hs hr => ?_⟩
  have hob : ∀ i, ob i = none := fun i => (hs.dom i).1 rfl
  have hlt' : ∀ p ∈ rvs, p.1 < fn.ntmps := fun p hp => by
    have := List.all_eq_true.1 hlt p hp
    simpa [Nat.blt_eq] using this
  refine calls_of_wp_defers (R := finR ⟨G, w, ob⟩ rs) hf hb ?_
  refine dec_wp hd (start_sim hs hr (Nat.le_of_ble_eq_true hl)) (fun τ h => h.1) hW ?_
  rintro τ a2 w2 ob2 G2 us i4 o4 i5 o5 e4 e5 ⟨q1, q2, q3⟩ s2 f2 b2 hus
  refine dec_dies e4 s2 q3 ?_
  rintro τ1 a1 w1 ob1 G1 w' ⟨z1, z2⟩ s1 f1 b1 fd
  show Leaves P fn a1.tmps _ (a1.defers ++ [_, _]) (.panicking _) w'
  rw [s1.defers, List.nil_append]
  -- the objects that the callee was not given
  have hR0 : SimO G1 w1 (obOf id OA0 ob1) (ofL OA0) := s1.objs.restrict (fun i o hi => by rw [aobj_id]; exact z1 i o hi) hOc (fun i j _ _ e => e)
  have hobk : ∀ k, (ofL OA0 k).isSome → obOf id OA0 ob1 k = ob1 k := fun k hk => by unfold obOf; rw [if_pos hk]; rfl
  have hR1 : SimO G1 w' (obOf id OA0 ob1) (ofL OA0) := hR0.frame fd.size fun b hb hc => fd.same b hb (by
    rcases hc with hc | ⟨i, inf, hi, hib⟩
    · exact .inl hc
    · refine .inr ?_
      rintro ⟨j, jnf, hj, hjb⟩
      obtain ⟨h1, h2⟩ := obOf_some hi
      obtain ⟨h3, h4⟩ := obOf_some hj
      exact hdisj i j h1 h3 (s1.objs.inj _ _ _ _ b h2 h4 hib hjb))
  have hF : Fr G w ob G1 w' (obOf id OA0 ob1) := by
    have hf := f2.trans f1
    refine ⟨Nat.le_trans hf.size fd.size, fun b hb hc => ?_, fun b hb => ?_, hf.sub, hf.new, fd.os.trans hf.os, fd.tape.trans hf.tape, fd.output.trans hf.output⟩
    · rw [fd.same b (Nat.lt_of_lt_of_le hb hf.size) ?_, hf.same b hb hc]
      rcases hc with hc | hc
      · exact .inl (hf.sub b hc)
      · refine .inr ?_
        rintro ⟨j, jnf, hj, hjb⟩
        obtain ⟨h3, h4⟩ := obOf_some hj
        rcases hf.blk b ⟨_, jnf, h4, hjb⟩ with h | h
        · exact hc h
        · omega
    · obtain ⟨i, inf, hi, hib⟩ := hb
      exact hf.blk b ⟨i, inf, (obOf_some hi).2, hib⟩
  have ptr1 : ∀ {k : Nat} {v : Value}, (ofL OA0 k).isSome → Rel G2 w2 ob2 (.ptr k 0 0 1) v → Rel G1 w' (obOf id OA0 ob1) (.ptr k 0 0 1) v := fun hk hv =>
    ptr_ob (hv.ext f1.sub (fun b hb => f1.same b (s2.objs.lt b hb) (.inl hb)) b1) (hobk _ hk)
  obtain ⟨vc, hvc, hrc⟩ := s2.env D.tc _ q2
  rw [eval_of hvc]
  refine leaves_rec hcbG (by simp) (u2 := .panicking [{ v := ev n, recovered := true }]) (rec_die hm hI hfG hbG hrG hrec hst hDty hty hev hrecW hR1 (ptr1 hic hrc)) ?_
  rintro w3 ⟨G3, ob3, h1, h2, h3⟩
  have he3 := obx_full hR1 h3
  show Leaves P fn a1.tmps _ _ .returning w3
  have hus3 : RelL G3 w3 ob3 caps us.toList := ⟨hus.1, fun j av hj => by
    obtain ⟨k, hk, rfl⟩ := hcaps av (List.mem_of_getElem? hj)
    exact (ptr1 hk (hus.2 j _ hj)).ext h2.sub (fun b hb => h2.same b (hR1.lt b hb) (.inl hb)) he3⟩
  refine leaves_fin hts hlt' hfH hcb hbH hrH hcH hlH hWH hRes hob h1 (hF.trans h2) s1.size hus3 ?_
  intro t av ht
  obtain ⟨k, hk, rfl⟩ := hTp t av ht
  obtain ⟨v, hv, hrv⟩ := s1.env t _ (z2 t _ ht)
  exact ⟨v, hv, (ptr_ob (ob' := obOf id OA0 ob1) (G' := G1) (w' := w') hrv (hobk k hk)).ext h2.sub (fun b hb => h2.same b (hR1.lt b hb) (.inl hb)) he3⟩

@[reducible] def thenS (P : Program) (l : List AOper) (Q : ContS) : ContS := ⟨fun τ => wseq P l Q.q τ⟩
@[reducible] def thenA (P : Program) (l : List AOper) (Q : ContS) : ContS := ⟨fun τ => wany P l [] Q.q τ⟩
@[reducible] def midN (P : Program) (t : Nat) (v : AV) (l : List AOper) (Q : ContS) : ContS := ⟨fun τ => τ.env t = some (true, v) ∧ wseq P l Q.q τ⟩
@[reducible] def endN (KK : List Nat) (T : Slots) (O : List (Nat × AObj)) : ContS := ⟨fun τ => WeakE KK τ T O⟩
@[reducible] def zC (OA : List (Nat × AObj)) (T : Slots) : ContS := ⟨fun τ1 => (∀ i o, ofL OA i = some o → τ1.objs i = some o) ∧ ∀ t av, envT T t = some (true, av) → τ1.env t = some (true, av)⟩
@[reducible] def midD (P : Program) (t : Nat) (v : AV) (t' : Nat) (v' : AV) (ev : Int → Value) (n : Int) (ρ : Nat → Nat) (O : List (Nat × AObj)) (Z : ContS) (l : List AOper) : ContS :=
  ⟨fun τ => τ.env t = some (true, v) ∧ τ.env t' = some (true, v') ∧ wdieF P ev n ρ O Z.q l τ⟩
@[reducible] def seqFC (P : Program) (ev : Int → Value) (n : Int) (ρ : Nat → Nat) (O : List (Nat × AObj)) (Z : ContS) (os : List AOper) (d : Option Nat) (σ : St) : ContR := ⟨fun b r => wdieF P ev n ρ O Z.q os (σ.put d b r)⟩
@[reducible] def wpC (P : Program) (N : Nat) (K : List Nat) (ac : ACode) (Q : Cont) : ContS := ⟨fun τ => Wp P N K ac Q.q τ⟩
@[reducible] def doneC (K : List Nat) (O' : List (Nat × AObj)) : Cont := ⟨doneQ K O'⟩
def WdF (P : Program) (ev : Int → Value) (n : Int) (ρ : Nat → Nat) (O : List (Nat × AObj)) (l : List AOper) [Z : ContS] (σ : St) : Prop := wdieF P ev n ρ O Z.q l σ
theorem Si_thenS {l : List AOper} {Q : ContS} {τ : St} : @Si (thenS P l Q) τ = @Wsi P l Q τ := rfl
theorem Si_thenA {l : List AOper} {Q : ContS} {τ : St} : @Si (thenA P l Q) τ = @Wni P l [] Q τ := rfl
theorem Si_midN {t : Nat} {v : AV} {l : List AOper} {Q : ContS} {τ : St} : @Si (midN P t v l Q) τ = (τ.env t = some (true, v) ∧ @Wsi P l Q τ) := rfl
theorem Si_endN {KK : List Nat} {T : Slots} {O : List (Nat × AObj)} {τ : St} : @Si (endN KK T O) τ = WeakE KK τ T O := rfl
theorem Si_midD {t t' : Nat} {v v' : AV} {ev : Int → Value} {n : Int} {ρ : Nat → Nat} {O : List (Nat × AObj)} {Z : ContS} {l : List AOper} {τ : St} :
    @Si (midD P t v t' v' ev n ρ O Z l) τ = (τ.env t = some (true, v) ∧ τ.env t' = some (true, v') ∧ @WdF P ev n ρ O l Z τ) := rfl
theorem Si_wpC {N : Nat} {K : List Nat} {ac : ACode} {Q : Cont} {τ : St} : @Si (wpC P N K ac Q) τ = @Wpi P N K ac Q τ := rfl
theorem Ri_seqF {ev : Int → Value} {n : Int} {ρ : Nat → Nat} {O : List (Nat × AObj)} {Z : ContS} {os : List AOper} {d : Option Nat} {σ : St} {b : Bool} {r : Res} : @Ri (seqFC P ev n ρ O Z os d σ) b r = @WdF P ev n ρ O os Z (σ.put d b r) := rfl
theorem WdF_go {ev : Int → Value} {n : Int} {ρ : Nat → Nat} {O : List (Nat × AObj)} {Z : ContS} {o : AOper} {os : List AOper} {σ : St} (h : @Woi P o σ (seqFC P ev n ρ O Z os o.dst σ)) : @WdF P ev n ρ O (o :: os) Z σ := .inl h
theorem WdF_die {ev : Int → Value} {n : Int} {ρ : Nat → Nat} {O : List (Nat × AObj)} {Z : ContS} {o : AOper} {os : List AOper} {σ : St} (h : dieAt P ev n ρ O o σ) (hz : @Si Z σ) : @WdF P ev n ρ O (o :: os) Z σ := .inr ⟨h, hz⟩
theorem to_rec {N : Nat} {K : List Nat} {ac : ACode} {O' : List (Nat × AObj)} {as : List AOper} {σ : St} (h : @Wsi P as (wpC P N K ac (doneC K O')) σ) : wseq P as (fun τ => Wp P N K ac (doneQ K O') τ) σ := h
theorem Qi_doneN {K : List Nat} {O' : List (Nat × AObj)} {τ : St} : @Qi (doneC K O') .normal τ = WeakE K τ [] O' := rfl
theorem Qi_doneR {K : List Nat} {O' : List (Nat × AObj)} {τ : St} : @Qi (doneC K O') .ret τ = WeakE K τ [] O' := rfl
end
attribute [go_sem] Si_thenS Si_thenA Si_midN Si_endN Si_midD Si_wpC Ri_seqF Qi_doneN Qi_doneR
end Go.Abs
end
section
namespace Go.Abs
section
variable {P : Program} {L : List (Nat × List Bool)} {f : FuncId} {fn : Func} {ac : ACode} {args : List AV} {O : List (Nat × AObj)}
theorem enD (N : Nat) (rvs : List (Nat × Option (Option Nat))) {ev : Int → Value} {spec : Except Int (List AV × List (Nat × AObj))} (hm : P.follows .mixedOrders = true) (hL : okE P L = true) (hf : P.funcs[f]? = some fn) (hc : compile2 P L fn.ntmps (fn.body.getD .skip) = some ac)
    (h : @WiT P N (O.map (·.1)) ac (retTR N (O.map (·.1)) rvs spec) ⟨ev, fun n => spec = .error n⟩ (start args O)) (hN : fn.ntmps = N := by kernel_rfl) (hts : rvOf P fn.results.toList = some rvs := by kernel_rfl) (hb : fn.body = some (fn.body.getD .skip) := by kernel_rfl) (hname : (fn.name != "runtime.NumGoroutine") = true := by kernel_rfl) (hlt : (rvs.all fun p => p.1.blt N) = true := by decide) (hl : (args.length.ble N) = true := by kernel_rfl) :
    CallsT P ev f args O spec := callsT_of hm hf hb hname (cs2 hL hc) hN hts hlt hl h
end
end Go.Abs
end
