/- The abstract layer, part 27: results that lie in variables of their own. -/
import Derived.Test.YtbpaheflphafiaaAbs26
set_option linter.unusedSimpArgs false
set_option linter.unusedVariables false
set_option linter.unnecessarySimpa false
namespace Go.Abs

/-- a result: a temporary, or a variable that is read at the end -/
def rvOf (P : Program) : List ResultVar → Option (List (Nat × Option (Option Nat)))
  | [] => some []
  | .tmp t :: r => match rvOf P r with
    | some l => some ((t, none) :: l)
    | none => none
  | .cell a t :: r => match cellsN P t, rvOf P r with
    | some n, some l => some ((a, some n) :: l)
    | _, _ => none

/-- the results are read, into temporaries from M on -/
def retR : St → Nat → List (Nat × Option (Option Nat)) → (St → Prop) → Prop
  | σ, _, [], K => K σ
  | σ, M, (t, none) :: r, K => retR ⟨upd σ.env M (σ.env t), σ.objs⟩ (M + 1) r K
  | σ, M, (a, some n) :: r, K => match eval (.load n (.t a)) σ.e σ.objs 0 with
    | some (p, ⟨some v, _⟩) => σ.c (.t a) = true ∧ p ∧ retR ⟨upd σ.env M (some (true, v)), σ.objs⟩ (M + 1) r K
    | _ => False

def packV : List Value → Value
  | [x] => x
  | vs => .tuple vs.toArray

section
variable {P : Program} {G : Nat → Prop} {w : World} {ob : Place}

theorem Sim.push {M : Nat} {σ : St} {a : Act} (h : Sim M σ a w ob G) (x : Option (Bool × AV)) (v : Value) (hx : ∀ av, x = some (true, av) → Rel G w ob av v) (hx0 : ∀ av, x = some (false, av) → v = undef) :
    Sim (M + 1) ⟨upd σ.env M x, σ.objs⟩ { a with tmps := a.tmps.push v } w ob G := by
  refine ⟨by simp [h.size], h.defers, h.objs, fun t av ht => ?_, fun t av ht => ?_⟩
  rotate_left
  · simp only [upd] at ht
    split at ht
    · rename_i e; subst e
      rw [hx0 av ht, ← h.size]; simp
    · have h1 := h.env0 t av ht
      have hlt : t < a.tmps.size := (Array.getElem?_eq_some_iff.1 h1).1
      simp only [Array.getElem?_push]; rw [if_neg (by omega)]; exact h1
  simp only [upd] at ht
  split at ht
  · rename_i e; subst e
    exact ⟨v, by rw [← h.size]; simp, hx av ht⟩
  · obtain ⟨u, h1, h2⟩ := h.env t av ht
    have hlt : t < a.tmps.size := (Array.getElem?_eq_some_iff.1 h1).1
    exact ⟨u, by simp only [Array.getElem?_push]; rw [if_neg (by omega)]; exact h1, h2⟩

def CellsT (P : Program) (t : TypeId) (n : Option Nat) : Prop := match n with | none => isAggB P t = some false | some k => isAggB P t = some true ∧ szOf P t = some k

theorem cellsN_spec {t : TypeId} {n : Option Nat} (h : cellsN P t = some n) : CellsT P t n := by
  unfold cellsN at h
  split at h
  · simp only [Option.some.injEq] at h; subst h; assumption
  · rename_i hagg
    split at h
    · rename_i k hk'
      simp only [Option.some.injEq] at h; subst h; exact ⟨hagg, hk'⟩
    · cases h
  · cases h

theorem retR_ok (tmps0 : Array Value) (f : ResultVar → Sem Value) (hf1 : ∀ t, f (.tmp t) = pure (tmps0.getD t undef)) (hf2 : ∀ a t, f (.cell a t) = (do loadVar t (← asAddr (tmps0.getD a undef)))) :
    ∀ (l : List ResultVar) (rvs : List (Nat × Option (Option Nat))) (M : Nat) (σ : St) (a : Act) (K : St → Prop), rvOf P l = some rvs → Sim M σ a w ob G → tmps0.size ≤ M → (∀ t, t < tmps0.size → a.tmps[t]? = tmps0[t]?) →
      (∀ p ∈ rvs, p.1 < tmps0.size) → retR σ M rvs K →
      ∃ σ2 a2 vs, K σ2 ∧ Sim (M + rvs.length) σ2 a2 w ob G ∧ (l.mapM f).run P w = .ok vs w ∧ vs.length = rvs.length ∧ (∀ j, j < rvs.length → a2.tmps[M + j]? = vs[j]?) ∧ (∀ t, t < M → a2.tmps[t]? = a.tmps[t]?)
  | [], rvs, M, σ, a, K, hl, hs, hM, hpre, hlt, h => by
    simp only [rvOf, Option.some.injEq] at hl; subst hl
    exact ⟨σ, a, [], h, hs, by simp, rfl, fun j hj => by simp at hj, fun t _ => rfl⟩
  | .tmp t :: l, rvs, M, σ, a, K, hl, hs, hM, hpre, hlt, h => by
    simp only [rvOf] at hl
    split at hl
    case h_2 => cases hl
    rename_i rvs' hl'
    simp only [Option.some.injEq] at hl; subst hl
    simp only [retR] at h
    have ht := hlt (t, none) (by simp)
    simp only at ht
    have hs1 := hs.push (σ.env t) (tmps0.getD t undef) (fun av hav => by
      obtain ⟨v, h1, h2⟩ := hs.env t av hav
      rw [hpre t ht] at h1
      rw [Array.getD_eq_getD_getElem?, h1]; exact h2) fun av hav => by
      have h1 := hs.env0 t av hav
      rw [hpre t ht] at h1
      rw [Array.getD_eq_getD_getElem?, h1]; rfl
    obtain ⟨σ2, a2, vs, k1, k2, k3, k4, k5, k6⟩ := retR_ok tmps0 f hf1 hf2 l rvs' (M + 1) _ _ K hl' hs1 (by omega) (fun u hu => by
      simp only [Array.getElem?_push]; rw [if_neg (by rw [hs.size]; omega)]; exact hpre u hu) (fun p hp => hlt p (by simp [hp])) h
    refine ⟨σ2, a2, tmps0.getD t undef :: vs, k1, by rw [List.length_cons, show M + (rvs'.length + 1) = M + 1 + rvs'.length by omega]; exact k2, ?_, by simp [k4], fun j hj => ?_, fun u hu => ?_⟩
    · rw [List.mapM_cons, hf1]; simp [k3]
    · cases j with
      | zero =>
        rw [Nat.add_zero, k6 M (by omega), List.getElem?_cons_zero]
        show (a.tmps.push _)[M]? = _
        rw [← hs.size]; simp
      | succ j =>
        have := k5 j (by simpa using hj)
        rw [List.getElem?_cons_succ, ← this]; congr 1; omega
    · rw [k6 u (by omega)]; simp only [Array.getElem?_push]; rw [if_neg (by rw [hs.size]; omega)]
  | .cell c t :: l, rvs, M, σ, a, K, hl, hs, hM, hpre, hlt, h => by
    simp only [rvOf] at hl
    split at hl
    case h_2 => cases hl
    rename_i n rvs' hcn hl'
    simp only [Option.some.injEq] at hl; subst hl
    simp only [retR] at h
    split at h
    case h_2 => exact h.elim
    rename_i p v wr hev
    obtain ⟨hc, hp, h⟩ := h
    have ht := hlt (c, some n) (by simp)
    simp only at ht
    have hop : OpRel G w ob (a.eval) σ.e' := hs.opRel
    have hev' : eval (.load n (.t c)) σ.e' σ.objs 0 = some (p, ⟨some v, wr⟩) := by
      rw [← eval_congr (fun x hx => e_eq_e' (by simp only [AOp.ops, List.mem_singleton] at hx; subst hx; exact hc))]; exact hev
    have hload : ∃ u, (do loadVar t (← asAddr (tmps0.getD c undef))).run P w = .ok u w ∧ Rel G w ob v u := by
      have hval : a.eval (.tmp c) = tmps0.getD c undef := by
        show a.tmps.getD c undef = _
        rw [Array.getD_eq_getD_getElem?, hpre c ht, ← Array.getD_eq_getD_getElem?]
      simp only [eval] at hev'
      have tn := cellsN_spec hcn
      split at hev'
      · rename_i cs hx
        simp only [Option.map_eq_some_iff, Prod.mk.injEq, Res.mk.injEq, Option.some.injEq] at hev'
        obtain ⟨v', hk, _, rfl, _⟩ := hev'
        obtain ⟨b, off, hxe, hG, hcell⟩ := fptr_cells (hop (.tmp c) (.t c) _ rfl hx)
        obtain ⟨u, h1, h2⟩ := run_loadVar_cells tn hcell hk
        rw [← hval, hxe]
        exact ⟨u, by simp [asAddr, h1], h2⟩
      · rename_i id k o tot hx
        split at hev'
        case h_2 => cases hev'
        rename_i p' cs hcs
        simp only [Option.map_eq_some_iff, Prod.mk.injEq, Res.mk.injEq, Option.some.injEq] at hev'
        obtain ⟨v', hk, rfl, rfl, _⟩ := hev'
        obtain ⟨b, base, hxe, hcell⟩ := ptr_cells hs.objs (hop (.tmp c) (.t c) _ rfl hx) hcs hp
        obtain ⟨u, h1, h2⟩ := run_loadVar_cells tn (hcell.drop o) hk
        rw [← hval, hxe]
        exact ⟨u, by simp [asAddr, h1], h2⟩
      · cases hev'
    obtain ⟨u, hrun, hrel⟩ := hload
    have hs1 := hs.push (some (true, v)) u (fun av hav => by simp only [Option.some.injEq, Prod.mk.injEq, true_and] at hav; subst hav; exact hrel) (fun av hav => by simp at hav)
    obtain ⟨σ2, a2, vs, k1, k2, k3, k4, k5, k6⟩ := retR_ok tmps0 f hf1 hf2 l rvs' (M + 1) _ _ K hl' hs1 (by omega) (fun q hq => by
      simp only [Array.getElem?_push]; rw [if_neg (by rw [hs.size]; omega)]; exact hpre q hq) (fun p hp => hlt p (by simp [hp])) h
    refine ⟨σ2, a2, u :: vs, k1, by rw [List.length_cons, show M + (rvs'.length + 1) = M + 1 + rvs'.length by omega]; exact k2, ?_, by simp [k4], fun j hj => ?_, fun q hq => ?_⟩
    · rw [List.mapM_cons, hf2]
      simp only [Sem.run_bind, hrun, k3, Result.andThen_ok]
      rfl
    · cases j with
      | zero =>
        rw [Nat.add_zero, k6 M (by omega), List.getElem?_cons_zero]
        show (a.tmps.push _)[M]? = _
        rw [← hs.size]; simp
      | succ j =>
        have := k5 j (by simpa using hj)
        rw [List.getElem?_cons_succ, ← this]; congr 1; omega
    · rw [k6 q (by omega)]; simp only [Array.getElem?_push]; rw [if_neg (by rw [hs.size]; omega)]
end
end Go.Abs

namespace Go.Abs
section
variable {P : Program}

theorem results_run2 {fn : Func} {rvs : List (Nat × Option (Option Nat))} {M : Nat} {σ : St} {a : Act} {w : World} {ob : Place} {G : Nat → Prop} {K : St → Prop} (h : rvOf P fn.results.toList = some rvs) (hs : Sim M σ a w ob G)
    (hlt : ∀ p ∈ rvs, p.1 < M) (hr : retR σ M rvs K) :
    ∃ σ2 a2 v, K σ2 ∧ Sim (M + rvs.length) σ2 a2 w ob G ∧ (results fn a.tmps).run P w = .ok v w ∧ v = (match (List.range' M rvs.length).map (fun t => a2.tmps.getD t undef) with | [x] => x | vs => .tuple vs.toArray) := by
  let f : ResultVar → Sem Value := fun
    | .tmp t => pure (a.tmps.getD t undef)
    | .cell c t => do loadVar t (← asAddr (a.tmps.getD c undef))
  obtain ⟨σ2, a2, vs, k1, k2, k3, k4, k5, k6⟩ := retR_ok a.tmps f (fun _ => rfl) (fun _ _ => rfl) fn.results.toList rvs M σ a K h hs (by rw [hs.size]; exact Nat.le_refl _) (fun _ _ => rfl) (fun p hp => by rw [hs.size]; exact hlt p hp) hr
  have hvs : (List.range' M rvs.length).map (fun t => a2.tmps.getD t undef) = vs := by
    apply List.ext_getElem?
    intro j
    by_cases hj : j < rvs.length
    · rw [List.getElem?_map, List.getElem?_range' hj, ← k5 j hj]
      simp only [Option.map_some, Nat.one_mul]
      have hlt2 : j < vs.length := by omega
      have := k5 j hj
      rw [List.getElem?_eq_getElem hlt2] at this
      rw [Array.getD_eq_getD_getElem?, this]; rfl
    · rw [List.getElem?_eq_none (by simp; omega), List.getElem?_eq_none (by omega)]
  refine ⟨σ2, a2, _, k1, k2, ?_, rfl⟩
  rw [hvs]
  unfold results
  have h1 : fn.results = fn.results.toList.toArray := by simp
  have h2 : (fn.results.mapM f).run P w = .ok vs.toArray w := by
    rw [h1, List.mapM_toArray]
    simp only [map_eq_pure_bind, Sem.run_bind, k3, Result.andThen_ok]; rfl
  show (do let vs ← fn.results.mapM f; pure (if h : vs.size = 1 then vs[0] else .tuple vs) : Sem Value).run P w = _
  rw [Sem.run_bind, h2, Result.andThen_ok]
  match vs with
  | [] => rfl
  | [x] => rfl
  | x :: y :: r => rfl

@[reducible] def retIR (N : Nat) (rvs : List (Nat × Option (Option Nat))) (rs : List AV) : Cont :=
  ⟨fun o σ => match o with | .exit _ => False | .normal => retR σ N rvs fun σ2 => retC σ2 (List.range' N rvs.length) rs | .ret => retR σ N rvs fun σ2 => retC σ2 (List.range' N rvs.length) rs⟩
@[reducible] def retIRO (N : Nat) (K : List Nat) (rvs : List (Nat × Option (Option Nat))) (rs : List AV) (O' : List (Nat × AObj)) : Cont :=
  ⟨fun o σ => match o with | .exit _ => False | .normal => retR σ N rvs fun σ2 => RetW K σ2 (List.range' N rvs.length) rs O' | .ret => retR σ N rvs fun σ2 => RetW K σ2 (List.range' N rvs.length) rs O'⟩

theorem Qi_retR {N : Nat} {rvs : List (Nat × Option (Option Nat))} {rs : List AV} {σ : St} : @Qi (retIR N rvs rs) .ret σ = retR σ N rvs fun σ2 => retC σ2 (List.range' N rvs.length) rs := rfl
theorem Qi_endR {N : Nat} {rvs : List (Nat × Option (Option Nat))} {rs : List AV} {σ : St} : @Qi (retIR N rvs rs) .normal σ = retR σ N rvs fun σ2 => retC σ2 (List.range' N rvs.length) rs := rfl
theorem Qi_retRO {N : Nat} {K : List Nat} {rvs : List (Nat × Option (Option Nat))} {rs : List AV} {O' : List (Nat × AObj)} {σ : St} : @Qi (retIRO N K rvs rs O') .ret σ = retR σ N rvs fun σ2 => RetW K σ2 (List.range' N rvs.length) rs O' := rfl
theorem Qi_endRO {N : Nat} {K : List Nat} {rvs : List (Nat × Option (Option Nat))} {rs : List AV} {O' : List (Nat × AObj)} {σ : St} : @Qi (retIRO N K rvs rs O') .normal σ = retR σ N rvs fun σ2 => RetW K σ2 (List.range' N rvs.length) rs O' := rfl

theorem retR_mono {K K' : St → Prop} (h : ∀ σ, K σ → K' σ) : ∀ (rvs : List (Nat × Option (Option Nat))) (σ : St) (M : Nat), retR σ M rvs K → retR σ M rvs K'
  | [], σ, M, hr => h σ hr
  | (t, none) :: r, σ, M, hr => by
    simp only [retR] at hr ⊢
    exact retR_mono h r _ _ hr
  | (a, some n) :: r, σ, M, hr => by
    simp only [retR] at hr ⊢
    split at hr
    · exact ⟨hr.1, hr.2.1, retR_mono h r _ _ hr.2.2⟩
    · exact hr.elim

/-- a contract with objects, from the code; results may lie in variables -/
theorem callsW_of {f : FuncId} {fn : Func} {ac : ACode} {args : List AV} {O O' : List (Nat × AObj)} {rvs : List (Nat × Option (Option Nat))} {rs : List AV}
    (hf : P.funcs[f]? = some fn) (hb : fn.body = some (fn.body.getD .skip)) (hname : (fn.name != "runtime.NumGoroutine") = true) (hc : compile P fn.ntmps (fn.body.getD .skip) = some ac.strip)
    (hts : rvOf P fn.results.toList = some rvs) (hlt : (rvs.all fun p => p.1.blt fn.ntmps) = true) (hl : (args.length.ble fn.ntmps) = true)
    (h : Wp P fn.ntmps (O.map (·.1)) ac (retIRO fn.ntmps (O.map (·.1)) rvs rs O').q (start args O)) : CallsA P f args O (pack rs) O' := by
  refine ⟨by unfold callableB; rw [hf]; simp only; rw [hb]; simp [hname], fun G w ob vals hs hr => ?_⟩
  refine calls_of_wp hf hb ?_
  have h1 := h _ hc ⟨G, w, ob⟩ _ w ob G (start_sim hs hr (Nat.le_of_ble_eq_true hl)) ⟨Fr.refl G w ob, fun id i _ hi => ⟨i, hi, .inl rfl⟩⟩
  refine wp_mono h1 ?_
  rintro e a' w' ⟨o, σ, ob1, G1, rfl, hq, s, hΓ⟩
  have hlt' : ∀ p ∈ rvs, p.1 < fn.ntmps := fun p hp => by
    have := List.all_eq_true.1 hlt p hp
    simpa [Nat.blt_eq] using this
  have fin : (retR σ fn.ntmps rvs fun σ2 => RetW (O.map (·.1)) σ2 (List.range' fn.ntmps rvs.length) rs O') → a'.defers = [] ∧ ∃ v, (results fn a'.tmps).run P w' = .ok v w' ∧
      ∃ v' G' ob', Ending.returned v = .returned v' ∧ SimO G' w' ob' (ofL O') ∧ Rel G' w' ob' (pack rs) v' ∧ Fr G w ob G' w' ob' ∧ OBext ob ob' := by
    intro hR
    obtain ⟨σ2, a2, v, k1, k2, hv, hv'⟩ := results_run2 hts s hlt' hR
    obtain ⟨md, hml, hrl, ρ, A, hw⟩ := k1
    obtain ⟨ob2, G2, g1, g2, g3⟩ := weak_ok k2 hw
    refine ⟨s.defers, v, hv, v, G2, ob2, rfl, g1.objs, ?_, hΓ.fr.trans g2, ?_⟩
    · rw [hv']
      exact pack_rel hrl fun j t r ht hr => g1.env t r (envT_zip3 hml hrl List.nodup_range' j t r ht hr)
    · intro id i hi
      have hk : id ∈ O.map (·.1) := by
        cases ho : ofL O id with
        | none => rw [(hs.dom id).1 ho] at hi; cases hi
        | some o => obtain ⟨o', ho'⟩ := ofL_mem (by rw [ho]; rfl); exact List.mem_map_of_mem (f := (·.1)) ho'
      obtain ⟨i', hi', h'⟩ := hΓ.ext id i hk hi
      exact ⟨i', by rw [g3 id hk]; exact hi', h'⟩
  cases o with
  | normal => exact fin hq
  | exit i => exact hq.elim
  | ret => exact fin hq

theorem callsIRO_of {f : FuncId} {fn : Func} {ac : ACode} {args : List AV} {O O' : List (Nat × AObj)} {rvs : List (Nat × Option (Option Nat))} {rs : List AV} (hm : P.follows .mixedOrders = true)
    (hf : P.funcs[f]? = some fn) (hb : fn.body = some (fn.body.getD .skip)) (hname : (fn.name != "runtime.NumGoroutine") = true) (hc : compile P fn.ntmps (fn.body.getD .skip) = some ac.strip)
    (hts : rvOf P fn.results.toList = some rvs) (hlt : (rvs.all fun p => p.1.blt fn.ntmps) = true) (hl : (args.length.ble fn.ntmps) = true)
    (h : @Wi P fn.ntmps (O.map (·.1)) ac (retIRO fn.ntmps (O.map (·.1)) rvs rs O') (start args O)) : CallsA P f args O (pack rs) O' :=
  callsW_of hf hb hname hc hts hlt hl (Wp.of_W hm ac h)

/-- a contract without objects, from the code; results may lie in variables -/
theorem callsIR_of {f : FuncId} {fn : Func} {ac : ACode} {args : List AV} {rvs : List (Nat × Option (Option Nat))} {rs : List AV} (hm : P.follows .mixedOrders = true)
    (hf : P.funcs[f]? = some fn) (hb : fn.body = some (fn.body.getD .skip)) (hname : (fn.name != "runtime.NumGoroutine") = true) (hc : compile P fn.ntmps (fn.body.getD .skip) = some ac.strip)
    (hts : rvOf P fn.results.toList = some rvs) (hlt : (rvs.all fun p => p.1.blt fn.ntmps) = true) (hl : (args.length.ble fn.ntmps) = true)
    (h : @Wi P fn.ntmps [] ac (retIR fn.ntmps rvs rs) (start args [])) : CallsA P f args [] (pack rs) [] := by
  have conv : ∀ σ, (retR σ fn.ntmps rvs fun σ2 => retC σ2 (List.range' fn.ntmps rvs.length) rs) → retR σ fn.ntmps rvs fun σ2 => RetW [] σ2 (List.range' fn.ntmps rvs.length) rs [] := fun σ hr =>
    retR_mono (fun σ2 h2 => by
      obtain ⟨md, h1, h2, h3⟩ := retC_slots (acc := []) h2
      exact ⟨md, h1, h2, weakE_pure h3⟩) rvs σ _ hr
  refine callsW_of (O := []) (O' := []) hf hb hname hc hts hlt hl ((Wp.of_W hm ac h).mono fun o σ hq => ?_)
  · cases o with
    | exit i => exact hq
    | normal => exact conv σ hq
    | ret => exact conv σ hq

theorem callsIR'_of {f N : Nat} {fn : Func} {ac : ACode} {args : List AV} {rvs : List (Nat × Option (Option Nat))} {rs : List AV} (hm : P.follows .mixedOrders = true)
    (hf : P.funcs[f]? = some fn) (hb : fn.body = some (fn.body.getD .skip)) (hname : (fn.name != "runtime.NumGoroutine") = true) (hc : compile P fn.ntmps (fn.body.getD .skip) = some ac.strip) (hN : fn.ntmps = N)
    (hts : rvOf P fn.results.toList = some rvs) (hlt : (rvs.all fun p => p.1.blt N) = true) (hl : (args.length.ble N) = true)
    (h : @Wi P N [] ac (retIR N rvs rs) (start args [])) : CallsA P f args [] (pack rs) [] := by
  subst hN; exact callsIR_of hm hf hb hname hc hts hlt hl h
theorem callsIRO'_of {f N : Nat} {fn : Func} {ac : ACode} {args : List AV} {O O' : List (Nat × AObj)} {rvs : List (Nat × Option (Option Nat))} {rs : List AV} (hm : P.follows .mixedOrders = true)
    (hf : P.funcs[f]? = some fn) (hb : fn.body = some (fn.body.getD .skip)) (hname : (fn.name != "runtime.NumGoroutine") = true) (hc : compile P fn.ntmps (fn.body.getD .skip) = some ac.strip) (hN : fn.ntmps = N)
    (hts : rvOf P fn.results.toList = some rvs) (hlt : (rvs.all fun p => p.1.blt N) = true) (hl : (args.length.ble N) = true)
    (h : @Wi P N (O.map (·.1)) ac (retIRO N (O.map (·.1)) rvs rs O') (start args O)) : CallsA P f args O (pack rs) O' := by
  subst hN; exact callsIRO_of hm hf hb hname hc hts hlt hl h
end
attribute [go_sem] retR Qi_retR Qi_endR Qi_retRO Qi_endRO List.range'_succ List.range'_zero
end Go.Abs
