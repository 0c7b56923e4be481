/- The abstract layer, part 20: a contract, from a function's code. -/
import Derived.Test.YtbpaheflphafiaaAbs19
set_option linter.unusedSimpArgs false
set_option linter.unusedVariables false
set_option linter.unnecessarySimpa false
namespace Go.Abs

def argSlots : Nat → List AV → Slots
  | _, [] => []
  | i, v :: vs => (i, .share, v) :: argSlots (i + 1) vs

/-- the state in which a function begins -/
def start (args : List AV) (O : List (Nat × AObj)) : St := stOf (argSlots 0 args) O

def pack : List AV → AV
  | [r] => r
  | rs => .tup rs

def zip3 : List Nat → List Mode → List AV → Slots
  | t :: ts, m :: ms, r :: rs => (t, m, r) :: zip3 ts ms rs
  | _, _, _ => []

/-- the results in the variables ts -/
def RetW (K : List Nat) (σ : St) (ts : List Nat) (rs : List AV) (O : List (Nat × AObj)) : Prop := ∃ md, md.length = ts.length ∧ rs.length = ts.length ∧ WeakE K σ (zip3 ts md rs) O

def retQ (K : List Nat) (ts : List Nat) (R : List AV → List (Nat × AObj) → Prop) (o : Out) (σ : St) : Prop :=
  match o with
  | .exit _ => False
  | .normal => ∃ rs O, R rs O ∧ RetW K σ ts rs O
  | .ret => ∃ rs O, R rs O ∧ RetW K σ ts rs O

def tmpsOf : List ResultVar → Option (List Nat)
  | [] => some []
  | .tmp t :: r => match tmpsOf r with
    | some ts => some (t :: ts)
    | none => none
  | .cell .. :: _ => none

section
variable {P : Program} {N : Nat} {K : List Nat}

theorem tmpsOf_eq : ∀ {l : List ResultVar} {ts : List Nat}, tmpsOf l = some ts → l = ts.map .tmp
  | [], ts, h => by simp only [tmpsOf, Option.some.injEq] at h; subst h; rfl
  | .tmp t :: r, ts, h => by
    simp only [tmpsOf] at h
    split at h
    · rename_i ts' h1
      simp only [Option.some.injEq] at h; subst h
      rw [tmpsOf_eq h1]; rfl
    · cases h
  | .cell a b :: r, ts, h => by simp [tmpsOf] at h

theorem results_run {fn : Func} {ts : List Nat} (h : tmpsOf fn.results.toList = some ts) (tmps : Array Value) (w : World) :
    ∃ v, (results fn tmps).run P w = .ok v w ∧ v = (match ts.map (fun t => tmps.getD t undef) with | [x] => x | vs => .tuple vs.toArray) := by
  have h1 : fn.results = (ts.map ResultVar.tmp).toArray := by rw [← tmpsOf_eq h]
  have h2 : ∀ (f : ResultVar → Sem Value), (∀ t, f (.tmp t) = pure (tmps.getD t undef)) → ∀ ts : List Nat, (ts.map ResultVar.tmp).mapM f = pure (ts.map fun t => tmps.getD t undef) := by
    intro f hf ts
    induction ts with
    | nil => rfl
    | cons t ts ih => simp only [List.map_cons, List.mapM_cons, ih, hf, pure_bind]
  refine ⟨_, ?_, rfl⟩
  unfold results
  rw [h1, List.mapM_toArray, h2 _ (fun t => rfl)]
  simp only [map_pure, pure_bind]
  cases ts with
  | nil => rfl
  | cons t ts => cases ts with
    | nil => rfl
    | cons u us => rfl

theorem envT_argSlots : ∀ (args : List AV) (i t : Nat), envT (argSlots i args) t = if i ≤ t then (args[t - i]?).map (fun v => (true, v)) else none
  | [], i, t => by simp [argSlots, envT]
  | v :: vs, i, t => by
    simp only [argSlots, envT, envT_argSlots vs (i + 1) t]
    by_cases h : t = i
    · subst h; simp
    · rw [if_neg h]
      by_cases h2 : i ≤ t
      · rw [if_pos h2, if_pos (by omega)]
        have : t - i = (t - (i + 1)) + 1 := by omega
        rw [this, List.getElem?_cons_succ]
      · rw [if_neg h2, if_neg (by omega)]

theorem start_sim {args : List AV} {O : List (Nat × AObj)} {G : Nat → Prop} {w : World} {ob : Place} {vals : List Value} (hs : SimO G w ob (ofL O)) (hr : RelL G w ob args vals) (hl : args.length ≤ N) :
    Sim N (start args O) { tmps := vals.toArray ++ Array.replicate (N - vals.toArray.size) undef, defers := [] } w ob G := by
  refine ⟨?_, rfl, hs, fun t av ht => ?_, fun t av ht => absurd ht envT_true⟩
  · have := hr.1; simp; omega
  · simp only [start, stOf, envT_argSlots, Nat.zero_le, if_true, Nat.sub_zero, Option.map_eq_some_iff, Prod.mk.injEq, true_and, exists_eq_right] at ht
    have hlt : t < vals.length := by
      rw [hr.1]
      rcases Nat.lt_or_ge t args.length with h | h
      · exact h
      · rw [List.getElem?_eq_none h] at ht; cases ht
    refine ⟨vals.getD t undef, ?_, hr.2 t av ht⟩
    simp [Array.getElem?_append, hlt, List.getD]

theorem envT_zip3 : ∀ {ts : List Nat} {md : List Mode} {rs : List AV}, md.length = ts.length → rs.length = ts.length → ts.Nodup → ∀ (j : Nat) (t : Nat) (r : AV), ts[j]? = some t → rs[j]? = some r → envT (zip3 ts md rs) t = some (true, r)
  | [], md, rs, _, _, _, j, t, r, h, _ => by simp at h
  | t0 :: ts, m :: md, r0 :: rs, h1, h2, hn, j, t, r, ht, hr => by
    simp only [List.nodup_cons] at hn
    simp only [zip3, envT]
    cases j with
    | zero =>
      simp only [List.getElem?_cons_zero, Option.some.injEq] at ht hr
      subst ht; subst hr; simp
    | succ j =>
      simp only [List.getElem?_cons_succ] at ht hr
      rw [if_neg (fun e => hn.1 (by rw [← e]; exact List.mem_of_getElem? ht))]
      exact envT_zip3 (by simpa using h1) (by simpa using h2) hn.2 j t r ht hr
  | _ :: _, [], _, h1, _, _, _, _, _, _, _ => by simp at h1
  | _ :: _, _ :: _, [], _, h2, _, _, _, _, _, _ => by simp at h2

theorem pack_rel {G : Nat → Prop} {w : World} {ob : Place} {tmps : Array Value} {ts : List Nat} {rs : List AV} (hl : rs.length = ts.length)
    (h : ∀ (j t : Nat) (r : AV), ts[j]? = some t → rs[j]? = some r → ∃ v, tmps[t]? = some v ∧ Rel G w ob r v) :
    Rel G w ob (pack rs) (match ts.map (fun t => tmps.getD t undef) with | [x] => x | vs => .tuple vs.toArray) := by
  have get : ∀ (j t : Nat) (r : AV), ts[j]? = some t → rs[j]? = some r → Rel G w ob r (tmps.getD t undef) := fun j t r ht hr => by
    obtain ⟨v, h1, h2⟩ := h j t r ht hr
    rw [Array.getD_eq_getD_getElem?, h1]; exact h2
  match ts, rs, hl with
  | [], [], _ => exact .tup #[] rfl (fun j av h => by simp at h)
  | [t], [r], _ => exact get 0 t r rfl rfl
  | t :: u :: us, r :: s :: ss, hl =>
    refine .tup _ (by simp at hl; simp [hl]) fun j av hj => ?_
    have hjl : j < (t :: u :: us).length := by
      rw [← hl]
      rcases Nat.lt_or_ge j (r :: s :: ss).length with h | h
      · exact h
      · rw [List.getElem?_eq_none h] at hj; cases hj
    have := get j (t :: u :: us)[j] av (List.getElem?_eq_getElem hjl) hj
    have e : (((t :: u :: us).map fun t => tmps.getD t undef).toArray).getD j undef = tmps.getD (t :: u :: us)[j] undef := by
      rw [Array.getD_eq_getD_getElem?, List.getElem?_toArray, List.getElem?_map, List.getElem?_eq_getElem hjl]; rfl
    show Rel G w ob av (Array.getD _ j undef)
    simp only [List.map_cons] at e ⊢
    rw [e]; exact this

/-- a contract with several outcomes -/
def CallsR (P : Program) (f : FuncId) (args : List AV) (O : List (Nat × AObj)) (R : List AV → List (Nat × AObj) → Prop) : Prop :=
  callableB P f = true ∧ ∀ (G : Nat → Prop) (w : World) (ob : Place) (vals : List Value), SimO G w ob (ofL O) → RelL G w ob args vals →
    Calls P f vals.toArray w fun e w' => ∃ rs O' v G' ob', R rs O' ∧ e = .returned v ∧ SimO G' w' ob' (ofL O') ∧ Rel G' w' ob' (pack rs) v ∧ Fr G w ob G' w' ob' ∧ OBext ob ob'

theorem callsR_of {f : FuncId} {fn : Func} {c : Code} {ac : ACode} {args : List AV} {O : List (Nat × AObj)} {ts : List Nat} {R : List AV → List (Nat × AObj) → Prop} 
    (hf : P.funcs[f]? = some fn) (hb : fn.body = some c) (hname : (fn.name != "runtime.NumGoroutine") = true) (hc : compile P fn.ntmps c = some ac.strip)
    (hts : tmpsOf fn.results.toList = some ts) (hnd : ts.Nodup) (hl : args.length ≤ fn.ntmps)
    (h : Wp P fn.ntmps (O.map (·.1)) ac (retQ (O.map (·.1)) ts R) (start args O)) : CallsR P f args O R := by
  refine ⟨by unfold callableB; rw [hf]; simp [hb, hname], fun G w ob vals hs hr => ?_⟩
  refine calls_of_wp hf hb ?_
  have h1 := h c hc ⟨G, w, ob⟩ _ w ob G (start_sim hs hr hl) ⟨Fr.refl G w ob, fun id i _ hi => ⟨i, hi, .inl rfl⟩⟩
  refine wp_mono h1 ?_
  rintro e a' w' ⟨o, σ, ob1, G1, rfl, hq, s, hΓ⟩
  have fin : (∃ rs O', R rs O' ∧ RetW (O.map (·.1)) σ ts rs O') → a'.defers = [] ∧ ∃ v, (results fn a'.tmps).run P w' = .ok v w' ∧
      ∃ rs O' v' G' ob', R rs O' ∧ Ending.returned v = .returned v' ∧ SimO G' w' ob' (ofL O') ∧ Rel G' w' ob' (pack rs) v' ∧ Fr G w ob G' w' ob' ∧ OBext ob ob' := by
    rintro ⟨rs, O', hR, md, hml, hrl, ρ, A, hw⟩
    obtain ⟨ob2, G2, g1, g2, g3⟩ := weak_ok s hw
    obtain ⟨v, hv, hv'⟩ := results_run hts a'.tmps w' (P := P)
    refine ⟨s.defers, v, hv, rs, O', v, G2, ob2, hR, rfl, g1.objs, ?_, hΓ.fr.trans g2, ?_⟩
    · rw [hv']
      exact pack_rel hrl fun j t r ht hr => g1.env t r (envT_zip3 hml hrl hnd j t r ht hr)
    · intro id i hi
      have hk : id ∈ O.map (·.1) := by
        cases ho : ofL O id with
        | none => rw [(hs.dom id).1 ho] at hi; cases hi
        | some o => obtain ⟨o', ho'⟩ := ofL_mem (by rw [ho]; rfl); exact List.mem_map_of_mem (f := (·.1)) ho'
      obtain ⟨i', hi', h'⟩ := hΓ.ext id i hk hi
      exact ⟨i', by rw [g3 id hk]; exact hi', h'⟩
  cases o with
  | normal => exact fin hq
  | exit i => exact hq.elim
  | ret => exact fin hq

/-- a contract with one outcome -/
theorem CallsR.one {f : FuncId} {args : List AV} {O O' : List (Nat × AObj)} {rs : List AV} (h : CallsR P f args O (fun rs' O1 => rs' = rs ∧ O1 = O')) : CallsA P f args O (pack rs) O' := by
  refine ⟨h.1, fun G w ob vals hs hr => (h.2 G w ob vals hs hr).mono ?_⟩
  rintro e w' ⟨rs', O1, v, G', ob', ⟨rfl, rfl⟩, h1, h2, h3, h4, h5⟩
  exact ⟨v, G', ob', h1, h2, h3, h4, h5⟩

/-- a contract that names its outcome -/
theorem CallsR.some {f : FuncId} {args : List AV} {O : List (Nat × AObj)} {R : List AV → List (Nat × AObj) → Prop} {rs : List AV} {O' : List (Nat × AObj)}
    (h : CallsR P f args O R) (hR : ∀ rs' O1, R rs' O1 → rs' = rs ∧ O1 = O') : CallsA P f args O (pack rs) O' := by
  refine CallsR.one (rs := rs) (O' := O') ⟨h.1, fun G w ob vals hs hr => (h.2 G w ob vals hs hr).mono ?_⟩
  rintro e w' ⟨rs', O1, v, G', ob', hr', h1⟩
  exact ⟨rs', O1, v, G', ob', hR rs' O1 hr', h1⟩
end
end Go.Abs
