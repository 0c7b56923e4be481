/- The abstract layer, part 25: contracts with objects: returns, calls; how an empty slice argument is split. -/
import Derived.Test.YtbpaheflphafiaaAbs24
set_option linter.unusedSimpArgs false
set_option linter.unusedVariables false
set_option linter.unnecessarySimpa false
namespace Go.Abs
section
variable {P : Program}

@[reducible] def retIO (K : List Nat) (ts : List Nat) (rs : List AV) (O' : List (Nat × AObj)) : Cont :=
  ⟨fun o σ => match o with | .exit _ => False | .normal => RetW K σ ts rs O' | .ret => RetW K σ ts rs O'⟩

theorem Qi_retO {K ts : List Nat} {rs : List AV} {O' : List (Nat × AObj)} {σ : St} : @Qi (retIO K ts rs O') .ret σ = RetW K σ ts rs O' := rfl
theorem Qi_endO {K ts : List Nat} {rs : List AV} {O' : List (Nat × AObj)} {σ : St} : @Qi (retIO K ts rs O') .normal σ = RetW K σ ts rs O' := rfl

theorem retW_of {K : List Nat} {σ : St} {ts : List Nat} {rs : List AV} {O : List (Nat × AObj)} (md : List Mode) (ρs : List (Nat × Nat)) (A : List Nat) (hm : md.length = ts.length) (hr : rs.length = ts.length)
    (h1 : (O.map (·.1)).Nodup) (h2 : (((O.map (·.1)).filter fun i => !A.contains i).map (assoc ρs)).Nodup)
    (h3 : ∀ k ∈ K, k ∉ A ∧ assoc ρs k = k ∧ (ofL O k).isSome) (h4 : slotsC σ (assoc ρs) A O (zip3 ts md rs) [] fun wr => objsC (wrm σ.objs wr) (assoc ρs) A O O) : RetW K σ ts rs O :=
  ⟨md, hm, hr, weakE_of ρs A h1 h2 h3 h4⟩

/-- a contract with objects, from the code -/
theorem callsIO_of {f : FuncId} {fn : Func} {ac : ACode} {args : List AV} {O O' : List (Nat × AObj)} {ts : List Nat} {rs : List AV} (hm : P.follows .mixedOrders = true)
    (hf : P.funcs[f]? = some fn) (hb : fn.body = some (fn.body.getD .skip)) (hname : (fn.name != "runtime.NumGoroutine") = true) (hc : compile P fn.ntmps (fn.body.getD .skip) = some ac.strip)
    (hts : tmpsOf fn.results.toList = some ts) (hnd : ts.Nodup) (hl : (args.length.ble fn.ntmps) = true)
    (h : @Wi P fn.ntmps (O.map (·.1)) ac (retIO (O.map (·.1)) ts rs O') (start args O)) : CallsA P f args O (pack rs) O' := by
  have key : Wp P fn.ntmps (O.map (·.1)) ac (retQ (O.map (·.1)) ts fun rs' O1 => rs' = rs ∧ O1 = O') (start args O) := (Wp.of_W hm ac h).mono fun o σ hq => by
    cases o with
    | exit i => exact hq
    | normal => exact ⟨rs, O', ⟨rfl, rfl⟩, hq⟩
    | ret => exact ⟨rs, O', ⟨rfl, rfl⟩, hq⟩
  exact CallsR.one (callsR_of hf hb hname hc hts hnd (Nat.le_of_ble_eq_true hl) key)

/-! ### a call that is given objects -/

def argsOC (m : Nat → Option AObj) (ρ : Nat → Nat) (O : List (Nat × AObj)) : List Bool → List AV → List AV → List (Nat × AObj) → (List (Nat × AObj) → Prop) → Prop
  | [], [], [], acc, K => K acc
  | true :: md, a :: as, c :: cs, acc, K => a = c.ren ρ ∧ (∀ i ∈ c.ids, (ofL O i).isSome) ∧ argsOC m ρ O md as cs acc K
  | false :: md, a :: as, c :: cs, acc, K => match freezeAV m a with
    | some (p, c1, w) => p ∧ avle c1 c ∧ argsOC m ρ O md as cs (acc ++ w) K
    | none => False
  | _, _, _, _, _ => False

theorem argsOC_ok {m : Nat → Option AObj} {ρ : Nat → Nat} {O : List (Nat × AObj)} {Kp : List (Nat × AObj) → Prop} : ∀ {md : List Bool} {avs cargs : List AV} {acc : List (Nat × AObj)}, argsOC m ρ O md avs cargs acc Kp →
    ∃ cs wr, ArgsOk m ρ O md avs cs wr ∧ AVleL cs cargs ∧ Kp (acc ++ wr)
  | [], [], [], acc, h => ⟨[], [], rfl, trivial, by simpa [argsOC] using h⟩
  | true :: md, a :: as, c :: cs, acc, h => by
    obtain ⟨h1, h2, h3⟩ := h
    obtain ⟨cs', wr, g1, g2, g3⟩ := argsOC_ok h3
    exact ⟨c :: cs', wr, ⟨h1.symm, h2, g1⟩, ⟨AVle.refl c, g2⟩, g3⟩
  | false :: md, a :: as, c :: cs, acc, h => by
    simp only [argsOC] at h
    split at h
    · rename_i p c1 w hf
      obtain ⟨cs', wr, g1, g2, g3⟩ := argsOC_ok h.2.2
      exact ⟨c1 :: cs', w ++ wr, ⟨p, w, wr, hf, h.1, rfl, g1⟩, ⟨avle_ok _ _ h.2.1, g2⟩, by simpa using g3⟩
    · exact h.elim
  | [], [], _ :: _, _, h => by simp [argsOC] at h
  | [], _ :: _, _, _, h => by simp [argsOC] at h
  | true :: _, [], _, _, h => by simp [argsOC] at h
  | false :: _, [], _, _, h => by simp [argsOC] at h
  | true :: _, _ :: _, [], _, h => by simp [argsOC] at h
  | false :: _, _ :: _, [], _, h => by simp [argsOC] at h

def objsInC (m : Nat → Option AObj) (ρ : Nat → Nat) (O : List (Nat × AObj)) : List (Nat × AObj) → Prop
  | [] => True
  | (i, o) :: r => m (ρ i) = some (o.ren ρ) ∧ (match o with | .box cs => ∀ j ∈ idsL cs, (ofL O j).isSome | _ => True) ∧ objsInC m ρ O r

theorem objsInC_get {m : Nat → Option AObj} {ρ : Nat → Nat} {O : List (Nat × AObj)} : ∀ {l : List (Nat × AObj)}, objsInC m ρ O l → ∀ i o, (i, o) ∈ l → m (ρ i) = some (o.ren ρ) ∧ ∀ cs, o = .box cs → ∀ j ∈ idsL cs, (ofL O j).isSome
  | [], _, i, o, hp => by cases hp
  | (i, o) :: l, h, i', o', hp => by
    rcases List.mem_cons.1 hp with e | hp
    · obtain ⟨rfl, rfl⟩ := Prod.mk.inj e
      refine ⟨h.1, fun cs hcs => ?_⟩
      have := h.2.1
      subst hcs
      exact this
    · exact objsInC_get h.2.2 i' o' hp

def newC (m : Nat → Option AObj) (ρ : Nat → Nat) (O : List (Nat × AObj)) : List (Nat × AObj) → Prop
  | [] => True
  | (i, _) :: r => (if (ofL O i).isSome then True else m (ρ i) = none) ∧ newC m ρ O r

theorem newC_get {m : Nat → Option AObj} {ρ : Nat → Nat} {O : List (Nat × AObj)} : ∀ {l : List (Nat × AObj)}, newC m ρ O l → ∀ i o, (i, o) ∈ l → (ofL O i).isSome ∨ m (ρ i) = none
  | [], _, i, o, hp => by cases hp
  | (i, o) :: l, h, i', o', hp => by
    rcases List.mem_cons.1 hp with e | hp
    · obtain ⟨rfl, rfl⟩ := Prod.mk.inj e
      have := h.1
      by_cases hs : (ofL O i').isSome
      · exact .inl hs
      · rw [if_neg hs] at this; exact .inr this
    · exact newC_get h.2 i' o' hp

theorem CallGi_obj {m : Nat → Option AObj} {f : FuncId} {b : Bool} {Q : ContR} {avs cargs : List AV} {O O' : List (Nat × AObj)} {r : AV} (md : List Bool) (ρs : List (Nat × Nat)) (hc : CallsA P f cargs O r O')
    (hnO : (O.map (·.1)).Nodup) (hnO' : (O'.map (·.1)).Nodup) (hnd : (O'.map fun p => assoc ρs p.1).Nodup) (hOO : ∀ i ∈ O.map (·.1), (ofL O' i).isSome)
    (ha : argsOC m (assoc ρs) O md avs cargs [] fun wr => objsInC (wrm m wr) (assoc ρs) O O ∧ newC m (assoc ρs) O O' ∧ b = true ∧ @Ri Q b ⟨some (r.ren (assoc ρs)), wr ++ renO (assoc ρs) O'⟩) :
    @CallGi P m f avs b Q := by
  obtain ⟨cs, wr, h1, h2, h3, h4, h5, h6⟩ := argsOC_ok ha
  rw [List.nil_append] at h3 h6
  refine ⟨_, fun _ => CallDoes.mk md cs O r O' (assoc ρs) wr false (hc.args_le h2) h1 (fun i o hi => (objsInC_get h3 i o (ofL_mem' hnO hi)).1)
    (fun i cs hi => (objsInC_get h3 i _ (ofL_mem' hnO hi)).2 cs rfl) (fun i hi => ?_) (fun i hi => ?_) hnd (fun h => by cases h), fun _ => h5, h6⟩
  · obtain ⟨o, ho⟩ := ofL_mem hi
    exact hOO i (List.mem_map_of_mem (f := (·.1)) ho)
  · obtain ⟨o, ho⟩ := ofL_mem hi
    exact newC_get h4 i o ho

/-- an empty slice is nil or not: both are looked at -/
theorem CallsA.nil_split {f : FuncId} {z : Nat} {g : Nat → List AV} {r : AV} {O' : List (Nat × AObj)} (pre post : List AV) (h0 : CallsA P f (pre ++ .sc (.slice none 0 0) :: post) [] r O') (h1 : ∀ a c, CallsA P f (pre ++ .sc (.slice (some a) 0 c) :: post) [] r O') :
    CallsA P f (pre ++ .dsl z 0 g :: post) [] r O' := by
  refine ⟨h0.1, fun G w ob vals hs hr => ?_⟩
  have hrel := hr.2 pre.length (.dsl z 0 g) (by simp)
  have key : ∀ v, vals.getD pre.length undef = v → v.oneCell' = true → RelL G w ob (pre ++ .sc v :: post) vals := by
    intro v hv ho
    refine ⟨by rw [hr.1]; simp, fun j av hj => ?_⟩
    rcases Nat.lt_trichotomy j pre.length with h | h | h
    · refine hr.2 j av ?_
      rw [List.getElem?_append_left h] at hj ⊢; exact hj
    · subst h
      rw [List.getElem?_append_right (Nat.le_refl _), Nat.sub_self, List.getElem?_cons_zero, Option.some.injEq] at hj
      subst hj; rw [hv]; exact .sc ho
    · refine hr.2 j av ?_
      obtain ⟨k, rfl⟩ : ∃ k, j = pre.length + (k + 1) := ⟨j - pre.length - 1, by omega⟩
      rw [List.getElem?_append_right (by omega), Nat.add_sub_cancel_left, List.getElem?_cons_succ] at hj ⊢; exact hj
  generalize hv : vals.getD pre.length undef = v at hrel
  cases hrel with
  | dslNil => exact h0.2 G w ob vals hs (key _ hv rfl)
  | dslE a cap => exact (h1 a cap).2 G w ob vals hs (key _ hv rfl)
  | dsl b off cap c => exact (h1 ⟨b, off, none⟩ cap).2 G w ob vals hs (key _ hv rfl)
end
end Go.Abs
