/- The abstract layer, part 13: one operation of the model, by what its abstract operation does. -/
import Derived.Test.YtbpaheflphafiaaAbs12
import Derived.Orders
set_option linter.unusedSimpArgs false
set_option linter.unusedVariables false
set_option linter.unnecessarySimpa false
namespace Go.Abs

structure Sim (N : Nat) (σ : St) (a : Act) (w : World) (ob : Place) (G : Nat → Prop) : Prop where
  size : a.tmps.size = N
  defers : a.defers = []
  objs : SimO G w ob σ.objs
  env : ∀ t av, σ.env t = some (true, av) → ∃ v, a.tmps[t]? = some v ∧ Rel G w ob av v
  env0 : ∀ t av, σ.env t = some (false, av) → a.tmps[t]? = some undef

def dstOk (N : Nat) : Option Nat → Bool
  | some d => decide (d < N)
  | none => true

/-- what the layer does not know is an operation that is never carried out -/
def copB (P : Program) (op : Op) : AOp := match cop P op with | some a => a | none => .bad

def coper (P : Program) (N : Nat) (ops : Array Oper) (o : Oper) : Option AOper :=
  match some (copB P o.op) with
  | some aop =>
    if dstOk N o.dst then
      match o.guard with
      | none => some ⟨o.dst, aop, none, []⟩
      | some (j, want) => match (ops[j]?).bind (·.dst) with
        | some g => some ⟨o.dst, aop, some (g, want), []⟩
        | none => none
    else none
  | none => none

theorem fillA_congr {e e' : AX → Option AV} : ∀ (ps : List (Nat × Nat × AX)) (cs : List AV), (∀ x ∈ ps.map (·.2.2), e x = e' x) → fillA e cs ps = fillA e' cs ps
  | [], cs, _ => rfl
  | (o, s, x) :: ps, cs, h => by
    have hx : e x = e' x := h x (by simp)
    have ih := fun cs => fillA_congr ps cs (fun x hx => h x (by simp only [List.map_cons, List.mem_cons]; exact .inr hx))
    simp only [fillA, hx, ih]

theorem optI_congr {e e' : AX → Option AV} {o : Option AX} (h : ∀ x ∈ o.toList, e x = e' x) : optI e o = optI e' o := by
  cases o with
  | none => rfl
  | some x => simp only [optI, h x (by simp)]

theorem esL_congr {e e' : AX → Option AV} : ∀ (l : List AX), (∀ x ∈ l, e x = e' x) → esL e l = esL e' l
  | [], _ => rfl
  | x :: l, h => by simp only [esL, h x (by simp), esL_congr l fun y hy => h y (by simp [hy])]

theorem eval_congr {op : AOp} {e e' : AX → Option AV} {m : Nat → Option AObj} {d : Nat} (h : ∀ x ∈ op.ops, e x = e' x) : eval op e m d = eval op e' m d := by
  cases op <;> simp only [AOp.ops, List.mem_cons, List.not_mem_nil, or_false, forall_eq_or_imp, forall_eq, false_implies, implies_true] at h <;> simp only [eval]
  case build z ps => rw [fillA_congr ps _ h]
  case bslice z ps => rw [fillA_congr _ _ h]
  case slice z x lo hi mx =>
    have h1 := optI_congr (e := e) (e' := e') (o := lo) fun x hx => h.2 x (by simp only [List.mem_append]; exact .inl (.inl hx))
    have h2 := optI_congr (e := e) (e' := e') (o := hi) fun x hx => h.2 x (by simp only [List.mem_append]; exact .inl (.inr hx))
    have h3 := optI_congr (e := e) (e' := e') (o := mx) fun x hx => h.2 x (by simp only [List.mem_append]; exact .inr hx)
    simp only [h.1, h1, h2, h3]
  case mkfn f a b =>
    rw [esL_congr a fun x hx => h x (by simp [hx]), esL_congr b fun x hx => h x (by simp [hx])]
  all_goals first
    | rfl
    | (simp only [h]; done)
    | (obtain ⟨h1, h2⟩ := h; simp only [h1, h2]; done)
    | (obtain ⟨h1, h2, h3⟩ := h; simp only [h1, h2, h3]; done)

section
variable {P : Program} {G : Nat → Prop} {w : World} {ob : Place} {N : Nat} {σ : St} {a : Act}

/-- the operands that hold -/
def St.e' (σ : St) (x : AX) : Option AV := match σ.ev x with | some (true, v) => some v | _ => none

theorem allC_spec : ∀ {l : List AX}, allC σ true l → ∀ x ∈ l, σ.c x = true
  | [], _, x, h => by cases h
  | y :: l, hc, x, h => by
    rcases List.mem_cons.1 h with rfl | h
    · exact hc.1 rfl
    · exact allC_spec hc.2 x h

theorem e_eq_e' {x : AX} (h : σ.c x = true) : σ.e x = σ.e' x := by
  unfold St.c at h; unfold St.e St.e'
  cases hx : σ.ev x with
  | none => rfl
  | some p => obtain ⟨c, v⟩ := p; rw [hx] at h; simp only at h; subst h; rfl

theorem constAV_ok {v : Value} {av : AV} (h : constAV v = some av) : Rel G w ob av v := by
  cases v with
  | agg cs =>
    simp only [constAV] at h
    split at h
    · rename_i hone
      simp only [Option.some.injEq] at h
      subst h
      have := arr_rel (G := G) (w := w) (ob := ob) (Z := cs) hone
      exact .agg cs this.1 this.2.1 this.2.2
    · cases h
  | tuple vs => simp [constAV] at h
  | _ => simp only [constAV, Option.some.injEq] at h; subst h; exact .sc rfl

theorem Sim.opRel (hs : Sim N σ a w ob G) : OpRel G w ob a.eval σ.e' := by
  intro x ax av hx he
  cases x with
  | tmp t =>
    simp only [cx, Option.some.injEq] at hx
    subst hx
    simp only [St.e', St.ev] at he
    split at he
    · rename_i v hv
      simp only [Option.some.injEq] at he
      subst he
      obtain ⟨u, h1, h2⟩ := hs.env t v hv
      simp only [Act.eval]
      rw [getD_of h1]; exact h2
    · cases he
  | const v =>
    simp only [cx, Option.map_eq_some_iff] at hx
    obtain ⟨c, hc, rfl⟩ := hx
    simp only [St.e', St.ev, Option.some.injEq] at he
    subst he
    exact constAV_ok hc
  | func f =>
    simp only [cx, Option.some.injEq] at hx
    subst hx
    simp only [St.e', St.ev, Option.some.injEq] at he
    subst he
    exact .fn #[] #[] rfl rfl (fun j av h => by simp at h) (fun j av h => by simp at h)
  | global g => simp [cx] at hx

theorem Sim.put_true {a : Act} {w' : World} {ob' : Place} {G' : Nat → Prop} (hs : Sim N σ a w ob G) {dst : Option Nat} {r : Res} {v : Value}
    (hd : match dst with | some d => d < N | none => True)
    (ho : SimO G' w' ob' (wrm σ.objs r.wr)) (hr : ∀ av, r.val = some av → Rel G' w' ob' av v) (hob : OBext ob ob') (hfr : Fr G w ob G' w' ob') :
    Sim N (σ.put dst true r) (a.put dst v) w' ob' G' := by
  have hold : ∀ av v, Rel G w ob av v → Rel G' w' ob' av v := fun av v h => h.ext hfr.sub (fun b hb => hfr.same b (hs.objs.lt b hb) (.inl hb)) hob
  cases dst with
  | none => exact ⟨hs.size, hs.defers, ho, fun t av ht => let ⟨u, h1, h2⟩ := hs.env t av ht; ⟨u, h1, hold av u h2⟩, hs.env0⟩
  | some d =>
    refine ⟨by simp [Act.put, hs.size], hs.defers, ho, fun t av ht => ?_, fun t av ht => ?_⟩
    rotate_left
    · simp only [St.put] at ht
      by_cases htd : t = d
      · subst htd
        rw [upd_same] at ht
        cases hv : r.val <;> simp [hv] at ht
      · rw [upd_ne htd] at ht
        simp only [Act.put]; rw [Array.getElem?_setIfInBounds_ne (fun e => htd e.symm)]; exact hs.env0 t av ht
    simp only [St.put] at ht
    by_cases htd : t = d
    · subst htd
      rw [upd_same] at ht
      cases hv : r.val with
      | none => simp [hv] at ht
      | some av' =>
        simp only [hv, Option.some.injEq, Prod.mk.injEq, true_and] at ht
        subst ht
        have hlt : t < a.tmps.size := by rw [hs.size]; exact hd
        exact ⟨v, by simp [Act.put, hlt], hr av' hv⟩
    · rw [upd_ne htd] at ht
      obtain ⟨u, h1, h2⟩ := hs.env t av ht
      exact ⟨u, by simp only [Act.put]; rw [Array.getElem?_setIfInBounds_ne (fun e => htd e.symm)]; exact h1, hold av u h2⟩

theorem Sim.put_false (hs : Sim N σ a w ob G) {dst : Option Nat} {r : Res} (hd : match dst with | some d => d < N | none => True) (hw : r.wr = []) : Sim N (σ.put dst false r) (a.put dst undef) w ob G := by
  have ho : SimO G w ob (σ.put dst false r).objs := by simp only [St.put, hw]; exact hs.objs
  cases dst with
  | none => exact ⟨hs.size, hs.defers, ho, hs.env, hs.env0⟩
  | some d =>
    refine ⟨by simp [Act.put, hs.size], hs.defers, ho, fun t av ht => ?_, fun t av ht => ?_⟩
    rotate_left
    · simp only [St.put] at ht
      by_cases htd : t = d
      · subst htd
        have hlt : t < a.tmps.size := by rw [hs.size]; exact hd
        simp [Act.put, hlt]
      · rw [upd_ne htd] at ht
        simp only [Act.put]; rw [Array.getElem?_setIfInBounds_ne (fun e => htd e.symm)]; exact hs.env0 t av ht
    simp only [St.put] at ht
    by_cases htd : t = d
    · subst htd
      rw [upd_same] at ht
      cases hv : r.val <;> simp [hv] at ht
    · rw [upd_ne htd] at ht
      obtain ⟨u, h1, h2⟩ := hs.env t av ht
      exact ⟨u, by simp only [Act.put]; rw [Array.getElem?_setIfInBounds_ne (fun e => htd e.symm)]; exact h1, h2⟩

theorem cxs_spec : ∀ {l : List Operand} {al : List AX}, cxs l = some al → al.length = l.length ∧ ∀ (j : Nat) (x : Operand), l[j]? = some x → ∃ ax, al[j]? = some ax ∧ cx x = some ax
  | [], al, h => by simp only [cxs, Option.some.injEq] at h; subst h; exact ⟨rfl, fun j x h => by simp at h⟩
  | x :: l, al, h => by
    simp only [cxs] at h
    split at h
    · rename_i a al' h1 h2
      simp only [Option.some.injEq] at h
      subst h
      obtain ⟨h3, h4⟩ := cxs_spec h2
      refine ⟨by simp [h3], fun j y hj => ?_⟩
      cases j with
      | zero => simp only [List.getElem?_cons_zero, Option.some.injEq] at hj; subst hj; exact ⟨a, rfl, h1⟩
      | succ j => simp only [List.getElem?_cons_succ] at hj; exact h4 j y hj
    · cases h

theorem es_spec : ∀ {l : List AX} {vs : List AV}, σ.es l = some vs → vs.length = l.length ∧ ∀ (j : Nat) (av : AV), vs[j]? = some av → ∃ x, l[j]? = some x ∧ σ.e x = some av
  | [], vs, h => by simp only [St.es, Option.some.injEq] at h; subst h; exact ⟨rfl, fun j av h => by simp at h⟩
  | x :: l, vs, h => by
    simp only [St.es] at h
    split at h
    · rename_i v vs' h1 h2
      simp only [Option.some.injEq] at h
      subst h
      obtain ⟨h3, h4⟩ := es_spec h2
      refine ⟨by simp [h3], fun j y hj => ?_⟩
      cases j with
      | zero => simp only [List.getElem?_cons_zero, Option.some.injEq] at hj; subst hj; exact ⟨x, rfl, h1⟩
      | succ j => simp only [List.getElem?_cons_succ] at hj; exact h4 j y hj
    · cases h

theorem args_rel (hs : Sim N σ a w ob G) {l : List Operand} {al : List AX} {vs : List AV} (hc : cxs l = some al) (he : σ.es al = some vs) (hcc : ∀ x ∈ al, σ.c x = true) :
    RelL G w ob vs (l.map a.eval) := by
  obtain ⟨h1, h2⟩ := cxs_spec hc
  obtain ⟨h3, h4⟩ := es_spec he
  refine ⟨by simp [h1, h3], fun j av hj => ?_⟩
  obtain ⟨ax, h5, h6⟩ := h4 j av hj
  have hjl : j < l.length := by
    rw [← h1]; rcases Nat.lt_or_ge j al.length with h | h
    · exact h
    · rw [List.getElem?_eq_none h] at h5; cases h5
  obtain ⟨ax', h7, h8⟩ := h2 j l[j] (List.getElem?_eq_getElem hjl)
  rw [h5] at h7; injection h7 with h7; subst h7
  have := hs.opRel l[j] ax av h8 (by rw [← e_eq_e' (hcc ax (List.mem_of_getElem? h5))]; exact h6)
  simpa [List.getD, List.getElem?_eq_getElem hjl] using this

theorem relL_append {xs ys : List AV} {us vs : List Value} (h1 : RelL G w ob xs us) (h2 : RelL G w ob ys vs) : RelL G w ob (xs ++ ys) (us ++ vs) := by
  refine ⟨by simp [h1.1, h2.1], fun j av hj => ?_⟩
  by_cases hjl : j < xs.length
  · rw [List.getElem?_append_left hjl] at hj
    have := h1.2 j av hj
    simpa [List.getD, List.getElem?_append_left (show j < us.length by rw [h1.1]; exact hjl)] using this
  · rw [List.getElem?_append_right (by omega)] at hj
    have := h2.2 _ av hj
    simpa [List.getD, List.getElem?_append_right (show us.length ≤ j by rw [h1.1]; omega), h1.1] using this

theorem run_callFunc {f : FuncId} (h : callableB P f = true) (args : Array Value) : (callFunc f args).run P w = .ok (.enter f args) w := by
  unfold callableB at h
  unfold callFunc
  cases hf : P.funcs[f]? with
  | none => simp [hf] at h
  | some fn =>
    simp only [hf, Bool.and_eq_true, bne_iff_ne, ne_eq] at h
    obtain ⟨c, hc⟩ := Option.isSome_iff_exists.1 h.1
    have hn := h.2
    simp [hf, hc, hn]

theorem guard_wanted {ops : Array Oper} {o : Oper} {ao : AOper} (hs : Sim N σ a w ob G) (hc : coper P N ops o = some ao) {b : Bool} (hg : guardV σ ao.guard = some b) :
    Region.wanted o (yielded ops a.tmps) = b := by
  unfold coper at hc
  split at hc
  case h_2 => cases hc
  split at hc
  case isFalse => cases hc
  split at hc
  · rename_i hgd
    simp only [Option.some.injEq] at hc
    subst hc
    simp only [guardV, Option.some.injEq] at hg
    subst hg
    simp [Region.wanted, hgd]
  · rename_i j want hgd
    split at hc
    case h_2 => cases hc
    rename_i g hdst
    simp only [Option.some.injEq] at hc
    subst hc
    simp only [guardV] at hg
    split at hg
    case h_2 => cases hg
    rename_i c q hq
    simp only [Option.some.injEq] at hg
    subst hg
    cases c with
    | true =>
      obtain ⟨v, h1, h2⟩ := hs.env g _ hq
      have hv := h2.sc_eq
      subst hv
      simp only [Region.wanted, hgd, yielded, hdst, Option.bind_some, h1]
      cases q <;> cases want <;> rfl
    | false =>
      have h1 := hs.env0 g _ hq
      simp only [Region.wanted, hgd, yielded, hdst, Option.bind_some, h1, undef, Bool.false_and]
      rfl

theorem coper_parts {ops : Array Oper} {o : Oper} {ao : AOper} (hc : coper P N ops o = some ao) : copB P o.op = ao.op ∧ ao.dst = o.dst ∧ (match o.dst with | some d => d < N | none => True) := by
  unfold coper at hc
  split at hc
  case h_2 => cases hc
  rename_i aop hop
  split at hc
  case isFalse => cases hc
  rename_i hd
  have hdd : (match o.dst with | some d => d < N | none => True) := by
    cases ho : o.dst with
    | none => trivial
    | some d => rw [ho] at hd; simpa [dstOk] using hd
  split at hc
  · simp only [Option.some.injEq] at hc; subst hc; exact ⟨Option.some.inj hop, rfl, hdd⟩
  · split at hc
    · simp only [Option.some.injEq] at hc; subst hc; exact ⟨Option.some.inj hop, rfl, hdd⟩
    · cases hc

theorem cop_kind {op : Op} {aop : AOp} (h : cop P op = some aop) : (aop.isPick = true → ∃ c x y, op = .pick c x y) ∧ (aop.isCall = true → ∃ c, op = .call c) := by
  cases op <;> simp only [cop] at h
  case makeMap t rsv =>
    cases rsv <;> simp only at h
    · (repeat' split at h) <;> simp only [Option.some.injEq, reduceCtorEq] at h
      subst h; exact ⟨fun h => by simp [AOp.isPick] at h, fun h => by simp [AOp.isCall] at h⟩
    · cases h
  case pick c x y =>
    refine ⟨fun _ => ⟨c, x, y, rfl⟩, fun hc => ?_⟩
    split at h <;> simp only [Option.some.injEq, reduceCtorEq] at h
    subst h; simp [AOp.isCall] at hc
  case call c =>
    refine ⟨fun hp => ?_, fun _ => ⟨c, rfl⟩⟩
    (repeat' split at h) <;> simp only [Option.some.injEq, reduceCtorEq] at h <;> subst h <;> simp [AOp.isPick] at hp
  all_goals first
    | (cases h; done)
    | ((repeat' split at h) <;> first
        | (cases h; done)
        | (simp only [Option.some.injEq] at h; subst h; exact ⟨fun h => by simp [AOp.isPick] at h, fun h => by simp [AOp.isCall] at h⟩))

theorem target_isCall {op : AOp} {f : FuncId} {avs : List AV} (h : target σ op = some (f, avs)) : op.isCall = true := by
  cases op <;> first | rfl | (simp [target] at h; done)

/-- one operation -/
theorem does_ok {ops : Array Oper} {o : Oper} {ao : AOper} (hc : coper P N ops o = some ao) (hs : Sim N σ a w ob G) {b : Bool} {r : Res} (hd : Does P ao σ b r)
    {K : Act → World → Prop} {Q : Exit → Act → World → Prop}
    (hK : ∀ a' w' ob' G', Sim N (σ.put ao.dst b r) a' w' ob' G' → Fr G w ob G' w' ob' → OBext ob ob' → K a' w') :
    if Region.wanted o (yielded ops a.tmps) then o.wp P a w K Q else K (a.put o.dst undef) w := by
  obtain ⟨hop, hdst, hdN⟩ := coper_parts hc
  have hwr : r.wr ≠ [] → b = true := by cases hd <;> first | assumption | simp
  have hgv : guardV σ ao.guard = some b := by cases hd <;> assumption
  rw [guard_wanted hs hc hgv]
  cases b with
  | false =>
    rw [if_neg (by simp)]
    have hw : r.wr = [] := by
      cases h : r.wr with
      | nil => rfl
      | cons x l => have := hwr (by rw [h]; simp); cases this
    rw [← hdst]
    exact hK _ w ob G (hs.put_false (hdst ▸ hdN) hw) (Fr.refl G w ob) (OBext.refl ob)
  | true =>
    rw [if_pos rfl]
    have fin : OpOk P G w ob σ.objs (execOp a.eval o) r → o.wp P a w K Q := by
      rintro ⟨G', w', ob', v, hrun, h1, h2, h3, h4⟩
      have hsim := hs.put_true (dst := o.dst) (r := r) (v := v) hdN h1 h2 h3 h4
      rw [← hdst] at hsim
      unfold Oper.wp
      rcases hrun with hrun | ⟨hrun, rfl⟩
      · rw [hrun]; simp only [Oper.upon]; rw [← hdst]; exact hK _ w' ob' G' hsim h4 h3
      · rw [hrun]; simp only [Oper.upon]; rw [← hdst]; exact hK _ w' ob' G' hsim h4 h3
    have hop' : cop P o.op = some ao.op := by
      unfold copB at hop
      split at hop
      · rename_i a ha; rw [ha, hop]
      · exfalso
        cases hd with
        | op _ p r hg hb hcc hp hw => rw [← hop] at hb; simp [eval] at hb
        | pick _ c x y q p1 p2 c1 c2 cc ho => rw [← hop] at ho; cases ho
        | call _ f avs r hg ht => rw [← hop] at ht; simp [target] at ht
    replace hop := hop'
    cases hd with
    | op _ p r hg hb hcc hp hw =>
      have hcc' := allC_spec hcc
      have hb' : eval ao.op σ.e' σ.objs (ao.dst.getD 0) = some (p, r) := by
        rw [← eval_congr (fun x hx => e_eq_e' (hcc' x hx))]; exact hb
      refine fin (cop_ok hop ?_ ?_ (fun _ => rfl) hs.objs hs.opRel hb' (hp rfl))
      · cases hao : ao.op <;> simp_all [eval, AOp.isCall]
      · cases hao : ao.op <;> simp_all [eval, AOp.isPick]
    | pick _ c x y q p1 p2 c1 c2 cc ho hg hq hx hy hcc =>
      obtain ⟨hct, hc1, hc2⟩ := hcc rfl
      rw [ho] at hop
      obtain ⟨dst, op, type, pos, after, guard⟩ := o
      -- the model's operation is the pick itself
      have key : ∃ c' x' y', op = .pick c' x' y' ∧ cx c' = some c ∧ cx x' = some x ∧ cx y' = some y := by
        simp only at hop
        obtain ⟨c', x', y', rfl⟩ := (cop_kind hop).1 rfl
        simp only [cop] at hop
        split at hop
        · rename_i h1 h2 h3
          simp only [Option.some.injEq, AOp.pick.injEq] at hop
          obtain ⟨rfl, rfl, rfl⟩ := hop
          exact ⟨c', x', y', rfl, h1, h2, h3⟩
        · cases hop
      obtain ⟨c', x', y', rfl, h1, h2, h3⟩ := key
      have hcv : a.eval c' = .bool q := (hs.opRel c' c (.sc (.bool q)) h1 (by simp [St.e', hq, hct])).sc_eq
      refine fin (OpOk.quiet hs.objs (v := .bool (if q then p1 else p2)) ?_ (.sc rfl))
      cases q with
      | true =>
        have hxv : a.eval x' = .bool p1 := (hs.opRel x' x (.sc (.bool p1)) h2 (by simp [St.e', hx rfl, hc1 rfl])).sc_eq
        simp [execOp, hcv, hxv, asBool]
      | false =>
        have hyv : a.eval y' = .bool p2 := (hs.opRel y' y (.sc (.bool p2)) h3 (by simp [St.e', hy rfl, hc2 rfl])).sc_eq
        simp [execOp, hcv, hyv, asBool]
    | call _ f avs r hg ht hcc hdd hw =>
      have hcd := hdd rfl
      have hcc' := allC_spec hcc
      obtain ⟨dst, op, type, pos, after, guard⟩ := o
      have key : ∃ vals : List Value, (execOp a.eval ⟨dst, op, type, pos, after, guard⟩).run P w = .ok (.enter f vals.toArray) w ∧ RelL G w ob avs vals := by
        simp only at hop
        have hcall := hcd.callable
        obtain ⟨cl, rfl⟩ := (cop_kind hop).2 (target_isCall ht)
        simp only [cop] at hop
        obtain ⟨callee, args, argTypes⟩ := cl
        obtain ⟨args⟩ := args
        obtain ⟨argTypes⟩ := argTypes
        simp only at hop
        split at hop
        · exfalso; split at hop <;> simp only [Option.some.injEq, reduceCtorEq] at hop <;> (rw [← hop] at ht; simp [target] at ht)
        · exfalso
          split at hop
          · split at hop
            · split at hop
              · split at hop
                · simp only [Option.some.injEq] at hop; rw [← hop] at ht; simp [target] at ht
                · cases hop
              · cases hop
            · cases hop
          · cases hop
        · exfalso; split at hop <;> simp only [Option.some.injEq, reduceCtorEq] at hop; rw [← hop] at ht; simp [target] at ht
        · exfalso; split at hop <;> simp only [Option.some.injEq, reduceCtorEq] at hop; rw [← hop] at ht; simp [target] at ht
        · -- a call by name
          split at hop
          case h_2 => cases hop
          split at hop
          case isFalse => cases hop
          split at hop
          case h_2 => cases hop
          rename_i al hal
          simp only [Option.some.injEq] at hop
          rw [← hop] at ht hcc'
          simp only [target] at ht
          split at ht
          case h_2 => cases ht
          rename_i vs hvs
          simp only [Option.some.injEq, Prod.mk.injEq] at ht
          obtain ⟨rfl, rfl⟩ := ht
          refine ⟨args.map a.eval, ?_, args_rel hs hal hvs hcc'⟩
          simp [execOp, resolve, Act.eval, Deferred.ofValue, invoke, run_callFunc hcall]
        · -- a call through a value
          rename_i x _
          split at hop
          case h_2 => cases hop
          rename_i ax al hax hal
          simp only [Option.some.injEq] at hop
          rw [← hop] at ht hcc'
          simp only [target] at ht
          split at ht
          case h_2 => cases ht
          rename_i f' first cap vs hfv hvs
          simp only [Option.some.injEq, Prod.mk.injEq] at ht
          obtain ⟨rfl, rfl⟩ := ht
          have hxr := hs.opRel x ax _ hax (by rw [← e_eq_e' (hcc' ax (by simp [AOp.ops]))]; exact hfv)
          have har := args_rel hs hal hvs (fun x hx => hcc' x (by simp [AOp.ops, hx]))
          generalize hxv : a.eval x = xv at hxr
          cases hxr with
          | fn fs us hn hm hr hq =>
            refine ⟨fs.toList ++ args.map a.eval ++ us.toList, ?_, relL_append (relL_append ⟨by simp [hn], fun j av hj => by simpa using hr j av hj⟩ har) ⟨by simp [hm], fun j av hj => by simpa using hq j av hj⟩⟩
            simp [execOp, resolve, hxv, Deferred.ofValue, invoke, run_callFunc hcall]
        · cases hop
      obtain ⟨vals, hrun, hrel⟩ := key
      unfold Oper.wp
      rw [hrun]
      simp only [Oper.upon]
      refine (callDoes_ok hcd hs.objs hrel).mono ?_
      rintro e w' ⟨v, G', ob', rfl, h1, h2, h3, h4⟩
      have hsim := hs.put_true (dst := dst) (r := r) (v := v) hdN h1 h2 h3 h4
      simp only at hdst
      rw [← hdst] at hsim ⊢
      exact hK _ w' ob' G' hsim h4 h3
end
end Go.Abs
