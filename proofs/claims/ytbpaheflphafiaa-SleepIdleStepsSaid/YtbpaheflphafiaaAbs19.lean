/- The abstract layer, part 19: code, what remains to be shown of it, and contracts from it. -/
import Derived.Test.YtbpaheflphafiaaAbs18
set_option linter.unusedSimpArgs false
set_option linter.unusedVariables false
set_option linter.unnecessarySimpa false
namespace Go.Abs

inductive ACode where
  | skip
  | region (draw : Bool) (ops : List AOper)
  | seq (a b : ACode)
  | cond (c : AX) (a b : ACode)
  | block (id : Nat) (a : ACode)
  | loop (a : ACode)
  | exit (id : Nat)
  | ret
  | mark (a : ACode)

/-- marks are no code -/
def ACode.strip : ACode → ACode
  | .seq a b => .seq a.strip b.strip
  | .cond c a b => .cond c a.strip b.strip
  | .block id a => .block id a.strip
  | .loop a => .loop a.strip
  | .mark a => a.strip
  | c => c

def compile (P : Program) (N : Nat) : Code → Option ACode
  | .skip => some .skip
  | .region _ ops draw => match cregion P N ops draw with
    | some as => some (.region draw as)
    | none => none
  | .seq a b => match compile P N a, compile P N b with
    | some x, some y => some (.seq x y)
    | _, _ => none
  | .cond c a b => match cx c, compile P N a, compile P N b with
    | some k, some x, some y => some (.cond k x y)
    | _, _, _ => none
  | .block id a => match compile P N a with
    | some x => some (.block id x)
    | none => none
  | .loop a => match compile P N a with
    | some x => some (.loop x)
    | none => none
  | .exit id => some (.exit id)
  | .label _ => some .skip
  | .ret => some .ret
  | _ => none

inductive Out where
  | normal | exit (id : Nat) | ret

def Out.then (a : St → Prop) (Q : Out → St → Prop) : Out → St → Prop
  | .normal, σ => a σ
  | .exit i, σ => Q (.exit i) σ
  | .ret, σ => Q .ret σ
def Out.inBlock (id : Nat) (Q : Out → St → Prop) : Out → St → Prop
  | .normal, σ => Q .normal σ
  | .exit i, σ => if i = id then Q .normal σ else Q (.exit i) σ
  | .ret, σ => Q .ret σ

@[congr] theorem Out.then_congr {a : St → Prop} {Q : Out → St → Prop} {o o' : Out} {σ σ' : St} (h : o = o') (hs : σ = σ') : Out.then a Q o σ = Out.then a Q o' σ' := by rw [h, hs]
@[congr] theorem Out.inBlock_congr {id : Nat} {Q : Out → St → Prop} {o o' : Out} {σ σ' : St} (h : o = o') (hs : σ = σ') : Out.inBlock id Q o σ = Out.inBlock id Q o' σ' := by rw [h, hs]

def Out.exit' : Out → Exit
  | .normal => .normal
  | .exit i => .exit i
  | .ret => .ret

/-- where a walk began -/
structure Start where
  G : Nat → Prop
  w : World
  ob : Place

structure Since (K : List Nat) (Γ : Start) (G : Nat → Prop) (w : World) (ob : Place) : Prop where
  fr : Fr Γ.G Γ.w Γ.ob G w ob
  ext : OBx (· ∈ K) Γ.ob ob

def lift (K : List Nat) (N : Nat) (Γ : Start) (Q : Out → St → Prop) : Exit → Act → World → Prop := fun e a w =>
  ∃ o σ ob G, e = Out.exit' o ∧ Q o σ ∧ Sim N σ a w ob G ∧ Since K Γ G w ob

/-- from the state σ the code comes to Q -/
def Wp (P : Program) (N : Nat) (K : List Nat) (ac : ACode) (Q : Out → St → Prop) (σ : St) : Prop :=
  ∀ c, compile P N c = some ac.strip → ∀ (Γ : Start) (a : Act) (w : World) (ob : Place) (G : Nat → Prop), Sim N σ a w ob G → Since K Γ G w ob → c.wp P (lift K N Γ Q) a w

/-- the same, worked out as far as code without loops goes -/
def W (P : Program) (N : Nat) (K : List Nat) : ACode → (Out → St → Prop) → St → Prop
  | .skip, Q, σ => Q .normal σ
  | .region false ops, Q, σ => wseq P ops (Q .normal) σ
  | .region true ops, Q, σ => wany P ops [] (Q .normal) σ
  | .seq a b, Q, σ => W P N K a (Out.then (W P N K b Q) Q) σ
  | .cond c a b, Q, σ => match σ.ev c with
    | some (true, .sc (.bool t)) => if t = true then W P N K a Q σ else W P N K b Q σ
    | _ => False
  | .block id a, Q, σ => W P N K a (Out.inBlock id Q) σ
  | .loop a, Q, σ => Wp P N K (.loop a) Q σ
  | .exit id, Q, σ => Q (.exit id) σ
  | .ret, Q, σ => Q .ret σ
  | .mark a, Q, σ => Wp P N K a Q σ

@[congr] theorem W_congr {P : Program} {N : Nat} {K : List Nat} {c : ACode} {Q : Out → St → Prop} {σ σ' : St} (h : σ = σ') : W P N K c Q σ = W P N K c Q σ' := by rw [h]
@[congr] theorem Wp_congr {P : Program} {N : Nat} {K : List Nat} {c : ACode} {Q : Out → St → Prop} {σ σ' : St} (h : σ = σ') : Wp P N K c Q σ = Wp P N K c Q σ' := by rw [h]

/-- for some renaming -/
def WeakE (K : List Nat) (σ : St) (T : Slots) (O : List (Nat × AObj)) : Prop := ∃ ρ A, WeakS K σ ρ A T O

section
variable {P : Program} {N : Nat} {K : List Nat}

theorem OBx.trans {K : Nat → Prop} {o1 o2 o3 : Place} (h : OBx K o1 o2) (h' : OBx K o2 o3) : OBx K o1 o3 := by
  intro id i hk hi
  obtain ⟨i', hi', h1⟩ := h id i hk hi
  obtain ⟨i'', hi'', h2⟩ := h' id i' hk hi'
  refine ⟨i'', hi'', ?_⟩
  rcases h1 with rfl | ⟨h1, m1⟩
  · exact h2
  · rcases h2 with rfl | ⟨h2, m2⟩
    · exact .inr ⟨h1, m1⟩
    · exact .inr ⟨Nat.lt_trans h1 h2, m1⟩

theorem Since.step {Γ : Start} {G G' : Nat → Prop} {w w' : World} {ob ob' : Place} (h : Since K Γ G w ob) (hf : Fr G w ob G' w' ob') (he : OBext ob ob') : Since K Γ G' w' ob' :=
  ⟨h.fr.trans hf, h.ext.trans fun id i _ hi => he id i hi⟩

theorem Wp.mono {ac : ACode} {Q Q' : Out → St → Prop} {σ : St} (h : Wp P N K ac Q σ) (hq : ∀ o σ, Q o σ → Q' o σ) : Wp P N K ac Q' σ :=
  fun c hc Γ a w ob G hs hΓ => wp_mono (h c hc Γ a w ob G hs hΓ) fun _ _ _ ⟨o, σ, ob, G, h1, h2, h3, h4⟩ => ⟨o, σ, ob, G, h1, hq o σ h2, h3, h4⟩

theorem Wp.of_W (hm : P.follows .mixedOrders = true) : ∀ (ac : ACode) {Q : Out → St → Prop} {σ : St}, W P N K ac Q σ → Wp P N K ac Q σ
  | .skip, Q, σ, h => fun c hc Γ a w ob G hs hΓ => by
    have hn : lift K N Γ Q .normal a w := ⟨.normal, σ, ob, G, rfl, h, hs, hΓ⟩
    cases c <;> simp only [compile, ACode.strip, Option.some.injEq, reduceCtorEq] at hc
    case skip => exact wp_skip hn
    case label => exact wp_label hn
    all_goals (repeat' split at hc) <;> simp at hc
  | .region d ops, Q, σ, h => fun c hc Γ a w ob G hs hΓ => by
    cases c <;> simp only [compile, ACode.strip, Option.some.injEq, reduceCtorEq] at hc
    case region id os draw =>
      split at hc
      · rename_i as has
        simp only [Option.some.injEq, ACode.region.injEq] at hc
        obtain ⟨rfl, rfl⟩ := hc
        cases draw with
        | true => exact wregion_any hm has hs h fun τ a' w' ob' G' hq s f e => ⟨.normal, τ, ob', G', rfl, hq, s, hΓ.step f e⟩
        | false =>
          unfold cregion at has
          split at has
          · rename_i as' hcop
            simp only [Bool.false_eq_true, if_false, Option.some.injEq] at has
            subst has
            refine wp_region ?_
            have := wseq_ok (Q := Q .normal) (R := lift K N Γ Q) os.toList as' 0 σ a w ob G hcop (fun i o hi => by simpa using hi) hs h
              (fun τ a' w' ob' G' hq s f e => ⟨.normal, τ, ob', G', rfl, hq, s, hΓ.step f e⟩)
            rw [List.range_eq_range']; simpa using this
          · cases has
      · cases hc
    all_goals (repeat' split at hc) <;> simp at hc
  | .seq x y, Q, σ, h => fun c hc Γ a w ob G hs hΓ => by
    cases c <;> simp only [compile, ACode.strip, Option.some.injEq, reduceCtorEq] at hc
    case seq c1 c2 =>
      split at hc
      · rename_i x' y' h1 h2
        simp only [Option.some.injEq, ACode.seq.injEq] at hc
        obtain ⟨rfl, rfl⟩ := hc
        refine wp_seq (wp_mono (Wp.of_W hm x h c1 h1 Γ a w ob G hs hΓ) ?_)
        rintro e a' w' ⟨o, τ, ob', G', rfl, hq, s, hΓ'⟩
        cases o with
        | normal => exact Wp.of_W hm y hq c2 h2 Γ a' w' ob' G' s hΓ'
        | exit i => exact ⟨.exit i, τ, ob', G', rfl, hq, s, hΓ'⟩
        | ret => exact ⟨.ret, τ, ob', G', rfl, hq, s, hΓ'⟩
      · cases hc
    all_goals (repeat' split at hc) <;> simp at hc
  | .cond k x y, Q, σ, h => fun c hc Γ a w ob G hs hΓ => by
    cases c <;> simp only [compile, ACode.strip, Option.some.injEq, reduceCtorEq] at hc
    case cond c0 c1 c2 =>
      split at hc
      · rename_i k' x' y' h0 h1 h2
        simp only [Option.some.injEq, ACode.cond.injEq] at hc
        obtain ⟨rfl, rfl, rfl⟩ := hc
        simp only [W] at h
        split at h
        · rename_i t ht
          have hv : a.eval c0 = .bool t := (hs.opRel c0 k' (.sc (.bool t)) h0 (by simp [St.e', ht])).sc_eq
          refine wp_cond hv ?_
          cases t with
          | true => rw [if_pos rfl] at h; exact Wp.of_W hm x h c1 h1 Γ a w ob G hs hΓ
          | false => rw [if_neg (by simp)] at h; exact Wp.of_W hm y h c2 h2 Γ a w ob G hs hΓ
        · exact h.elim
      · cases hc
    all_goals (repeat' split at hc) <;> simp at hc
  | .block id x, Q, σ, h => fun c hc Γ a w ob G hs hΓ => by
    cases c <;> simp only [compile, ACode.strip, Option.some.injEq, reduceCtorEq] at hc
    case block id' c1 =>
      split at hc
      · rename_i x' h1
        simp only [Option.some.injEq, ACode.block.injEq] at hc
        obtain ⟨rfl, rfl⟩ := hc
        refine wp_block (wp_mono (Wp.of_W hm x h c1 h1 Γ a w ob G hs hΓ) ?_)
        rintro e a' w' ⟨o, τ, ob', G', rfl, hq, s, hΓ'⟩
        cases o with
        | normal => exact ⟨.normal, τ, ob', G', rfl, hq, s, hΓ'⟩
        | exit i =>
          simp only [Out.exit', Exit.inBlock]
          simp only [Out.inBlock] at hq
          split
          · rename_i e; rw [if_pos e] at hq; exact ⟨.normal, τ, ob', G', rfl, hq, s, hΓ'⟩
          · rename_i e; rw [if_neg e] at hq; exact ⟨.exit i, τ, ob', G', rfl, hq, s, hΓ'⟩
        | ret => exact ⟨.ret, τ, ob', G', rfl, hq, s, hΓ'⟩
      · cases hc
    all_goals (repeat' split at hc) <;> simp at hc
  | .loop x, Q, σ, h => h
  | .exit id, Q, σ, h => fun c hc Γ a w ob G hs hΓ => by
    cases c <;> simp only [compile, ACode.strip, Option.some.injEq, reduceCtorEq] at hc
    case exit id' =>
      simp only [ACode.exit.injEq] at hc; subst hc
      exact wp_exit ⟨.exit id', σ, ob, G, rfl, h, hs, hΓ⟩
    all_goals (repeat' split at hc) <;> simp at hc
  | .ret, Q, σ, h => fun c hc Γ a w ob G hs hΓ => by
    cases c <;> simp only [compile, ACode.strip, Option.some.injEq, reduceCtorEq] at hc
    case ret => exact wp_ret ⟨.ret, σ, ob, G, rfl, h, hs, hΓ⟩
    all_goals (repeat' split at hc) <;> simp at hc
  | .mark x, Q, σ, h => fun c hc => h c hc

/-- a state may be looked at more weakly -/
theorem Wp.weak {ac : ACode} {Q : Out → St → Prop} {σ : St} {T : Slots} {O : List (Nat × AObj)} (h : WeakE K σ T O) (hw : Wp P N K ac Q (stOf T O)) : Wp P N K ac Q σ := by
  intro c hc Γ a w ob G hs hΓ
  obtain ⟨ρ, A, h⟩ := h
  obtain ⟨ob2, G2, h1, h2, h3⟩ := weak_ok hs h
  exact hw c hc Γ a w ob2 G2 h1 ⟨hΓ.fr.trans h2, hΓ.ext.trans fun id i hk hi => ⟨i, by rw [h3 id hk]; exact hi, .inl rfl⟩⟩

theorem Wp.seq {x y : ACode} {Q : Out → St → Prop} {σ : St} (h : Wp P N K x (Out.then (Wp P N K y Q) Q) σ) : Wp P N K (.seq x y) Q σ := by
  intro c hc Γ a w ob G hs hΓ
  cases c <;> simp only [compile, ACode.strip, Option.some.injEq, reduceCtorEq] at hc
  case seq c1 c2 =>
    split at hc
    · rename_i x' y' h1 h2
      simp only [Option.some.injEq, ACode.seq.injEq] at hc
      obtain ⟨rfl, rfl⟩ := hc
      refine wp_seq (wp_mono (h c1 h1 Γ a w ob G hs hΓ) ?_)
      rintro e a' w' ⟨o, τ, ob', G', rfl, hq, s, hΓ'⟩
      cases o with
      | normal => exact hq c2 h2 Γ a' w' ob' G' s hΓ'
      | exit i => exact ⟨.exit i, τ, ob', G', rfl, hq, s, hΓ'⟩
      | ret => exact ⟨.ret, τ, ob', G', rfl, hq, s, hΓ'⟩
    · cases hc
  all_goals (repeat' split at hc) <;> simp at hc

theorem Wp.block {id : Nat} {x : ACode} {Q : Out → St → Prop} {σ : St} (h : Wp P N K x (Out.inBlock id Q) σ) : Wp P N K (.block id x) Q σ := by
  intro c hc Γ a w ob G hs hΓ
  cases c <;> simp only [compile, ACode.strip, Option.some.injEq, reduceCtorEq] at hc
  case block id' c1 =>
    split at hc
    · rename_i x' h1
      simp only [Option.some.injEq, ACode.block.injEq] at hc
      obtain ⟨rfl, rfl⟩ := hc
      refine wp_block (wp_mono (h c1 h1 Γ a w ob G hs hΓ) ?_)
      rintro e a' w' ⟨o, τ, ob', G', rfl, hq, s, hΓ'⟩
      cases o with
      | normal => exact ⟨.normal, τ, ob', G', rfl, hq, s, hΓ'⟩
      | exit i =>
        simp only [Out.exit', Exit.inBlock]
        simp only [Out.inBlock] at hq
        split
        · rename_i e; rw [if_pos e] at hq; exact ⟨.normal, τ, ob', G', rfl, hq, s, hΓ'⟩
        · rename_i e; rw [if_neg e] at hq; exact ⟨.exit i, τ, ob', G', rfl, hq, s, hΓ'⟩
      | ret => exact ⟨.ret, τ, ob', G', rfl, hq, s, hΓ'⟩
    · cases hc
  all_goals (repeat' split at hc) <;> simp at hc

/-- a loop: a family of states at its head, and a measure -/
theorem Wp.loop {x : ACode} {Q : Out → St → Prop} {σ : St} {ι : Type} (T : ι → Slots) (O : ι → List (Nat × AObj)) (μ : ι → Nat) (i0 : ι) (h0 : WeakE K σ (T i0) (O i0))
    (h : ∀ i, Wp P N K x (Out.then (fun τ => ∃ i', μ i' < μ i ∧ WeakE K τ (T i') (O i')) Q) (stOf (T i) (O i))) : Wp P N K (.loop x) Q σ := by
  intro c hc Γ a w ob G hs hΓ
  cases c <;> simp only [compile, ACode.strip, Option.some.injEq, reduceCtorEq] at hc
  case loop c1 =>
    split at hc
    · rename_i x' h1
      simp only [Option.some.injEq, ACode.loop.injEq] at hc
      obtain rfl := hc
      have enter : ∀ (τ : St) (a' : Act) (w' : World) (ob' : Place) (G' : Nat → Prop) (i : ι), WeakE K τ (T i) (O i) → Sim N τ a' w' ob' G' → Since K Γ G' w' ob' →
          ∃ ob2 G2, Sim N (stOf (T i) (O i)) a' w' ob2 G2 ∧ Since K Γ G2 w' ob2 := by
        rintro τ a' w' ob' G' i ⟨ρ, A, hw⟩ s hΓ'
        obtain ⟨ob2, G2, g1, g2, g3⟩ := weak_ok s hw
        exact ⟨ob2, G2, g1, hΓ'.fr.trans g2, hΓ'.ext.trans fun id j hk hi => ⟨j, by rw [g3 id hk]; exact hi, .inl rfl⟩⟩
      intro b k cs
      have key : ∀ n i, μ i = n → ∀ (a' : Act) (w' : World) (ob' : Place) (G' : Nat → Prop), Sim N (stOf (T i) (O i)) a' w' ob' G' → Since K Γ G' w' ob' →
          ∃ e a2 w2, lift K N Γ Q e a2 w2 ∧ Arrives P (lone (b.at a' (.code c1 :: .inLoop c1 :: k)) cs w') b k cs e a2 w2 := by
        intro n
        induction n using Nat.strongRecOn with
        | _ n ih =>
          intro i hn a' w' ob' G' hs' hΓ'
          obtain ⟨e, a1, w1, hq, harr⟩ := h i c1 h1 Γ a' w' ob' G' hs' hΓ' b (.inLoop c1 :: k) cs
          obtain ⟨o, τ, ob1, G1, rfl, hq, s, hΓ1⟩ := hq
          cases o with
          | normal =>
            obtain ⟨i', hlt, hw⟩ := hq
            obtain ⟨ob2, G2, s2, hΓ2⟩ := enter τ a1 w1 ob1 G1 i' hw s hΓ1
            obtain ⟨e2, a2, w2, hq2, harr2⟩ := ih (μ i') (hn ▸ hlt) i' rfl a1 w1 ob2 G2 s2 hΓ2
            exact ⟨e2, a2, w2, hq2, .of_steps (Steps.trans harr (.one step_inLoop)) harr2⟩
          | exit id => exact ⟨.exit id, a1, w1, ⟨.exit id, τ, ob1, G1, rfl, hq, s, hΓ1⟩, .pass (x := .inLoop c1) rfl (fun _ _ => .inl (by simp)) harr⟩
          | ret => exact ⟨.ret, a1, w1, ⟨.ret, τ, ob1, G1, rfl, hq, s, hΓ1⟩, .pass (x := .inLoop c1) rfl (fun _ _ => .inl (by simp)) harr⟩
      obtain ⟨ob2, G2, s2, hΓ2⟩ := enter σ a w ob G i0 h0 hs hΓ
      obtain ⟨e, a', w', hq, harr⟩ := key _ i0 rfl a w ob2 G2 s2 hΓ2
      exact ⟨e, a', w', hq, .of_steps (.one step_loop) harr⟩
    · cases hc
  all_goals (repeat' split at hc) <;> simp at hc
end
end Go.Abs
