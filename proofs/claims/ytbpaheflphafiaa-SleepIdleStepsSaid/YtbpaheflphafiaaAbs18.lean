/- The abstract layer, part 18: a state, looked at more weakly: at a loop's head and at a return. -/
import Derived.Test.YtbpaheflphafiaaAbs17
set_option linter.unusedSimpArgs false
set_option linter.unusedVariables false
set_option linter.unnecessarySimpa false
namespace Go.Abs

/-- c' says no more than c -/
structure AVle (c c' : AV) : Prop where
  rel : ∀ G w ob v, Rel G w ob c v → Rel G w ob c' v
  flat : c.flat = true → c'.flat = true
  pure : c.pure = true → c'.pure = true
  one : c.one = true → c'.one = true

def AVleL : List AV → List AV → Prop
  | [], [] => True
  | a :: as, b :: bs => AVle a b ∧ AVleL as bs
  | _, _ => False

theorem AVle.refl (c : AV) : AVle c c := ⟨fun _ _ _ _ h => h, id, id, id⟩
theorem AVle.of_eq {c c' : AV} (h : c = c') : AVle c c' := h ▸ AVle.refl c

theorem AVleL.refl : ∀ (l : List AV), AVleL l l
  | [] => trivial
  | a :: l => ⟨AVle.refl a, AVleL.refl l⟩
theorem AVleL.of_eq {l l' : List AV} (h : l = l') : AVleL l l' := h ▸ AVleL.refl l

theorem AVleL.get : ∀ {l l' : List AV}, AVleL l l' → l'.length = l.length ∧ ∀ (j : Nat) (b : AV), l'[j]? = some b → ∃ a, l[j]? = some a ∧ AVle a b
  | [], [], _ => ⟨rfl, fun j b h => by simp at h⟩
  | a :: l, b :: l', h => by
    obtain ⟨h1, h2⟩ := AVleL.get h.2
    refine ⟨by simp [h1], fun j b' hj => ?_⟩
    cases j with
    | zero => simp only [List.getElem?_cons_zero, Option.some.injEq] at hj; subst hj; exact ⟨a, rfl, h.1⟩
    | succ j => simp only [List.getElem?_cons_succ] at hj; exact h2 j b' hj
  | [], _ :: _, h => h.elim
  | _ :: _, [], h => h.elim

theorem AVle.dsl {z n : Nat} {g g' : Nat → List AV} (h : ∀ i, i < n → AVleL (g i) (g' i)) : AVle (.dsl z n g) (.dsl z n g') := by
  refine ⟨fun G w ob v hr => ?_, id, id, id⟩
  cases hr with
  | dslNil => exact .dslNil
  | dslE a cap => exact .dslE a cap
  | dsl b off cap c hG hcap hlen hp hc hr =>
    refine .dsl b off cap c hG hcap (fun i hi => by rw [(h i hi).get.1]; exact hlen i hi) (fun i j av hi hj => ?_) hc (fun i j av hi hj => ?_)
    · obtain ⟨a, ha, hle⟩ := (h i hi).get.2 j av hj; exact hle.pure (hp i j a hi ha)
    · obtain ⟨a, ha, hle⟩ := (h i hi).get.2 j av hj; exact hle.rel _ _ _ _ (hr i j a hi ha)

theorem AVle.dslx {z n : Nat} {g g' : Nat → List AV} (h : ∀ i, i < n → AVleL (g i) (g' i)) : AVle (.dslx z n g) (.dslx z n g') := by
  refine ⟨fun G w ob v hr => ?_, id, id, id⟩
  cases hr with
  | dslxNil => exact .dslxNil
  | dslxE a => exact .dslxE a
  | dslx b off c hG hlen hp hc hr =>
    refine .dslx b off c hG (fun i hi => by rw [(h i hi).get.1]; exact hlen i hi) (fun i j av hi hj => ?_) hc (fun i j av hi hj => ?_)
    · obtain ⟨a, ha, hle⟩ := (h i hi).get.2 j av hj; exact hle.pure (hp i j a hi ha)
    · obtain ⟨a, ha, hle⟩ := (h i hi).get.2 j av hj; exact hle.rel _ _ _ _ (hr i j a hi ha)

theorem AVle.dslx_dsl {z n : Nat} {g : Nat → List AV} : AVle (.dslx z n g) (.dsl z n g) := by
  refine ⟨fun G w ob v hr => ?_, fun _ => rfl, fun _ => rfl, fun _ => rfl⟩
  cases hr with
  | dslxNil => exact .dslNil
  | dslxE a => exact .dslE a 0
  | dslx b off c hG hlen hp hc hr => exact .dsl b off n c hG (Nat.le_refl n) hlen hp hc hr

/-- a nil slice is an empty one -/
theorem AVle.nil {z : Nat} {g : Nat → List AV} : AVle (.sc (.slice none 0 0)) (.dsl z 0 g) := by
  refine ⟨fun G w ob v hr => ?_, fun _ => rfl, fun _ => rfl, fun _ => rfl⟩
  have := hr.sc_eq; subst this; exact .dslNil

theorem AVle.trans {a b c : AV} (h : AVle a b) (h' : AVle b c) : AVle a c :=
  ⟨fun G w ob v hr => h'.rel G w ob v (h.rel G w ob v hr), fun x => h'.flat (h.flat x), fun x => h'.pure (h.pure x), fun x => h'.one (h.one x)⟩

theorem AVle.agg {cs cs' : List AV} (h : AVleL cs cs') : AVle (.agg cs) (.agg cs') := by
  refine ⟨fun G w ob v hr => ?_, fun hf => ?_, fun hp => (by simp [AV.pure] at hp), fun hp => (by simp [AV.one] at hp)⟩
  · cases hr with
    | agg vs hn ho hrr =>
      refine .agg vs (by rw [hn, h.get.1]) (fun j av hj => ?_) (fun j av hj => ?_)
      · obtain ⟨a, ha, hle⟩ := h.get.2 j av hj; exact hle.one (ho j a ha)
      · obtain ⟨a, ha, hle⟩ := h.get.2 j av hj; exact hle.rel _ _ _ _ (hrr j a ha)
  · simp only [AV.flat, List.all_eq_true] at hf ⊢
    intro av hav
    obtain ⟨j, hj⟩ := List.getElem?_of_mem hav
    obtain ⟨a, ha, hle⟩ := h.get.2 j av hj
    exact hle.pure (hf a (List.mem_of_getElem? ha))

structure ObjLe (o o' : AObj) : Prop where
  rel : ∀ G w ob i, ObjRel G w ob i o → ObjRel G w ob i o'
  owned : o'.owned = true → o.owned = true

theorem ObjLe.refl (o : AObj) : ObjLe o o := ⟨fun _ _ _ _ h => h, id⟩
theorem ObjLe.of_eq {o o' : AObj} (h : o = o') : ObjLe o o' := h ▸ ObjLe.refl o

theorem InRow.le {G : Nat → Prop} {w : World} {ob : Place} {arr : Array Value} {z : Nat} {s s' : Sq} (h : InRow G w ob arr z s) (hn : s.n = s'.n) (hg : ∀ i, i < s.n → AVleL (s.g i) (s'.g i)) : InRow G w ob arr z s' := by
  refine ⟨fun i hi => ?_, fun i j av hi hj => ?_⟩
  · rw [← hn] at hi; rw [(hg i hi).get.1]; exact h.1 i hi
  · rw [← hn] at hi
    obtain ⟨a, ha, hle⟩ := (hg i hi).get.2 j av hj
    obtain ⟨h1, v, h2, h3⟩ := h.2 i j a hi ha
    exact ⟨hle.pure h1, v, h2, hle.rel _ _ _ _ h3⟩

theorem ObjLe.arr {z : Nat} {s s' : Sq} (hn : s.n = s'.n) (hg : ∀ i, i < s.n → AVleL (s.g i) (s'.g i)) : ObjLe (.arr z s) (.arr z s') := by
  refine ⟨fun G w ob i h => ?_, fun _ => rfl⟩
  obtain ⟨h0, h00, h1, h2, h3⟩ := h
  refine ⟨h0, h00, by rw [h1, hn], by rw [← hn]; exact h2, ?_⟩
  rcases h3 with ⟨h3, h4, h5⟩ | ⟨b, arr, T, h3, h4, h5, h6⟩
  · exact .inl ⟨h3, by rw [← hn]; exact h4, h5⟩
  · exact .inr ⟨b, arr, T, h3, h4, h5, h6.le hn hg⟩

theorem ObjLe.frz {z : Nat} {s s' : Sq} (hn : s.n = s'.n) (hg : ∀ i, i < s.n → AVleL (s.g i) (s'.g i)) : ObjLe (.frz z s) (.frz z s') := by
  refine ⟨fun G w ob i h => ?_, fun h => (by simp [AObj.owned] at h)⟩
  obtain ⟨h0, h00, h1, h2, h3⟩ := h
  refine ⟨h0, h00, by rw [h1, hn], by rw [← hn]; exact h2, ?_⟩
  rcases h3 with ⟨h3, h4, h5⟩ | ⟨b, arr, T, fz, h3, hG, h4, h6⟩
  · exact .inl ⟨h3, by rw [← hn]; exact h4, h5⟩
  · exact .inr ⟨b, arr, T, fz, h3, hG, h4, h6.le hn hg⟩

inductive Mode where
  | share | thaw | adopt

abbrev Slots := List (Nat × Mode × AV)

def envT : Slots → Nat → Option (Bool × AV)
  | [], _ => none
  | (k, _, v) :: r, t => if t = k then some (true, v) else envT r t

theorem envT_true : ∀ {T : Slots} {t : Nat} {av : AV}, ¬ envT T t = some (false, av)
  | [], _, _, h => by simp [envT] at h
  | (k, _, v) :: r, t, av, h => by
    simp only [envT] at h
    split at h
    · simp at h
    · exact envT_true h

def stOf (T : Slots) (O : List (Nat × AObj)) : St := ⟨envT T, ofL O⟩

def slotsOk (σ : St) (ρ : Nat → Nat) (A : List Nat) (O : List (Nat × AObj)) : Slots → List (Nat × AObj) → (List (Nat × AObj) → Prop) → Prop
  | [], acc, K => K acc
  | (t, .share, c) :: r, acc, K => σ.env t = some (true, c.ren ρ) ∧ (∀ i ∈ c.ids, (ofL O i).isSome ∧ i ∉ A) ∧ slotsOk σ ρ A O r acc K
  | (t, .thaw, c) :: r, acc, K => match σ.env t with
    | some (b, av) => b = true ∧ (match freezeAV σ.objs av with
      | some (p, c1, w1) => p ∧ AVle c1 c ∧ slotsOk σ ρ A O r (acc ++ w1) K
      | none => False)
    | none => False
  | (t, .adopt, c) :: r, acc, K => σ.env t = some (true, .sc (.slice none 0 0)) ∧ (match c with | .sl x 0 0 0 => x ∈ A ∧ (ofL O x).isSome | _ => False) ∧ slotsOk σ ρ A O r acc K

/-- a variable's cell, seen more weakly -/
inductive CellLe (ρ : Nat → Nat) (A : List Nat) (O : List (Nat × AObj)) : AV → AV → Prop
  | share {c : AV} (h : ∀ j ∈ c.ids, (ofL O j).isSome ∧ j ∉ A) : CellLe ρ A O (c.ren ρ) c
  | adopt {x : Nat} (h : x ∈ A) (ho : (ofL O x).isSome) : CellLe ρ A O (.sc (.slice none 0 0)) (.sl x 0 0 0)
  | le {c' c : AV} (h : c'.pure = true) (hle : AVle c' c) : CellLe ρ A O c' c

inductive BoxLe (ρ : Nat → Nat) (A : List Nat) (O : List (Nat × AObj)) : List AV → List AV → Prop
  | nil : BoxLe ρ A O [] []
  | cons {c' c : AV} {cs' cs : List AV} (h : CellLe ρ A O c' c) (hs : BoxLe ρ A O cs' cs) : BoxLe ρ A O (c' :: cs') (c :: cs)

theorem BoxLe.get {ρ : Nat → Nat} {A : List Nat} {O : List (Nat × AObj)} {cs' cs : List AV} (h : BoxLe ρ A O cs' cs) : cs'.length = cs.length ∧ ∀ (j : Nat) (c : AV), cs[j]? = some c → ∃ c', cs'[j]? = some c' ∧ CellLe ρ A O c' c := by
  induction h with
  | nil => exact ⟨rfl, fun j c h => by simp at h⟩
  | cons h hs ih =>
    refine ⟨by simp [ih.1], fun j c hj => ?_⟩
    cases j with
    | zero => simp only [List.getElem?_cons_zero, Option.some.injEq] at hj; subst hj; exact ⟨_, rfl, h⟩
    | succ j => exact ih.2 j c (by simpa using hj)

def ObjLeR (ρ : Nat → Nat) (A : List Nat) (O : List (Nat × AObj)) (o' o : AObj) : Prop :=
  (∃ cs' cs, o' = .box cs' ∧ o = .box cs ∧ BoxLe ρ A O cs' cs) ∨ ((∀ cs, o' ≠ .box cs) ∧ (∀ cs, o ≠ .box cs) ∧ (o' = o ∨ ObjLe o' o))

def objsOk (m : Nat → Option AObj) (ρ : Nat → Nat) (A : List Nat) (O : List (Nat × AObj)) : List (Nat × AObj) → Prop
  | [] => True
  | (i, o) :: r => (if i ∈ A then (match o with | .arr _ s => s.n = 0 | _ => False) else (match m (ρ i) with | some o' => ObjLeR ρ A O o' o | none => False)) ∧ objsOk m ρ A O r

def assoc : List (Nat × Nat) → Nat → Nat
  | [], i => i
  | (a, b) :: r, i => if i = a then b else assoc r i

/-- the state σ, seen as the slots T and the objects O; the objects K keep their names -/
structure WeakS (K : List Nat) (σ : St) (ρ : Nat → Nat) (A : List Nat) (T : Slots) (O : List (Nat × AObj)) : Prop where
  nodup : (O.map (·.1)).Nodup
  inj : ((O.map (·.1)).filter fun i => !A.contains i).map ρ |>.Nodup
  keep : ∀ k ∈ K, k ∉ A ∧ ρ k = k ∧ (ofL O k).isSome
  slots : slotsOk σ ρ A O T [] fun wr => objsOk (wrm σ.objs wr) ρ A O O

def obW (ob : Place) (ρ : Nat → Nat) (A : List Nat) (O : List (Nat × AObj)) : Place := fun i =>
  match ofL O i with
  | none => none
  | some o => if i ∈ A then some ⟨none, (match o with | .arr z _ => z | _ => 0), 0, 0, false⟩ else ob (ρ i)

section
variable {P : Program} {G : Nat → Prop} {w : World} {ob : Place} {N : Nat} {σ : St} {a : Act}

theorem slotsOk_ok {ρ : Nat → Nat} {A : List Nat} {O : List (Nat × AObj)} {Kp : List (Nat × AObj) → Prop} (hs : Sim N σ a w ob G) : ∀ (T : Slots) (acc : List (Nat × AObj)) (G1 : Nat → Prop),
    slotsOk σ ρ A O T acc Kp → SimO G1 w ob (wrm σ.objs acc) → Agree σ.objs (wrm σ.objs acc) → (∀ b, G b → G1 b) → (∀ b, G1 b → G b ∨ blks ob b) →
    ∃ acc' G2, Kp acc' ∧ SimO G2 w ob (wrm σ.objs acc') ∧ (∀ b, G1 b → G2 b) ∧ (∀ b, G2 b → G b ∨ blks ob b) ∧
      ∀ t av, envT T t = some (true, av) → ∃ v, a.tmps[t]? = some v ∧
        ((av.flat = true ∧ Rel G2 w ob av v) ∨ ((∀ i ∈ av.ids, (ofL O i).isSome ∧ i ∉ A) ∧ Rel G2 w ob (av.ren ρ) v) ∨ (∃ x, av = .sl x 0 0 0 ∧ x ∈ A ∧ (ofL O x).isSome ∧ v = .slice none 0 0))
  | [], acc, G1, h, h1, h2, h3, h4 => ⟨acc, G1, h, h1, fun _ h => h, h4, fun t av h => by simp [envT] at h⟩
  | (k, .share, c) :: r, acc, G1, h, h1, h2, h3, h4 => by
    obtain ⟨g1, g2, g3⟩ := h
    obtain ⟨acc', G2, k1, k2, k3, k4, k5⟩ := slotsOk_ok hs r acc G1 g3 h1 h2 h3 h4
    refine ⟨acc', G2, k1, k2, k3, k4, fun t av ht => ?_⟩
    simp only [envT] at ht
    split at ht
    · rename_i e; subst e
      simp only [Option.some.injEq, Prod.mk.injEq, true_and] at ht; subst ht
      obtain ⟨v, hv, hr⟩ := hs.env t _ g1
      exact ⟨v, hv, .inr (.inl ⟨g2, hr.ext (fun b hb => k3 b (h3 b hb)) (fun _ _ => rfl) (OBext.refl ob)⟩)⟩
    · exact k5 t av ht
  | (k, .thaw, c) :: r, acc, G1, h, h1, h2, h3, h4 => by
    simp only [slotsOk] at h
    split at h
    case h_2 => exact h.elim
    rename_i b av0 hk
    obtain ⟨rfl, h⟩ := h
    split at h
    case h_2 => exact h.elim
    rename_i p c1 w1 hf
    obtain ⟨hp, hle, hrest⟩ := h
    obtain ⟨v, hv, hr⟩ := hs.env k _ hk
    obtain ⟨G', b1, b2, b3, b4, b5, b6⟩ := freezeAV_ok hf hp h1 h2 (hr.ext h3 (fun _ _ => rfl) (OBext.refl ob))
    rw [← wrm_append] at b1 b2
    obtain ⟨acc', G2, k1, k2, k3, k4, k5⟩ := slotsOk_ok hs r (acc ++ w1) G' hrest b1 b2 (fun b hb => b3 b (h3 b hb)) (fun b hb => by
      rcases b4 b hb with h | h
      · exact h4 b h
      · exact .inr h)
    refine ⟨acc', G2, k1, k2, fun b hb => k3 b (b3 b hb), k4, fun t av ht => ?_⟩
    simp only [envT] at ht
    split at ht
    · rename_i e; subst e
      simp only [Option.some.injEq, Prod.mk.injEq, true_and] at ht; subst ht
      exact ⟨v, hv, .inl ⟨hle.flat b5, hle.rel _ _ _ _ (b6.ext k3 (fun _ _ => rfl) (OBext.refl ob))⟩⟩
    · exact k5 t av ht
  | (k, .adopt, c) :: r, acc, G1, h, h1, h2, h3, h4 => by
    obtain ⟨g1, g2, g3⟩ := h
    obtain ⟨acc', G2, k1, k2, k3, k4, k5⟩ := slotsOk_ok hs r acc G1 g3 h1 h2 h3 h4
    refine ⟨acc', G2, k1, k2, k3, k4, fun t av ht => ?_⟩
    simp only [envT] at ht
    split at ht
    · rename_i e; subst e
      simp only [Option.some.injEq, Prod.mk.injEq, true_and] at ht; subst ht
      obtain ⟨v, hv, hr⟩ := hs.env t _ g1
      split at g2
      · rename_i x
        exact ⟨v, hv, .inr (.inr ⟨x, rfl, g2.1, g2.2, hr.sc_eq⟩)⟩
      · exact g2.elim
    · exact k5 t av ht

theorem objsOk_get {m : Nat → Option AObj} {ρ : Nat → Nat} {A : List Nat} {O : List (Nat × AObj)} : ∀ {l : List (Nat × AObj)}, objsOk m ρ A O l → ∀ p ∈ l,
    (if p.1 ∈ A then (match p.2 with | .arr _ s => s.n = 0 | _ => False) else (match m (ρ p.1) with | some o' => ObjLeR ρ A O o' p.2 | none => False))
  | [], _, p, hp => by cases hp
  | (i, o) :: l, h, p, hp => by
    rcases List.mem_cons.1 hp with rfl | hp
    · exact h.1
    · exact objsOk_get h.2 p hp

theorem ofL_mem' {O : List (Nat × AObj)} (hn : (O.map (·.1)).Nodup) {i : Nat} {o : AObj} (h : ofL O i = some o) : (i, o) ∈ O := by
  rw [ofL_get O hn, Option.map_eq_some_iff] at h
  obtain ⟨p, hp, rfl⟩ := h
  have := List.find?_some hp
  simp only [beq_iff_eq] at this
  subst this
  exact List.mem_of_find?_eq_some hp

theorem nodup_map_inj {ρ : Nat → Nat} : ∀ {l : List Nat}, (l.map ρ).Nodup → ∀ i ∈ l, ∀ j ∈ l, ρ i = ρ j → i = j
  | [], _, i, hi, _, _, _ => by cases hi
  | x :: l, h, i, hi, j, hj, e => by
    simp only [List.map_cons, List.nodup_cons] at h
    rcases List.mem_cons.1 hi with rfl | hi'
    · rcases List.mem_cons.1 hj with rfl | hj'
      · rfl
      · exact absurd (e ▸ List.mem_map_of_mem hj') h.1
    · rcases List.mem_cons.1 hj with rfl | hj'
      · exact absurd (e ▸ List.mem_map_of_mem hi') h.1
      · exact nodup_map_inj h.2 i hi' j hj' e

theorem weak_ok {K : List Nat} {ρ : Nat → Nat} {A : List Nat} {T : Slots} {O : List (Nat × AObj)} (hs : Sim N σ a w ob G) (h : WeakS K σ ρ A T O) :
    ∃ ob2 G2, Sim N (stOf T O) a w ob2 G2 ∧ Fr G w ob G2 w ob2 ∧ ∀ k ∈ K, ob2 k = ob k := by
  obtain ⟨hnd, hinj, hkeep, hslots⟩ := h
  obtain ⟨wr, G2, hobj, hsim, hsub, hnew, henv⟩ := slotsOk_ok hs T [] G hslots hs.objs (Agree.refl _) (fun _ h => h) (fun _ h => .inl h)
  have hget : ∀ i o, ofL O i = some o → _ := fun i o hi => objsOk_get hobj (i, o) (ofL_mem' hnd hi)
  have hnA : ∀ i o, ofL O i = some o → i ∉ A → ∃ o', wrm σ.objs wr (ρ i) = some o' ∧ ObjLeR ρ A O o' o := fun i o hi hA => by
    have := hget i o hi
    rw [if_neg hA] at this
    simp only at this
    split at this
    · rename_i o' ho'; exact ⟨o', ho', this⟩
    · exact this.elim
  have hobW : ∀ i inf, obW ob ρ A O i = some inf → ∃ o, ofL O i = some o ∧ ((i ∈ A ∧ inf.blk = none) ∨ (i ∉ A ∧ ob (ρ i) = some inf)) := fun i inf hi => by
    unfold obW at hi
    split at hi
    · cases hi
    · rename_i o ho
      refine ⟨o, ho, ?_⟩
      split at hi
      · rename_i hA; simp only [Option.some.injEq] at hi; subst hi; exact .inl ⟨hA, rfl⟩
      · rename_i hA; exact .inr ⟨hA, hi⟩
  have hin : ∀ i o, ofL O i = some o → i ∉ A → obW ob ρ A O i = ob (ρ i) := fun i o hi hA => by
    unfold obW; rw [hi]; simp [hA]
  have hmem : ∀ i o, ofL O i = some o → i ∉ A → i ∈ (O.map (·.1)).filter fun i => !A.contains i := fun i o hi hA => by
    rw [List.mem_filter]
    exact ⟨List.mem_map_of_mem (f := (·.1)) (ofL_mem' hnd hi), by simpa using hA⟩
  have hadopt : ∀ x, x ∈ A → (ofL O x).isSome → Rel G2 w (obW ob ρ A O) (.sl x 0 0 0) (.slice none 0 0) := fun x h1 h2 => by
    obtain ⟨o, ho⟩ := Option.isSome_iff_exists.1 h2
    have : ∃ z, obW ob ρ A O x = some ⟨none, z, 0, 0, false⟩ := by
      unfold obW; simp only [ho, h1, if_true]; exact ⟨_, rfl⟩
    obtain ⟨z, this⟩ := this
    exact .sl _ this (Nat.zero_le _) ⟨_, _, rfl⟩ fun _ => ⟨Nat.le_refl _, fun _ => .inl rfl, fun b hb => by cases hb⟩
  have hblk : ∀ b, blks (obW ob ρ A O) b → blks ob b := by
    rintro b ⟨i, inf, hi, hb⟩
    obtain ⟨o, ho, h⟩ := hobW i inf hi
    rcases h with ⟨_, h⟩ | ⟨_, h⟩
    · rw [h] at hb; cases hb
    · exact ⟨_, inf, h, hb⟩
  refine ⟨obW ob ρ A O, G2, ⟨hs.size, hs.defers, ⟨fun i => ?_, fun i j inf inf' b hi hj hb hb' => ?_, hsim.lt, fun i o inf ho hi => ?_, fun i o inf b ho how hi hb => ?_⟩, fun t av ht => ?_, fun t av ht => absurd ht envT_true⟩, ?_, fun k hk => ?_⟩
  · show ofL O i = none ↔ _
    constructor
    · intro h; unfold obW; rw [h]
    · intro h
      cases ho : ofL O i with
      | none => rfl
      | some o =>
        unfold obW at h
        rw [ho] at h
        simp only at h
        split at h
        · cases h
        · rename_i hA
          obtain ⟨o', h1, _⟩ := hnA i o ho hA
          rw [(hsim.dom _).2 h] at h1; cases h1
  · obtain ⟨o, ho, h⟩ := hobW i inf hi
    obtain ⟨o', ho', h'⟩ := hobW j inf' hj
    rcases h with ⟨_, h⟩ | ⟨hA, h⟩
    · rw [h] at hb; cases hb
    · rcases h' with ⟨_, h'⟩ | ⟨hA', h'⟩
      · rw [h'] at hb'; cases hb'
      · exact nodup_map_inj hinj i (hmem i o ho hA) j (hmem j o' ho' hA') (hsim.inj _ _ _ _ b h h' hb hb')
  · have ho : ofL O i = some o := ho
    by_cases hA : i ∈ A
    · have h1 := hget i o ho
      rw [if_pos hA] at h1
      simp only at h1
      unfold obW at hi
      rw [ho] at hi
      simp only [hA, if_true, Option.some.injEq] at hi
      subst hi
      cases o with
      | arr z s => exact ⟨rfl, rfl, h1.symm, by show s.n ≤ 0; rw [h1]; exact Nat.le_refl 0, .inl ⟨rfl, h1, rfl⟩⟩
      | _ => exact h1.elim
    · rw [hin i o ho hA] at hi
      obtain ⟨o', h1, h2⟩ := hnA i o ho hA
      have hr := hsim.own _ _ inf h1 hi
      rcases h2 with ⟨cs', cs, rfl, rfl, hle⟩ | ⟨h2, h2', h3⟩
      · obtain ⟨g0, g1, g2, b, arr, T, g3, g4, g5, g6⟩ := hr
        obtain ⟨hlen, hcell⟩ := hle.get
        refine ⟨g0, g1, by rw [g2, hlen], b, arr, T, g3, g4, by rw [g5, hlen], fun j c hj => ?_⟩
        obtain ⟨c', hj', hcl⟩ := hcell j c hj
        obtain ⟨hone, v, hv, hrel⟩ := g6 j c' hj'
        cases hcl with
        | share hids =>
          rw [ren_one] at hone
          refine ⟨hone, v, hv, hrel.unren c rfl fun i hi => ?_⟩
          obtain ⟨h3, h4⟩ := hids i hi
          obtain ⟨o, ho⟩ := Option.isSome_iff_exists.1 h3
          exact hin i o ho h4
        | adopt hx hox =>
          refine ⟨rfl, v, hv, ?_⟩
          rw [hrel.sc_eq]
          exact hadopt _ hx hox
        | le hp hle => exact ⟨hle.one hone, v, hv, (hle.rel _ _ _ _ hrel).ob_free (hle.pure hp)⟩
      · have key : ObjRel G2 w (obW ob ρ A O) inf o' := by
          have hren : o'.ren ρ = o' := by cases o' with
            | box cs => exact absurd rfl (h2 cs)
            | _ => rfl
          exact ObjRel.unren (ob2 := ob) (ρ := ρ) (by rw [hren]; exact hr) fun cs hc => absurd hc (h2 cs)
        rcases h3 with rfl | h3
        · exact key
        · exact h3.rel _ _ _ _ key
  · have ho : ofL O i = some o := ho
    obtain ⟨o1, ho1, h⟩ := hobW i inf hi
    rcases h with ⟨_, h⟩ | ⟨hA, h⟩
    · rw [h] at hb; cases hb
    · obtain ⟨o', h1, h2⟩ := hnA i o ho hA
      refine hsim.sep _ o' inf b h1 ?_ h hb
      rcases h2 with ⟨cs', cs, rfl, rfl, _⟩ | ⟨_, _, rfl | h3⟩
      · rfl
      · exact how
      · exact h3.owned how
  · obtain ⟨v, hv, h⟩ := henv t av ht
    refine ⟨v, hv, ?_⟩
    rcases h with ⟨h1, h2⟩ | ⟨h1, h2⟩ | ⟨x, rfl, h1, h2, rfl⟩
    · exact h2.flat_free h1
    · refine h2.unren av rfl fun i hi => ?_
      obtain ⟨h3, h4⟩ := h1 i hi
      obtain ⟨o, ho⟩ := Option.isSome_iff_exists.1 h3
      exact hin i o ho h4
    · exact hadopt x h1 h2
  · exact ⟨Nat.le_refl _, fun _ _ _ => rfl, fun b hb => .inl (hblk b hb), hsub, fun b hb => (hnew b hb).imp id .inr, rfl, rfl, rfl⟩
  · obtain ⟨h1, h2, h3⟩ := hkeep k hk
    obtain ⟨o, ho⟩ := Option.isSome_iff_exists.1 h3
    rw [hin k o ho h1, h2]
end
end Go.Abs
