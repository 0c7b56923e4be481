/- The abstract layer, part 21: what is used at calls, returns and loop heads. -/
import Derived.Test.YtbpaheflphafiaaAbs20
set_option linter.unusedSimpArgs false
set_option linter.unusedVariables false
set_option linter.unnecessarySimpa false
namespace Go.Abs

theorem upd_apply {β : Type} (f : Nat → Option β) (k : Nat) (v : Option β) (x : Nat) : upd f k v x = if x = k then v else f x := rfl

mutual
/-- c' says no more than c, worked out -/
def avle : AV → AV → Prop
  | .sc v, .sc v' => v = v'
  | .sc v, .dsl _ n _ => v = .slice none 0 0 ∧ n = 0
  | .dsl z n g, .dsl z' n' g' => z = z' ∧ n = n' ∧ ∀ i, i < n → avleL (g i) (g' i)
  | .dslx z n g, .dslx z' n' g' => z = z' ∧ n = n' ∧ ∀ i, i < n → avleL (g i) (g' i)
  | .dslx z n g, .dsl z' n' g' => z = z' ∧ n = n' ∧ ∀ i, i < n → avleL (g i) (g' i)
  | .agg cs, .agg cs' => avleL cs cs'
  | a, b => a = b
def avleL : List AV → List AV → Prop
  | [], [] => True
  | a :: as, b :: bs => avle a b ∧ avleL as bs
  | _, _ => False
end

mutual
theorem avle_ok : ∀ (a b : AV), avle a b → AVle a b
  | .sc v, b, h => by
    cases b <;> simp only [avle, reduceCtorEq] at h
    case sc => subst h; exact AVle.refl _
    case dsl z n g => obtain ⟨rfl, rfl⟩ := h; exact AVle.nil
  | .dsl z n g, b, h => by
    cases b <;> simp only [avle, reduceCtorEq] at h
    obtain ⟨rfl, rfl, h⟩ := h; exact AVle.dsl fun i hi => avleL_ok _ _ (h i hi)
  | .dslx z n g, b, h => by
    cases b <;> simp only [avle, reduceCtorEq] at h
    · obtain ⟨rfl, rfl, h⟩ := h; exact (AVle.dslx (g' := fun i => _) fun i hi => avleL_ok _ _ (h i hi)).trans AVle.dslx_dsl
    · obtain ⟨rfl, rfl, h⟩ := h; exact AVle.dslx fun i hi => avleL_ok _ _ (h i hi)
  | .sl .., b, h => by
    cases b <;> simp only [avle, reduceCtorEq] at h
    exact AVle.of_eq h
  | .ptr .., b, h => by
    cases b <;> simp only [avle, reduceCtorEq] at h
    exact AVle.of_eq h
  | .mp _, b, h => by
    cases b <;> simp only [avle, reduceCtorEq] at h
    exact AVle.of_eq h
  | .fptr _, b, h => by
    cases b <;> simp only [avle, reduceCtorEq] at h
    exact AVle.of_eq h
  | .agg cs, b, h => by
    cases b <;> simp only [avle, reduceCtorEq] at h
    exact AVle.agg (avleL_ok _ _ h)
  | .tup _, b, h => by
    cases b <;> simp only [avle, reduceCtorEq] at h
    exact AVle.of_eq h
  | .fn .., b, h => by
    cases b <;> simp only [avle, reduceCtorEq] at h
    exact AVle.of_eq h
theorem avleL_ok : ∀ (as bs : List AV), avleL as bs → AVleL as bs
  | [], [], _ => trivial
  | a :: as, b :: bs, h => by
    simp only [avleL] at h
    exact ⟨avle_ok a b h.1, avleL_ok as bs h.2⟩
  | [], _ :: _, h => by simp [avleL] at h
  | _ :: _, [], h => by simp [avleL] at h
end

mutual
theorem avle_refl : ∀ (a : AV), avle a a
  | .sc v => by simp only [avle]
  | .dsl z n g => by simp only [avle, true_and]; exact fun i _ => avleL_refl (g i)
  | .dslx z n g => by simp only [avle, true_and]; exact fun i _ => avleL_refl (g i)
  | .agg cs => by simp only [avle]; exact avleL_refl cs
  | .sl .. => by simp only [avle]
  | .ptr .. => by simp only [avle]
  | .mp _ => by simp only [avle]
  | .fptr _ => by simp only [avle]
  | .tup _ => by simp only [avle]
  | .fn .. => by simp only [avle]
theorem avleL_refl : ∀ (l : List AV), avleL l l
  | [] => by simp only [avleL]
  | a :: l => by simp only [avleL]; exact ⟨avle_refl a, avleL_refl l⟩
end

/-- slots, worked out: as slotsOk, with avle -/
def slotsC (σ : St) (ρ : Nat → Nat) (A : List Nat) (O : List (Nat × AObj)) : Slots → List (Nat × AObj) → (List (Nat × AObj) → Prop) → Prop
  | [], acc, K => K acc
  | (t, .share, c) :: r, acc, K => σ.env t = some (true, c.ren ρ) ∧ (∀ i ∈ c.ids, (ofL O i).isSome ∧ i ∉ A) ∧ slotsC σ ρ A O r acc K
  | (t, .thaw, c) :: r, acc, K => match σ.env t with
    | some (b, av) => b = true ∧ (match freezeAV σ.objs av with
      | some (p, c1, w1) => p ∧ avle c1 c ∧ slotsC σ ρ A O r (acc ++ w1) K
      | none => False)
    | none => False
  | (t, .adopt, c) :: r, acc, K => σ.env t = some (true, .sc (.slice none 0 0)) ∧ (match c with | .sl x 0 0 0 => x ∈ A ∧ (ofL O x).isSome | _ => False) ∧ slotsC σ ρ A O r acc K

def objLeC (ρ : Nat → Nat) : AObj → AObj → Prop
  | .arr z s, .arr z' s' => z = z' ∧ s.n = s'.n ∧ ∀ i, i < s.n → avleL (s.g i) (s'.g i)
  | .frz z s, .frz z' s' => z = z' ∧ s.n = s'.n ∧ ∀ i, i < s.n → avleL (s.g i) (s'.g i)
  | .map k es, .map k' es' => AObj.map k es = AObj.map k' es'
  | .frzb cs, .frzb cs' => cs = cs'
  | _, _ => False

def cellC (ρ : Nat → Nat) (A : List Nat) (O : List (Nat × AObj)) : AV → AV → Prop
  | .sc v, .sl x o n t => v = .slice none 0 0 ∧ o = 0 ∧ n = 0 ∧ t = 0 ∧ x ∈ A ∧ (ofL O x).isSome
  | .sc v, c => avle (.sc v) c
  | .dsl z n g, c => avle (.dsl z n g) c
  | .dslx z n g, c => avle (.dslx z n g) c
  | c', c => c' = c.ren ρ ∧ ∀ j ∈ c.ids, (ofL O j).isSome ∧ j ∉ A

def boxC (ρ : Nat → Nat) (A : List Nat) (O : List (Nat × AObj)) : List AV → List AV → Prop
  | [], [] => True
  | c' :: cs', c :: cs => cellC ρ A O c' c ∧ boxC ρ A O cs' cs
  | _, _ => False

theorem cellC_ok {ρ : Nat → Nat} {A : List Nat} {O : List (Nat × AObj)} {c' c : AV} (h : cellC ρ A O c' c) : CellLe ρ A O c' c := by
  cases c' with
  | sc v =>
    cases c <;> simp only [cellC] at h
    case sl => obtain ⟨rfl, rfl, rfl, rfl, h1, h2⟩ := h; exact .adopt h1 h2
    all_goals exact .le rfl (avle_ok _ _ h)
  | dsl z n g => simp only [cellC] at h; exact .le rfl (avle_ok _ _ h)
  | dslx z n g => simp only [cellC] at h; exact .le rfl (avle_ok _ _ h)
  | _ => simp only [cellC] at h; rw [h.1]; exact .share h.2

theorem boxC_ok {ρ : Nat → Nat} {A : List Nat} {O : List (Nat × AObj)} : ∀ {cs' cs : List AV}, boxC ρ A O cs' cs → BoxLe ρ A O cs' cs
  | [], [], _ => .nil
  | c' :: cs', c :: cs, h => .cons (cellC_ok h.1) (boxC_ok h.2)
  | [], _ :: _, h => h.elim
  | _ :: _, [], h => h.elim

def objsC (m : Nat → Option AObj) (ρ : Nat → Nat) (A : List Nat) (O : List (Nat × AObj)) : List (Nat × AObj) → Prop
  | [] => True
  | (i, o) :: r => (if i ∈ A then (match o with | .arr _ s => s.n = 0 | _ => False) else (match m (ρ i) with | some o' => (match o', o with | .box cs', .box cs => boxC ρ A O cs' cs | o', o => objLeC ρ o' o) | none => False)) ∧ objsC m ρ A O r

theorem slotsC_ok {σ : St} {ρ : Nat → Nat} {A : List Nat} {O : List (Nat × AObj)} {Kp Kp' : List (Nat × AObj) → Prop} (hK : ∀ l, Kp l → Kp' l) : ∀ (T : Slots) (acc : List (Nat × AObj)), slotsC σ ρ A O T acc Kp → slotsOk σ ρ A O T acc Kp'
  | [], acc, h => hK acc h
  | (t, .share, c) :: r, acc, h => ⟨h.1, h.2.1, slotsC_ok hK r acc h.2.2⟩
  | (t, .thaw, c) :: r, acc, h => by
    simp only [slotsC] at h
    simp only [slotsOk]
    split at h
    · rename_i b av hv
      obtain ⟨rfl, h⟩ := h
      split at h
      · rename_i p c1 w1 hf
        rw [hv]
        simp only [hf]
        exact ⟨trivial, h.1, avle_ok _ _ h.2.1, slotsC_ok hK r _ h.2.2⟩
      · exact h.elim
    · exact h.elim
  | (t, .adopt, c) :: r, acc, h => ⟨h.1, h.2.1, slotsC_ok hK r acc h.2.2⟩

theorem objLeC_ok {ρ : Nat → Nat} {A : List Nat} {O : List (Nat × AObj)} {o' o : AObj} (h : objLeC ρ o' o) : ObjLeR ρ A O o' o := by
  cases o' <;> cases o <;> simp only [objLeC] at h
  case arr.arr => obtain ⟨rfl, h1, h2⟩ := h; exact .inr ⟨fun cs h => (by cases h), fun cs h => (by cases h), .inr <| ObjLe.arr h1 fun i hi => avleL_ok _ _ (h2 i hi)⟩
  case frz.frz => obtain ⟨rfl, h1, h2⟩ := h; exact .inr ⟨fun cs h => (by cases h), fun cs h => (by cases h), .inr <| ObjLe.frz h1 fun i hi => avleL_ok _ _ (h2 i hi)⟩
  case frzb.frzb => subst h; exact .inr ⟨fun cs h => (by cases h), fun cs h => (by cases h), .inl rfl⟩
  case map.map => rw [h]; exact .inr ⟨fun cs h => (by cases h), fun cs h => (by cases h), .inl rfl⟩

theorem objsC_ok {m : Nat → Option AObj} {ρ : Nat → Nat} {A : List Nat} {O : List (Nat × AObj)} : ∀ {l : List (Nat × AObj)}, objsC m ρ A O l → objsOk m ρ A O l
  | [], _ => trivial
  | (i, o) :: l, h => by
    refine ⟨?_, objsC_ok h.2⟩
    have h1 := h.1
    by_cases hA : i ∈ A
    · rw [if_pos hA] at h1 ⊢; exact h1
    · rw [if_neg hA] at h1 ⊢
      cases hm : m (ρ i) with
      | none => rw [hm] at h1; exact h1.elim
      | some o' =>
        rw [hm] at h1
        simp only at h1
        split at h1
        · exact .inl ⟨_, _, rfl, rfl, boxC_ok h1⟩
        · exact objLeC_ok h1

/-- a state seen more weakly, worked out; ρs: renamings, object of the new state to object of the old -/
theorem weakE_of {K : List Nat} {σ : St} {T : Slots} {O : List (Nat × AObj)} (ρs : List (Nat × Nat)) (A : List Nat) (h1 : (O.map (·.1)).Nodup) (h2 : (((O.map (·.1)).filter fun i => !A.contains i).map (assoc ρs)).Nodup)
    (h3 : ∀ k ∈ K, k ∉ A ∧ assoc ρs k = k ∧ (ofL O k).isSome) (h4 : slotsC σ (assoc ρs) A O T [] fun wr => objsC (wrm σ.objs wr) (assoc ρs) A O O) : WeakE K σ T O :=
  ⟨assoc ρs, A, h1, h2, h3, slotsC_ok (fun _ => objsC_ok) T [] h4⟩

/-- without objects -/
theorem weakE_pure {σ : St} {T : Slots} (h : slotsC σ id [] [] T [] fun _ => True) : WeakE [] σ T [] :=
  ⟨id, [], List.nodup_nil, List.nodup_nil, fun k hk => (by cases hk), slotsC_ok (fun _ _ => trivial) T [] h⟩

/-- results without objects of their own -/
def retC (σ : St) : List Nat → List AV → Prop
  | [], [] => True
  | t :: ts, r :: rs => (match σ.env t with
    | some (b, av) => b = true ∧ (match freezeAV σ.objs av with
      | some (p, c1, _) => p ∧ avle c1 r
      | none => False)
    | none => False) ∧ retC σ ts rs
  | _, _ => False

theorem retC_slots {σ : St} : ∀ {ts : List Nat} {rs : List AV} {acc : List (Nat × AObj)}, retC σ ts rs → ∃ md, md.length = ts.length ∧ rs.length = ts.length ∧ slotsC σ id [] [] (zip3 ts md rs) acc fun _ => True
  | [], [], acc, _ => ⟨[], rfl, rfl, trivial⟩
  | t :: ts, r :: rs, acc, h => by
    obtain ⟨h1, h2⟩ := h
    split at h1
    · rename_i b av hv
      obtain ⟨rfl, h1⟩ := h1
      split at h1
      · rename_i p c1 w1 hf
        obtain ⟨md, g1, g2, g3⟩ := retC_slots (acc := acc ++ w1) h2
        refine ⟨.thaw :: md, by simp [g1], by simp [g2], ?_⟩
        simp only [zip3, slotsC, hv, hf]
        exact ⟨trivial, h1.1, h1.2, g3⟩
      · exact h1.elim
    · exact h1.elim
  | [], _ :: _, _, h => h.elim
  | _ :: _, [], _, h => h.elim

theorem ret_pure {σ : St} {ts : List Nat} {rs : List AV} {R : List AV → List (Nat × AObj) → Prop} (h : retC σ ts rs) (hR : R rs []) : retQ [] ts R .ret σ := by
  obtain ⟨md, h1, h2, h3⟩ := retC_slots (acc := []) h
  exact ⟨rs, [], hR, md, h1, h2, weakE_pure h3⟩

theorem ret_normal {σ : St} {K : List Nat} {ts : List Nat} {R : List AV → List (Nat × AObj) → Prop} (h : retQ K ts R .ret σ) : retQ K ts R .normal σ := h

mutual
theorem AV.ren_id : ∀ (a : AV), a.ren id = a
  | .sc _ => rfl
  | .dsl .. => rfl
  | .dslx .. => rfl
  | .sl .. => rfl
  | .ptr .. => rfl
  | .mp _ => rfl
  | .fptr _ => rfl
  | .agg cs => by simp only [AV.ren, renL_id cs]
  | .tup cs => by simp only [AV.ren, renL_id cs]
  | .fn f a b => by simp only [AV.ren, renL_id a, renL_id b]
theorem renL_id : ∀ (l : List AV), renL id l = l
  | [] => rfl
  | a :: l => by simp only [renL, AV.ren_id a, renL_id l]
end

section
variable {P : Program} {m : Nat → Option AObj} {f : FuncId} {b : Bool} {K : Res → Prop}

/-- arguments of a contract, worked out; what the call freezes -/
def argsC (m : Nat → Option AObj) : List AV → List AV → List (Nat × AObj) → (List (Nat × AObj) → Prop) → Prop
  | [], [], acc, K => K acc
  | a :: as, c :: cs, acc, K => match freezeAV m a with
    | some (p, c1, w) => p ∧ avle c1 c ∧ argsC m as cs (acc ++ w) K
    | none => False
  | _, _, _, _ => False

theorem argsC_ok {Kp : List (Nat × AObj) → Prop} : ∀ {avs cargs : List AV} {acc : List (Nat × AObj)}, argsC m avs cargs acc Kp →
    ∃ md cs wr, ArgsOk m id [] md avs cs wr ∧ AVleL cs cargs ∧ Kp (acc ++ wr)
  | [], [], acc, h => ⟨[], [], [], rfl, trivial, by simpa [argsC] using h⟩
  | a :: as, c :: cs, acc, h => by
    simp only [argsC] at h
    split at h
    · rename_i p c1 w hf
      obtain ⟨md, cs', wr, g1, g2, g3⟩ := argsC_ok h.2.2
      exact ⟨false :: md, c1 :: cs', w ++ wr, ⟨p, w, wr, hf, h.1, rfl, g1⟩, ⟨avle_ok _ _ h.2.1, g2⟩, by simpa using g3⟩
    · exact h.elim
  | [], _ :: _, _, h => by simp [argsC] at h
  | _ :: _, [], _, h => by simp [argsC] at h

theorem CallsA.args_le {args args' : List AV} {O O' : List (Nat × AObj)} {r : AV} (h : CallsA P f args' O r O') (hle : AVleL args args') : CallsA P f args O r O' :=
  ⟨h.1, fun G w ob vals hs hr => h.2 G w ob vals hs ⟨by rw [hr.1, hle.get.1], fun j av hj => by
    obtain ⟨a, ha, hl⟩ := hle.get.2 j av hj
    exact hl.rel _ _ _ _ (hr.2 j a ha)⟩⟩

theorem callDoes_pure {avs cs : List AV} {r : AV} {md : List Bool} {wr : List (Nat × AObj)} (hc : CallsA P f cs [] r []) (ha : ArgsOk m id [] md avs cs wr) (keep : Bool) (hk : keep = true → r.noDsl = true) :
    CallDoes P m f avs ⟨some r, if keep then [] else wr⟩ := by
  have := CallDoes.mk (P := P) (m := m) md cs [] r [] id wr keep hc ha (fun i o h => by simp [ofL, wrm] at h) (fun i cs h => by simp [ofL, wrm] at h) (fun i h => by simp [ofL, wrm] at h)
    (fun i h => by simp [ofL, wrm] at h) List.nodup_nil (fun h => ⟨hk h, fun i o h => by simp [ofL, wrm] at h⟩)
  simpa [renO, AV.ren_id] using this

/-- a call whose result has no frozen part: the caller's own slices stay its own -/
theorem callG_keep {avs cargs : List AV} {r : AV} (hc : CallsA P f cargs [] r []) (hn : r.noDsl = true) (ha : argsC m avs cargs [] fun _ => True) (hK : K ⟨some r, []⟩) : CallG P m f avs b K := by
  obtain ⟨md, cs, wr, h1, h2, _⟩ := argsC_ok ha
  exact ⟨_, fun _ => callDoes_pure (hc.args_le h2) h1 true (fun _ => hn), fun h => absurd rfl h, hK⟩

/-- a call, that freezes what it is given -/
theorem callG_thaw {avs cargs : List AV} {r : AV} (hc : CallsA P f cargs [] r []) (ha : argsC m avs cargs [] fun wr => (wr ≠ [] → b = true) ∧ K ⟨some r, wr⟩) : CallG P m f avs b K := by
  obtain ⟨md, cs, wr, h1, h2, h3, h4⟩ := argsC_ok ha
  exact ⟨_, fun _ => callDoes_pure (hc.args_le h2) h1 false (fun h => by cases h), h3, by simpa using h4⟩

def flats : List AV → Bool
  | [] => true
  | a :: as => a.flat && flats as

theorem freezeL_pure : ∀ {cs : List AV}, cs.all AV.pure = true → ∃ p, p ∧ freezeL m cs = some (p, cs, [])
  | [], _ => ⟨True, trivial, rfl⟩
  | c :: cs, h => by
    simp only [List.all_cons, Bool.and_eq_true] at h
    obtain ⟨p, hp, hf⟩ := freezeL_pure h.2
    have : freezeCell m c = some (True, c, []) := by cases c <;> simp_all [freezeCell, AV.pure]
    exact ⟨True ∧ p, ⟨trivial, hp⟩, by simp [freezeL, this, hf]⟩

theorem freezeAV_flat {a : AV} (h : a.flat = true) : ∃ p, p ∧ freezeAV m a = some (p, a, []) := by
  cases a with
  | agg cs =>
    obtain ⟨p, hp, hf⟩ := freezeL_pure (m := m) (by simpa [AV.flat] using h)
    exact ⟨p, hp, by simp [freezeAV, hf]⟩
  | _ => exact ⟨True, trivial, by simp_all [freezeAV, freezeCell, AV.flat, AV.pure]⟩

theorem argsOk_flat : ∀ {avs : List AV}, flats avs = true → ∃ md, ArgsOk m id [] md avs avs []
  | [], _ => ⟨[], rfl⟩
  | a :: as, h => by
    simp only [flats, Bool.and_eq_true] at h
    obtain ⟨p, hp, hf⟩ := freezeAV_flat (m := m) h.1
    obtain ⟨md, hm⟩ := argsOk_flat h.2
    exact ⟨false :: md, p, [], [], hf, hp, rfl, hm⟩

/-- a call with arguments that need no freezing -/
theorem callG_flat {avs : List AV} {r : AV} (hc : CallsA P f avs [] r []) (hf : flats avs = true) (hK : K ⟨some r, []⟩) : CallG P m f avs b K := by
  obtain ⟨md, h1⟩ := argsOk_flat (m := m) hf
  exact ⟨_, fun _ => callDoes_pure hc h1 false (fun h => by cases h), fun h => absurd rfl h, by simpa using hK⟩
end
end Go.Abs
namespace Go.Abs
def retCQ (ts : List Nat) (rs : List AV) (o : Out) (σ : St) : Prop :=
  match o with
  | .exit _ => False
  | .normal => retC σ ts rs
  | .ret => retC σ ts rs

/-- a contract without objects, from the code -/
theorem callsA_of {P : Program} {f : FuncId} {fn : Func} {ac : ACode} {args : List AV} {ts : List Nat} {rs : List AV} (hm : P.follows .mixedOrders = true)
    (hf : P.funcs[f]? = some fn) (hb : fn.body = some (fn.body.getD .skip)) (hname : (fn.name != "runtime.NumGoroutine") = true) (hc : compile P fn.ntmps (fn.body.getD .skip) = some ac.strip)
    (hts : tmpsOf fn.results.toList = some ts) (hnd : ts.Nodup) (hl : (args.length.ble fn.ntmps) = true)
    (h : W P fn.ntmps [] ac (retCQ ts rs) (start args [])) : CallsA P f args [] (pack rs) [] := by
  have key : Wp P fn.ntmps [] ac (retQ [] ts fun rs' O => rs' = rs ∧ O = []) (start args []) := (Wp.of_W hm ac h).mono fun o σ hq => by
    cases o with
    | exit i => exact hq
    | normal => exact ret_normal (ret_pure hq ⟨rfl, rfl⟩)
    | ret => exact ret_pure hq ⟨rfl, rfl⟩
  exact CallsR.one (callsR_of hf hb hname hc hts hnd (Nat.le_of_ble_eq_true hl) key)
end Go.Abs
