/- A part of the proof: what a function does, over abstract values and objects, and its ties to the model. -/
import Derived.Test.YtfkngoiiedmofaaGreatLB
import Derived.WalkKit
import Derived.ProofKit
import Derived.OpenShut
import Derived.ChangeOld
import Derived.Below
import Derived.Attr
import Derived.KernelRfl
set_option linter.unusedSimpArgs false
set_option linter.unusedVariables false
set_option linter.unnecessarySimpa false
set_option maxRecDepth 100000
set_option maxHeartbeats 2000000
section
namespace Go.Abs
theorem upd_apply {β : Type} (f : Nat → Option β) (k : Nat) (v : Option β) (x : Nat) : upd f k v x = if x = k then v else f x := rfl
mutual
def avle : AV → AV → Prop
  | .sc v, .sc v' => v = v'
  | .sc v, .dsl _ n _ => v = .slice none 0 0 ∧ n = 0
  | .dsl z n g, .dsl z' n' g' => z = z' ∧ n = n' ∧ ∀ i, i < n → avleL (g i) (g' i)
  | .dslx z n g, .dslx z' n' g' => z = z' ∧ n = n' ∧ ∀ i, i < n → avleL (g i) (g' i)
  | .dslx z n g, .dsl z' n' g' => z = z' ∧ n = n' ∧ ∀ i, i < n → avleL (g i) (g' i)
  | .agg cs, .agg cs' => avleL cs cs'
  | a, b => a = b
def avleL : List AV → List AV → Prop
  | [], [] => True
  | a :: as, b :: bs => avle a b ∧ avleL as bs
  | _, _ => False
end
mutual
theorem avle_ok : ∀ (a b : AV), avle a b → AVle a b
  | .sc v, b, h => by
    cases b <;> simp only [avle, reduceCtorEq] at h
    case sc => subst h; exact AVle.refl _
    case dsl z n g => obtain ⟨rfl, rfl⟩ := h; exact AVle.nil
  | .dsl z n g, b, h => by
    cases b <;> simp only [avle, reduceCtorEq] at h
    obtain ⟨rfl, rfl, h⟩ := h; exact AVle.dsl fun i hi => avleL_ok _ _ (h i hi)
  | .dslx z n g, b, h => by
    cases b <;> simp only [avle, reduceCtorEq] at h
    · obtain ⟨rfl, rfl, h⟩ := h; exact (AVle.dslx (g' := fun i => _) fun i hi => avleL_ok _ _ (h i hi)).trans AVle.dslx_dsl
    · obtain ⟨rfl, rfl, h⟩ := h; exact AVle.dslx fun i hi => avleL_ok _ _ (h i hi)
  | .sl .., b, h => by
    cases b <;> simp only [avle, reduceCtorEq] at h
    exact AVle.of_eq h
  | .ptr .., b, h => by
    cases b <;> simp only [avle, reduceCtorEq] at h
    exact AVle.of_eq h
  | .mp _, b, h => by
    cases b <;> simp only [avle, reduceCtorEq] at h
    exact AVle.of_eq h
  | .fptr _, b, h => by
    cases b <;> simp only [avle, reduceCtorEq] at h
    exact AVle.of_eq h
  | .agg cs, b, h => by
    cases b <;> simp only [avle, reduceCtorEq] at h
    exact AVle.agg (avleL_ok _ _ h)
  | .tup _, b, h => by
    cases b <;> simp only [avle, reduceCtorEq] at h
    exact AVle.of_eq h
  | .fn .., b, h => by
    cases b <;> simp only [avle, reduceCtorEq] at h
    exact AVle.of_eq h
  | .own .., b, h => by
    cases b <;> simp only [avle, reduceCtorEq] at h
    exact AVle.of_eq h
  | .hole, b, h => by
    cases b <;> simp only [avle, reduceCtorEq] at h
    exact AVle.of_eq rfl
theorem avleL_ok : ∀ (as bs : List AV), avleL as bs → AVleL as bs
  | [], [], _ => trivial
  | a :: as, b :: bs, h => by
    simp only [avleL] at h
    exact ⟨avle_ok a b h.1, avleL_ok as bs h.2⟩
  | [], _ :: _, h => by simp [avleL] at h
  | _ :: _, [], h => by simp [avleL] at h
end
mutual
theorem avle_refl : ∀ (a : AV), avle a a
  | .sc v => by simp only [avle]
  | .dsl z n g => by simp only [avle, true_and]; exact fun i _ => avleL_refl (g i)
  | .dslx z n g => by simp only [avle, true_and]; exact fun i _ => avleL_refl (g i)
  | .agg cs => by simp only [avle]; exact avleL_refl cs
  | .sl .. => by simp only [avle]
  | .ptr .. => by simp only [avle]
  | .mp _ => by simp only [avle]
  | .fptr _ => by simp only [avle]
  | .tup _ => by simp only [avle]
  | .fn .. => by simp only [avle]
  | .own .. => by simp only [avle]
  | .hole => by simp only [avle]
theorem avleL_refl : ∀ (l : List AV), avleL l l
  | [] => by simp only [avleL]
  | a :: l => by simp only [avleL]; exact ⟨avle_refl a, avleL_refl l⟩
end
def avleP : AV → AV → Prop
  | .own z n g, .own z' n' g' => z = z' ∧ n = n' ∧ ∀ i, i < n → avleL (g i) (g' i)
  | .sc v, .own _ n _ => v = .slice none 0 0 ∧ n = 0
  | .hole, .hole => True
  | a, b => a.pure = true ∧ avle a b
def avlePL : List AV → List AV → Prop
  | [], [] => True
  | a :: as, b :: bs => avleP a b ∧ avlePL as bs
  | _, _ => False
theorem avleP_ok {a b : AV} (h : avleP a b) : AVleP a b := by
  cases a with
  | own z n g =>
    cases b <;> simp only [avleP, AV.pure, Bool.false_eq_true, false_and] at h
    obtain ⟨rfl, rfl, h⟩ := h
    exact AVleP.own fun i hi => avleL_ok _ _ (h i hi)
  | hole =>
    cases b <;> simp only [avleP, AV.pure, Bool.false_eq_true, false_and] at h
    exact AVleP.refl _
  | sc v =>
    cases b <;> simp only [avleP] at h
    case own => obtain ⟨rfl, rfl⟩ := h; exact AVleP.nil
    all_goals exact AVleP.pure h.1 (avle_ok _ _ h.2)
  | _ => simp only [avleP] at h; exact AVleP.pure h.1 (avle_ok _ _ h.2)
theorem avlePL_ok : ∀ {as bs : List AV}, avlePL as bs → AVlePL as bs
  | [], [], _ => trivial
  | a :: as, b :: bs, h => ⟨avleP_ok h.1, avlePL_ok h.2⟩
  | [], _ :: _, h => h.elim
  | _ :: _, [], h => h.elim
def slotsC (σ : St) (ρ : Nat → Nat) (A : List Nat) (O : List (Nat × AObj)) : Slots → List (Nat × AObj) → (List (Nat × AObj) → Prop) → Prop
  | [], acc, K => K acc
  | (t, .share, c) :: r, acc, K => σ.env t = some (true, c.ren ρ) ∧ (∀ i ∈ c.ids, (ofL O i).isSome ∧ i ∉ A) ∧ slotsC σ ρ A O r acc K
  | (t, .thaw, c) :: r, acc, K => match σ.env t with
    | some (b, av) => b = true ∧ (match freezeAV σ.objs av with
      | some (p, c1, w1) => p ∧ avle c1 c ∧ slotsC σ ρ A O r (acc ++ w1) K
      | none => False)
    | none => False
  | (t, .adopt, c) :: r, acc, K => σ.env t = some (true, .sc (.slice none 0 0)) ∧ (match c with | .sl x 0 0 0 => x ∈ A ∧ (ofL O x).isSome | _ => False) ∧ slotsC σ ρ A O r acc K
def objLeC (ρ : Nat → Nat) : AObj → AObj → Prop
  | .arr z s, .arr z' s' => z = z' ∧ s.n = s'.n ∧ ∀ i, i < s.n → avleL (s.g i) (s'.g i)
  | .frz z s, .frz z' s' => z = z' ∧ s.n = s'.n ∧ ∀ i, i < s.n → avleL (s.g i) (s'.g i)
  | .map k es, .map k' es' => AObj.map k es = AObj.map k' es'
  | .mapS k es, .mapS k' es' => AObj.mapS k es = AObj.mapS k' es'
  | .frzb cs, .frzb cs' => cs = cs'
  | .arrP z s, .arrP z' s' => z = z' ∧ s.n = s'.n ∧ ∀ i, i < s.n → avlePL (s.g i) (s'.g i)
  | _, _ => False
def cellC (ρ : Nat → Nat) (A : List Nat) (O : List (Nat × AObj)) : AV → AV → Prop
  | .sc v, .sl x o n t => v = .slice none 0 0 ∧ o = 0 ∧ n = 0 ∧ t = 0 ∧ x ∈ A ∧ (ofL O x).isSome
  | .sc v, c => avle (.sc v) c
  | .dsl z n g, c => avle (.dsl z n g) c
  | .dslx z n g, c => avle (.dslx z n g) c
  | c', c => c' = c.ren ρ ∧ ∀ j ∈ c.ids, (ofL O j).isSome ∧ j ∉ A
def boxC (ρ : Nat → Nat) (A : List Nat) (O : List (Nat × AObj)) : List AV → List AV → Prop
  | [], [] => True
  | c' :: cs', c :: cs => cellC ρ A O c' c ∧ boxC ρ A O cs' cs
  | _, _ => False
theorem cellC_ok {ρ : Nat → Nat} {A : List Nat} {O : List (Nat × AObj)} {c' c : AV} (h : cellC ρ A O c' c) : CellLe ρ A O c' c := by
  cases c' with
  | sc v =>
    cases c <;> simp only [cellC] at h
    case sl => obtain ⟨rfl, rfl, rfl, rfl, h1, h2⟩ := h; exact .adopt h1 h2
    all_goals exact .le rfl (avle_ok _ _ h)
  | dsl z n g => simp only [cellC] at h; exact .le rfl (avle_ok _ _ h)
  | dslx z n g => simp only [cellC] at h; exact .le rfl (avle_ok _ _ h)
  | _ => simp only [cellC] at h; rw [h.1]; exact .share h.2
theorem boxC_ok {ρ : Nat → Nat} {A : List Nat} {O : List (Nat × AObj)} : ∀ {cs' cs : List AV}, boxC ρ A O cs' cs → BoxLe ρ A O cs' cs
  | [], [], _ => .nil
  | c' :: cs', c :: cs, h => .cons (cellC_ok h.1) (boxC_ok h.2)
  | [], _ :: _, h => h.elim
  | _ :: _, [], h => h.elim
def objsC (m : Nat → Option AObj) (ρ : Nat → Nat) (A : List Nat) (O : List (Nat × AObj)) : List (Nat × AObj) → Prop
  | [] => True
  | (i, o) :: r => (if i ∈ A then (match o with | .arr _ s => s.n = 0 | .arrP _ s => s.n = 0 | _ => False) else (match m (ρ i) with | some o' => (match o', o with | .box cs', .box cs => boxC ρ A O cs' cs | o', o => objLeC ρ o' o) | none => False)) ∧ objsC m ρ A O r
theorem slotsC_ok {σ : St} {ρ : Nat → Nat} {A : List Nat} {O : List (Nat × AObj)} {Kp Kp' : List (Nat × AObj) → Prop} (hK : ∀ l, Kp l → Kp' l) : ∀ (T : Slots) (acc : List (Nat × AObj)), slotsC σ ρ A O T acc Kp → slotsOk σ ρ A O T acc Kp'
  | [], acc, h => hK acc h
  | (t, .share, c) :: r, acc, h => ⟨h.1, h.2.1, slotsC_ok hK r acc h.2.2⟩
  | (t, .thaw, c) :: r, acc, h => by
    simp only [slotsC] at h
    simp only [slotsOk]
    split at h
    · rename_i b av hv
      obtain ⟨rfl, h⟩ := h
      split at h
      · rename_i p c1 w1 hf
        rw [hv]
        simp only [hf]
        exact ⟨trivial, h.1, avle_ok _ _ h.2.1, slotsC_ok hK r _ h.2.2⟩
      · exact h.elim
    · exact h.elim
  | (t, .adopt, c) :: r, acc, h => ⟨h.1, h.2.1, slotsC_ok hK r acc h.2.2⟩
theorem objLeC_ok {ρ : Nat → Nat} {A : List Nat} {O : List (Nat × AObj)} {o' o : AObj} (h : objLeC ρ o' o) : ObjLeR ρ A O o' o := by
  cases o' <;> cases o <;> simp only [objLeC] at h
  case arr.arr => obtain ⟨rfl, h1, h2⟩ := h; exact .inr ⟨fun cs h => (by cases h), fun cs h => (by cases h), .inr <| ObjLe.arr h1 fun i hi => avleL_ok _ _ (h2 i hi)⟩
  case frz.frz => obtain ⟨rfl, h1, h2⟩ := h; exact .inr ⟨fun cs h => (by cases h), fun cs h => (by cases h), .inr <| ObjLe.frz h1 fun i hi => avleL_ok _ _ (h2 i hi)⟩
  case frzb.frzb => subst h; exact .inr ⟨fun cs h => (by cases h), fun cs h => (by cases h), .inl rfl⟩
  case arrP.arrP => obtain ⟨rfl, h1, h2⟩ := h; exact .inr ⟨fun cs h => (by cases h), fun cs h => (by cases h), .inr <| ObjLe.arrP h1 fun i hi => avlePL_ok (h2 i hi)⟩
  case map.map => rw [h]; exact .inr ⟨fun cs h => (by cases h), fun cs h => (by cases h), .inl rfl⟩
  case mapS.mapS => rw [h]; exact .inr ⟨fun cs h => (by cases h), fun cs h => (by cases h), .inl rfl⟩
theorem objsC_ok {m : Nat → Option AObj} {ρ : Nat → Nat} {A : List Nat} {O : List (Nat × AObj)} : ∀ {l : List (Nat × AObj)}, objsC m ρ A O l → objsOk m ρ A O l
  | [], _ => trivial
  | (i, o) :: l, h => by
    refine ⟨?_, objsC_ok h.2⟩
    have h1 := h.1
    by_cases hA : i ∈ A
    · rw [if_pos hA] at h1 ⊢; exact h1
    · rw [if_neg hA] at h1 ⊢
      cases hm : m (ρ i) with
      | none => rw [hm] at h1; exact h1.elim
      | some o' =>
        rw [hm] at h1
        simp only at h1
        split at h1
        · exact .inl ⟨_, _, rfl, rfl, boxC_ok h1⟩
        · exact objLeC_ok h1
theorem weakE_of {K : List Nat} {σ : St} {T : Slots} {O : List (Nat × AObj)} (ρs : List (Nat × Nat)) (A : List Nat) (h1 : (O.map (·.1)).Nodup) (h2 : (((O.map (·.1)).filter fun i => !A.contains i).map (assoc ρs)).Nodup)
    (h3 : ∀ k ∈ K, k ∉ A ∧ assoc ρs k = k ∧ (ofL O k).isSome) (h4 : slotsC σ (assoc ρs) A O T [] fun wr => objsC (wrm σ.objs wr) (assoc ρs) A O O) : WeakE K σ T O :=
  ⟨assoc ρs, A, h1, h2, h3, slotsC_ok (fun _ => objsC_ok) T [] h4⟩
theorem weakE_pure {σ : St} {T : Slots} (h : slotsC σ id [] [] T [] fun _ => True) : WeakE [] σ T [] :=
  ⟨id, [], List.nodup_nil, List.nodup_nil, fun k hk => (by cases hk), slotsC_ok (fun _ _ => trivial) T [] h⟩
def retC (σ : St) : List Nat → List AV → Prop
  | [], [] => True
  | t :: ts, r :: rs => (match σ.env t with
    | some (b, av) => b = true ∧ (match freezeAV σ.objs av with
      | some (p, c1, _) => p ∧ avle c1 r
      | none => False)
    | none => False) ∧ retC σ ts rs
  | _, _ => False
theorem retC_slots {σ : St} : ∀ {ts : List Nat} {rs : List AV} {acc : List (Nat × AObj)}, retC σ ts rs → ∃ md, md.length = ts.length ∧ rs.length = ts.length ∧ slotsC σ id [] [] (zip3 ts md rs) acc fun _ => True
  | [], [], acc, _ => ⟨[], rfl, rfl, trivial⟩
  | t :: ts, r :: rs, acc, h => by
    obtain ⟨h1, h2⟩ := h
    split at h1
    · rename_i b av hv
      obtain ⟨rfl, h1⟩ := h1
      split at h1
      · rename_i p c1 w1 hf
        obtain ⟨md, g1, g2, g3⟩ := retC_slots (acc := acc ++ w1) h2
        refine ⟨.thaw :: md, by simp [g1], by simp [g2], ?_⟩
        simp only [zip3, slotsC, hv, hf]
        exact ⟨trivial, h1.1, h1.2, g3⟩
      · exact h1.elim
    · exact h1.elim
  | [], _ :: _, _, h => h.elim
  | _ :: _, [], _, h => h.elim
theorem ret_pure {σ : St} {ts : List Nat} {rs : List AV} {R : List AV → List (Nat × AObj) → Prop} (h : retC σ ts rs) (hR : R rs []) : retQ [] ts R .ret σ := by
  obtain ⟨md, h1, h2, h3⟩ := retC_slots (acc := []) h
  exact ⟨rs, [], hR, md, h1, h2, weakE_pure h3⟩
theorem ret_normal {σ : St} {K : List Nat} {ts : List Nat} {R : List AV → List (Nat × AObj) → Prop} (h : retQ K ts R .ret σ) : retQ K ts R .normal σ := h
mutual
theorem AV.ren_id : ∀ (a : AV), a.ren id = a
  | .sc _ => rfl
  | .dsl .. => rfl
  | .dslx .. => rfl
  | .sl .. => rfl
  | .ptr .. => rfl
  | .mp _ => rfl
  | .fptr _ => rfl
  | .own .. => rfl
  | .hole => rfl
  | .agg cs => by simp only [AV.ren, renL_id cs]
  | .tup cs => by simp only [AV.ren, renL_id cs]
  | .fn f a b => by simp only [AV.ren, renL_id a, renL_id b]
theorem renL_id : ∀ (l : List AV), renL id l = l
  | [] => rfl
  | a :: l => by simp only [renL, AV.ren_id a, renL_id l]
end
section
variable {P : Program} {m : Nat → Option AObj} {f : FuncId} {b : Bool} {K : Res → Prop}
theorem CallsA.args_le {args args' : List AV} {O O' : List (Nat × AObj)} {r : AV} (h : CallsA P f args' O r O') (hle : AVleL args args') : CallsA P f args O r O' :=
  ⟨h.1, fun G w ob vals hs hr => h.2 G w ob vals hs ⟨by rw [hr.1, hle.get.1], fun j av hj => by
    obtain ⟨a, ha, hl⟩ := hle.get.2 j av hj
    exact hl.rel _ _ _ _ (hr.2 j a ha)⟩⟩
theorem callDoes_pure {avs cs : List AV} {r : AV} {md : List Bool} {wr : List (Nat × AObj)} (hc : CallsA P f cs [] r []) (ha : ArgsOk m id [] md avs cs wr) (keep : Bool) (hk : keep = true → r.noDsl = true) :
    CallDoes P m f avs ⟨some r, if keep then [] else wr⟩ := by
  have := CallDoes.mk (P := P) (m := m) md cs [] r [] id wr keep hc ha (fun i o h => by simp [ofL, wrm] at h) (fun i cs h => by simp [ofL, wrm] at h) (fun i h => by simp [ofL, wrm] at h)
    (fun i h => by simp [ofL, wrm] at h) List.nodup_nil (fun h => ⟨hk h, fun i o h => by simp [ofL, wrm] at h⟩)
  simpa [renO, AV.ren_id] using this
def flats : List AV → Bool
  | [] => true
  | a :: as => a.flat && flats as
end
end Go.Abs
namespace Go.Abs
def retCQ (ts : List Nat) (rs : List AV) (o : Out) (σ : St) : Prop :=
  match o with
  | .exit _ => False
  | .normal => retC σ ts rs
  | .ret => retC σ ts rs
theorem callsA_of {P : Program} {f : FuncId} {fn : Func} {ac : ACode} {args : List AV} {ts : List Nat} {rs : List AV} (hm : P.follows .mixedOrders = true)
    (hf : P.funcs[f]? = some fn) (hb : fn.body = some (fn.body.getD .skip)) (hname : (fn.name != "runtime.NumGoroutine") = true) (hc : compile P fn.ntmps (fn.body.getD .skip) = some ac.strip)
    (hts : tmpsOf fn.results.toList = some ts) (hnd : ts.Nodup) (hl : (args.length.ble fn.ntmps) = true)
    (h : W P fn.ntmps [] ac (retCQ ts rs) (start args [])) : CallsA P f args [] (pack rs) [] := by
  have key : Wp P fn.ntmps [] ac (retQ [] ts fun rs' O => rs' = rs ∧ O = []) (start args []) := (Wp.of_W hm ac h).mono fun o σ hq => by
    cases o with
    | exit i => exact hq
    | normal => exact ret_normal (ret_pure hq ⟨rfl, rfl⟩)
    | ret => exact ret_pure hq ⟨rfl, rfl⟩
  exact CallsR.one (callsR_of hf hb hname hc hts hnd (Nat.le_of_ble_eq_true hl) key)
end Go.Abs
end
section
namespace Go.Abs
theorem bor (b q : Bool) : (if b = true then true else q) = (b || q) := by cases b <;> rfl
theorem bor2 (b q : Bool) : (if b = false then true else q) = (!b || q) := by cases b <;> rfl
theorem band2 (b q : Bool) : (if b = false then q else false) = (!b && q) := by cases b <;> rfl
theorem band (b q : Bool) : (if b = true then q else false) = (b && q) := by cases b <;> rfl
section
variable {α : Type}
def encSq (enc : α → List AV) (d : α) (l : List α) : Sq := ⟨l.length, fun i => enc (l.getD i d)⟩
def encL (z : Nat) (enc : α → List AV) (d : α) (l : List α) : AV := .dsl z l.length fun i => enc (l.getD i d)
theorem setSq_n (s : Sq) (k : Nat) (c : List AV) : (s.set k c).n = s.n := rfl
theorem encSq_n (enc : α → List AV) (d : α) (l : List α) : (encSq enc d l).n = l.length := rfl
theorem encSq_g (enc : α → List AV) (d : α) (l : List α) (i : Nat) : (encSq enc d l).g i = enc (l.getD i d) := rfl
theorem getD_append (l l' : List α) (i : Nat) (d : α) : (l ++ l').getD i d = if i < l.length then l.getD i d else l'.getD (i - l.length) d := by
  simp only [List.getD]
  by_cases h : i < l.length
  · rw [if_pos h, List.getElem?_append_left h]
  · rw [if_neg h, List.getElem?_append_right (by omega)]
theorem encSq_app {enc : α → List AV} {d : α} {l l' : List α} : (encSq enc d l).app (encSq enc d l') = encSq enc d (l ++ l') := by
  simp only [Sq.app, encSq, List.length_append, Sq.mk.injEq, true_and]
  funext j
  rw [getD_append]
  by_cases h : j < l.length <;> simp [h]
theorem objLeC_refl {ρ : Nat → Nat} {z : Nat} {s : Sq} : objLeC ρ (.arr z s) (.arr z s) := ⟨rfl, rfl, fun _ _ => avleL_refl _⟩
theorem avle_scsc (v v' : Value) : avle (.sc v) (.sc v') = (v = v') := by simp only [avle]
theorem avleL_nil : avleL [] [] = True := by simp only [avleL]
theorem avleL_cons (a b : AV) (as bs : List AV) : avleL (a :: as) (b :: bs) = (avle a b ∧ avleL as bs) := by simp only [avleL]
end
end Go.Abs
end
section
namespace Go.Abs
class Cont where
  q : Out → St → Prop
class ContS where
  q : St → Prop
class ContR where
  q : Bool → Res → Prop
def Qi [Q : Cont] (o : Out) (σ : St) : Prop := Q.q o σ
def Si [Q : ContS] (σ : St) : Prop := Q.q σ
def Ri [Q : ContR] (b : Bool) (r : Res) : Prop := Q.q b r
section
variable (P : Program) (N : Nat) (K : List Nat)
def Wi (c : ACode) [Q : Cont] (σ : St) : Prop := W P N K c Q.q σ
def Wpi (c : ACode) [Q : Cont] (σ : St) : Prop := Wp P N K c Q.q σ
def Wsi (l : List AOper) [Q : ContS] (σ : St) : Prop := wseq P l Q.q σ
def Wni (l : List AOper) (seen : List (List Nat × List Nat)) [Q : ContS] (σ : St) : Prop := wany P l seen Q.q σ
def Woi (o : AOper) (σ : St) [Q : ContR] : Prop := wop P o σ Q.q
def CallGi (m : Nat → Option AObj) (f : FuncId) (avs : List AV) (b : Bool) [Q : ContR] : Prop := CallG P m f avs b (Q.q b)
@[reducible] def CallGd (_d : Nat) (m : Nat → Option AObj) (f : FuncId) (avs : List AV) (b : Bool) [Q : ContR] : Prop := @CallGi P m f avs b Q
def WopMi (o : AOper) (σ : St) (b : Bool) [Q : ContR] : Prop :=
  match o.op with
  | .pick c x y => match σ.ev c with
    | some (cc, .sc (.bool q)) => match σ.ev x, σ.ev y with
      | some (c1, .sc (.bool p1)), some (c2, .sc (.bool p2)) =>
        (b = true → cc = true ∧ (q = true → c1 = true) ∧ (q = false → c2 = true)) ∧ Ri b ⟨some (.sc (.bool (if q then p1 else p2))), []⟩
      | some (c1, .sc (.bool p1)), none => q = true ∧ (b = true → cc = true ∧ c1 = true) ∧ Ri b ⟨some (.sc (.bool p1)), []⟩
      | none, some (c2, .sc (.bool p2)) => q = false ∧ (b = true → cc = true ∧ c2 = true) ∧ Ri b ⟨some (.sc (.bool p2)), []⟩
      | _, _ => False
    | _ => b = false ∧ Ri false ⟨none, []⟩
  | .call f xs => match target σ (.call f xs) with
    | some (f, avs) => allC σ b (AOp.call f xs).ops ∧ CallGd P (o.dst.getD 0) σ.objs f avs b
    | none => b = false ∧ Ri false ⟨none, []⟩
  | .callv x xs => match target σ (.callv x xs) with
    | some (f, avs) => allC σ b (AOp.callv x xs).ops ∧ CallGd P (o.dst.getD 0) σ.objs f avs b
    | none => b = false ∧ Ri false ⟨none, []⟩
  | op => match eval op σ.e σ.objs (o.dst.getD 0) with
    | some (p, r) => (match r.wr with
      | [] => allC σ b op.ops ∧ (b = true → p) ∧ Ri b r
      | _ :: _ => if b = true then allC σ true op.ops ∧ p ∧ Ri true r else Ri false ⟨none, []⟩)
    | none => b = false ∧ Ri false ⟨none, []⟩
@[reducible] def thenC (b : ACode) (Q : Cont) : Cont := ⟨Out.then (W P N K b Q.q) Q.q⟩
@[reducible] def blockC (id : Nat) (Q : Cont) : Cont := ⟨Out.inBlock id Q.q⟩
@[reducible] def normC (Q : Cont) : ContS := ⟨Q.q .normal⟩
@[reducible] def seqC (os : List AOper) (Q : ContS) (d : Option Nat) (σ : St) : ContR := ⟨fun b r => wseq P os Q.q (σ.put d b r)⟩
@[reducible] def anyC (o : AOper) (os : List AOper) (seen : List (List Nat × List Nat)) (Q : ContS) (σ : St) : ContR :=
  ⟨fun b r => quietR o.op r ∧ keepOff seen (foot σ o) (keys r) o.chk ∧ wany P os (seen ++ [(foot σ o, keys r)]) Q.q (σ.put o.dst b r)⟩
@[reducible] def retI (ts : List Nat) (rs : List AV) : Cont := ⟨retCQ ts rs⟩
@[reducible] def loopC {ι : Type} (T : ι → Slots) (O : ι → List (Nat × AObj)) (μ : ι → Nat) (i : ι) (Q : Cont) : Cont :=
  ⟨Out.then (fun τ => ∃ i', μ i' < μ i ∧ WeakE K τ (T i') (O i')) Q.q⟩
variable {P N K}
theorem Wi_skip {Q : Cont} {σ : St} : @Wi P N K .skip Q σ = @Qi Q .normal σ := Eq.trans rfl rfl
theorem Wi_seq {Q : Cont} {σ : St} {a b : ACode} : @Wi P N K (.seq a b) Q σ = @Wi P N K a (thenC P N K b Q) σ := Eq.trans rfl rfl
theorem Wi_seqr {Q : Cont} {σ : St} {l : List AOper} : @Wi P N K (.region false l) Q σ = @Wsi P l (normC Q) σ := rfl
theorem Wi_anyr {Q : Cont} {σ : St} {l : List AOper} : @Wi P N K (.region true l) Q σ = @Wni P l [] (normC Q) σ := rfl
theorem Wi_cond {Q : Cont} {σ : St} {c : AX} {a b : ACode} : @Wi P N K (.cond c a b) Q σ = (match σ.ev c with
    | some (true, .sc (.bool t)) => if t = true then @Wi P N K a Q σ else @Wi P N K b Q σ
    | _ => False) := Eq.trans rfl rfl
theorem Wi_scope {Q : Cont} {σ : St} {a : ACode} : @Wi P N K (.scope a) Q σ = @Wi P N K a Q σ := Eq.trans rfl rfl
theorem Wi_block {Q : Cont} {σ : St} {i : Nat} {a : ACode} : @Wi P N K (.block i a) Q σ = @Wi P N K a (blockC i Q) σ := Eq.trans rfl rfl
theorem Wi_loop {Q : Cont} {σ : St} {a : ACode} : @Wi P N K (.loop a) Q σ = @Wpi P N K (.loop a) Q σ := rfl
theorem Wi_mark {Q : Cont} {σ : St} {a : ACode} : @Wi P N K (.mark a) Q σ = @Wpi P N K a Q σ := rfl
theorem Wi_exit {Q : Cont} {σ : St} {i : Nat} : @Wi P N K (.exit i) Q σ = @Qi Q (.exit i) σ := Eq.trans rfl rfl
theorem Wi_ret {Q : Cont} {σ : St} : @Wi P N K .ret Q σ = @Qi Q .ret σ := Eq.trans rfl rfl
theorem Qi_then_normal {Q : Cont} {σ : St} {b : ACode} : @Qi (thenC P N K b Q) .normal σ = @Wi P N K b Q σ := Eq.trans rfl rfl
theorem Qi_then_exit {Q : Cont} {σ : St} {b : ACode} {i : Nat} : @Qi (thenC P N K b Q) (.exit i) σ = @Qi Q (.exit i) σ := Eq.trans rfl rfl
theorem Qi_then_ret {Q : Cont} {σ : St} {b : ACode} : @Qi (thenC P N K b Q) .ret σ = @Qi Q .ret σ := Eq.trans rfl rfl
theorem Qi_block_normal {Q : Cont} {σ : St} {id : Nat} : @Qi (blockC id Q) .normal σ = @Qi Q .normal σ := Eq.trans rfl rfl
theorem Qi_block_exit {Q : Cont} {σ : St} {id i : Nat} : @Qi (blockC id Q) (.exit i) σ = if i = id then @Qi Q .normal σ else @Qi Q (.exit i) σ := Eq.trans rfl rfl
theorem Qi_block_ret {Q : Cont} {σ : St} {id : Nat} : @Qi (blockC id Q) .ret σ = @Qi Q .ret σ := Eq.trans rfl rfl
theorem Qi_loop_exit {ι : Type} {T : ι → Slots} {O : ι → List (Nat × AObj)} {μ : ι → Nat} {i : ι} {Q : Cont} {σ : St} {j : Nat} : @Qi (loopC K T O μ i Q) (.exit j) σ = @Qi Q (.exit j) σ := rfl
theorem Qi_loop_ret {ι : Type} {T : ι → Slots} {O : ι → List (Nat × AObj)} {μ : ι → Nat} {i : ι} {Q : Cont} {σ : St} : @Qi (loopC K T O μ i Q) .ret σ = @Qi Q .ret σ := rfl
theorem Qi_ret {ts : List Nat} {rs : List AV} {σ : St} : @Qi (retI ts rs) .ret σ = retC σ ts rs := rfl
theorem Qi_end {ts : List Nat} {rs : List AV} {σ : St} : @Qi (retI ts rs) .normal σ = retC σ ts rs := rfl
theorem Si_norm {Q : Cont} {σ : St} : @Si (normC Q) σ = @Qi Q .normal σ := rfl
theorem Wsi_nil {Q : ContS} {σ : St} : @Wsi P [] Q σ = @Si Q σ := rfl
theorem Wsi_cons {Q : ContS} {σ : St} {o : AOper} {os : List AOper} : @Wsi P (o :: os) Q σ = @Woi P o σ (seqC P os Q o.dst σ) := rfl
theorem Wni_nil {Q : ContS} {σ : St} {seen : List (List Nat × List Nat)} : @Wni P [] seen Q σ = @Si Q σ := rfl
theorem Wni_cons {Q : ContS} {σ : St} {o : AOper} {os : List AOper} {seen : List (List Nat × List Nat)} : @Wni P (o :: os) seen Q σ = @Woi P o σ (anyC P o os seen Q σ) := rfl
theorem Ri_seq {Q : ContS} {σ : St} {os : List AOper} {d : Option Nat} {b : Bool} {r : Res} : @Ri (seqC P os Q d σ) b r = @Wsi P os Q (σ.put d b r) := rfl
theorem Ri_any {Q : ContS} {σ : St} {o : AOper} {os : List AOper} {seen : List (List Nat × List Nat)} {b : Bool} {r : Res} :
    @Ri (anyC P o os seen Q σ) b r = (quietR o.op r ∧ keepOff seen (foot σ o) (keys r) o.chk ∧ @Wni P os (seen ++ [(foot σ o, keys r)]) Q (σ.put o.dst b r)) := rfl
theorem Woi_def {Q : ContR} {σ : St} {o : AOper} : @Woi P o σ Q = (match guardV σ o.guard with
    | some b => @WopMi P o σ b Q
    | none => False) := by
  unfold Woi wop; cases guardV σ o.guard with
  | none => rfl
  | some b =>
    simp only
    unfold wopM WopMi
    cases o.op <;> rfl
theorem Wpi_loop {x : ACode} {Q : Cont} {σ : St} {ι : Type} (hm : P.follows .mixedOrders = true) (T : ι → Slots) (O : ι → List (Nat × AObj)) (μ : ι → Nat) (i0 : ι) (h0 : WeakE K σ (T i0) (O i0))
    (h : ∀ i, @Wi P N K x (loopC K T O μ i Q) (stOf (T i) (O i))) : @Wpi P N K (.loop x) Q σ := Wp.loop T O μ i0 h0 fun i => Wp.of_W hm x (h i)
theorem callsI_of {f : FuncId} {fn : Func} {ac : ACode} {args : List AV} {ts : List Nat} {rs : List AV} (hm : P.follows .mixedOrders = true)
    (hf : P.funcs[f]? = some fn) (hb : fn.body = some (fn.body.getD .skip)) (hname : (fn.name != "runtime.NumGoroutine") = true) (hc : compile P fn.ntmps (fn.body.getD .skip) = some ac.strip)
    (hts : tmpsOf fn.results.toList = some ts) (hnd : ts.Nodup) (hl : (args.length.ble fn.ntmps) = true)
    (h : @Wi P fn.ntmps [] ac (retI ts rs) (start args [])) : CallsA P f args [] (pack rs) [] := callsA_of hm hf hb hname hc hts hnd hl h
end
end Go.Abs
namespace Go.Abs
theorem loop_next {K : List Nat} {ι : Type} {T : ι → Slots} {O : ι → List (Nat × AObj)} {μ : ι → Nat} {i : ι} {Q : Cont} {σ : St} (i' : ι) (hμ : μ i' < μ i) (h : WeakE K σ (T i') (O i')) :
    @Qi (loopC K T O μ i Q) .normal σ := ⟨i', hμ, h⟩
end Go.Abs
end
section
namespace Go.Abs
def RelC (W : World) (avs : List AV) (cs : List Value) : Prop :=
  cs.length = avs.length ∧ ∀ (j : Nat) (av : AV), avs[j]? = some av → av.pure = true ∧ Rel (fun b => b < W.heap.size) W (fun _ => none) av (cs.getD j undef)
def Opens {α : Type} (P : Program) (W : World) (t : TypeId) (enc : α → List AV) (Ok : α → Prop) : Prop :=
  ∀ (H : Type) (e : TypeId × Value → H) (base : Nat) (spare : Nat → Bool) (held : Bool) (n : Nat) (cs : List Value) (x : DataW H × List MemPlace),
    DataW.trod e P W base spare held n t cs = some x → ∃ a, Ok a ∧ RelC W (enc a) cs
section
variable {P : Program} {W : World}
theorem opens_int {t : TypeId} {k : IntKind} (ht : P.underlying t = some (.int k)) : Opens P W t (fun n : Int => [.sc (.int k n)]) (fun n => (Lit.int k n).wf = true) := by
  intro H e base spare held n cs x h
  obtain ⟨z, rfl, _, hw⟩ := DataW.trod_int ht h
  refine ⟨z, hw, rfl, fun j av hj => ?_⟩
  cases j with
  | zero => simp only [List.getElem?_cons_zero, Option.some.injEq] at hj; subst hj; exact ⟨rfl, .sc rfl⟩
  | succ j => simp at hj
theorem opens_bool {t : TypeId} (ht : P.underlying t = some .bool) : Opens P W t (fun b : Bool => [.sc (.bool b)]) (fun _ => True) := by
  intro H e base spare held n cs x h
  obtain ⟨z, rfl, _⟩ := DataW.trod_bool ht h
  refine ⟨z, trivial, rfl, fun j av hj => ?_⟩
  cases j with
  | zero => simp only [List.getElem?_cons_zero, Option.some.injEq] at hj; subst hj; exact ⟨rfl, .sc rfl⟩
  | succ j => simp at hj
theorem Opens.map {α β : Type} {t : TypeId} {enc : α → List AV} {enc' : β → List AV} {Ok : α → Prop} {Ok' : β → Prop} (h : Opens P W t enc Ok) (g : α → β) (he : ∀ a, enc' (g a) = enc a) (hk : ∀ a, Ok a → Ok' (g a)) : Opens P W t enc' Ok' := by
  intro H e base spare held n cs x hx
  obtain ⟨a, h1, h2⟩ := h H e base spare held n cs x hx
  exact ⟨g a, hk a h1, by rw [he]; exact h2⟩
theorem RelC.append {xs ys : List AV} {cs ds : List Value} (h1 : RelC W xs cs) (h2 : RelC W ys ds) : RelC W (xs ++ ys) (cs ++ ds) := by
  refine ⟨by simp [h1.1, h2.1], fun j av hj => ?_⟩
  by_cases hjl : j < xs.length
  · rw [List.getElem?_append_left hjl] at hj
    have := h1.2 j av hj
    simpa [List.getD, List.getElem?_append_left (show j < cs.length by rw [h1.1]; exact hjl)] using this
  · rw [List.getElem?_append_right (by omega)] at hj
    have := h2.2 _ av hj
    simpa [List.getD, List.getElem?_append_right (show cs.length ≤ j by rw [h1.1]; omega), h1.1] using this
def OpensF {α : Type} (P : Program) (W : World) (fs : List Field) (off size : Nat) (enc : α → List AV) (Ok : α → Prop) : Prop :=
  ∀ (H : Type) (e : TypeId × Value → H) (base : Nat) (spare : Nat → Bool) (held : Bool) (n : Nat) (cs : List Value), cs.length = size →
    (∀ f ∈ fs, ∃ x, DataW.trod e P W base spare held n f.type ((cs.drop f.offset).take (P.cellsOf f.type)) = some x) → ∃ a, Ok a ∧ RelC W (enc a) (cs.drop off)
theorem opensF_nil {size : Nat} : OpensF P W [] size size (fun _ : Unit => []) (fun _ => True) := by
  intro H e base spare held n cs hl _
  exact ⟨(), trivial, by rw [List.drop_of_length_le (by omega)]; rfl, fun j av hj => by simp at hj⟩
theorem opensF_cons {α β : Type} {f : Field} {fs : List Field} {off size : Nat} {enc : α → List AV} {enc' : β → List AV} {Ok : α → Prop} {Ok' : β → Prop}
    (h1 : Opens P W f.type enc Ok) (ho : f.offset = off) (h2 : OpensF P W fs (off + P.cellsOf f.type) size enc' Ok') :
    OpensF P W (f :: fs) off size (fun p : α × β => enc p.1 ++ enc' p.2) (fun p => Ok p.1 ∧ Ok' p.2) := by
  intro H e base spare held n cs hl hf
  obtain ⟨x, hx⟩ := hf f (List.mem_cons_self ..)
  obtain ⟨a, ha, hr⟩ := h1 H e base spare held n _ x hx
  obtain ⟨b, hb, hr'⟩ := h2 H e base spare held n cs hl (fun g hg => hf g (List.mem_cons_of_mem _ hg))
  refine ⟨(a, b), ⟨ha, hb⟩, ?_⟩
  have : cs.drop off = (cs.drop off).take (P.cellsOf f.type) ++ cs.drop (off + P.cellsOf f.type) := by
    rw [← List.drop_drop, List.take_append_drop]
  rw [this]
  rw [ho] at hr
  exact hr.append hr'
theorem opens_struct {α : Type} {t : TypeId} {fs : Array Field} {enc : α → List AV} {Ok : α → Prop} (ht : P.underlying t = some (.struct fs)) (h : OpensF P W fs.toList 0 (P.cellsOf t) enc Ok) : Opens P W t enc Ok := by
  intro H e base spare held n cs x hx
  obtain ⟨xs, m, _, _, hl, hlen, hf⟩ := DataW.trod_struct ht hx
  have := h H e base spare held m cs hl fun f hfm => by
    obtain ⟨i, hi⟩ := List.getElem?_of_mem hfm
    have hi' : fs[i]? = some f := by simpa using hi
    rw [hf i f hi']
    have hlt : i < xs.length := by rw [hlen]; exact (Array.getElem?_eq_some_iff.1 hi').1
    exact ⟨xs[i], List.getElem?_eq_getElem hlt⟩
  simpa using this
theorem opens_slice {α : Type} {t el : TypeId} {enc : α → List AV} {Ok : α → Prop} {d : α} {z : Nat} (ht : P.underlying t = some (.slice el)) (hz : P.cellsOf el = z) (hz0 : 0 < z)
    (h : Opens P W el enc Ok) : Opens P W t (fun l : List α => [encL z enc d l]) (fun l => (∀ a ∈ l, Ok a) ∧ l.length ≤ maxLen) := by
  intro H e base spare held n cs x hx
  have mk : ∀ (l : List α) (v : Value), ((∀ a ∈ l, Ok a) ∧ l.length ≤ maxLen) → Rel (fun b => b < W.heap.size) W (fun _ => none) (encL z enc d l) v →
      ∃ a : List α, ((∀ b ∈ a, Ok b) ∧ a.length ≤ maxLen) ∧ RelC W [encL z enc d a] [v] := fun l v hl hr => by
    refine ⟨l, hl, rfl, fun j av hj => ?_⟩
    cases j with
    | zero => simp only [List.getElem?_cons_zero, Option.some.injEq] at hj; subst hj; exact ⟨rfl, hr⟩
    | succ j => simp at hj
  rcases DataW.trod_slice ht hx with ⟨rfl, _⟩ | ⟨a, len, cap, elems, rest, m, _, rfl, _, hb, hlc, hcm, hel, hf, _, _⟩
  · exact mk [] _ ⟨fun a ha => by simp at ha, by simp⟩ .dslNil
  · by_cases hl0 : len = 0
    · subst hl0
      exact mk [] _ ⟨fun a ha => by simp at ha, by simp⟩ (.dslE a cap)
    · -- each element
      have each : ∀ i, i < len → ∃ (b : α) (ds : List Value), Ok b ∧ RelC W (enc b) ds ∧ W.cells? base (a.add (i * z)) z = some ds := fun i hi => by
        have h1 := hf i hi
        rw [hz] at h1
        have hlt : i < elems.length := by omega
        rw [List.getElem?_eq_getElem hlt] at h1
        cases hc : W.cells? base (a.add (i * z)) z with
        | none => rw [hc] at h1; cases h1
        | some ds =>
          rw [hc] at h1
          obtain ⟨b, hb1, hb2⟩ := h H e base spare held m ds _ h1
          exact ⟨b, ds, hb1, hb2, rfl⟩
      have hpick : ∀ i, ∃ b : α, i < len → ∃ ds : List Value, Ok b ∧ RelC W (enc b) ds ∧ W.cells? base (a.add (i * z)) z = some ds := fun i => by
        by_cases hi : i < len
        · obtain ⟨b, ds, h1, h2, h3⟩ := each i hi; exact ⟨b, fun _ => ⟨ds, h1, h2, h3⟩⟩
        · exact ⟨d, fun h => absurd h hi⟩
      obtain ⟨f, hfs⟩ := Classical.axiomOfChoice hpick
      obtain ⟨l, hl⟩ : ∃ l : List α, l = (List.range len).map f := ⟨_, rfl⟩
      have hll : l.length = len := by rw [hl]; simp
      have hget : ∀ i, i < len → l.getD i d = f i := fun i hi => by rw [hl]; simp [List.getD, hi]
      -- the address is plain
      obtain ⟨ds0, _, _, hc0⟩ := hfs 0 (by omega)
      have hspot : a.spot = none := by
        obtain ⟨_, hdl, hcell⟩ := World.cells?_some hc0
        have h1 := hcell 0 hz0
        rw [List.getElem?_eq_getElem (by omega)] at h1
        have := World.cell?_spot h1
        simpa [Addr.add] using this
      have hblk : a.block < W.heap.size := by
        have := World.cells?_block hc0 hz0
        simpa [Addr.add] using this
      obtain ⟨b, off, spot⟩ := a
      simp only at hspot hblk
      subst hspot
      have cell : ∀ i j, i < len → j < z → ∃ ds : List Value, RelC W (enc (f i)) ds ∧ W.cell? ⟨b, off + (i * z + j), none⟩ = some (ds.getD j undef) ∧ ds.length = z := fun i j hi hj => by
        obtain ⟨ds, _, h2, h3⟩ := hfs i hi
        obtain ⟨_, hdl, hcell⟩ := World.cells?_some h3
        refine ⟨ds, h2, ?_, hdl⟩
        have h1 := hcell j hj
        rw [List.getElem?_eq_getElem (by omega)] at h1
        rw [addr_add, addr_add, Nat.add_assoc] at h1
        rw [h1, List.getD, List.getElem?_eq_getElem (by omega)]; rfl
      have elen : ∀ i, i < len → (enc (f i)).length = z := fun i hi => by
        obtain ⟨ds, h1, _, h3⟩ := cell i 0 hi hz0
        rw [← h1.1, h3]
      refine mk l _ ⟨fun x hx => ?_, by rw [hll]; omega⟩ ?_
      · rw [hl, List.mem_map] at hx
        obtain ⟨i, hi, rfl⟩ := hx
        obtain ⟨_, h1, _⟩ := hfs i (by simpa using hi)
        exact h1
      · unfold encL
        rw [hll]
        refine .dsl b off cap (fun i j => (W.cell? ⟨b, off + (i * z + j), none⟩).getD undef) hblk hlc (fun i hi => ?_) (fun i j av hi hj => ?_) (fun i j hi hj => ?_) (fun i j av hi hj => ?_)
        · rw [hget i hi]; exact elen i hi
        · rw [hget i hi] at hj
          have hjz : j < z := by
            rw [← elen i hi]; rcases Nat.lt_or_ge j (enc (f i)).length with h | h
            · exact h
            · rw [List.getElem?_eq_none h] at hj; cases hj
          obtain ⟨ds, h1, _, _⟩ := cell i j hi hjz
          exact (h1.2 j av hj).1
        · obtain ⟨ds, _, h2, _⟩ := cell i j hi hj
          rw [h2]; rfl
        · rw [hget i hi] at hj
          have hjz : j < z := by
            rw [← elen i hi]; rcases Nat.lt_or_ge j (enc (f i)).length with h | h
            · exact h
            · rw [List.getElem?_eq_none h] at hj; cases hj
          obtain ⟨ds, h1, h2, _⟩ := cell i j hi hjz
          simp only [h2, Option.getD_some]
          exact (h1.2 j av hj).2
end
end Go.Abs
end
section
namespace Go.Abs
section
variable {P : Program}
@[reducible] def retIO (K : List Nat) (ts : List Nat) (rs : List AV) (O' : List (Nat × AObj)) : Cont :=
  ⟨fun o σ => match o with | .exit _ => False | .normal => RetW K σ ts rs O' | .ret => RetW K σ ts rs O'⟩
theorem Qi_retO {K ts : List Nat} {rs : List AV} {O' : List (Nat × AObj)} {σ : St} : @Qi (retIO K ts rs O') .ret σ = RetW K σ ts rs O' := rfl
theorem Qi_endO {K ts : List Nat} {rs : List AV} {O' : List (Nat × AObj)} {σ : St} : @Qi (retIO K ts rs O') .normal σ = RetW K σ ts rs O' := rfl
def argsOC (m : Nat → Option AObj) (ρ : Nat → Nat) (O : List (Nat × AObj)) : List Bool → List AV → List AV → List (Nat × AObj) → (List (Nat × AObj) → Prop) → Prop
  | [], [], [], acc, K => K acc
  | true :: md, a :: as, c :: cs, acc, K => a = c.ren ρ ∧ (∀ i ∈ c.ids, (ofL O i).isSome) ∧ argsOC m ρ O md as cs acc K
  | false :: md, a :: as, c :: cs, acc, K => match freezeAV m a with
    | some (p, c1, w) => p ∧ avle c1 c ∧ argsOC m ρ O md as cs (acc ++ w) K
    | none => False
  | _, _, _, _, _ => False
def objsInC (m : Nat → Option AObj) (ρ : Nat → Nat) (O : List (Nat × AObj)) : List (Nat × AObj) → Prop
  | [] => True
  | (i, o) :: r => m (ρ i) = some (o.ren ρ) ∧ (match o with | .box cs => ∀ j ∈ idsL cs, (ofL O j).isSome | _ => True) ∧ objsInC m ρ O r
def newC (m : Nat → Option AObj) (ρ : Nat → Nat) (O : List (Nat × AObj)) : List (Nat × AObj) → Prop
  | [] => True
  | (i, _) :: r => (if (ofL O i).isSome then True else m (ρ i) = none) ∧ newC m ρ O r
end
end Go.Abs
end
section
namespace Go.Abs
attribute [go_sem] Bool.true_and AV.one eqCells Option.isSome_none Bool.and_false Bool.or_false Bool.or_true Bool.and_true source nid setSq_n encSq_n encSq_g slotsC objsC keepOff assoc List.not_mem_nil false_implies implies_true List.mem_singleton List.mem_cons forall_eq Option.isSome_some or_false or_true Option.getD_some Option.getD_none Nat.zero_add List.drop_one List.tail_cons Wi_skip Wi_seq Wi_seqr Wi_anyr Wi_cond Wi_block Wi_scope Wi_loop Wi_mark Wi_exit Wi_ret Qi_then_normal Qi_then_exit Qi_then_ret Qi_block_normal Qi_block_exit Qi_block_ret Qi_loop_exit Qi_loop_ret Qi_ret Qi_end Si_norm Wsi_nil Wsi_cons Wni_nil Wni_cons Ri_seq Ri_any Woi_def WopMi guardV eval target St.es start stOf argSlots envT St.e St.ev St.c St.put AOp.ops allC upd_apply binAV unAV takeN takeE wrm List.foldl_nil List.foldl_cons List.map_nil List.map_cons Option.map_some Option.map_none and_self true_and and_true ne_eq not_true_eq_false true_implies not_false_eq_true if_true if_false eq_self Bool.true_eq_false Bool.false_eq_true fillA splice AV.cells List.length_cons List.length_nil List.drop_zero List.drop_succ_cons List.append_nil List.nil_append List.cons_append Bool.not_true Bool.not_false and_false false_and List.getElem?_cons_zero List.getElem?_cons_succ retC freezeAV freezeCell avle_scsc avleL_nil avleL_cons AV.pure AV.flat imp_self ofL pack AV.ren List.all_cons List.all_nil Bool.and_self List.take_succ_cons List.take_zero freezeL cellsOf idsL AV.ids flats List.reverse_nil gt_iff_lt ge_iff_le decide_eq_true_eq Int.toNat_natCast encL bor band bor2 band2 Bool.not_eq_true' Bool.not_eq_false' Bool.not_not optI esL isNilA argsOC objsInC newC renO AObj.ren renL Qi_retO Qi_endO cellC boxC zip3 List.map_append Option.isNone_none Option.isNone_some List.nodup_cons List.nodup_nil Prod.mk.injEq Option.some.injEq AV.sc.injEq Value.int.injEq Value.bool.injEq AV.sl.injEq AV.ptr.injEq AV.agg.injEq List.cons.injEq
end Go.Abs
end
section
namespace Go.Abs
def rvOf (P : Program) : List ResultVar → Option (List (Nat × Option (Option Nat)))
  | [] => some []
  | .tmp t :: r => match rvOf P r with
    | some l => some ((t, none) :: l)
    | none => none
  | .cell a t :: r => match cellsN P t, rvOf P r with
    | some n, some l => some ((a, some n) :: l)
    | _, _ => none
def retR : St → Nat → List (Nat × Option (Option Nat)) → (St → Prop) → Prop
  | σ, _, [], K => K σ
  | σ, M, (t, none) :: r, K => retR ⟨upd σ.env M (σ.env t), σ.objs⟩ (M + 1) r K
  | σ, M, (a, some n) :: r, K => match eval (.load n (.t a)) σ.e σ.objs 0 with
    | some (p, ⟨some v, []⟩) => σ.c (.t a) = true ∧ p ∧ retR ⟨upd σ.env M (some (true, v)), σ.objs⟩ (M + 1) r K
    | _ => False
section
variable {P : Program} {G : Nat → Prop} {w : World} {ob : Place}
theorem Sim.push {M : Nat} {σ : St} {a : Act} (h : Sim M σ a w ob G) (x : Option (Bool × AV)) (v : Value) (hx : ∀ av, x = some (true, av) → Rel G w ob av v) (hx0 : ∀ av, x = some (false, av) → v = undef) :
    Sim (M + 1) ⟨upd σ.env M x, σ.objs⟩ { a with tmps := a.tmps.push v } w ob G := by
  refine ⟨by simp [h.size], h.defers, h.objs, fun t av ht => ?_, fun t av ht => ?_⟩
  rotate_left
  · simp only [upd] at ht
    split at ht
    · rename_i e; subst e
      rw [hx0 av ht, ← h.size]; simp
    · have h1 := h.env0 t av ht
      have hlt : t < a.tmps.size := (Array.getElem?_eq_some_iff.1 h1).1
      simp only [Array.getElem?_push]; rw [if_neg (by omega)]; exact h1
  simp only [upd] at ht
  split at ht
  · rename_i e; subst e
    exact ⟨v, by rw [← h.size]; simp, hx av ht⟩
  · obtain ⟨u, h1, h2⟩ := h.env t av ht
    have hlt : t < a.tmps.size := (Array.getElem?_eq_some_iff.1 h1).1
    exact ⟨u, by simp only [Array.getElem?_push]; rw [if_neg (by omega)]; exact h1, h2⟩
def CellsT (P : Program) (t : TypeId) (n : Option Nat) : Prop := match n with | none => isAggB P t = some false | some k => isAggB P t = some true ∧ szOf P t = some k
theorem cellsN_spec {t : TypeId} {n : Option Nat} (h : cellsN P t = some n) : CellsT P t n := by
  unfold cellsN at h
  split at h
  · simp only [Option.some.injEq] at h; subst h; assumption
  · rename_i hagg
    split at h
    · rename_i k hk'
      simp only [Option.some.injEq] at h; subst h; exact ⟨hagg, hk'⟩
    · cases h
  · cases h
theorem retR_ok (tmps0 : Array Value) (f : ResultVar → Sem Value) (hf1 : ∀ t, f (.tmp t) = pure (tmps0.getD t undef)) (hf2 : ∀ a t, f (.cell a t) = (do loadVar t (← asAddr (tmps0.getD a undef)))) :
    ∀ (l : List ResultVar) (rvs : List (Nat × Option (Option Nat))) (M : Nat) (σ : St) (a : Act) (K : St → Prop), rvOf P l = some rvs → Sim M σ a w ob G → tmps0.size ≤ M → (∀ t, t < tmps0.size → a.tmps[t]? = tmps0[t]?) →
      (∀ p ∈ rvs, p.1 < tmps0.size) → retR σ M rvs K →
      ∃ σ2 a2 vs, K σ2 ∧ Sim (M + rvs.length) σ2 a2 w ob G ∧ (l.mapM f).run P w = .ok vs w ∧ vs.length = rvs.length ∧ (∀ j, j < rvs.length → a2.tmps[M + j]? = vs[j]?) ∧ (∀ t, t < M → a2.tmps[t]? = a.tmps[t]?)
  | [], rvs, M, σ, a, K, hl, hs, hM, hpre, hlt, h => by
    simp only [rvOf, Option.some.injEq] at hl; subst hl
    exact ⟨σ, a, [], h, hs, by simp, rfl, fun j hj => by simp at hj, fun t _ => rfl⟩
  | .tmp t :: l, rvs, M, σ, a, K, hl, hs, hM, hpre, hlt, h => by
    simp only [rvOf] at hl
    split at hl
    case h_2 => cases hl
    rename_i rvs' hl'
    simp only [Option.some.injEq] at hl; subst hl
    simp only [retR] at h
    have ht := hlt (t, none) (by simp)
    simp only at ht
    have hs1 := hs.push (σ.env t) (tmps0.getD t undef) (fun av hav => by
      obtain ⟨v, h1, h2⟩ := hs.env t av hav
      rw [hpre t ht] at h1
      rw [Array.getD_eq_getD_getElem?, h1]; exact h2) fun av hav => by
      have h1 := hs.env0 t av hav
      rw [hpre t ht] at h1
      rw [Array.getD_eq_getD_getElem?, h1]; rfl
    obtain ⟨σ2, a2, vs, k1, k2, k3, k4, k5, k6⟩ := retR_ok tmps0 f hf1 hf2 l rvs' (M + 1) _ _ K hl' hs1 (by omega) (fun u hu => by
      simp only [Array.getElem?_push]; rw [if_neg (by rw [hs.size]; omega)]; exact hpre u hu) (fun p hp => hlt p (by simp [hp])) h
    refine ⟨σ2, a2, tmps0.getD t undef :: vs, k1, by rw [List.length_cons, show M + (rvs'.length + 1) = M + 1 + rvs'.length by omega]; exact k2, ?_, by simp [k4], fun j hj => ?_, fun u hu => ?_⟩
    · rw [List.mapM_cons, hf1]; simp [k3]
    · cases j with
      | zero =>
        rw [Nat.add_zero, k6 M (by omega), List.getElem?_cons_zero]
        show (a.tmps.push _)[M]? = _
        rw [← hs.size]; simp
      | succ j =>
        have := k5 j (by simpa using hj)
        rw [List.getElem?_cons_succ, ← this]; congr 1; omega
    · rw [k6 u (by omega)]; simp only [Array.getElem?_push]; rw [if_neg (by rw [hs.size]; omega)]
  | .cell c t :: l, rvs, M, σ, a, K, hl, hs, hM, hpre, hlt, h => by
    simp only [rvOf] at hl
    split at hl
    case h_2 => cases hl
    rename_i n rvs' hcn hl'
    simp only [Option.some.injEq] at hl; subst hl
    simp only [retR] at h
    split at h
    case h_2 => exact h.elim
    rename_i p v hev
    obtain ⟨hc, hp, h⟩ := h
    have ht := hlt (c, some n) (by simp)
    simp only at ht
    have hop : OpRel G w ob (a.eval) σ.e' := hs.opRel
    have hev' : eval (.load n (.t c)) σ.e' σ.objs 0 = some (p, ⟨some v, []⟩) := by
      rw [← eval_congr (fun x hx => e_eq_e' (by simp only [AOp.ops, List.mem_singleton] at hx; subst hx; exact hc))]; exact hev
    have hload : ∃ u, (do loadVar t (← asAddr (tmps0.getD c undef))).run P w = .ok u w ∧ Rel G w ob v u := by
      have hval : a.eval (.tmp c) = tmps0.getD c undef := by
        show a.tmps.getD c undef = _
        rw [Array.getD_eq_getD_getElem?, hpre c ht, ← Array.getD_eq_getD_getElem?]
      simp only [eval] at hev'
      have tn := cellsN_spec hcn
      split at hev'
      · rename_i cs hx
        simp only [Option.map_eq_some_iff, Prod.mk.injEq, Res.mk.injEq, Option.some.injEq] at hev'
        obtain ⟨v', hk, _, rfl, _⟩ := hev'
        obtain ⟨b, off, hxe, hG, hcell⟩ := fptr_cells (hop (.tmp c) (.t c) _ rfl hx)
        obtain ⟨u, h1, h2⟩ := run_loadVar_cells tn hcell hk
        rw [← hval, hxe]
        exact ⟨u, by simp [asAddr, h1], h2⟩
      · rename_i id k o tot hx
        have hcases : (∃ z s, σ.objs id = some (.arrP z s)) ∨ (∀ z s, σ.objs id ≠ some (.arrP z s)) := by
          by_cases h : ∃ z s, σ.objs id = some (.arrP z s)
          · exact .inl h
          · exact .inr fun z s e => h ⟨z, s, e⟩
        rcases hcases with ⟨z, s, hm⟩ | hnm
        · rw [hm] at hev'
          obtain ⟨rfl, b, off, u, hxe, hcell, hrel⟩ := loadP_cell hs.objs hm (hop (.tmp c) (.t c) _ rfl hx) hev' hp
          rw [← hval, hxe]
          exact ⟨u, by simp [asAddr, loadVar, run_isAgg tn, hcell], hrel⟩
        replace hev' : (match cellsOf σ.objs id k tot with
          | some (p, cs) => (takeN n (cs.drop o)).map fun v => (p, (⟨some v, []⟩ : Res))
          | none => none) = some (p, ⟨some v, []⟩) := by
          split at hev'
          · rename_i z s hm; exact absurd hm (hnm z s)
          · exact hev'
        split at hev'
        case h_2 => cases hev'
        rename_i p' cs hcs
        simp only [Option.map_eq_some_iff, Prod.mk.injEq, Res.mk.injEq, Option.some.injEq] at hev'
        obtain ⟨v', hk, rfl, rfl, _⟩ := hev'
        obtain ⟨b, base, hxe, hcell⟩ := ptr_cells hs.objs (hop (.tmp c) (.t c) _ rfl hx) hcs hp
        obtain ⟨u, h1, h2⟩ := run_loadVar_cells tn (hcell.drop o) hk
        rw [← hval, hxe]
        exact ⟨u, by simp [asAddr, h1], h2⟩
      · cases hev'
    obtain ⟨u, hrun, hrel⟩ := hload
    have hs1 := hs.push (some (true, v)) u (fun av hav => by simp only [Option.some.injEq, Prod.mk.injEq, true_and] at hav; subst hav; exact hrel) (fun av hav => by simp at hav)
    obtain ⟨σ2, a2, vs, k1, k2, k3, k4, k5, k6⟩ := retR_ok tmps0 f hf1 hf2 l rvs' (M + 1) _ _ K hl' hs1 (by omega) (fun q hq => by
      simp only [Array.getElem?_push]; rw [if_neg (by rw [hs.size]; omega)]; exact hpre q hq) (fun p hp => hlt p (by simp [hp])) h
    refine ⟨σ2, a2, u :: vs, k1, by rw [List.length_cons, show M + (rvs'.length + 1) = M + 1 + rvs'.length by omega]; exact k2, ?_, by simp [k4], fun j hj => ?_, fun q hq => ?_⟩
    · rw [List.mapM_cons, hf2]
      simp only [Sem.run_bind, hrun, k3, Result.andThen_ok]
      rfl
    · cases j with
      | zero =>
        rw [Nat.add_zero, k6 M (by omega), List.getElem?_cons_zero]
        show (a.tmps.push _)[M]? = _
        rw [← hs.size]; simp
      | succ j =>
        have := k5 j (by simpa using hj)
        rw [List.getElem?_cons_succ, ← this]; congr 1; omega
    · rw [k6 q (by omega)]; simp only [Array.getElem?_push]; rw [if_neg (by rw [hs.size]; omega)]
end
end Go.Abs
namespace Go.Abs
section
variable {P : Program}
theorem results_run2 {fn : Func} {rvs : List (Nat × Option (Option Nat))} {M : Nat} {σ : St} {a : Act} {w : World} {ob : Place} {G : Nat → Prop} {K : St → Prop} (h : rvOf P fn.results.toList = some rvs) (hs : Sim M σ a w ob G)
    (hlt : ∀ p ∈ rvs, p.1 < M) (hr : retR σ M rvs K) :
    ∃ σ2 a2 v, K σ2 ∧ Sim (M + rvs.length) σ2 a2 w ob G ∧ (results fn a.tmps).run P w = .ok v w ∧ v = (match (List.range' M rvs.length).map (fun t => a2.tmps.getD t undef) with | [x] => x | vs => .tuple vs.toArray) := by
  let f : ResultVar → Sem Value := fun
    | .tmp t => pure (a.tmps.getD t undef)
    | .cell c t => do loadVar t (← asAddr (a.tmps.getD c undef))
  obtain ⟨σ2, a2, vs, k1, k2, k3, k4, k5, k6⟩ := retR_ok a.tmps f (fun _ => rfl) (fun _ _ => rfl) fn.results.toList rvs M σ a K h hs (by rw [hs.size]; exact Nat.le_refl _) (fun _ _ => rfl) (fun p hp => by rw [hs.size]; exact hlt p hp) hr
  have hvs : (List.range' M rvs.length).map (fun t => a2.tmps.getD t undef) = vs := by
    apply List.ext_getElem?
    intro j
    by_cases hj : j < rvs.length
    · rw [List.getElem?_map, List.getElem?_range' hj, ← k5 j hj]
      simp only [Option.map_some, Nat.one_mul]
      have hlt2 : j < vs.length := by omega
      have := k5 j hj
      rw [List.getElem?_eq_getElem hlt2] at this
      rw [Array.getD_eq_getD_getElem?, this]; rfl
    · rw [List.getElem?_eq_none (by simp; omega), List.getElem?_eq_none (by omega)]
  refine ⟨σ2, a2, _, k1, k2, ?_, rfl⟩
  rw [hvs]
  unfold results
  have h1 : fn.results = fn.results.toList.toArray := by simp
  have h2 : (fn.results.mapM f).run P w = .ok vs.toArray w := by
    rw [h1, List.mapM_toArray]
    simp only [map_eq_pure_bind, Sem.run_bind, k3, Result.andThen_ok]; rfl
  show (do let vs ← fn.results.mapM f; pure (if h : vs.size = 1 then vs[0] else .tuple vs) : Sem Value).run P w = _
  rw [Sem.run_bind, h2, Result.andThen_ok]
  match vs with
  | [] => rfl
  | [x] => rfl
  | x :: y :: r => rfl
@[reducible] def retIR (N : Nat) (rvs : List (Nat × Option (Option Nat))) (rs : List AV) : Cont :=
  ⟨fun o σ => match o with | .exit _ => False | .normal => retR σ N rvs fun σ2 => retC σ2 (List.range' N rvs.length) rs | .ret => retR σ N rvs fun σ2 => retC σ2 (List.range' N rvs.length) rs⟩
@[reducible] def retIRO (N : Nat) (K : List Nat) (rvs : List (Nat × Option (Option Nat))) (rs : List AV) (O' : List (Nat × AObj)) : Cont :=
  ⟨fun o σ => match o with | .exit _ => False | .normal => retR σ N rvs fun σ2 => RetW K σ2 (List.range' N rvs.length) rs O' | .ret => retR σ N rvs fun σ2 => RetW K σ2 (List.range' N rvs.length) rs O'⟩
theorem Qi_retR {N : Nat} {rvs : List (Nat × Option (Option Nat))} {rs : List AV} {σ : St} : @Qi (retIR N rvs rs) .ret σ = retR σ N rvs fun σ2 => retC σ2 (List.range' N rvs.length) rs := rfl
theorem Qi_endR {N : Nat} {rvs : List (Nat × Option (Option Nat))} {rs : List AV} {σ : St} : @Qi (retIR N rvs rs) .normal σ = retR σ N rvs fun σ2 => retC σ2 (List.range' N rvs.length) rs := rfl
theorem Qi_retRO {N : Nat} {K : List Nat} {rvs : List (Nat × Option (Option Nat))} {rs : List AV} {O' : List (Nat × AObj)} {σ : St} : @Qi (retIRO N K rvs rs O') .ret σ = retR σ N rvs fun σ2 => RetW K σ2 (List.range' N rvs.length) rs O' := rfl
theorem Qi_endRO {N : Nat} {K : List Nat} {rvs : List (Nat × Option (Option Nat))} {rs : List AV} {O' : List (Nat × AObj)} {σ : St} : @Qi (retIRO N K rvs rs O') .normal σ = retR σ N rvs fun σ2 => RetW K σ2 (List.range' N rvs.length) rs O' := rfl
theorem callsW_of {f : FuncId} {fn : Func} {ac : ACode} {args : List AV} {O O' : List (Nat × AObj)} {rvs : List (Nat × Option (Option Nat))} {rs : List AV}
    (hf : P.funcs[f]? = some fn) (hb : fn.body = some (fn.body.getD .skip)) (hname : (fn.name != "runtime.NumGoroutine") = true) (hc : compile P fn.ntmps (fn.body.getD .skip) = some ac.strip)
    (hts : rvOf P fn.results.toList = some rvs) (hlt : (rvs.all fun p => p.1.blt fn.ntmps) = true) (hl : (args.length.ble fn.ntmps) = true)
    (h : Wp P fn.ntmps (O.map (·.1)) ac (retIRO fn.ntmps (O.map (·.1)) rvs rs O').q (start args O)) : CallsA P f args O (pack rs) O' := by
  refine ⟨by unfold callableB; rw [hf]; simp only; rw [hb]; simp [hname], fun G w ob vals hs hr => ?_⟩
  refine calls_of_wp hf hb ?_
  have h1 := h _ hc ⟨G, w, ob⟩ _ w ob G (start_sim hs hr (Nat.le_of_ble_eq_true hl)) ⟨Fr.refl G w ob, fun id i _ hi => ⟨i, hi, .inl rfl⟩⟩
  refine wp_mono h1 ?_
  rintro e a' w' ⟨o, σ, ob1, G1, rfl, hq, s, hΓ⟩
  have hlt' : ∀ p ∈ rvs, p.1 < fn.ntmps := fun p hp => by
    have := List.all_eq_true.1 hlt p hp
    simpa [Nat.blt_eq] using this
  have fin : (retR σ fn.ntmps rvs fun σ2 => RetW (O.map (·.1)) σ2 (List.range' fn.ntmps rvs.length) rs O') → a'.defers = [] ∧ ∃ v, (results fn a'.tmps).run P w' = .ok v w' ∧
      ∃ v' G' ob', Ending.returned v = .returned v' ∧ SimO G' w' ob' (ofL O') ∧ Rel G' w' ob' (pack rs) v' ∧ Fr G w ob G' w' ob' ∧ OBext ob ob' := by
    intro hR
    obtain ⟨σ2, a2, v, k1, k2, hv, hv'⟩ := results_run2 hts s hlt' hR
    obtain ⟨md, hml, hrl, ρ, A, hw⟩ := k1
    obtain ⟨ob2, G2, g1, g2, g3⟩ := weak_ok k2 hw
    refine ⟨s.defers, v, hv, v, G2, ob2, rfl, g1.objs, ?_, hΓ.fr.trans g2, ?_⟩
    · rw [hv']
      exact pack_rel hrl fun j t r ht hr => g1.env t r (envT_zip3 hml hrl List.nodup_range' j t r ht hr)
    · intro id i hi
      have hk : id ∈ O.map (·.1) := by
        cases ho : ofL O id with
        | none => rw [(hs.dom id).1 ho] at hi; cases hi
        | some o => obtain ⟨o', ho'⟩ := ofL_mem (by rw [ho]; rfl); exact List.mem_map_of_mem (f := (·.1)) ho'
      obtain ⟨i', hi', h'⟩ := hΓ.ext id i hk hi
      exact ⟨i', by rw [g3 id hk]; exact hi', h'⟩
  cases o with
  | normal => exact fin hq
  | exit i => exact hq.elim
  | ret => exact fin hq
end
attribute [go_sem] retR Qi_retR Qi_endR Qi_retRO Qi_endRO List.range'_succ List.range'_zero
end Go.Abs
end
section
namespace Go.Abs
theorem avle_self (a : AV) : avle a a = True := eq_true (avle_refl a)
theorem avleL_self (l : List AV) : avleL l l = True := eq_true (avleL_refl l)
theorem objLeC_self {ρ : Nat → Nat} {z : Nat} {s : Sq} : objLeC ρ (.arr z s) (.arr z s) = True := eq_true objLeC_refl
theorem avle_agg_agg (cs cs' : List AV) : avle (.agg cs) (.agg cs') = avleL cs cs' := by simp only [avle]
theorem take_snoc {α : Type} {l : List α} {i : Nat} (d : α) (h : i < l.length) : l.take (i + 1) = l.take i ++ [l.getD i d] := by
  rw [List.take_add_one, List.getElem?_eq_getElem h]; simp [List.getD, h]
attribute [go_sem] avle_self avleL_self objLeC_self
section
variable {α : Type}
def encAt (enc : α → List AV) (d : α) (l : List α) : Nat → List AV := fun i => enc (l.getD i d)
def encD (z : Nat) (enc : α → List AV) (d : α) (l : List α) : AV := .dsl z l.length (encAt enc d l)
def encQ (enc : α → List AV) (d : α) (l : List α) : Sq := ⟨l.length, encAt enc d l⟩
theorem encAt_app (enc : α → List AV) (d : α) (l : List α) (i : Nat) : encAt enc d l i = enc (l.getD i d) := rfl
theorem encQ_n (enc : α → List AV) (d : α) (l : List α) : (encQ enc d l).n = l.length := rfl
theorem encQ_g (enc : α → List AV) (d : α) (l : List α) : (encQ enc d l).g = encAt enc d l := rfl
theorem zero_add_fun (g : Nat → List AV) : (fun i => g (0 + i)) = g := by funext i; rw [Nat.zero_add]
theorem encQ_fold (enc : α → List AV) (d : α) (l : List α) : Sq.mk l.length (encAt enc d l) = encQ enc d l := rfl
theorem q_app' {enc : α → List AV} {d : α} {l l' : List α} : (encQ enc d l).app (encQ enc d l') = encQ enc d (l ++ l') := encSq_app
end
theorem app_zero (g : Nat → List AV) (t : Sq) : Sq.app ⟨0, g⟩ t = t := by
  cases t; simp [Sq.app]
attribute [go_sem] forall_eq_or_imp app_zero encQ_fold q_app' disj keys foot quietR AOp.touches AOp.mayWrite List.flatMap_cons List.flatMap_nil List.append_assoc List.getElem?_nil List.all_cons List.all_nil List.map_cons avle_agg_agg encD encAt_app encQ_n encQ_g List.length_take Int.natCast_zero
theorem dsl_zero_add (z n : Nat) (g : Nat → List AV) : AV.dsl z n (fun i => g (0 + i)) = AV.dsl z n g := by rw [zero_add_fun]
theorem sq_zero_add (n : Nat) (g : Nat → List AV) : Sq.mk n (fun i => g (0 + i)) = Sq.mk n g := by rw [zero_add_fun]
attribute [go_sem ↓] dsl_zero_add sq_zero_add
end Go.Abs
end
section
namespace Go.Api
open Go.Abs
def encInt (x : Int) : List AV := [.sc (.int .i64 x)]
structure Vec where
  X : Int
  Y : Int
  deriving DecidableEq, Inhabited
def Vec.enc (x : Vec) : List AV :=
  [.sc (.int .i64 x.X), .sc (.int .i64 x.Y)]
def Vec.zero : List AV := [.sc (.int .i64 0), .sc (.int .i64 0)]
structure Settings where
  TimeStep : Int
  Gravity : Vec
  Iterations : Int
  SleepSteps : Int
  deriving DecidableEq, Inhabited
def Settings.enc (x : Settings) : List AV :=
  [.sc (.int .i64 x.TimeStep), .sc (.int .i64 x.Gravity.X), .sc (.int .i64 x.Gravity.Y), .sc (.int .i64 x.Iterations), .sc (.int .i64 x.SleepSteps)]
def Settings.zero : List AV := [.sc (.int .i64 0), .sc (.int .i64 0), .sc (.int .i64 0), .sc (.int .i64 0), .sc (.int .i64 0)]
structure Transform where
  Position : Vec
  Angle : Int
  deriving DecidableEq, Inhabited
def Transform.enc (x : Transform) : List AV :=
  [.sc (.int .i64 x.Position.X), .sc (.int .i64 x.Position.Y), .sc (.int .i64 x.Angle)]
def Transform.zero : List AV := [.sc (.int .i64 0), .sc (.int .i64 0), .sc (.int .i64 0)]
structure Shape where
  Kind : Int
  Radius : Int
  Vertices : List Vec
  deriving DecidableEq, Inhabited
def Shape.enc (x : Shape) : List AV :=
  [.sc (.int .i64 x.Kind), .sc (.int .i64 x.Radius), encD 2 Vec.enc default x.Vertices]
def Shape.zero : List AV := [.sc (.int .i64 0), .sc (.int .i64 0), .sc (.slice none 0 0)]
structure Fixture where
  Shape : Shape
  Density : Int
  Friction : Int
  Restitution : Int
  Sensor : Bool
  Category : Int
  Mask : Int
  Group : Int
  deriving DecidableEq, Inhabited
def Fixture.enc (x : Fixture) : List AV :=
  [.sc (.int .i64 x.Shape.Kind), .sc (.int .i64 x.Shape.Radius), encD 2 Vec.enc default x.Shape.Vertices, .sc (.int .i64 x.Density), .sc (.int .i64 x.Friction), .sc (.int .i64 x.Restitution), .sc (.bool x.Sensor), .sc (.int .i64 x.Category), .sc (.int .i64 x.Mask), .sc (.int .i64 x.Group)]
def Fixture.zero : List AV := [.sc (.int .i64 0), .sc (.int .i64 0), .sc (.slice none 0 0), .sc (.int .i64 0), .sc (.int .i64 0), .sc (.int .i64 0), .sc (.bool false), .sc (.int .i64 0), .sc (.int .i64 0), .sc (.int .i64 0)]
structure Body where
  ID : Int
  Kind : Int
  Transform : Transform
  Velocity : Vec
  AngularVelocity : Int
  Force : Vec
  Torque : Int
  LinearDamping : Int
  AngularDamping : Int
  GravityScale : Int
  Bullet : Bool
  FixedRotation : Bool
  NoSleep : Bool
  Asleep : Bool
  IdleSteps : Int
  Fixtures : List Fixture
  deriving DecidableEq, Inhabited
def Body.enc (x : Body) : List AV :=
  [.sc (.int .i64 x.ID), .sc (.int .i64 x.Kind), .sc (.int .i64 x.Transform.Position.X), .sc (.int .i64 x.Transform.Position.Y), .sc (.int .i64 x.Transform.Angle), .sc (.int .i64 x.Velocity.X), .sc (.int .i64 x.Velocity.Y), .sc (.int .i64 x.AngularVelocity), .sc (.int .i64 x.Force.X), .sc (.int .i64 x.Force.Y), .sc (.int .i64 x.Torque), .sc (.int .i64 x.LinearDamping), .sc (.int .i64 x.AngularDamping), .sc (.int .i64 x.GravityScale), .sc (.bool x.Bullet), .sc (.bool x.FixedRotation), .sc (.bool x.NoSleep), .sc (.bool x.Asleep), .sc (.int .i64 x.IdleSteps), encD 10 Fixture.enc default x.Fixtures]
def Body.zero : List AV := [.sc (.int .i64 0), .sc (.int .i64 0), .sc (.int .i64 0), .sc (.int .i64 0), .sc (.int .i64 0), .sc (.int .i64 0), .sc (.int .i64 0), .sc (.int .i64 0), .sc (.int .i64 0), .sc (.int .i64 0), .sc (.int .i64 0), .sc (.int .i64 0), .sc (.int .i64 0), .sc (.int .i64 0), .sc (.bool false), .sc (.bool false), .sc (.bool false), .sc (.bool false), .sc (.int .i64 0), .sc (.slice none 0 0)]
structure Four where
  I0 : Int
  I1 : Int
  I2 : Int
  I3 : Int
  deriving DecidableEq, Inhabited
def Four.enc (x : Four) : List AV :=
  [.sc (.int .i64 x.I0), .sc (.int .i64 x.I1), .sc (.int .i64 x.I2), .sc (.int .i64 x.I3)]
def Four.zero : List AV := [.sc (.int .i64 0), .sc (.int .i64 0), .sc (.int .i64 0), .sc (.int .i64 0)]
structure Joint where
  ID : Int
  Kind : Int
  BodyA : Int
  BodyB : Int
  AnchorA : Vec
  AnchorB : Vec
  Axis : Vec
  ReferenceAngle : Int
  EnableLimit : Bool
  Lower : Int
  Upper : Int
  EnableMotor : Bool
  MotorSpeed : Int
  MaxForce : Int
  Softness : Int
  BreakForce : Int
  CollideConnected : Bool
  Impulses : Four
  deriving DecidableEq, Inhabited
def Joint.enc (x : Joint) : List AV :=
  [.sc (.int .i64 x.ID), .sc (.int .i64 x.Kind), .sc (.int .i64 x.BodyA), .sc (.int .i64 x.BodyB), .sc (.int .i64 x.AnchorA.X), .sc (.int .i64 x.AnchorA.Y), .sc (.int .i64 x.AnchorB.X), .sc (.int .i64 x.AnchorB.Y), .sc (.int .i64 x.Axis.X), .sc (.int .i64 x.Axis.Y), .sc (.int .i64 x.ReferenceAngle), .sc (.bool x.EnableLimit), .sc (.int .i64 x.Lower), .sc (.int .i64 x.Upper), .sc (.bool x.EnableMotor), .sc (.int .i64 x.MotorSpeed), .sc (.int .i64 x.MaxForce), .sc (.int .i64 x.Softness), .sc (.int .i64 x.BreakForce), .sc (.bool x.CollideConnected), .sc (.int .i64 x.Impulses.I0), .sc (.int .i64 x.Impulses.I1), .sc (.int .i64 x.Impulses.I2), .sc (.int .i64 x.Impulses.I3)]
def Joint.zero : List AV := [.sc (.int .i64 0), .sc (.int .i64 0), .sc (.int .i64 0), .sc (.int .i64 0), .sc (.int .i64 0), .sc (.int .i64 0), .sc (.int .i64 0), .sc (.int .i64 0), .sc (.int .i64 0), .sc (.int .i64 0), .sc (.int .i64 0), .sc (.bool false), .sc (.int .i64 0), .sc (.int .i64 0), .sc (.bool false), .sc (.int .i64 0), .sc (.int .i64 0), .sc (.int .i64 0), .sc (.int .i64 0), .sc (.bool false), .sc (.int .i64 0), .sc (.int .i64 0), .sc (.int .i64 0), .sc (.int .i64 0)]
structure PairKey where
  BodyA : Int
  FixtureA : Int
  BodyB : Int
  FixtureB : Int
  deriving DecidableEq, Inhabited
def PairKey.enc (x : PairKey) : List AV :=
  [.sc (.int .i64 x.BodyA), .sc (.int .i64 x.FixtureA), .sc (.int .i64 x.BodyB), .sc (.int .i64 x.FixtureB)]
def PairKey.zero : List AV := [.sc (.int .i64 0), .sc (.int .i64 0), .sc (.int .i64 0), .sc (.int .i64 0)]
structure ContactPoint where
  Point : Vec
  Separation : Int
  ID : Int
  NormalImpulse : Int
  TangentImpulse : Int
  deriving DecidableEq, Inhabited
def ContactPoint.enc (x : ContactPoint) : List AV :=
  [.sc (.int .i64 x.Point.X), .sc (.int .i64 x.Point.Y), .sc (.int .i64 x.Separation), .sc (.int .i64 x.ID), .sc (.int .i64 x.NormalImpulse), .sc (.int .i64 x.TangentImpulse)]
def ContactPoint.zero : List AV := [.sc (.int .i64 0), .sc (.int .i64 0), .sc (.int .i64 0), .sc (.int .i64 0), .sc (.int .i64 0), .sc (.int .i64 0)]
structure Manifold where
  Normal : Vec
  Points : List ContactPoint
  deriving DecidableEq, Inhabited
def Manifold.enc (x : Manifold) : List AV :=
  [.sc (.int .i64 x.Normal.X), .sc (.int .i64 x.Normal.Y), encD 6 ContactPoint.enc default x.Points]
def Manifold.zero : List AV := [.sc (.int .i64 0), .sc (.int .i64 0), .sc (.slice none 0 0)]
structure Contact where
  Key : PairKey
  Manifold : Manifold
  deriving DecidableEq, Inhabited
def Contact.enc (x : Contact) : List AV :=
  [.sc (.int .i64 x.Key.BodyA), .sc (.int .i64 x.Key.FixtureA), .sc (.int .i64 x.Key.BodyB), .sc (.int .i64 x.Key.FixtureB), .sc (.int .i64 x.Manifold.Normal.X), .sc (.int .i64 x.Manifold.Normal.Y), encD 6 ContactPoint.enc default x.Manifold.Points]
def Contact.zero : List AV := [.sc (.int .i64 0), .sc (.int .i64 0), .sc (.int .i64 0), .sc (.int .i64 0), .sc (.int .i64 0), .sc (.int .i64 0), .sc (.slice none 0 0)]
structure World where
  Settings : Settings
  Bodies : List Body
  Joints : List Joint
  Contacts : List Contact
  Overlaps : List PairKey
  NextID : Int
  Frame : Int
  deriving DecidableEq, Inhabited
def World.enc (x : World) : List AV :=
  [.sc (.int .i64 x.Settings.TimeStep), .sc (.int .i64 x.Settings.Gravity.X), .sc (.int .i64 x.Settings.Gravity.Y), .sc (.int .i64 x.Settings.Iterations), .sc (.int .i64 x.Settings.SleepSteps), encD 20 Body.enc default x.Bodies, encD 24 Joint.enc default x.Joints, encD 7 Contact.enc default x.Contacts, encD 4 PairKey.enc default x.Overlaps, .sc (.int .i64 x.NextID), .sc (.int .i64 x.Frame)]
def World.zero : List AV := [.sc (.int .i64 0), .sc (.int .i64 0), .sc (.int .i64 0), .sc (.int .i64 0), .sc (.int .i64 0), .sc (.slice none 0 0), .sc (.slice none 0 0), .sc (.slice none 0 0), .sc (.slice none 0 0), .sc (.int .i64 0), .sc (.int .i64 0)]
structure Island where
  Bodies : List Int
  Contacts : List Int
  Joints : List Int
  deriving DecidableEq, Inhabited
def Island.enc (x : Island) : List AV :=
  [encD 1 encInt 0 x.Bodies, encD 1 encInt 0 x.Contacts, encD 1 encInt 0 x.Joints]
def Island.zero : List AV := [.sc (.slice none 0 0), .sc (.slice none 0 0), .sc (.slice none 0 0)]
attribute [go_sem] encInt Vec.enc Vec.zero Settings.enc Settings.zero Transform.enc Transform.zero Shape.enc Shape.zero Fixture.enc Fixture.zero Body.enc Body.zero Four.enc Four.zero Joint.enc Joint.zero PairKey.enc PairKey.zero ContactPoint.enc ContactPoint.zero Manifold.enc Manifold.zero Contact.enc Contact.zero World.enc World.zero Island.enc Island.zero
end Go.Api
end
section
namespace Go.Abs
open Go.Api Go.ChangeShapes Go.WideShapes Go.ChangeAt Go.RowKit
section
variable {P : Program} {W : World}
theorem opensF_step {α β : Type} {f : Field} {fs : List Field} {off sz off' size : Nat} {enc : α → List AV} {enc' : β → List AV} {Ok : α → Prop} {Ok' : β → Prop} (t : TypeId)
    (h1 : Opens P W t enc Ok) (ht : f.type = t) (hz : P.cellsOf t = sz) (ho : f.offset = off) (hs : off + sz = off') (h2 : OpensF P W fs off' size enc' Ok') :
    OpensF P W (f :: fs) off size (fun p : α × β => enc p.1 ++ enc' p.2) (fun p => Ok p.1 ∧ Ok' p.2) := by
  subst ht; subst hz; subst hs; exact opensF_cons h1 ho h2
theorem opens_struct' {α β : Type} {t : TypeId} {fs : Array Field} (size : Nat) {enc : α → List AV} {Ok : α → Prop} {enc' : β → List AV} {Ok' : β → Prop} (g : α → β) (ht : P.underlying t = some (.struct fs)) (hz : P.cellsOf t = size)
    (h : OpensF P W fs.toList 0 size enc Ok) (he : ∀ a, enc' (g a) = enc a) (hk : ∀ a, Ok a → Ok' (g a)) : Opens P W t enc' Ok' := by
  subst hz; exact (opens_struct ht h).map g he hk
def fits (n : Int) : Prop := -9223372036854775808 ≤ n ∧ n ≤ 9223372036854775807
theorem opens_i64 {t : TypeId} (ht : P.underlying t = some (.int .i64)) : Opens P W t (fun n : Int => [.sc (.int .i64 n)]) fits :=
  (opens_int ht).map id (fun _ => rfl) fun n h => by
    simp only [Lit.wf, IntKind.min, IntKind.max, Bool.and_eq_true, decide_eq_true_eq] at h
    simp only [id, fits]
    simp [IntKind.min, IntKind.max, IntKind.bits, IntKind.signed] at h
    omega
theorem relC_agg {avs : List AV} {cs : Array Value} (h : RelC W avs cs.toList) : Rel (fun b => b < W.heap.size) W (fun _ => none) (.agg avs) (.agg cs) := by
  refine .agg cs (by simpa using h.1) (fun j av hj => pure_one (h.2 j av hj).1) (fun j av hj => ?_)
  have := (h.2 j av hj).2
  simpa [List.getD] using this
theorem opens_four {t el : TypeId} (ht : P.underlying t = some (.array 4 el)) (hel : P.underlying el = some (.int .i64)) (h4 : P.cellsOf t = 4) (h1 : P.cellsOf el = 1) : Opens P W t Four.enc (fun a => fits a.I0 ∧ fits a.I1 ∧ fits a.I2 ∧ fits a.I3) := by
  intro H e base spare held n cs x hx
  obtain ⟨xs, m, _, _, hl, hlen, hf⟩ := DataW.trod_array ht hx
  have each : ∀ i, i < 4 → ∃ z, fits z ∧ cs[i]? = some (.int .i64 z) := fun i hi => by
    have h := hf i hi
    rw [h1, Nat.mul_one, List.getElem?_eq_getElem (by omega)] at h
    obtain ⟨z, hz, hr⟩ := opens_i64 hel H e base spare held m _ _ h
    refine ⟨z, hz, ?_⟩
    have h2 := (hr.2 0 _ rfl).2.sc_eq
    have h3 : i < cs.length := by omega
    rw [List.getElem?_eq_getElem h3]
    simp [List.getD, List.getElem?_take, List.getElem?_drop, List.getElem?_eq_getElem h3] at h2
    rw [h2]
  obtain ⟨z0, f0, e0⟩ := each 0 (by omega)
  obtain ⟨z1, f1, e1⟩ := each 1 (by omega)
  obtain ⟨z2, f2, e2⟩ := each 2 (by omega)
  obtain ⟨z3, f3, e3⟩ := each 3 (by omega)
  refine ⟨⟨z0, z1, z2, z3⟩, ⟨f0, f1, f2, f3⟩, by simp [hl, h4, Four.enc], fun j av hj => ?_⟩
  match j, hj with
  | 0, hj => simp [Four.enc] at hj; subst hj; simp [List.getD, e0]; exact ⟨rfl, .sc rfl⟩
  | 1, hj => simp [Four.enc] at hj; subst hj; simp [List.getD, e1]; exact ⟨rfl, .sc rfl⟩
  | 2, hj => simp [Four.enc] at hj; subst hj; simp [List.getD, e2]; exact ⟨rfl, .sc rfl⟩
  | 3, hj => simp [Four.enc] at hj; subst hj; simp [List.getD, e3]; exact ⟨rfl, .sc rfl⟩
  | _ + 4, hj => simp [Four.enc] at hj
theorem calls_true {f : FuncId} {args : List AV} {vals : List Value} (h : CallsA P f args [] (.sc (.bool true)) [])
    (hr : RelL (fun b => b < W.heap.size) W (fun _ => none) args vals) : Calls P f vals.toArray W fun e W' => e = .returned (.bool true) ∧ Below W.heap.size W W' := by
  refine (h.2 (fun b => b < W.heap.size) W (fun _ => none) vals ?_ hr).mono ?_
  · exact ⟨fun _ => ⟨fun _ => rfl, fun _ => rfl⟩, fun _ _ _ _ _ h => (by cases h), fun _ h => h, fun _ _ _ h => (by simp [ofL, wrm] at h), fun _ _ _ _ h => (by simp [ofL, wrm] at h)⟩
  · rintro e W' ⟨v, G', ob', rfl, _, hv, hf, _⟩
    have := hv.sc_eq
    subst this
    exact ⟨rfl, hf.os, hf.tape, hf.output, hf.size, fun k hk => hf.same k hk (.inl hk)⟩
end
end Go.Abs
end
section
namespace Go.Abs
abbrev oM (d s : Nat) : AOper := ⟨some d, .mov (.t s), none, []⟩
abbrev oV (d : Nat) (v : AV) : AOper := ⟨some d, .mov (.k v), none, []⟩
abbrev oL (d s : Nat) : AOper := ⟨some d, .load none (.t s), none, []⟩
abbrev oR (n d s : Nat) : AOper := ⟨some d, .load (some n) (.t s), none, []⟩
abbrev oF (k d s : Nat) : AOper := ⟨some d, .faddr k (.t s), none, []⟩
abbrev oB (p : BinOp) (d x y : Nat) : AOper := ⟨some d, .bin p (.t x) (.t y), none, []⟩
abbrev oC (p : BinOp) (d x : Nat) (v : Int) : AOper := ⟨some d, .bin p (.t x) (.k (.sc (.int .i64 v))), none, []⟩
abbrev oI (e d x y : Nat) : AOper := ⟨some d, .iaddr e (.t x) (.t y), none, []⟩
abbrev oN (d x : Nat) : AOper := ⟨some d, .len (.t x), none, []⟩
abbrev oU (d x : Nat) : AOper := ⟨some d, .un .not (.t x), none, []⟩
abbrev oX (d x i : Nat) : AOper := ⟨some d, .ext (.t x) i, none, []⟩
abbrev oP (d c x : Nat) : AOper := ⟨some d, .pick (.t c) (.t x) (.k (.sc (.bool false))), none, []⟩
abbrev oQ (d c x : Nat) : AOper := ⟨some d, .pick (.t c) (.k (.sc (.bool true))) (.t x), none, []⟩
abbrev oS (n d s : Nat) : AOper := ⟨none, .store n (.t d) (.t s), none, []⟩
abbrev oD (n d : Nat) (v : AV) : AOper := ⟨none, .store n (.t d) (.k v), none, []⟩
abbrev oA (d : Nat) (z : List Value) : AOper := ⟨some d, .alloc z, none, []⟩
abbrev oE (d x : Nat) : AOper := ⟨some d, .box (.t x), none, []⟩
abbrev oJ (d f : Nat) (l : List AX) : AOper := ⟨some d, .call f l, none, []⟩
abbrev oW (d : Nat) (z : List Value) (ps : List (Nat × Nat × AX)) : AOper := ⟨some d, .build z ps, none, []⟩
abbrev oY (e d n : Nat) (z : List Value) (ps : List (Nat × Nat × AX)) : AOper := ⟨some d, .bslice e n z ps, none, []⟩
abbrev oZ (e b d x y : Nat) : AOper := ⟨some d, .append e b (.t x) (.t y), none, []⟩
abbrev gT (t : Nat) (o : AOper) : AOper := ⟨o.dst, o.op, some (t, true), o.chk⟩
abbrev gF (t : Nat) (o : AOper) : AOper := ⟨o.dst, o.op, some (t, false), o.chk⟩
abbrev ki (n : Int) : AX := .k (.sc (.int .i64 n))
abbrev vi (n : Int) : AV := .sc (.int .i64 n)
abbrev vb (b : Bool) : AV := .sc (.bool b)
abbrev vn : AV := .sc (.slice none 0 0)
abbrev r0 (l : List AOper) : ACode := .region false l
abbrev r1 (l : List AOper) : ACode := .region true l
attribute [go_sem] oM oV oL oR oF oB oC oI oN oU oX oP oQ oS oD oA oE oJ oW oY oZ gT gF ki vi vb vn r0 r1
end Go.Abs
end
section
namespace Go.Abs
attribute [go_sem] loadP storeP avleP avlePL
section
variable {P : Program} {G : Nat → Prop} {w : World} {ob : Place} {m : Nat → Option AObj}
end
end Go.Abs
end
section
namespace Go.Abs
attribute [go_sem_proc ↓] reduceIte
attribute [go_sem_proc] Nat.reduceEqDiff reduceCtorEq Nat.reduceAdd Nat.reduceLeDiff Nat.reduceMul Nat.reduceSub Int.reduceToNat
end Go.Abs
end
section
namespace Go.Abs
def lit : Nat → Option Nat
  | 0 => some 0 | 1 => some 1 | 2 => some 2 | 3 => some 3 | 4 => some 4 | 5 => some 5 | 6 => some 6 | 7 => some 7 | 8 => some 8 | 9 => some 9 | 10 => some 10 | 11 => some 11 | 12 => some 12 | 13 => some 13 | 14 => some 14 | 15 => some 15 | 16 => some 16 | 17 => some 17 | 18 => some 18 | 19 => some 19 | 20 => some 20 | 21 => some 21 | 22 => some 22 | 23 => some 23 | 24 => some 24 | 25 => some 25 | 26 => some 26 | 27 => some 27 | 28 => some 28 | 29 => some 29 | 30 => some 30 | 31 => some 31 | 32 => some 32 | 33 => some 33 | 34 => some 34 | 35 => some 35 | 36 => some 36 | 37 => some 37 | 38 => some 38 | 39 => some 39 | 40 => some 40 | 41 => some 41 | 42 => some 42 | 43 => some 43 | 44 => some 44 | 45 => some 45 | 46 => some 46 | 47 => some 47 | 48 => some 48 | 49 => some 49 | 50 => some 50 | 51 => some 51 | 52 => some 52 | 53 => some 53 | 54 => some 54 | 55 => some 55 | 56 => some 56 | 57 => some 57 | 58 => some 58 | 59 => some 59 | 60 => some 60 | 61 => some 61 | 62 => some 62 | 63 => some 63 | 64 => some 64 | 72 => some 72 | 80 => some 80 | 88 => some 88 | 96 => some 96 | 104 => some 104 | 112 => some 112 | 120 => some 120 | 128 => some 128 | 136 => some 136 | 144 => some 144 | 152 => some 152 | 160 => some 160 | 168 => some 168 | 176 => some 176 | 184 => some 184 | 192 => some 192 | 200 => some 200 | 208 => some 208 | 216 => some 216 | 224 => some 224 | 232 => some 232 | 240 => some 240 | 248 => some 248 | 256 => some 256 | 264 => some 264 | 272 => some 272 | 280 => some 280 | 288 => some 288 | 296 => some 296 | 304 => some 304 | 312 => some 312 | 320 => some 320
  | n => some n
theorem lit_eq {n m : Nat} (h : lit n = some m) : n = m := by
  unfold lit at h; split at h <;> injection h
def cpy {α : Type} (f : α → Option α) : List α → Option (List α)
  | [] => some []
  | x :: xs => match f x, cpy f xs with
    | some y, some ys => some (y :: ys)
    | _, _ => none
theorem cpy_eq {α : Type} {f : α → Option α} (hf : ∀ x y, f x = some y → x = y) : ∀ {l m : List α}, cpy f l = some m → l = m
  | [], m, h => by simp only [cpy] at h; injection h
  | x :: xs, m, h => by
    simp only [cpy] at h
    split at h
    · rename_i y ys h1 h2; injection h with h; rw [hf _ _ h1, cpy_eq hf h2, h]
    · cases h
def cpyV : Value → Option Value
  | .int k n => some (.int k n)
  | .bool b => some (.bool b)
  | .slice none l c => some (.slice none l c)
  | v => some v
theorem cpyV_eq (v u : Value) (h : cpyV v = some u) : v = u := by
  unfold cpyV at h; split at h <;> injection h
def cpyP (p : Nat × Nat × AX) : Option (Nat × Nat × AX) := match p with
  | (a, b, x) => match lit a, lit b with
    | some a', some b' => some (a', b', x)
    | _, _ => none
theorem cpyP_eq (p q : Nat × Nat × AX) (h : cpyP p = some q) : p = q := by
  obtain ⟨a, b, x⟩ := p
  simp only [cpyP] at h
  split at h
  · rename_i h1 h2; injection h with h; rw [← h, lit_eq h1, lit_eq h2]
  · cases h
def nrm : AOp → Option AOp
  | .alloc z => match cpy cpyV z with | some z' => some (.alloc z') | none => none
  | .build z ps => match cpy cpyV z, cpy cpyP ps with | some z', some ps' => some (.build z' ps') | _, _ => none
  | .bslice e n z ps => match lit e, lit n, cpy cpyV z, cpy cpyP ps with | some e', some n', some z', some ps' => some (.bslice e' n' z' ps') | _, _, _, _ => none
  | .load (some n) x => match lit n with | some m => some (.load (some m) x) | none => none
  | .store n x y => match lit n with | some m => some (.store m x y) | none => none
  | .faddr n x => match lit n with | some m => some (.faddr m x) | none => none
  | .fld n none x => match lit n with | some m => some (.fld m none x) | none => none
  | .fld n (some k) x => match lit n, lit k with | some m, some j => some (.fld m (some j) x) | _, _ => none
  | .iaddr n x i => match lit n with | some m => some (.iaddr m x i) | none => none
  | .aaddr n k x i => match lit n, lit k with | some m, some j => some (.aaddr m j x i) | _, _ => none
  | .aslice n k x => match lit n, lit k with | some m, some j => some (.aslice m j x) | _, _ => none
  | .append n k x y => match lit n, lit k with | some m, some j => some (.append m j x y) | _, _ => none
  | .slice n x a b c => match lit n with | some m => some (.slice m x a b c) | none => none
  | .mkslice n k z x y => match lit n, lit k, cpy cpyV z with | some m, some j, some z' => some (.mkslice m j z' x y) | _, _, _ => none
  | .appz n k z x y => match lit n, lit k, cpy cpyV z with | some m, some j, some z' => some (.appz m j z' x y) | _, _, _ => none
  | .aidx n x i => match lit n with | some m => some (.aidx m x i) | none => none
  | a => some a
theorem nrm_eq {a b : AOp} (h : nrm a = some b) : a = b := by
  unfold nrm at h
  split at h
  all_goals first
    | (injection h)
    | (split at h
       · rename_i e1; injection h with h; subst h; first | rw [lit_eq e1] | rw [cpy_eq cpyV_eq e1]
       · cases h)
    | (split at h
       · rename_i e1 e2; injection h with h; subst h; first | rw [lit_eq e1, lit_eq e2] | rw [cpy_eq cpyV_eq e1, cpy_eq cpyP_eq e2]
       · cases h)
    | (split at h
       · rename_i e1 e2 e3; injection h with h; subst h; rw [lit_eq e1, lit_eq e2, cpy_eq cpyV_eq e3]
       · cases h)
    | (split at h
       · rename_i e1 e2 e3 e4; injection h with h; subst h; rw [lit_eq e1, lit_eq e2, cpy_eq cpyV_eq e3, cpy_eq cpyP_eq e4]
       · cases h)
def coper1 (N : Nat) (dst : Option Tmp) (guard : Option (Nat × Bool)) (ops : Array Oper) (aop : AOp) : Option AOper :=
  match dstOk N dst with
  | true => match guard with
    | none => some ⟨dst, aop, none, []⟩
    | some (j, want) => match (ops[j]?).bind (·.dst) with
      | some g => match lit g with
        | some g' => some ⟨dst, aop, some (g', want), []⟩
        | none => none
      | none => none
  | false => none
def zl (z : Value) : Option (List Value) := match z with
  | .agg cs => match cpy cpyV cs.toList with
    | some l => match l.all Value.oneCell' with
      | true => some l
      | false => none
    | none => none
  | v => match v.oneCell', cpyV v with
    | true, some u => some [u]
    | _, _ => none
theorem zl_eq {z : Value} {l : List Value} (h : zl z = some l) : z.cells.all Value.oneCell' = true ∧ z.cells.toList = l := by
  unfold zl at h
  split at h
  · rename_i cs
    split at h
    · rename_i l' e1
      split at h
      · rename_i e2
        injection h with h; subst h
        have e3 := cpy_eq cpyV_eq e1
        exact ⟨by show cs.all _ = true; rw [← Array.all_toList, e3]; exact e2, e3⟩
      · cases h
    · cases h
  · rename_i hv
    have hc : z.cells = #[z] := by cases z <;> first | exact absurd rfl (hv _) | rfl
    split at h
    · rename_i e1 e2
      injection h with h; subst h
      have e3 := cpyV_eq _ _ e2
      subst e3
      rw [hc]
      exact ⟨by simp [e1], rfl⟩
    · cases h
def reps (l : List Value) : Nat → List Value
  | 0 => []
  | n + 1 => l ++ reps l n
theorem reps_len (l : List Value) : ∀ n, (reps l n).length = n * l.length
  | 0 => by simp [reps]
  | n + 1 => by rw [reps, List.length_append, reps_len l n, Nat.succ_mul, Nat.add_comm]
theorem reps_get (l : List Value) (d : Value) : ∀ n k, k < n * l.length → (reps l n).getD k d = l.getD (k % l.length) d
  | 0, k, h => by simp at h
  | n + 1, k, h => by
    rw [reps]
    by_cases hk : k < l.length
    · rw [Nat.mod_eq_of_lt hk]; simp only [List.getD]; rw [List.getElem?_append_left hk]
    · have h2 : k - l.length < n * l.length := by rw [Nat.succ_mul] at h; omega
      have := reps_get l d n (k - l.length) h2
      simp only [List.getD] at this ⊢
      rw [List.getElem?_append_right (by omega), this, Nat.mod_eq_sub_mod (a := k) (by omega)]
theorem reps_eq {z : Value} {l : List Value} {len size : Nat} (h : z.cells.toList = l) (hs : z.cells.size = size) : ((Array.range (len * size)).map (z.cells[· % z.cells.size]!)).toList = reps l len := by
  have hl : l.length = size := by rw [← h, ← hs]; simp
  refine List.ext_getElem (by simp [reps_len, hl]) fun i h1 h2 => ?_
  have hi : i < len * l.length := by rw [reps_len] at h2; exact h2
  have e := reps_get l (default : Value) len i hi
  have e1 : (reps l len).getD i default = (reps l len)[i] := by simp [List.getD, h2]
  rw [← e1, e]
  simp only [Array.getElem_toList, Array.getElem_map, Array.getElem_range, hs, hl]
  have hm : i % size < z.cells.size := by rw [hs]; exact Nat.mod_lt _ (by rw [← hl]; rcases Nat.eq_zero_or_pos l.length with h0 | h0; (rw [h0] at hi; simp at hi); exact h0)
  rw [getElem!_pos z.cells _ hm, ← h]
  simp [List.getD, hm]
def copn (P : Program) (op : Op) : Option AOp := match cop P op with
  | some aop => nrm aop
  | none => some .bad
def assocE : List (Nat × List Bool) → Nat → Option (List Bool)
  | [], _ => none
  | p :: l, t => match Nat.beq p.1 t with
    | true => some p.2
    | false => assocE l t
def okE (P : Program) (L : List (Nat × List Bool)) : Bool := L.all fun p => decide (eqaShape P .eql p.1 = some p.2)
theorem assocE_eq {P : Program} : ∀ {L : List (Nat × List Bool)} {t : Nat} {sh : List Bool}, okE P L = true → assocE L t = some sh → eqaShape P .eql t = some sh
  | [], _, _, _, h => by cases h
  | p :: l, t, sh, hk, h => by
    simp only [okE, List.all_cons, Bool.and_eq_true, decide_eq_true_eq] at hk
    simp only [assocE] at h
    split at h
    · rename_i e; injection h with h; subst h; rw [← Nat.eq_of_beq_eq_true e]; exact hk.1
    · exact assocE_eq hk.2 h
def cop3 (P : Program) (L : List (Nat × List Bool)) (op : Op) : Option AOp := match op with
  | .binOp bop t x y u => match assocE L t with
    | some sh => match nilCmp P bop t y, cx x, cx y, boolCmp P bop t, strCmp P bop t with
      | none, some a, some b, none, none => (match bop with
        | .eql => some (.eqa sh false a b)
        | .neq => some (.eqa sh true a b)
        | _ => none)
      | _, _, _, _, _ => none
    | none => copn P (.binOp bop t x y u)
  | .alloc t => match zeroOf P t with
    | some z => match zl z with
      | some l => some (.alloc l)
      | none => none
    | none => none
  | .build t parts => match zeroOf P t, placesOf P t with
    | some z, some place => match zl z, partsOf place parts.toList with
      | some l, some ps => match cpy cpyP ps with
        | some ps' => some (.build l ps')
        | none => none
      | _, _ => none
    | _, _ => none
  | .buildSlice t len parts => match P.underlying t with
    | some (.slice el) => match zeroOf P el, szOf P el with
      | some z, some size => match zl z, lit size with
        | some l, some size' => if z.cells.size = size' ∧ len * size' ≤ 2 ^ 24 then (match partsOf (fun i => some (i * size', size')) parts.toList with
          | some ps => match cpy cpyP ps, cpy cpyV (reps l len) with
            | some ps', some l' => some (.bslice size' len l' ps')
            | _, _ => none
          | none => none) else none
        | _, _ => none
      | _, _ => none
    | _ => none
  | .makeSlice t l c => match P.underlying t with
    | some (.slice el) => match P.info? el, cx l, cx c with
      | some i, some a, some b => match i.zero with
        | some z => match zl z, lit i.size, lit i.bytes with
          | some zs, some n, some k => if z.cells.size = n then some (.mkslice n k zs a b) else none
          | _, _, _ => none
        | none => none
      | _, _, _ => none
    | _ => none
  | .makeMap t none => match P.underlying t with
    | some (.map kt _) => match assocE L kt with
      | some sh => match intKindOf P kt, lit sh.length, sh.all id with
        | none, some n, true => some (.mkmapS n)
        | _, _, _ => none
      | none => copn P (.makeMap t none)
    | _ => none
  | .mapUpdate t x i y => match P.underlying t, cx x, cx i, cx y with
    | some (.map kt _), some a, some b, some c => match assocE L kt with
      | some sh => match intKindOf P kt, lit sh.length, sh.all id with
        | none, some n, true => some (.msetS n a b c)
        | _, _, _ => none
      | none => copn P (.mapUpdate t x i y)
    | _, _, _, _ => none
  | .lookup t x i ok => match P.underlying t, cx x, cx i with
    | some (.map kt el), some a, some b => match assocE L kt with
      | some sh => match intKindOf P kt, zeroOf P el, lit sh.length, sh.all id with
        | none, some z, some n, true => match zl z, notTuple z with
          | some _, true => some (.lookupS n z ok a b)
          | _, _ => none
        | _, _, _, _ => none
      | none => match intKindOf P kt, zeroOf P el with
        | some k, some z => match zl z, notTuple z with
          | some _, true => some (.lookup k z ok a b)
          | _, _ => none
        | _, _ => none
    | _, _, _ => none
  | .call c => match c.callee, c.args.toList, c.argTypes.toList with
    | .builtin .append, [x, y], [t, u] => match P.underlying t, cx x, cx y with
      | some (.slice el), some a, some b => match P.info? el with
        | some i => match i.zero with
          | some z => if t = u ∧ z.cells.size = i.size then (match lit i.size, lit i.bytes with | some n, some k => some (.append n k a b) | _, _ => none) else
            if (intKindOf P u).isSome = true ∧ z.cells.size = i.size ∧ 0 < i.size then (match zl z, lit i.size, lit i.bytes with | some zs, some n, some k => some (.appz n k zs a b) | _, _, _ => none) else none
          | none => none
        | none => none
      | _, _, _ => none
    | _, _, _ => copn P (.call c)
  | op => copn P op
theorem copn_eq {P : Program} {op : Op} {a : AOp} (h : copn P op = some a) : copB P op = a := by
  unfold copn at h; unfold copB
  split at h
  · rename_i e1; rw [e1]; exact nrm_eq h
  · rename_i e1; rw [e1]; injection h
theorem cop3_eq {P : Program} {L : List (Nat × List Bool)} {op : Op} {a : AOp} (hL : okE P L = true) (h : cop3 P L op = some a) : copB P op = a := by
  unfold cop3 at h
  split at h
  · rename_i bop t x y u
    split at h
    · rename_i sh e0
      have e9 := assocE_eq hL e0
      split at h <;> try cases h
      rename_i a b e1 e2 e3 e4 e5
      split at h <;> try cases h
      · simp only [copB, cop, e1, e2, e3, e4, e5, e9]; rfl
      · have e8 : eqaShape P .neq t = some sh := e9
        simp only [copB, cop, e1, e2, e3, e4, e5, e8]; rfl
    · exact copn_eq h
  · rename_i t
    split at h <;> try cases h
    rename_i z e1
    split at h <;> try cases h
    rename_i l e2
    simp only [copB, cop, e1, (zl_eq e2).1, (zl_eq e2).2, if_true]
  · rename_i t parts
    split at h <;> try cases h
    rename_i z place e1 e2
    split at h <;> try cases h
    rename_i l ps e3 e4
    split at h <;> try cases h
    rename_i ps' e5
    have e6 := cpy_eq cpyP_eq e5
    subst e6
    simp only [copB, cop, e1, e2, (zl_eq e3).1, (zl_eq e3).2, e4, if_true]
  · rename_i t len parts
    split at h <;> try cases h
    rename_i el e1
    split at h <;> try cases h
    rename_i z size e2 e3
    split at h <;> try cases h
    rename_i l size' e4 e5
    have := lit_eq e5
    subst this
    split at h <;> try cases h
    rename_i hc
    split at h <;> try cases h
    rename_i ps e6
    split at h <;> try cases h
    rename_i ps' l' e7 e9
    have e8 := cpy_eq cpyP_eq e7
    subst e8
    rw [← cpy_eq cpyV_eq e9]
    simp only [copB, cop, e1, e2, e3]
    rw [if_pos ⟨hc.1, (zl_eq e4).1, hc.2⟩]
    simp only [e6, reps_eq (zl_eq e4).2 hc.1]
  · rename_i t l c
    split at h <;> try cases h
    rename_i el e1
    split at h <;> try cases h
    rename_i i a b e2 e3 e4
    split at h <;> try cases h
    rename_i z e5
    split at h <;> try cases h
    rename_i zs n k e6 e7 e8
    split at h <;> try cases h
    rename_i hc
    have e9 := lit_eq e7; have e10 := lit_eq e8
    subst e10; subst e9
    simp only [copB, cop, e1, e2, e3, e4, e5]
    rw [if_pos ⟨hc, (zl_eq e6).1⟩, (zl_eq e6).2]
  · rename_i t
    split at h <;> try cases h
    rename_i kt el e1
    split at h
    · rename_i sh e0
      have e9 := assocE_eq hL e0
      split at h <;> try cases h
      rename_i n e4 e5 e6
      simp only [copB, cop, e1, e4, e9]
      rw [if_pos e6, lit_eq e5]
    · exact copn_eq h
  · rename_i t x i y
    split at h <;> try cases h
    rename_i kt el a b c e1 e2 e3 e3'
    split at h
    · rename_i sh e0
      have e9 := assocE_eq hL e0
      split at h <;> try cases h
      rename_i n e4 e5 e6
      simp only [copB, cop, e1, e2, e3, e3', e4, e9]
      rw [if_pos e6, lit_eq e5]
    · exact copn_eq h
  · rename_i t x i ok
    split at h <;> try cases h
    rename_i kt el a b e1 e2 e3
    split at h
    · rename_i sh e0
      have e9 := assocE_eq hL e0
      split at h <;> try cases h
      rename_i z n e4 e5 e6 e7
      split at h <;> try cases h
      rename_i e8 e10
      simp only [copB, cop, e1, e2, e3, e4, e5, e9]
      rw [if_pos ⟨e7, (zl_eq e8).1, e10⟩, lit_eq e6]
    · split at h <;> try cases h
      rename_i k z e4 e5
      split at h <;> try cases h
      rename_i e6 e7
      simp only [copB, cop, e1, e2, e3, e4, e5]
      rw [if_pos ⟨(zl_eq e6).1, e7⟩]
  · rename_i c
    split at h
    · rename_i x y t u e1 e2 e3
      split at h <;> try cases h
      rename_i el a b e4 e5 e6
      split at h <;> try cases h
      rename_i i e7
      split at h <;> try cases h
      rename_i z e8
      simp only [copB, cop, e1, e2, e3, e4, e5, e6, e7, e8]
      split at h
      · rename_i hc
        split at h <;> try cases h
        rename_i n k e9 e10
        rw [if_pos hc, lit_eq e9, lit_eq e10]
      · rename_i hc
        rw [if_neg hc]
        split at h <;> try cases h
        rename_i hd
        split at h <;> try cases h
        rename_i zs n k e9 e10 e11
        rw [if_pos ⟨hd.1, hd.2.1, (zl_eq e9).1, hd.2.2⟩, (zl_eq e9).2, lit_eq e10, lit_eq e11]
    · exact copn_eq h
  · exact copn_eq h
def coper2 (P : Program) (L : List (Nat × List Bool)) (N : Nat) (ops : Array Oper) (o : Oper) : Option AOper :=
  match o with
  | ⟨dst, op, _, _, _, guard⟩ => match cop3 P L op with
    | some aop => coper1 N dst guard ops aop
    | none => none
theorem coper2_eq {P : Program} {L : List (Nat × List Bool)} {N : Nat} {ops : Array Oper} {o : Oper} {a : AOper} (hL : okE P L = true) (h : coper2 P L N ops o = some a) : coper P N ops o = some a := by
  obtain ⟨dst, op, type, pos, after, guard⟩ := o
  simp only [coper2] at h
  split at h
  · rename_i aop e1
    simp only [coper, cop3_eq hL e1]
    unfold coper1 at h
    split at h
    · rename_i e2
      simp only [e2, if_true]
      split at h
      · exact h
      · split at h
        · rename_i e3
          split at h
          · rename_i e4
            rw [lit_eq e4] at e3
            simp only [e3]; exact h
          · cases h
        · cases h
    · cases h
  · cases h
def copers2 (P : Program) (L : List (Nat × List Bool)) (N : Nat) (ops : Array Oper) : List Oper → Option (List AOper)
  | [] => some []
  | o :: os => match coper2 P L N ops o, copers2 P L N ops os with
    | some a, some as => some (a :: as)
    | _, _ => none
theorem copers2_eq {P : Program} {L : List (Nat × List Bool)} {N : Nat} {ops : Array Oper} (hL : okE P L = true) : ∀ {l as}, copers2 P L N ops l = some as → copers P N ops l = some as
  | [], _, h => h
  | o :: os, _, h => by
    simp only [copers2] at h
    split at h
    · rename_i e1 e2
      simp only [copers, coper2_eq hL e1, copers2_eq hL e2]; exact h
    · cases h
def cpyO (o : AOper) : Option AOper := match o with
  | ⟨some d, op, some (g, w), chk⟩ => match cpy lit chk with
    | some c => some ⟨some d, op, some (g, w), c⟩
    | none => none
  | ⟨some d, op, none, chk⟩ => match cpy lit chk with
    | some c => some ⟨some d, op, none, c⟩
    | none => none
  | ⟨none, op, g, chk⟩ => match cpy lit chk with
    | some c => some ⟨none, op, g, c⟩
    | none => none
theorem cpyO_eq (o q : AOper) (h : cpyO o = some q) : o = q := by
  unfold cpyO at h
  split at h <;> split at h <;> first | (rename_i e; injection h with h; rw [← h, cpy_eq (fun _ _ => lit_eq) e]) | cases h
def cregion2 (P : Program) (L : List (Nat × List Bool)) (N : Nat) (ops : Array Oper) (draw : Bool) : Option (List AOper) :=
  match copers2 P L N ops ops.toList with
  | some as => match draw with
    | true => match edgesOk ops.toList 0 with
      | true => match anyForm [] as (maskL ops.toList []) with
        | some bs => cpy cpyO bs
        | none => none
      | false => none
    | false => some as
  | none => none
theorem cregion2_eq {P : Program} {L : List (Nat × List Bool)} {N : Nat} {ops : Array Oper} {draw : Bool} {as : List AOper} (hL : okE P L = true) (h : cregion2 P L N ops draw = some as) : cregion P N ops draw = some as := by
  unfold cregion2 at h
  split at h
  · rename_i e1
    simp only [cregion, copers2_eq hL e1]
    split at h
    · split at h
      · rename_i e2
        split at h
        · rename_i e3; rw [if_pos rfl, if_pos e2, e3, cpy_eq cpyO_eq h]
        · cases h
      · cases h
    · rw [if_neg (by decide)]; exact h
  · cases h
def compile2 (P : Program) (L : List (Nat × List Bool)) (N : Nat) : Code → Option ACode
  | .skip => some .skip
  | .region _ ops draw => match draw with
    | true => match cregion2 P L N ops true with
      | some as => some (.region true as)
      | none => none
    | false => match cregion2 P L N ops false with
      | some as => some (.region false as)
      | none => none
  | .seq a b => match compile2 P L N a, compile2 P L N b with
    | some x, some y => some (.seq x y)
    | _, _ => none
  | .cond c a b => match cx c, compile2 P L N a, compile2 P L N b with
    | some k, some x, some y => some (.cond k x y)
    | _, _, _ => none
  | .block id a => match compile2 P L N a with
    | some x => some (.block id x)
    | none => none
  | .loop a => match compile2 P L N a with
    | some x => some (.loop x)
    | none => none
  | .scope a => match compile2 P L N a with
    | some x => some (.scope x)
    | none => none
  | .exit id => some (.exit id)
  | .label _ => some .skip
  | .ret => some .ret
  | _ => none
theorem compile2_eq {P : Program} {L : List (Nat × List Bool)} {N : Nat} (hL : okE P L = true) : ∀ {c ac}, compile2 P L N c = some ac → compile P N c = some ac := by
  intro c
  induction c with
  | region i ops draw =>
    intro ac h
    cases draw <;> simp only [compile2] at h <;> split at h <;> first | (rename_i e; simp only [compile, cregion2_eq hL e]; exact h) | cases h
  | seq a b ha hb =>
    intro ac h
    simp only [compile2] at h
    split at h
    · rename_i e1 e2; simp only [compile, ha e1, hb e2]; exact h
    · cases h
  | cond c a b ha hb =>
    intro ac h
    simp only [compile2] at h
    split at h
    · rename_i e0 e1 e2; simp only [compile, e0, ha e1, hb e2]; exact h
    · cases h
  | block i a ha =>
    intro ac h
    simp only [compile2] at h
    split at h
    · rename_i e1; simp only [compile, ha e1]; exact h
    · cases h
  | scope a ha =>
    intro ac h
    simp only [compile2] at h
    split at h
    · rename_i e1; simp only [compile, ha e1]; exact h
    · cases h
  | loop a ha =>
    intro ac h
    simp only [compile2] at h
    split at h
    · rename_i e1; simp only [compile, ha e1]; exact h
    · cases h
  | _ => exact fun {ac} h => h
theorem compile_strip {P : Program} {N : Nat} : ∀ {c ac}, compile P N c = some ac → ac.strip = ac := by
  intro c
  induction c with
  | region i ops draw =>
    intro ac h
    simp only [compile] at h; split at h
    · injection h with h; subst h; rfl
    · cases h
  | seq a b ha hb =>
    intro ac h
    simp only [compile] at h; split at h
    · rename_i e1 e2; injection h with h; subst h; simp only [ACode.strip, ha e1, hb e2]
    · cases h
  | cond c a b ha hb =>
    intro ac h
    simp only [compile] at h; split at h
    · rename_i e0 e1 e2; injection h with h; subst h; simp only [ACode.strip, ha e1, hb e2]
    · cases h
  | block i a ha =>
    intro ac h
    simp only [compile] at h; split at h
    · rename_i e1; injection h with h; subst h; simp only [ACode.strip, ha e1]
    · cases h
  | scope a ha =>
    intro ac h
    simp only [compile] at h; split at h
    · rename_i e1; injection h with h; subst h; simp only [ACode.strip, ha e1]
    · cases h
  | loop a ha =>
    intro ac h
    simp only [compile] at h; split at h
    · rename_i e1; injection h with h; subst h; simp only [ACode.strip, ha e1]
    · cases h
  | skip | exit | label | ret => intro ac h; simp only [compile] at h; injection h with h; subst h; rfl
  | _ => intro ac h; cases h
theorem cs2 {P : Program} {L : List (Nat × List Bool)} {N : Nat} {c : Code} {ac : ACode} (hL : okE P L = true) (h : compile2 P L N c = some ac) : compile P N c = some ac.strip := by
  rw [compile_strip (compile2_eq hL h)]; exact compile2_eq hL h
section
variable {P : Program} {L : List (Nat × List Bool)} {f : FuncId} {fn : Func} {ac : ACode} {args : List AV} {ts : List Nat} {rs : List AV} {r : AV} {O O' : List (Nat × AObj)} {rvs : List (Nat × Option (Option Nat))}
theorem en1 (hm : P.follows .mixedOrders = true) (hL : okE P L = true) (hf : P.funcs[f]? = some fn) (hc : compile2 P L fn.ntmps (fn.body.getD .skip) = some ac) (hts : tmpsOf fn.results.toList = some ts)
    (h : @Wi P fn.ntmps [] ac (retI ts [r]) (start args [])) (hb : fn.body = some (fn.body.getD .skip) := by kernel_rfl) (hname : (fn.name != "runtime.NumGoroutine") = true := by kernel_rfl) (hnd : ts.Nodup := by decide) (hl : (args.length.ble fn.ntmps) = true := by kernel_rfl) :
    CallsA P f args [] r [] := callsI_of hm hf hb hname (cs2 hL hc) hts hnd hl h
end
end Go.Abs
end
section
namespace Go.Abs
section
open Api
@[go_sem] theorem eta_Vec (x : Vec) : Vec.mk x.X x.Y = x := rfl
@[go_sem] theorem eta_Settings (x : Settings) : Settings.mk x.TimeStep x.Gravity x.Iterations x.SleepSteps = x := rfl
@[go_sem] theorem eta_Transform (x : Transform) : Transform.mk x.Position x.Angle = x := rfl
@[go_sem] theorem eta_Shape (x : Shape) : Shape.mk x.Kind x.Radius x.Vertices = x := rfl
@[go_sem] theorem eta_Fixture (x : Fixture) : Fixture.mk x.Shape x.Density x.Friction x.Restitution x.Sensor x.Category x.Mask x.Group = x := rfl
@[go_sem] theorem eta_Body (x : Body) : Body.mk x.ID x.Kind x.Transform x.Velocity x.AngularVelocity x.Force x.Torque x.LinearDamping x.AngularDamping x.GravityScale x.Bullet x.FixedRotation x.NoSleep x.Asleep x.IdleSteps x.Fixtures = x := rfl
@[go_sem] theorem eta_Four (x : Four) : Four.mk x.I0 x.I1 x.I2 x.I3 = x := rfl
@[go_sem] theorem eta_Joint (x : Joint) : Joint.mk x.ID x.Kind x.BodyA x.BodyB x.AnchorA x.AnchorB x.Axis x.ReferenceAngle x.EnableLimit x.Lower x.Upper x.EnableMotor x.MotorSpeed x.MaxForce x.Softness x.BreakForce x.CollideConnected x.Impulses = x := rfl
@[go_sem] theorem eta_PairKey (x : PairKey) : PairKey.mk x.BodyA x.FixtureA x.BodyB x.FixtureB = x := rfl
@[go_sem] theorem eta_ContactPoint (x : ContactPoint) : ContactPoint.mk x.Point x.Separation x.ID x.NormalImpulse x.TangentImpulse = x := rfl
@[go_sem] theorem eta_Manifold (x : Manifold) : Manifold.mk x.Normal x.Points = x := rfl
@[go_sem] theorem eta_Contact (x : Contact) : Contact.mk x.Key x.Manifold = x := rfl
@[go_sem] theorem eta_World (x : Api.World) : Api.World.mk x.Settings x.Bodies x.Joints x.Contacts x.Overlaps x.NextID x.Frame = x := rfl
@[go_sem] theorem eta_Island (x : Island) : Island.mk x.Bodies x.Contacts x.Joints = x := rfl
end
end Go.Abs
end
section
namespace Go.Abs
@[reducible] def loopK (K : List Nat) (I : Nat → Prop) (T : Nat → Slots) (O : Nat → List (Nat × AObj)) (i : Nat) (Q : Cont) : Cont :=
  ⟨Out.then (fun τ => I (i + 1) ∧ WeakE K τ (T (i + 1)) (O (i + 1))) Q.q⟩
@[reducible] def loopX (Q : Cont) : Cont := ⟨Out.then (fun _ => False) Q.q⟩
section
variable {P : Program} {N : Nat} {K : List Nat}
theorem Qi_loopK_normal {I : Nat → Prop} {T : Nat → Slots} {O : Nat → List (Nat × AObj)} {i : Nat} {Q : Cont} {σ : St} : @Qi (loopK K I T O i Q) .normal σ = (I (i + 1) ∧ WeakE K σ (T (i + 1)) (O (i + 1))) := rfl
theorem Qi_loopK_exit {I : Nat → Prop} {T : Nat → Slots} {O : Nat → List (Nat × AObj)} {i : Nat} {Q : Cont} {σ : St} {j : Nat} : @Qi (loopK K I T O i Q) (.exit j) σ = @Qi Q (.exit j) σ := rfl
theorem Qi_loopK_ret {I : Nat → Prop} {T : Nat → Slots} {O : Nat → List (Nat × AObj)} {i : Nat} {Q : Cont} {σ : St} : @Qi (loopK K I T O i Q) .ret σ = @Qi Q .ret σ := rfl
theorem Qi_loopX_normal {Q : Cont} {σ : St} : @Qi (loopX Q) .normal σ = False := rfl
theorem Qi_loopX_exit {Q : Cont} {σ : St} {j : Nat} : @Qi (loopX Q) (.exit j) σ = @Qi Q (.exit j) σ := rfl
theorem Qi_loopX_ret {Q : Cont} {σ : St} : @Qi (loopX Q) .ret σ = @Qi Q .ret σ := rfl
end
attribute [go_sem] Qi_loopK_normal Qi_loopK_exit Qi_loopK_ret Qi_loopX_normal Qi_loopX_exit Qi_loopX_ret
end Go.Abs
end
