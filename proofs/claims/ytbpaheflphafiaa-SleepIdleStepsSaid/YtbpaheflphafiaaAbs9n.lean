/- The abstract layer, part 9n: nil, parts of slices, functions as values. -/
import Derived.Test.YtbpaheflphafiaaAbs9
import Derived.Laws.Slices
import Derived.Laws.Cover3
import Derived.Laws.Pointers
import Derived.Laws.Strings
set_option linter.unusedSimpArgs false
set_option linter.unusedVariables false
set_option linter.unnecessarySimpa false
namespace Go.Abs
/-! ### is it nil? -/
section
variable {P : Program} {G : Nat → Prop} {w : World} {ob : Place} {m : Nat → Option AObj}

def nilKd (P : Program) (t : TypeId) (v : Value) : Option Nat :=
  match P.underlying t, v with
  | some (.slice _), .slice none 0 0 => some 0
  | some (.pointer _), .pointer none => some 1
  | some (.map _ _), .map none => some 2
  | _, _ => none

def nilCmp (P : Program) (op : BinOp) (t : TypeId) : Operand → Option (Nat × Bool × Value)
  | .const v => match op with
    | .eql => (nilKd P t v).map fun k => (k, false, v)
    | .neq => (nilKd P t v).map fun k => (k, true, v)
    | _ => none
  | _ => none

def NilSide (u : Value) : Prop := (∃ a n c, u = .slice a n c) ∨ (∃ a, u = .pointer a) ∨ (∃ a, u = .map a) ∨ u = .nilFunc ∨ ∃ f a b, u = .func f a b

theorem isNilA_ok {t : TypeId} {v u : Value} {kd : Nat} {a : AV} {p : Prop} {b : Bool} (hs : SimO G w ob m) (hk : nilKd P t v = some kd) (hb : isNilA m kd a = some (p, b)) (hp : p) (hr : Rel G w ob a u) (D : Nat) :
    (Op.equalIn (D + 1) t u v).run P w = .ok b w ∧ NilSide u := by
  unfold nilKd at hk
  split at hk <;> simp only [Option.some.injEq, reduceCtorEq] at hk <;> subst hk
  · rename_i hu
    have some_case : ∀ ad n c, (Op.equalIn (D + 1) t (.slice (some ad) n c) (.slice none 0 0)).run P w = .ok false w := fun ad n c => run_equalIn_slice_nil w D t _ _ n c hu
    cases a <;> simp only [isNilA, reduceCtorEq, Option.some.injEq, Prod.mk.injEq] at hb
    case sc q =>
      cases q <;> simp only [isNilA, reduceCtorEq, Option.some.injEq, Prod.mk.injEq] at hb
      obtain ⟨_, rfl⟩ := hb
      rw [hr.sc_eq]
      exact ⟨run_equalIn_slice_nil w D t _ _ _ _ hu, .inl ⟨_, _, _, rfl⟩⟩
    case dsl =>
      obtain ⟨rfl, rfl⟩ := hb
      cases hr with
      | dslNil => omega
      | dslE => omega
      | dsl => exact ⟨some_case _ _ _, .inl ⟨_, _, _, rfl⟩⟩
    case dslx =>
      obtain ⟨rfl, rfl⟩ := hb
      cases hr with
      | dslxNil => omega
      | dslxE => omega
      | dslx => exact ⟨some_case _ _ _, .inl ⟨_, _, _, rfl⟩⟩
    case sl id off n tot =>
      cases hr with
      | sl i h hle hss hv =>
        have fin : ∀ s : Sq, i.len = s.n → (i.blk = none → s.n = 0) → 0 < n ∧ tot = s.n → (Op.equalIn (D + 1) t u (.slice none 0 0)).run P w = .ok false w ∧ NilSide u := by
          rintro s hl hbn ⟨hn, rfl⟩
          obtain ⟨h1, h2, h3⟩ := hv hl
          cases hbk : i.blk with
          | none => have := hbn hbk; omega
          | some b' =>
            obtain ⟨o, c, rfl, _⟩ := h3 b' hbk
            exact ⟨some_case _ _ _, .inl ⟨_, _, _, rfl⟩⟩
        cases hm : m id with
        | none => simp [hm] at hb
        | some obj =>
          rw [hm] at hb
          have ho := hs.own id obj i hm h
          cases obj <;> simp only [reduceCtorEq, Option.some.injEq, Prod.mk.injEq] at hb
          · obtain ⟨rfl, rfl⟩ := hb; exact fin _ ho.2.2.1 ho.arr_none hp
          · obtain ⟨rfl, rfl⟩ := hb; exact fin _ ho.2.2.1 ho.frz_none hp
  · rename_i hu
    have hu' : P.underlying t = some (.pointer (P.pointee t)) := by simp [Program.pointee, hu]
    have ptr_case : ∀ q, (Op.equalIn (D + 1) t (.pointer q) (.pointer none)).run P w = .ok q.isNone w := fun q => run_equalIn_pointer_nil w D t q hu'
    cases a <;> simp only [isNilA, reduceCtorEq, Option.some.injEq, Prod.mk.injEq] at hb
    case sc q =>
      cases q <;> simp only [isNilA, reduceCtorEq, Option.some.injEq, Prod.mk.injEq] at hb
      obtain ⟨_, rfl⟩ := hb
      rw [hr.sc_eq]
      exact ⟨ptr_case _, .inr (.inl ⟨_, rfl⟩)⟩
    case ptr =>
      obtain ⟨_, rfl⟩ := hb
      cases hr
      exact ⟨ptr_case _, .inr (.inl ⟨_, rfl⟩)⟩
    case fptr =>
      obtain ⟨_, rfl⟩ := hb
      cases hr
      exact ⟨ptr_case _, .inr (.inl ⟨_, rfl⟩)⟩
  · rename_i hu
    cases a <;> simp only [isNilA, reduceCtorEq, Option.some.injEq, Prod.mk.injEq] at hb
    case sc q =>
      cases q <;> simp only [isNilA, reduceCtorEq, Option.some.injEq, Prod.mk.injEq] at hb
      obtain ⟨_, rfl⟩ := hb
      rw [hr.sc_eq]
      exact ⟨run_equalIn_map_nil w D t _ _ _ hu, .inr (.inr (.inl ⟨_, rfl⟩))⟩
    case mp =>
      obtain ⟨_, rfl⟩ := hb
      cases hr
      exact ⟨run_equalIn_map_nil w D t _ _ _ hu, .inr (.inr (.inl ⟨_, rfl⟩))⟩

theorem ok_isnil {op : BinOp} {t : TypeId} {kd : Nat} {neg : Bool} {v : Value} {ρ : Operand → Value} {e : AX → Option AV} {x y : Operand} {ax : AX} {p : Prop} {r : Res} {d : Nat}
    (hn : nilCmp P op t y = some (kd, neg, v)) (hyv : ρ (.const v) = v)
    (hs : SimO G w ob m) (hx : cx x = some ax) (he : OpRel G w ob ρ e) (hv : eval (.isnil kd neg ax) e m d = some (p, r)) (hp : p) :
    OpOk P G w ob m (do pure (.value (← (do eqGuard op t x y (ρ x) (ρ y); binOp op t (ρ x) (ρ y))))) r := by
  simp only [eval] at hv
  cases hax : e ax with
  | none => simp [hax] at hv
  | some a =>
    simp only [hax, Option.map_eq_some_iff, Prod.mk.injEq] at hv
    obtain ⟨⟨p', b⟩, hk, rfl, rfl⟩ := hv
    unfold nilCmp at hn
    split at hn
    case h_2 => cases hn
    rename_i v'
    have key : nilKd P t v' = some kd ∧ v' = v ∧ ((op = .eql ∧ neg = false) ∨ (op = .neq ∧ neg = true)) := by
      split at hn
      · simp only [Option.map_eq_some_iff, Prod.mk.injEq] at hn
        obtain ⟨_, h1, rfl, rfl, rfl⟩ := hn
        exact ⟨h1, rfl, .inl ⟨rfl, rfl⟩⟩
      · simp only [Option.map_eq_some_iff, Prod.mk.injEq] at hn
        obtain ⟨_, h1, rfl, rfl, rfl⟩ := hn
        exact ⟨h1, rfl, .inr ⟨rfl, rfl⟩⟩
      · cases hn
    obtain ⟨h1, rfl, hop⟩ := key
    rw [hyv]
    obtain ⟨h2, h3⟩ := isNilA_ok hs h1 hk hp (he x ax a hx hax) 9999
    simp only [Nat.reduceAdd] at h2
    generalize ρ x = u at h2 h3
    have hv' : v' = .slice none 0 0 ∨ v' = .pointer none ∨ v' = .map none := by
      unfold nilKd at h1
      split at h1 <;> simp only [Option.some.injEq, reduceCtorEq] at h1 <;> simp
    have hg : (eqGuard op t x (.const v') u v').run P w = .ok () w := by
      unfold eqGuard
      rcases hv' with rfl | rfl | rfl <;> rcases h3 with ⟨a, n, c, rfl⟩ | ⟨a, rfl⟩ | ⟨a, rfl⟩ | rfl | ⟨f, a, b, rfl⟩ <;> rcases hop with ⟨rfl, _⟩ | ⟨rfl, _⟩ <;> simp
    refine OpOk.quiet hs (v := .bool (if neg then !b else b)) ?_ (.sc rfl)
    rcases hop with ⟨rfl, rfl⟩ | ⟨rfl, rfl⟩
    · have : (binOp .eql t u v').run P w = .ok (.bool b) w := by
        rcases hv' with rfl | rfl | rfl <;> rcases h3 with ⟨a, n, c, rfl⟩ | ⟨a, rfl⟩ | ⟨a, rfl⟩ | rfl | ⟨f, a, b, rfl⟩ <;> simp [binOp, Op.equal, Op.maxDepth, h2]
      simp [hg, this]
    · have : (binOp .neq t u v').run P w = .ok (.bool (!b)) w := by
        rcases hv' with rfl | rfl | rfl <;> rcases h3 with ⟨a, n, c, rfl⟩ | ⟨a, rfl⟩ | ⟨a, rfl⟩ | rfl | ⟨f, a, b, rfl⟩ <;> simp [binOp, Op.equal, Op.maxDepth, h2]
      simp [hg, this]

theorem run_val {s : Sem Value} {v : Value} (h : s.run P w = .ok v w) : (do pure (.value (← s)) : Sem Next).run P w = .ok (.value v) w := by simp [h]

theorem ok_sidx {t : TypeId} {ρ : Operand → Value} {e : AX → Option AV} {x y : Operand} {ax ay : AX} {p : Prop} {r : Res} {d : Nat}
    (ht : P.underlying t = some .string) (hs : SimO G w ob m) (hx : cx x = some ax) (hy : cx y = some ay) (he : OpRel G w ob ρ e) (hv : eval (.sidx ax ay) e m d = some (p, r)) (hp : p) :
    OpOk P G w ob m (do pure (.value (← Instr.index t (ρ x) (ρ y)))) r := by
  simp only [eval] at hv
  split at hv
  case h_2 => cases hv
  rename_i s k j hax hay
  simp only [Option.some.injEq, Prod.mk.injEq] at hv
  obtain ⟨rfl, rfl⟩ := hv
  obtain ⟨h0, h1⟩ := hp
  rw [(he x ax _ hx hax).sc_eq, (he y ay _ hy hay).sc_eq]
  refine OpOk.quiet hs (v := .int .u8 ((s.data.getD j.toNat 0).toNat : Int)) ?_ (.sc rfl)
  have hd : j.toNat < s.data.size := h1
  refine run_val ?_
  rw [run_index_string w t s k j ht, dif_pos ⟨h0, by omega⟩]
  have : s[j.toNat]'(by omega) = s.data.getD j.toNat 0 := by
    rw [Array.getD, dif_pos hd]; rfl
  rw [this]

/-! ### parts of slices -/

theorem dsl_sub {z n L H M : Nat} {g : Nat → List AV} {a : Option Addr} {cap : Nat} (hr : Rel G w ob (.dsl z n g) (.slice a n cap)) (h1 : L ≤ H) (h2 : H ≤ n) (h3 : H ≤ M) (h4 : M ≤ cap) :
    Rel G w ob (.dsl z (H - L) fun i => g (L + i)) (sliced a L H M z) ∧ Rel G w ob (.dslx z (H - L) fun i => g (L + i)) (sliced a L H H z) := by
  have empty : H = L → (a = none → M = 0) → Rel G w ob (.dsl z (H - L) fun i => g (L + i)) (sliced a L H M z) ∧ Rel G w ob (.dslx z (H - L) fun i => g (L + i)) (sliced a L H H z) := by
    intro e ha
    subst e
    unfold sliced
    rw [Nat.sub_self]
    cases a with
    | none =>
      have := ha rfl
      subst this
      have hL : H = 0 := by omega
      subst hL
      simp only [if_true]
      exact ⟨.dslNil, .dslxNil⟩
    | some a =>
      simp only [if_true]
      refine ⟨?_, .dslxE _⟩
      split
      · exact .dslE _ _
      · exact .dslE _ _
  by_cases e : H = L
  · refine empty e fun ha => ?_
    subst ha
    cases hr with
    | dslNil => omega
  · cases hr with
    | dslNil => omega
    | dslE => omega
    | dsl b off _ c hG hcap hlen hpp hc hrr =>
      unfold sliced
      rw [if_neg (by omega), if_neg (by omega)]
      simp only [Option.map_some, addr_add]
      have hcell : ∀ (i j : Nat), i < H - L → j < z → w.cell? ⟨b, off + L * z + (i * z + j), none⟩ = some (c (L + i) j) := fun i j hi hj => by
        rw [← hc (L + i) j (by omega) hj]
        congr 2
        rw [Nat.add_mul]; omega
      exact ⟨.dsl b _ _ (fun i j => c (L + i) j) hG (by omega) (fun i hi => hlen _ (by omega)) (fun i j av hi hj => hpp _ j av (by omega) hj) hcell (fun i j av hi hj => hrr _ j av (by omega) hj),
        .dslx b _ (fun i j => c (L + i) j) hG (fun i hi => hlen _ (by omega)) (fun i j av hi hj => hpp _ j av (by omega) hj) hcell (fun i j av hi hj => hrr _ j av (by omega) hj)⟩

theorem Rel.of_dslx {z n : Nat} {g : Nat → List AV} {v : Value} (hr : Rel G w ob (.dslx z n g) v) : Rel G w ob (.dsl z n g) v := by
  cases hr with
  | dslxNil => exact .dslNil
  | dslxE a => exact .dslE a 0
  | dslx b off c hG hlen hp hc hr => exact .dsl b off n c hG (Nat.le_refl n) hlen hp hc hr

def VI (o : Option Value) (i : Option Int) : Prop := (o = none ∧ i = none) ∨ ∃ k j, o = some (.int k j) ∧ i = some j

theorem run_sl {t el : TypeId} {esz : Nat} (ht : P.underlying t = some (.slice el)) (hz : szOf P el = some esz) {lo hi mx : Option Value} {l h q : Option Int} (hl : VI lo l) (hh : VI hi h) (hq : VI mx q)
    {a : Option Addr} {len cap : Nat} (hlc : len ≤ cap) (h0 : 0 ≤ l.getD 0) (h1 : l.getD 0 ≤ h.getD len) (h2 : h.getD len ≤ len) (h3 : h.getD len ≤ q.getD cap) (h4 : q.getD cap ≤ cap) (h5 : q.isSome → h.isSome) :
    (Instr.sliceAt t (.slice a len cap) lo hi mx).run P w = .ok (sliced a (l.getD 0).toNat (h.getD len).toNat (q.getD cap).toNat esz) w := by
  have he : P.elem t = el := by simp [Program.elem, ht]
  have ht' : P.underlying t = some (.slice (P.elem t)) := by rw [he]; exact ht
  have hz' : (sizeOf (P.elem t)).run P w = .ok esz w := by rw [he]; exact run_sizeOf hz
  rw [run_sliceAt_slice w t _ _ _ _ ht']
  rcases hl with ⟨rfl, rfl⟩ | ⟨kl, l, rfl, rfl⟩ <;> rcases hh with ⟨rfl, rfl⟩ | ⟨kh, h, rfl, rfl⟩ <;> rcases hq with ⟨rfl, rfl⟩ | ⟨kq, q, rfl, rfl⟩ <;>
    simp only [Option.getD_none, Option.getD_some, Option.isSome_some, Option.isSome_none, true_implies, Bool.false_eq_true] at h0 h1 h2 h3 h4 h5
  · rw [run_slice_all w t a len cap ht', hz']; simp
  · rw [run_slice_h w t a len cap ht' kh h (by omega) (by omega), hz']; simp
  · rw [run_slice_hm w t a len cap ht' kh kq h q (by omega) (by omega) (by omega), hz']; simp
  · rw [run_slice_l w t a len cap ht' kl l (by omega) (by omega), hz']; simp
  · rw [run_slice_lh w t a len cap ht' kl kh l h (by omega) (by omega) (by omega), hz']; simp
  · rw [run_slice_lhm w t a len cap ht' kl kh kq l h q (by omega) (by omega) (by omega) (by omega), hz']; simp

/-- optional operands -/
def cxo : Option Operand → Option (Option AX)
  | none => some none
  | some x => (cx x).map some

theorem optI_ok {ρ : Operand → Value} {e : AX → Option AV} (he : OpRel G w ob ρ e) {x : Option Operand} {ax : Option AX} {i : Option Int} (hx : cxo x = some ax) (hi : optI e ax = some i) : VI (x.map ρ) i := by
  cases x with
  | none => simp only [cxo, Option.some.injEq] at hx; subst hx; simp only [optI, Option.some.injEq] at hi; exact .inl ⟨rfl, hi.symm⟩
  | some x =>
    simp only [cxo, Option.map_eq_some_iff] at hx
    obtain ⟨a, ha, rfl⟩ := hx
    simp only [optI] at hi
    split at hi
    · rename_i k j hj
      simp only [Option.some.injEq] at hi
      subst hi
      exact .inr ⟨k, j, by simp [(he x a _ ha hj).sc_eq], rfl⟩
    · cases hi

theorem ok_slice {t el : TypeId} {esz : Nat} {ρ : Operand → Value} {e : AX → Option AV} {x : Operand} {lo hi mx : Option Operand} {ax : AX} {al ah am : Option AX} {p : Prop} {r : Res} {d : Nat}
    (ht : P.underlying t = some (.slice el)) (hz : szOf P el = some esz) (hl : cxo lo = some al) (hh : cxo hi = some ah) (hmx : cxo mx = some am)
    (hs : SimO G w ob m) (hx : cx x = some ax) (he : OpRel G w ob ρ e) (hv : eval (.slice esz ax al ah am) e m d = some (p, r)) (hp : p) :
    OpOk P G w ob m (do pure (.value (← Instr.sliceAt t (ρ x) (lo.map ρ) (hi.map ρ) (mx.map ρ)))) r := by
  simp only [eval] at hv
  split at hv
  · rename_i z n g l h q hax hal hah ham
    have hr := he x ax _ hx hax
    have hL := optI_ok he hl hal
    have hH := optI_ok he hh hah
    have hM := optI_ok he hmx ham
    split at hv
    case isFalse => cases hv
    rename_i hze; subst hze
    have shape : ∃ a cap, ρ x = .slice a n cap ∧ n ≤ cap := by
      generalize ρ x = v at hr
      cases hr with
      | dslNil => exact ⟨_, _, rfl, Nat.le_refl _⟩
      | dslE a cap => exact ⟨_, _, rfl, Nat.zero_le _⟩
      | dsl b off cap c hG hcap => exact ⟨_, _, rfl, hcap⟩
    obtain ⟨a, cap, hxe, hcap⟩ := shape
    rw [hxe] at hr ⊢
    split at hv
    · simp only [Option.some.injEq, Prod.mk.injEq] at hv
      obtain ⟨rfl, rfl⟩ := hv
      obtain ⟨h0, h1, h2⟩ := hp
      have hrun := run_sl (w := w) ht hz hL hH hM (a := a) hcap h0 h1 h2 (by simp; omega) (by simp) (by simp)
      have hsub := (dsl_sub (L := (l.getD 0).toNat) (H := (h.getD n).toNat) (M := cap) hr (by omega) (by omega) (by omega) (Nat.le_refl _)).1
      have e1 : (h.getD (n : Int) - l.getD 0).toNat = (h.getD (n : Int)).toNat - (l.getD 0).toNat := by omega
      rw [e1]
      exact OpOk.quiet hs (run_val hrun) (by simpa using hsub)
    · rename_i k
      simp only [Option.some.injEq, Prod.mk.injEq] at hv
      obtain ⟨rfl, rfl⟩ := hv
      obtain ⟨h0, h1, h2, h3, rfl⟩ := hp
      have hrun := run_sl (w := w) ht hz hL hH hM (a := a) hcap h0 h1 h2 (by simp) (by simp; omega) (by simp [h3])
      have hsub := (dsl_sub (L := (l.getD 0).toNat) (H := (h.getD n).toNat) (M := (h.getD n).toNat) hr (by omega) (by omega) (by omega) (by omega)).2
      have e1 : (h.getD (n : Int) - l.getD 0).toNat = (h.getD (n : Int)).toNat - (l.getD 0).toNat := by omega
      rw [e1]
      exact OpOk.quiet hs (run_val hrun) (by simpa using hsub)
  · rename_i z n g l h hax hal hah ham
    have hr := he x ax _ hx hax
    have hL := optI_ok he hl hal
    have hH := optI_ok he hh hah
    have hM := optI_ok he hmx ham
    split at hv
    case isFalse => cases hv
    rename_i hze; subst hze
    have shape : ∃ a, ρ x = .slice a n n := by
      generalize ρ x = v at hr
      cases hr with
      | dslxNil => exact ⟨_, rfl⟩
      | dslxE a => exact ⟨_, rfl⟩
      | dslx b off c hG => exact ⟨_, rfl⟩
    obtain ⟨a, hxe⟩ := shape
    rw [hxe] at hr ⊢
    simp only [Option.some.injEq, Prod.mk.injEq] at hv
    obtain ⟨rfl, rfl⟩ := hv
    obtain ⟨h0, h1, h2⟩ := hp
    have hrun := run_sl (w := w) ht hz hL hH hM (a := a) (Nat.le_refl n) h0 h1 h2 (by simp; omega) (by simp) (by simp)
    have hsub := (dsl_sub (L := (l.getD 0).toNat) (H := (h.getD n).toNat) (M := n) hr.of_dslx (by omega) (by omega) (by omega) (Nat.le_refl _)).1
    have e1 : (h.getD (n : Int) - l.getD 0).toNat = (h.getD (n : Int)).toNat - (l.getD 0).toNat := by omega
    rw [e1]
    exact OpOk.quiet hs (run_val hrun) (by simpa using hsub)
  · rename_i id off n tot l h hax hal hah ham
    have hr := he x ax _ hx hax
    have hL := optI_ok he hl hal
    have hH := optI_ok he hh hah
    have hM := optI_ok he hmx ham
    have fin : ∀ (s : Sq) (z : Nat) (i : Info), z = esz → ob id = some i → i.esz = z → i.len = s.n → (i.blk = none → s.n = 0) → tot = s.n ∧ 0 ≤ l.getD 0 ∧ l.getD 0 ≤ h.getD n ∧ h.getD n ≤ n →
        OpOk P G w ob m (do pure (.value (← Instr.sliceAt t (ρ x) (lo.map ρ) (hi.map ρ) (mx.map ρ)))) ⟨some (.sl id (off + (l.getD 0).toNat) (h.getD n - l.getD 0).toNat tot), []⟩ := by
      rintro s z i rfl hoi hiz hil hbn ⟨rfl, h0, h1, h2⟩
      generalize ρ x = v at hr
      cases hr with
      | sl i' h' hle hss hvv =>
        rw [hoi] at h'; injection h' with h'; subst h'
        obtain ⟨g1, g2, g3⟩ := hvv hil
        have e1 : (h.getD (n : Int) - l.getD 0).toNat = (h.getD (n : Int)).toNat - (l.getD 0).toNat := by omega
        rw [e1]
        cases hb : i.blk with
        | none =>
          have hn0 := hbn hb
          have hnn : n = 0 := by omega
          subst hnn
          have hL0 : l.getD 0 = 0 := by omega
          have hH0 : h.getD ((0 : Nat) : Int) = 0 := by omega
          have go : ∀ a : Option Addr, v = .slice a 0 0 → (a = none → v = .slice none 0 0) → OpOk P G w ob m (do pure (.value (← Instr.sliceAt t v (lo.map ρ) (hi.map ρ) (mx.map ρ)))) ⟨some (.sl id (off + (l.getD 0).toNat) ((h.getD ((0 : Nat) : Int)).toNat - (l.getD 0).toNat) s.n), []⟩ := by
            rintro a rfl -
            have hrun := run_sl (w := w) ht hz hL hH hM (a := a) (Nat.le_refl 0) h0 h1 h2 (by simp; omega) (by simp) (by simp)
            refine OpOk.quiet hs (run_val hrun) ?_
            rw [hL0, hH0]
            simp only [Option.getD_none, Int.toNat_natCast, Int.toNat_zero, sliced, Nat.sub_self, if_true, Nat.add_zero]
            refine .sl i hoi (by omega) ⟨_, _, rfl⟩ fun _ => ⟨by omega, fun _ => ?_, fun b hb' => by rw [hb] at hb'; cases hb'⟩
            cases a with
            | none => exact .inl rfl
            | some a => exact .inr ⟨a, rfl⟩
          rcases g2 hb with e | ⟨a, e⟩
          · exact go none e fun _ => e
          · exact go (some a) e fun h => by cases h
        | some b =>
          obtain ⟨o, c, rfl, hc, ho1, ho2⟩ := g3 b hb
          have hrun := run_sl (w := w) ht hz hL hH hM (a := some ⟨b, o, none⟩) hc h0 h1 h2 (by simp; omega) (by simp) (by simp)
          refine OpOk.quiet hs (run_val hrun) ?_
          simp only [Option.getD_none, Int.toNat_natCast, sliced, Option.map_some, addr_add]
          refine .sl i hoi (by omega) ⟨_, _, rfl⟩ fun _ => ⟨by omega, (fun hb' => by rw [hb] at hb'; cases hb'), fun b' hb' => ?_⟩
          · rw [hb] at hb'; injection hb' with hb'; subst hb'
            refine ⟨if c = (l.getD 0).toNat then o else o + (l.getD 0).toNat * z, c - (l.getD 0).toNat, ?_, by omega, fun hpos => ?_, fun h0' => ?_⟩
            · split <;> rfl
            · rw [if_neg (by omega), ho1 (by omega), hiz, Nat.add_mul]
            · obtain ⟨rfl, rfl⟩ := ho2 (by omega)
              have : (l.getD 0).toNat = 0 := by omega
              rw [this]; simp
    cases hm' : m id with
    | none => simp [hm'] at hv
    | some obj =>
      cases hi' : ob id with
      | none => rw [(hs.dom id).2 hi'] at hm'; cases hm'
      | some i =>
        have ho := hs.own id obj i hm' hi'
        rw [hm'] at hv
        cases obj <;> simp only [reduceCtorEq] at hv
        · split at hv
          · rename_i hze
            simp only [Option.some.injEq, Prod.mk.injEq] at hv
            obtain ⟨rfl, rfl⟩ := hv
            exact fin _ _ i hze hi' ho.2.1 ho.2.2.1 ho.arr_none hp
          · cases hv
        · split at hv
          · rename_i hze
            simp only [Option.some.injEq, Prod.mk.injEq] at hv
            obtain ⟨rfl, rfl⟩ := hv
            exact fin _ _ i hze hi' ho.2.1 ho.2.2.1 ho.frz_none hp
          · cases hv
  · cases hv

theorem ok_mkfn {f : Fn} {ρ : Operand → Value} {e : AX → Option AV} {first cap : List Operand} {a1 a2 : List AX} {p : Prop} {r : Res} {d : Nat}
    (h1 : ∀ j : Nat, (first[j]?).map cx = (a1[j]?).map some) (h2 : ∀ j : Nat, (cap[j]?).map cx = (a2[j]?).map some)
    (hs : SimO G w ob m) (he : OpRel G w ob ρ e) (hv : eval (.mkfn f a1 a2) e m d = some (p, r)) :
    OpOk P G w ob m (do pure (.value (← Instr.makeFunc f (first.toArray.map ρ) (cap.toArray.map ρ)))) r := by
  simp only [eval] at hv
  split at hv
  case h_2 => cases hv
  rename_i vs us hvs hus
  simp only [Option.some.injEq, Prod.mk.injEq] at hv
  obtain ⟨_, rfl⟩ := hv
  have key : ∀ (os : List Operand) (as : List AX) (vs : List AV), (∀ j : Nat, (os[j]?).map cx = (as[j]?).map some) → esL e as = some vs → os.length = vs.length ∧ ∀ (j : Nat) (av : AV), vs[j]? = some av → Rel G w ob av ((os.map ρ).getD j undef) := by
    intro os
    induction os with
    | nil =>
      intro as vs h hv
      cases as with
      | nil => simp only [esL, Option.some.injEq] at hv; subst hv; exact ⟨rfl, fun j av hj => by simp at hj⟩
      | cons a as => have := h 0; simp at this
    | cons o os ih =>
      intro as vs h hv
      cases as with
      | nil => have := h 0; simp at this
      | cons a as =>
        have h0 := h 0
        simp only [List.getElem?_cons_zero, Option.map_some, Option.some.injEq] at h0
        simp only [esL] at hv
        split at hv
        · rename_i v vs' hv1 hv2
          simp only [Option.some.injEq] at hv; subst hv
          obtain ⟨i1, i2⟩ := ih as vs' (fun j => by simpa using h (j + 1)) hv2
          refine ⟨by simp [i1], fun j av hj => ?_⟩
          cases j with
          | zero => simp only [List.getElem?_cons_zero, Option.some.injEq] at hj; subst hj; simpa using he o a _ h0 hv1
          | succ j => simpa using i2 j av (by simpa using hj)
        · cases hv
  obtain ⟨k1, k2⟩ := key first a1 vs h1 hvs
  obtain ⟨k3, k4⟩ := key cap a2 us h2 hus
  refine OpOk.quiet hs (v := .func f (first.toArray.map ρ) (cap.toArray.map ρ)) (by simp [Instr.makeFunc]) (.fn _ _ (by simp [k1]) (by simp [k3]) (fun j av hj => ?_) (fun j av hj => ?_))
  · have e : (first.toArray.map ρ).getD j undef = (first.map ρ).getD j undef := by simp [List.getD]
    rw [e]; exact k2 j av hj
  · have e : (cap.toArray.map ρ).getD j undef = (cap.map ρ).getD j undef := by simp [List.getD]
    rw [e]; exact k4 j av hj

/-- a variable's row is frozen -/
theorem SimO.freezeB (hs : SimO G w ob m) {id : Nat} {cs : List AV} (hm : m id = some (.box cs)) (hp : cs.all AV.pure = true) :
    ∃ G', SimO G' w ob (upd m id (some (.frzb cs))) ∧ (∀ b, G b → G' b) ∧ (∀ b, G' b → G b ∨ blks ob b) ∧
      (∀ i b, ob id = some i → i.blk = some b → G' b) := by
  cases hi : ob id with
  | none => rw [(hs.dom id).2 hi] at hm; cases hm
  | some i =>
    have ho := hs.own id _ i hm hi
    refine ⟨fun b => G b ∨ i.blk = some b, ⟨?_, hs.inj, ?_, ?_, ?_⟩, fun b h => .inl h, fun b h => h.imp (fun h => h) (fun h => ⟨id, i, hi, h⟩), fun j b hj hb => ?_⟩
    · intro x
      by_cases hx : x = id
      · subst hx; simp [hi]
      · rw [upd_ne hx]; exact hs.dom x
    · rintro b (h | h)
      · exact hs.lt b h
      · exact ho.blk_lt h
    · intro x o j hx hj
      by_cases hxe : x = id
      · subst hxe
        simp only [upd_same, Option.some.injEq] at hx
        subst hx
        rw [hi] at hj; injection hj with hj; subst hj
        obtain ⟨h1, h2, h3, b, arr, T, h4, h5, h6, h7⟩ := ho
        refine ⟨h1, h2, h3, b, arr, T, (0, 0), h4, .inr h4, h5, h6, fun j av hj => ?_⟩
        obtain ⟨_, u, hu, hr⟩ := h7 j av hj
        exact ⟨List.all_eq_true.1 hp av (List.mem_of_getElem? hj), u, hu, hr.ext (fun _ h => .inl h) (fun _ _ => rfl) (OBext.refl ob)⟩
      · rw [upd_ne hxe] at hx
        exact (hs.own x o j hx hj).ext (fun _ h => .inl h) (fun _ _ => rfl) (OBext.refl ob) (fun _ _ => rfl)
    · intro x o j b hx hown hj hb
      by_cases hxe : x = id
      · subst hxe
        simp only [upd_same, Option.some.injEq] at hx
        subst hx
        simp [AObj.owned] at hown
      · rw [upd_ne hxe] at hx
        rintro (h | h)
        · exact hs.sep x o j b hx hown hj hb h
        · exact hxe (hs.inj _ _ _ _ b hj hi hb h)
    · injection hj with hj; subst hj; exact .inr hb

theorem dsl_row {b o n z : Nat} {cs : List AV} (hb : G b) (hlen : n * z ≤ cs.length) (hc : CellsAt G w ob b o cs) (hp : ∀ (j : Nat) (av : AV), j < n * z → cs[j]? = some av → av.pure = true) :
    Rel G w ob (.dsl z n fun i => (cs.drop (i * z)).take z) (.slice (some ⟨b, o, none⟩) n n) := by
  have hk : ∀ i j, i < n → j < z → i * z + j < cs.length := fun i j hi hj => by
    have : (i + 1) * z ≤ n * z := Nat.mul_le_mul_right _ hi
    rw [Nat.add_mul] at this; omega
  have hin : ∀ i j av, i < n → ((cs.drop (i * z)).take z)[j]? = some av → j < z ∧ cs[i * z + j]? = some av := fun i j av hi hj => by
    rw [List.getElem?_take] at hj
    split at hj
    · rename_i h; rw [List.getElem?_drop] at hj; exact ⟨h, hj⟩
    · cases hj
  refine .dsl b o n (fun i j => (w.cell? ⟨b, o + (i * z + j), none⟩).getD undef) hb (Nat.le_refl n) (fun i hi => ?_) (fun i j av hi hj => ?_) (fun i j hi hj => ?_) (fun i j av hi hj => ?_)
  · have : (i + 1) * z ≤ n * z := Nat.mul_le_mul_right _ hi
    rw [Nat.add_mul] at this
    simp only [List.length_take, List.length_drop]; omega
  · obtain ⟨h1, h2⟩ := hin i j av hi hj
    have : (i + 1) * z ≤ n * z := Nat.mul_le_mul_right _ hi
    rw [Nat.add_mul] at this
    exact hp _ av (by omega) h2
  · obtain ⟨_, u, hu, _⟩ := hc (i * z + j) _ (List.getElem?_eq_getElem (hk i j hi hj))
    rw [hu]; rfl
  · obtain ⟨h1, h2⟩ := hin i j av hi hj
    obtain ⟨_, u, hu, hr⟩ := hc (i * z + j) av h2
    rw [hu]; exact hr

theorem ok_aslice {t el : TypeId} {len esz : Nat} {ρ : Operand → Value} {e : AX → Option AV} {x : Operand} {ax : AX} {p : Prop} {r : Res} {d : Nat}
    (ht : P.underlying t = some (.array len el)) (hz : szOf P el = some esz)
    (hs : SimO G w ob m) (hx : cx x = some ax) (he : OpRel G w ob ρ e) (hv : eval (.aslice len esz ax) e m d = some (p, r)) (hp : p) :
    OpOk P G w ob m (do pure (.value (← Instr.sliceAt t (ρ x) none none none))) r := by
  have he' : P.elem t = el := by simp [Program.elem, ht]
  have hn' : P.arrayLen t = len := by simp [Program.arrayLen, ht]
  have hz' : (sizeOf (P.elem t)).run P w = .ok esz w := by rw [he']; exact run_sizeOf hz
  have key : ∀ b o, (Instr.sliceAt t (.pointer (some ⟨b, o, none⟩)) none none none).run P w = .ok (.slice (some ⟨b, o, none⟩) len len) w := fun b o => by
    rw [run_sliceAt_array_all w t _ (by rw [he', hn']; exact ht), hz']
    simp [slicedAt, hn', addr_add]
  simp only [eval] at hv
  split at hv
  · rename_i cs hax
    simp only [Option.some.injEq, Prod.mk.injEq] at hv
    obtain ⟨rfl, rfl⟩ := hv
    have hr := he x ax _ hx hax
    obtain ⟨b, off, hxe, hG, hc⟩ := fptr_cells hr
    have hpp : ∀ (j : Nat) (av : AV), cs[j]? = some av → av.pure = true := by
      generalize ρ x = v at hr
      cases hr with
      | fptr b off c hG hp hc hr => exact hp
    rw [hxe]
    exact OpOk.quiet hs (run_val (key b off)) (dsl_row hG hp hc fun j av _ hj => hpp j av hj)
  · rename_i id k o tot hax
    split at hv
    case h_2 => cases hv
    rename_i cs hm'
    split at hv
    case isFalse => cases hv
    rename_i hpure
    simp only [Option.some.injEq, Prod.mk.injEq] at hv
    obtain ⟨rfl, rfl⟩ := hv
    obtain ⟨rfl, rfl, hfit⟩ := hp
    have hr := he x ax _ hx hax
    obtain ⟨G', s1, s2, s3, s4⟩ := hs.freezeB hm' hpure
    generalize ρ x = v at hr
    cases hr with
    | ptr a i h hle hvv =>
      have ho := hs.own id _ i hm' h
      obtain ⟨h0, h1, h2, b, arr, T, h3, h4, h5, h6⟩ := ho
      obtain ⟨b', h7, rfl, _⟩ := hvv h1
      rw [h3] at h7; injection h7 with h7; subst h7
      simp only [Nat.zero_mul, Nat.zero_add]
      have hcs : CellsAt G' w ob b o (cs.drop o) := fun j av hj => by
        have hj := getElem?_drop_lt hj
        obtain ⟨ho, u, hu, hr⟩ := h6 _ av hj
        exact ⟨ho, u, by rw [cell_of_row w b _ arr T _ h4]; exact hu, hr.ext s2 (fun _ _ => rfl) (OBext.refl ob)⟩
      refine ⟨G', w, ob, _, .inl (run_val (key b o)), s1, fun av hav => ?_, OBext.refl ob, Fr.frozen s2 s3⟩
      injection hav with hav
      subst hav
      have := dsl_row (n := len) (z := esz) (s4 i b h h3) (by rw [List.length_drop]; omega) hcs fun j av _ hj => List.all_eq_true.1 hpure av (List.mem_of_getElem? (getElem?_drop_lt hj))
      simpa only [List.drop_drop] using this
  · cases hv
end
end Go.Abs
