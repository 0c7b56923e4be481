/- A part of the proof: what a function does, over abstract values and objects, and its ties to the model. -/
import Derived.Test.YtfkngoiiedmofaaGreatLA
import Derived.Laws.BytesString
import Derived.Laws.IdiomCopy
import Derived.Laws.CopyRow
import Derived.Laws.Slices
import Derived.Laws.Cover3
import Derived.Laws.Pointers
import Derived.Laws.Strings
import Derived.Orders
import Derived.Scope
set_option linter.unusedSimpArgs false
set_option linter.unusedVariables false
set_option linter.unnecessarySimpa false
set_option maxRecDepth 100000
set_option maxHeartbeats 2000000
section
namespace Go.Abs
section
variable {P : Program} {G : Nat → Prop} {w : World} {ob : Place} {m : Nat → Option AObj}
def nilKd (P : Program) (t : TypeId) (v : Value) : Option Nat :=
  match P.underlying t, v with
  | some (.slice _), .slice none 0 0 => some 0
  | some (.pointer _), .pointer none => some 1
  | some (.map _ _), .map none => some 2
  | _, _ => none
def nilCmp (P : Program) (op : BinOp) (t : TypeId) : Operand → Option (Nat × Bool × Value)
  | .const v => match op with
    | .eql => (nilKd P t v).map fun k => (k, false, v)
    | .neq => (nilKd P t v).map fun k => (k, true, v)
    | _ => none
  | _ => none
def NilSide (u : Value) : Prop := (∃ a n c, u = .slice a n c) ∨ (∃ a, u = .pointer a) ∨ (∃ a, u = .map a) ∨ u = .nilFunc ∨ ∃ f a b, u = .func f a b
theorem isNilA_ok {t : TypeId} {v u : Value} {kd : Nat} {a : AV} {p : Prop} {b : Bool} (hs : SimO G w ob m) (hk : nilKd P t v = some kd) (hb : isNilA m kd a = some (p, b)) (hp : p) (hr : Rel G w ob a u) (D : Nat) :
    (Op.equalIn (D + 1) t u v).run P w = .ok b w ∧ NilSide u := by
  unfold nilKd at hk
  split at hk <;> simp only [Option.some.injEq, reduceCtorEq] at hk <;> subst hk
  · rename_i hu
    have some_case : ∀ ad n c, (Op.equalIn (D + 1) t (.slice (some ad) n c) (.slice none 0 0)).run P w = .ok false w := fun ad n c => run_equalIn_slice_nil w D t _ _ n c hu
    cases a <;> simp only [isNilA, reduceCtorEq, Option.some.injEq, Prod.mk.injEq] at hb
    case sc q =>
      cases q <;> simp only [isNilA, reduceCtorEq, Option.some.injEq, Prod.mk.injEq] at hb
      obtain ⟨_, rfl⟩ := hb
      rw [hr.sc_eq]
      exact ⟨run_equalIn_slice_nil w D t _ _ _ _ hu, .inl ⟨_, _, _, rfl⟩⟩
    case dsl =>
      obtain ⟨rfl, rfl⟩ := hb
      cases hr with
      | dslNil => omega
      | dslE => omega
      | dsl => exact ⟨some_case _ _ _, .inl ⟨_, _, _, rfl⟩⟩
    case dslx =>
      obtain ⟨rfl, rfl⟩ := hb
      cases hr with
      | dslxNil => omega
      | dslxE => omega
      | dslx => exact ⟨some_case _ _ _, .inl ⟨_, _, _, rfl⟩⟩
    case sl id off n tot =>
      cases hr with
      | sl i h hle hss hv =>
        have fin : ∀ s : Sq, i.len = s.n → (i.blk = none → s.n = 0) → 0 < n ∧ tot = s.n → (Op.equalIn (D + 1) t u (.slice none 0 0)).run P w = .ok false w ∧ NilSide u := by
          rintro s hl hbn ⟨hn, rfl⟩
          obtain ⟨h1, h2, h3⟩ := hv hl
          cases hbk : i.blk with
          | none => have := hbn hbk; omega
          | some b' =>
            obtain ⟨o, c, rfl, _⟩ := h3 b' hbk
            exact ⟨some_case _ _ _, .inl ⟨_, _, _, rfl⟩⟩
        cases hm : m id with
        | none => simp [hm] at hb
        | some obj =>
          rw [hm] at hb
          have ho := hs.own id obj i hm h
          cases obj <;> simp only [reduceCtorEq, Option.some.injEq, Prod.mk.injEq] at hb
          · obtain ⟨rfl, rfl⟩ := hb; exact fin _ ho.2.2.1 ho.arr_none hp
          · obtain ⟨rfl, rfl⟩ := hb; exact fin _ ho.2.2.1 ho.frz_none hp
  · rename_i hu
    have hu' : P.underlying t = some (.pointer (P.pointee t)) := by simp [Program.pointee, hu]
    have ptr_case : ∀ q, (Op.equalIn (D + 1) t (.pointer q) (.pointer none)).run P w = .ok q.isNone w := fun q => run_equalIn_pointer_nil w D t q hu'
    cases a <;> simp only [isNilA, reduceCtorEq, Option.some.injEq, Prod.mk.injEq] at hb
    case sc q =>
      cases q <;> simp only [isNilA, reduceCtorEq, Option.some.injEq, Prod.mk.injEq] at hb
      obtain ⟨_, rfl⟩ := hb
      rw [hr.sc_eq]
      exact ⟨ptr_case _, .inr (.inl ⟨_, rfl⟩)⟩
    case ptr =>
      obtain ⟨_, rfl⟩ := hb
      cases hr
      exact ⟨ptr_case _, .inr (.inl ⟨_, rfl⟩)⟩
    case fptr =>
      obtain ⟨_, rfl⟩ := hb
      cases hr
      exact ⟨ptr_case _, .inr (.inl ⟨_, rfl⟩)⟩
  · rename_i hu
    cases a <;> simp only [isNilA, reduceCtorEq, Option.some.injEq, Prod.mk.injEq] at hb
    case sc q =>
      cases q <;> simp only [isNilA, reduceCtorEq, Option.some.injEq, Prod.mk.injEq] at hb
      obtain ⟨_, rfl⟩ := hb
      rw [hr.sc_eq]
      exact ⟨run_equalIn_map_nil w D t _ _ _ hu, .inr (.inr (.inl ⟨_, rfl⟩))⟩
    case mp =>
      obtain ⟨_, rfl⟩ := hb
      cases hr
      exact ⟨run_equalIn_map_nil w D t _ _ _ hu, .inr (.inr (.inl ⟨_, rfl⟩))⟩
theorem ok_isnil {op : BinOp} {t : TypeId} {kd : Nat} {neg : Bool} {v : Value} {ρ : Operand → Value} {e : AX → Option AV} {x y : Operand} {ax : AX} {p : Prop} {r : Res} {d : Nat}
    (hn : nilCmp P op t y = some (kd, neg, v)) (hyv : ρ (.const v) = v)
    (hs : SimO G w ob m) (hx : cx x = some ax) (he : OpRel G w ob ρ e) (hv : eval (.isnil kd neg ax) e m d = some (p, r)) (hp : p) :
    OpOk P G w ob m (do pure (.value (← (do eqGuard op t x y (ρ x) (ρ y); binOp op t (ρ x) (ρ y))))) r := by
  simp only [eval] at hv
  cases hax : e ax with
  | none => simp [hax] at hv
  | some a =>
    simp only [hax, Option.map_eq_some_iff, Prod.mk.injEq] at hv
    obtain ⟨⟨p', b⟩, hk, rfl, rfl⟩ := hv
    unfold nilCmp at hn
    split at hn
    case h_2 => cases hn
    rename_i v'
    have key : nilKd P t v' = some kd ∧ v' = v ∧ ((op = .eql ∧ neg = false) ∨ (op = .neq ∧ neg = true)) := by
      split at hn
      · simp only [Option.map_eq_some_iff, Prod.mk.injEq] at hn
        obtain ⟨_, h1, rfl, rfl, rfl⟩ := hn
        exact ⟨h1, rfl, .inl ⟨rfl, rfl⟩⟩
      · simp only [Option.map_eq_some_iff, Prod.mk.injEq] at hn
        obtain ⟨_, h1, rfl, rfl, rfl⟩ := hn
        exact ⟨h1, rfl, .inr ⟨rfl, rfl⟩⟩
      · cases hn
    obtain ⟨h1, rfl, hop⟩ := key
    rw [hyv]
    obtain ⟨h2, h3⟩ := isNilA_ok hs h1 hk hp (he x ax a hx hax) 9999
    simp only [Nat.reduceAdd] at h2
    generalize ρ x = u at h2 h3
    have hv' : v' = .slice none 0 0 ∨ v' = .pointer none ∨ v' = .map none := by
      unfold nilKd at h1
      split at h1 <;> simp only [Option.some.injEq, reduceCtorEq] at h1 <;> simp
    have hg : (eqGuard op t x (.const v') u v').run P w = .ok () w := by
      unfold eqGuard
      rcases hv' with rfl | rfl | rfl <;> rcases h3 with ⟨a, n, c, rfl⟩ | ⟨a, rfl⟩ | ⟨a, rfl⟩ | rfl | ⟨f, a, b, rfl⟩ <;> rcases hop with ⟨rfl, _⟩ | ⟨rfl, _⟩ <;> simp
    refine OpOk.quiet hs (v := .bool (if neg then !b else b)) ?_ (.sc rfl)
    rcases hop with ⟨rfl, rfl⟩ | ⟨rfl, rfl⟩
    · have : (binOp .eql t u v').run P w = .ok (.bool b) w := by
        rcases hv' with rfl | rfl | rfl <;> rcases h3 with ⟨a, n, c, rfl⟩ | ⟨a, rfl⟩ | ⟨a, rfl⟩ | rfl | ⟨f, a, b, rfl⟩ <;> simp [binOp, Op.equal, Op.maxDepth, h2]
      simp [hg, this]
    · have : (binOp .neq t u v').run P w = .ok (.bool (!b)) w := by
        rcases hv' with rfl | rfl | rfl <;> rcases h3 with ⟨a, n, c, rfl⟩ | ⟨a, rfl⟩ | ⟨a, rfl⟩ | rfl | ⟨f, a, b, rfl⟩ <;> simp [binOp, Op.equal, Op.maxDepth, h2]
      simp [hg, this]
theorem run_val {s : Sem Value} {v : Value} (h : s.run P w = .ok v w) : (do pure (.value (← s)) : Sem Next).run P w = .ok (.value v) w := by simp [h]
theorem ok_sidx {t : TypeId} {ρ : Operand → Value} {e : AX → Option AV} {x y : Operand} {ax ay : AX} {p : Prop} {r : Res} {d : Nat}
    (ht : P.underlying t = some .string) (hs : SimO G w ob m) (hx : cx x = some ax) (hy : cx y = some ay) (he : OpRel G w ob ρ e) (hv : eval (.sidx ax ay) e m d = some (p, r)) (hp : p) :
    OpOk P G w ob m (do pure (.value (← Instr.index t (ρ x) (ρ y)))) r := by
  simp only [eval] at hv
  split at hv
  case h_2 => cases hv
  rename_i s k j hax hay
  simp only [Option.some.injEq, Prod.mk.injEq] at hv
  obtain ⟨rfl, rfl⟩ := hv
  obtain ⟨h0, h1⟩ := hp
  rw [(he x ax _ hx hax).sc_eq, (he y ay _ hy hay).sc_eq]
  refine OpOk.quiet hs (v := .int .u8 ((s.data.getD j.toNat 0).toNat : Int)) ?_ (.sc rfl)
  have hd : j.toNat < s.data.size := h1
  refine run_val ?_
  rw [run_index_string w t s k j ht, dif_pos ⟨h0, by omega⟩]
  have : s[j.toNat]'(by omega) = s.data.getD j.toNat 0 := by
    rw [Array.getD, dif_pos hd]; rfl
  rw [this]
theorem dsl_sub {z n L H M : Nat} {g : Nat → List AV} {a : Option Addr} {cap : Nat} (hr : Rel G w ob (.dsl z n g) (.slice a n cap)) (h1 : L ≤ H) (h2 : H ≤ n) (h3 : H ≤ M) (h4 : M ≤ cap) :
    Rel G w ob (.dsl z (H - L) fun i => g (L + i)) (sliced a L H M z) ∧ Rel G w ob (.dslx z (H - L) fun i => g (L + i)) (sliced a L H H z) := by
  have empty : H = L → (a = none → M = 0) → Rel G w ob (.dsl z (H - L) fun i => g (L + i)) (sliced a L H M z) ∧ Rel G w ob (.dslx z (H - L) fun i => g (L + i)) (sliced a L H H z) := by
    intro e ha
    subst e
    unfold sliced
    rw [Nat.sub_self]
    cases a with
    | none =>
      have := ha rfl
      subst this
      have hL : H = 0 := by omega
      subst hL
      simp only [if_true]
      exact ⟨.dslNil, .dslxNil⟩
    | some a =>
      simp only [if_true]
      refine ⟨?_, .dslxE _⟩
      split
      · exact .dslE _ _
      · exact .dslE _ _
  by_cases e : H = L
  · refine empty e fun ha => ?_
    subst ha
    cases hr with
    | dslNil => omega
  · cases hr with
    | dslNil => omega
    | dslE => omega
    | dsl b off _ c hG hcap hlen hpp hc hrr =>
      unfold sliced
      rw [if_neg (by omega), if_neg (by omega)]
      simp only [Option.map_some, addr_add]
      have hcell : ∀ (i j : Nat), i < H - L → j < z → w.cell? ⟨b, off + L * z + (i * z + j), none⟩ = some (c (L + i) j) := fun i j hi hj => by
        rw [← hc (L + i) j (by omega) hj]
        congr 2
        rw [Nat.add_mul]; omega
      exact ⟨.dsl b _ _ (fun i j => c (L + i) j) hG (by omega) (fun i hi => hlen _ (by omega)) (fun i j av hi hj => hpp _ j av (by omega) hj) hcell (fun i j av hi hj => hrr _ j av (by omega) hj),
        .dslx b _ (fun i j => c (L + i) j) hG (fun i hi => hlen _ (by omega)) (fun i j av hi hj => hpp _ j av (by omega) hj) hcell (fun i j av hi hj => hrr _ j av (by omega) hj)⟩
theorem Rel.of_dslx {z n : Nat} {g : Nat → List AV} {v : Value} (hr : Rel G w ob (.dslx z n g) v) : Rel G w ob (.dsl z n g) v := by
  cases hr with
  | dslxNil => exact .dslNil
  | dslxE a => exact .dslE a 0
  | dslx b off c hG hlen hp hc hr => exact .dsl b off n c hG (Nat.le_refl n) hlen hp hc hr
def VI (o : Option Value) (i : Option Int) : Prop := (o = none ∧ i = none) ∨ ∃ k j, o = some (.int k j) ∧ i = some j
theorem run_sl {t el : TypeId} {esz : Nat} (ht : P.underlying t = some (.slice el)) (hz : szOf P el = some esz) {lo hi mx : Option Value} {l h q : Option Int} (hl : VI lo l) (hh : VI hi h) (hq : VI mx q)
    {a : Option Addr} {len cap : Nat} (hlc : len ≤ cap) (h0 : 0 ≤ l.getD 0) (h1 : l.getD 0 ≤ h.getD len) (h2 : h.getD len ≤ len) (h3 : h.getD len ≤ q.getD cap) (h4 : q.getD cap ≤ cap) (h5 : q.isSome → h.isSome) :
    (Instr.sliceAt t (.slice a len cap) lo hi mx).run P w = .ok (sliced a (l.getD 0).toNat (h.getD len).toNat (q.getD cap).toNat esz) w := by
  have he : P.elem t = el := by simp [Program.elem, ht]
  have ht' : P.underlying t = some (.slice (P.elem t)) := by rw [he]; exact ht
  have hz' : (sizeOf (P.elem t)).run P w = .ok esz w := by rw [he]; exact run_sizeOf hz
  rw [run_sliceAt_slice w t _ _ _ _ ht']
  rcases hl with ⟨rfl, rfl⟩ | ⟨kl, l, rfl, rfl⟩ <;> rcases hh with ⟨rfl, rfl⟩ | ⟨kh, h, rfl, rfl⟩ <;> rcases hq with ⟨rfl, rfl⟩ | ⟨kq, q, rfl, rfl⟩ <;>
    simp only [Option.getD_none, Option.getD_some, Option.isSome_some, Option.isSome_none, true_implies, Bool.false_eq_true] at h0 h1 h2 h3 h4 h5
  · rw [run_slice_all w t a len cap ht', hz']; simp
  · rw [run_slice_h w t a len cap ht' kh h (by omega) (by omega), hz']; simp
  · rw [run_slice_hm w t a len cap ht' kh kq h q (by omega) (by omega) (by omega), hz']; simp
  · rw [run_slice_l w t a len cap ht' kl l (by omega) (by omega), hz']; simp
  · rw [run_slice_lh w t a len cap ht' kl kh l h (by omega) (by omega) (by omega), hz']; simp
  · rw [run_slice_lhm w t a len cap ht' kl kh kq l h q (by omega) (by omega) (by omega) (by omega), hz']; simp
def cxo : Option Operand → Option (Option AX)
  | none => some none
  | some x => (cx x).map some
theorem optI_ok {ρ : Operand → Value} {e : AX → Option AV} (he : OpRel G w ob ρ e) {x : Option Operand} {ax : Option AX} {i : Option Int} (hx : cxo x = some ax) (hi : optI e ax = some i) : VI (x.map ρ) i := by
  cases x with
  | none => simp only [cxo, Option.some.injEq] at hx; subst hx; simp only [optI, Option.some.injEq] at hi; exact .inl ⟨rfl, hi.symm⟩
  | some x =>
    simp only [cxo, Option.map_eq_some_iff] at hx
    obtain ⟨a, ha, rfl⟩ := hx
    simp only [optI] at hi
    split at hi
    · rename_i k j hj
      simp only [Option.some.injEq] at hi
      subst hi
      exact .inr ⟨k, j, by simp [(he x a _ ha hj).sc_eq], rfl⟩
    · cases hi
theorem ok_slice {t el : TypeId} {esz : Nat} {ρ : Operand → Value} {e : AX → Option AV} {x : Operand} {lo hi mx : Option Operand} {ax : AX} {al ah am : Option AX} {p : Prop} {r : Res} {d : Nat}
    (ht : P.underlying t = some (.slice el)) (hz : szOf P el = some esz) (hl : cxo lo = some al) (hh : cxo hi = some ah) (hmx : cxo mx = some am)
    (hs : SimO G w ob m) (hx : cx x = some ax) (he : OpRel G w ob ρ e) (hv : eval (.slice esz ax al ah am) e m d = some (p, r)) (hp : p) :
    OpOk P G w ob m (do pure (.value (← Instr.sliceAt t (ρ x) (lo.map ρ) (hi.map ρ) (mx.map ρ)))) r := by
  simp only [eval] at hv
  split at hv
  · rename_i z n g l h q hax hal hah ham
    have hr := he x ax _ hx hax
    have hL := optI_ok he hl hal
    have hH := optI_ok he hh hah
    have hM := optI_ok he hmx ham
    split at hv
    case isFalse => cases hv
    rename_i hze; subst hze
    have shape : ∃ a cap, ρ x = .slice a n cap ∧ n ≤ cap := by
      generalize ρ x = v at hr
      cases hr with
      | dslNil => exact ⟨_, _, rfl, Nat.le_refl _⟩
      | dslE a cap => exact ⟨_, _, rfl, Nat.zero_le _⟩
      | dsl b off cap c hG hcap => exact ⟨_, _, rfl, hcap⟩
    obtain ⟨a, cap, hxe, hcap⟩ := shape
    rw [hxe] at hr ⊢
    split at hv
    · simp only [Option.some.injEq, Prod.mk.injEq] at hv
      obtain ⟨rfl, rfl⟩ := hv
      obtain ⟨h0, h1, h2⟩ := hp
      have hrun := run_sl (w := w) ht hz hL hH hM (a := a) hcap h0 h1 h2 (by simp; omega) (by simp) (by simp)
      have hsub := (dsl_sub (L := (l.getD 0).toNat) (H := (h.getD n).toNat) (M := cap) hr (by omega) (by omega) (by omega) (Nat.le_refl _)).1
      have e1 : (h.getD (n : Int) - l.getD 0).toNat = (h.getD (n : Int)).toNat - (l.getD 0).toNat := by omega
      rw [e1]
      exact OpOk.quiet hs (run_val hrun) (by simpa using hsub)
    · rename_i k
      simp only [Option.some.injEq, Prod.mk.injEq] at hv
      obtain ⟨rfl, rfl⟩ := hv
      obtain ⟨h0, h1, h2, h3, rfl⟩ := hp
      have hrun := run_sl (w := w) ht hz hL hH hM (a := a) hcap h0 h1 h2 (by simp) (by simp; omega) (by simp [h3])
      have hsub := (dsl_sub (L := (l.getD 0).toNat) (H := (h.getD n).toNat) (M := (h.getD n).toNat) hr (by omega) (by omega) (by omega) (by omega)).2
      have e1 : (h.getD (n : Int) - l.getD 0).toNat = (h.getD (n : Int)).toNat - (l.getD 0).toNat := by omega
      rw [e1]
      exact OpOk.quiet hs (run_val hrun) (by simpa using hsub)
  · rename_i z n g l h hax hal hah ham
    have hr := he x ax _ hx hax
    have hL := optI_ok he hl hal
    have hH := optI_ok he hh hah
    have hM := optI_ok he hmx ham
    split at hv
    case isFalse => cases hv
    rename_i hze; subst hze
    have shape : ∃ a, ρ x = .slice a n n := by
      generalize ρ x = v at hr
      cases hr with
      | dslxNil => exact ⟨_, rfl⟩
      | dslxE a => exact ⟨_, rfl⟩
      | dslx b off c hG => exact ⟨_, rfl⟩
    obtain ⟨a, hxe⟩ := shape
    rw [hxe] at hr ⊢
    simp only [Option.some.injEq, Prod.mk.injEq] at hv
    obtain ⟨rfl, rfl⟩ := hv
    obtain ⟨h0, h1, h2⟩ := hp
    have hrun := run_sl (w := w) ht hz hL hH hM (a := a) (Nat.le_refl n) h0 h1 h2 (by simp; omega) (by simp) (by simp)
    have hsub := (dsl_sub (L := (l.getD 0).toNat) (H := (h.getD n).toNat) (M := n) hr.of_dslx (by omega) (by omega) (by omega) (Nat.le_refl _)).1
    have e1 : (h.getD (n : Int) - l.getD 0).toNat = (h.getD (n : Int)).toNat - (l.getD 0).toNat := by omega
    rw [e1]
    exact OpOk.quiet hs (run_val hrun) (by simpa using hsub)
  · rename_i l h hax hal hah ham
    have hr := he x ax _ hx hax
    have hL := optI_ok he hl hal
    have hH := optI_ok he hh hah
    have hM := optI_ok he hmx ham
    rw [hr.sc_eq]
    simp only [Option.some.injEq, Prod.mk.injEq] at hv
    obtain ⟨rfl, rfl⟩ := hv
    obtain ⟨h0, h1⟩ := hp
    have hrun := run_sl (w := w) ht hz hL hH hM (a := none) (Nat.le_refl 0) (by omega) (by simp; omega) (by simp; omega) (by simp; omega) (by simp) (by simp)
    refine OpOk.quiet hs (v := .slice none 0 0) (run_val ?_) (.sc rfl)
    rw [hrun]
    simp [h0, h1, sliced]
  · rename_i id off n tot l h hax hal hah ham
    have hr := he x ax _ hx hax
    have hL := optI_ok he hl hal
    have hH := optI_ok he hh hah
    have hM := optI_ok he hmx ham
    have fin : ∀ (s : Sq) (z : Nat) (i : Info), z = esz → ob id = some i → i.esz = z → i.len = s.n → (i.blk = none → s.n = 0) → tot = s.n ∧ 0 ≤ l.getD 0 ∧ l.getD 0 ≤ h.getD n ∧ h.getD n ≤ n →
        OpOk P G w ob m (do pure (.value (← Instr.sliceAt t (ρ x) (lo.map ρ) (hi.map ρ) (mx.map ρ)))) ⟨some (.sl id (off + (l.getD 0).toNat) (h.getD n - l.getD 0).toNat tot), []⟩ := by
      rintro s z i rfl hoi hiz hil hbn ⟨rfl, h0, h1, h2⟩
      generalize ρ x = v at hr
      cases hr with
      | sl i' h' hle hss hvv =>
        rw [hoi] at h'; injection h' with h'; subst h'
        obtain ⟨g1, g2, g3⟩ := hvv hil
        have e1 : (h.getD (n : Int) - l.getD 0).toNat = (h.getD (n : Int)).toNat - (l.getD 0).toNat := by omega
        rw [e1]
        cases hb : i.blk with
        | none =>
          have hn0 := hbn hb
          have hnn : n = 0 := by omega
          subst hnn
          have hL0 : l.getD 0 = 0 := by omega
          have hH0 : h.getD ((0 : Nat) : Int) = 0 := by omega
          have go : ∀ a : Option Addr, v = .slice a 0 0 → (a = none → v = .slice none 0 0) → OpOk P G w ob m (do pure (.value (← Instr.sliceAt t v (lo.map ρ) (hi.map ρ) (mx.map ρ)))) ⟨some (.sl id (off + (l.getD 0).toNat) ((h.getD ((0 : Nat) : Int)).toNat - (l.getD 0).toNat) s.n), []⟩ := by
            rintro a rfl -
            have hrun := run_sl (w := w) ht hz hL hH hM (a := a) (Nat.le_refl 0) h0 h1 h2 (by simp; omega) (by simp) (by simp)
            refine OpOk.quiet hs (run_val hrun) ?_
            rw [hL0, hH0]
            simp only [Option.getD_none, Int.toNat_natCast, Int.toNat_zero, sliced, Nat.sub_self, if_true, Nat.add_zero]
            refine .sl i hoi (by omega) ⟨_, _, rfl⟩ fun _ => ⟨by omega, fun _ => ?_, fun b hb' => by rw [hb] at hb'; cases hb'⟩
            cases a with
            | none => exact .inl rfl
            | some a => exact .inr ⟨a, rfl⟩
          rcases g2 hb with e | ⟨a, e⟩
          · exact go none e fun _ => e
          · exact go (some a) e fun h => by cases h
        | some b =>
          obtain ⟨o, c, rfl, hc, ho1, ho2⟩ := g3 b hb
          have hrun := run_sl (w := w) ht hz hL hH hM (a := some ⟨b, o, none⟩) hc h0 h1 h2 (by simp; omega) (by simp) (by simp)
          refine OpOk.quiet hs (run_val hrun) ?_
          simp only [Option.getD_none, Int.toNat_natCast, sliced, Option.map_some, addr_add]
          refine .sl i hoi (by omega) ⟨_, _, rfl⟩ fun _ => ⟨by omega, (fun hb' => by rw [hb] at hb'; cases hb'), fun b' hb' => ?_⟩
          · rw [hb] at hb'; injection hb' with hb'; subst hb'
            refine ⟨if c = (l.getD 0).toNat then o else o + (l.getD 0).toNat * z, c - (l.getD 0).toNat, ?_, by omega, fun hpos => ?_, fun h0' => ?_⟩
            · split <;> rfl
            · rw [if_neg (by omega), ho1 (by omega), hiz, Nat.add_mul]
            · obtain ⟨rfl, rfl⟩ := ho2 (by omega)
              have : (l.getD 0).toNat = 0 := by omega
              rw [this]; simp
    cases hm' : m id with
    | none => simp [hm'] at hv
    | some obj =>
      cases hi' : ob id with
      | none => rw [(hs.dom id).2 hi'] at hm'; cases hm'
      | some i =>
        have ho := hs.own id obj i hm' hi'
        rw [hm'] at hv
        cases obj <;> simp only [reduceCtorEq] at hv
        · split at hv
          · rename_i hze
            simp only [Option.some.injEq, Prod.mk.injEq] at hv
            obtain ⟨rfl, rfl⟩ := hv
            exact fin _ _ i hze hi' ho.2.1 ho.2.2.1 ho.arr_none hp
          · cases hv
        · split at hv
          · rename_i hze
            simp only [Option.some.injEq, Prod.mk.injEq] at hv
            obtain ⟨rfl, rfl⟩ := hv
            exact fin _ _ i hze hi' ho.2.1 ho.2.2.1 ho.frz_none hp
          · cases hv
  · cases hv
theorem ok_mkfn {f : Fn} {ρ : Operand → Value} {e : AX → Option AV} {first cap : List Operand} {a1 a2 : List AX} {p : Prop} {r : Res} {d : Nat}
    (h1 : ∀ j : Nat, (first[j]?).map cx = (a1[j]?).map some) (h2 : ∀ j : Nat, (cap[j]?).map cx = (a2[j]?).map some)
    (hs : SimO G w ob m) (he : OpRel G w ob ρ e) (hv : eval (.mkfn f a1 a2) e m d = some (p, r)) :
    OpOk P G w ob m (do pure (.value (← Instr.makeFunc f (first.toArray.map ρ) (cap.toArray.map ρ)))) r := by
  simp only [eval] at hv
  split at hv
  case h_2 => cases hv
  rename_i vs us hvs hus
  simp only [Option.some.injEq, Prod.mk.injEq] at hv
  obtain ⟨_, rfl⟩ := hv
  have key : ∀ (os : List Operand) (as : List AX) (vs : List AV), (∀ j : Nat, (os[j]?).map cx = (as[j]?).map some) → esL e as = some vs → os.length = vs.length ∧ ∀ (j : Nat) (av : AV), vs[j]? = some av → Rel G w ob av ((os.map ρ).getD j undef) := by
    intro os
    induction os with
    | nil =>
      intro as vs h hv
      cases as with
      | nil => simp only [esL, Option.some.injEq] at hv; subst hv; exact ⟨rfl, fun j av hj => by simp at hj⟩
      | cons a as => have := h 0; simp at this
    | cons o os ih =>
      intro as vs h hv
      cases as with
      | nil => have := h 0; simp at this
      | cons a as =>
        have h0 := h 0
        simp only [List.getElem?_cons_zero, Option.map_some, Option.some.injEq] at h0
        simp only [esL] at hv
        split at hv
        · rename_i v vs' hv1 hv2
          simp only [Option.some.injEq] at hv; subst hv
          obtain ⟨i1, i2⟩ := ih as vs' (fun j => by simpa using h (j + 1)) hv2
          refine ⟨by simp [i1], fun j av hj => ?_⟩
          cases j with
          | zero => simp only [List.getElem?_cons_zero, Option.some.injEq] at hj; subst hj; simpa using he o a _ h0 hv1
          | succ j => simpa using i2 j av (by simpa using hj)
        · cases hv
  obtain ⟨k1, k2⟩ := key first a1 vs h1 hvs
  obtain ⟨k3, k4⟩ := key cap a2 us h2 hus
  refine OpOk.quiet hs (v := .func f (first.toArray.map ρ) (cap.toArray.map ρ)) (by simp [Instr.makeFunc]) (.fn _ _ (by simp [k1]) (by simp [k3]) (fun j av hj => ?_) (fun j av hj => ?_))
  · have e : (first.toArray.map ρ).getD j undef = (first.map ρ).getD j undef := by simp [List.getD]
    rw [e]; exact k2 j av hj
  · have e : (cap.toArray.map ρ).getD j undef = (cap.map ρ).getD j undef := by simp [List.getD]
    rw [e]; exact k4 j av hj
theorem dsl_row {b o n z : Nat} {cs : List AV} (hb : G b) (hlen : n * z ≤ cs.length) (hc : CellsAt G w ob b o cs) (hp : ∀ (j : Nat) (av : AV), j < n * z → cs[j]? = some av → av.pure = true) :
    Rel G w ob (.dsl z n fun i => (cs.drop (i * z)).take z) (.slice (some ⟨b, o, none⟩) n n) := by
  have hk : ∀ i j, i < n → j < z → i * z + j < cs.length := fun i j hi hj => by
    have : (i + 1) * z ≤ n * z := Nat.mul_le_mul_right _ hi
    rw [Nat.add_mul] at this; omega
  have hin : ∀ i j av, i < n → ((cs.drop (i * z)).take z)[j]? = some av → j < z ∧ cs[i * z + j]? = some av := fun i j av hi hj => by
    rw [List.getElem?_take] at hj
    split at hj
    · rename_i h; rw [List.getElem?_drop] at hj; exact ⟨h, hj⟩
    · cases hj
  refine .dsl b o n (fun i j => (w.cell? ⟨b, o + (i * z + j), none⟩).getD undef) hb (Nat.le_refl n) (fun i hi => ?_) (fun i j av hi hj => ?_) (fun i j hi hj => ?_) (fun i j av hi hj => ?_)
  · have : (i + 1) * z ≤ n * z := Nat.mul_le_mul_right _ hi
    rw [Nat.add_mul] at this
    simp only [List.length_take, List.length_drop]; omega
  · obtain ⟨h1, h2⟩ := hin i j av hi hj
    have : (i + 1) * z ≤ n * z := Nat.mul_le_mul_right _ hi
    rw [Nat.add_mul] at this
    exact hp _ av (by omega) h2
  · obtain ⟨_, u, hu, _⟩ := hc (i * z + j) _ (List.getElem?_eq_getElem (hk i j hi hj))
    rw [hu]; rfl
  · obtain ⟨h1, h2⟩ := hin i j av hi hj
    obtain ⟨_, u, hu, hr⟩ := hc (i * z + j) av h2
    rw [hu]; exact hr
theorem ok_aslice {t el : TypeId} {len esz : Nat} {ρ : Operand → Value} {e : AX → Option AV} {x : Operand} {ax : AX} {p : Prop} {r : Res} {d : Nat}
    (ht : P.underlying t = some (.array len el)) (hz : szOf P el = some esz)
    (hs : SimO G w ob m) (hx : cx x = some ax) (he : OpRel G w ob ρ e) (hv : eval (.aslice len esz ax) e m d = some (p, r)) (hp : p) :
    OpOk P G w ob m (do pure (.value (← Instr.sliceAt t (ρ x) none none none))) r := by
  have he' : P.elem t = el := by simp [Program.elem, ht]
  have hn' : P.arrayLen t = len := by simp [Program.arrayLen, ht]
  have hz' : (sizeOf (P.elem t)).run P w = .ok esz w := by rw [he']; exact run_sizeOf hz
  have key : ∀ b o, (Instr.sliceAt t (.pointer (some ⟨b, o, none⟩)) none none none).run P w = .ok (.slice (some ⟨b, o, none⟩) len len) w := fun b o => by
    rw [run_sliceAt_array_all w t _ (by rw [he', hn']; exact ht), hz']
    simp [slicedAt, hn', addr_add]
  simp only [eval] at hv
  split at hv
  · rename_i cs hax
    simp only [Option.some.injEq, Prod.mk.injEq] at hv
    obtain ⟨rfl, rfl⟩ := hv
    have hr := he x ax _ hx hax
    obtain ⟨b, off, hxe, hG, hc⟩ := fptr_cells hr
    have hpp : ∀ (j : Nat) (av : AV), cs[j]? = some av → av.pure = true := by
      generalize ρ x = v at hr
      cases hr with
      | fptr b off c hG hp hc hr => exact hp
    rw [hxe]
    exact OpOk.quiet hs (run_val (key b off)) (dsl_row hG hp hc fun j av _ hj => hpp j av hj)
  · rename_i id k o tot hax
    split at hv
    case h_2 => cases hv
    rename_i cs hm'
    split at hv
    case isFalse => cases hv
    rename_i hpure
    simp only [Option.some.injEq, Prod.mk.injEq] at hv
    obtain ⟨rfl, rfl⟩ := hv
    obtain ⟨rfl, rfl, hfit⟩ := hp
    have hr := he x ax _ hx hax
    obtain ⟨G', s1, s2, s3, s4⟩ := hs.freezeB hm' hpure
    generalize ρ x = v at hr
    cases hr with
    | ptr a i h hle hvv =>
      have ho := hs.own id _ i hm' h
      obtain ⟨h0, h1, h2, b, arr, T, h3, h4, h5, h6⟩ := ho
      obtain ⟨b', h7, rfl, _⟩ := hvv h1
      rw [h3] at h7; injection h7 with h7; subst h7
      simp only [Nat.zero_mul, Nat.zero_add]
      have hcs : CellsAt G' w ob b o (cs.drop o) := fun j av hj => by
        have hj := getElem?_drop_lt hj
        obtain ⟨ho, u, hu, hr⟩ := h6 _ av hj
        exact ⟨ho, u, by rw [cell_of_row w b _ arr T _ h4]; exact hu, hr.ext s2 (fun _ _ => rfl) (OBext.refl ob)⟩
      refine ⟨G', w, ob, _, .inl (run_val (key b o)), s1, fun av hav => ?_, OBext.refl ob, Fr.frozen s2 s3⟩
      injection hav with hav
      subst hav
      have := dsl_row (n := len) (z := esz) (s4 i b h h3) (by rw [List.length_drop]; omega) hcs fun j av _ hj => List.all_eq_true.1 hpure av (List.mem_of_getElem? (getElem?_drop_lt hj))
      simpa only [List.drop_drop] using this
  · cases hv
theorem ok_eqs {op : BinOp} {t : TypeId} {neg : Bool} {ρ : Operand → Value} {e : AX → Option AV} {x y : Operand} {ax ay : AX} {p : Prop} {r : Res} {d : Nat}
    (ht : P.underlying t = some .string) (hop : (op = .eql ∧ neg = false) ∨ (op = .neq ∧ neg = true)) (hs : SimO G w ob m) (hx : cx x = some ax) (hy : cx y = some ay) (he : OpRel G w ob ρ e) (hv : eval (.eqs neg ax ay) e m d = some (p, r)) :
    OpOk P G w ob m (do pure (.value (← (do eqGuard op t x y (ρ x) (ρ y); binOp op t (ρ x) (ρ y))))) r := by
  simp only [eval] at hv
  split at hv
  case h_2 => cases hv
  rename_i b1 b2 hax hay
  simp only [Option.some.injEq, Prod.mk.injEq] at hv
  obtain ⟨_, rfl⟩ := hv
  rw [(he x ax _ hx hax).sc_eq, (he y ay _ hy hay).sc_eq]
  rcases hop with ⟨rfl, rfl⟩ | ⟨rfl, rfl⟩
  · refine OpOk.quiet hs (v := .bool (b1.toList == b2.toList)) ?_ (.sc rfl)
    simp [eqGuard, binOp_string_eql]
  · refine OpOk.quiet hs (v := .bool (!(b1.toList == b2.toList))) ?_ (.sc rfl)
    simp [eqGuard, binOp_string_neq]
theorem fold_push (ns : List Int) : ∀ (r : ByteArray), (ns.foldl (fun r n => r.push (UInt8.ofNat n.toNat)) r).data = r.data ++ (ns.map fun n => UInt8.ofNat n.toNat).toArray := by
  induction ns with
  | nil => intro r; simp
  | cons n ns ih =>
    intro r
    rw [List.foldl_cons, ih]
    show (r.push _).data ++ _ = _
    rw [show (r.push (UInt8.ofNat n.toNat)).data = r.data.push (UInt8.ofNat n.toNat) from rfl]
    simp
theorem ok_bstr {src dst el : TypeId} {ρ : Operand → Value} {e : AX → Option AV} {x : Operand} {ax : AX} {p : Prop} {r : Res} {d : Nat}
    (hsrc : P.underlying src = some (.slice el)) (hel : P.underlying el = some (.int .u8)) (hdst : P.underlying dst = some .string)
    (hs : SimO G w ob m) (hx : cx x = some ax) (he : OpRel G w ob ρ e) (hv : eval (.bstr ax) e m d = some (p, r)) (hp : p) :
    OpOk P G w ob m (do pure (.value (← convert src dst (ρ x)))) r := by
  simp only [eval] at hv
  split at hv
  case h_2 => cases hv
  rename_i b hax
  split at hv
  case h_2 => cases hv
  rename_i p' t hsr
  simp only [Option.some.injEq, Prod.mk.injEq] at hv
  obtain ⟨rfl, rfl⟩ := hv
  obtain ⟨hp', hb⟩ := hp
  obtain ⟨news, hS⟩ := source_ok hs hsr hp' (he x ax _ hx hax)
  have hk : ∃ ns : List Int, ns.length = t.n ∧ ∀ i, i < t.n → t.g i = [.sc (.int .u8 (ns.getD i 0))] := by
    refine ⟨(List.range t.n).map fun i => if h : i < t.n then Classical.choose (hb i h) else 0, by simp, fun i hi => ?_⟩
    have := Classical.choose_spec (hb i hi)
    simp only [List.getD, List.getElem?_map, List.getElem?_range hi, Option.map_some, Option.getD_some, dif_pos hi]
    exact this
  obtain ⟨ns, hn, hg⟩ := hk
  have hnews : news = ns.map (Value.int .u8) := by
    apply List.ext_getElem?
    intro i
    by_cases hi : i < t.n
    · obtain ⟨_, u, hu, hr⟩ := hS.rel i 0 _ hi (by rw [hg i hi]; rfl)
      rw [Nat.mul_one, Nat.add_zero] at hu
      rw [hu, hr.sc_eq]
      have hin : i < ns.length := by omega
      simp [List.getD, hin]
    · rw [List.getElem?_eq_none (by rw [hS.len]; omega), List.getElem?_eq_none (by rw [List.length_map]; omega)]
  have hstr : strB t = ⟨(ns.map fun n => UInt8.ofNat n.toNat).toArray⟩ := by
    unfold strB
    congr 2
    apply List.ext_getElem (by simp [hn])
    intro i h1 h2
    have hi : i < t.n := by simpa using h1
    have hin : i < ns.length := by omega
    simp [hg i hi, byteOf, List.getD, hin]
  refine OpOk.quiet hs (v := .string (strB t)) ?_ (.sc rfl)
  rcases hS.val with ⟨h0, hval⟩ | ⟨a, c, hval, hcell⟩
  · rw [hval]
    have hns : ns = [] := List.length_eq_zero_iff.1 (by omega)
    subst hns
    simp [run_convert_bytes_string (P := P) w src dst el none 0 0 hsrc hel hdst, Conv.bytesToString, hstr]
    rfl
  · rw [hval]
    have hl := run_loadCells_list (P := P) w a news hcell
    rw [hnews] at hl
    have hlen : (ns.map (Value.int .u8)).length = t.n := by rw [List.length_map, hn]
    rw [hlen] at hl
    have hb2 := run_bytesToString (P := P) w a t.n c ns hl
    have hfin : ns.foldl (fun r n => r.push (UInt8.ofNat n.toNat)) ByteArray.empty = strB t := by
      rw [hstr]
      have := fold_push ns ByteArray.empty
      generalize hB : ns.foldl (fun r n => r.push (UInt8.ofNat n.toNat)) ByteArray.empty = B at this
      cases B
      simp only [ByteArray.mk.injEq]
      simpa using this
    rw [hfin] at hb2
    simp [run_convert_bytes_string (P := P) w src dst el (some a) t.n c hsrc hel hdst, hb2]
theorem ok_copy {t u el ty : TypeId} {bs : Array Bool} {ρ : Operand → Value} {e : AX → Option AV} {x y : Operand} {ax ay : AX} {p : Prop} {r : Res} {d : Nat}
    (ht : P.underlying t = some (.slice el)) (hz : szOf P el = some 1) (hs : SimO G w ob m) (hx : cx x = some ax) (hy : cx y = some ay) (he : OpRel G w ob ρ e) (hv : eval (.copy ax ay) e m d = some (p, r)) (hp : p) :
    OpOk P G w ob m (builtin .copy #[t, u] ty bs #[ρ x, ρ y]) r := by
  have hbi : (builtin .copy #[t, u] ty bs #[ρ x, ρ y]).run P w = ((Builtin.copy_ #[t, u] ty #[ρ x, ρ y]).run P w).andThen fun v w' => .ok (.value v) w' := by
    simp [builtin]
  simp only [eval] at hv
  split at hv
  case h_2 => cases hv
  rename_i id off n tot b hax hay
  split at hv
  case h_2 => cases hv
  rename_i z s p' q hm hsr
  split at hv
  case isFalse => cases hv
  rename_i hc
  obtain ⟨rfl, hoff⟩ := hc
  simp only [Option.some.injEq, Prod.mk.injEq] at hv
  obtain ⟨rfl, rfl⟩ := hv
  obtain ⟨hp', rfl⟩ := hp
  obtain ⟨news, hS⟩ := source_ok hs hsr hp' (he y ay _ hy hay)
  have hrx := he x ax _ hx hax
  have hsz : (P.info? el).map (·.size) = some 1 := hz
  generalize ρ x = vx at hrx hbi ⊢
  generalize ρ y = vy at hS hbi ⊢
  cases hrx with
  | sl i hi hle hss hvv =>
    obtain ⟨hk, hz1, hl, hcap, hrow⟩ := hs.own id _ i hm hi
    obtain ⟨h1, h2, h3⟩ := hvv (by rw [hl])
    obtain ⟨ax', cx', rfl⟩ := hss
    have hob : upd ob id (some i) = ob := by
      funext k; by_cases hkk : k = id
      · subst hkk; simp [hi]
      · rw [upd_ne hkk]
    by_cases hmin : min q.n n = 0
    · -- nothing goes over
      have hrun : (Builtin.copy_ #[t, u] ty #[.slice ax' n cx', vy]).run P w = .ok (goInt 0) w := by
        rcases hS.val with ⟨h0, rfl⟩ | ⟨a, c, rfl, _⟩
        · exact run_copy_none w t u ty el ax' none n cx' 0 0 ht hsz (Nat.zero_min n)
        · exact run_copy_none w t u ty el ax' (some a) n cx' q.n c ht hsz hmin
      have hsame : (⟨s.n, fun i => if off ≤ i ∧ i < off + min q.n n then q.g (i - off) else s.g i⟩ : Sq) = s := by
        cases s; simp only [Sq.mk.injEq, true_and]; funext k; rw [if_neg (by omega)]
      rw [hsame]
      refine ⟨G, w, ob, goInt 0, .inl (by rw [hbi, hrun]; rfl), ?_, fun av hav => ?_, OBext.refl ob, Fr.refl G w ob⟩
      · show SimO G w ob (upd m id (some (.arr 1 s)))
        rw [upd_self hm]; exact hs
      · simp only [Option.some.injEq] at hav; subst hav
        rw [hmin]; exact .sc rfl
    · rcases hrow with ⟨g1, g2, g3⟩ | ⟨bk, arr, T, g1, g2, g3, g4⟩
      · omega
      · obtain ⟨o, c, hvx, hlc, ho, _⟩ := h3 bk g1
        cases hvx
        have ho' := ho (by omega)
        rw [hz1, Nat.mul_one] at ho'
        obtain rfl : off = o := ho'.symm
        rcases hS.val with ⟨h0, _⟩ | ⟨a, c2, rfl, hcell⟩
        · omega
        · have hlen := hS.len
          rw [Nat.mul_one] at hlen
          have hcs : (news.take (min q.n n)).length = Nat.min q.n n := by
            rw [List.length_take, hlen]; exact Nat.min_eq_left (Nat.min_le_left _ _)
          have hsize : arr.size = i.cap := by rw [g3, hz1, Nat.mul_one]
          have hmn : min q.n n ≤ n := Nat.min_le_right _ _
          have hfit : off + (news.take (min q.n n)).length ≤ arr.size := by rw [hcs, hsize]; show off + min q.n n ≤ i.cap; omega
          have hrun := run_copy_row (P := P) w t u ty el bk off n cx' a q.n c2 arr T (news.take (min q.n n)) ht hsz g2 hcs (fun j v hj => hcell j v (by
              rw [List.getElem?_take] at hj; split at hj
              · exact hj
              · cases hj)) hfit (fun v hv => hS.one v (List.mem_of_mem_take hv))
          have hrun' : (Builtin.copy_ #[t, u] ty #[.slice (some ⟨bk, off, none⟩) n cx', .slice (some a) q.n c2]).run P w = .ok (goInt ((min q.n n : Nat) : Int)) (w.setRow bk (stored arr off (news.take (min q.n n)))) := by
            rw [hrun, hcs]; unfold stored; rw [hcs]
          have hnG : ¬ G bk := hs.sep id _ i bk hm rfl hi (.inl g1)
          have hother : ∀ k, k ≠ bk → (w.setRow bk (stored arr off (news.take (min q.n n)))).heap[k]? = w.heap[k]? := fun k hk' => setRow_other w bk k _ hk'
          have hGw : ∀ k, G k → (w.setRow bk (stored arr off (news.take (min q.n n)))).heap[k]? = w.heap[k]? := fun k hG => hother k (fun e => hnG (e ▸ hG))
          have hlast : off + min q.n n ≤ s.n := by omega
          obtain ⟨s1, s2, s3⟩ := hs.update (w' := w.setRow bk (stored arr off (news.take (min q.n n)))) id (.arr 1 ⟨s.n, fun i => if off ≤ i ∧ i < off + min q.n n then q.g (i - off) else s.g i⟩) i (by simp)
            (fun k hk' hj => hother k fun e => hj i hi (by rw [g1, e])) (fun j hj => .inl (by rw [hi] at hj; injection hj)) (fun k hk' => .inl ⟨i, hi, hk'⟩)
            (fun j hj k hjk hG => hGw k hG)
            (by
              rw [hob]
              refine ⟨hk, hz1, hl, hcap, .inr ⟨bk, _, T, g1, heap_setRow_same g2, by rw [stored_size _ _ _ hfit]; exact g3, ?_⟩⟩
              rw [hz1] at g4 ⊢
              refine ⟨fun k hk' => ?_, fun k j av hk' hj => ?_⟩
              · show (if _ then _ else _ : List AV).length = 1
                split
                · exact hS.glen _ (by omega)
                · exact g4.1 k hk'
              · rw [Nat.mul_one, stored_get _ _ _ hfit, hcs]
                change (if off ≤ k ∧ k < off + min q.n n then q.g (k - off) else s.g k)[j]? = some av at hj
                by_cases hin : off ≤ k ∧ k < off + min q.n n
                · rw [if_pos hin] at hj
                  have hjz : j = 0 := by
                    have hg := hS.glen (k - off) (by omega)
                    rcases Nat.lt_or_ge j (q.g (k - off)).length with h | h
                    · omega
                    · rw [List.getElem?_eq_none h] at hj; cases hj
                  subst hjz
                  obtain ⟨a1, v, a2, a3⟩ := hS.rel (k - off) 0 av (by omega) hj
                  rw [Nat.mul_one, Nat.add_zero] at a2
                  refine ⟨a1, v, ?_, a3.ext (fun _ h => h) hGw (OBext.refl ob)⟩
                  rw [Nat.add_zero, if_pos (show off ≤ k ∧ k < off + Nat.min q.n n from hin), List.getElem?_take, if_pos (by omega)]; exact a2
                · rw [if_neg hin] at hj
                  have hjz : j = 0 := by
                    have hg := g4.1 k hk'
                    rcases Nat.lt_or_ge j (s.g k).length with h | h
                    · omega
                    · rw [List.getElem?_eq_none h] at hj; cases hj
                  subst hjz
                  obtain ⟨a1, v, a2, a3⟩ := g4.2 k 0 av hk' hj
                  rw [Nat.mul_one] at a2
                  refine ⟨a1, v, ?_, a3.ext (fun _ h => h) hGw (OBext.refl ob)⟩
                  rw [if_neg (show ¬ (off ≤ k + 0 ∧ k + 0 < off + Nat.min q.n n) from hin)]; exact a2)
            (fun _ k hk' => by rw [g1] at hk'; injection hk' with hk'; subst hk'; exact hnG)
            (fun o0 h0 => by rw [hm] at h0; injection h0 with h0; subst h0; rfl)
          rw [hob] at s1 s2 s3
          refine ⟨G, _, ob, goInt ((min q.n n : Nat) : Int), .inl (by rw [hbi, hrun']; rfl), s1, fun av hav => ?_, s2, Fr.of_heap (by simp) (fun k hk' hc' => ?_) s3 rfl rfl rfl⟩
          · simp only [Option.some.injEq] at hav; subst hav; exact .sc rfl
          · rcases hc' with hc' | hc'
            · exact hGw k hc'
            · exact hother k fun e => hc' ⟨id, i, hi, .inl (by rw [g1, e])⟩
theorem ok_cap0 {t el ty : TypeId} {bs : Array Bool} {ρ : Operand → Value} {e : AX → Option AV} {x : Operand} {ax : AX} {p : Prop} {r : Res} {d : Nat}
    (ht : P.underlying t = some (.slice el)) (hs : SimO G w ob m) (hx : cx x = some ax) (he : OpRel G w ob ρ e) (hv : eval (.cap0 ax) e m d = some (p, r)) :
    OpOk P G w ob m (builtin .cap #[t] ty bs #[ρ x]) r := by
  simp only [eval] at hv
  split at hv
  case h_2 => cases hv
  rename_i hax
  simp only [Option.some.injEq, Prod.mk.injEq] at hv
  obtain ⟨_, rfl⟩ := hv
  rw [(he x ax _ hx hax).sc_eq]
  refine OpOk.quiet hs (v := goInt 0) ?_ (.sc rfl)
  simp [builtin, Builtin.cap_, run_underlying ht]
theorem ok_aidx {t el : TypeId} {len : Nat} {ρ : Operand → Value} {e : AX → Option AV} {x y : Operand} {ax ay : AX} {p : Prop} {r : Res} {d : Nat}
    (ht : P.underlying t = some (.array len el)) (hz : szOf P el = some 1) (hagg : isAggB P el = some false)
    (hs : SimO G w ob m) (hx : cx x = some ax) (hy : cx y = some ay) (he : OpRel G w ob ρ e) (hv : eval (.aidx len ax ay) e m d = some (p, r)) (hp : p) :
    OpOk P G w ob m (do pure (.value (← Instr.index t (ρ x) (ρ y)))) r := by
  simp only [eval] at hv
  split at hv
  case h_2 => cases hv
  rename_i cs k j hax hay
  simp only [Option.some.injEq, Prod.mk.injEq] at hv
  obtain ⟨rfl, rfl⟩ := hv
  obtain ⟨h0, h1, h2⟩ := hp
  rw [(he y ay _ hy hay).sc_eq]
  have hr := he x ax _ hx hax
  generalize ρ x = v at hr
  cases hr with
  | agg vs hn ho hrr =>
    have hj : j.toNat < cs.length := by omega
    have hlt : j.toNat < vs.size := by omega
    have hc : cs[j.toNat]? = some (cs.getD j.toNat .hole) := by simp [List.getD, List.getElem?_eq_getElem hj]
    refine OpOk.quiet hs (v := vs.getD j.toNat undef) (run_val ?_) (hrr _ _ hc)
    simp [Instr.index, run_asIntOf, run_underlying ht, h0, h1, run_sizeOf hz, part, run_isAgg hagg, Array.getElem?_eq_getElem hlt]
theorem zeros_get (z : Array Value) (n q : Nat) (hq : q < n * z.size) (hz : 0 < z.size) : (Builtin.zeroCells z n)[q]? = z[q % z.size]? := by
  have hlt := Nat.mod_lt q hz
  simp only [Builtin.zeroCells, Array.getElem?_map, Array.getElem?_range, hq, if_true, Option.map_some]
  rw [getElem!_pos z (q % z.size) hlt, Array.getElem?_eq_getElem hlt]
theorem ok_appz {t u el ty : TypeId} {k : IntKind} {i : TypeInfo} {z : Value} {esz bytes : Nat} {bs : Array Bool} {ρ : Operand → Value} {e : AX → Option AV} {x y : Operand} {ax ay : AX} {p : Prop} {r : Res} {d : Nat}
    (ht : P.underlying t = some (.slice el)) (hu : P.underlying u = some (.int k)) (hi : P.info? el = some i) (hz : i.zero = some z) (hsize : i.size = esz) (hby : i.bytes = bytes) (hzs : z.cells.size = esz) (hone : z.cells.all Value.oneCell' = true) (hpos : 0 < i.size)
    (hs : SimO G w ob m) (hx : cx x = some ax) (hy : cx y = some ay) (he : OpRel G w ob ρ e) (hv : eval (.appz esz bytes z.cells.toList ax ay) e m d = some (p, r)) (hp : p) :
    OpOk P G w ob m (builtin .append #[t, u] ty bs #[ρ x, ρ y]) r := by
  subst hsize; subst hby
  simp only [eval] at hv
  split at hv
  case h_2 => cases hv
  rename_i k1 n hm hax hay
  simp only [Option.some.injEq, Prod.mk.injEq] at hv
  obtain ⟨rfl, rfl⟩ := hv
  obtain ⟨h0, hb, h63⟩ := hp
  rw [(he x ax _ hx hax).sc_eq, (he y ay _ hy hay).sc_eq]
  obtain ⟨N, rfl⟩ : ∃ N : Nat, n = N := ⟨n.toNat, by omega⟩
  have hN : 0 < N := by omega
  have hbN : N * i.bytes ≤ 140737488355328 := by rw [← Int.natCast_mul] at hb; omega
  have hw : IntKind.i64.wrap (N : Int) = N := by rw [IntKind.wrap_i64]; omega
  have hn : N ≠ 0 := by omega
  have h63' : ¬ (9223372036854775807 < (N : Int)) := by omega
  have h48 : ¬ (281474976710656 < Builtin.nextslicecap N 0 * i.bytes) := by rw [nextslicecap_zero hN]; omega
  have h48b : ¬ (281474976710656 < (N : Int) * (i.bytes : Int)) := by
    have : (N : Int) * (i.bytes : Int) = ((N * i.bytes : Nat) : Int) := by push_cast; rfl
    rw [this]; omega
  have hneg : ¬ ((N : Int) < 0) := by omega
  have hrun : (Builtin.append_ #[t, u] ty #[.slice none 0 0, .int k1 N]).run P w =
      .ok (.slice (some ⟨w.heap.size, 0, none⟩) N (grownCap w N 0 el)) (w.drew.alloc (.cells (Builtin.zeroCells z.cells N ++ Builtin.zeroCells z.cells (grownCap w N 0 el - N)) el)) := by
    have hq2 : ¬ (N = 0 ∨ i.size = 0) := by omega
    have hN0 : ¬ (N ≤ 0) := by omega
    simp [Builtin.append_, run_underlying ht, run_underlying hu, sizeOf, typeInfo, zeroValue, hi, hz, asInt, run_asIntOf, hw, hneg, hn, hN0, h63', h48, h48b, hq2, Question.forced, run_firstCells_none, newRow, grownCap]
    intro hq
    rcases Nat.mul_eq_zero.1 hq with h | h <;> omega
  have hcap : N ≤ grownCap w N 0 el := by simpa using grownCap_ge w N 0 el
  have hsz : (Builtin.zeroCells z.cells N ++ Builtin.zeroCells z.cells (grownCap w N 0 el - N)).size = grownCap w N 0 el * i.size := by
    simp only [Array.size_append, size_zeroCells, hzs, ← Nat.add_mul]
    congr 1; omega
  have hno : ob (nid d) = none := (hs.dom _).1 hm
  have hext : OBext ob (upd ob (nid d) (some ⟨some w.heap.size, i.size, N, grownCap w N 0 el, .cells⟩)) := fun q j hj => ⟨j, by rw [upd_ne (fun e => by subst e; rw [hno] at hj; cases hj)]; exact hj, .inl rfl⟩
  have hbi : (builtin .append #[t, u] ty bs #[.slice none 0 0, .int k1 N]).run P w = .ok (.value (.slice (some ⟨w.heap.size, 0, none⟩) N (grownCap w N 0 el))) (w.drew.alloc (.cells (Builtin.zeroCells z.cells N ++ Builtin.zeroCells z.cells (grownCap w N 0 el - N)) el)) := by
    simp only [builtin, Sem.run_bind, hrun, Result.andThen_ok, Sem.run_pure]
  simp only [Int.toNat_natCast]
  refine OpOk.new (w0 := w.drew) (i := ⟨some w.heap.size, i.size, N, grownCap w N 0 el, .cells⟩) hs hm rfl rfl rfl rfl hbi (fun b hb => by simpa using hb.symm) ?_ ?_
  · refine ⟨rfl, rfl, rfl, hcap, .inr ⟨w.heap.size, _, el, rfl, heap_alloc_new w.drew _, hsz, fun q hq => by simp [hzs], fun q j av hq hj => ?_⟩⟩
    rw [List.getElem?_map, Option.map_eq_some_iff] at hj
    obtain ⟨v, hv, rfl⟩ := hj
    have hv' : z.cells[j]? = some v := by simpa using hv
    have hjl : j < i.size := by
      rw [← hzs]; rcases Nat.lt_or_ge j z.cells.size with h | h
      · exact h
      · rw [Array.getElem?_eq_none h] at hv'; cases hv'
    refine ⟨rfl, v, ?_, .sc (Array.all_eq_true'.1 hone v (Array.mem_of_getElem? hv'))⟩
    have hq' : q < N := hq
    rw [Array.getElem?_append_left (by rw [size_zeroCells, hzs]; exact idx_lt hq' hjl), zeros_get _ _ _ (by rw [hzs]; exact idx_lt hq' hjl) (by omega), hzs, Nat.mul_comm, Nat.mul_add_mod, Nat.mod_eq_of_lt hjl]
    exact hv'
  · refine .sl ⟨some w.heap.size, i.size, N, grownCap w N 0 el, .cells⟩ (by simp) (Nat.le_refl _) ⟨_, _, rfl⟩ fun _ => ⟨by simp, fun h => by simp at h, fun b hb => ?_⟩
    simp only [Option.some.injEq] at hb
    subst hb
    exact ⟨0, _, rfl, hcap, fun _ => by simp, fun _ => ⟨rfl, rfl⟩⟩
end
end Go.Abs
end
section
namespace Go.Abs
mutual
def AV.ren (ρ : Nat → Nat) : AV → AV
  | .sc v => .sc v
  | .dsl z n g => .dsl z n g
  | .dslx z n g => .dslx z n g
  | .sl id off len tot => .sl (ρ id) off len tot
  | .ptr id i o tot => .ptr (ρ id) i o tot
  | .mp id => .mp (ρ id)
  | .fptr cs => .fptr cs
  | .agg cs => .agg (renL ρ cs)
  | .tup cs => .tup (renL ρ cs)
  | .fn f a b => .fn f (renL ρ a) (renL ρ b)
  | .own z n g => .own z n g
  | .hole => .hole
def renL (ρ : Nat → Nat) : List AV → List AV
  | [] => []
  | c :: cs => c.ren ρ :: renL ρ cs
end
mutual
def AV.ids : AV → List Nat
  | .sl id _ _ _ => [id]
  | .ptr id _ _ _ => [id]
  | .mp id => [id]
  | .agg cs => idsL cs
  | .tup cs => idsL cs
  | .fn _ a b => idsL a ++ idsL b
  | .sc _ => []
  | .dsl .. => []
  | .dslx .. => []
  | .fptr _ => []
  | .own .. => []
  | .hole => []
def idsL : List AV → List Nat
  | [] => []
  | c :: cs => c.ids ++ idsL cs
end
def AObj.ren (ρ : Nat → Nat) : AObj → AObj
  | .box cs => .box (renL ρ cs)
  | o => o
theorem owned_ren (ρ : Nat → Nat) (o : AObj) : (o.ren ρ).owned = o.owned := by cases o <;> rfl
def ofL (O : List (Nat × AObj)) : Nat → Option AObj := wrm (fun _ => none) O
section
variable {P : Program} {G : Nat → Prop} {w : World} {ob : Place} {m : Nat → Option AObj}
theorem getElem?_renL (ρ : Nat → Nat) : ∀ (cs : List AV) (j : Nat), (renL ρ cs)[j]? = (cs[j]?).map (AV.ren ρ)
  | [], j => by simp [renL]
  | c :: cs, 0 => by simp [renL]
  | c :: cs, j + 1 => by simp [renL, getElem?_renL ρ cs j]
theorem length_renL (ρ : Nat → Nat) : ∀ (cs : List AV), (renL ρ cs).length = cs.length
  | [] => rfl
  | c :: cs => by simp [renL, length_renL ρ cs]
theorem ren_one (ρ : Nat → Nat) (av : AV) : (av.ren ρ).one = av.one := by cases av <;> simp [AV.ren, AV.one]
theorem mem_idsL {c : AV} : ∀ {cs : List AV} {j : Nat}, cs[j]? = some c → ∀ i ∈ c.ids, i ∈ idsL cs
  | [], j, h => by simp at h
  | d :: cs, 0, h => by
    simp only [List.getElem?_cons_zero, Option.some.injEq] at h; subst h
    intro i hi; simp [idsL, hi]
  | d :: cs, j + 1, h => by
    simp only [List.getElem?_cons_succ] at h
    intro i hi; simp [idsL, mem_idsL h i hi]
theorem Rel.ren {ob2 : Place} {ρ : Nat → Nat} {av : AV} {v : Value} (h : Rel G w ob av v) (hρ : ∀ i inf, ob i = some inf → ob2 (ρ i) = some inf) : Rel G w ob2 (av.ren ρ) v := by
  induction h with
  | sc h => exact .sc h
  | hole h => exact .hole h
  | dslNil => exact .dslNil
  | dslxNil => exact .dslxNil
  | dslE a cap => exact .dslE a cap
  | dslxE a => exact .dslxE a
  | dsl b off cap c hg hcap hlen hpp hc hr ih => exact .dsl b off cap c hg hcap hlen hpp hc (fun i j av hi h => (hr i j av hi h).ob_free (hpp i j av hi h))
  | dslx b off c hg hlen hpp hc hr ih => exact .dslx b off c hg hlen hpp hc (fun i j av hi h => (hr i j av hi h).ob_free (hpp i j av hi h))
  | sl i h hle hs hv => exact .sl i (hρ _ _ h) hle hs hv
  | ptr a i h hle hv => exact .ptr a i (hρ _ _ h) hle hv
  | mp b i h hb hm => exact .mp b i (hρ _ _ h) hb hm
  | fptr b off c hg hp hc hr ih => exact .fptr b off c hg hp hc (fun j av h => (hr j av h).ob_free (hp j av h))
  | agg vs hn ho hr ih =>
    refine .agg vs (by rw [hn, length_renL]) (fun j av hj => ?_) (fun j av hj => ?_)
    all_goals
      rw [getElem?_renL, Option.map_eq_some_iff] at hj
      obtain ⟨c, hc, rfl⟩ := hj
    · rw [ren_one]; exact ho j c hc
    · exact ih j c hc
  | tup vs hn hr ih =>
    refine .tup vs (by rw [hn, length_renL]) (fun j av hj => ?_)
    rw [getElem?_renL, Option.map_eq_some_iff] at hj
    obtain ⟨c, hc, rfl⟩ := hj
    exact ih j c hc
  | fn vs us hn hm hr hq ih1 ih2 =>
    refine .fn vs us (by rw [hn, length_renL]) (by rw [hm, length_renL]) (fun j av hj => ?_) (fun j av hj => ?_)
    all_goals
      rw [getElem?_renL, Option.map_eq_some_iff] at hj
      obtain ⟨c, hc, rfl⟩ := hj
    · exact ih1 j c hc
    · exact ih2 j c hc
theorem Rel.unren {ob2 : Place} {ρ : Nat → Nat} {x : AV} {v : Value} (h : Rel G w ob2 x v) : ∀ av : AV, av.ren ρ = x → (∀ i ∈ av.ids, ob i = ob2 (ρ i)) → Rel G w ob av v := by
  induction h with
  | sc h => intro av e _; cases av <;> simp [AV.ren] at e; subst e; exact .sc h
  | hole h => intro av e _; cases av <;> simp [AV.ren] at e; exact .hole h
  | dslNil => intro av e _; cases av <;> simp [AV.ren] at e; obtain ⟨rfl, rfl, rfl⟩ := e; exact .dslNil
  | dslE a cap => intro av e _; cases av <;> simp [AV.ren] at e; obtain ⟨rfl, rfl, rfl⟩ := e; exact .dslE a cap
  | dslxNil => intro av e _; cases av <;> simp [AV.ren] at e; obtain ⟨rfl, rfl, rfl⟩ := e; exact .dslxNil
  | dslxE a => intro av e _; cases av <;> simp [AV.ren] at e; obtain ⟨rfl, rfl, rfl⟩ := e; exact .dslxE a
  | dsl b off cap c hg hcap hlen hpp hc hr ih =>
    intro av e _; cases av <;> simp [AV.ren] at e; obtain ⟨rfl, rfl, rfl⟩ := e
    exact .dsl b off cap c hg hcap hlen hpp hc (fun i j av hi h => (hr i j av hi h).ob_free (hpp i j av hi h))
  | dslx b off c hg hlen hpp hc hr ih =>
    intro av e _; cases av <;> simp [AV.ren] at e; obtain ⟨rfl, rfl, rfl⟩ := e
    exact .dslx b off c hg hlen hpp hc (fun i j av hi h => (hr i j av hi h).ob_free (hpp i j av hi h))
  | sl i h hle hs hv =>
    intro av e hi; cases av <;> simp [AV.ren] at e; obtain ⟨rfl, rfl, rfl, rfl⟩ := e
    exact .sl i (by rw [hi _ (by simp [AV.ids])]; exact h) hle hs hv
  | ptr a i h hle hv =>
    intro av e hi; cases av <;> simp [AV.ren] at e; obtain ⟨rfl, rfl, rfl, rfl⟩ := e
    exact .ptr a i (by rw [hi _ (by simp [AV.ids])]; exact h) hle hv
  | mp b i h hb hm =>
    intro av e hi; cases av <;> simp [AV.ren] at e; subst e
    exact .mp b i (by rw [hi _ (by simp [AV.ids])]; exact h) hb hm
  | fptr b off c hg hp hc hr ih =>
    intro av e _; cases av <;> simp [AV.ren] at e; subst e
    exact .fptr b off c hg hp hc (fun j av h => (hr j av h).ob_free (hp j av h))
  | agg vs hn ho hr ih =>
    intro av e hi; cases av <;> simp [AV.ren] at e; subst e
    rename_i cs
    refine .agg vs (by rw [hn, length_renL]) (fun j av hj => ?_) (fun j av hj => ?_)
    · have := ho j (av.ren ρ) (by rw [getElem?_renL, hj]; rfl); rwa [ren_one] at this
    · exact ih j (av.ren ρ) (by rw [getElem?_renL, hj]; rfl) av rfl fun i hi' => hi i (by simp only [AV.ids]; exact mem_idsL hj i hi')
  | tup vs hn hr ih =>
    intro av e hi; cases av <;> simp [AV.ren] at e; subst e
    rename_i cs
    refine .tup vs (by rw [hn, length_renL]) (fun j av hj => ?_)
    exact ih j (av.ren ρ) (by rw [getElem?_renL, hj]; rfl) av rfl fun i hi' => hi i (by simp only [AV.ids]; exact mem_idsL hj i hi')
  | fn vs us hn hm hr hq ih1 ih2 =>
    intro av e hi; cases av <;> simp [AV.ren] at e; obtain ⟨rfl, rfl, rfl⟩ := e
    refine .fn vs us (by rw [hn, length_renL]) (by rw [hm, length_renL]) (fun j av hj => ?_) (fun j av hj => ?_)
    · exact ih1 j (av.ren ρ) (by rw [getElem?_renL, hj]; rfl) av rfl fun i hi' => hi i (by simp only [AV.ids, List.mem_append]; exact .inl (mem_idsL hj i hi'))
    · exact ih2 j (av.ren ρ) (by rw [getElem?_renL, hj]; rfl) av rfl fun i hi' => hi i (by simp only [AV.ids, List.mem_append]; exact .inr (mem_idsL hj i hi'))
theorem CellP.ob_free {ob2 : Place} {β : Option Nat} {av : AV} {v : Value} (h : CellP G w ob β av v) : CellP G w ob2 β av v := by
  cases av with
  | own z n g =>
    rcases h with h | ⟨b, cap, arr, T, h1, h2, h3, h4, h5, h6⟩
    · exact .inl h
    · exact .inr ⟨b, cap, arr, T, h1, h2, h3, h4, h5, h6.1, fun i j av hi hj => let ⟨hp, v, hv, hr⟩ := h6.2 i j av hi hj; ⟨hp, v, hv, hr.ob_free hp⟩⟩
  | hole => exact h
  | _ => exact ⟨h.1, h.2.1, h.2.2.ob_free h.1⟩
theorem ObjRel.arrP_free {ob2 : Place} {i : Info} {z : Nat} {s : Sq} (h : ObjRel G w ob i (.arrP z s)) : ObjRel G w ob2 i (.arrP z s) := by
  obtain ⟨h1, h2, h3, p, hk, h4⟩ := h
  refine ⟨h1, h2, h3, p, hk, ?_⟩
  rcases h4 with h4 | ⟨b, arr, T, β, h5, h6, h7, h8, h9⟩
  · exact .inl h4
  · exact .inr ⟨b, arr, T, β, h5, h6, h7, ⟨h8.1, fun k j av hk hj => let ⟨v, hv, hc⟩ := h8.2 k j av hk hj; ⟨v, hv, hc.ob_free⟩⟩, h9⟩
theorem ObjRel.ren {ob2 : Place} {ρ : Nat → Nat} {o : AObj} {i : Info} (h : ObjRel G w ob i o) (hρ : ∀ i inf, ob i = some inf → ob2 (ρ i) = some inf) : ObjRel G w ob2 i (o.ren ρ) := by
  cases o with
  | box cs =>
    obtain ⟨h0, h1, h2, b, arr, T, h3, h4, h5, h6⟩ := h
    refine ⟨h0, h1, by rw [h2, length_renL], b, arr, T, h3, h4, by rw [h5, length_renL], fun j av hj => ?_⟩
    rw [getElem?_renL, Option.map_eq_some_iff] at hj
    obtain ⟨c, hc, rfl⟩ := hj
    obtain ⟨ho, v, hv, hr⟩ := h6 j c hc
    exact ⟨by rw [ren_one]; exact ho, v, hv, hr.ren hρ⟩
  | arr z s =>
    obtain ⟨h0, h00, h1, h2, h3⟩ := h
    refine ⟨h0, h00, h1, h2, ?_⟩
    rcases h3 with h3 | ⟨b, arr, T, h3, h4, h5, h6⟩
    · exact .inl h3
    · exact .inr ⟨b, arr, T, h3, h4, h5, h6.1, fun i j av hi hj => let ⟨hp, v, hv, hr⟩ := h6.2 i j av hi hj; ⟨hp, v, hv, hr.ob_free hp⟩⟩
  | frz z s =>
    obtain ⟨h0, h00, h1, h2, h3⟩ := h
    refine ⟨h0, h00, h1, h2, ?_⟩
    rcases h3 with h3 | ⟨b, arr, T, fz, h3, h4, h5, h6⟩
    · exact .inl h3
    · exact .inr ⟨b, arr, T, fz, h3, h4, h5, h6.1, fun i j av hi hj => let ⟨hp, v, hv, hr⟩ := h6.2 i j av hi hj; ⟨hp, v, hv, hr.ob_free hp⟩⟩
  | frzb cs =>
    obtain ⟨h0, h1, h2, b, arr, T, fz, h3, h4, h5, h6, h7⟩ := h
    exact ⟨h0, h1, h2, b, arr, T, fz, h3, h4, h5, h6, fun j av hj => let ⟨hp, v, hv, hr⟩ := h7 j av hj; ⟨hp, v, hv, hr.ob_free hp⟩⟩
  | map k es =>
    obtain ⟨h0, b, ents, clock, h3, h4, h5, h6⟩ := h
    exact ⟨h0, b, ents, clock, h3, h4, h5, fun j z av hj => let ⟨hf, e, he, hk, hr⟩ := h6 j z av hj; ⟨hf, e, he, hk, hr.flat_free hf⟩⟩
  | mapS k es =>
    obtain ⟨h0, b, ents, clock, h3, h4, h5, h6⟩ := h
    exact ⟨h0, b, ents, clock, h3, h4, h5, fun j z av hj => let ⟨hf, e, he, hk, hr⟩ := h6 j z av hj; ⟨hf, e, he, hk, hr.flat_free hf.1⟩⟩
  | arrP z s => exact h.arrP_free
  | gone => exact h
theorem ObjRel.unren {ob2 : Place} {ρ : Nat → Nat} {o : AObj} {i : Info} (h : ObjRel G w ob2 i (o.ren ρ)) (hρ : ∀ cs, o = .box cs → ∀ i ∈ idsL cs, ob i = ob2 (ρ i)) : ObjRel G w ob i o := by
  cases o with
  | box cs =>
    obtain ⟨h0, h1, h2, b, arr, T, h3, h4, h5, h6⟩ := h
    refine ⟨h0, h1, by rw [h2, length_renL], b, arr, T, h3, h4, by rw [h5, length_renL], fun j av hj => ?_⟩
    obtain ⟨ho, v, hv, hr⟩ := h6 j (av.ren ρ) (by rw [getElem?_renL, hj]; rfl)
    rw [ren_one] at ho
    exact ⟨ho, v, hv, hr.unren av rfl fun i hi => hρ cs rfl i (mem_idsL hj i hi)⟩
  | arr z s =>
    obtain ⟨h0, h00, h1, h2, h3⟩ := h
    refine ⟨h0, h00, h1, h2, ?_⟩
    rcases h3 with h3 | ⟨b, arr, T, h3, h4, h5, h6⟩
    · exact .inl h3
    · exact .inr ⟨b, arr, T, h3, h4, h5, h6.1, fun i j av hi hj => let ⟨hp, v, hv, hr⟩ := h6.2 i j av hi hj; ⟨hp, v, hv, hr.ob_free hp⟩⟩
  | frz z s =>
    obtain ⟨h0, h00, h1, h2, h3⟩ := h
    refine ⟨h0, h00, h1, h2, ?_⟩
    rcases h3 with h3 | ⟨b, arr, T, fz, h3, h4, h5, h6⟩
    · exact .inl h3
    · exact .inr ⟨b, arr, T, fz, h3, h4, h5, h6.1, fun i j av hi hj => let ⟨hp, v, hv, hr⟩ := h6.2 i j av hi hj; ⟨hp, v, hv, hr.ob_free hp⟩⟩
  | frzb cs =>
    obtain ⟨h0, h1, h2, b, arr, T, fz, h3, h4, h5, h6, h7⟩ := h
    exact ⟨h0, h1, h2, b, arr, T, fz, h3, h4, h5, h6, fun j av hj => let ⟨hp, v, hv, hr⟩ := h7 j av hj; ⟨hp, v, hv, hr.ob_free hp⟩⟩
  | map k es =>
    obtain ⟨h0, b, ents, clock, h3, h4, h5, h6⟩ := h
    exact ⟨h0, b, ents, clock, h3, h4, h5, fun j z av hj => let ⟨hf, e, he, hk, hr⟩ := h6 j z av hj; ⟨hf, e, he, hk, hr.flat_free hf⟩⟩
  | mapS k es =>
    obtain ⟨h0, b, ents, clock, h3, h4, h5, h6⟩ := h
    exact ⟨h0, b, ents, clock, h3, h4, h5, fun j z av hj => let ⟨hf, e, he, hk, hr⟩ := h6 j z av hj; ⟨hf, e, he, hk, hr.flat_free hf.1⟩⟩
  | arrP z s => exact h.arrP_free
  | gone => exact h
def RelL (G : Nat → Prop) (w : World) (ob : Place) (args : List AV) (vals : List Value) : Prop :=
  vals.length = args.length ∧ ∀ (j : Nat) (av : AV), args[j]? = some av → Rel G w ob av (vals.getD j undef)
def OBx (K : Nat → Prop) (ob ob' : Place) : Prop := ∀ id i, K id → ob id = some i → ∃ i', ob' id = some i' ∧ (i' = i ∨ (∃ p q, i.kind = .priv p ∧ i' = { i with kind := q }) ∨ (i.len < i'.len ∧ i.kind ≠ .map))
def callableB (P : Program) (f : FuncId) : Bool :=
  match P.funcs[f]? with
  | some fn => fn.body.isSome && fn.name != "runtime.NumGoroutine"
  | none => false
def CallsA (P : Program) (f : FuncId) (args : List AV) (O : List (Nat × AObj)) (r : AV) (O' : List (Nat × AObj)) : Prop :=
  callableB P f = true ∧ ∀ (G : Nat → Prop) (w : World) (ob : Place) (vals : List Value), SimO G w ob (ofL O) → RelL G w ob args vals →
    Calls P f vals.toArray w fun e w' => ∃ v G' ob', e = .returned v ∧ SimO G' w' ob' (ofL O') ∧ Rel G' w' ob' r v ∧ Fr G w ob G' w' ob' ∧ OBext ob ob'
mutual
def AV.noDsl : AV → Bool
  | .sc _ => true
  | .sl .. => true
  | .ptr .. => true
  | .mp _ => true
  | .agg cs => noDslL cs
  | .tup cs => noDslL cs
  | .fn _ a b => noDslL a && noDslL b
  | .dsl .. => false
  | .dslx .. => false
  | .fptr _ => false
  | .own .. => false
  | .hole => false
def noDslL : List AV → Bool
  | [] => true
  | c :: cs => c.noDsl && noDslL cs
end
theorem noDslL_get : ∀ {cs : List AV} {j : Nat} {av : AV}, noDslL cs = true → cs[j]? = some av → av.noDsl = true
  | [], j, av, _, h => by simp at h
  | c :: cs, 0, av, hn, h => by
    simp only [List.getElem?_cons_zero, Option.some.injEq] at h; subst h
    simp only [noDslL, Bool.and_eq_true] at hn; exact hn.1
  | c :: cs, j + 1, av, hn, h => by
    simp only [List.getElem?_cons_succ] at h
    simp only [noDslL, Bool.and_eq_true] at hn
    exact noDslL_get hn.2 h
theorem Rel.noDsl {G' : Nat → Prop} {av : AV} {v : Value} (h : Rel G w ob av v) (hn : av.noDsl = true) : Rel G' w ob av v := by
  induction h with
  | sc h => exact .sc h
  | hole h => exact .hole h
  | sl i h hle hs hv => exact .sl i h hle hs hv
  | ptr a i h hle hv => exact .ptr a i h hle hv
  | mp b i h hb hm => exact .mp b i h hb hm
  | agg vs hn' ho hr ih => exact .agg vs hn' ho fun j av hj => ih j av hj (noDslL_get (by simpa [AV.noDsl] using hn) hj)
  | tup vs hn' hr ih => exact .tup vs hn' fun j av hj => ih j av hj (noDslL_get (by simpa [AV.noDsl] using hn) hj)
  | fn vs us hn' hm hr hq ih1 ih2 =>
    simp only [AV.noDsl, Bool.and_eq_true] at hn
    exact .fn vs us hn' hm (fun j av hj => ih1 j av hj (noDslL_get hn.1 hj)) (fun j av hj => ih2 j av hj (noDslL_get hn.2 hj))
  | _ => simp [AV.noDsl] at hn
def AObj.NoDsl : AObj → Prop
  | .box cs => noDslL cs = true
  | .arr _ s => ∀ k, k < s.n → noDslL (s.g k) = true
  | .frz .. => False
  | .frzb _ => False
  | .arrP .. => False
  | .gone => True
  | .map _ es => ∀ (j : Nat) (z : Int) (av : AV), es[j]? = some (z, av) → av.noDsl = true
  | .mapS _ es => ∀ (j : Nat) (z : List Int) (av : AV), es[j]? = some (z, av) → av.noDsl = true
theorem ObjRel.noDsl {G' : Nat → Prop} {i : Info} {o : AObj} (h : ObjRel G w ob i o) (hn : o.NoDsl) : ObjRel G' w ob i o := by
  cases o with
  | box cs =>
    obtain ⟨h0, h1, h2, b, arr, T, h3, h4, h5, h6⟩ := h
    exact ⟨h0, h1, h2, b, arr, T, h3, h4, h5, fun j av hj => let ⟨ho, v, hv, hr⟩ := h6 j av hj; ⟨ho, v, hv, hr.noDsl (noDslL_get hn hj)⟩⟩
  | arr z s =>
    obtain ⟨h0, h00, h1, h2, h3⟩ := h
    refine ⟨h0, h00, h1, h2, ?_⟩
    rcases h3 with h3 | ⟨b, arr, T, h3, h4, h5, h6⟩
    · exact .inl h3
    · exact .inr ⟨b, arr, T, h3, h4, h5, h6.1, fun i j av hi hj => let ⟨hp, v, hv, hr⟩ := h6.2 i j av hi hj; ⟨hp, v, hv, hr.noDsl (noDslL_get (hn i hi) hj)⟩⟩
  | frz z s => exact hn.elim
  | frzb cs => exact hn.elim
  | arrP z s => exact hn.elim
  | gone => exact h
  | map k es =>
    obtain ⟨h0, b, ents, clock, h3, h4, h5, h6⟩ := h
    exact ⟨h0, b, ents, clock, h3, h4, h5, fun j z av hj => let ⟨hf, e, he, hk, hr⟩ := h6 j z av hj; ⟨hf, e, he, hk, hr.noDsl (hn j z av hj)⟩⟩
  | mapS k es =>
    obtain ⟨h0, b, ents, clock, h3, h4, h5, h6⟩ := h
    exact ⟨h0, b, ents, clock, h3, h4, h5, fun j z av hj => let ⟨hf, e, he, hk, hr⟩ := h6 j z av hj; ⟨hf, e, he, hk, hr.noDsl (hn j z av hj)⟩⟩
end
section
variable {P : Program} {G : Nat → Prop} {w : World} {ob : Place} {m : Nat → Option AObj}
theorem wrm_get : ∀ (l : List (Nat × AObj)) (f : Nat → Option AObj), (l.map (·.1)).Nodup → ∀ x, wrm f l x = match l.find? (fun p => p.1 == x) with | some p => some p.2 | none => f x
  | [], f, _, x => rfl
  | p :: l, f, h, x => by
    simp only [List.map_cons, List.nodup_cons] at h
    have ih := wrm_get l (upd f p.1 (some p.2)) h.2 x
    show wrm (upd f p.1 (some p.2)) l x = _
    rw [ih, List.find?_cons]
    by_cases hx : (p.1 == x) = true
    · simp only [beq_iff_eq] at hx
      subst hx
      have : l.find? (fun q => q.1 == p.1) = none := by
        rw [List.find?_eq_none]
        intro q hq hqe
        simp only [beq_iff_eq] at hqe
        exact h.1 (by rw [← hqe]; exact List.mem_map_of_mem hq)
      simp [this]
    · have hx' : (p.1 == x) = false := by simpa using hx
      simp only [hx']
      cases l.find? (fun q => q.1 == x) with
      | some q => rfl
      | none => simp only [beq_eq_false_iff_ne] at hx'; exact upd_ne (fun e => hx' e.symm)
theorem ofL_get (l : List (Nat × AObj)) (h : (l.map (·.1)).Nodup) (x : Nat) : ofL l x = (l.find? (fun p => p.1 == x)).map (·.2) := by
  unfold ofL; rw [wrm_get l _ h]; cases l.find? (fun p => p.1 == x) <;> rfl
def renO (ρ : Nat → Nat) (O : List (Nat × AObj)) : List (Nat × AObj) := O.map fun p => (ρ p.1, p.2.ren ρ)
theorem nodup_of_map {ρ : Nat → Nat} {O : List (Nat × AObj)} (h : (O.map fun p => ρ p.1).Nodup) : (O.map (·.1)).Nodup ∧ ∀ i j, (ofL O i).isSome → (ofL O j).isSome → ρ i = ρ j → i = j := by
  have h1 : (O.map (·.1)).Nodup := by
    have : (O.map fun p => ρ p.1) = (O.map (·.1)).map ρ := by simp
    rw [this] at h
    rw [List.Nodup, List.pairwise_map] at h
    exact h.imp (fun hab e => hab (by rw [e]))
  refine ⟨h1, fun i j hi hj e => ?_⟩
  rw [ofL_get O h1] at hi hj
  simp only [Option.isSome_map] at hi hj
  obtain ⟨p, hp⟩ := Option.isSome_iff_exists.1 hi
  obtain ⟨q, hq⟩ := Option.isSome_iff_exists.1 hj
  have e1 := List.find?_some hp
  have e2 := List.find?_some hq
  simp only [beq_iff_eq] at e1 e2
  subst e1; subst e2
  have hpm := List.mem_of_find?_eq_some hp
  have hqm := List.mem_of_find?_eq_some hq
  clear hi hj hp hq h1
  induction O with
  | nil => cases hpm
  | cons x O ih =>
    simp only [List.map_cons, List.nodup_cons] at h
    rcases List.mem_cons.1 hpm with rfl | hpm'
    · rcases List.mem_cons.1 hqm with rfl | hqm'
      · rfl
      · exact absurd (by rw [e]; exact List.mem_map_of_mem (f := fun p : Nat × AObj => ρ p.1) hqm') h.1
    · rcases List.mem_cons.1 hqm with rfl | hqm'
      · exact absurd (by rw [← e]; exact List.mem_map_of_mem (f := fun p : Nat × AObj => ρ p.1) hpm') h.1
      · exact ih h.2 hpm' hqm'
theorem wrm_renO {ρ : Nat → Nat} {O : List (Nat × AObj)} (h : (O.map fun p => ρ p.1).Nodup) (f : Nat → Option AObj) :
    (∀ i o, ofL O i = some o → wrm f (renO ρ O) (ρ i) = some (o.ren ρ)) ∧ (∀ x, (∀ i, (ofL O i).isSome → ρ i ≠ x) → wrm f (renO ρ O) x = f x) := by
  obtain ⟨h1, hinj⟩ := nodup_of_map h
  have h2 : ((renO ρ O).map (·.1)).Nodup := by simpa [renO, Function.comp_def] using h
  have hfind : ∀ x, (renO ρ O).find? (fun p => p.1 == x) = (O.find? (fun p => ρ p.1 == x)).map fun p => (ρ p.1, p.2.ren ρ) := fun x => by
    simp only [renO, List.find?_map]; rfl
  refine ⟨fun i o hi => ?_, fun x hx => ?_⟩
  · rw [wrm_get _ _ h2, hfind]
    have hi' := hi
    rw [ofL_get O h1, Option.map_eq_some_iff] at hi
    obtain ⟨p, hp, rfl⟩ := hi
    have e1 := List.find?_some hp
    simp only [beq_iff_eq] at e1
    have hpm := List.mem_of_find?_eq_some hp
    cases hq : O.find? (fun p => ρ p.1 == ρ i) with
    | none => rw [List.find?_eq_none] at hq; exact absurd (by simp [e1]) (hq p hpm)
    | some q =>
      have e2 := List.find?_some hq
      simp only [beq_iff_eq] at e2
      have hqm := List.mem_of_find?_eq_some hq
      have hqs : (ofL O q.1).isSome := by
        rw [ofL_get O h1, Option.isSome_map, List.find?_isSome]; exact ⟨q, hqm, by simp⟩
      have hqi := hinj q.1 i hqs (by rw [hi']; rfl) e2
      have hfi : O.find? (fun p => p.1 == i) = some q := by
        have hq2 : O.find? (fun p => p.1 == i) ≠ none := by rw [hp]; simp
        -- distinct names: the two are one
        have uniq : ∀ (l : List (Nat × AObj)), (l.map (·.1)).Nodup → ∀ p q : Nat × AObj, p ∈ l → q ∈ l → p.1 = q.1 → p = q := by
          intro l
          induction l with
          | nil => intro _ p q hp; cases hp
          | cons x l ih =>
            intro hl p q hp hq e
            simp only [List.map_cons, List.nodup_cons] at hl
            rcases List.mem_cons.1 hp with rfl | hp'
            · rcases List.mem_cons.1 hq with rfl | hq'
              · rfl
              · exact absurd (by rw [e]; exact List.mem_map_of_mem hq') hl.1
            · rcases List.mem_cons.1 hq with rfl | hq'
              · exact absurd (by rw [← e]; exact List.mem_map_of_mem hp') hl.1
              · exact ih hl.2 p q hp' hq' e
        rw [hp, uniq O h1 p q hpm hqm (by rw [e1, hqi])]
      rw [hp] at hfi
      injection hfi with hfi
      subst hfi
      rfl
  · rw [wrm_get _ _ h2, hfind]
    cases hq : O.find? (fun p => ρ p.1 == x) with
    | none => rfl
    | some q =>
      have e2 := List.find?_some hq
      simp only [beq_iff_eq] at e2
      have hqm := List.mem_of_find?_eq_some hq
      exact absurd e2 (hx q.1 (by rw [ofL_get O h1, Option.isSome_map, List.find?_isSome]; exact ⟨q, hqm, by simp⟩))
noncomputable def joinOb (ρ : Nat → Nat) (O' : List (Nat × AObj)) (ob ob' : Place) : Place := fun x =>
  open Classical in if h : ∃ i, (ofL O' i).isSome ∧ ρ i = x then ob' h.choose else ob x
theorem joinOb_in {ρ : Nat → Nat} {O' : List (Nat × AObj)} {ob' : Place} (hinj : ∀ i j, (ofL O' i).isSome → (ofL O' j).isSome → ρ i = ρ j → i = j) {i : Nat} (hi : (ofL O' i).isSome) :
    joinOb ρ O' ob ob' (ρ i) = ob' i := by
  unfold joinOb
  have h : ∃ k, (ofL O' k).isSome ∧ ρ k = ρ i := ⟨i, hi, rfl⟩
  rw [dif_pos h]
  rw [hinj _ _ h.choose_spec.1 hi h.choose_spec.2]
theorem joinOb_out {ρ : Nat → Nat} {O' : List (Nat × AObj)} {ob' : Place} {x : Nat} (hx : ∀ i, (ofL O' i).isSome → ρ i ≠ x) : joinOb ρ O' ob ob' x = ob x := by
  unfold joinOb
  rw [dif_neg]
  rintro ⟨i, hi, rfl⟩
  exact hx i hi rfl
theorem merge {Ga Gf Gc : Nat → Prop} {w' : World} {ob' obc : Place} {ρ : Nat → Nat} {O O' : List (Nat × AObj)}
    (ha : SimO Ga w ob m) (hnd : (O'.map fun p => ρ p.1).Nodup)
    (hobc : ∀ i, obc i = if (ofL O i).isSome then ob (ρ i) else none)
    (hOO : ∀ i, (ofL O i).isSome → (ofL O' i).isSome)
    (hnew : ∀ i, (ofL O' i).isSome → (ofL O i).isSome ∨ ob (ρ i) = none)
    (hsub : ∀ b, Ga b → Gf b) (hfn : ∀ b, Gf b → Ga b ∨ w.heap.size ≤ b ∨ blks obc b) (hlt : ∀ b, Gf b → b < w'.heap.size)
    (hsame : ∀ b, b < w.heap.size → (Ga b ∨ ¬ blks obc b) → w'.heap[b]? = w.heap[b]?)
    (hblk : ∀ b, blks ob' b → blks obc b ∨ w.heap.size ≤ b) (hext : OBext obc ob')
    (hc : SimO Gc w' ob' (ofL O')) (hown : ∀ i o inf, ofL O' i = some o → ob' i = some inf → ObjRel Gf w' ob' inf o)
    (hsep : ∀ i o inf b, ofL O' i = some o → o.owned = true → ob' i = some inf → inf.has b → ¬ Gf b) :
    SimO Gf w' (joinOb ρ O' ob ob') (wrm m (renO ρ O')) ∧ OBext ob (joinOb ρ O' ob ob') ∧
      (∀ b, blks (joinOb ρ O' ob ob') b → blks ob b ∨ w.heap.size ≤ b) ∧ (∀ i inf, ob' i = some inf → joinOb ρ O' ob ob' (ρ i) = some inf) ∧ (∀ b, blks obc b → blks ob b) := by
  obtain ⟨hnd1, hinj⟩ := nodup_of_map hnd
  obtain ⟨hw1, hw2⟩ := wrm_renO hnd m
  have hsome : ∀ i inf, ob' i = some inf → (ofL O' i).isSome := fun i inf hi => by
    cases ho : ofL O' i with
    | none => rw [(hc.dom i).1 ho] at hi; cases hi
    | some o => rfl
  have hren : ∀ i inf, ob' i = some inf → joinOb ρ O' ob ob' (ρ i) = some inf := fun i inf hi => by rw [joinOb_in hinj (hsome i inf hi)]; exact hi
  have himg : ∀ x, (∃ i, (ofL O' i).isSome ∧ ρ i = x) ∨ (∀ i, (ofL O' i).isSome → ρ i ≠ x) := fun x => by
    by_cases h : ∃ i, (ofL O' i).isSome ∧ ρ i = x
    · exact .inl h
    · exact .inr fun i hi e => h ⟨i, hi, e⟩
  have hbsub : ∀ b, blks obc b → ∃ i inf, (ofL O i).isSome ∧ ob (ρ i) = some inf ∧ inf.has b := by
    rintro b ⟨i, inf, hi, hb⟩
    rw [hobc] at hi
    split at hi
    · exact ⟨i, inf, by assumption, hi, hb⟩
    · cases hi
  have holdlt : ∀ x inf b, ob x = some inf → inf.has b → b < w.heap.size := fun x inf b hx hb => by
    cases ho : m x with
    | none => rw [(ha.dom x).1 ho] at hx; cases hx
    | some o => exact (ha.own x o inf ho hx).has_lt hb
  -- an old object that the callee did not get
  have hout : ∀ x inf b, (∀ i, (ofL O' i).isSome → ρ i ≠ x) → ob x = some inf → inf.has b → ¬ blks obc b := fun x inf b hx hox hb hbc => by
    obtain ⟨i, inf', hi, hoi, hbi⟩ := hbsub b hbc
    exact hx i (hOO i hi) (ha.inj _ _ _ _ b hoi hox hbi hb)
  have hOB : OBext ob (joinOb ρ O' ob ob') := fun x inf hx => by
    rcases himg x with ⟨i, hi, rfl⟩ | h
    · rw [joinOb_in hinj hi]
      rcases hnew i hi with hO | hn
      · exact hext i inf (by rw [hobc, if_pos hO]; exact hx)
      · rw [hn] at hx; cases hx
    · exact ⟨inf, by rw [joinOb_out h]; exact hx, .inl rfl⟩
  refine ⟨⟨?_, ?_, hlt, ?_, ?_⟩, hOB, ?_, hren, fun b hb => let ⟨i, inf, _, h1, h2⟩ := hbsub b hb; ⟨_, inf, h1, h2⟩⟩
  · intro x
    rcases himg x with ⟨i, hi, rfl⟩ | h
    · obtain ⟨o, ho⟩ := Option.isSome_iff_exists.1 hi
      rw [hw1 i o ho, joinOb_in hinj hi]
      constructor
      · intro h; cases h
      · intro h; rw [(hc.dom i).2 h] at ho; cases ho
    · rw [hw2 x h, joinOb_out h]; exact ha.dom x
  · intro x y i j b hx hy hbx hby
    rcases himg x with ⟨p, hp, rfl⟩ | hx'
    · rw [joinOb_in hinj hp] at hx
      rcases himg y with ⟨q, hq, rfl⟩ | hy'
      · rw [joinOb_in hinj hq] at hy
        rw [hc.inj _ _ _ _ b hx hy hbx hby]
      · rw [joinOb_out hy'] at hy
        rcases hblk b ⟨p, i, hx, hbx⟩ with h | h
        · exact absurd h (hout y j b hy' hy hby)
        · have := holdlt y j b hy hby; omega
    · rw [joinOb_out hx'] at hx
      rcases himg y with ⟨q, hq, rfl⟩ | hy'
      · rw [joinOb_in hinj hq] at hy
        rcases hblk b ⟨q, j, hy, hby⟩ with h | h
        · exact absurd h (hout x i b hx' hx hbx)
        · have := holdlt x i b hx hbx; omega
      · rw [joinOb_out hy'] at hy
        exact ha.inj _ _ _ _ b hx hy hbx hby
  · intro x o inf hm hx
    rcases himg x with ⟨i, hi, rfl⟩ | h
    · obtain ⟨o', ho'⟩ := Option.isSome_iff_exists.1 hi
      rw [hw1 i o' ho'] at hm
      injection hm with hm
      subst hm
      rw [joinOb_in hinj hi] at hx
      exact (hown i o' inf ho' hx).ren hren
    · rw [hw2 x h] at hm
      rw [joinOb_out h] at hx
      have hr := ha.own x o inf hm hx
      exact hr.ext hsub (fun b hb => hsame b (ha.lt b hb) (.inl hb)) hOB fun b hb => hsame b (hr.has_lt hb) (.inr (hout x inf b h hx hb))
  · intro x o inf b hm how hx hb
    rcases himg x with ⟨i, hi, rfl⟩ | h
    · obtain ⟨o', ho'⟩ := Option.isSome_iff_exists.1 hi
      rw [hw1 i o' ho'] at hm
      injection hm with hm
      subst hm
      rw [joinOb_in hinj hi] at hx
      exact hsep i o' inf b ho' (by first | assumption | (rw [owned_ren] at *; assumption) | (cases o' <;> simp_all [AObj.ren, AObj.owned])) hx hb
    · rw [hw2 x h] at hm
      rw [joinOb_out h] at hx
      intro hG
      rcases hfn b hG with h1 | h1 | h1
      · exact ha.sep x o inf b hm how hx hb h1
      · have := holdlt x inf b hx hb; omega
      · exact hout x inf b h hx hb h1
  · rintro b ⟨x, inf, hx, hb⟩
    rcases himg x with ⟨i, hi, rfl⟩ | h
    · rw [joinOb_in hinj hi] at hx
      rcases hblk b ⟨i, inf, hx, hb⟩ with h | h
      · obtain ⟨k, inf', _, h1, h2⟩ := hbsub b h
        exact .inl ⟨_, inf', h1, h2⟩
      · exact .inr h
    · rw [joinOb_out h] at hx
      exact .inl ⟨x, inf, hx, hb⟩
end
end Go.Abs
end
section
namespace Go.Abs
section
variable {P : Program} {G : Nat → Prop} {w : World} {ob : Place} {m : Nat → Option AObj}
def freezeAV (m : Nat → Option AObj) : AV → Option (Prop × AV × List (Nat × AObj))
  | .agg cs => match freezeL m cs with
    | some (p, cs', wr) => some (p, .agg cs', wr)
    | none => none
  | .tup _ => none
  | v => freezeCell m v
theorem freezeAV_ok {c c' : AV} {p : Prop} {wr : List (Nat × AObj)} {v : Value} (hf : freezeAV m c = some (p, c', wr)) (hp : p) {m1 : Nat → Option AObj}
    (hs : SimO G w ob m1) (ha : Agree m m1) (hr : Rel G w ob c v) :
    ∃ G2, SimO G2 w ob (wrm m1 wr) ∧ Agree m (wrm m1 wr) ∧ (∀ b, G b → G2 b) ∧ (∀ b, G2 b → G b ∨ blks ob b) ∧ c'.flat = true ∧ Rel G2 w ob c' v := by
  have one : freezeCell m c = some (p, c', wr) → ∃ G2, SimO G2 w ob (wrm m1 wr) ∧ Agree m (wrm m1 wr) ∧ (∀ b, G b → G2 b) ∧ (∀ b, G2 b → G b ∨ blks ob b) ∧ c'.flat = true ∧ Rel G2 w ob c' v := fun h => by
    obtain ⟨G2, a1, a2, a3, a4, a5, a6⟩ := freezeCell_ok h hp hs ha hr
    exact ⟨G2, a1, a2, a3, a4, by cases c' <;> simp_all [AV.flat, AV.pure], a6⟩
  cases c with
  | agg cs =>
    simp only [freezeAV] at hf
    split at hf
    · rename_i p1 cs' w1 h1
      simp only [Option.some.injEq, Prod.mk.injEq] at hf
      obtain ⟨rfl, rfl, rfl⟩ := hf
      cases hr with
      | agg vs hn ho hrr =>
        obtain ⟨G2, a1, a2, a3, a4, a5, a6⟩ := freezeL_ok cs cs' p1 w1 (fun j => vs.getD j undef) G m1 h1 hp hs ha hrr
        refine ⟨G2, a1, a2, a3, a4, ?_, .agg vs (by rw [hn, a5]) (fun j av hj => pure_one (a6 j av hj).1) (fun j av hj => (a6 j av hj).2)⟩
        simp only [AV.flat, List.all_eq_true]
        intro av hav
        obtain ⟨j, hj⟩ := List.getElem?_of_mem hav
        exact (a6 j av hj).1
    · cases hf
  | tup cs => simp [freezeAV] at hf
  | _ => exact one (by simpa only [freezeAV] using hf)
def ArgsOk (m : Nat → Option AObj) (ρ : Nat → Nat) (O : List (Nat × AObj)) : List Bool → List AV → List AV → List (Nat × AObj) → Prop
  | [], [], [], wr => wr = []
  | true :: md, av :: avs, c :: cs, wr => c.ren ρ = av ∧ (∀ i ∈ c.ids, (ofL O i).isSome) ∧ ArgsOk m ρ O md avs cs wr
  | false :: md, av :: avs, c :: cs, wr => ∃ p w1 w2, freezeAV m av = some (p, c, w1) ∧ p ∧ wr = w1 ++ w2 ∧ ArgsOk m ρ O md avs cs w2
  | _, _, _, _ => False
theorem argsOk_ok {ρ : Nat → Nat} {O : List (Nat × AObj)} : ∀ (md : List Bool) (avs cargs : List AV) (wr : List (Nat × AObj)) (v : Nat → Value) (G : Nat → Prop) (m1 : Nat → Option AObj),
    ArgsOk m ρ O md avs cargs wr → SimO G w ob m1 → Agree m m1 → (∀ (j : Nat) (av : AV), avs[j]? = some av → Rel G w ob av (v j)) →
    ∃ G2, SimO G2 w ob (wrm m1 wr) ∧ Agree m (wrm m1 wr) ∧ (∀ b, G b → G2 b) ∧ (∀ b, G2 b → G b ∨ blks ob b) ∧ cargs.length = avs.length ∧
      ∀ (j : Nat) (c : AV), cargs[j]? = some c → (c.flat = true ∧ Rel G2 w ob c (v j)) ∨ ((∀ i ∈ c.ids, (ofL O i).isSome) ∧ Rel G2 w ob (c.ren ρ) (v j))
  | [], [], [], wr, v, G, m1, h, hs, ha, hr => by
    simp only [ArgsOk] at h; subst h
    exact ⟨G, hs, ha, fun _ h => h, fun _ h => .inl h, rfl, fun j c h => by simp at h⟩
  | true :: md, av :: avs, c :: cs, wr, v, G, m1, h, hs, ha, hr => by
    simp only [ArgsOk] at h
    obtain ⟨h1, h2, h3⟩ := h
    obtain ⟨G2, a1, a2, a3, a4, a5, a6⟩ := argsOk_ok md avs cs wr (fun j => v (j + 1)) G m1 h3 hs ha (fun j av hj => hr (j + 1) av (by simpa using hj))
    refine ⟨G2, a1, a2, a3, a4, by simp [a5], fun j c' hj => ?_⟩
    cases j with
    | zero =>
      simp only [List.getElem?_cons_zero, Option.some.injEq] at hj; subst hj
      exact .inr ⟨h2, by rw [h1]; exact (hr 0 av (by simp)).ext a3 (fun _ _ => rfl) (OBext.refl ob)⟩
    | succ j => simp only [List.getElem?_cons_succ] at hj; exact a6 j c' hj
  | false :: md, av :: avs, c :: cs, wr, v, G, m1, h, hs, ha, hr => by
    simp only [ArgsOk] at h
    obtain ⟨p, w1, w2, h1, h2, rfl, h3⟩ := h
    obtain ⟨G1, b1, b2, b3, b4, b5, b6⟩ := freezeAV_ok h1 h2 hs ha (hr 0 av (by simp))
    obtain ⟨G2, a1, a2, a3, a4, a5, a6⟩ := argsOk_ok md avs cs w2 (fun j => v (j + 1)) G1 _ h3 b1 b2 (fun j av hj => (hr (j + 1) av (by simpa using hj)).ext b3 (fun _ _ => rfl) (OBext.refl ob))
    refine ⟨G2, by rw [wrm_append]; exact a1, by rw [wrm_append]; exact a2, fun b h => a3 b (b3 b h), fun b h => ?_, by simp [a5], fun j c' hj => ?_⟩
    · rcases a4 b h with h | h
      · exact b4 b h
      · exact .inr h
    · cases j with
      | zero =>
        simp only [List.getElem?_cons_zero, Option.some.injEq] at hj; subst hj
        exact .inl ⟨b5, b6.ext a3 (fun _ _ => rfl) (OBext.refl ob)⟩
      | succ j => simp only [List.getElem?_cons_succ] at hj; exact a6 j c' hj
  | [], _ :: _, _, _, _, _, _, h, _, _, _ => by simp [ArgsOk] at h
  | [], [], _ :: _, _, _, _, _, h, _, _, _ => by simp [ArgsOk] at h
  | true :: _, [], _, _, _, _, _, h, _, _, _ => by simp [ArgsOk] at h
  | true :: _, _ :: _, [], _, _, _, _, h, _, _, _ => by simp [ArgsOk] at h
  | false :: _, [], _, _, _, _, _, h, _, _, _ => by simp [ArgsOk] at h
  | false :: _, _ :: _, [], _, _, _, _, h, _, _, _ => by simp [ArgsOk] at h
inductive CallDoes (P : Program) (m : Nat → Option AObj) (f : FuncId) (avs : List AV) : Res → Prop
  | mk (md : List Bool) (cargs : List AV) (O : List (Nat × AObj)) (r : AV) (O' : List (Nat × AObj)) (ρ : Nat → Nat) (wr : List (Nat × AObj)) (keep : Bool)
      (spec : CallsA P f cargs O r O') (ha : ArgsOk m ρ O md avs cargs wr)
      (hO : ∀ i o, ofL O i = some o → wrm m wr (ρ i) = some (o.ren ρ))
      (hOc : ∀ i cs, ofL O i = some (.box cs) → ∀ j ∈ idsL cs, (ofL O j).isSome)
      (hOO : ∀ i, (ofL O i).isSome → (ofL O' i).isSome)
      (hnew : ∀ i, (ofL O' i).isSome → (ofL O i).isSome ∨ m (ρ i) = none)
      (hnd : (O'.map fun p => ρ p.1).Nodup)
      (hk : keep = true → r.noDsl = true ∧ ∀ i o, ofL O' i = some o → o.NoDsl) :
      CallDoes P m f avs ⟨some (r.ren ρ), (if keep then [] else wr) ++ renO ρ O'⟩
    | drop (v : Option AV) (wr : List (Nat × AObj)) (h : CallDoes P m f avs ⟨v, wr⟩) (hs : ∀ p ∈ wr, m p.1 = some p.2) (hk : ∀ p ∈ wr, ∃ av ∈ avs, p.1 ∈ av.ids) : CallDoes P m f avs ⟨v, []⟩
theorem wrm_asis : ∀ (wr : List (Nat × AObj)) (m : Nat → Option AObj), (∀ p ∈ wr, m p.1 = some p.2) → wrm m wr = m
  | [], _, _ => rfl
  | p :: wr, m, h => by
    have e : upd m p.1 (some p.2) = m := by
      funext x
      by_cases hx : x = p.1
      · subst hx; rw [upd_same, h p (List.mem_cons_self ..)]
      · rw [upd_ne hx]
    show wrm (upd m p.1 (some p.2)) wr = m
    rw [e]
    exact wrm_asis wr m fun q hq => h q (List.mem_cons_of_mem _ hq)
theorem CallDoes.callable {f : FuncId} {avs : List AV} {r : Res} (h : CallDoes P m f avs r) : callableB P f = true := by
  induction h with
  | mk md cargs O r O' ρ wr keep spec => exact spec.1
  | drop _ _ _ _ _ ih => exact ih
theorem callDoes_ok {f : FuncId} {avs : List AV} {r : Res} (h : CallDoes P m f avs r) {vals : List Value} (hs : SimO G w ob m) (hv : RelL G w ob avs vals) :
    Calls P f vals.toArray w fun e w' => ∃ v G' ob', e = .returned v ∧ SimO G' w' ob' (wrm m r.wr) ∧ (∀ av, r.val = some av → Rel G' w' ob' av v) ∧ OBext ob ob' ∧ Fr G w ob G' w' ob' := by
  induction h with
  | drop v wr _ hsm _ ih =>
    dsimp only at ih ⊢
    rw [wrm_asis wr m hsm] at ih
    exact ih
  | mk md cargs O r O' ρ wr keep spec ha hO hOc hOO hnew hnd hk =>
    obtain ⟨G2, a1, a2, a3, a4, a5, a6⟩ := argsOk_ok md avs cargs wr (fun j => vals.getD j undef) G m ha hs (Agree.refl m) hv.2
    obtain ⟨_, hinj'⟩ := nodup_of_map hnd
    have hinj : ∀ i j, (ofL O i).isSome → (ofL O j).isSome → ρ i = ρ j → i = j := fun i j hi hj => hinj' i j (hOO i hi) (hOO j hj)
    let obc : Place := fun i => if (ofL O i).isSome then ob (ρ i) else none
    have hobc : ∀ i, obc i = if (ofL O i).isSome then ob (ρ i) else none := fun _ => rfl
    have hob1 : ∀ i, (ofL O i).isSome → obc i = ob (ρ i) := fun i hi => by rw [hobc, if_pos hi]
    have hobs : ∀ i inf, obc i = some inf → (ofL O i).isSome ∧ ob (ρ i) = some inf := fun i inf h => by
      rw [hobc] at h; split at h
      · exact ⟨by assumption, h⟩
      · cases h
    have hsc : SimO G2 w obc (ofL O) := by
      refine ⟨fun i => ?_, fun i j inf inf' b hi hj hb hb' => ?_, a1.lt, fun i o inf ho hi => ?_, fun i o inf b ho how hi hb => ?_⟩
      · constructor
        · intro h; rw [hobc, h]; rfl
        · intro h
          cases ho : ofL O i with
          | none => rfl
          | some o =>
            rw [hobc, ho] at h
            simp only [Option.isSome_some, if_true] at h
            have := hO i o ho
            rw [(a1.dom _).2 h] at this
            cases this
      · obtain ⟨h1, h2⟩ := hobs i inf hi
        obtain ⟨h3, h4⟩ := hobs j inf' hj
        exact hinj i j h1 h3 (a1.inj _ _ _ _ b h2 h4 hb hb')
      · obtain ⟨h1, h2⟩ := hobs i inf hi
        exact (a1.own _ _ inf (hO i o ho) h2).unren (fun cs hc j hj => hob1 j (hOc i cs (by rw [ho, hc]) j hj))
      · obtain ⟨h1, h2⟩ := hobs i inf hi
        exact a1.sep _ _ inf b (hO i o ho) (by rw [owned_ren]; assumption) h2 hb
    have hrl : RelL G2 w obc cargs vals := by
      refine ⟨by rw [hv.1, a5], fun j c hj => ?_⟩
      rcases a6 j c hj with ⟨h1, h2⟩ | ⟨h1, h2⟩
      · exact h2.flat_free h1
      · exact h2.unren c rfl fun i hi => hob1 i (h1 i hi)
    refine (spec.2 G2 w obc vals hsc hrl).mono ?_
    rintro e w' ⟨v, G', ob', rfl, s1, s2, s3, s4⟩
    have hbs : ∀ b, blks obc b → blks ob b := by
      rintro b ⟨i, inf, hi, hb⟩; exact ⟨_, inf, (hobs i inf hi).2, hb⟩
    have hnew2 : ∀ i, (ofL O' i).isSome → (ofL O i).isSome ∨ ob (ρ i) = none := fun i hi => (hnew i hi).imp id fun h => (hs.dom _).1 h
    cases keep with
    | false =>
      obtain ⟨m1, m2, m3, m4, m5⟩ := merge (Gf := G') a1 hnd hobc hOO hnew2 s3.sub s3.new s1.lt s3.same s3.blk s4 s1 (fun i o inf ho hi => s1.own i o inf ho hi) (fun i o inf b => s1.sep i o inf b)
      refine ⟨v, G', joinOb ρ O' ob ob', rfl, by rw [if_neg (by simp), wrm_append]; exact m1, fun av hav => ?_, m2, ?_⟩
      · injection hav with hav; subst hav; exact s2.ren m4
      · refine ⟨s3.size, fun b hb hc => s3.same b hb ?_, m3, fun b h => s3.sub b (a3 b h), fun b h => ?_, s3.os, s3.tape, s3.output, s3.drawn⟩
        · rcases hc with hc | hc
          · exact .inl (a3 b hc)
          · exact .inr fun h => hc (hbs b h)
        · rcases s3.new b h with h | h | h
          · rcases a4 b h with h | h
            · exact .inl h
            · exact .inr (.inr h)
          · exact .inr (.inl h)
          · exact .inr (.inr (hbs b h))
    | true =>
      obtain ⟨hk1, hk2⟩ := hk rfl
      obtain ⟨m1, m2, m3, m4, m5⟩ := merge (Gf := G) hs hnd hobc hOO hnew2 (fun _ h => h) (fun _ h => .inl h) (fun b h => Nat.lt_of_lt_of_le (hs.lt b h) s3.size)
        (fun b hb hc => s3.same b hb (hc.imp (a3 b) id)) s3.blk s4 s1 (fun i o inf ho hi => (s1.own i o inf ho hi).noDsl (hk2 i o ho)) (fun i o inf b ho how hi hb hG => s1.sep i o inf b ho how hi hb (s3.sub b (a3 b hG)))
      refine ⟨v, G, joinOb ρ O' ob ob', rfl, by simpa using m1, fun av hav => ?_, m2, ?_⟩
      · injection hav with hav; subst hav; exact (s2.noDsl hk1).ren m4
      · refine ⟨s3.size, fun b hb hc => s3.same b hb ?_, m3, fun _ h => h, fun _ h => .inl h, s3.os, s3.tape, s3.output, s3.drawn⟩
        rcases hc with hc | hc
        · exact .inl (a3 b hc)
        · exact .inr fun h => hc (hbs b h)
end
end Go.Abs
end
section
namespace Go.Abs
structure AOper where
  dst : Option Nat
  op : AOp
  guard : Option (Nat × Bool)
  chk : List Nat
structure St where
  env : Nat → Option (Bool × AV)
  objs : Nat → Option AObj
def St.ev (σ : St) : AX → Option (Bool × AV)
  | .t n => σ.env n
  | .k v => some (true, v)
def St.e (σ : St) (x : AX) : Option AV := match σ.ev x with | some (_, v) => some v | none => none
def St.c (σ : St) (x : AX) : Bool := match σ.ev x with | some (c, _) => c | none => false
def St.put (σ : St) (d : Option Nat) (c : Bool) (r : Res) : St :=
  { env := match d with
      | some d => upd σ.env d (match r.val with | some v => some (c, v) | none => none)
      | none => σ.env,
    objs := wrm σ.objs r.wr }
def AOp.ops : AOp → List AX
  | .isnil _ _ x | .aslice _ _ x => [x]
  | .eqb _ x y | .sidx x y | .eqs _ x y | .copy x y | .appz _ _ _ x y | .aidx _ x y => [x, y]
  | .bstr x | .cap0 x => [x]
  | .bad => []
  | .mov x | .load _ x | .un _ x | .box x | .convI _ x | .faddr _ x | .fld _ _ x | .len x | .mlen x | .ext x _ | .nilck x => [x]
  | .bin _ x y | .eqa _ _ x y | .store _ x y | .iaddr _ x y | .aaddr _ _ x y | .append _ _ x y | .mkslice _ _ _ x y | .minmax _ x y | .lookup _ _ _ x y | .lookupS _ _ _ x y => [x, y]
  | .pick c a b => [c, a, b]
  | .mset _ x y z | .msetS _ x y z => [x, y, z]
  | .alloc _ | .mkmap _ | .mkmapS _ => []
  | .build _ ps => ps.map (·.2.2)
  | .bslice _ _ _ ps => ps.map (·.2.2)
  | .slice _ x l h mx => x :: (l.toList ++ h.toList ++ mx.toList)
  | .mkfn _ a b => a ++ b
  | .call _ xs => xs
  | .callv x xs => x :: xs
def allC (σ : St) (b : Bool) : List AX → Prop
  | [] => True
  | x :: xs => (b = true → σ.c x = true) ∧ allC σ b xs
def guardV (σ : St) : Option (Nat × Bool) → Option Bool
  | none => some true
  | some (g, want) => match σ.env g with
    | some (c, .sc (.bool q)) => some (c && (if want then q else !q))
    | _ => none
def St.es (σ : St) : List AX → Option (List AV)
  | [] => some []
  | x :: xs => match σ.e x, σ.es xs with
    | some v, some vs => some (v :: vs)
    | _, _ => none
def target (σ : St) : AOp → Option (FuncId × List AV)
  | .call f xs => match σ.es xs with
    | some vs => some (f, vs)
    | none => none
  | .callv x xs => match σ.e x, σ.es xs with
    | some (.fn (.func f) first cap), some vs => some (f, first ++ vs ++ cap)
    | _, _ => none
  | _ => none
def AOp.isCall : AOp → Bool
  | .call .. | .callv .. => true
  | _ => false
def AOp.isPick : AOp → Bool
  | .pick .. => true
  | _ => false
inductive Does (P : Program) (o : AOper) (σ : St) : Bool → Res → Prop
  | op (b : Bool) (p : Prop) (r : Res) (d : Nat) (hg : guardV σ o.guard = some b) (hb : eval o.op σ.e σ.objs d = some (p, r))
      (hc : allC σ b o.op.ops) (hp : b = true → p) (hw : r.wr ≠ [] → b = true) : Does P o σ b r
  | pick (b : Bool) (c x y : AX) (q p1 p2 c1 c2 cc : Bool) (ho : o.op = .pick c x y) (hg : guardV σ o.guard = some b) (hq : σ.ev c = some (cc, .sc (.bool q)))
      (hx : q = true → σ.ev x = some (c1, .sc (.bool p1))) (hy : q = false → σ.ev y = some (c2, .sc (.bool p2)))
      (hc : b = true → cc = true ∧ (q = true → c1 = true) ∧ (q = false → c2 = true)) : Does P o σ b ⟨some (.sc (.bool (if q then p1 else p2))), []⟩
  | call (b : Bool) (f : FuncId) (avs : List AV) (r : Res) (hg : guardV σ o.guard = some b) (ht : target σ o.op = some (f, avs)) (hc : allC σ b o.op.ops)
      (hd : b = true → CallDoes P σ.objs f avs r) (hw : r.wr ≠ [] → b = true) : Does P o σ b r
  | skip (hg : guardV σ o.guard = some false) : Does P o σ false ⟨none, []⟩
def cxs : List Operand → Option (List AX)
  | [] => some []
  | x :: xs => match cx x, cxs xs with
    | some a, some l => some (a :: l)
    | _, _ => none
def partsOf (place : Nat → Option (Nat × Nat)) (parts : List (Nat × Operand)) : Option (List (Nat × Nat × AX)) :=
  parts.mapM fun p => match place p.1, cx p.2 with | some (o, s), some ax => some (o, s, ax) | _, _ => none
def zeroOf (P : Program) (t : TypeId) : Option Value := (P.info? t).bind (·.zero)
def cellsN (P : Program) (t : TypeId) : Option (Option Nat) :=
  match isAggB P t with
  | some false => some none
  | some true => match szOf P t with | some n => some (some n) | none => none
  | none => none
def intKindOf (P : Program) (t : TypeId) : Option IntKind :=
  match P.underlying t with
  | some (.int k) => some k
  | _ => none
def notTuple : Value → Bool
  | .tuple _ => false
  | _ => true
def boolCmp (P : Program) (op : BinOp) (t : TypeId) : Option Bool :=
  match P.underlying t, op with
  | some .bool, .eql => some false
  | some .bool, .neq => some true
  | _, _ => none
def strCmp (P : Program) (op : BinOp) (t : TypeId) : Option Bool :=
  match op, P.underlying t with
  | .eql, some .string => some false
  | .neq, some .string => some true
  | _, _ => none
theorem cxs_get : ∀ {l : List Operand} {al : List AX}, cxs l = some al → ∀ j : Nat, (l[j]?).map cx = (al[j]?).map some
  | [], al, h, j => by simp only [cxs, Option.some.injEq] at h; subst h; simp
  | x :: xs, al, h, j => by
    simp only [cxs] at h
    split at h
    · rename_i a l h1 h2
      simp only [Option.some.injEq] at h; subst h
      cases j with
      | zero => simp [h1]
      | succ j => simpa using cxs_get h2 j
    · cases h
theorem cxo_none {x : Option Operand} (h : cxo x = some none) : x = none := by
  cases x with
  | none => rfl
  | some x => simp [cxo] at h
def cop (P : Program) : Op → Option AOp
  | .move x | .assign x => match cx x with | some a => some (.mov a) | none => none
  | .pick c a b => match cx c, cx a, cx b with | some c, some a, some b => some (.pick c a b) | _, _, _ => none
  | .alloc t => match zeroOf P t with | some z => if z.cells.all Value.oneCell' then some (.alloc z.cells.toList) else none | none => none
  | .box _ x => match cx x with | some a => some (.box a) | none => none
  | .build t parts => match zeroOf P t, placesOf P t with
    | some z, some place => if z.cells.all Value.oneCell' then (match partsOf place parts.toList with | some ps => some (.build z.cells.toList ps) | none => none) else none
    | _, _ => none
  | .buildSlice t len parts => match P.underlying t with
    | some (.slice el) => match zeroOf P el, szOf P el with
      | some z, some size => if z.cells.size = size ∧ z.cells.all Value.oneCell' = true ∧ len * size ≤ 2 ^ 24 then
          (match partsOf (fun i => some (i * size, size)) parts.toList with
            | some ps => some (.bslice size len ((Array.range (len * size)).map (z.cells[· % z.cells.size]!)).toList ps)
            | none => none) else none
      | _, _ => none
    | _ => none
  | .load t x => match cellsN P t, cx x with | some n, some a => some (.load n a) | _, _ => none
  | .store t x y => match szOf P t, cx x, cx y with | some n, some a, some b => some (.store n a b) | _, _, _ => none
  | .binOp op t x y _ => match nilCmp P op t y with
    | some (kd, neg, _) => match cx x with | some a => some (.isnil kd neg a) | none => none
    | none => match cx x, cx y with
      | some a, some b => match boolCmp P op t with
        | some neg => some (.eqb neg a b)
        | none => match strCmp P op t with
          | some neg => some (.eqs neg a b)
          | none => match eqaShape P op t with
            | some sh => some (.eqa sh (isNeq op) a b)
            | none => some (.bin op a b)
      | _, _ => none
  | .index t x i => match P.underlying t, cx x, cx i with
    | some .string, some a, some b => some (.sidx a b)
    | some (.array len el), some a, some b => if szOf P el = some 1 ∧ isAggB P el = some false then some (.aidx len a b) else none
    | _, _, _ => none
  | .slice t x lo hi mx => match P.underlying t, cx x, cxo lo, cxo hi, cxo mx with
    | some (.slice el), some a, some l, some h, some q => match szOf P el with | some z => some (.slice z a l h q) | none => none
    | some (.array n el), some a, some none, some none, some none => match szOf P el with | some z => some (.aslice n z a) | none => none
    | _, _, _, _, _ => none
  | .makeFunc f first captured => match cxs first.toList, cxs captured.toList with
    | some a, some b => some (.mkfn f a b)
    | _, _ => none
  | .unOp op _ x => match cx x with | some a => some (.un op a) | none => none
  | .convert src dst x => match P.underlying src, intKindOf P dst, cx x with
    | some _, some k, some a => some (.convI k a)
    | some (.slice el), none, some a => match P.underlying el, P.underlying dst, szOf P el with
      | some (.int .u8), some .string, some 1 => some (.bstr a)
      | _, _, _ => none
    | _, _, _ => none
  | .fieldAddr s x f => match P.underlying s, cx x with
    | some (.struct fields), some a => match fields[f]? with
      | some fd => match szOf P fd.type with
        | some (_ + 1) => some (.faddr fd.offset a)
        | _ => none
      | none => none
    | _, _ => none
  | .field s x f => match P.underlying s, cx x with
    | some (.struct fields), some a => match fields[f]? with
      | some fd => match cellsN P fd.type with
        | some n => some (.fld fd.offset n a)
        | none => none
      | none => none
    | _, _ => none
  | .indexAddr t x i => match P.underlying t, cx x, cx i with
    | some (.slice el), some a, some b => match szOf P el with | some z => some (.iaddr z a b) | none => none
    | some (.array len el), some a, some b => match szOf P el with | some z => some (.aaddr len z a b) | none => none
    | _, _, _ => none
  | .extract x i => match cx x with | some a => some (.ext a i) | none => none
  | .nilCheck x => match cx x with | some a => some (.nilck a) | none => none
  | .makeSlice t l c => match P.underlying t with
    | some (.slice el) => match P.info? el, cx l, cx c with
      | some i, some a, some b => match i.zero with
        | some z => if z.cells.size = i.size ∧ z.cells.all Value.oneCell' = true then some (.mkslice i.size i.bytes z.cells.toList a b) else none
        | none => none
      | _, _, _ => none
    | _ => none
  | .makeMap t none => match P.underlying t with
    | some (.map kt _) => match intKindOf P kt with | some k => some (.mkmap k) | none => (match eqaShape P .eql kt with | some sh => if sh.all id then some (.mkmapS sh.length) else none | none => none)
    | _ => none
  | .lookup t x i ok => match P.underlying t, cx x, cx i with
    | some (.map kt el), some a, some b => match intKindOf P kt, zeroOf P el with
      | some k, some z => if z.cells.all Value.oneCell' = true ∧ notTuple z = true then some (.lookup k z ok a b) else none
      | none, some z => (match eqaShape P .eql kt with | some sh => if sh.all id ∧ z.cells.all Value.oneCell' = true ∧ notTuple z = true then some (.lookupS sh.length z ok a b) else none | none => none)
      | _, _ => none
    | _, _, _ => none
  | .mapUpdate t x i y => match P.underlying t, cx x, cx i, cx y with
    | some (.map kt _), some a, some b, some c => match intKindOf P kt with | some k => some (.mset k a b c) | none => (match eqaShape P .eql kt with | some sh => if sh.all id then some (.msetS sh.length a b c) else none | none => none)
    | _, _, _, _ => none
  | .call c => match c.callee, c.args.toList, c.argTypes.toList with
    | .builtin .len, [x], [t] => match P.underlying t, cx x with
      | some (.slice _), some a => some (.len a)
      | some (.map _ _), some a => some (.mlen a)
      | _, _ => none
    | .builtin .append, [x, y], [t, u] => match P.underlying t, cx x, cx y with
      | some (.slice el), some a, some b => match P.info? el with
        | some i => match i.zero with
          | some z => if t = u ∧ z.cells.size = i.size then some (.append i.size i.bytes a b) else
            if (intKindOf P u).isSome = true ∧ z.cells.size = i.size ∧ z.cells.all Value.oneCell' = true ∧ 0 < i.size then some (.appz i.size i.bytes z.cells.toList a b) else none
          | none => none
        | none => none
      | _, _, _ => none
    | .builtin .cap, [x], [t] => match P.underlying t, cx x with
      | some (.slice _), some a => some (.cap0 a)
      | _, _ => none
    | .builtin .copy, [x, y], [t, _] => match P.underlying t, cx x, cx y with
      | some (.slice el), some a, some b => match szOf P el with
        | some 1 => some (.copy a b)
        | _ => none
      | _, _, _ => none
    | .builtin .min, [x, y], _ => match cx x, cx y with | some a, some b => some (.minmax false a b) | _, _ => none
    | .builtin .max, [x, y], _ => match cx x, cx y with | some a, some b => some (.minmax true a b) | _, _ => none
    | .value (.func f), _, _ => match P.funcs[f]? with
      | some fn => if fn.body.isSome && fn.name != "runtime.NumGoroutine" then (match cxs c.args.toList with | some l => some (.call f l) | none => none) else none
      | none => none
    | .value x, _, _ => match cx x, cxs c.args.toList with | some a, some l => some (.callv a l) | _, _ => none
    | _, _, _ => none
  | _ => none
section
variable {P : Program} {G : Nat → Prop} {w : World} {ob : Place} {m : Nat → Option AObj}
theorem exec_builtin1 (ρ : Operand → Value) (b : Builtin) (x : Operand) (tys : Array TypeId) (dst : Option Tmp) (type : TypeId) (pos : String) (after : Array Edge) (guard : Option (Nat × Bool)) :
    ∃ cs, execOp ρ ⟨dst, .call ⟨.builtin b, ⟨[x]⟩, tys⟩, type, pos, after, guard⟩ = builtin b tys type cs #[ρ x] := ⟨_, by simp only [execOp, resolve, pure_bind, invoke, List.map_toArray, List.map_cons, List.map_nil]; rfl⟩
theorem exec_builtin2 (ρ : Operand → Value) (b : Builtin) (x y : Operand) (tys : Array TypeId) (dst : Option Tmp) (type : TypeId) (pos : String) (after : Array Edge) (guard : Option (Nat × Bool)) :
    ∃ cs, execOp ρ ⟨dst, .call ⟨.builtin b, ⟨[x, y]⟩, tys⟩, type, pos, after, guard⟩ = builtin b tys type cs #[ρ x, ρ y] := ⟨_, by simp only [execOp, resolve, pure_bind, invoke, List.map_toArray, List.map_cons, List.map_nil]; rfl⟩
theorem cop_ok {o : Oper} {aop : AOp} (h : cop P o.op = some aop) (hn : aop.isCall = false) (hk : aop.isPick = false)
    {ρ : Operand → Value} {e : AX → Option AV} {p : Prop} {r : Res} {d : Nat} (hkc : ∀ v, ρ (.const v) = v)
    (hs : SimO G w ob m) (he : OpRel G w ob ρ e) (hv : eval aop e m d = some (p, r)) (hp : p) : OpOk P G w ob m (execOp ρ o) r := by
  obtain ⟨dst, op, type, pos, after, guard⟩ := o
  simp only at h
  cases op <;> simp only [cop] at h
  case move x =>
    split at h <;> simp only [Option.some.injEq, reduceCtorEq] at h
    subst h; rename_i a hx
    simp only [execOp]
    exact ok_mov hs hx he hv
  case assign x =>
    split at h <;> simp only [Option.some.injEq, reduceCtorEq] at h
    subst h; rename_i a hx
    simp only [execOp]
    exact ok_mov hs hx he hv
  case pick => split at h <;> simp only [Option.some.injEq, reduceCtorEq] at h; subst h; simp [AOp.isPick] at hk
  case alloc t =>
    split at h
    case h_2 => cases h
    rename_i z hz
    split at h
    case isFalse => cases h
    simp only [Option.some.injEq] at h
    subst h; rename_i hone
    simp only [execOp]
    exact ok_alloc hz hone hs hv
  case box t x =>
    split at h <;> simp only [Option.some.injEq, reduceCtorEq] at h
    subst h; rename_i a hx
    simp only [execOp]
    exact ok_box hs hx he hv
  case build t parts =>
    split at h
    case h_2 => cases h
    rename_i z place hz hpl
    split at h
    case isFalse => cases h
    rename_i hone
    split at h
    case h_2 => cases h
    rename_i ps hps
    simp only [Option.some.injEq] at h
    subst h
    simp only [execOp]
    exact ok_build hz hone hpl hps hs he hv
  case buildSlice t len parts =>
    split at h
    case h_2 => cases h
    rename_i el ht
    split at h
    case h_2 => cases h
    rename_i z size hz hsz
    split at h
    case isFalse => cases h
    rename_i hc
    split at h
    case h_2 => cases h
    rename_i ps hps
    simp only [Option.some.injEq] at h
    subst h
    simp only [execOp]
    exact ok_bslice ht hz hsz hc.1 hc.2.1 hc.2.2 hps hs he hv hp
  case load t x =>
    split at h <;> simp only [Option.some.injEq, reduceCtorEq] at h
    subst h; rename_i n a hn' hx
    simp only [execOp]
    refine ok_load (t := t) ?_ hs hx he hv hp
    unfold cellsN at hn'
    split at hn'
    · simp only [Option.some.injEq] at hn'; subst hn'; assumption
    · rename_i hagg
      split at hn'
      · rename_i k hk'
        simp only [Option.some.injEq] at hn'; subst hn'; exact ⟨hagg, hk'⟩
      · cases hn'
    · cases hn'
  case store t x y =>
    split at h <;> simp only [Option.some.injEq, reduceCtorEq] at h
    subst h; rename_i n a b hn' hx hy
    simp only [execOp]
    exact ok_store hn' hs hx hy he hv hp
  case binOp op t x y ty =>
    split at h
    · rename_i kd neg v hnc
      split at h <;> simp only [Option.some.injEq, reduceCtorEq] at h
      subst h; rename_i a hx
      simp only [execOp]
      exact ok_isnil hnc (hkc v) hs hx he hv hp
    · split at h
      case h_2 => cases h
      rename_i a b hx hy
      split at h
      · rename_i neg hbc
        simp only [Option.some.injEq] at h
        subst h
        simp only [execOp]
        unfold boolCmp at hbc
        split at hbc <;> simp only [Option.some.injEq, reduceCtorEq] at hbc <;> subst hbc
        · exact ok_eqb (by assumption) (.inl ⟨rfl, rfl⟩) hs hx hy he hv
        · exact ok_eqb (by assumption) (.inr ⟨rfl, rfl⟩) hs hx hy he hv
      · split at h
        · rename_i neg hbc
          simp only [Option.some.injEq] at h
          subst h
          simp only [execOp]
          unfold strCmp at hbc
          split at hbc <;> simp only [Option.some.injEq, reduceCtorEq] at hbc <;> subst hbc
          · exact ok_eqs (by assumption) (.inl ⟨rfl, rfl⟩) hs hx hy he hv
          · exact ok_eqs (by assumption) (.inr ⟨rfl, rfl⟩) hs hx hy he hv
        split at h
        · rename_i sh hsh
          simp only [Option.some.injEq] at h
          subst h
          simp only [execOp]
          exact ok_eqa hsh hs hx hy he hv
        · simp only [Option.some.injEq] at h
          subst h
          simp only [execOp]
          exact ok_bin hs hx hy he hv hp
  case index t x i =>
    split at h
    · simp only [Option.some.injEq] at h
      subst h; rename_i a b ht hx hy
      simp only [execOp]
      exact ok_sidx ht hs hx hy he hv hp
    · rename_i len el a b ht hx hy
      split at h
      case isFalse => cases h
      rename_i hc
      simp only [Option.some.injEq] at h
      subst h
      simp only [execOp]
      exact ok_aidx ht hc.1 hc.2 hs hx hy he hv hp
    · cases h
  case slice t x lo hi mx =>
    split at h
    · rename_i el a l hh q ht hx hl hhi hmx
      split at h <;> simp only [Option.some.injEq, reduceCtorEq] at h
      subst h; rename_i z hz
      simp only [execOp]
      exact ok_slice ht hz hl hhi hmx hs hx he hv hp
    · rename_i n el a ht hx hl hhi hmx
      split at h <;> simp only [Option.some.injEq, reduceCtorEq] at h
      subst h; rename_i z hz
      obtain rfl := cxo_none hl
      obtain rfl := cxo_none hhi
      obtain rfl := cxo_none hmx
      simp only [execOp, Option.map_none]
      exact ok_aslice ht hz hs hx he hv hp
    · cases h
  case makeFunc f first captured =>
    split at h <;> simp only [Option.some.injEq, reduceCtorEq] at h
    subst h; rename_i a b h1 h2
    simp only [execOp]
    exact ok_mkfn (cxs_get h1) (cxs_get h2) hs he hv
  case unOp op t x =>
    split at h <;> simp only [Option.some.injEq, reduceCtorEq] at h
    subst h; rename_i a hx
    simp only [execOp]
    exact ok_un hs hx he hv
  case convert src dst x =>
    split at h
    · simp only [Option.some.injEq] at h
      subst h; rename_i ds k a hsrc hk' hx
      simp only [execOp]
      unfold intKindOf at hk'
      split at hk'
      · rename_i k'' hu
        simp only [Option.some.injEq] at hk'; subst hk'
        exact ok_convI hu ⟨_, hsrc⟩ hs hx he hv
      · cases hk'
    · rename_i el a hsrc hk' hx
      split at h <;> simp only [Option.some.injEq, reduceCtorEq] at h
      subst h; rename_i h1 h2 h3
      simp only [execOp]
      exact ok_bstr hsrc h1 h2 hs hx he hv hp
    · cases h
  case fieldAddr s x f =>
    split at h
    case h_2 => cases h
    rename_i fields a ht hx
    split at h
    case h_2 => cases h
    rename_i fd hf
    split at h
    case h_2 => cases h
    rename_i n hsz
    simp only [Option.some.injEq] at h
    subst h
    simp only [execOp]
    exact ok_faddr ht hf rfl ⟨n, hsz⟩ hs hx he hv
  case field s x f =>
    split at h
    case h_2 => cases h
    rename_i fields a ht hx
    split at h
    case h_2 => cases h
    rename_i fd hf
    split at h
    case h_2 => cases h
    rename_i n hn'
    simp only [Option.some.injEq] at h
    subst h
    simp only [execOp]
    refine ok_fld ht hf rfl ?_ hs hx he hv
    unfold cellsN at hn'
    split at hn'
    · simp only [Option.some.injEq] at hn'; subst hn'; assumption
    · rename_i hagg
      split at hn'
      · rename_i k hk'
        simp only [Option.some.injEq] at hn'; subst hn'; exact ⟨hagg, hk'⟩
      · cases hn'
    · cases hn'
  case indexAddr t x i =>
    split at h
    · rename_i el a b ht hx hy
      split at h <;> simp only [Option.some.injEq, reduceCtorEq] at h
      subst h; rename_i z hz
      simp only [execOp]
      exact ok_iaddr ht hz hs hx hy he hv hp
    · rename_i len el a b ht hx hy
      split at h <;> simp only [Option.some.injEq, reduceCtorEq] at h
      subst h; rename_i z hz
      simp only [execOp]
      exact ok_aaddr ht hz hs hx hy he hv hp
    · cases h
  case extract x i =>
    split at h <;> simp only [Option.some.injEq, reduceCtorEq] at h
    subst h; rename_i a hx
    simp only [execOp]
    exact ok_ext hs hx he hv
  case nilCheck x =>
    split at h <;> simp only [Option.some.injEq, reduceCtorEq] at h
    subst h; rename_i a hx
    exact ok_nilck rfl hs hx he hv
  case makeSlice t l c =>
    split at h
    case h_2 => cases h
    rename_i el ht
    split at h
    case h_2 => cases h
    rename_i i a b hi hx hy
    split at h
    case h_2 => cases h
    rename_i z hz
    split at h
    case isFalse => cases h
    rename_i hc
    simp only [Option.some.injEq] at h
    subst h
    simp only [execOp]
    exact ok_mkslice ht hi hz rfl rfl hc.1 hc.2 hs hx hy he hv hp
  case makeMap t rsv =>
    cases rsv with
    | some _ => simp only [reduceCtorEq] at h
    | none =>
      simp only at h
      split at h
      case h_2 => cases h
      split at h
      · simp only [Option.some.injEq] at h
        subst h
        simp only [execOp, Option.map_none]
        exact ok_mkmap hs hv
      · split at h
        case h_2 => cases h
        split at h
        case isFalse => cases h
        simp only [Option.some.injEq] at h
        subst h
        simp only [execOp, Option.map_none]
        exact ok_mkmapS hs hv
  case lookup t x i ok =>
    split at h
    case h_2 => cases h
    rename_i kt el a b ht hx hy
    split at h
    · rename_i k z hk' hz
      split at h
      case isFalse => cases h
      rename_i hc
      simp only [Option.some.injEq] at h
      subst h
      simp only [execOp]
      unfold intKindOf at hk'
      split at hk'
      · rename_i k'' hu
        simp only [Option.some.injEq] at hk'; subst hk'
        exact ok_lookup ht hu hz hc.1 (fun vs e => by rw [e] at hc; simp [notTuple] at hc) hs hx hy he hv
      · cases hk'
    · rename_i z hk' hz
      split at h
      case h_2 => cases h
      rename_i sh hsh
      split at h
      case isFalse => cases h
      rename_i hc
      simp only [Option.some.injEq] at h
      subst h
      simp only [execOp]
      exact ok_lookupS ht (by rw [hsh, all_true hc.1]; simp) hz hc.2.1 (fun vs e => by rw [e] at hc; simp [notTuple] at hc) hs hx hy he hv
    · cases h
  case mapUpdate t x i y =>
    split at h
    case h_2 => cases h
    rename_i kt el a b c ht hx hy hz
    split at h
    · simp only [Option.some.injEq] at h
      subst h; rename_i k hk'
      simp only [execOp]
      unfold intKindOf at hk'
      split at hk'
      · rename_i k'' hu
        simp only [Option.some.injEq] at hk'; subst hk'
        exact ok_mset ht hu hs hx hy hz he hv
      · cases hk'
    · split at h
      case h_2 => cases h
      rename_i sh hsh
      split at h
      case isFalse => cases h
      rename_i hc
      simp only [Option.some.injEq] at h
      subst h
      simp only [execOp]
      exact ok_msetS ht (by rw [hsh, all_true hc]; simp) hs hx hy hz he hv
  case call c =>
    obtain ⟨callee, args, argTypes⟩ := c
    obtain ⟨args⟩ := args
    obtain ⟨argTypes⟩ := argTypes
    simp only at h
    split at h
    · -- len
      rename_i x t
      obtain ⟨bs, hrun⟩ := exec_builtin1 ρ .len x ⟨[t]⟩ dst type pos after guard
      rw [hrun]
      split at h <;> simp only [Option.some.injEq, reduceCtorEq] at h
      · subst h; rename_i el a ht hx
        exact ok_len ht hs hx he hv
      · subst h; rename_i kt el a ht hx
        exact ok_mlen ht hs hx he hv
    · -- append
      rename_i x y t u
      obtain ⟨bs, hrun⟩ := exec_builtin2 ρ .append x y ⟨[t, u]⟩ dst type pos after guard
      rw [hrun]
      split at h
      case h_2 => cases h
      rename_i el a b ht hx hy
      split at h
      case h_2 => cases h
      rename_i i hi
      split at h
      case h_2 => cases h
      rename_i z hz
      split at h
      · rename_i hc
        simp only [Option.some.injEq] at h
        subst h
        obtain ⟨rfl, hzs⟩ := hc
        exact ok_append ht hi hz rfl rfl hzs hs hx hy he hv hp
      · split at h
        case isFalse => cases h
        rename_i hc
        simp only [Option.some.injEq] at h
        subst h
        obtain ⟨hk, hzs, hone, hpos⟩ := hc
        obtain ⟨k, hk⟩ : ∃ k, P.underlying u = some (.int k) := by
          unfold intKindOf at hk
          split at hk
          · exact ⟨_, by assumption⟩
          · cases hk
        exact ok_appz ht hk hi hz rfl rfl hzs hone hpos hs hx hy he hv hp
    · -- cap
      rename_i x t
      obtain ⟨bs, hrun⟩ := exec_builtin1 ρ .cap x ⟨[t]⟩ dst type pos after guard
      rw [hrun]
      split at h <;> simp only [Option.some.injEq, reduceCtorEq] at h
      subst h; rename_i el a ht hx
      exact ok_cap0 ht hs hx he hv
    · -- copy
      rename_i x y t u
      obtain ⟨bs, hrun⟩ := exec_builtin2 ρ .copy x y ⟨[t, u]⟩ dst type pos after guard
      rw [hrun]
      split at h
      case h_2 => cases h
      rename_i el a b ht hx hy
      split at h <;> simp only [Option.some.injEq, reduceCtorEq] at h
      subst h; rename_i hz
      exact ok_copy ht hz hs hx hy he hv hp
    · obtain ⟨bs, hrun⟩ := exec_builtin2 ρ .min _ _ ⟨argTypes⟩ dst type pos after guard
      rw [hrun]
      split at h <;> simp only [Option.some.injEq, reduceCtorEq] at h
      subst h; rename_i a b hx hy
      exact ok_minmax (isMax := false) hs hx hy he hv
    · obtain ⟨bs, hrun⟩ := exec_builtin2 ρ .max _ _ ⟨argTypes⟩ dst type pos after guard
      rw [hrun]
      split at h <;> simp only [Option.some.injEq, reduceCtorEq] at h
      subst h; rename_i a b hx hy
      exact ok_minmax (isMax := true) hs hx hy he hv
    · split at h
      case h_2 => cases h
      split at h
      case isFalse => cases h
      split at h <;> simp only [Option.some.injEq, reduceCtorEq] at h
      subst h; simp [AOp.isCall] at hn
    · split at h <;> simp only [Option.some.injEq, reduceCtorEq] at h
      subst h; simp [AOp.isCall] at hn
    · cases h
  all_goals cases h
end
end Go.Abs
end
section
namespace Go.Abs
structure Sim (N : Nat) (σ : St) (a : Act) (w : World) (ob : Place) (G : Nat → Prop) : Prop where
  size : a.tmps.size = N
  defers : a.defers = []
  objs : SimO G w ob σ.objs
  env : ∀ t av, σ.env t = some (true, av) → ∃ v, a.tmps[t]? = some v ∧ Rel G w ob av v
  env0 : ∀ t av, σ.env t = some (false, av) → a.tmps[t]? = some undef
def dstOk (N : Nat) : Option Nat → Bool
  | some d => decide (d < N)
  | none => true
def copB (P : Program) (op : Op) : AOp := match cop P op with | some a => a | none => .bad
def coper (P : Program) (N : Nat) (ops : Array Oper) (o : Oper) : Option AOper :=
  match some (copB P o.op) with
  | some aop =>
    if dstOk N o.dst then
      match o.guard with
      | none => some ⟨o.dst, aop, none, []⟩
      | some (j, want) => match (ops[j]?).bind (·.dst) with
        | some g => some ⟨o.dst, aop, some (g, want), []⟩
        | none => none
    else none
  | none => none
theorem fillA_congr {e e' : AX → Option AV} : ∀ (ps : List (Nat × Nat × AX)) (cs : List AV), (∀ x ∈ ps.map (·.2.2), e x = e' x) → fillA e cs ps = fillA e' cs ps
  | [], cs, _ => rfl
  | (o, s, x) :: ps, cs, h => by
    have hx : e x = e' x := h x (by simp)
    have ih := fun cs => fillA_congr ps cs (fun x hx => h x (by simp only [List.map_cons, List.mem_cons]; exact .inr hx))
    simp only [fillA, hx, ih]
theorem optI_congr {e e' : AX → Option AV} {o : Option AX} (h : ∀ x ∈ o.toList, e x = e' x) : optI e o = optI e' o := by
  cases o with
  | none => rfl
  | some x => simp only [optI, h x (by simp)]
theorem esL_congr {e e' : AX → Option AV} : ∀ (l : List AX), (∀ x ∈ l, e x = e' x) → esL e l = esL e' l
  | [], _ => rfl
  | x :: l, h => by simp only [esL, h x (by simp), esL_congr l fun y hy => h y (by simp [hy])]
theorem eval_congr {op : AOp} {e e' : AX → Option AV} {m : Nat → Option AObj} {d : Nat} (h : ∀ x ∈ op.ops, e x = e' x) : eval op e m d = eval op e' m d := by
  cases op <;> simp only [AOp.ops, List.mem_cons, List.not_mem_nil, or_false, forall_eq_or_imp, forall_eq, false_implies, implies_true] at h <;> simp only [eval]
  case build z ps => rw [fillA_congr ps _ h]
  case bslice z ps => rw [fillA_congr _ _ h]
  case slice z x lo hi mx =>
    have h1 := optI_congr (e := e) (e' := e') (o := lo) fun x hx => h.2 x (by simp only [List.mem_append]; exact .inl (.inl hx))
    have h2 := optI_congr (e := e) (e' := e') (o := hi) fun x hx => h.2 x (by simp only [List.mem_append]; exact .inl (.inr hx))
    have h3 := optI_congr (e := e) (e' := e') (o := mx) fun x hx => h.2 x (by simp only [List.mem_append]; exact .inr hx)
    simp only [h.1, h1, h2, h3]
  case mkfn f a b =>
    rw [esL_congr a fun x hx => h x (by simp [hx]), esL_congr b fun x hx => h x (by simp [hx])]
  all_goals first
    | rfl
    | (simp only [h]; done)
    | (obtain ⟨h1, h2⟩ := h; simp only [h1, h2]; done)
    | (obtain ⟨h1, h2, h3⟩ := h; simp only [h1, h2, h3]; done)
section
variable {P : Program} {G : Nat → Prop} {w : World} {ob : Place} {N : Nat} {σ : St} {a : Act}
def St.e' (σ : St) (x : AX) : Option AV := match σ.ev x with | some (true, v) => some v | _ => none
theorem allC_spec : ∀ {l : List AX}, allC σ true l → ∀ x ∈ l, σ.c x = true
  | [], _, x, h => by cases h
  | y :: l, hc, x, h => by
    rcases List.mem_cons.1 h with rfl | h
    · exact hc.1 rfl
    · exact allC_spec hc.2 x h
theorem e_eq_e' {x : AX} (h : σ.c x = true) : σ.e x = σ.e' x := by
  unfold St.c at h; unfold St.e St.e'
  cases hx : σ.ev x with
  | none => rfl
  | some p => obtain ⟨c, v⟩ := p; rw [hx] at h; simp only at h; subst h; rfl
theorem constAV_ok {v : Value} {av : AV} (h : constAV v = some av) : Rel G w ob av v := by
  cases v with
  | agg cs =>
    simp only [constAV] at h
    split at h
    · rename_i hone
      simp only [Option.some.injEq] at h
      subst h
      have := arr_rel (G := G) (w := w) (ob := ob) (Z := cs) hone
      exact .agg cs this.1 this.2.1 this.2.2
    · cases h
  | tuple vs => simp [constAV] at h
  | _ => simp only [constAV, Option.some.injEq] at h; subst h; exact .sc rfl
theorem Sim.opRel (hs : Sim N σ a w ob G) : OpRel G w ob a.eval σ.e' := by
  intro x ax av hx he
  cases x with
  | tmp t =>
    simp only [cx, Option.some.injEq] at hx
    subst hx
    simp only [St.e', St.ev] at he
    split at he
    · rename_i v hv
      simp only [Option.some.injEq] at he
      subst he
      obtain ⟨u, h1, h2⟩ := hs.env t v hv
      simp only [Act.eval]
      rw [getD_of h1]; exact h2
    · cases he
  | const v =>
    simp only [cx, Option.map_eq_some_iff] at hx
    obtain ⟨c, hc, rfl⟩ := hx
    simp only [St.e', St.ev, Option.some.injEq] at he
    subst he
    exact constAV_ok hc
  | func f =>
    simp only [cx, Option.some.injEq] at hx
    subst hx
    simp only [St.e', St.ev, Option.some.injEq] at he
    subst he
    exact .fn #[] #[] rfl rfl (fun j av h => by simp at h) (fun j av h => by simp at h)
  | global g => simp [cx] at hx
theorem Sim.put_true {a : Act} {w' : World} {ob' : Place} {G' : Nat → Prop} (hs : Sim N σ a w ob G) {dst : Option Nat} {r : Res} {v : Value}
    (hd : match dst with | some d => d < N | none => True)
    (ho : SimO G' w' ob' (wrm σ.objs r.wr)) (hr : ∀ av, r.val = some av → Rel G' w' ob' av v) (hob : OBext ob ob') (hfr : Fr G w ob G' w' ob') :
    Sim N (σ.put dst true r) (a.put dst v) w' ob' G' := by
  have hold : ∀ av v, Rel G w ob av v → Rel G' w' ob' av v := fun av v h => h.ext hfr.sub (fun b hb => hfr.same b (hs.objs.lt b hb) (.inl hb)) hob
  cases dst with
  | none => exact ⟨hs.size, hs.defers, ho, fun t av ht => let ⟨u, h1, h2⟩ := hs.env t av ht; ⟨u, h1, hold av u h2⟩, hs.env0⟩
  | some d =>
    refine ⟨by simp [Act.put, hs.size], hs.defers, ho, fun t av ht => ?_, fun t av ht => ?_⟩
    rotate_left
    · simp only [St.put] at ht
      by_cases htd : t = d
      · subst htd
        rw [upd_same] at ht
        cases hv : r.val <;> simp [hv] at ht
      · rw [upd_ne htd] at ht
        simp only [Act.put]; rw [Array.getElem?_setIfInBounds_ne (fun e => htd e.symm)]; exact hs.env0 t av ht
    simp only [St.put] at ht
    by_cases htd : t = d
    · subst htd
      rw [upd_same] at ht
      cases hv : r.val with
      | none => simp [hv] at ht
      | some av' =>
        simp only [hv, Option.some.injEq, Prod.mk.injEq, true_and] at ht
        subst ht
        have hlt : t < a.tmps.size := by rw [hs.size]; exact hd
        exact ⟨v, by simp [Act.put, hlt], hr av' hv⟩
    · rw [upd_ne htd] at ht
      obtain ⟨u, h1, h2⟩ := hs.env t av ht
      exact ⟨u, by simp only [Act.put]; rw [Array.getElem?_setIfInBounds_ne (fun e => htd e.symm)]; exact h1, hold av u h2⟩
theorem Sim.put_false (hs : Sim N σ a w ob G) {dst : Option Nat} {r : Res} (hd : match dst with | some d => d < N | none => True) (hw : r.wr = []) : Sim N (σ.put dst false r) (a.put dst undef) w ob G := by
  have ho : SimO G w ob (σ.put dst false r).objs := by simp only [St.put, hw]; exact hs.objs
  cases dst with
  | none => exact ⟨hs.size, hs.defers, ho, hs.env, hs.env0⟩
  | some d =>
    refine ⟨by simp [Act.put, hs.size], hs.defers, ho, fun t av ht => ?_, fun t av ht => ?_⟩
    rotate_left
    · simp only [St.put] at ht
      by_cases htd : t = d
      · subst htd
        have hlt : t < a.tmps.size := by rw [hs.size]; exact hd
        simp [Act.put, hlt]
      · rw [upd_ne htd] at ht
        simp only [Act.put]; rw [Array.getElem?_setIfInBounds_ne (fun e => htd e.symm)]; exact hs.env0 t av ht
    simp only [St.put] at ht
    by_cases htd : t = d
    · subst htd
      rw [upd_same] at ht
      cases hv : r.val <;> simp [hv] at ht
    · rw [upd_ne htd] at ht
      obtain ⟨u, h1, h2⟩ := hs.env t av ht
      exact ⟨u, by simp only [Act.put]; rw [Array.getElem?_setIfInBounds_ne (fun e => htd e.symm)]; exact h1, h2⟩
theorem cxs_spec : ∀ {l : List Operand} {al : List AX}, cxs l = some al → al.length = l.length ∧ ∀ (j : Nat) (x : Operand), l[j]? = some x → ∃ ax, al[j]? = some ax ∧ cx x = some ax
  | [], al, h => by simp only [cxs, Option.some.injEq] at h; subst h; exact ⟨rfl, fun j x h => by simp at h⟩
  | x :: l, al, h => by
    simp only [cxs] at h
    split at h
    · rename_i a al' h1 h2
      simp only [Option.some.injEq] at h
      subst h
      obtain ⟨h3, h4⟩ := cxs_spec h2
      refine ⟨by simp [h3], fun j y hj => ?_⟩
      cases j with
      | zero => simp only [List.getElem?_cons_zero, Option.some.injEq] at hj; subst hj; exact ⟨a, rfl, h1⟩
      | succ j => simp only [List.getElem?_cons_succ] at hj; exact h4 j y hj
    · cases h
theorem es_spec : ∀ {l : List AX} {vs : List AV}, σ.es l = some vs → vs.length = l.length ∧ ∀ (j : Nat) (av : AV), vs[j]? = some av → ∃ x, l[j]? = some x ∧ σ.e x = some av
  | [], vs, h => by simp only [St.es, Option.some.injEq] at h; subst h; exact ⟨rfl, fun j av h => by simp at h⟩
  | x :: l, vs, h => by
    simp only [St.es] at h
    split at h
    · rename_i v vs' h1 h2
      simp only [Option.some.injEq] at h
      subst h
      obtain ⟨h3, h4⟩ := es_spec h2
      refine ⟨by simp [h3], fun j y hj => ?_⟩
      cases j with
      | zero => simp only [List.getElem?_cons_zero, Option.some.injEq] at hj; subst hj; exact ⟨x, rfl, h1⟩
      | succ j => simp only [List.getElem?_cons_succ] at hj; exact h4 j y hj
    · cases h
theorem args_rel (hs : Sim N σ a w ob G) {l : List Operand} {al : List AX} {vs : List AV} (hc : cxs l = some al) (he : σ.es al = some vs) (hcc : ∀ x ∈ al, σ.c x = true) :
    RelL G w ob vs (l.map a.eval) := by
  obtain ⟨h1, h2⟩ := cxs_spec hc
  obtain ⟨h3, h4⟩ := es_spec he
  refine ⟨by simp [h1, h3], fun j av hj => ?_⟩
  obtain ⟨ax, h5, h6⟩ := h4 j av hj
  have hjl : j < l.length := by
    rw [← h1]; rcases Nat.lt_or_ge j al.length with h | h
    · exact h
    · rw [List.getElem?_eq_none h] at h5; cases h5
  obtain ⟨ax', h7, h8⟩ := h2 j l[j] (List.getElem?_eq_getElem hjl)
  rw [h5] at h7; injection h7 with h7; subst h7
  have := hs.opRel l[j] ax av h8 (by rw [← e_eq_e' (hcc ax (List.mem_of_getElem? h5))]; exact h6)
  simpa [List.getD, List.getElem?_eq_getElem hjl] using this
theorem relL_append {xs ys : List AV} {us vs : List Value} (h1 : RelL G w ob xs us) (h2 : RelL G w ob ys vs) : RelL G w ob (xs ++ ys) (us ++ vs) := by
  refine ⟨by simp [h1.1, h2.1], fun j av hj => ?_⟩
  by_cases hjl : j < xs.length
  · rw [List.getElem?_append_left hjl] at hj
    have := h1.2 j av hj
    simpa [List.getD, List.getElem?_append_left (show j < us.length by rw [h1.1]; exact hjl)] using this
  · rw [List.getElem?_append_right (by omega)] at hj
    have := h2.2 _ av hj
    simpa [List.getD, List.getElem?_append_right (show us.length ≤ j by rw [h1.1]; omega), h1.1] using this
theorem run_callFunc {f : FuncId} (h : callableB P f = true) (args : Array Value) : (callFunc f args).run P w = .ok (.enter f args) w := by
  unfold callableB at h
  unfold callFunc
  cases hf : P.funcs[f]? with
  | none => simp [hf] at h
  | some fn =>
    simp only [hf, Bool.and_eq_true, bne_iff_ne, ne_eq] at h
    obtain ⟨c, hc⟩ := Option.isSome_iff_exists.1 h.1
    have hn := h.2
    simp [hf, hc, hn]
theorem guard_wanted {ops : Array Oper} {o : Oper} {ao : AOper} (hs : Sim N σ a w ob G) (hc : coper P N ops o = some ao) {b : Bool} (hg : guardV σ ao.guard = some b) :
    Region.wanted o (yielded ops a.tmps) = b := by
  unfold coper at hc
  split at hc
  case h_2 => cases hc
  split at hc
  case isFalse => cases hc
  split at hc
  · rename_i hgd
    simp only [Option.some.injEq] at hc
    subst hc
    simp only [guardV, Option.some.injEq] at hg
    subst hg
    simp [Region.wanted, hgd]
  · rename_i j want hgd
    split at hc
    case h_2 => cases hc
    rename_i g hdst
    simp only [Option.some.injEq] at hc
    subst hc
    simp only [guardV] at hg
    split at hg
    case h_2 => cases hg
    rename_i c q hq
    simp only [Option.some.injEq] at hg
    subst hg
    cases c with
    | true =>
      obtain ⟨v, h1, h2⟩ := hs.env g _ hq
      have hv := h2.sc_eq
      subst hv
      simp only [Region.wanted, hgd, yielded, hdst, Option.bind_some, h1]
      cases q <;> cases want <;> rfl
    | false =>
      have h1 := hs.env0 g _ hq
      simp only [Region.wanted, hgd, yielded, hdst, Option.bind_some, h1, undef, Bool.false_and]
      rfl
theorem coper_parts {ops : Array Oper} {o : Oper} {ao : AOper} (hc : coper P N ops o = some ao) : copB P o.op = ao.op ∧ ao.dst = o.dst ∧ (match o.dst with | some d => d < N | none => True) := by
  unfold coper at hc
  split at hc
  case h_2 => cases hc
  rename_i aop hop
  split at hc
  case isFalse => cases hc
  rename_i hd
  have hdd : (match o.dst with | some d => d < N | none => True) := by
    cases ho : o.dst with
    | none => trivial
    | some d => rw [ho] at hd; simpa [dstOk] using hd
  split at hc
  · simp only [Option.some.injEq] at hc; subst hc; exact ⟨Option.some.inj hop, rfl, hdd⟩
  · split at hc
    · simp only [Option.some.injEq] at hc; subst hc; exact ⟨Option.some.inj hop, rfl, hdd⟩
    · cases hc
theorem cop_kind {op : Op} {aop : AOp} (h : cop P op = some aop) : (aop.isPick = true → ∃ c x y, op = .pick c x y) ∧ (aop.isCall = true → ∃ c, op = .call c) := by
  cases op <;> simp only [cop] at h
  case makeMap t rsv =>
    cases rsv <;> simp only at h
    · (repeat' split at h) <;> simp only [Option.some.injEq, reduceCtorEq] at h <;>
        (subst h; exact ⟨fun h => by simp [AOp.isPick] at h, fun h => by simp [AOp.isCall] at h⟩)
    · cases h
  case pick c x y =>
    refine ⟨fun _ => ⟨c, x, y, rfl⟩, fun hc => ?_⟩
    split at h <;> simp only [Option.some.injEq, reduceCtorEq] at h
    subst h; simp [AOp.isCall] at hc
  case call c =>
    refine ⟨fun hp => ?_, fun _ => ⟨c, rfl⟩⟩
    (repeat' split at h) <;> simp only [Option.some.injEq, reduceCtorEq] at h <;> subst h <;> simp [AOp.isPick] at hp
  all_goals first
    | (cases h; done)
    | ((repeat' split at h) <;> first
        | (cases h; done)
        | (simp only [Option.some.injEq] at h; subst h; exact ⟨fun h => by simp [AOp.isPick] at h, fun h => by simp [AOp.isCall] at h⟩))
theorem target_isCall {op : AOp} {f : FuncId} {avs : List AV} (h : target σ op = some (f, avs)) : op.isCall = true := by
  cases op <;> first | rfl | (simp [target] at h; done)
theorem does_ok {ops : Array Oper} {o : Oper} {ao : AOper} (hc : coper P N ops o = some ao) (hs : Sim N σ a w ob G) {b : Bool} {r : Res} (hd : Does P ao σ b r)
    {K : Act → World → Prop} {Q : Exit → Act → World → Prop}
    (hK : ∀ a' w' ob' G', Sim N (σ.put ao.dst b r) a' w' ob' G' → Fr G w ob G' w' ob' → OBext ob ob' → K a' w') :
    if Region.wanted o (yielded ops a.tmps) then o.wp P a w K Q else K (a.put o.dst undef) w := by
  obtain ⟨hop, hdst, hdN⟩ := coper_parts hc
  have hwr : r.wr ≠ [] → b = true := by cases hd <;> first | assumption | simp
  have hgv : guardV σ ao.guard = some b := by cases hd <;> assumption
  rw [guard_wanted hs hc hgv]
  cases b with
  | false =>
    rw [if_neg (by simp)]
    have hw : r.wr = [] := by
      cases h : r.wr with
      | nil => rfl
      | cons x l => have := hwr (by rw [h]; simp); cases this
    rw [← hdst]
    exact hK _ w ob G (hs.put_false (hdst ▸ hdN) hw) (Fr.refl G w ob) (OBext.refl ob)
  | true =>
    rw [if_pos rfl]
    have fin : OpOk P G w ob σ.objs (execOp a.eval o) r → o.wp P a w K Q := by
      rintro ⟨G', w', ob', v, hrun, h1, h2, h3, h4⟩
      have hsim := hs.put_true (dst := o.dst) (r := r) (v := v) hdN h1 h2 h3 h4
      rw [← hdst] at hsim
      unfold Oper.wp
      rcases hrun with hrun | ⟨hrun, rfl⟩
      · rw [hrun]; simp only [Oper.upon]; rw [← hdst]; exact hK _ w' ob' G' hsim h4 h3
      · rw [hrun]; simp only [Oper.upon]; rw [← hdst]; exact hK _ w' ob' G' hsim h4 h3
    have hop' : cop P o.op = some ao.op := by
      unfold copB at hop
      split at hop
      · rename_i a ha; rw [ha, hop]
      · exfalso
        cases hd with
        | op _ p r d hg hb hcc hp hw => rw [← hop] at hb; simp [eval] at hb
        | pick _ c x y q p1 p2 c1 c2 cc ho => rw [← hop] at ho; cases ho
        | call _ f avs r hg ht => rw [← hop] at ht; simp [target] at ht
    replace hop := hop'
    cases hd with
    | op _ p r d hg hb hcc hp hw =>
      have hcc' := allC_spec hcc
      have hb' : eval ao.op σ.e' σ.objs d = some (p, r) := by
        rw [← eval_congr (fun x hx => e_eq_e' (hcc' x hx))]; exact hb
      refine fin (cop_ok hop ?_ ?_ (fun _ => rfl) hs.objs hs.opRel hb' (hp rfl))
      · cases hao : ao.op <;> simp_all [eval, AOp.isCall]
      · cases hao : ao.op <;> simp_all [eval, AOp.isPick]
    | pick _ c x y q p1 p2 c1 c2 cc ho hg hq hx hy hcc =>
      obtain ⟨hct, hc1, hc2⟩ := hcc rfl
      rw [ho] at hop
      obtain ⟨dst, op, type, pos, after, guard⟩ := o
      -- the model's operation is the pick itself
      have key : ∃ c' x' y', op = .pick c' x' y' ∧ cx c' = some c ∧ cx x' = some x ∧ cx y' = some y := by
        simp only at hop
        obtain ⟨c', x', y', rfl⟩ := (cop_kind hop).1 rfl
        simp only [cop] at hop
        split at hop
        · rename_i h1 h2 h3
          simp only [Option.some.injEq, AOp.pick.injEq] at hop
          obtain ⟨rfl, rfl, rfl⟩ := hop
          exact ⟨c', x', y', rfl, h1, h2, h3⟩
        · cases hop
      obtain ⟨c', x', y', rfl, h1, h2, h3⟩ := key
      have hcv : a.eval c' = .bool q := (hs.opRel c' c (.sc (.bool q)) h1 (by simp [St.e', hq, hct])).sc_eq
      refine fin (OpOk.quiet hs.objs (v := .bool (if q then p1 else p2)) ?_ (.sc rfl))
      cases q with
      | true =>
        have hxv : a.eval x' = .bool p1 := (hs.opRel x' x (.sc (.bool p1)) h2 (by simp [St.e', hx rfl, hc1 rfl])).sc_eq
        simp [execOp, hcv, hxv, asBool]
      | false =>
        have hyv : a.eval y' = .bool p2 := (hs.opRel y' y (.sc (.bool p2)) h3 (by simp [St.e', hy rfl, hc2 rfl])).sc_eq
        simp [execOp, hcv, hyv, asBool]
    | call _ f avs r hg ht hcc hdd hw =>
      have hcd := hdd rfl
      have hcc' := allC_spec hcc
      obtain ⟨dst, op, type, pos, after, guard⟩ := o
      have key : ∃ vals : List Value, (execOp a.eval ⟨dst, op, type, pos, after, guard⟩).run P w = .ok (.enter f vals.toArray) w ∧ RelL G w ob avs vals := by
        simp only at hop
        have hcall := hcd.callable
        obtain ⟨cl, rfl⟩ := (cop_kind hop).2 (target_isCall ht)
        simp only [cop] at hop
        obtain ⟨callee, args, argTypes⟩ := cl
        obtain ⟨args⟩ := args
        obtain ⟨argTypes⟩ := argTypes
        simp only at hop
        split at hop
        · exfalso; split at hop <;> simp only [Option.some.injEq, reduceCtorEq] at hop <;> (rw [← hop] at ht; simp [target] at ht)
        · exfalso
          split at hop
          · split at hop
            · split at hop
              · split at hop
                · simp only [Option.some.injEq] at hop; rw [← hop] at ht; simp [target] at ht
                · split at hop
                  · simp only [Option.some.injEq] at hop; rw [← hop] at ht; simp [target] at ht
                  · cases hop
              · cases hop
            · cases hop
          · cases hop
        · exfalso; split at hop <;> simp only [Option.some.injEq, reduceCtorEq] at hop; rw [← hop] at ht; simp [target] at ht
        · exfalso
          split at hop
          · split at hop <;> simp only [Option.some.injEq, reduceCtorEq] at hop
            rw [← hop] at ht; simp [target] at ht
          · cases hop
        · exfalso; split at hop <;> simp only [Option.some.injEq, reduceCtorEq] at hop; rw [← hop] at ht; simp [target] at ht
        · exfalso; split at hop <;> simp only [Option.some.injEq, reduceCtorEq] at hop; rw [← hop] at ht; simp [target] at ht
        · -- a call by name
          split at hop
          case h_2 => cases hop
          split at hop
          case isFalse => cases hop
          split at hop
          case h_2 => cases hop
          rename_i al hal
          simp only [Option.some.injEq] at hop
          rw [← hop] at ht hcc'
          simp only [target] at ht
          split at ht
          case h_2 => cases ht
          rename_i vs hvs
          simp only [Option.some.injEq, Prod.mk.injEq] at ht
          obtain ⟨rfl, rfl⟩ := ht
          refine ⟨args.map a.eval, ?_, args_rel hs hal hvs hcc'⟩
          simp [execOp, resolve, Act.eval, Deferred.ofValue, invoke, run_callFunc hcall]
        · -- a call through a value
          rename_i x _
          split at hop
          case h_2 => cases hop
          rename_i ax al hax hal
          simp only [Option.some.injEq] at hop
          rw [← hop] at ht hcc'
          simp only [target] at ht
          split at ht
          case h_2 => cases ht
          rename_i f' first cap vs hfv hvs
          simp only [Option.some.injEq, Prod.mk.injEq] at ht
          obtain ⟨rfl, rfl⟩ := ht
          have hxr := hs.opRel x ax _ hax (by rw [← e_eq_e' (hcc' ax (by simp [AOp.ops]))]; exact hfv)
          have har := args_rel hs hal hvs (fun x hx => hcc' x (by simp [AOp.ops, hx]))
          generalize hxv : a.eval x = xv at hxr
          cases hxr with
          | fn fs us hn hm hr hq =>
            refine ⟨fs.toList ++ args.map a.eval ++ us.toList, ?_, relL_append (relL_append ⟨by simp [hn], fun j av hj => by simpa using hr j av hj⟩ har) ⟨by simp [hm], fun j av hj => by simpa using hq j av hj⟩⟩
            simp [execOp, resolve, hxv, Deferred.ofValue, invoke, run_callFunc hcall]
        · cases hop
      obtain ⟨vals, hrun, hrel⟩ := key
      unfold Oper.wp
      rw [hrun]
      simp only [Oper.upon]
      refine (callDoes_ok hcd hs.objs hrel).mono ?_
      rintro e w' ⟨v, G', ob', rfl, h1, h2, h3, h4⟩
      have hsim := hs.put_true (dst := dst) (r := r) (v := v) hdN h1 h2 h3 h4
      simp only at hdst
      rw [← hdst] at hsim ⊢
      exact hK _ w' ob' G' hsim h4 h3
end
end Go.Abs
end
section
namespace Go.Abs
def AOp.mayWrite : AOp → Bool
  | .alloc _ | .box _ | .bslice .. | .store .. | .append .. | .mkslice .. | .mkmap _ | .mset .. | .mkmapS _ | .msetS .. | .aslice .. | .copy .. | .appz .. | .call .. | .callv .. => true
  | _ => false
def AOp.touches : AOp → Bool
  | .load .. | .iaddr .. | .mlen _ | .lookup .. | .lookupS .. | .isnil .. | .slice .. | .bstr .. => true
  | op => op.mayWrite
def foot (σ : St) (o : AOper) : List Nat :=
  if o.op.touches then o.op.ops.flatMap (fun x => match σ.e x with | some v => v.ids | none => []) else []
def keys (r : Res) : List Nat := r.wr.map (·.1)
section
variable {P : Program}
theorem mem_foot {σ : St} {o : AOper} {x : AX} {v : AV} (ht : o.op.touches = true) (hx : x ∈ o.op.ops) (hv : σ.e x = some v) {i : Nat} (hi : i ∈ v.ids) : i ∈ foot σ o := by
  unfold foot
  rw [if_pos ht, List.mem_flatMap]
  exact ⟨x, hx, by rw [hv]; exact hi⟩
mutual
theorem freezeCell_m {m m' : Nat → Option AObj} : ∀ {c : AV}, (∀ i ∈ c.ids, m i = m' i) → freezeCell m c = freezeCell m' c
  | .sl id off len tot, h => by simp only [freezeCell]; rw [h id (by simp [AV.ids])]
  | .ptr id k o tot, h => by simp only [freezeCell]; rw [h id (by simp [AV.ids])]
  | .fn f a b, h => by
    simp only [freezeCell]
    rw [freezeL_m (cs := a) (fun i hi => h i (by simp [AV.ids, hi])), freezeL_m (cs := b) (fun i hi => h i (by simp [AV.ids, hi]))]
  | .sc _, _ => rfl
  | .dsl .., _ => rfl
  | .dslx .., _ => rfl
  | .fptr _, _ => rfl
  | .mp _, _ => rfl
  | .agg _, _ => rfl
  | .tup _, _ => rfl
  | .own .., _ => rfl
  | .hole, _ => rfl

theorem freezeL_m {m m' : Nat → Option AObj} : ∀ {cs : List AV}, (∀ i ∈ idsL cs, m i = m' i) → freezeL m cs = freezeL m' cs
  | [], _ => rfl
  | c :: cs, h => by
    simp only [freezeL]
    rw [freezeCell_m (fun i hi => h i (by simp [idsL, hi])), freezeL_m (fun i hi => h i (by simp [idsL, hi]))]

end
theorem freezeAV_m {m m' : Nat → Option AObj} {c : AV} (h : ∀ i ∈ c.ids, m i = m' i) : freezeAV m c = freezeAV m' c := by
  cases c with
  | agg cs => simp only [freezeAV]; rw [freezeL_m (fun i hi => h i (by simpa [AV.ids] using hi))]
  | tup cs => rfl
  | _ => simp only [freezeAV]; exact freezeCell_m h
theorem source_m {m m' : Nat → Option AObj} {c : AV} {z : Nat} (h : ∀ i ∈ c.ids, m i = m' i) : source m z c = source m' z c := by
  cases c with
  | sl id off len tot => simp only [source]; rw [h id (by simp [AV.ids])]
  | sc v => unfold source; split <;> first | rfl | simp_all
  | _ => rfl
theorem ids_cells' (v : AV) : ∀ i ∈ idsL v.cells, i ∈ v.ids := by
  intro i hi
  cases v with
  | agg cs => simpa [AV.cells, AV.ids] using hi
  | tup l => simpa [AV.cells, AV.ids, idsL] using hi
  | _ => simpa [AV.cells, idsL] using hi
theorem fillA_ids {e : AX → Option AV} : ∀ (ps : List (Nat × Nat × AX)) (cs cs' : List AV), fillA e cs ps = some cs' → ∀ i ∈ idsL cs', i ∈ idsL cs ∨ ∃ x ∈ ps.map (·.2.2), ∃ v, e x = some v ∧ i ∈ v.ids
  | [], cs, cs', h => by
    simp only [fillA, Option.some.injEq] at h; subst h
    exact fun i hi => .inl hi
  | (o, s, x) :: ps, cs, cs', h => by
    simp only [fillA] at h
    split at h
    · cases h
    · rename_i v hnt hv
      split at h
      · rename_i hc
        intro i hi
        rcases fillA_ids ps _ _ h i hi with h1 | ⟨y, h1, u, h2, h3⟩
        · have : ∀ (cs p : List AV) (n : Nat), ∀ i ∈ idsL (splice cs n p), i ∈ idsL cs ∨ i ∈ idsL p := by
            have happ : ∀ (a b : List AV), idsL (a ++ b) = idsL a ++ idsL b := by
              intro a b; induction a with
              | nil => rfl
              | cons c a ih => simp [idsL, ih]
            have hdrop : ∀ (n : Nat) (a : List AV), ∀ i ∈ idsL (a.drop n), i ∈ idsL a := by
              intro n; induction n with
              | zero => intro a i hi; simpa using hi
              | succ n ih => intro a i hi; cases a with
                | nil => simpa using hi
                | cons c a => simp only [List.drop_succ_cons] at hi; simp [idsL, ih a i hi]
            intro cs p n
            induction cs generalizing n with
            | nil => cases n <;> intro i hi
                     · simp only [splice, List.drop_nil, List.append_nil] at hi; exact .inr hi
                     · simp only [splice] at hi; exact .inr hi
            | cons c cs ih =>
              cases n with
              | zero =>
                intro i hi
                simp only [splice, happ, List.mem_append] at hi
                rcases hi with hi | hi
                · exact .inr hi
                · exact .inl (hdrop _ _ i hi)
              | succ n =>
                intro i hi
                simp only [splice, idsL, List.mem_append] at hi ⊢
                rcases hi with hi | hi
                · exact .inl (.inl hi)
                · rcases ih n i hi with h | h
                  · exact .inl (.inr h)
                  · exact .inr h
          rcases this _ _ _ i h1 with h4 | h4
          · exact .inl h4
          · exact .inr ⟨x, by simp, v, hv, ids_cells' v i h4⟩
        · exact .inr ⟨y, by simp only [List.map_cons, List.mem_cons]; exact .inr h1, u, h2, h3⟩
      · cases h
    · cases h
theorem idsL_sc (l : List Value) : idsL (l.map .sc) = [] := by
  induction l with
  | nil => rfl
  | cons v l ih => simp [idsL, AV.ids, ih]
theorem eval_m {op : AOp} {e : AX → Option AV} {m m' : Nat → Option AObj} {d : Nat} {p : Prop} {r : Res} (hv : eval op e m d = some (p, r))
    (h1 : op.touches = true → ∀ x ∈ op.ops, ∀ v, e x = some v → ∀ i ∈ v.ids, m i = m' i) (h2 : ∀ i ∈ keys r, m i = m' i) : eval op e m' d = some (p, r) := by
  cases op <;> simp only [eval] at hv <;> simp only [eval]
  case mov => exact hv
  case alloc z =>
    split at hv
    · rename_i hm
      simp only [Option.some.injEq, Prod.mk.injEq] at hv
      obtain ⟨rfl, rfl⟩ := hv
      rw [← h2 (nid d) (by simp [keys]), hm]
    · cases hv
  case box x =>
    have hd : m (nid d) = none := by cases hm : m (nid d) with
      | none => rfl
      | some o => rw [hm] at hv; cases e x <;> simp at hv
    have hk : nid d ∈ keys r := by
      rw [hd] at hv
      cases hx : e x with
      | none => simp [hx] at hv
      | some v =>
        rw [hx] at hv
        cases v <;> simp at hv <;> (obtain ⟨_, rfl⟩ := hv; simp [keys])
    rw [← h2 _ hk]; exact hv
  case build => exact hv
  case bslice z len zero ps =>
    split at hv
    case h_2 => cases hv
    rename_i cs hm hf
    split at hv
    case h_2 => cases hv
    rename_i p' cs' wr hfr
    simp only [Option.some.injEq, Prod.mk.injEq] at hv
    obtain ⟨rfl, rfl⟩ := hv
    have hfr' : freezeL m' cs = freezeL m cs := (freezeL_m fun i hi => by
      rcases fillA_ids _ _ _ hf i hi with h | ⟨x, hx, v, hv, hi⟩
      · rw [idsL_sc] at h; cases h
      · exact h1 rfl x hx v hv i hi).symm
    rw [← h2 (nid d) (by simp [keys]), hm, hf]
    simp only [hfr', hfr]
  case load n x =>
    split at hv
    · rename_i cs hx; (try simp only [hx]); exact hv
    · rename_i id k o tot hx
      (try simp only [hx])
      have hid := h1 rfl x (by simp [AOp.ops]) _ hx id (by simp [AV.ids])
      have : cellsOf m' id k tot = cellsOf m id k tot := by unfold cellsOf; rw [hid]
      rw [this, ← hid]
      cases hm : m id with
      | none => rw [hm] at hv; exact hv
      | some obj =>
        rw [hm] at hv
        cases obj with
        | arrP z s =>
          simp only at hv ⊢
          generalize List.drop o (s.g k) = l at hv ⊢
          cases l with
          | nil => exact hv
          | cons c cs =>
            cases c with
            | own z' n' g' =>
              simp only [loadP] at hv ⊢
              split at hv
              · rename_i hnd
                simp only [Option.some.injEq, Prod.mk.injEq] at hv
                obtain ⟨rfl, rfl⟩ := hv
                rw [← h2 (nid d) (by simp [keys]), hnd]
              · cases hv
            | _ => exact hv
        | _ => exact hv
    · cases hv
  case store n x y =>
    split at hv
    case h_2 => cases hv
    rename_i id k o tot v hx hy
    have hid := h1 rfl x (by simp [AOp.ops]) _ hx id (by simp [AV.ids])
    (try simp only [hx, hy])
    rw [← hid]
    split at hv
    · rename_i z s hm
      (try simp only [hm])
      cases v with
      | sl id' off len tot' =>
        simp only [storeP] at hv ⊢
        rw [← h1 rfl y (by simp [AOp.ops]) _ hy id' (by simp [AV.ids])]; exact hv
      | _ => exact hv
    · rename_i cs hm; (try simp only [hm]); exact hv
    · rename_i z s hm
      have : freezeL m' v.cells = freezeL m v.cells := (freezeL_m fun i hi => h1 rfl y (by simp [AOp.ops]) _ hy i (ids_cells' v i hi)).symm
      (try simp only [hm]); simp only [this]; exact hv
    · cases hv
  case iaddr z x y =>
    split at hv
    · rename_i hx hy; (try simp only [hx, hy]); exact hv
    · rename_i hx hy; (try simp only [hx, hy]); exact hv
    · rename_i id off len tot k j hx hy
      (try simp only [hx, hy])
      rw [← h1 rfl x (by simp [AOp.ops]) _ hx id (by simp [AV.ids])]; exact hv
    · cases hv
  case mlen x =>
    split at hv
    · rename_i id hx
      (try simp only [hx])
      rw [← h1 rfl x (by simp [AOp.ops]) _ hx id (by simp [AV.ids])]; exact hv
    · cases hv
  case append z by_ x y =>
    split at hv
    · rename_i b hx hy
      (try simp only [hx, hy])
      have hs : source m' z b = source m z b := (source_m fun i hi => h1 rfl y (by simp [AOp.ops]) _ hy i hi).symm
      split at hv
      case h_2 => cases hv
      rename_i p' t hm hsrc
      simp only [Option.some.injEq, Prod.mk.injEq] at hv
      obtain ⟨rfl, rfl⟩ := hv
      rw [← h2 (nid d) (by simp [keys]), hm, hs, hsrc]
    · rename_i z' n g b hx hy
      (try simp only [hx, hy])
      have hs : source m' z b = source m z b := (source_m fun i hi => h1 rfl y (by simp [AOp.ops]) _ hy i hi).symm
      rw [hs]; exact hv
    · rename_i id off n tot b hx hy
      (try simp only [hx, hy])
      have hs : source m' z b = source m z b := (source_m fun i hi => h1 rfl y (by simp [AOp.ops]) _ hy i hi).symm
      rw [← h1 rfl x (by simp [AOp.ops]) _ hx id (by simp [AV.ids]), hs]; exact hv
    · cases hv
  case mkslice z by_ zero x y =>
    split at hv
    case h_2 => cases hv
    rename_i k1 l k2 c hm hx hy
    simp only [Option.some.injEq, Prod.mk.injEq] at hv
    obtain ⟨rfl, rfl⟩ := hv
    rw [← h2 (nid d) (by simp [keys]), hm, hx, hy]
  case mkmap k =>
    split at hv
    · rename_i hm
      simp only [Option.some.injEq, Prod.mk.injEq] at hv
      obtain ⟨rfl, rfl⟩ := hv
      rw [← h2 (nid d) (by simp [keys]), hm]
    · cases hv
  case lookup k zero ok x y =>
    split at hv
    case h_2 => cases hv
    rename_i id k' z hx hy
    (try simp only [hx, hy])
    rw [← h1 rfl x (by simp [AOp.ops]) _ hx id (by simp [AV.ids])]; exact hv
  case mset k x y u =>
    split at hv
    case h_2 => cases hv
    rename_i id k' z v hx hy hu
    (try simp only [hx, hy, hu])
    rw [← h1 rfl x (by simp [AOp.ops]) _ hx id (by simp [AV.ids])]; exact hv
  case mkmapS k =>
    split at hv
    · rename_i hm
      simp only [Option.some.injEq, Prod.mk.injEq] at hv
      obtain ⟨rfl, rfl⟩ := hv
      rw [← h2 (nid d) (by simp [keys]), hm]
    · cases hv
  case lookupS k zero ok x y =>
    split at hv
    case h_2 => cases hv
    rename_i id cs hx hy
    (try simp only [hx, hy])
    rw [← h1 rfl x (by simp [AOp.ops]) _ hx id (by simp [AV.ids])]; exact hv
  case msetS k x y u =>
    split at hv
    case h_2 => cases hv
    rename_i id cs v hx hy hu
    (try simp only [hx, hy, hu])
    rw [← h1 rfl x (by simp [AOp.ops]) _ hx id (by simp [AV.ids])]; exact hv
  case isnil kd neg x =>
    cases hx : e x with
    | none => rw [hx] at hv; exact hv
    | some a =>
      rw [hx] at hv
      have : isNilA m' kd a = isNilA m kd a := by
        have := h1 rfl x (by simp [AOp.ops]) _ hx
        cases a with
        | sl id off n tot =>
          match kd with
          | 0 => simp only [isNilA]; rw [this id (by simp [AV.ids])]
          | _ + 1 => simp only [isNilA]
        | _ => unfold isNilA; split <;> simp_all
      simp only [this]; exact hv
  case slice z x lo hi mx =>
    split at hv
    · rename_i hx h2 h3 h4; (try simp only [hx, h2, h3, h4]); exact hv
    · rename_i hx h2 h3 h4; (try simp only [hx, h2, h3, h4]); exact hv
    · rename_i hx h2 h3 h4; (try simp only [hx, h2, h3, h4]); exact hv
    · rename_i id off n tot l h hx h2 h3 h4
      (try simp only [hx, h2, h3, h4])
      rw [← h1 rfl x (by simp [AOp.ops]) _ hx id (by simp [AV.ids])]; exact hv
    · cases hv
  case aslice n z x =>
    split at hv
    · rename_i hx; (try simp only [hx]); exact hv
    · rename_i id k o tot hx
      (try simp only [hx])
      rw [← h1 rfl x (by simp [AOp.ops]) _ hx id (by simp [AV.ids])]; exact hv
    · cases hv
  case appz z by_ zero x y =>
    split at hv
    case h_2 => cases hv
    rename_i k1 k hm hx hy
    simp only [Option.some.injEq, Prod.mk.injEq] at hv
    obtain ⟨rfl, rfl⟩ := hv
    rw [← h2 (nid d) (by simp [keys]), hm, hx, hy]
    rfl
  case bstr x =>
    cases hx : e x with
    | none => rw [hx] at hv; exact hv
    | some b =>
      rw [hx] at hv
      have hs : source m' 1 b = source m 1 b := (source_m fun i hi => h1 rfl x (by simp [AOp.ops]) _ hx i hi).symm
      simp only [hs]; exact hv
  case copy x y =>
    split at hv
    · rename_i id off n tot b hx hy
      (try simp only [hx, hy])
      have hs : source m' 1 b = source m 1 b := (source_m fun i hi => h1 rfl y (by simp [AOp.ops]) _ hy i hi).symm
      rw [← h1 rfl x (by simp [AOp.ops]) _ hx id (by simp [AV.ids]), hs]; exact hv
    · cases hv
  all_goals exact hv
def quietR (op : AOp) (r : Res) : Prop := match op with
  | .load .. => r.wr = []
  | _ => True
theorem eval_quiet {op : AOp} {e : AX → Option AV} {m : Nat → Option AObj} {d : Nat} {p : Prop} {r : Res} (hv : eval op e m d = some (p, r)) (hw : op.mayWrite = false) (hq : quietR op r) : r.wr = [] := by
  by_cases hl : ∃ n x, op = .load n x
  · obtain ⟨n, x, rfl⟩ := hl; exact hq
  clear hq
  cases op <;> simp only [AOp.mayWrite, Bool.true_eq_false] at hw <;> (first | (exact absurd ⟨_, _, rfl⟩ hl) | skip) <;> simp only [eval] at hv
  all_goals
    (repeat' split at hv)
    all_goals first
      | (cases hv; done)
      | (simp only [Option.some.injEq, Prod.mk.injEq] at hv; obtain ⟨_, rfl⟩ := hv; rfl)
      | (simp only [Option.map_eq_some_iff, Prod.mk.injEq] at hv; obtain ⟨_, _, _, rfl⟩ := hv; rfl)
      | (simp only [Option.map_eq_some_iff, Prod.mk.injEq, Prod.exists] at hv; obtain ⟨_, _, _, _, rfl⟩ := hv; rfl)
theorem wrm_m {m m' : Nat → Option AObj} (l : List (Nat × AObj)) {x : Nat} (h : m x = m' x) : wrm m l x = wrm m' l x := by
  induction l generalizing m m' with
  | nil => exact h
  | cons p l ih =>
    show wrm (upd m p.1 (some p.2)) l x = wrm (upd m' p.1 (some p.2)) l x
    refine ih ?_
    unfold upd; split
    · rfl
    · exact h
theorem argsOk_m {m m' : Nat → Option AObj} {ρ : Nat → Nat} {O : List (Nat × AObj)} : ∀ (md : List Bool) (avs cargs : List AV) (wr : List (Nat × AObj)),
    ArgsOk m ρ O md avs cargs wr → (∀ av ∈ avs, ∀ i ∈ av.ids, m i = m' i) → ArgsOk m' ρ O md avs cargs wr
  | [], [], [], wr, h, _ => h
  | true :: md, av :: avs, c :: cs, wr, h, hm => by
    simp only [ArgsOk] at h ⊢
    exact ⟨h.1, h.2.1, argsOk_m md avs cs wr h.2.2 (fun av hav => hm av (List.mem_cons_of_mem _ hav))⟩
  | false :: md, av :: avs, c :: cs, wr, h, hm => by
    simp only [ArgsOk] at h ⊢
    obtain ⟨p, w1, w2, h1, h2, h3, h4⟩ := h
    exact ⟨p, w1, w2, by rw [← freezeAV_m (hm av (List.mem_cons_self ..))]; exact h1, h2, h3, argsOk_m md avs cs w2 h4 (fun av hav => hm av (List.mem_cons_of_mem _ hav))⟩
  | [], _ :: _, _, _, h, _ => by simp [ArgsOk] at h
  | [], [], _ :: _, _, h, _ => by simp [ArgsOk] at h
  | true :: _, [], _, _, h, _ => by simp [ArgsOk] at h
  | true :: _, _ :: _, [], _, h, _ => by simp [ArgsOk] at h
  | false :: _, [], _, _, h, _ => by simp [ArgsOk] at h
  | false :: _, _ :: _, [], _, h, _ => by simp [ArgsOk] at h
theorem ofL_mem {O : List (Nat × AObj)} {i : Nat} (h : (ofL O i).isSome) : ∃ o, (i, o) ∈ O := by
  have key : ∀ (l : List (Nat × AObj)) (f : Nat → Option AObj), (wrm f l i).isSome → (f i).isSome ∨ ∃ o, (i, o) ∈ l := by
    intro l
    induction l with
    | nil => intro f h; exact .inl h
    | cons p l ih =>
      intro f h
      rcases ih (upd f p.1 (some p.2)) h with h | ⟨o, ho⟩
      · unfold upd at h
        split at h
        · rename_i e; exact .inr ⟨p.2, by rw [e]; exact List.mem_cons_self ..⟩
        · exact .inl h
      · exact .inr ⟨o, List.mem_cons_of_mem _ ho⟩
  rcases key O _ h with h | h
  · simp at h
  · exact h
theorem callDoes_m {m m' : Nat → Option AObj} {f : FuncId} {avs : List AV} {r : Res} (h : CallDoes P m f avs r)
    (h1 : ∀ av ∈ avs, ∀ i ∈ av.ids, m i = m' i) (h2 : ∀ i ∈ keys r, m i = m' i) : CallDoes P m' f avs r := by
  revert h2
  induction h with
  | drop v wr _ hs hk ih =>
    intro _
    have key : ∀ p ∈ wr, m p.1 = m' p.1 := fun p hp => by
      obtain ⟨av, ha, hi⟩ := hk p hp
      exact h1 av ha _ hi
    refine .drop v wr (ih fun i hi => ?_) (fun p hp => by rw [← key p hp]; exact hs p hp) hk
    simp only [keys, List.mem_map] at hi
    obtain ⟨p, hp, rfl⟩ := hi
    exact key p hp
  | mk md cargs O r O' ρ wr keep spec ha hO hOc hOO hnew hnd hk =>
    intro h2
    have hk2 : ∀ i, (ofL O' i).isSome → m (ρ i) = m' (ρ i) := fun i hi => by
      obtain ⟨o, ho⟩ := ofL_mem hi
      refine h2 _ ?_
      simp only [keys, List.map_append, List.mem_append]
      refine .inr ?_
      simp only [renO, List.map_map, List.mem_map, Function.comp]
      exact ⟨(i, o), ho, rfl⟩
    exact .mk md cargs O r O' ρ wr keep spec (argsOk_m md avs cargs wr ha h1)
      (fun i o ho => by rw [← wrm_m wr (hk2 i (hOO i (by rw [ho]; rfl)))]; exact hO i o ho) hOc hOO
      (fun i hi => (hnew i hi).imp id (fun h => by rw [← hk2 i hi]; exact h)) hnd hk
def AOper.looks (o : AOper) : List Nat :=
  (o.op.ops.filterMap fun | .t n => some n | .k _ => none) ++ (match o.guard with | some (g, _) => [g] | none => [])
theorem ev_of_looks {σ τ : St} {o : AOper} (h : ∀ t ∈ o.looks, σ.env t = τ.env t) {x : AX} (hx : x ∈ o.op.ops) : σ.ev x = τ.ev x := by
  cases x with
  | t n => exact h n (by simp only [AOper.looks, List.mem_append, List.mem_filterMap]; exact .inl ⟨.t n, hx, rfl⟩)
  | k v => rfl
theorem es_congr {σ τ : St} : ∀ {l : List AX}, (∀ x ∈ l, σ.e x = τ.e x) → σ.es l = τ.es l
  | [], _ => rfl
  | x :: l, h => by simp only [St.es]; rw [h x (List.mem_cons_self ..), es_congr (fun y hy => h y (List.mem_cons_of_mem _ hy))]
theorem allC_congr {σ τ : St} {b : Bool} : ∀ {l : List AX}, (∀ x ∈ l, σ.c x = τ.c x) → allC σ b l → allC τ b l
  | [], _, _ => trivial
  | x :: l, h, hc => ⟨fun hb => by rw [← h x (List.mem_cons_self ..)]; exact hc.1 hb, allC_congr (fun y hy => h y (List.mem_cons_of_mem _ hy)) hc.2⟩
theorem does_m {σ τ : St} {o : AOper} {b : Bool} {r : Res} (h : Does P o σ b r) (hl : ∀ t ∈ o.looks, σ.env t = τ.env t)
    (hf : ∀ i ∈ foot σ o, σ.objs i = τ.objs i) (hk : ∀ i ∈ keys r, σ.objs i = τ.objs i) : Does P o τ b r := by
  have hev : ∀ x ∈ o.op.ops, σ.ev x = τ.ev x := fun x hx => ev_of_looks hl hx
  have he : ∀ x ∈ o.op.ops, σ.e x = τ.e x := fun x hx => by unfold St.e; rw [hev x hx]
  have hcc : ∀ x ∈ o.op.ops, σ.c x = τ.c x := fun x hx => by unfold St.c; rw [hev x hx]
  have hg : guardV σ o.guard = guardV τ o.guard := by
    cases hgd : o.guard with
    | none => rfl
    | some gw =>
      obtain ⟨g, want⟩ := gw
      simp only [guardV]
      rw [hl g (by simp [AOper.looks, hgd])]
  cases h with
  | skip hg' => exact .skip (hg ▸ hg')
  | op _ p r d hg' hb hc hp hw =>
    refine .op _ p r d (hg ▸ hg') ?_ (allC_congr hcc hc) hp hw
    rw [← eval_congr he]
    exact eval_m hb (fun ht x hx v hv i hi => hf i (mem_foot ht hx hv hi)) hk
  | pick _ c x y q p1 p2 c1 c2 cc ho hg' hq hx hy hc =>
    have hmem : c ∈ o.op.ops ∧ x ∈ o.op.ops ∧ y ∈ o.op.ops := by rw [ho]; simp [AOp.ops]
    exact .pick _ c x y q p1 p2 c1 c2 cc ho (hg ▸ hg') (by rw [← hev c hmem.1]; exact hq) (fun h => by rw [← hev x hmem.2.1]; exact hx h) (fun h => by rw [← hev y hmem.2.2]; exact hy h) hc
  | call _ f avs r hg' ht hc hd hw =>
    have htouch : o.op.touches = true := by
      have := target_isCall ht
      cases hop : o.op <;> simp_all [AOp.isCall, AOp.touches, AOp.mayWrite]
    have ht' : target τ o.op = some (f, avs) := by
      rw [← ht]
      cases hop : o.op with
      | call f' xs =>
        simp only [target]
        rw [es_congr (fun x hx => (he x (by rw [hop]; simpa [AOp.ops] using hx)).symm)]
      | callv x xs =>
        simp only [target]
        rw [es_congr (fun y hy => (he y (by rw [hop]; simp [AOp.ops, hy])).symm), he x (by rw [hop]; simp [AOp.ops])]
      | _ => rfl
    have hids : ∀ av ∈ avs, ∀ i ∈ av.ids, i ∈ foot σ o := by
      intro av hav i hi
      cases hop : o.op with
      | call f' xs =>
        rw [hop] at ht
        simp only [target] at ht
        split at ht
        · rename_i vs hvs
          simp only [Option.some.injEq, Prod.mk.injEq] at ht
          obtain ⟨_, rfl⟩ := ht
          obtain ⟨j, hj⟩ := List.getElem?_of_mem hav
          obtain ⟨x, hx, hxv⟩ := (es_spec hvs).2 j av hj
          exact mem_foot htouch (by rw [hop]; exact List.mem_of_getElem? hx) hxv hi
        · cases ht
      | callv x xs =>
        rw [hop] at ht
        simp only [target] at ht
        split at ht
        · rename_i f' first cap vs hfv hvs
          simp only [Option.some.injEq, Prod.mk.injEq] at ht
          obtain ⟨_, rfl⟩ := ht
          rcases List.mem_append.1 hav with hav | hav
          · rcases List.mem_append.1 hav with hav | hav
            · obtain ⟨j, hj⟩ := List.getElem?_of_mem hav
              exact mem_foot htouch (by rw [hop]; simp [AOp.ops]) hfv (by simp only [AV.ids, List.mem_append]; exact .inl (mem_idsL hj i hi))
            · obtain ⟨j, hj⟩ := List.getElem?_of_mem hav
              obtain ⟨y, hy, hyv⟩ := (es_spec hvs).2 j av hj
              exact mem_foot htouch (by rw [hop]; exact List.mem_cons_of_mem _ (List.mem_of_getElem? hy)) hyv hi
          · obtain ⟨j, hj⟩ := List.getElem?_of_mem hav
            exact mem_foot htouch (by rw [hop]; simp [AOp.ops]) hfv (by simp only [AV.ids, List.mem_append]; exact .inr (mem_idsL hj i hi))
        · cases ht
      | _ => rw [hop] at ht; simp [target] at ht
    exact .call _ f avs r (hg ▸ hg') ht' (allC_congr hcc hc) (fun hb => callDoes_m (hd hb) (fun av hav i hi => hf i (hids av hav i hi)) hk) hw
end
end Go.Abs
end
section
namespace Go.Abs
def CallG (P : Program) (m : Nat → Option AObj) (f : FuncId) (avs : List AV) (b : Bool) (K : Res → Prop) : Prop :=
  ∃ r, (b = true → CallDoes P m f avs r) ∧ (r.wr ≠ [] → b = true) ∧ K r
@[congr] theorem CallG_congr {P : Program} {m m' : Nat → Option AObj} {f : FuncId} {avs avs' : List AV} {b b' : Bool} {K : Res → Prop} (h1 : m = m') (h2 : avs = avs') (h3 : b = b') :
    CallG P m f avs b K = CallG P m' f avs' b' K := by rw [h1, h2, h3]
def wopM (P : Program) (o : AOper) (σ : St) (b : Bool) (K : Bool → Res → Prop) : Prop :=
  match o.op with
  | .pick c x y => match σ.ev c with
    | some (cc, .sc (.bool q)) => match σ.ev x, σ.ev y with
      | some (c1, .sc (.bool p1)), some (c2, .sc (.bool p2)) =>
        (b = true → cc = true ∧ (q = true → c1 = true) ∧ (q = false → c2 = true)) ∧ K b ⟨some (.sc (.bool (if q then p1 else p2))), []⟩
      | some (c1, .sc (.bool p1)), none => q = true ∧ (b = true → cc = true ∧ c1 = true) ∧ K b ⟨some (.sc (.bool p1)), []⟩
      | none, some (c2, .sc (.bool p2)) => q = false ∧ (b = true → cc = true ∧ c2 = true) ∧ K b ⟨some (.sc (.bool p2)), []⟩
      | _, _ => False
    | _ => b = false ∧ K false ⟨none, []⟩
  | .call f xs => match target σ (.call f xs) with
    | some (f, avs) => allC σ b (AOp.call f xs).ops ∧ CallG P σ.objs f avs b (K b)
    | none => b = false ∧ K false ⟨none, []⟩
  | .callv x xs => match target σ (.callv x xs) with
    | some (f, avs) => allC σ b (AOp.callv x xs).ops ∧ CallG P σ.objs f avs b (K b)
    | none => b = false ∧ K false ⟨none, []⟩
  | op => match eval op σ.e σ.objs (o.dst.getD 0) with
    | some (p, r) => (match r.wr with
      | [] => allC σ b op.ops ∧ (b = true → p) ∧ K b r
      | _ :: _ => if b = true then allC σ true op.ops ∧ p ∧ K true r else K false ⟨none, []⟩)
    | none => b = false ∧ K false ⟨none, []⟩
def wop (P : Program) (o : AOper) (σ : St) (K : Bool → Res → Prop) : Prop :=
  match guardV σ o.guard with
  | some b => wopM P o σ b K
  | none => False
def disj (a b : List Nat) : Prop := ∀ i ∈ a, i ∉ b
def keepOff (seen : List (List Nat × List Nat)) (f k : List Nat) : List Nat → Prop
  | [] => True
  | c :: cs => (match seen[c]? with | some (f', k') => disj k (f' ++ k') ∧ disj k' (f ++ k) | none => False) ∧ keepOff seen f k cs
def wseq (P : Program) : List AOper → (St → Prop) → St → Prop
  | [], Q, σ => Q σ
  | o :: os, Q, σ => wop P o σ fun b r => wseq P os Q (σ.put o.dst b r)
def wany (P : Program) : List AOper → List (List Nat × List Nat) → (St → Prop) → St → Prop
  | [], _, Q, σ => Q σ
  | o :: os, seen, Q, σ => wop P o σ fun b r => quietR o.op r ∧ keepOff seen (foot σ o) (keys r) o.chk ∧ wany P os (seen ++ [(foot σ o, keys r)]) Q (σ.put o.dst b r)
@[congr] theorem wopM_congr {P : Program} {o : AOper} {σ σ' : St} {b b' : Bool} {K : Bool → Res → Prop} (h : σ = σ') (hb : b = b') : wopM P o σ b K = wopM P o σ' b' K := by rw [h, hb]
@[congr] theorem wop_congr {P : Program} {o : AOper} {σ σ' : St} {K : Bool → Res → Prop} (h : σ = σ') : wop P o σ K = wop P o σ' K := by rw [h]
@[congr] theorem wseq_congr {P : Program} {l : List AOper} {Q : St → Prop} {σ σ' : St} (h : σ = σ') : wseq P l Q σ = wseq P l Q σ' := by rw [h]
@[congr] theorem wany_congr {P : Program} {l : List AOper} {seen seen' : List (List Nat × List Nat)} {Q : St → Prop} {σ σ' : St} (hs : seen = seen') (h : σ = σ') : wany P l seen Q σ = wany P l seen' Q σ' := by rw [h, hs]
section
variable {P : Program}
theorem wopM_does {o : AOper} {σ : St} {b : Bool} {K : Bool → Res → Prop} (hg : guardV σ o.guard = some b) (h : wopM P o σ b K) : ∃ b r, Does P o σ b r ∧ K b r := by
  have hskip : b = false ∧ K false ⟨none, []⟩ → ∃ b r, Does P o σ b r ∧ K b r := by
    rintro ⟨rfl, hk⟩
    exact ⟨false, _, .skip hg, hk⟩
  unfold wopM at h
  split at h
  · rename_i c x y ho
    split at h
    · rename_i cc q hc
      split at h
      · rename_i c1 p1 c2 p2 hx hy
        exact ⟨b, _, .pick _ c x y q p1 p2 c1 c2 cc ho hg hc (fun _ => hx) (fun _ => hy) h.1, h.2⟩
      · rename_i c1 p1 hx hy
        obtain ⟨rfl, h1, h2⟩ := h
        exact ⟨b, _, .pick _ c x y true p1 p1 c1 c1 cc ho hg hc (fun _ => hx) (fun h => by cases h) (fun hb => ⟨(h1 hb).1, fun _ => (h1 hb).2, fun h => by cases h⟩), by simpa using h2⟩
      · rename_i c2 p2 hx hy
        obtain ⟨rfl, h1, h2⟩ := h
        exact ⟨b, _, .pick _ c x y false p2 p2 c2 c2 cc ho hg hc (fun h => by cases h) (fun _ => hy) (fun hb => ⟨(h1 hb).1, fun h => (by cases h), fun _ => (h1 hb).2⟩), by simpa using h2⟩
      · exact h.elim
    · exact hskip h
  · rename_i f xs ho
    split at h
    · rename_i f' avs ht
      obtain ⟨h1, r, h2, h3, h4⟩ := h
      exact ⟨b, r, .call _ f' avs r hg (by rw [ho]; exact ht) (by rw [ho]; exact h1) h2 h3, h4⟩
    · exact hskip h
  · rename_i x xs ho
    split at h
    · rename_i f' avs ht
      obtain ⟨h1, r, h2, h3, h4⟩ := h
      exact ⟨b, r, .call _ f' avs r hg (by rw [ho]; exact ht) (by rw [ho]; exact h1) h2 h3, h4⟩
    · exact hskip h
  · split at h
    · rename_i p r hv
      split at h
      · rename_i hw
        obtain ⟨h1, h2, h4⟩ := h
        exact ⟨b, r, .op _ p r _ hg hv h1 h2 (fun hne => absurd hw hne), h4⟩
      · split at h
        · rename_i hb
          subst hb
          obtain ⟨h1, h2, h4⟩ := h
          exact ⟨true, r, .op _ p r _ hg hv h1 (fun _ => h2) (fun _ => rfl), h4⟩
        · rename_i hb
          have hb' : b = false := by cases b <;> simp_all
          subst hb'
          exact ⟨false, _, .skip hg, h⟩
    · exact hskip h
theorem wop_does {o : AOper} {σ : St} {K : Bool → Res → Prop} (h : wop P o σ K) : ∃ b r, Does P o σ b r ∧ K b r := by
  unfold wop at h
  split at h
  · rename_i b hg; exact wopM_does hg h
  · exact h.elim
structure Ent where
  dst : Option Nat
  b : Bool
  r : Res
def St.by (σ : St) (e : Ent) : St := σ.put e.dst e.b e.r
def atS (E : Nat → Ent) (σ : St) (S : Nat → Bool) : Nat → St
  | 0 => σ
  | k + 1 => bif S k then (atS E σ S k).by (E k) else atS E σ S k
theorem wrm_same {m : Nat → Option AObj} : ∀ {l : List (Nat × AObj)} {x : Nat}, x ∉ l.map (·.1) → wrm m l x = m x
  | [], x, _ => rfl
  | p :: l, x, h => by
    simp only [List.map_cons, List.mem_cons, not_or] at h
    show wrm (upd m p.1 (some p.2)) l x = m x
    rw [wrm_same h.2, upd_ne h.1]
theorem atS_env {E : Nat → Ent} {σ : St} {S S' : Nat → Bool} {t : Nat} : ∀ k, (∀ j, j < k → S j ≠ S' j → (E j).dst ≠ some t) → (atS E σ S k).env t = (atS E σ S' k).env t
  | 0, _ => rfl
  | k + 1, h => by
    have ih := atS_env (E := E) (σ := σ) (S := S) (S' := S') (t := t) k (fun j hj hn => h j (by omega) hn)
    have hk := h k (by omega)
    have put1 : ∀ (τ : St), (E k).dst ≠ some t → (τ.by (E k)).env t = τ.env t := fun τ hd => by
      unfold St.by St.put
      cases hdst : (E k).dst with
      | none => rfl
      | some d => simp only; exact upd_ne (fun e => hd (by rw [hdst, e]))
    have put2 : ∀ (τ τ' : St), τ.env t = τ'.env t → (τ.by (E k)).env t = (τ'.by (E k)).env t := fun τ τ' e => by
      unfold St.by St.put
      cases (E k).dst with
      | none => exact e
      | some d =>
        simp only [upd]
        split
        · rfl
        · exact e
    simp only [atS]
    cases hs : S k <;> cases hs' : S' k
    · simpa using ih
    · simp only [cond_true, cond_false]; rw [put1 _ (hk (by rw [hs, hs']; simp))]; exact ih
    · simp only [cond_true, cond_false]; rw [put1 _ (hk (by rw [hs, hs']; simp))]; exact ih
    · simpa using put2 _ _ ih
theorem atS_objs {E : Nat → Ent} {σ : St} {S S' : Nat → Bool} {x : Nat} : ∀ k, (∀ j, j < k → S j ≠ S' j → x ∉ keys (E j).r) → (atS E σ S k).objs x = (atS E σ S' k).objs x
  | 0, _ => rfl
  | k + 1, h => by
    have ih := atS_objs (E := E) (σ := σ) (S := S) (S' := S') (x := x) k (fun j hj hn => h j (by omega) hn)
    have hk := h k (by omega)
    simp only [atS]
    cases hs : S k <;> cases hs' : S' k
    · simpa using ih
    · simp only [cond_true, cond_false, St.by, St.put]; rw [wrm_same (hk (by rw [hs, hs']; simp))]; exact ih
    · simp only [cond_true, cond_false, St.by, St.put]; rw [wrm_same (hk (by rw [hs, hs']; simp))]; exact ih
    · simp only [cond_true, St.by, St.put]; exact wrm_m _ ih
theorem atS_eq {E : Nat → Ent} {σ : St} {S S' : Nat → Bool} : ∀ k, (∀ j, j < k → S j = S' j) → atS E σ S k = atS E σ S' k
  | 0, _ => rfl
  | k + 1, h => by
    simp only [atS]
    rw [h k (by omega), atS_eq k (fun j hj => h j (by omega))]
def apart2 (e e' : Ent) : Prop := (∀ d, e.dst = some d → e'.dst ≠ some d) ∧ disj (keys e.r) (keys e'.r)
theorem by_comm (σ : St) {e e' : Ent} (h : apart2 e e') : (σ.by e).by e' = (σ.by e').by e := by
  obtain ⟨h1, h2⟩ := h
  have henv : ((σ.by e).by e').env = ((σ.by e').by e).env := by
    unfold St.by St.put
    cases hd : e.dst with
    | none => rfl
    | some d => cases hd' : e'.dst with
      | none => rfl
      | some d' =>
        have hne : d ≠ d' := fun he => h1 d hd (by rw [hd', he])
        funext x
        simp only [upd]
        by_cases h1 : x = d' <;> by_cases h2 : x = d <;> simp_all
  have hobj : ((σ.by e).by e').objs = ((σ.by e').by e).objs := by
    funext x
    simp only [St.by, St.put]
    by_cases hx : x ∈ keys e.r
    · have hx' : x ∉ keys e'.r := h2 x hx
      rw [wrm_same hx']
      exact wrm_m _ (wrm_same hx').symm
    · rw [wrm_same (l := e.r.wr) hx]
      exact wrm_m _ (wrm_same hx)
  cases h : (σ.by e).by e'; cases h' : (σ.by e').by e
  rw [h, h'] at henv hobj
  simp only at henv hobj
  rw [henv, hobj]
theorem atS_put {E : Nat → Ent} {σ : St} {S : Nat → Bool} {i : Nat} (hi : S i = false) : ∀ k, i < k → (∀ j, i < j → j < k → S j = true → apart2 (E i) (E j)) →
    atS E σ (fun j => if j = i then true else S j) k = (atS E σ S k).by (E i)
  | 0, h, _ => by omega
  | k + 1, h, hj => by
    simp only [atS]
    by_cases hk : k = i
    · subst hk
      rw [if_pos rfl, hi, cond_true, cond_false, atS_eq (S := fun j => if j = k then true else S j) (S' := S) k (fun j hj => by simp [show j ≠ k by omega])]
    · rw [if_neg hk, atS_put hi k (by omega) (fun j h1 h2 h3 => hj j h1 (by omega) h3)]
      cases hs : S k with
      | false => simp
      | true => simp only [cond_true]; exact by_comm _ (hj k (by omega) (by omega) hs)
theorem atS_upto {E : Nat → Ent} {σ : St} (n : Nat) : ∀ k, n ≤ k → atS E σ (fun j => decide (j < n)) k = atS E σ (fun _ => true) n
  | 0, h => by have : n = 0 := by omega
               subst this; rfl
  | k + 1, h => by
    by_cases hk : n = k + 1
    · subst hk; exact atS_eq _ (fun j hj => by simp [hj])
    · simp only [atS]
      rw [decide_eq_false (show ¬ k < n by omega), cond_false]
      exact atS_upto n k (by omega)
theorem Does.reclad {o o' : AOper} {σ : St} {b : Bool} {r : Res} (h : Does P o σ b r) (h1 : o'.dst = o.dst) (h2 : o'.op = o.op) (h3 : o'.guard = o.guard) : Does P o' σ b r := by
  cases h with
  | op _ p r d hg hb hc hp hw => exact .op _ p r d (by rw [h3]; exact hg) (by rw [h2]; exact hb) (by rw [h2]; exact hc) hp hw
  | pick _ c x y q p1 p2 c1 c2 cc ho hg hq hx hy hc => exact .pick _ c x y q p1 p2 c1 c2 cc (by rw [h2]; exact ho) (by rw [h3]; exact hg) hq hx hy hc
  | call _ f avs r hg ht hc hd hw => exact .call _ f avs r (by rw [h3]; exact hg) (by rw [h2]; exact ht) (by rw [h2]; exact hc) hd hw
  | skip hg => exact .skip (by rw [h3]; exact hg)
end
end Go.Abs
end
section
namespace Go.Abs
def edgeMask (acc : List Nat) : List Edge → Nat
  | [] => 0
  | e :: es => if Region.binds .any e then 2 ^ e.on ||| (acc.getD e.on 0 ||| edgeMask acc es) else edgeMask acc es
def maskL : List Oper → List Nat → List Nat
  | [], acc => acc
  | o :: os, acc => maskL os (acc ++ [edgeMask acc o.after.toList])
def edgesOk (ops : List Oper) (j : Nat) : Bool :=
  match ops with
  | [] => true
  | o :: os => (o.after.toList.all fun e => !Region.binds .any e || decide (e.on < j)) && edgesOk os (j + 1)
def apartS (a b : AOper) : Bool :=
  (match a.dst with | some d => !(b.looks.contains d) && b.dst != some d | none => true) && (match b.dst with | some d => !(a.looks.contains d) | none => true)
def interplay (a b : AOper) : Bool := (a.op.mayWrite && b.op.touches) || (b.op.mayWrite && a.op.touches)
def apartAll (m : Nat) (b : AOper) : List AOper → Nat → Bool
  | [], _ => true
  | a :: as, i => (m.testBit i || apartS a b) && apartAll m b as (i + 1)
def chkOf (m : Nat) (b : AOper) : List AOper → Nat → List Nat
  | [], _ => []
  | a :: as, i => if !m.testBit i && interplay a b then i :: chkOf m b as (i + 1) else chkOf m b as (i + 1)
def anyForm (ahead : List AOper) : List AOper → List Nat → Option (List AOper)
  | [], _ => some []
  | b :: bs, m :: ms => if apartAll m b ahead 0 then (match anyForm (ahead ++ [b]) bs ms with
      | some r => some ({ b with chk := chkOf m b ahead 0 } :: r)
      | none => none) else none
  | _ :: _, [] => none
def copers (P : Program) (N : Nat) (ops : Array Oper) : List Oper → Option (List AOper)
  | [] => some []
  | o :: os => match coper P N ops o, copers P N ops os with
    | some a, some as => some (a :: as)
    | _, _ => none
def cregion (P : Program) (N : Nat) (ops : Array Oper) (draw : Bool) : Option (List AOper) :=
  match copers P N ops ops.toList with
  | some as => if draw then (if edgesOk ops.toList 0 then anyForm [] as (maskL ops.toList []) else none) else some as
  | none => none
section
variable {P : Program} {N : Nat}
theorem copers_get {ops : Array Oper} : ∀ {l : List Oper} {as : List AOper}, copers P N ops l = some as → as.length = l.length ∧ ∀ (i : Nat) (o : Oper), l[i]? = some o → ∃ a, as[i]? = some a ∧ coper P N ops o = some a
  | [], as, h => by simp only [copers, Option.some.injEq] at h; subst h; exact ⟨rfl, fun i o h => by simp at h⟩
  | o :: l, as, h => by
    simp only [copers] at h
    split at h
    · rename_i a as' h1 h2
      simp only [Option.some.injEq] at h; subst h
      obtain ⟨h3, h4⟩ := copers_get h2
      refine ⟨by simp [h3], fun i o' hi => ?_⟩
      cases i with
      | zero => simp only [List.getElem?_cons_zero, Option.some.injEq] at hi; subst hi; exact ⟨a, rfl, h1⟩
      | succ i => simp only [List.getElem?_cons_succ] at hi; exact h4 i o' hi
    · cases h
theorem wseq_ok {ops : Array Oper} {Q : St → Prop} {R : Exit → Act → World → Prop} : ∀ (l : List Oper) (as : List AOper) (k : Nat) (σ : St) (a : Act) (w : World) (ob : Place) (G : Nat → Prop),
    copers P N ops l = some as → (∀ i o, l[i]? = some o → ops[k + i]? = some o) → Sim N σ a w ob G → wseq P as Q σ →
    (∀ τ a' w' ob' G', Q τ → Sim N τ a' w' ob' G' → Fr G w ob G' w' ob' → OBext ob ob' → R .normal a' w') →
    wpOps P ops R (List.range' k l.length) a w
  | [], as, k, σ, a, w, ob, G, hc, hl, hs, h, hQ => by
    simp only [copers, Option.some.injEq] at hc; subst hc
    exact hQ σ a w ob G h hs (Fr.refl G w ob) (OBext.refl ob)
  | o :: l, as, k, σ, a, w, ob, G, hc, hl, hs, h, hQ => by
    simp only [copers] at hc
    split at hc
    case h_2 => cases hc
    rename_i ao as' h1 h2
    simp only [Option.some.injEq] at hc; subst hc
    obtain ⟨b, r, hd, hk⟩ := wop_does h
    have ho : ops[k]? = some o := by simpa using hl 0 o (by simp)
    simp only [List.length_cons, List.range'_succ]
    simp only [wpOps, ho]
    have := does_ok (K := wpOps P ops R (List.range' (k + 1) l.length)) (Q := R) h1 hs hd (fun a' w' ob' G' s f e => wseq_ok l as' (k + 1) _ a' w' ob' G' h2
      (fun i o' hi => by have := hl (i + 1) o' (by simpa using hi); rwa [show k + (i + 1) = k + 1 + i by omega] at this) s hk
      (fun τ a'' w'' ob'' G'' q s' f' e' => hQ τ a'' w'' ob'' G'' q s' (f.trans f') (e.trans e')))
    by_cases hw : Region.wanted o (yielded ops a.tmps) = true
    · rw [if_pos hw] at this ⊢; exact .inl this
    · rw [if_neg hw] at this ⊢; exact this
def runL (σ : St) (es : List Ent) : St := es.foldl St.by σ
theorem wany_trace {Q : St → Prop} : ∀ (aos : List AOper) (seen : List (List Nat × List Nat)) (σ : St), wany P aos seen Q σ →
    ∃ (es : List Ent) (ft : List (List Nat × List Nat)), es.length = aos.length ∧ ft.length = aos.length ∧ Q (runL σ es) ∧
      ∀ i o, aos[i]? = some o → ∃ e f, es[i]? = some e ∧ ft[i]? = some f ∧ e.dst = o.dst ∧ f = (foot (runL σ (es.take i)) o, keys e.r) ∧
        Does P o (runL σ (es.take i)) e.b e.r ∧ keepOff (seen ++ ft.take i) f.1 f.2 o.chk ∧ quietR o.op e.r
  | [], seen, σ, h => ⟨[], [], rfl, rfl, h, fun i o hi => by simp at hi⟩
  | o :: os, seen, σ, h => by
    obtain ⟨b, r, hd, hqr, hk, hrest⟩ := wop_does h
    obtain ⟨es, ft, h1, h2, h3, h4⟩ := wany_trace os _ _ hrest
    refine ⟨⟨o.dst, b, r⟩ :: es, (foot σ o, keys r) :: ft, by simp [h1], by simp [h2], h3, fun i o' hi => ?_⟩
    cases i with
    | zero =>
      simp only [List.getElem?_cons_zero, Option.some.injEq] at hi; subst hi
      exact ⟨_, _, rfl, rfl, rfl, rfl, hd, by simpa using hk, hqr⟩
    | succ i =>
      simp only [List.getElem?_cons_succ] at hi
      obtain ⟨e, f, g1, g2, g3, g4, g5, g6, g7⟩ := h4 i o' hi
      exact ⟨e, f, by simpa using g1, by simpa using g2, g3, g4, g5, by simpa using g6, g7⟩
theorem atS_run {es : List Ent} {σ : St} : ∀ k, k ≤ es.length → atS (fun i => es.getD i ⟨none, false, ⟨none, []⟩⟩) σ (fun _ => true) k = runL σ (es.take k)
  | 0, _ => rfl
  | k + 1, h => by
    simp only [atS, cond_true]
    rw [atS_run k (by omega)]
    have : es.take (k + 1) = es.take k ++ [es.getD k ⟨none, false, ⟨none, []⟩⟩] := by
      rw [List.take_add_one, List.getElem?_eq_getElem (by omega)]
      simp [List.getD, List.getElem?_eq_getElem (show k < es.length by omega)]
    rw [this, runL, runL, List.foldl_append]
    rfl
def Closed (ops : Array Oper) (S : Nat → Bool) : Prop := ∀ (j : Nat) (o : Oper), ops[j]? = some o → S j = true → ∀ e ∈ o.after, Region.binds .any e = true → S e.on = true
theorem edgeMask_bit {acc : List Nat} {i : Nat} : ∀ {es : List Edge}, (edgeMask acc es).testBit i = true → ∃ e ∈ es, Region.binds .any e = true ∧ (i = e.on ∨ (acc.getD e.on 0).testBit i = true)
  | [], h => by simp [edgeMask] at h
  | e :: es, h => by
    simp only [edgeMask] at h
    split at h
    · rename_i hb
      simp only [Nat.testBit_or, Bool.or_eq_true, Nat.testBit_two_pow, decide_eq_true_eq] at h
      rcases h with h | h | h
      · exact ⟨e, List.mem_cons_self .., hb, .inl h.symm⟩
      · exact ⟨e, List.mem_cons_self .., hb, .inr h⟩
      · obtain ⟨e', h1, h2⟩ := edgeMask_bit h
        exact ⟨e', List.mem_cons_of_mem _ h1, h2⟩
    · obtain ⟨e', h1, h2⟩ := edgeMask_bit h
      exact ⟨e', List.mem_cons_of_mem _ h1, h2⟩
theorem maskL_spec {ops : Array Oper} {S : Nat → Bool} (hS : Closed ops S) : ∀ (os : List Oper) (acc : List Nat),
    (∀ i o, os[i]? = some o → ops[acc.length + i]? = some o) → (∀ k i, (acc.getD k 0).testBit i = true → S k = true → S i = true) →
    (maskL os acc).length = acc.length + os.length ∧ ∀ k i, ((maskL os acc).getD k 0).testBit i = true → S k = true → S i = true
  | [], acc, _, h => ⟨rfl, h⟩
  | o :: os, acc, ho, h => by
    have := maskL_spec hS os (acc ++ [edgeMask acc o.after.toList]) (fun i o' hi => by
      have := ho (i + 1) o' (by simpa using hi)
      simpa [Nat.add_assoc, Nat.add_comm 1 i] using this) (fun k i hb hk => by
      by_cases hlt : k < acc.length
      · rw [List.getD, List.getElem?_append_left hlt] at hb; exact h k i hb hk
      · by_cases hk' : k = acc.length
        · subst hk'
          rw [List.getD, List.getElem?_append_right (Nat.le_refl _)] at hb
          simp only [Nat.sub_self, List.getElem?_cons_zero, Option.getD_some] at hb
          obtain ⟨e, he, hbind, h1⟩ := edgeMask_bit hb
          have hse := hS acc.length o (by simpa using ho 0 o (by simp)) hk e (by simpa using he) hbind
          rcases h1 with rfl | h1
          · exact hse
          · exact h _ _ h1 hse
        · rw [List.getD, List.getElem?_eq_none (by simp; omega)] at hb; simp at hb)
    refine ⟨?_, this.2⟩
    have h1 := this.1
    simp only [List.length_append, List.length_cons, List.length_nil] at h1
    simp only [maskL, List.length_cons]
    omega
theorem edgesOk_spec : ∀ {os : List Oper} {j : Nat}, edgesOk os j = true → ∀ i o, os[i]? = some o → ∀ e ∈ o.after, Region.binds .any e = true → e.on < j + i
  | [], j, _, i, o, h => by simp at h
  | o' :: os, j, hk, i, o, h => by
    simp only [edgesOk, Bool.and_eq_true, List.all_eq_true, Bool.or_eq_true, Bool.not_eq_true', decide_eq_true_eq] at hk
    cases i with
    | zero =>
      simp only [List.getElem?_cons_zero, Option.some.injEq] at h; subst h
      intro e he hb
      rcases hk.1 e (by simpa using he) with h | h
      · rw [hb] at h; cases h
      · simpa using h
    | succ i =>
      simp only [List.getElem?_cons_succ] at h
      intro e he hb
      have := edgesOk_spec hk.2 i o h e he hb
      omega
theorem apartAll_spec {m : Nat} {b : AOper} : ∀ {as : List AOper} {i : Nat}, apartAll m b as i = true → ∀ j a, as[j]? = some a → m.testBit (i + j) = true ∨ apartS a b = true
  | [], i, _, j, a, h => by simp at h
  | a' :: as, i, hk, j, a, h => by
    simp only [apartAll, Bool.and_eq_true, Bool.or_eq_true] at hk
    cases j with
    | zero => simp only [List.getElem?_cons_zero, Option.some.injEq] at h; subst h; exact hk.1
    | succ j =>
      simp only [List.getElem?_cons_succ] at h
      have := apartAll_spec hk.2 j a h
      rwa [show i + 1 + j = i + (j + 1) by omega] at this
theorem chkOf_spec {m : Nat} {b : AOper} : ∀ {as : List AOper} {i : Nat} (j : Nat) (a : AOper), as[j]? = some a → m.testBit (i + j) = false → interplay a b = true → i + j ∈ chkOf m b as i
  | [], i, j, a, h, _, _ => by simp at h
  | a' :: as, i, j, a, h, hm, hi => by
    cases j with
    | zero =>
      simp only [List.getElem?_cons_zero, Option.some.injEq] at h; subst h
      simp only [Nat.add_zero] at hm
      simp [chkOf, hm, hi]
    | succ j =>
      simp only [List.getElem?_cons_succ] at h
      have := chkOf_spec (m := m) (b := b) (as := as) (i := i + 1) j a h (by rwa [show i + 1 + j = i + (j + 1) by omega]) hi
      rw [show i + 1 + j = i + (j + 1) by omega] at this
      simp only [chkOf]; split
      · exact List.mem_cons_of_mem _ this
      · exact this
theorem anyForm_spec : ∀ {bs : List AOper} {ahead : List AOper} {ms : List Nat} {r : List AOper}, anyForm ahead bs ms = some r → r.length = bs.length ∧
    ∀ j b, bs[j]? = some b → ∃ m, ms[j]? = some m ∧ r[j]? = some { b with chk := chkOf m b (ahead ++ bs.take j) 0 } ∧ apartAll m b (ahead ++ bs.take j) 0 = true
  | [], ahead, ms, r, h => by
    simp only [anyForm, Option.some.injEq] at h; subst h; exact ⟨rfl, fun j b h => by simp at h⟩
  | b :: bs, ahead, m :: ms, r, h => by
    simp only [anyForm] at h
    split at h
    case isFalse => cases h
    rename_i hap
    split at h
    case h_2 => cases h
    rename_i r' hr
    simp only [Option.some.injEq] at h; subst h
    obtain ⟨h1, h2⟩ := anyForm_spec hr
    refine ⟨by simp [h1], fun j b' hj => ?_⟩
    cases j with
    | zero => simp only [List.getElem?_cons_zero, Option.some.injEq] at hj; subst hj; exact ⟨m, rfl, by simp, by simpa using hap⟩
    | succ j =>
      simp only [List.getElem?_cons_succ] at hj
      obtain ⟨m', g1, g2, g3⟩ := h2 j b' hj
      exact ⟨m', by simpa using g1, by simpa using g2, by simpa using g3⟩
  | b :: bs, ahead, [], r, h => by simp [anyForm] at h
theorem keepOff_spec {seen : List (List Nat × List Nat)} {f k : List Nat} : ∀ {l : List Nat}, keepOff seen f k l → ∀ c ∈ l, ∃ f' k', seen[c]? = some (f', k') ∧ disj k (f' ++ k') ∧ disj k' (f ++ k)
  | [], _, c, hc => by cases hc
  | c' :: l, h, c, hc => by
    rcases List.mem_cons.1 hc with rfl | hc
    · have := h.1
      split at this
      · rename_i f' k' hs; exact ⟨f', k', hs, this⟩
      · exact this.elim
    · exact keepOff_spec h.2 c hc
theorem mayWrite_touches {op : AOp} (h : op.mayWrite = true) : op.touches = true := by cases op <;> first | rfl | exact h
theorem Does.quiet {o : AOper} {σ : St} {b : Bool} {r : Res} (h : Does P o σ b r) (hw : o.op.mayWrite = false) (hq : quietR o.op r) : keys r = [] := by
  cases h with
  | op _ p r d hg hb hc hp hw' => rw [keys, eval_quiet hb hw hq]; rfl
  | pick => rfl
  | call _ f avs r hg ht hc hd hw' =>
    have := target_isCall ht
    cases ho : o.op <;> simp_all [AOp.isCall, AOp.mayWrite]
  | skip => rfl
theorem foot_quiet {σ : St} {o : AOper} (h : o.op.touches = false) : foot σ o = [] := by unfold foot; rw [if_neg (by simp [h])]
end
end Go.Abs
end
section
namespace Go.Abs
section
variable {P : Program} {N : Nat}
theorem count_lt {p q : Nat → Bool} {i : Nat} (hpq : ∀ x, q x = true → p x = true) (hp : p i = true) (hq : q i = false) : ∀ (l : List Nat), i ∈ l → l.countP q < l.countP p
  | [], h => by cases h
  | x :: l, h => by
    have hle : l.countP q ≤ l.countP p := List.countP_mono_left fun x _ => hpq x
    rcases List.mem_cons.1 h with rfl | h
    · simp only [List.countP_cons, hp, hq]; simp; omega
    · have := count_lt hpq hp hq l h
      simp only [List.countP_cons]
      have : (if q x = true then 1 else 0) ≤ (if p x = true then 1 else 0) := by
        by_cases hx : q x = true
        · simp [hx, hpq x hx]
        · simp [hx]
      omega
structure Apart (ai aj : AOper) (fi fj : List Nat) (ei ej : Ent) : Prop where
  di : ∀ d, ei.dst = some d → d ∉ aj.looks ∧ ej.dst ≠ some d
  dj : ∀ d, ej.dst = some d → d ∉ ai.looks ∧ ei.dst ≠ some d
  ij : ∀ x ∈ keys ei.r, x ∉ fj ∧ x ∉ keys ej.r
  ji : ∀ x ∈ keys ej.r, x ∉ fi ∧ x ∉ keys ei.r
theorem Apart.symm {ai aj : AOper} {fi fj : List Nat} {ei ej : Ent} (h : Apart ai aj fi fj ei ej) : Apart aj ai fj fi ej ei := ⟨h.dj, h.di, h.ji, h.ij⟩
theorem apartS_spec {a b : AOper} (h : apartS a b = true) : (∀ d, a.dst = some d → d ∉ b.looks ∧ b.dst ≠ some d) ∧ (∀ d, b.dst = some d → d ∉ a.looks ∧ a.dst ≠ some d) := by
  unfold apartS at h
  rw [Bool.and_eq_true] at h
  obtain ⟨h1, h2⟩ := h
  have key : ∀ d, a.dst = some d → d ∉ b.looks ∧ b.dst ≠ some d := fun d hd => by
    rw [hd] at h1
    simpa using h1
  refine ⟨key, fun d hd => ?_⟩
  rw [hd] at h2
  exact ⟨by simpa using h2, fun e => (key d e).2 hd⟩
theorem wregion_tr {ops : Array Oper} {as : List AOper} {Q : St → Prop} {R : Exit → Act → World → Prop} {σ : St} {a : Act} {w : World} {ob : Place} {G : Nat → Prop} {id : Nat}
    (hm : P.follows .mixedOrders = true) (hc : cregion P N ops true = some as) (hs : Sim N σ a w ob G) (h : ∃ (es : List Ent) (ft : List (List Nat × List Nat)), es.length = as.length ∧ ft.length = as.length ∧ Q (runL σ es) ∧
      ∀ i o, as[i]? = some o → ∃ e f, es[i]? = some e ∧ ft[i]? = some f ∧ e.dst = o.dst ∧ f = (foot (runL σ (es.take i)) o, keys e.r) ∧
        Does P o (runL σ (es.take i)) e.b e.r ∧ keepOff ([] ++ ft.take i) f.1 f.2 o.chk ∧ quietR o.op e.r)
    (hQ : ∀ τ a' w' ob' G', Q τ → Sim N τ a' w' ob' G' → Fr G w ob G' w' ob' → OBext ob ob' → R .normal a' w') : (Code.region id ops true).wp P R a w := by
  unfold cregion at hc
  split at hc
  case h_2 => cases hc
  rename_i as0 hcop
  rw [if_pos rfl] at hc
  split at hc
  case isFalse => cases hc
  rename_i hedge
  obtain ⟨hl0, hget0⟩ := copers_get hcop
  obtain ⟨hl1, hget1⟩ := anyForm_spec hc
  obtain ⟨es, ft, hle, hlf, hQn, htr⟩ := h
  have hn : as.length = ops.size := by rw [hl1, hl0]; simp
  -- the entries
  let E : Nat → Ent := fun i => es.getD i ⟨none, false, ⟨none, []⟩⟩
  have hE : ∀ k, k ≤ ops.size → atS E σ (fun _ => true) k = runL σ (es.take k) := fun k hk => atS_run k (by omega)
  have hEget : ∀ i e, es[i]? = some e → E i = e := fun i e he => by simp only [E, List.getD]; rw [he]; rfl
  let ms := maskL ops.toList []
  have hmask : ∀ S, Closed ops S → ∀ k i, (ms.getD k 0).testBit i = true → S k = true → S i = true := fun S hS =>
    (maskL_spec hS ops.toList [] (fun i o hi => by simpa using hi) (fun k i hb => by simp at hb)).2
  -- what the trace says of one operation
  have one : ∀ i, i < ops.size → ∃ o ao ao0 m f, ops[i]? = some o ∧ as0[i]? = some ao0 ∧ as[i]? = some ao ∧ ao = { ao0 with chk := chkOf m ao0 (as0.take i) 0 } ∧ ms[i]? = some m ∧
      coper P N ops o = some ao0 ∧ apartAll m ao0 (as0.take i) 0 = true ∧ (E i).dst = ao.dst ∧ ft[i]? = some f ∧ f = (foot (atS E σ (fun _ => true) i) ao, keys (E i).r) ∧
      Does P ao (atS E σ (fun _ => true) i) (E i).b (E i).r ∧ keepOff (ft.take i) f.1 f.2 ao.chk ∧ quietR ao.op (E i).r := fun i hi => by
    have ho : ops.toList[i]? = some ops[i] := by simp [hi]
    obtain ⟨ao0, g1, g2⟩ := hget0 i _ ho
    obtain ⟨m, g3, g4, g5⟩ := hget1 i ao0 g1
    obtain ⟨e, f, k1, k2, k3, k4, k5, k6⟩ := htr i _ g4
    have hEi := hEget i e k1
    rw [← hE i (by omega)] at k4 k5
    exact ⟨ops[i], _, ao0, m, f, by simpa using ho, g1, g4, by simp, g3, g2, by simpa using g5, by rw [hEi]; exact k3, k2, by rw [hEi]; exact k4, by rw [hEi]; exact k5, by simpa using k6.1, by rw [hEi]; exact k6.2⟩
  -- a pair that no edge orders
  have pair : ∀ i j, i < j → j < ops.size → (∃ m, ms[j]? = some m ∧ m.testBit i = false) → ∀ ai aj, as[i]? = some ai → as[j]? = some aj →
      Apart ai aj (foot (atS E σ (fun _ => true) i) ai) (foot (atS E σ (fun _ => true) j) aj) (E i) (E j) := fun i j hij hj hb ai aj hai haj => by
    obtain ⟨o, ao, ao0, m, f, p1, p2, p3, p4, p5, p6, p7, p8, p9, p10, p11, p12, p13⟩ := one j hj
    obtain ⟨o', ao', ao0', m', f', q1, q2, q3, q4, q5, q6, q7, q8, q9, q10, q11, q12, q13⟩ := one i (by omega)
    rw [hai] at q3; injection q3 with q3; subst q3
    rw [haj] at p3; injection p3 with p3; subst p3
    obtain ⟨m2, hm2, hbit⟩ := hb
    rw [p5] at hm2; injection hm2 with hm2; subst hm2
    have hgi : (as0.take j)[i]? = some ao0' := by rw [List.getElem?_take]; simp [hij, q2]
    have hap := (apartAll_spec p7 i ao0' hgi).resolve_left (by simp [hbit])
    obtain ⟨s1, s2⟩ := apartS_spec hap
    have dyn : (∀ x ∈ keys (E i).r, x ∉ foot (atS E σ (fun _ => true) j) aj ∧ x ∉ keys (E j).r) ∧ (∀ x ∈ keys (E j).r, x ∉ foot (atS E σ (fun _ => true) i) ai ∧ x ∉ keys (E i).r) := by
      cases hin : interplay ao0' ao0 with
      | true =>
        have hch := chkOf_spec (i := 0) i ao0' hgi (by simpa using hbit) hin
        obtain ⟨f2, k2, hf2, hd1, hd2⟩ := keepOff_spec p12 i (by rw [p4]; simpa using hch)
        rw [List.getElem?_take, if_pos hij, q9] at hf2
        injection hf2 with hf2
        rw [q10] at hf2; injection hf2 with e1 e2
        subst e1; subst e2
        rw [p10] at hd1 hd2
        simp only at hd1 hd2
        refine ⟨fun x hx => ?_, fun x hx => ?_⟩
        · have := hd2 x hx
          simpa [List.mem_append, not_or] using this
        · have := hd1 x hx
          simpa [List.mem_append, not_or] using this
      | false =>
        simp only [interplay, Bool.or_eq_false_iff, Bool.and_eq_false_iff] at hin
        have hopi : ai.op = ao0'.op := by rw [q4]
        have hopj : aj.op = ao0.op := by rw [p4]
        rw [← hopi, ← hopj] at hin
        obtain ⟨h1, h2⟩ := hin
        have quiet : ∀ (b : AOper) (τ : St) (c : Bool) (r : Res), Does P b τ c r → b.op.mayWrite = false → quietR b.op r → keys r = [] := fun b τ c r hd hw hq => hd.quiet hw hq
        have tch : ∀ op : AOp, op.touches = false → op.mayWrite = false := fun op ht => by
          cases hw : op.mayWrite with
          | false => rfl
          | true => rw [mayWrite_touches hw] at ht; cases ht
        refine ⟨fun x hx => ?_, fun x hx => ?_⟩
        · rcases h1 with h1 | h1
          · rw [quiet _ _ _ _ q11 h1 q13] at hx; cases hx
          · exact ⟨by rw [foot_quiet h1]; simp, by rw [quiet _ _ _ _ p11 (tch _ h1) p13]; simp⟩
        · rcases h2 with h2 | h2
          · rw [quiet _ _ _ _ p11 h2 p13] at hx; cases hx
          · exact ⟨by rw [foot_quiet h2]; simp, by rw [quiet _ _ _ _ q11 (tch _ h2) q13]; simp⟩
    refine ⟨fun d hd => ?_, fun d hd => ?_, dyn.1, dyn.2⟩
    · rw [q8, q4] at hd
      have := s1 d hd
      rw [p8, p4]; exact this
    · rw [p8, p4] at hd
      have := s2 d hd
      rw [q8, q4]; exact this
  -- the walk in any order
  have main : ∀ (fuel : Nat) (listed : Array Bool) (a' : Act) (w' : World) (ob' : Place) (G' : Nat → Prop), listed.size = ops.size →
      (List.range ops.size).countP (fun i => !listed.getD i false) ≤ fuel → Closed ops (fun i => listed.getD i false) →
      Sim N (atS E σ (fun i => listed.getD i false) ops.size) a' w' ob' G' → Fr G w ob G' w' ob' → OBext ob ob' → wpAny P .any ops R fuel listed a' w' := by
    intro fuel
    have final : ∀ (listed : Array Bool) (a' : Act) (w' : World) (ob' : Place) (G' : Nat → Prop), listed.size = ops.size → Region.ready .any ops listed = [] →
        Sim N (atS E σ (fun i => listed.getD i false) ops.size) a' w' ob' G' → Fr G w ob G' w' ob' → OBext ob ob' → R .normal a' w' := by
      intro listed a' w' ob' G' hsz hr hsim hfr hob
      have hall : ∀ i, i < ops.size → listed.getD i false = true := by
        intro i
        induction i using Nat.strongRecOn with
        | _ i ih =>
          intro hi
          by_cases hli : listed.getD i false = true
          · exact hli
          · exfalso
            have : i ∈ Region.ready .any ops listed := by
              rw [mem_ready]
              refine ⟨?_, ops[i], by simp [hi], fun e he hb => ?_⟩
              · have hlt : i < listed.size := by omega
                simp only [Array.getD_eq_getD_getElem?, Array.getElem?_eq_getElem hlt, Option.getD_some] at hli ⊢
                simpa using hli
              · have := edgesOk_spec hedge i ops[i] (by simp [hi]) e he hb
                exact ih e.on (by omega) (by omega)
            rw [hr] at this; cases this
      have heq : atS E σ (fun i => listed.getD i false) ops.size = runL σ es := by
        rw [atS_eq (S' := fun _ => true) ops.size (fun j hj => hall j hj), hE _ (Nat.le_refl _), List.take_of_length_le (by omega)]
      rw [heq] at hsim
      exact hQ _ a' w' ob' G' hQn hsim hfr hob
    induction fuel with
    | zero =>
      intro listed a' w' ob' G' hsz hcnt hcl hsim hfr hob
      have hr : Region.ready .any ops listed = [] := by
        cases hr : Region.ready .any ops listed with
        | nil => rfl
        | cons i rs =>
          exfalso
          have hi : i ∈ Region.ready .any ops listed := by rw [hr]; exact List.mem_cons_self ..
          obtain ⟨h0, o, ho, _⟩ := mem_ready.1 hi
          have hlt : i < ops.size := (Array.getElem?_eq_some_iff.1 ho).1
          have : 0 < (List.range ops.size).countP (fun i => !listed.getD i false) := by
            rw [List.countP_pos_iff]
            refine ⟨i, List.mem_range.2 hlt, ?_⟩
            have hlt' : i < listed.size := by omega
            simp only [Array.getD_eq_getD_getElem?, Array.getElem?_eq_getElem hlt', Option.getD_some] at h0 ⊢
            simpa using h0
          omega
      exact ⟨hr, final listed a' w' ob' G' hsz hr hsim hfr hob⟩
    | succ fuel ih =>
      intro listed a' w' ob' G' hsz hcnt hcl hsim hfr hob
      refine ⟨fun hr => final listed a' w' ob' G' hsz hr hsim hfr hob, fun j hj => ?_⟩
      obtain ⟨h0, o, ho, hedges⟩ := mem_ready.1 hj
      have hlt : j < ops.size := (Array.getElem?_eq_some_iff.1 ho).1
      have hlt' : j < listed.size := by omega
      have h0' : listed.getD j false = false := by
        simp only [Array.getD_eq_getD_getElem?, Array.getElem?_eq_getElem hlt', Option.getD_some] at h0 ⊢
        exact h0
      have hset : (fun i => (listed.setIfInBounds j true).getD i false) = fun i => if i = j then true else listed.getD i false := by
        funext i
        by_cases hij : i = j
        · subst hij; simp [hlt']
        · rw [getD_set_ne false (fun e => hij e.symm)]; simp [hij]
      have hcl' : Closed ops (fun i => (listed.setIfInBounds j true).getD i false) := by
        rw [hset]
        intro k o' ho' hk e he hb
        by_cases hej : e.on = j
        · simp [hej]
        · simp only [hej, if_false]
          by_cases hkj : k = j
          · subst hkj
            rw [ho] at ho'; injection ho' with ho'; subst ho'
            exact hedges e he hb
          · simp only [hkj, if_false] at hk
            exact hcl k o' ho' hk e he hb
      obtain ⟨o1, ao, ao0, m, f, p1, p2, p3, p4, p5, p6, p7, p8, p9, p10, p11, p12⟩ := one j hlt
      rw [ho] at p1; injection p1 with p1; subst p1
      -- the operations that are listed out of turn
      have odd : ∀ k, k < ops.size → k ≠ j → decide (k < j) ≠ listed.getD k false → ∀ ak, as[k]? = some ak →
          Apart ak ao (foot (atS E σ (fun _ => true) k) ak) (foot (atS E σ (fun _ => true) j) ao) (E k) (E j) := by
        intro k hk hkj hne ak hak
        rcases Nat.lt_or_gt_of_ne hkj with hlt2 | hgt
        · have hSk : listed.getD k false = false := by
            cases hs : listed.getD k false with
            | false => rfl
            | true => rw [hs, decide_eq_true hlt2] at hne; exact absurd rfl hne
          refine pair k j hlt2 hlt ⟨m, p5, ?_⟩ ak ao hak p3
          cases hbit : m.testBit k with
          | false => rfl
          | true =>
            have hj' := congrFun hset j
            have hk' := congrFun hset k
            simp only at hj' hk'
            have := hmask _ hcl' j k (by rw [List.getD, p5]; exact hbit) (by rw [hj']; simp)
            rw [hk', if_neg hkj, hSk] at this; cases this
        · have hSk : listed.getD k false = true := by
            cases hs : listed.getD k false with
            | true => rfl
            | false => rw [hs, decide_eq_false (by omega)] at hne; exact absurd rfl hne
          obtain ⟨_, _, _, m', _, _, _, _, _, q5, _⟩ := one k hk
          refine (pair j k hgt hk ⟨m', q5, ?_⟩ ao ak p3 hak).symm
          cases hbit : m'.testBit j with
          | false => rfl
          | true =>
            have := hmask _ hcl k j (by rw [List.getD, q5]; exact hbit) hSk
            rw [h0'] at this; cases this
      have hask : ∀ k, k < ops.size → ∃ ak, as[k]? = some ak := fun k hk => ⟨as[k]'(by omega), List.getElem?_eq_getElem _⟩
      -- the operation does here what it does in text order
      have hup : atS E σ (fun _ => true) j = atS E σ (fun i => decide (i < j)) ops.size := (atS_upto j ops.size (by omega)).symm
      have hdo : Does P ao (atS E σ (fun i => listed.getD i false) ops.size) (E j).b (E j).r := by
        refine does_m p11 (fun t ht => ?_) (fun x hx => ?_) (fun x hx => ?_)
        · rw [hup]
          refine atS_env ops.size fun k hk hne hd => ?_
          by_cases hkj : k = j
          · subst hkj; rw [h0', decide_eq_false (by omega)] at hne; exact hne rfl
          · obtain ⟨ak, hak⟩ := hask k hk
            exact ((odd k hk hkj hne ak hak).di t hd).1 ht
        · rw [hup]
          refine atS_objs ops.size fun k hk hne hd => ?_
          by_cases hkj : k = j
          · subst hkj; rw [h0', decide_eq_false (by omega)] at hne; exact hne rfl
          · obtain ⟨ak, hak⟩ := hask k hk
            exact ((odd k hk hkj hne ak hak).ij x hd).1 hx
        · rw [hup]
          refine atS_objs ops.size fun k hk hne hd => ?_
          by_cases hkj : k = j
          · subst hkj; rw [h0', decide_eq_false (by omega)] at hne; exact hne rfl
          · obtain ⟨ak, hak⟩ := hask k hk
            exact ((odd k hk hkj hne ak hak).ij x hd).2 hx
      have hdo0 : Does P ao0 (atS E σ (fun i => listed.getD i false) ops.size) (E j).b (E j).r := hdo.reclad (by rw [p4]) (by rw [p4]) (by rw [p4])
      have hd0 : ao0.dst = (E j).dst := by rw [p8, p4]
      have := does_ok (K := wpAny P .any ops R fuel (listed.setIfInBounds j true)) (Q := R) p6 hsim hdo0 (fun a2 w2 ob2 G2 s2 f2 e2 => by
        have hst : (atS E σ (fun i => listed.getD i false) ops.size).put ao0.dst (E j).b (E j).r = atS E σ (fun i => (listed.setIfInBounds j true).getD i false) ops.size := by
          rw [hset, atS_put h0' ops.size hlt]
          · rw [hd0]; rfl
          · intro k hjk hk hSk
            obtain ⟨ak, hak⟩ := hask k hk
            have hap := (odd k hk (by omega) (by rw [hSk, decide_eq_false (by omega)]; simp) ak hak).symm
            exact ⟨fun d hd => (hap.di d hd).2, fun x hx => (hap.ij x hx).2⟩
        rw [hst] at s2
        refine ih _ a2 w2 ob2 G2 (by simpa using hsz) ?_ hcl' s2 (hfr.trans f2) (hob.trans e2)
        have := count_lt (p := fun i => !listed.getD i false) (q := fun i => !(listed.setIfInBounds j true).getD i false) (i := j)
          (fun x hx => by
            by_cases hxj : x = j
            · subst hxj; simp [h0']
            · rw [getD_set_ne false (fun e => hxj e.symm)] at hx; exact hx)
          (by simp [h0']) (by simp [hlt']) (List.range ops.size) (List.mem_range.2 hlt)
        omega)
      unfold wpOp
      rw [ho]
      by_cases hw : Region.wanted o (yielded ops a'.tmps) = true
      · rw [if_pos hw] at this; simp only [hw, if_true]; exact .inl this
      · rw [if_neg hw] at this; simp only [hw]; exact this
  refine wp_region_any hm ?_
  have hsim0 : Sim N (atS E σ (fun i => (Array.replicate ops.size false).getD i false) ops.size) a { w with drawn := w.drawn + 1 } ob G := by
    have : atS E σ (fun i => (Array.replicate ops.size false).getD i false) ops.size = σ := by
      have key : ∀ k, atS E σ (fun i => (Array.replicate ops.size false).getD i false) k = σ := by
        intro k
        induction k with
        | zero => rfl
        | succ k ih =>
          simp only [atS]
          rw [ih]
          have : (Array.replicate ops.size false).getD k false = false := by
            simp only [Array.getD_eq_getD_getElem?, Array.getElem?_replicate]; split <;> rfl
          rw [this]; rfl
      exact key _
    rw [this]
    refine ⟨hs.size, hs.defers, hs.objs.heap_eq rfl, fun t av ht => ?_, hs.env0⟩
    obtain ⟨v, h1, h2⟩ := hs.env t av ht
    exact ⟨v, h1, h2.ext (fun _ h => h) (fun _ _ => rfl) (OBext.refl ob)⟩
  refine main ops.size _ a _ ob G (by simp) ?_ ?_ hsim0 (Fr.of_heap (Nat.le_refl _) (fun _ _ _ => rfl) (fun _ h => .inl h) rfl rfl rfl) (OBext.refl ob)
  · exact Nat.le_trans (List.countP_le_length) (by simp)
  · intro j o ho hj
    have : (Array.replicate ops.size false).getD j false = false := by
      simp only [Array.getD_eq_getD_getElem?, Array.getElem?_replicate]; split <;> rfl
    simp only [this] at hj; cases hj
theorem wregion_any {ops : Array Oper} {as : List AOper} {Q : St → Prop} {R : Exit → Act → World → Prop} {σ : St} {a : Act} {w : World} {ob : Place} {G : Nat → Prop} {id : Nat}
    (hm : P.follows .mixedOrders = true) (hc : cregion P N ops true = some as) (hs : Sim N σ a w ob G) (h : wany P as [] Q σ)
    (hQ : ∀ τ a' w' ob' G', Q τ → Sim N τ a' w' ob' G' → Fr G w ob G' w' ob' → OBext ob ob' → R .normal a' w') : (Code.region id ops true).wp P R a w :=
  wregion_tr hm hc hs (wany_trace as [] σ h) hQ
end
end Go.Abs
end
section
namespace Go.Abs
structure AVle (c c' : AV) : Prop where
  rel : ∀ G w ob v, Rel G w ob c v → Rel G w ob c' v
  flat : c.flat = true → c'.flat = true
  pure : c.pure = true → c'.pure = true
  one : c.one = true → c'.one = true
def AVleL : List AV → List AV → Prop
  | [], [] => True
  | a :: as, b :: bs => AVle a b ∧ AVleL as bs
  | _, _ => False
theorem AVle.refl (c : AV) : AVle c c := ⟨fun _ _ _ _ h => h, id, id, id⟩
theorem AVle.of_eq {c c' : AV} (h : c = c') : AVle c c' := h ▸ AVle.refl c
theorem AVleL.refl : ∀ (l : List AV), AVleL l l
  | [] => trivial
  | a :: l => ⟨AVle.refl a, AVleL.refl l⟩
theorem AVleL.of_eq {l l' : List AV} (h : l = l') : AVleL l l' := h ▸ AVleL.refl l
theorem AVleL.get : ∀ {l l' : List AV}, AVleL l l' → l'.length = l.length ∧ ∀ (j : Nat) (b : AV), l'[j]? = some b → ∃ a, l[j]? = some a ∧ AVle a b
  | [], [], _ => ⟨rfl, fun j b h => by simp at h⟩
  | a :: l, b :: l', h => by
    obtain ⟨h1, h2⟩ := AVleL.get h.2
    refine ⟨by simp [h1], fun j b' hj => ?_⟩
    cases j with
    | zero => simp only [List.getElem?_cons_zero, Option.some.injEq] at hj; subst hj; exact ⟨a, rfl, h.1⟩
    | succ j => simp only [List.getElem?_cons_succ] at hj; exact h2 j b' hj
  | [], _ :: _, h => h.elim
  | _ :: _, [], h => h.elim
theorem AVle.dsl {z n : Nat} {g g' : Nat → List AV} (h : ∀ i, i < n → AVleL (g i) (g' i)) : AVle (.dsl z n g) (.dsl z n g') := by
  refine ⟨fun G w ob v hr => ?_, id, id, id⟩
  cases hr with
  | dslNil => exact .dslNil
  | dslE a cap => exact .dslE a cap
  | dsl b off cap c hG hcap hlen hp hc hr =>
    refine .dsl b off cap c hG hcap (fun i hi => by rw [(h i hi).get.1]; exact hlen i hi) (fun i j av hi hj => ?_) hc (fun i j av hi hj => ?_)
    · obtain ⟨a, ha, hle⟩ := (h i hi).get.2 j av hj; exact hle.pure (hp i j a hi ha)
    · obtain ⟨a, ha, hle⟩ := (h i hi).get.2 j av hj; exact hle.rel _ _ _ _ (hr i j a hi ha)
theorem AVle.dslx {z n : Nat} {g g' : Nat → List AV} (h : ∀ i, i < n → AVleL (g i) (g' i)) : AVle (.dslx z n g) (.dslx z n g') := by
  refine ⟨fun G w ob v hr => ?_, id, id, id⟩
  cases hr with
  | dslxNil => exact .dslxNil
  | dslxE a => exact .dslxE a
  | dslx b off c hG hlen hp hc hr =>
    refine .dslx b off c hG (fun i hi => by rw [(h i hi).get.1]; exact hlen i hi) (fun i j av hi hj => ?_) hc (fun i j av hi hj => ?_)
    · obtain ⟨a, ha, hle⟩ := (h i hi).get.2 j av hj; exact hle.pure (hp i j a hi ha)
    · obtain ⟨a, ha, hle⟩ := (h i hi).get.2 j av hj; exact hle.rel _ _ _ _ (hr i j a hi ha)
theorem AVle.dslx_dsl {z n : Nat} {g : Nat → List AV} : AVle (.dslx z n g) (.dsl z n g) := by
  refine ⟨fun G w ob v hr => ?_, fun _ => rfl, fun _ => rfl, fun _ => rfl⟩
  cases hr with
  | dslxNil => exact .dslNil
  | dslxE a => exact .dslE a 0
  | dslx b off c hG hlen hp hc hr => exact .dsl b off n c hG (Nat.le_refl n) hlen hp hc hr
theorem AVle.nil {z : Nat} {g : Nat → List AV} : AVle (.sc (.slice none 0 0)) (.dsl z 0 g) := by
  refine ⟨fun G w ob v hr => ?_, fun _ => rfl, fun _ => rfl, fun _ => rfl⟩
  have := hr.sc_eq; subst this; exact .dslNil
theorem AVle.trans {a b c : AV} (h : AVle a b) (h' : AVle b c) : AVle a c :=
  ⟨fun G w ob v hr => h'.rel G w ob v (h.rel G w ob v hr), fun x => h'.flat (h.flat x), fun x => h'.pure (h.pure x), fun x => h'.one (h.one x)⟩
theorem AVle.agg {cs cs' : List AV} (h : AVleL cs cs') : AVle (.agg cs) (.agg cs') := by
  refine ⟨fun G w ob v hr => ?_, fun hf => ?_, fun hp => (by simp [AV.pure] at hp), fun hp => (by simp [AV.one] at hp)⟩
  · cases hr with
    | agg vs hn ho hrr =>
      refine .agg vs (by rw [hn, h.get.1]) (fun j av hj => ?_) (fun j av hj => ?_)
      · obtain ⟨a, ha, hle⟩ := h.get.2 j av hj; exact hle.one (ho j a ha)
      · obtain ⟨a, ha, hle⟩ := h.get.2 j av hj; exact hle.rel _ _ _ _ (hrr j a ha)
  · simp only [AV.flat, List.all_eq_true] at hf ⊢
    intro av hav
    obtain ⟨j, hj⟩ := List.getElem?_of_mem hav
    obtain ⟨a, ha, hle⟩ := h.get.2 j av hj
    exact hle.pure (hf a (List.mem_of_getElem? ha))
structure ObjLe (o o' : AObj) : Prop where
  rel : ∀ G w ob i, ObjRel G w ob i o → ObjRel G w ob i o'
  owned : o'.owned = true → o.owned = true
theorem ObjLe.refl (o : AObj) : ObjLe o o := ⟨fun _ _ _ _ h => h, id⟩
theorem ObjLe.of_eq {o o' : AObj} (h : o = o') : ObjLe o o' := h ▸ ObjLe.refl o
theorem InRow.le {G : Nat → Prop} {w : World} {ob : Place} {arr : Array Value} {z : Nat} {s s' : Sq} (h : InRow G w ob arr z s) (hn : s.n = s'.n) (hg : ∀ i, i < s.n → AVleL (s.g i) (s'.g i)) : InRow G w ob arr z s' := by
  refine ⟨fun i hi => ?_, fun i j av hi hj => ?_⟩
  · rw [← hn] at hi; rw [(hg i hi).get.1]; exact h.1 i hi
  · rw [← hn] at hi
    obtain ⟨a, ha, hle⟩ := (hg i hi).get.2 j av hj
    obtain ⟨h1, v, h2, h3⟩ := h.2 i j a hi ha
    exact ⟨hle.pure h1, v, h2, hle.rel _ _ _ _ h3⟩
theorem ObjLe.arr {z : Nat} {s s' : Sq} (hn : s.n = s'.n) (hg : ∀ i, i < s.n → AVleL (s.g i) (s'.g i)) : ObjLe (.arr z s) (.arr z s') := by
  refine ⟨fun G w ob i h => ?_, fun _ => rfl⟩
  obtain ⟨h0, h00, h1, h2, h3⟩ := h
  refine ⟨h0, h00, by rw [h1, hn], by rw [← hn]; exact h2, ?_⟩
  rcases h3 with ⟨h3, h4, h5⟩ | ⟨b, arr, T, h3, h4, h5, h6⟩
  · exact .inl ⟨h3, by rw [← hn]; exact h4, h5⟩
  · exact .inr ⟨b, arr, T, h3, h4, h5, h6.le hn hg⟩
theorem ObjLe.frz {z : Nat} {s s' : Sq} (hn : s.n = s'.n) (hg : ∀ i, i < s.n → AVleL (s.g i) (s'.g i)) : ObjLe (.frz z s) (.frz z s') := by
  refine ⟨fun G w ob i h => ?_, fun h => (by simp [AObj.owned] at h)⟩
  obtain ⟨h0, h00, h1, h2, h3⟩ := h
  refine ⟨h0, h00, by rw [h1, hn], by rw [← hn]; exact h2, ?_⟩
  rcases h3 with ⟨h3, h4, h5⟩ | ⟨b, arr, T, fz, h3, hG, h4, h6⟩
  · exact .inl ⟨h3, by rw [← hn]; exact h4, h5⟩
  · exact .inr ⟨b, arr, T, fz, h3, hG, h4, h6.le hn hg⟩
structure AVleP (c c' : AV) : Prop where
  rel : ∀ G w ob β v, CellP G w ob β c v → CellP G w ob β c' v
theorem AVleP.refl (c : AV) : AVleP c c := ⟨fun _ _ _ _ _ h => h⟩
theorem AVleP.own {z n : Nat} {g g' : Nat → List AV} (h : ∀ i, i < n → AVleL (g i) (g' i)) : AVleP (.own z n g) (.own z n g') := by
  refine ⟨fun G w ob β v hc => ?_⟩
  rcases hc with hc | ⟨b, cap, arr, T, h1, h2, h3, h4, h5, h6⟩
  · exact .inl hc
  · exact .inr ⟨b, cap, arr, T, h1, h2, h3, h4, h5, h6.le rfl h⟩
theorem AVleP.nil {z : Nat} {g : Nat → List AV} : AVleP (.sc (.slice none 0 0)) (.own z 0 g) := by
  refine ⟨fun G w ob β v hc => ?_⟩
  obtain ⟨_, h1, h2⟩ := hc
  have := h2.sc_eq
  exact .inl ⟨h1, rfl, .inl this⟩
theorem AVleP.pure {c c' : AV} (hp : c.pure = true) (h : AVle c c') : AVleP c c' := by
  have hp' := h.pure hp
  refine ⟨fun G w ob β v hc => ?_⟩
  have hc' : c.pure = true ∧ β = none ∧ Rel G w ob c v := by
    cases c with
    | own => simp [AV.pure] at hp
    | hole => simp [AV.pure] at hp
    | _ => exact hc
  have hr := h.rel _ _ _ _ hc'.2.2
  cases c' with
  | own => simp [AV.pure] at hp'
  | hole => simp [AV.pure] at hp'
  | _ => exact ⟨hp', hc'.2.1, hr⟩
def AVlePL : List AV → List AV → Prop
  | [], [] => True
  | a :: as, b :: bs => AVleP a b ∧ AVlePL as bs
  | _, _ => False
theorem AVlePL.get : ∀ {l l' : List AV}, AVlePL l l' → l'.length = l.length ∧ ∀ (j : Nat) (b : AV), l'[j]? = some b → ∃ a, l[j]? = some a ∧ AVleP a b
  | [], [], _ => ⟨rfl, fun j b h => by simp at h⟩
  | a :: l, b :: l', h => by
    obtain ⟨h1, h2⟩ := AVlePL.get h.2
    refine ⟨by simp [h1], fun j b' hj => ?_⟩
    cases j with
    | zero => simp only [List.getElem?_cons_zero, Option.some.injEq] at hj; subst hj; exact ⟨a, rfl, h.1⟩
    | succ j => simp only [List.getElem?_cons_succ] at hj; exact h2 j b' hj
  | [], _ :: _, h => h.elim
  | _ :: _, [], h => h.elim
theorem InRowP.le {G : Nat → Prop} {w : World} {ob : Place} {arr : Array Value} {z : Nat} {s s' : Sq} {β : Nat → Nat → Option Nat} (h : InRowP G w ob arr z s β) (hn : s.n = s'.n) (hg : ∀ i, i < s.n → AVlePL (s.g i) (s'.g i)) : InRowP G w ob arr z s' β := by
  refine ⟨fun i hi => ?_, fun i j av hi hj => ?_⟩
  · rw [← hn] at hi; rw [(hg i hi).get.1]; exact h.1 i hi
  · rw [← hn] at hi
    obtain ⟨a, ha, hle⟩ := (hg i hi).get.2 j av hj
    obtain ⟨v, h2, h3⟩ := h.2 i j a hi ha
    exact ⟨v, h2, hle.rel _ _ _ _ _ h3⟩
theorem ObjLe.arrP {z : Nat} {s s' : Sq} (hn : s.n = s'.n) (hg : ∀ i, i < s.n → AVlePL (s.g i) (s'.g i)) : ObjLe (.arrP z s) (.arrP z s') := by
  refine ⟨fun G w ob i h => ?_, fun _ => rfl⟩
  obtain ⟨h00, h1, h2, p, hk, h3⟩ := h
  refine ⟨h00, by rw [h1, hn], by rw [← hn]; exact h2, p, hk, ?_⟩
  rcases h3 with ⟨h3, h4, h5⟩ | ⟨b, arr, T, β, h3, h4, h5, h6, h7⟩
  · exact .inl ⟨h3, by rw [← hn]; exact h4, h5⟩
  · exact .inr ⟨b, arr, T, β, h3, h4, h5, h6.le hn hg, by rw [← hn]; exact h7⟩
inductive Mode where
  | share | thaw | adopt
abbrev Slots := List (Nat × Mode × AV)
def envT : Slots → Nat → Option (Bool × AV)
  | [], _ => none
  | (k, _, v) :: r, t => if t = k then some (true, v) else envT r t
theorem envT_true : ∀ {T : Slots} {t : Nat} {av : AV}, ¬ envT T t = some (false, av)
  | [], _, _, h => by simp [envT] at h
  | (k, _, v) :: r, t, av, h => by
    simp only [envT] at h
    split at h
    · simp at h
    · exact envT_true h
def stOf (T : Slots) (O : List (Nat × AObj)) : St := ⟨envT T, ofL O⟩
def slotsOk (σ : St) (ρ : Nat → Nat) (A : List Nat) (O : List (Nat × AObj)) : Slots → List (Nat × AObj) → (List (Nat × AObj) → Prop) → Prop
  | [], acc, K => K acc
  | (t, .share, c) :: r, acc, K => σ.env t = some (true, c.ren ρ) ∧ (∀ i ∈ c.ids, (ofL O i).isSome ∧ i ∉ A) ∧ slotsOk σ ρ A O r acc K
  | (t, .thaw, c) :: r, acc, K => match σ.env t with
    | some (b, av) => b = true ∧ (match freezeAV σ.objs av with
      | some (p, c1, w1) => p ∧ AVle c1 c ∧ slotsOk σ ρ A O r (acc ++ w1) K
      | none => False)
    | none => False
  | (t, .adopt, c) :: r, acc, K => σ.env t = some (true, .sc (.slice none 0 0)) ∧ (match c with | .sl x 0 0 0 => x ∈ A ∧ (ofL O x).isSome | _ => False) ∧ slotsOk σ ρ A O r acc K
inductive CellLe (ρ : Nat → Nat) (A : List Nat) (O : List (Nat × AObj)) : AV → AV → Prop
  | share {c : AV} (h : ∀ j ∈ c.ids, (ofL O j).isSome ∧ j ∉ A) : CellLe ρ A O (c.ren ρ) c
  | adopt {x : Nat} (h : x ∈ A) (ho : (ofL O x).isSome) : CellLe ρ A O (.sc (.slice none 0 0)) (.sl x 0 0 0)
  | le {c' c : AV} (h : c'.pure = true) (hle : AVle c' c) : CellLe ρ A O c' c
inductive BoxLe (ρ : Nat → Nat) (A : List Nat) (O : List (Nat × AObj)) : List AV → List AV → Prop
  | nil : BoxLe ρ A O [] []
  | cons {c' c : AV} {cs' cs : List AV} (h : CellLe ρ A O c' c) (hs : BoxLe ρ A O cs' cs) : BoxLe ρ A O (c' :: cs') (c :: cs)
theorem BoxLe.get {ρ : Nat → Nat} {A : List Nat} {O : List (Nat × AObj)} {cs' cs : List AV} (h : BoxLe ρ A O cs' cs) : cs'.length = cs.length ∧ ∀ (j : Nat) (c : AV), cs[j]? = some c → ∃ c', cs'[j]? = some c' ∧ CellLe ρ A O c' c := by
  induction h with
  | nil => exact ⟨rfl, fun j c h => by simp at h⟩
  | cons h hs ih =>
    refine ⟨by simp [ih.1], fun j c hj => ?_⟩
    cases j with
    | zero => simp only [List.getElem?_cons_zero, Option.some.injEq] at hj; subst hj; exact ⟨_, rfl, h⟩
    | succ j => exact ih.2 j c (by simpa using hj)
def ObjLeR (ρ : Nat → Nat) (A : List Nat) (O : List (Nat × AObj)) (o' o : AObj) : Prop :=
  (∃ cs' cs, o' = .box cs' ∧ o = .box cs ∧ BoxLe ρ A O cs' cs) ∨ ((∀ cs, o' ≠ .box cs) ∧ (∀ cs, o ≠ .box cs) ∧ (o' = o ∨ ObjLe o' o))
def objsOk (m : Nat → Option AObj) (ρ : Nat → Nat) (A : List Nat) (O : List (Nat × AObj)) : List (Nat × AObj) → Prop
  | [] => True
  | (i, o) :: r => (if i ∈ A then (match o with | .arr _ s => s.n = 0 | .arrP _ s => s.n = 0 | _ => False) else (match m (ρ i) with | some o' => ObjLeR ρ A O o' o | none => False)) ∧ objsOk m ρ A O r
def assoc : List (Nat × Nat) → Nat → Nat
  | [], i => i
  | (a, b) :: r, i => if i = a then b else assoc r i
structure WeakS (K : List Nat) (σ : St) (ρ : Nat → Nat) (A : List Nat) (T : Slots) (O : List (Nat × AObj)) : Prop where
  nodup : (O.map (·.1)).Nodup
  inj : ((O.map (·.1)).filter fun i => !A.contains i).map ρ |>.Nodup
  keep : ∀ k ∈ K, k ∉ A ∧ ρ k = k ∧ (ofL O k).isSome
  slots : slotsOk σ ρ A O T [] fun wr => objsOk (wrm σ.objs wr) ρ A O O
def obW (ob : Place) (ρ : Nat → Nat) (A : List Nat) (O : List (Nat × AObj)) : Place := fun i =>
  match ofL O i with
  | none => none
  | some o => if i ∈ A then some ⟨none, (match o with | .arr z _ => z | .arrP z _ => z | _ => 0), 0, 0, (match o with | .arrP .. => .priv fun _ => False | _ => .cells)⟩ else ob (ρ i)
section
variable {P : Program} {G : Nat → Prop} {w : World} {ob : Place} {N : Nat} {σ : St} {a : Act}
theorem slotsOk_ok {ρ : Nat → Nat} {A : List Nat} {O : List (Nat × AObj)} {Kp : List (Nat × AObj) → Prop} (hs : Sim N σ a w ob G) : ∀ (T : Slots) (acc : List (Nat × AObj)) (G1 : Nat → Prop),
    slotsOk σ ρ A O T acc Kp → SimO G1 w ob (wrm σ.objs acc) → Agree σ.objs (wrm σ.objs acc) → (∀ b, G b → G1 b) → (∀ b, G1 b → G b ∨ blks ob b) →
    ∃ acc' G2, Kp acc' ∧ SimO G2 w ob (wrm σ.objs acc') ∧ (∀ b, G1 b → G2 b) ∧ (∀ b, G2 b → G b ∨ blks ob b) ∧
      ∀ t av, envT T t = some (true, av) → ∃ v, a.tmps[t]? = some v ∧
        ((av.flat = true ∧ Rel G2 w ob av v) ∨ ((∀ i ∈ av.ids, (ofL O i).isSome ∧ i ∉ A) ∧ Rel G2 w ob (av.ren ρ) v) ∨ (∃ x, av = .sl x 0 0 0 ∧ x ∈ A ∧ (ofL O x).isSome ∧ v = .slice none 0 0))
  | [], acc, G1, h, h1, h2, h3, h4 => ⟨acc, G1, h, h1, fun _ h => h, h4, fun t av h => by simp [envT] at h⟩
  | (k, .share, c) :: r, acc, G1, h, h1, h2, h3, h4 => by
    obtain ⟨g1, g2, g3⟩ := h
    obtain ⟨acc', G2, k1, k2, k3, k4, k5⟩ := slotsOk_ok hs r acc G1 g3 h1 h2 h3 h4
    refine ⟨acc', G2, k1, k2, k3, k4, fun t av ht => ?_⟩
    simp only [envT] at ht
    split at ht
    · rename_i e; subst e
      simp only [Option.some.injEq, Prod.mk.injEq, true_and] at ht; subst ht
      obtain ⟨v, hv, hr⟩ := hs.env t _ g1
      exact ⟨v, hv, .inr (.inl ⟨g2, hr.ext (fun b hb => k3 b (h3 b hb)) (fun _ _ => rfl) (OBext.refl ob)⟩)⟩
    · exact k5 t av ht
  | (k, .thaw, c) :: r, acc, G1, h, h1, h2, h3, h4 => by
    simp only [slotsOk] at h
    split at h
    case h_2 => exact h.elim
    rename_i b av0 hk
    obtain ⟨rfl, h⟩ := h
    split at h
    case h_2 => exact h.elim
    rename_i p c1 w1 hf
    obtain ⟨hp, hle, hrest⟩ := h
    obtain ⟨v, hv, hr⟩ := hs.env k _ hk
    obtain ⟨G', b1, b2, b3, b4, b5, b6⟩ := freezeAV_ok hf hp h1 h2 (hr.ext h3 (fun _ _ => rfl) (OBext.refl ob))
    rw [← wrm_append] at b1 b2
    obtain ⟨acc', G2, k1, k2, k3, k4, k5⟩ := slotsOk_ok hs r (acc ++ w1) G' hrest b1 b2 (fun b hb => b3 b (h3 b hb)) (fun b hb => by
      rcases b4 b hb with h | h
      · exact h4 b h
      · exact .inr h)
    refine ⟨acc', G2, k1, k2, fun b hb => k3 b (b3 b hb), k4, fun t av ht => ?_⟩
    simp only [envT] at ht
    split at ht
    · rename_i e; subst e
      simp only [Option.some.injEq, Prod.mk.injEq, true_and] at ht; subst ht
      exact ⟨v, hv, .inl ⟨hle.flat b5, hle.rel _ _ _ _ (b6.ext k3 (fun _ _ => rfl) (OBext.refl ob))⟩⟩
    · exact k5 t av ht
  | (k, .adopt, c) :: r, acc, G1, h, h1, h2, h3, h4 => by
    obtain ⟨g1, g2, g3⟩ := h
    obtain ⟨acc', G2, k1, k2, k3, k4, k5⟩ := slotsOk_ok hs r acc G1 g3 h1 h2 h3 h4
    refine ⟨acc', G2, k1, k2, k3, k4, fun t av ht => ?_⟩
    simp only [envT] at ht
    split at ht
    · rename_i e; subst e
      simp only [Option.some.injEq, Prod.mk.injEq, true_and] at ht; subst ht
      obtain ⟨v, hv, hr⟩ := hs.env t _ g1
      split at g2
      · rename_i x
        exact ⟨v, hv, .inr (.inr ⟨x, rfl, g2.1, g2.2, hr.sc_eq⟩)⟩
      · exact g2.elim
    · exact k5 t av ht
theorem objsOk_get {m : Nat → Option AObj} {ρ : Nat → Nat} {A : List Nat} {O : List (Nat × AObj)} : ∀ {l : List (Nat × AObj)}, objsOk m ρ A O l → ∀ p ∈ l,
    (if p.1 ∈ A then (match p.2 with | .arr _ s => s.n = 0 | .arrP _ s => s.n = 0 | _ => False) else (match m (ρ p.1) with | some o' => ObjLeR ρ A O o' p.2 | none => False))
  | [], _, p, hp => by cases hp
  | (i, o) :: l, h, p, hp => by
    rcases List.mem_cons.1 hp with rfl | hp
    · exact h.1
    · exact objsOk_get h.2 p hp
theorem ofL_mem' {O : List (Nat × AObj)} (hn : (O.map (·.1)).Nodup) {i : Nat} {o : AObj} (h : ofL O i = some o) : (i, o) ∈ O := by
  rw [ofL_get O hn, Option.map_eq_some_iff] at h
  obtain ⟨p, hp, rfl⟩ := h
  have := List.find?_some hp
  simp only [beq_iff_eq] at this
  subst this
  exact List.mem_of_find?_eq_some hp
theorem nodup_map_inj {ρ : Nat → Nat} : ∀ {l : List Nat}, (l.map ρ).Nodup → ∀ i ∈ l, ∀ j ∈ l, ρ i = ρ j → i = j
  | [], _, i, hi, _, _, _ => by cases hi
  | x :: l, h, i, hi, j, hj, e => by
    simp only [List.map_cons, List.nodup_cons] at h
    rcases List.mem_cons.1 hi with rfl | hi'
    · rcases List.mem_cons.1 hj with rfl | hj'
      · rfl
      · exact absurd (e ▸ List.mem_map_of_mem hj') h.1
    · rcases List.mem_cons.1 hj with rfl | hj'
      · exact absurd (e ▸ List.mem_map_of_mem hi') h.1
      · exact nodup_map_inj h.2 i hi' j hj' e
theorem weak_ok {K : List Nat} {ρ : Nat → Nat} {A : List Nat} {T : Slots} {O : List (Nat × AObj)} (hs : Sim N σ a w ob G) (h : WeakS K σ ρ A T O) :
    ∃ ob2 G2, Sim N (stOf T O) a w ob2 G2 ∧ Fr G w ob G2 w ob2 ∧ ∀ k ∈ K, ob2 k = ob k := by
  obtain ⟨hnd, hinj, hkeep, hslots⟩ := h
  obtain ⟨wr, G2, hobj, hsim, hsub, hnew, henv⟩ := slotsOk_ok hs T [] G hslots hs.objs (Agree.refl _) (fun _ h => h) (fun _ h => .inl h)
  have hget : ∀ i o, ofL O i = some o → _ := fun i o hi => objsOk_get hobj (i, o) (ofL_mem' hnd hi)
  have hnA : ∀ i o, ofL O i = some o → i ∉ A → ∃ o', wrm σ.objs wr (ρ i) = some o' ∧ ObjLeR ρ A O o' o := fun i o hi hA => by
    have := hget i o hi
    rw [if_neg hA] at this
    simp only at this
    split at this
    · rename_i o' ho'; exact ⟨o', ho', this⟩
    · exact this.elim
  have hobW : ∀ i inf, obW ob ρ A O i = some inf → ∃ o, ofL O i = some o ∧ ((i ∈ A ∧ ∀ b, ¬ inf.has b) ∨ (i ∉ A ∧ ob (ρ i) = some inf)) := fun i inf hi => by
    unfold obW at hi
    split at hi
    · cases hi
    · rename_i o ho
      refine ⟨o, ho, ?_⟩
      split at hi
      · rename_i hA; simp only [Option.some.injEq] at hi; subst hi; exact .inl ⟨hA, fun b hb => by
          rcases hb with hb | hb
          · cases hb
          · unfold Info.pv at hb; cases o <;> exact hb⟩
      · rename_i hA; exact .inr ⟨hA, hi⟩
  have hin : ∀ i o, ofL O i = some o → i ∉ A → obW ob ρ A O i = ob (ρ i) := fun i o hi hA => by
    unfold obW; rw [hi]; simp [hA]
  have hmem : ∀ i o, ofL O i = some o → i ∉ A → i ∈ (O.map (·.1)).filter fun i => !A.contains i := fun i o hi hA => by
    rw [List.mem_filter]
    exact ⟨List.mem_map_of_mem (f := (·.1)) (ofL_mem' hnd hi), by simpa using hA⟩
  have hadopt : ∀ x, x ∈ A → (ofL O x).isSome → Rel G2 w (obW ob ρ A O) (.sl x 0 0 0) (.slice none 0 0) := fun x h1 h2 => by
    obtain ⟨o, ho⟩ := Option.isSome_iff_exists.1 h2
    have : ∃ z kd, obW ob ρ A O x = some ⟨none, z, 0, 0, kd⟩ := by
      unfold obW; simp only [ho, h1, if_true]; exact ⟨_, _, rfl⟩
    obtain ⟨z, kd, this⟩ := this
    exact .sl _ this (Nat.zero_le _) ⟨_, _, rfl⟩ fun _ => ⟨Nat.le_refl _, fun _ => .inl rfl, fun b hb => by cases hb⟩
  have hblk : ∀ b, blks (obW ob ρ A O) b → blks ob b := by
    rintro b ⟨i, inf, hi, hb⟩
    obtain ⟨o, ho, h⟩ := hobW i inf hi
    rcases h with ⟨_, h⟩ | ⟨_, h⟩
    · exact absurd hb (h b)
    · exact ⟨_, inf, h, hb⟩
  refine ⟨obW ob ρ A O, G2, ⟨hs.size, hs.defers, ⟨fun i => ?_, fun i j inf inf' b hi hj hb hb' => ?_, hsim.lt, fun i o inf ho hi => ?_, fun i o inf b ho how hi hb => ?_⟩, fun t av ht => ?_, fun t av ht => absurd ht envT_true⟩, ?_, fun k hk => ?_⟩
  · show ofL O i = none ↔ _
    constructor
    · intro h; unfold obW; rw [h]
    · intro h
      cases ho : ofL O i with
      | none => rfl
      | some o =>
        unfold obW at h
        rw [ho] at h
        simp only at h
        split at h
        · cases h
        · rename_i hA
          obtain ⟨o', h1, _⟩ := hnA i o ho hA
          rw [(hsim.dom _).2 h] at h1; cases h1
  · obtain ⟨o, ho, h⟩ := hobW i inf hi
    obtain ⟨o', ho', h'⟩ := hobW j inf' hj
    rcases h with ⟨_, h⟩ | ⟨hA, h⟩
    · exact absurd hb (h b)
    · rcases h' with ⟨_, h'⟩ | ⟨hA', h'⟩
      · exact absurd hb' (h' b)
      · exact nodup_map_inj hinj i (hmem i o ho hA) j (hmem j o' ho' hA') (hsim.inj _ _ _ _ b h h' hb hb')
  · have ho : ofL O i = some o := ho
    by_cases hA : i ∈ A
    · have h1 := hget i o ho
      rw [if_pos hA] at h1
      simp only at h1
      unfold obW at hi
      rw [ho] at hi
      simp only [hA, if_true, Option.some.injEq] at hi
      subst hi
      cases o with
      | arr z s => exact ⟨rfl, rfl, h1.symm, by show s.n ≤ 0; rw [h1]; exact Nat.le_refl 0, .inl ⟨rfl, h1, rfl⟩⟩
      | arrP z s => exact ⟨rfl, h1.symm, by show s.n ≤ 0; rw [h1]; exact Nat.le_refl 0, _, rfl, .inl ⟨rfl, h1, rfl, fun _ h => h⟩⟩
      | _ => exact h1.elim
    · rw [hin i o ho hA] at hi
      obtain ⟨o', h1, h2⟩ := hnA i o ho hA
      have hr := hsim.own _ _ inf h1 hi
      rcases h2 with ⟨cs', cs, rfl, rfl, hle⟩ | ⟨h2, h2', h3⟩
      · obtain ⟨g0, g1, g2, b, arr, T, g3, g4, g5, g6⟩ := hr
        obtain ⟨hlen, hcell⟩ := hle.get
        refine ⟨g0, g1, by rw [g2, hlen], b, arr, T, g3, g4, by rw [g5, hlen], fun j c hj => ?_⟩
        obtain ⟨c', hj', hcl⟩ := hcell j c hj
        obtain ⟨hone, v, hv, hrel⟩ := g6 j c' hj'
        cases hcl with
        | share hids =>
          rw [ren_one] at hone
          refine ⟨hone, v, hv, hrel.unren c rfl fun i hi => ?_⟩
          obtain ⟨h3, h4⟩ := hids i hi
          obtain ⟨o, ho⟩ := Option.isSome_iff_exists.1 h3
          exact hin i o ho h4
        | adopt hx hox =>
          refine ⟨rfl, v, hv, ?_⟩
          rw [hrel.sc_eq]
          exact hadopt _ hx hox
        | le hp hle => exact ⟨hle.one hone, v, hv, (hle.rel _ _ _ _ hrel).ob_free (hle.pure hp)⟩
      · have key : ObjRel G2 w (obW ob ρ A O) inf o' := by
          have hren : o'.ren ρ = o' := by cases o' with
            | box cs => exact absurd rfl (h2 cs)
            | _ => rfl
          exact ObjRel.unren (ob2 := ob) (ρ := ρ) (by rw [hren]; exact hr) fun cs hc => absurd hc (h2 cs)
        rcases h3 with rfl | h3
        · exact key
        · exact h3.rel _ _ _ _ key
  · have ho : ofL O i = some o := ho
    obtain ⟨o1, ho1, h⟩ := hobW i inf hi
    rcases h with ⟨_, h⟩ | ⟨hA, h⟩
    · exact absurd hb (h b)
    · obtain ⟨o', h1, h2⟩ := hnA i o ho hA
      refine hsim.sep _ o' inf b h1 ?_ h hb
      rcases h2 with ⟨cs', cs, rfl, rfl, _⟩ | ⟨_, _, rfl | h3⟩
      · rfl
      · exact how
      · exact h3.owned how
  · obtain ⟨v, hv, h⟩ := henv t av ht
    refine ⟨v, hv, ?_⟩
    rcases h with ⟨h1, h2⟩ | ⟨h1, h2⟩ | ⟨x, rfl, h1, h2, rfl⟩
    · exact h2.flat_free h1
    · refine h2.unren av rfl fun i hi => ?_
      obtain ⟨h3, h4⟩ := h1 i hi
      obtain ⟨o, ho⟩ := Option.isSome_iff_exists.1 h3
      exact hin i o ho h4
    · exact hadopt x h1 h2
  · exact ⟨Nat.le_refl _, fun _ _ _ => rfl, fun b hb => .inl (hblk b hb), hsub, fun b hb => (hnew b hb).imp id .inr, rfl, rfl, rfl, Nat.le_refl _⟩
  · obtain ⟨h1, h2, h3⟩ := hkeep k hk
    obtain ⟨o, ho⟩ := Option.isSome_iff_exists.1 h3
    rw [hin k o ho h1, h2]
end
end Go.Abs
end
section
namespace Go.Abs
inductive ACode where
  | skip
  | region (draw : Bool) (ops : List AOper)
  | seq (a b : ACode)
  | cond (c : AX) (a b : ACode)
  | block (id : Nat) (a : ACode)
  | loop (a : ACode)
  | exit (id : Nat)
  | ret
  | mark (a : ACode)
  | scope (a : ACode)
def ACode.strip : ACode → ACode
  | .seq a b => .seq a.strip b.strip
  | .cond c a b => .cond c a.strip b.strip
  | .block id a => .block id a.strip
  | .loop a => .loop a.strip
  | .mark a => a.strip
  | .scope a => .scope a.strip
  | c => c
def compile (P : Program) (N : Nat) : Code → Option ACode
  | .skip => some .skip
  | .region _ ops draw => match cregion P N ops draw with
    | some as => some (.region draw as)
    | none => none
  | .seq a b => match compile P N a, compile P N b with
    | some x, some y => some (.seq x y)
    | _, _ => none
  | .cond c a b => match cx c, compile P N a, compile P N b with
    | some k, some x, some y => some (.cond k x y)
    | _, _, _ => none
  | .block id a => match compile P N a with
    | some x => some (.block id x)
    | none => none
  | .loop a => match compile P N a with
    | some x => some (.loop x)
    | none => none
  | .scope a => match compile P N a with
    | some x => some (.scope x)
    | none => none
  | .exit id => some (.exit id)
  | .label _ => some .skip
  | .ret => some .ret
  | _ => none
inductive Out where
  | normal | exit (id : Nat) | ret
def Out.then (a : St → Prop) (Q : Out → St → Prop) : Out → St → Prop
  | .normal, σ => a σ
  | .exit i, σ => Q (.exit i) σ
  | .ret, σ => Q .ret σ
def Out.inBlock (id : Nat) (Q : Out → St → Prop) : Out → St → Prop
  | .normal, σ => Q .normal σ
  | .exit i, σ => if i = id then Q .normal σ else Q (.exit i) σ
  | .ret, σ => Q .ret σ
@[congr] theorem Out.then_congr {a : St → Prop} {Q : Out → St → Prop} {o o' : Out} {σ σ' : St} (h : o = o') (hs : σ = σ') : Out.then a Q o σ = Out.then a Q o' σ' := by rw [h, hs]
@[congr] theorem Out.inBlock_congr {id : Nat} {Q : Out → St → Prop} {o o' : Out} {σ σ' : St} (h : o = o') (hs : σ = σ') : Out.inBlock id Q o σ = Out.inBlock id Q o' σ' := by rw [h, hs]
def Out.exit' : Out → Exit
  | .normal => .normal
  | .exit i => .exit i
  | .ret => .ret
structure Start where
  G : Nat → Prop
  w : World
  ob : Place
structure Since (K : List Nat) (Γ : Start) (G : Nat → Prop) (w : World) (ob : Place) : Prop where
  fr : Fr Γ.G Γ.w Γ.ob G w ob
  ext : OBx (· ∈ K) Γ.ob ob
def lift (K : List Nat) (N : Nat) (Γ : Start) (Q : Out → St → Prop) : Exit → Act → World → Prop := fun e a w =>
  ∃ o σ ob G, e = Out.exit' o ∧ Q o σ ∧ Sim N σ a w ob G ∧ Since K Γ G w ob
def Wp (P : Program) (N : Nat) (K : List Nat) (ac : ACode) (Q : Out → St → Prop) (σ : St) : Prop :=
  ∀ c, compile P N c = some ac.strip → ∀ (Γ : Start) (a : Act) (w : World) (ob : Place) (G : Nat → Prop), Sim N σ a w ob G → Since K Γ G w ob → c.wp P (lift K N Γ Q) a w
def W (P : Program) (N : Nat) (K : List Nat) : ACode → (Out → St → Prop) → St → Prop
  | .skip, Q, σ => Q .normal σ
  | .region false ops, Q, σ => wseq P ops (Q .normal) σ
  | .region true ops, Q, σ => wany P ops [] (Q .normal) σ
  | .seq a b, Q, σ => W P N K a (Out.then (W P N K b Q) Q) σ
  | .cond c a b, Q, σ => match σ.ev c with
    | some (true, .sc (.bool t)) => if t = true then W P N K a Q σ else W P N K b Q σ
    | _ => False
  | .block id a, Q, σ => W P N K a (Out.inBlock id Q) σ
  | .loop a, Q, σ => Wp P N K (.loop a) Q σ
  | .exit id, Q, σ => Q (.exit id) σ
  | .ret, Q, σ => Q .ret σ
  | .mark a, Q, σ => Wp P N K a Q σ
  | .scope a, Q, σ => W P N K a Q σ
@[congr] theorem W_congr {P : Program} {N : Nat} {K : List Nat} {c : ACode} {Q : Out → St → Prop} {σ σ' : St} (h : σ = σ') : W P N K c Q σ = W P N K c Q σ' := by rw [h]
@[congr] theorem Wp_congr {P : Program} {N : Nat} {K : List Nat} {c : ACode} {Q : Out → St → Prop} {σ σ' : St} (h : σ = σ') : Wp P N K c Q σ = Wp P N K c Q σ' := by rw [h]
def WeakE (K : List Nat) (σ : St) (T : Slots) (O : List (Nat × AObj)) : Prop := ∃ ρ A, WeakS K σ ρ A T O
section
variable {P : Program} {N : Nat} {K : List Nat}
theorem OBx.trans {K : Nat → Prop} {o1 o2 o3 : Place} (h : OBx K o1 o2) (h' : OBx K o2 o3) : OBx K o1 o3 := by
  intro id i hk hi
  obtain ⟨i', hi', h1⟩ := h id i hk hi
  obtain ⟨i'', hi'', h2⟩ := h' id i' hk hi'
  refine ⟨i'', hi'', ?_⟩
  rcases h1 with rfl | ⟨p, q, h1, rfl⟩ | ⟨h1, m1⟩
  · exact h2
  · rcases h2 with rfl | ⟨p', q', h2, rfl⟩ | ⟨h2, m2⟩
    · exact .inr (.inl ⟨p, q, h1, rfl⟩)
    · exact .inr (.inl ⟨p, q', h1, rfl⟩)
    · exact .inr (.inr ⟨h2, by rw [h1]; simp⟩)
  · rcases h2 with rfl | ⟨p', q', h2, rfl⟩ | ⟨h2, m2⟩
    · exact .inr (.inr ⟨h1, m1⟩)
    · exact .inr (.inr ⟨h1, m1⟩)
    · exact .inr (.inr ⟨Nat.lt_trans h1 h2, m1⟩)
theorem Since.step {Γ : Start} {G G' : Nat → Prop} {w w' : World} {ob ob' : Place} (h : Since K Γ G w ob) (hf : Fr G w ob G' w' ob') (he : OBext ob ob') : Since K Γ G' w' ob' :=
  ⟨h.fr.trans hf, h.ext.trans fun id i _ hi => he id i hi⟩
theorem Wp.mono {ac : ACode} {Q Q' : Out → St → Prop} {σ : St} (h : Wp P N K ac Q σ) (hq : ∀ o σ, Q o σ → Q' o σ) : Wp P N K ac Q' σ :=
  fun c hc Γ a w ob G hs hΓ => wp_mono (h c hc Γ a w ob G hs hΓ) fun _ _ _ ⟨o, σ, ob, G, h1, h2, h3, h4⟩ => ⟨o, σ, ob, G, h1, hq o σ h2, h3, h4⟩
theorem Wp.of_W (hm : P.follows .mixedOrders = true) : ∀ (ac : ACode) {Q : Out → St → Prop} {σ : St}, W P N K ac Q σ → Wp P N K ac Q σ
  | .skip, Q, σ, h => fun c hc Γ a w ob G hs hΓ => by
    have hn : lift K N Γ Q .normal a w := ⟨.normal, σ, ob, G, rfl, h, hs, hΓ⟩
    cases c <;> simp only [compile, ACode.strip, Option.some.injEq, reduceCtorEq] at hc
    case skip => exact wp_skip hn
    case label => exact wp_label hn
    all_goals (repeat' split at hc) <;> simp at hc
  | .region d ops, Q, σ, h => fun c hc Γ a w ob G hs hΓ => by
    cases c <;> simp only [compile, ACode.strip, Option.some.injEq, reduceCtorEq] at hc
    case region id os draw =>
      split at hc
      · rename_i as has
        simp only [Option.some.injEq, ACode.region.injEq] at hc
        obtain ⟨rfl, rfl⟩ := hc
        cases draw with
        | true => exact wregion_any hm has hs h fun τ a' w' ob' G' hq s f e => ⟨.normal, τ, ob', G', rfl, hq, s, hΓ.step f e⟩
        | false =>
          unfold cregion at has
          split at has
          · rename_i as' hcop
            simp only [Bool.false_eq_true, if_false, Option.some.injEq] at has
            subst has
            refine wp_region ?_
            have := wseq_ok (Q := Q .normal) (R := lift K N Γ Q) os.toList as' 0 σ a w ob G hcop (fun i o hi => by simpa using hi) hs h
              (fun τ a' w' ob' G' hq s f e => ⟨.normal, τ, ob', G', rfl, hq, s, hΓ.step f e⟩)
            rw [List.range_eq_range']; simpa using this
          · cases has
      · cases hc
    all_goals (repeat' split at hc) <;> simp at hc
  | .seq x y, Q, σ, h => fun c hc Γ a w ob G hs hΓ => by
    cases c <;> simp only [compile, ACode.strip, Option.some.injEq, reduceCtorEq] at hc
    case seq c1 c2 =>
      split at hc
      · rename_i x' y' h1 h2
        simp only [Option.some.injEq, ACode.seq.injEq] at hc
        obtain ⟨rfl, rfl⟩ := hc
        refine wp_seq (wp_mono (Wp.of_W hm x h c1 h1 Γ a w ob G hs hΓ) ?_)
        rintro e a' w' ⟨o, τ, ob', G', rfl, hq, s, hΓ'⟩
        cases o with
        | normal => exact Wp.of_W hm y hq c2 h2 Γ a' w' ob' G' s hΓ'
        | exit i => exact ⟨.exit i, τ, ob', G', rfl, hq, s, hΓ'⟩
        | ret => exact ⟨.ret, τ, ob', G', rfl, hq, s, hΓ'⟩
      · cases hc
    all_goals (repeat' split at hc) <;> simp at hc
  | .cond k x y, Q, σ, h => fun c hc Γ a w ob G hs hΓ => by
    cases c <;> simp only [compile, ACode.strip, Option.some.injEq, reduceCtorEq] at hc
    case cond c0 c1 c2 =>
      split at hc
      · rename_i k' x' y' h0 h1 h2
        simp only [Option.some.injEq, ACode.cond.injEq] at hc
        obtain ⟨rfl, rfl, rfl⟩ := hc
        simp only [W] at h
        split at h
        · rename_i t ht
          have hv : a.eval c0 = .bool t := (hs.opRel c0 k' (.sc (.bool t)) h0 (by simp [St.e', ht])).sc_eq
          refine wp_cond hv ?_
          cases t with
          | true => rw [if_pos rfl] at h; exact Wp.of_W hm x h c1 h1 Γ a w ob G hs hΓ
          | false => rw [if_neg (by simp)] at h; exact Wp.of_W hm y h c2 h2 Γ a w ob G hs hΓ
        · exact h.elim
      · cases hc
    all_goals (repeat' split at hc) <;> simp at hc
  | .block id x, Q, σ, h => fun c hc Γ a w ob G hs hΓ => by
    cases c <;> simp only [compile, ACode.strip, Option.some.injEq, reduceCtorEq] at hc
    case block id' c1 =>
      split at hc
      · rename_i x' h1
        simp only [Option.some.injEq, ACode.block.injEq] at hc
        obtain ⟨rfl, rfl⟩ := hc
        refine wp_block (wp_mono (Wp.of_W hm x h c1 h1 Γ a w ob G hs hΓ) ?_)
        rintro e a' w' ⟨o, τ, ob', G', rfl, hq, s, hΓ'⟩
        cases o with
        | normal => exact ⟨.normal, τ, ob', G', rfl, hq, s, hΓ'⟩
        | exit i =>
          simp only [Out.exit', Exit.inBlock]
          simp only [Out.inBlock] at hq
          split
          · rename_i e; rw [if_pos e] at hq; exact ⟨.normal, τ, ob', G', rfl, hq, s, hΓ'⟩
          · rename_i e; rw [if_neg e] at hq; exact ⟨.exit i, τ, ob', G', rfl, hq, s, hΓ'⟩
        | ret => exact ⟨.ret, τ, ob', G', rfl, hq, s, hΓ'⟩
      · cases hc
    all_goals (repeat' split at hc) <;> simp at hc
  | .scope x, Q, σ, h => fun c hc Γ a w ob G hs hΓ => by
    cases c <;> simp only [compile, ACode.strip, Option.some.injEq, reduceCtorEq] at hc
    case scope c1 =>
      split at hc
      · rename_i x' h1
        simp only [Option.some.injEq, ACode.scope.injEq] at hc
        obtain rfl := hc
        refine wp_scope_straight (wp_mono (Wp.of_W hm x h c1 h1 Γ a w ob G hs hΓ) ?_)
        rintro e a' w' ⟨o, τ, ob', G', rfl, hq, s, hΓ'⟩
        cases o <;> exact ⟨_, τ, ob', G', rfl, hq, s, hΓ'⟩
      · cases hc
    all_goals (repeat' split at hc) <;> simp at hc
  | .loop x, Q, σ, h => h
  | .exit id, Q, σ, h => fun c hc Γ a w ob G hs hΓ => by
    cases c <;> simp only [compile, ACode.strip, Option.some.injEq, reduceCtorEq] at hc
    case exit id' =>
      simp only [ACode.exit.injEq] at hc; subst hc
      exact wp_exit ⟨.exit id', σ, ob, G, rfl, h, hs, hΓ⟩
    all_goals (repeat' split at hc) <;> simp at hc
  | .ret, Q, σ, h => fun c hc Γ a w ob G hs hΓ => by
    cases c <;> simp only [compile, ACode.strip, Option.some.injEq, reduceCtorEq] at hc
    case ret => exact wp_ret ⟨.ret, σ, ob, G, rfl, h, hs, hΓ⟩
    all_goals (repeat' split at hc) <;> simp at hc
  | .mark x, Q, σ, h => fun c hc => h c hc
theorem Wp.seq {x y : ACode} {Q : Out → St → Prop} {σ : St} (h : Wp P N K x (Out.then (Wp P N K y Q) Q) σ) : Wp P N K (.seq x y) Q σ := by
  intro c hc Γ a w ob G hs hΓ
  cases c <;> simp only [compile, ACode.strip, Option.some.injEq, reduceCtorEq] at hc
  case seq c1 c2 =>
    split at hc
    · rename_i x' y' h1 h2
      simp only [Option.some.injEq, ACode.seq.injEq] at hc
      obtain ⟨rfl, rfl⟩ := hc
      refine wp_seq (wp_mono (h c1 h1 Γ a w ob G hs hΓ) ?_)
      rintro e a' w' ⟨o, τ, ob', G', rfl, hq, s, hΓ'⟩
      cases o with
      | normal => exact hq c2 h2 Γ a' w' ob' G' s hΓ'
      | exit i => exact ⟨.exit i, τ, ob', G', rfl, hq, s, hΓ'⟩
      | ret => exact ⟨.ret, τ, ob', G', rfl, hq, s, hΓ'⟩
    · cases hc
  all_goals (repeat' split at hc) <;> simp at hc
theorem Wp.block {id : Nat} {x : ACode} {Q : Out → St → Prop} {σ : St} (h : Wp P N K x (Out.inBlock id Q) σ) : Wp P N K (.block id x) Q σ := by
  intro c hc Γ a w ob G hs hΓ
  cases c <;> simp only [compile, ACode.strip, Option.some.injEq, reduceCtorEq] at hc
  case block id' c1 =>
    split at hc
    · rename_i x' h1
      simp only [Option.some.injEq, ACode.block.injEq] at hc
      obtain ⟨rfl, rfl⟩ := hc
      refine wp_block (wp_mono (h c1 h1 Γ a w ob G hs hΓ) ?_)
      rintro e a' w' ⟨o, τ, ob', G', rfl, hq, s, hΓ'⟩
      cases o with
      | normal => exact ⟨.normal, τ, ob', G', rfl, hq, s, hΓ'⟩
      | exit i =>
        simp only [Out.exit', Exit.inBlock]
        simp only [Out.inBlock] at hq
        split
        · rename_i e; rw [if_pos e] at hq; exact ⟨.normal, τ, ob', G', rfl, hq, s, hΓ'⟩
        · rename_i e; rw [if_neg e] at hq; exact ⟨.exit i, τ, ob', G', rfl, hq, s, hΓ'⟩
      | ret => exact ⟨.ret, τ, ob', G', rfl, hq, s, hΓ'⟩
    · cases hc
  all_goals (repeat' split at hc) <;> simp at hc
theorem Wp.loop {x : ACode} {Q : Out → St → Prop} {σ : St} {ι : Type} (T : ι → Slots) (O : ι → List (Nat × AObj)) (μ : ι → Nat) (i0 : ι) (h0 : WeakE K σ (T i0) (O i0))
    (h : ∀ i, Wp P N K x (Out.then (fun τ => ∃ i', μ i' < μ i ∧ WeakE K τ (T i') (O i')) Q) (stOf (T i) (O i))) : Wp P N K (.loop x) Q σ := by
  intro c hc Γ a w ob G hs hΓ
  cases c <;> simp only [compile, ACode.strip, Option.some.injEq, reduceCtorEq] at hc
  case loop c1 =>
    split at hc
    · rename_i x' h1
      simp only [Option.some.injEq, ACode.loop.injEq] at hc
      obtain rfl := hc
      have enter : ∀ (τ : St) (a' : Act) (w' : World) (ob' : Place) (G' : Nat → Prop) (i : ι), WeakE K τ (T i) (O i) → Sim N τ a' w' ob' G' → Since K Γ G' w' ob' →
          ∃ ob2 G2, Sim N (stOf (T i) (O i)) a' w' ob2 G2 ∧ Since K Γ G2 w' ob2 := by
        rintro τ a' w' ob' G' i ⟨ρ, A, hw⟩ s hΓ'
        obtain ⟨ob2, G2, g1, g2, g3⟩ := weak_ok s hw
        exact ⟨ob2, G2, g1, hΓ'.fr.trans g2, hΓ'.ext.trans fun id j hk hi => ⟨j, by rw [g3 id hk]; exact hi, .inl rfl⟩⟩
      intro b k cs
      have key : ∀ n i, μ i = n → ∀ (a' : Act) (w' : World) (ob' : Place) (G' : Nat → Prop), Sim N (stOf (T i) (O i)) a' w' ob' G' → Since K Γ G' w' ob' →
          ∃ e a2 w2, lift K N Γ Q e a2 w2 ∧ Arrives P (lone (b.at a' (.code c1 :: .inLoop c1 :: k)) cs w') b k cs e a2 w2 := by
        intro n
        induction n using Nat.strongRecOn with
        | _ n ih =>
          intro i hn a' w' ob' G' hs' hΓ'
          obtain ⟨e, a1, w1, hq, harr⟩ := h i c1 h1 Γ a' w' ob' G' hs' hΓ' b (.inLoop c1 :: k) cs
          obtain ⟨o, τ, ob1, G1, rfl, hq, s, hΓ1⟩ := hq
          cases o with
          | normal =>
            obtain ⟨i', hlt, hw⟩ := hq
            obtain ⟨ob2, G2, s2, hΓ2⟩ := enter τ a1 w1 ob1 G1 i' hw s hΓ1
            obtain ⟨e2, a2, w2, hq2, harr2⟩ := ih (μ i') (hn ▸ hlt) i' rfl a1 w1 ob2 G2 s2 hΓ2
            exact ⟨e2, a2, w2, hq2, .of_steps (Steps.trans harr (.one step_inLoop)) harr2⟩
          | exit id => exact ⟨.exit id, a1, w1, ⟨.exit id, τ, ob1, G1, rfl, hq, s, hΓ1⟩, .pass (x := .inLoop c1) rfl (fun _ _ => .inl (by simp)) harr⟩
          | ret => exact ⟨.ret, a1, w1, ⟨.ret, τ, ob1, G1, rfl, hq, s, hΓ1⟩, .pass (x := .inLoop c1) rfl (fun _ _ => .inl (by simp)) harr⟩
      obtain ⟨ob2, G2, s2, hΓ2⟩ := enter σ a w ob G i0 h0 hs hΓ
      obtain ⟨e, a', w', hq, harr⟩ := key _ i0 rfl a w ob2 G2 s2 hΓ2
      exact ⟨e, a', w', hq, .of_steps (.one step_loop) harr⟩
    · cases hc
  all_goals (repeat' split at hc) <;> simp at hc
end
end Go.Abs
end
section
namespace Go.Abs
def argSlots : Nat → List AV → Slots
  | _, [] => []
  | i, v :: vs => (i, .share, v) :: argSlots (i + 1) vs
def start (args : List AV) (O : List (Nat × AObj)) : St := stOf (argSlots 0 args) O
def pack : List AV → AV
  | [r] => r
  | rs => .tup rs
def zip3 : List Nat → List Mode → List AV → Slots
  | t :: ts, m :: ms, r :: rs => (t, m, r) :: zip3 ts ms rs
  | _, _, _ => []
def RetW (K : List Nat) (σ : St) (ts : List Nat) (rs : List AV) (O : List (Nat × AObj)) : Prop := ∃ md, md.length = ts.length ∧ rs.length = ts.length ∧ WeakE K σ (zip3 ts md rs) O
def retQ (K : List Nat) (ts : List Nat) (R : List AV → List (Nat × AObj) → Prop) (o : Out) (σ : St) : Prop :=
  match o with
  | .exit _ => False
  | .normal => ∃ rs O, R rs O ∧ RetW K σ ts rs O
  | .ret => ∃ rs O, R rs O ∧ RetW K σ ts rs O
def tmpsOf : List ResultVar → Option (List Nat)
  | [] => some []
  | .tmp t :: r => match tmpsOf r with
    | some ts => some (t :: ts)
    | none => none
  | .cell .. :: _ => none
section
variable {P : Program} {N : Nat} {K : List Nat}
theorem tmpsOf_eq : ∀ {l : List ResultVar} {ts : List Nat}, tmpsOf l = some ts → l = ts.map .tmp
  | [], ts, h => by simp only [tmpsOf, Option.some.injEq] at h; subst h; rfl
  | .tmp t :: r, ts, h => by
    simp only [tmpsOf] at h
    split at h
    · rename_i ts' h1
      simp only [Option.some.injEq] at h; subst h
      rw [tmpsOf_eq h1]; rfl
    · cases h
  | .cell a b :: r, ts, h => by simp [tmpsOf] at h
theorem results_run {fn : Func} {ts : List Nat} (h : tmpsOf fn.results.toList = some ts) (tmps : Array Value) (w : World) :
    ∃ v, (results fn tmps).run P w = .ok v w ∧ v = (match ts.map (fun t => tmps.getD t undef) with | [x] => x | vs => .tuple vs.toArray) := by
  have h1 : fn.results = (ts.map ResultVar.tmp).toArray := by rw [← tmpsOf_eq h]
  have h2 : ∀ (f : ResultVar → Sem Value), (∀ t, f (.tmp t) = pure (tmps.getD t undef)) → ∀ ts : List Nat, (ts.map ResultVar.tmp).mapM f = pure (ts.map fun t => tmps.getD t undef) := by
    intro f hf ts
    induction ts with
    | nil => rfl
    | cons t ts ih => simp only [List.map_cons, List.mapM_cons, ih, hf, pure_bind]
  refine ⟨_, ?_, rfl⟩
  unfold results
  rw [h1, List.mapM_toArray, h2 _ (fun t => rfl)]
  simp only [map_pure, pure_bind]
  cases ts with
  | nil => rfl
  | cons t ts => cases ts with
    | nil => rfl
    | cons u us => rfl
theorem envT_argSlots : ∀ (args : List AV) (i t : Nat), envT (argSlots i args) t = if i ≤ t then (args[t - i]?).map (fun v => (true, v)) else none
  | [], i, t => by simp [argSlots, envT]
  | v :: vs, i, t => by
    simp only [argSlots, envT, envT_argSlots vs (i + 1) t]
    by_cases h : t = i
    · subst h; simp
    · rw [if_neg h]
      by_cases h2 : i ≤ t
      · rw [if_pos h2, if_pos (by omega)]
        have : t - i = (t - (i + 1)) + 1 := by omega
        rw [this, List.getElem?_cons_succ]
      · rw [if_neg h2, if_neg (by omega)]
theorem start_sim {args : List AV} {O : List (Nat × AObj)} {G : Nat → Prop} {w : World} {ob : Place} {vals : List Value} (hs : SimO G w ob (ofL O)) (hr : RelL G w ob args vals) (hl : args.length ≤ N) :
    Sim N (start args O) { tmps := vals.toArray ++ Array.replicate (N - vals.toArray.size) undef, defers := [] } w ob G := by
  refine ⟨?_, rfl, hs, fun t av ht => ?_, fun t av ht => absurd ht envT_true⟩
  · have := hr.1; simp; omega
  · simp only [start, stOf, envT_argSlots, Nat.zero_le, if_true, Nat.sub_zero, Option.map_eq_some_iff, Prod.mk.injEq, true_and, exists_eq_right] at ht
    have hlt : t < vals.length := by
      rw [hr.1]
      rcases Nat.lt_or_ge t args.length with h | h
      · exact h
      · rw [List.getElem?_eq_none h] at ht; cases ht
    refine ⟨vals.getD t undef, ?_, hr.2 t av ht⟩
    simp [Array.getElem?_append, hlt, List.getD]
theorem envT_zip3 : ∀ {ts : List Nat} {md : List Mode} {rs : List AV}, md.length = ts.length → rs.length = ts.length → ts.Nodup → ∀ (j : Nat) (t : Nat) (r : AV), ts[j]? = some t → rs[j]? = some r → envT (zip3 ts md rs) t = some (true, r)
  | [], md, rs, _, _, _, j, t, r, h, _ => by simp at h
  | t0 :: ts, m :: md, r0 :: rs, h1, h2, hn, j, t, r, ht, hr => by
    simp only [List.nodup_cons] at hn
    simp only [zip3, envT]
    cases j with
    | zero =>
      simp only [List.getElem?_cons_zero, Option.some.injEq] at ht hr
      subst ht; subst hr; simp
    | succ j =>
      simp only [List.getElem?_cons_succ] at ht hr
      rw [if_neg (fun e => hn.1 (by rw [← e]; exact List.mem_of_getElem? ht))]
      exact envT_zip3 (by simpa using h1) (by simpa using h2) hn.2 j t r ht hr
  | _ :: _, [], _, h1, _, _, _, _, _, _, _ => by simp at h1
  | _ :: _, _ :: _, [], _, h2, _, _, _, _, _, _ => by simp at h2
theorem pack_rel {G : Nat → Prop} {w : World} {ob : Place} {tmps : Array Value} {ts : List Nat} {rs : List AV} (hl : rs.length = ts.length)
    (h : ∀ (j t : Nat) (r : AV), ts[j]? = some t → rs[j]? = some r → ∃ v, tmps[t]? = some v ∧ Rel G w ob r v) :
    Rel G w ob (pack rs) (match ts.map (fun t => tmps.getD t undef) with | [x] => x | vs => .tuple vs.toArray) := by
  have get : ∀ (j t : Nat) (r : AV), ts[j]? = some t → rs[j]? = some r → Rel G w ob r (tmps.getD t undef) := fun j t r ht hr => by
    obtain ⟨v, h1, h2⟩ := h j t r ht hr
    rw [Array.getD_eq_getD_getElem?, h1]; exact h2
  match ts, rs, hl with
  | [], [], _ => exact .tup #[] rfl (fun j av h => by simp at h)
  | [t], [r], _ => exact get 0 t r rfl rfl
  | t :: u :: us, r :: s :: ss, hl =>
    refine .tup _ (by simp at hl; simp [hl]) fun j av hj => ?_
    have hjl : j < (t :: u :: us).length := by
      rw [← hl]
      rcases Nat.lt_or_ge j (r :: s :: ss).length with h | h
      · exact h
      · rw [List.getElem?_eq_none h] at hj; cases hj
    have := get j (t :: u :: us)[j] av (List.getElem?_eq_getElem hjl) hj
    have e : (((t :: u :: us).map fun t => tmps.getD t undef).toArray).getD j undef = tmps.getD (t :: u :: us)[j] undef := by
      rw [Array.getD_eq_getD_getElem?, List.getElem?_toArray, List.getElem?_map, List.getElem?_eq_getElem hjl]; rfl
    show Rel G w ob av (Array.getD _ j undef)
    simp only [List.map_cons] at e ⊢
    rw [e]; exact this
def CallsR (P : Program) (f : FuncId) (args : List AV) (O : List (Nat × AObj)) (R : List AV → List (Nat × AObj) → Prop) : Prop :=
  callableB P f = true ∧ ∀ (G : Nat → Prop) (w : World) (ob : Place) (vals : List Value), SimO G w ob (ofL O) → RelL G w ob args vals →
    Calls P f vals.toArray w fun e w' => ∃ rs O' v G' ob', R rs O' ∧ e = .returned v ∧ SimO G' w' ob' (ofL O') ∧ Rel G' w' ob' (pack rs) v ∧ Fr G w ob G' w' ob' ∧ OBext ob ob'
theorem callsR_of {f : FuncId} {fn : Func} {c : Code} {ac : ACode} {args : List AV} {O : List (Nat × AObj)} {ts : List Nat} {R : List AV → List (Nat × AObj) → Prop} 
    (hf : P.funcs[f]? = some fn) (hb : fn.body = some c) (hname : (fn.name != "runtime.NumGoroutine") = true) (hc : compile P fn.ntmps c = some ac.strip)
    (hts : tmpsOf fn.results.toList = some ts) (hnd : ts.Nodup) (hl : args.length ≤ fn.ntmps)
    (h : Wp P fn.ntmps (O.map (·.1)) ac (retQ (O.map (·.1)) ts R) (start args O)) : CallsR P f args O R := by
  refine ⟨by unfold callableB; rw [hf]; simp [hb, hname], fun G w ob vals hs hr => ?_⟩
  refine calls_of_wp hf hb ?_
  have h1 := h c hc ⟨G, w, ob⟩ _ w ob G (start_sim hs hr hl) ⟨Fr.refl G w ob, fun id i _ hi => ⟨i, hi, .inl rfl⟩⟩
  refine wp_mono h1 ?_
  rintro e a' w' ⟨o, σ, ob1, G1, rfl, hq, s, hΓ⟩
  have fin : (∃ rs O', R rs O' ∧ RetW (O.map (·.1)) σ ts rs O') → a'.defers = [] ∧ ∃ v, (results fn a'.tmps).run P w' = .ok v w' ∧
      ∃ rs O' v' G' ob', R rs O' ∧ Ending.returned v = .returned v' ∧ SimO G' w' ob' (ofL O') ∧ Rel G' w' ob' (pack rs) v' ∧ Fr G w ob G' w' ob' ∧ OBext ob ob' := by
    rintro ⟨rs, O', hR, md, hml, hrl, ρ, A, hw⟩
    obtain ⟨ob2, G2, g1, g2, g3⟩ := weak_ok s hw
    obtain ⟨v, hv, hv'⟩ := results_run hts a'.tmps w' (P := P)
    refine ⟨s.defers, v, hv, rs, O', v, G2, ob2, hR, rfl, g1.objs, ?_, hΓ.fr.trans g2, ?_⟩
    · rw [hv']
      exact pack_rel hrl fun j t r ht hr => g1.env t r (envT_zip3 hml hrl hnd j t r ht hr)
    · intro id i hi
      have hk : id ∈ O.map (·.1) := by
        cases ho : ofL O id with
        | none => rw [(hs.dom id).1 ho] at hi; cases hi
        | some o => obtain ⟨o', ho'⟩ := ofL_mem (by rw [ho]; rfl); exact List.mem_map_of_mem (f := (·.1)) ho'
      obtain ⟨i', hi', h'⟩ := hΓ.ext id i hk hi
      exact ⟨i', by rw [g3 id hk]; exact hi', h'⟩
  cases o with
  | normal => exact fin hq
  | exit i => exact hq.elim
  | ret => exact fin hq
theorem CallsR.one {f : FuncId} {args : List AV} {O O' : List (Nat × AObj)} {rs : List AV} (h : CallsR P f args O (fun rs' O1 => rs' = rs ∧ O1 = O')) : CallsA P f args O (pack rs) O' := by
  refine ⟨h.1, fun G w ob vals hs hr => (h.2 G w ob vals hs hr).mono ?_⟩
  rintro e w' ⟨rs', O1, v, G', ob', ⟨rfl, rfl⟩, h1, h2, h3, h4, h5⟩
  exact ⟨v, G', ob', h1, h2, h3, h4, h5⟩
theorem CallsR.some {f : FuncId} {args : List AV} {O : List (Nat × AObj)} {R : List AV → List (Nat × AObj) → Prop} {rs : List AV} {O' : List (Nat × AObj)}
    (h : CallsR P f args O R) (hR : ∀ rs' O1, R rs' O1 → rs' = rs ∧ O1 = O') : CallsA P f args O (pack rs) O' := by
  refine CallsR.one (rs := rs) (O' := O') ⟨h.1, fun G w ob vals hs hr => (h.2 G w ob vals hs hr).mono ?_⟩
  rintro e w' ⟨rs', O1, v, G', ob', hr', h1⟩
  exact ⟨rs', O1, v, G', ob', hR rs' O1 hr', h1⟩
end
end Go.Abs
end
