/- The abstract layer, part 4: addresses, new memory, writing, growing. -/
import Derived.Test.YtbpaheflphafiaaAbs3
set_option linter.unusedSimpArgs false
set_option linter.unusedVariables false
set_option linter.unnecessarySimpa false
namespace Go.Abs
section
variable {P : Program} {G : Nat → Prop} {w : World} {ob : Place} {m : Nat → Option AObj}

theorem ok_un {op : UnOp} {ρ : Operand → Value} {e : AX → Option AV} {x : Operand} {ax : AX} {p : Prop} {r : Res} {d : Nat}
    (hs : SimO G w ob m) (hx : cx x = some ax) (he : OpRel G w ob ρ e) (hv : eval (.un op ax) e m d = some (p, r)) :
    OpOk P G w ob m (do pure (.value (← Op.unary op (ρ x)))) r := by
  simp only [eval] at hv
  cases hax : e ax with
  | none => simp [hax] at hv
  | some a =>
    simp only [hax, Option.map_eq_some_iff, Prod.mk.injEq] at hv
    obtain ⟨av, hk, _, rfl⟩ := hv
    obtain ⟨v, hrun, hrel⟩ := unAV_ok (P := P) hk (he x ax a hx hax)
    exact OpOk.quiet hs (v := v) (by simp [hrun]) hrel

theorem ok_bin {op : BinOp} {t : TypeId} {ρ : Operand → Value} {e : AX → Option AV} {x y : Operand} {ax ay : AX} {p : Prop} {r : Res} {d : Nat}
    (hs : SimO G w ob m) (hx : cx x = some ax) (hy : cx y = some ay) (he : OpRel G w ob ρ e) (hv : eval (.bin op ax ay) e m d = some (p, r)) (hp : p) :
    OpOk P G w ob m (do pure (.value (← (do eqGuard op t x y (ρ x) (ρ y); binOp op t (ρ x) (ρ y))))) r := by
  simp only [eval] at hv
  cases hax : e ax with
  | none => simp [hax] at hv
  | some a =>
    cases hay : e ay with
    | none => simp [hax, hay] at hv
    | some b =>
      simp only [hax, hay, Option.map_eq_some_iff, Prod.mk.injEq] at hv
      obtain ⟨⟨p', av⟩, hk, rfl, rfl⟩ := hv
      obtain ⟨v, hrun, hrel, k, n, k', n', h1, h2⟩ := binAV_ok (P := P) t hk hp (he x ax a hx hax) (he y ay b hy hay)
      refine OpOk.quiet hs (v := v) ?_ hrel
      have hg : (eqGuard op t x y (ρ x) (ρ y)).run P w = .ok () w := by
        rw [h1, h2]; unfold eqGuard; cases op <;> simp
      simp [hg, hrun]

theorem ok_convI {k : IntKind} {src dst : TypeId} {ρ : Operand → Value} {e : AX → Option AV} {x : Operand} {ax : AX} {p : Prop} {r : Res} {d : Nat}
    (ht : P.underlying dst = some (.int k)) (hsr : ∃ ds, P.underlying src = some ds)
    (hs : SimO G w ob m) (hx : cx x = some ax) (he : OpRel G w ob ρ e) (hv : eval (.convI k ax) e m d = some (p, r)) :
    OpOk P G w ob m (do pure (.value (← convert src dst (ρ x)))) r := by
  simp only [eval] at hv
  obtain ⟨ds, hds⟩ := hsr
  cases hax : e ax with
  | none => simp [hax] at hv
  | some a =>
    have hr := he x ax a hx hax
    rw [hax] at hv
    cases a with
    | sc u =>
      cases u with
      | int k' n =>
        simp only [Option.some.injEq, Prod.mk.injEq] at hv
        obtain ⟨_, rfl⟩ := hv
        rw [hr.sc_eq]
        refine OpOk.quiet hs (v := .int k (k.wrap n)) ?_ (.sc rfl)
        simp [convert, run_underlying ht, run_underlying hds, Conv.intToInt]
      | _ => simp at hv
    | _ => simp at hv

theorem getElem?_drop_lt {α : Type} {l : List α} {n j : Nat} {a : α} (h : (l.drop n)[j]? = some a) : l[n + j]? = some a := by
  rwa [List.getElem?_drop] at h

theorem ok_faddr {s : TypeId} {f : Nat} {off : Nat} {fields : Array Field} {fd : Field} {ρ : Operand → Value} {e : AX → Option AV} {x : Operand} {ax : AX} {p : Prop} {r : Res} {d : Nat}
    (ht : P.underlying s = some (.struct fields)) (hf : fields[f]? = some fd) (hoff : fd.offset = off) (hsz : ∃ n, szOf P fd.type = some (n + 1))
    (hs : SimO G w ob m) (hx : cx x = some ax) (he : OpRel G w ob ρ e) (hv : eval (.faddr off ax) e m d = some (p, r)) :
    OpOk P G w ob m (do pure (.value (← Instr.fieldAt s (ρ x) f))) r := by
  simp only [eval] at hv
  obtain ⟨n, hn⟩ := hsz
  have key : ∀ a : Addr, (Instr.fieldAt s (.pointer (some a)) f).run P w = .ok (.pointer (some (a.add off))) w := fun a => by
    simp [Instr.fieldAt, run_underlying ht, hf, Instr.sureAddr, fieldPlace, run_sizeOf hn, hoff]
  cases hax : e ax with
  | none => simp [hax] at hv
  | some a =>
    have hr := he x ax a hx hax
    rw [hax] at hv
    cases a with
    | fptr cs =>
      simp only [Option.some.injEq, Prod.mk.injEq] at hv
      obtain ⟨_, rfl⟩ := hv
      generalize ρ x = v at hr
      cases hr with
      | fptr b o c hG hp hc hrr =>
        refine OpOk.quiet hs (v := .pointer (some ⟨b, o + off, none⟩)) (by simp [key, addr_add]) ?_
        refine .fptr b (o + off) (fun j => c (off + j)) hG (fun j av hj => hp _ av (getElem?_drop_lt hj)) (fun j hj => ?_) (fun j av hj => hrr _ av (getElem?_drop_lt hj))
        rw [Nat.add_assoc]
        exact hc (off + j) (by rw [List.length_drop] at hj; omega)
    | ptr id k o tot =>
      simp only [Option.some.injEq, Prod.mk.injEq] at hv
      obtain ⟨_, rfl⟩ := hv
      generalize ρ x = v at hr
      cases hr with
      | ptr a i h hle hvv =>
        refine OpOk.quiet hs (v := .pointer (some (a.add off))) (by simp [key]) ?_
        refine .ptr _ i h hle fun hl => ?_
        obtain ⟨b, h1, rfl, h3⟩ := hvv hl
        exact ⟨b, h1, by rw [addr_add, Nat.add_assoc], h3⟩
    | _ => simp at hv

theorem run_asIntOf (k : IntKind) (n : Int) : (asIntOf (.int k n)).run P w = .ok (k, n) w := rfl

theorem ok_iaddr {t el : TypeId} {esz : Nat} {ρ : Operand → Value} {e : AX → Option AV} {x y : Operand} {ax ay : AX} {p : Prop} {r : Res} {d : Nat}
    (ht : P.underlying t = some (.slice el)) (hz : szOf P el = some esz)
    (hs : SimO G w ob m) (hx : cx x = some ax) (hy : cx y = some ay) (he : OpRel G w ob ρ e) (hv : eval (.iaddr esz ax ay) e m d = some (p, r)) (hp : p) :
    OpOk P G w ob m (do pure (.value (← Instr.indexAt t (ρ x) (ρ y)))) r := by
  have key : ∀ (a : Addr) (len cap : Nat) (k : IntKind) (j : Int), 0 ≤ j → j < len → (Instr.indexAt t (.slice (some a) len cap) (.int k j)).run P w = .ok (.pointer (some (a.add (j.toNat * esz)))) w := fun a len cap k j h0 h1 => by
    simp [Instr.indexAt, run_asIntOf, run_underlying ht, h0, h1, run_sizeOf hz]
  simp only [eval] at hv
  cases hax : e ax with
  | none => simp [hax] at hv
  | some a =>
    cases hay : e ay with
    | none => cases a <;> simp [hax, hay] at hv
    | some b =>
      have hr := he x ax a hx hax
      have hr2 := he y ay b hy hay
      rw [hax, hay] at hv
      cases b with
      | sc u =>
        cases u with
        | int k j =>
          rw [hr2.sc_eq]
          cases a with
          | dsl z n g =>
            simp only at hv
            split at hv
            · rename_i hze
              subst hze
              simp only [Option.some.injEq, Prod.mk.injEq] at hv
              obtain ⟨rfl, rfl⟩ := hv
              obtain ⟨h0, h1⟩ := hp
              generalize ρ x = v at hr
              cases hr with
              | dslNil => exact absurd h1 (by omega)
              | dslE a cap => exact absurd h1 (by omega)
              | dsl b off cap c hG hcap hlen hpp hc hrr =>
                have hj : j.toNat < n := by omega
                refine OpOk.quiet hs (v := .pointer (some ⟨b, off + j.toNat * z, none⟩)) (by simp [key _ _ _ _ _ h0 h1, addr_add]) ?_
                refine .fptr b _ (fun q => c j.toNat q) hG (fun q av hq => hpp _ q av hj hq) (fun q hq => ?_) (fun q av hq => hrr _ q av hj hq)
                rw [Nat.add_assoc]
                exact hc _ q hj (by rw [hlen _ hj] at hq; exact hq)
            · simp at hv
          | dslx z n g =>
            simp only at hv
            split at hv
            · rename_i hze
              subst hze
              simp only [Option.some.injEq, Prod.mk.injEq] at hv
              obtain ⟨rfl, rfl⟩ := hv
              obtain ⟨h0, h1⟩ := hp
              generalize ρ x = v at hr
              cases hr with
              | dslxNil => exact absurd h1 (by omega)
              | dslxE a => exact absurd h1 (by omega)
              | dslx b off c hG hlen hpp hc hrr =>
                have hj : j.toNat < n := by omega
                refine OpOk.quiet hs (v := .pointer (some ⟨b, off + j.toNat * z, none⟩)) (by simp [key _ _ _ _ _ h0 h1, addr_add]) ?_
                refine .fptr b _ (fun q => c j.toNat q) hG (fun q av hq => hpp _ q av hj hq) (fun q hq => ?_) (fun q av hq => hrr _ q av hj hq)
                rw [Nat.add_assoc]
                exact hc _ q hj (by rw [hlen _ hj] at hq; exact hq)
            · simp at hv
          | sl id off len tot =>
            have main : ∀ (z : Nat) (s : Sq) (i : Info), z = esz → tot = s.n ∧ 0 ≤ j ∧ j < len → ob id = some i → i.esz = z → i.len = s.n → (i.blk = none → s.n = 0) → Rel G w ob (.sl id off len tot) (ρ x) →
                OpOk P G w ob m (do pure (.value (← Instr.indexAt t (ρ x) (.int k j)))) ⟨some (.ptr id (off + j.toNat) 0 tot), []⟩ := by
              intro z s i hze hc hi hiz hil hnb hr
              obtain ⟨ht', h0, h1⟩ := hc
              generalize ρ x = v at hr
              cases hr with
              | sl i' h' hle hs' hv' =>
                rw [hi] at h'; injection h' with h'; subst h'
                obtain ⟨h2, _, h3⟩ := hv' (by rw [hil, ht'])
                cases h4 : i.blk with
                | none => have := hnb h4; omega
                | some b =>
                obtain ⟨o, c, rfl, _, h5, _⟩ := h3 b h4
                obtain rfl := h5 (by omega)
                refine OpOk.quiet hs (v := .pointer (some ⟨b, off * i.esz + j.toNat * esz, none⟩)) (by simp [key _ _ _ _ _ h0 h1, addr_add]) ?_
                refine .ptr _ i hi hle fun _ => ⟨b, h4, ?_, by omega⟩
                rw [Nat.add_mul, hiz, hze, Nat.add_zero]
            simp only at hv
            cases hm : m id with
            | none => simp [hm] at hv
            | some obj =>
              rw [hm] at hv
              cases hi : ob id with
              | none => rw [(hs.dom id).2 hi] at hm; cases hm
              | some i =>
                have ho := hs.own id obj i hm hi
                cases obj with
                | arr z s =>
                  simp only at hv
                  split at hv
                  · rename_i hze
                    simp only [Option.some.injEq, Prod.mk.injEq] at hv
                    obtain ⟨rfl, rfl⟩ := hv
                    exact main z s i hze hp hi ho.2.1 ho.2.2.1 ho.arr_none hr
                  · simp at hv
                | frz z s =>
                  simp only at hv
                  split at hv
                  · rename_i hze
                    simp only [Option.some.injEq, Prod.mk.injEq] at hv
                    obtain ⟨rfl, rfl⟩ := hv
                    exact main z s i hze hp hi ho.2.1 ho.2.2.1 ho.frz_none hr
                  · simp at hv
                | _ => simp at hv
          | _ => simp at hv
        | _ => cases a <;> simp at hv
      | _ => cases a <;> simp at hv

theorem ok_ext {ρ : Operand → Value} {e : AX → Option AV} {x : Operand} {ax : AX} {i : Nat} {p : Prop} {r : Res} {d : Nat}
    (hs : SimO G w ob m) (hx : cx x = some ax) (he : OpRel G w ob ρ e) (hv : eval (.ext ax i) e m d = some (p, r)) :
    OpOk P G w ob m (do pure (.value (← Instr.extract (ρ x) i))) r := by
  simp only [eval] at hv
  cases hax : e ax with
  | none => simp [hax] at hv
  | some a =>
    have hr := he x ax a hx hax
    rw [hax] at hv
    cases a with
    | tup cs =>
      simp only at hv
      cases hc : cs[i]? with
      | none => simp [hc] at hv
      | some av =>
        simp only [hc, Option.some.injEq, Prod.mk.injEq] at hv
        obtain ⟨_, rfl⟩ := hv
        generalize ρ x = v at hr
        cases hr with
        | tup vs hn hrr =>
          have hlt : i < vs.size := by
            rw [hn]
            rcases Nat.lt_or_ge i cs.length with h | h
            · exact h
            · rw [List.getElem?_eq_none h] at hc; cases hc
          refine OpOk.quiet hs (v := vs.getD i undef) ?_ (hrr i av hc)
          simp [Instr.extract, Array.getElem?_eq_getElem hlt]
    | _ => simp at hv

theorem slice_cases {a : AV} {v : Value} (h : Rel G w ob a v) {n : Nat}
    (ha : (∃ z g, a = .dsl z n g) ∨ (∃ z g, a = .dslx z n g) ∨ (∃ id off tot, a = .sl id off n tot)) : ∃ ad cap, v = .slice ad n cap := by
  rcases ha with ⟨z, g, rfl⟩ | ⟨z, g, rfl⟩ | ⟨id, off, tot, rfl⟩
  · cases h with
    | dslNil => exact ⟨_, _, rfl⟩
    | dslE a cap => exact ⟨_, _, rfl⟩
    | dsl => exact ⟨_, _, rfl⟩
  · cases h with
    | dslxNil => exact ⟨_, _, rfl⟩
    | dslxE a => exact ⟨_, _, rfl⟩
    | dslx => exact ⟨_, _, rfl⟩
  · cases h with
    | sl i h hle hs hv => obtain ⟨a, c, rfl⟩ := hs; exact ⟨_, _, rfl⟩

theorem ok_len {t ty el : TypeId} {cs : Array Bool} {ρ : Operand → Value} {e : AX → Option AV} {x : Operand} {ax : AX} {p : Prop} {r : Res} {d : Nat}
    (ht : P.underlying t = some (.slice el))
    (hs : SimO G w ob m) (hx : cx x = some ax) (he : OpRel G w ob ρ e) (hv : eval (.len ax) e m d = some (p, r)) :
    OpOk P G w ob m (builtin .len #[t] ty cs #[ρ x]) r := by
  have key : ∀ ad n cap, (builtin .len #[t] ty cs #[.slice ad n cap]).run P w = .ok (.value (.int .i64 n)) w := fun ad n cap => by
    simp [builtin, Builtin.len_, run_underlying ht, goInt]
  simp only [eval] at hv
  cases hax : e ax with
  | none => simp [hax] at hv
  | some a =>
    have hr := he x ax a hx hax
    rw [hax] at hv
    have fin : ∀ n : Nat, r = ⟨some (.sc (.int .i64 n)), []⟩ → (∃ ad cap, ρ x = .slice ad n cap) → OpOk P G w ob m (builtin .len #[t] ty cs #[ρ x]) r := by
      rintro n rfl ⟨ad, cap, h⟩
      rw [h]
      exact OpOk.quiet hs (key _ _ _) (.sc rfl)
    cases a with
    | dsl z n g =>
      simp only [Option.some.injEq, Prod.mk.injEq] at hv
      exact fin n hv.2.symm (slice_cases hr (.inl ⟨_, _, rfl⟩))
    | dslx z n g =>
      simp only [Option.some.injEq, Prod.mk.injEq] at hv
      exact fin n hv.2.symm (slice_cases hr (.inr (.inl ⟨_, _, rfl⟩)))
    | sl id off n tot =>
      simp only [Option.some.injEq, Prod.mk.injEq] at hv
      exact fin n hv.2.symm (slice_cases hr (.inr (.inr ⟨_, _, _, rfl⟩)))
    | sc u =>
      split at hv
      all_goals first
        | (rename_i heq; cases heq; done)
        | skip
      · rename_i heq
        simp only [Option.some.injEq, AV.sc.injEq] at heq
        subst heq
        simp only [Option.some.injEq, Prod.mk.injEq] at hv
        exact fin _ hv.2.symm ⟨_, _, hr.sc_eq⟩
      · cases hv
    | _ => simp at hv

theorem ok_mlen {t ty k el : TypeId} {cs : Array Bool} {ρ : Operand → Value} {e : AX → Option AV} {x : Operand} {ax : AX} {p : Prop} {r : Res} {d : Nat}
    (ht : P.underlying t = some (.map k el))
    (hs : SimO G w ob m) (hx : cx x = some ax) (he : OpRel G w ob ρ e) (hv : eval (.mlen ax) e m d = some (p, r)) :
    OpOk P G w ob m (builtin .len #[t] ty cs #[ρ x]) r := by
  simp only [eval] at hv
  cases hax : e ax with
  | none => simp [hax] at hv
  | some a =>
    have hr := he x ax a hx hax
    rw [hax] at hv
    cases a with
    | mp id =>
      simp only at hv
      generalize ρ x = v at hr
      cases hr with
      | mp b i h hb hm =>
        cases hmi : m id with
        | none => simp [hmi] at hv
        | some obj =>
          have ho := hs.own id obj i hmi h
          rw [hmi] at hv
          cases obj with
          | map k' es =>
            simp only [Option.some.injEq, Prod.mk.injEq] at hv
            obtain ⟨_, rfl⟩ := hv
            obtain ⟨_, b', ents, clock, h1, h2, h3, _⟩ := ho
            rw [hb] at h1; injection h1 with h1; subst h1
            refine OpOk.quiet hs (v := .int .i64 es.length) ?_ (.sc rfl)
            simp [builtin, Builtin.len_, run_underlying ht, goInt, getObj, Sem.run, h2, h3]
          | _ => simp at hv
    | _ => simp at hv

theorem ok_nilck {ρ : Operand → Value} {e : AX → Option AV} {x : Operand} {ax : AX} {p : Prop} {r : Res} {d : Nat} {o : Oper} (hop : o.op = .nilCheck x)
    (hs : SimO G w ob m) (hx : cx x = some ax) (he : OpRel G w ob ρ e) (hv : eval (.nilck ax) e m d = some (p, r)) :
    OpOk P G w ob m (execOp ρ o) r := by
  simp only [eval] at hv
  cases hax : e ax with
  | none => simp [hax] at hv
  | some a =>
    have hr := he x ax a hx hax
    rw [hax] at hv
    cases a with
    | fptr cs =>
      simp only [Option.some.injEq, Prod.mk.injEq] at hv
      obtain ⟨_, rfl⟩ := hv
      refine OpOk.quiet hs (v := ρ x) ?_ hr
      simp only [execOp, hop]
      generalize ρ x = v at hr
      cases hr; rfl
    | ptr id k o tot =>
      simp only [Option.some.injEq, Prod.mk.injEq] at hv
      obtain ⟨_, rfl⟩ := hv
      refine OpOk.quiet hs (v := ρ x) ?_ hr
      simp only [execOp, hop]
      generalize ρ x = v at hr
      cases hr; rfl
    | _ => simp at hv

theorem ok_minmax {isMax : Bool} {ts : Array TypeId} {ty : TypeId} {cs : Array Bool} {ρ : Operand → Value} {e : AX → Option AV} {x y : Operand} {ax ay : AX} {p : Prop} {r : Res} {d : Nat}
    (hs : SimO G w ob m) (hx : cx x = some ax) (hy : cx y = some ay) (he : OpRel G w ob ρ e) (hv : eval (.minmax isMax ax ay) e m d = some (p, r)) :
    OpOk P G w ob m (builtin (if isMax then .max else .min) ts ty cs #[ρ x, ρ y]) r := by
  simp only [eval] at hv
  cases hax : e ax with
  | none => simp [hax] at hv
  | some a =>
    cases hay : e ay with
    | none =>
      rw [hax, hay] at hv
      cases a with
      | sc u => cases u <;> simp at hv
      | _ => simp at hv
    | some b =>
      have hr := he x ax a hx hax
      have hr2 := he y ay b hy hay
      rw [hax, hay] at hv
      cases a with
      | sc u =>
        cases b with
        | sc u' =>
          rw [hr.sc_eq, hr2.sc_eq]
          cases u with
          | int k n =>
            cases u' with
            | int k' n' =>
              simp only [Option.some.injEq, Prod.mk.injEq] at hv
              obtain ⟨_, rfl⟩ := hv
              cases isMax
              · exact OpOk.quiet hs (v := .int k (if n' < n then n' else n)) (by simp [builtin, Builtin.min_, Builtin.min2]) (.sc rfl)
              · exact OpOk.quiet hs (v := .int k (if n' > n then n' else n)) (by simp [builtin, Builtin.max_, Builtin.max2]) (.sc rfl)
            | _ => simp at hv
          | _ => simp at hv
        | _ => cases u <;> simp at hv
      | _ => simp at hv

theorem ok_fld {t : TypeId} {f : Nat} {off : Nat} {n : Option Nat} {fields : Array Field} {fd : Field} {ρ : Operand → Value} {e : AX → Option AV} {x : Operand} {ax : AX} {p : Prop} {r : Res} {d : Nat}
    (ht : P.underlying t = some (.struct fields)) (hf : fields[f]? = some fd) (hoff : fd.offset = off)
    (htn : (match n with | none => isAggB P fd.type = some false | some k => isAggB P fd.type = some true ∧ szOf P fd.type = some k))
    (hs : SimO G w ob m) (hx : cx x = some ax) (he : OpRel G w ob ρ e) (hv : eval (.fld off n ax) e m d = some (p, r)) :
    OpOk P G w ob m (do pure (.value (← Instr.field t (ρ x) f))) r := by
  simp only [eval] at hv
  cases hax : e ax with
  | none => simp [hax] at hv
  | some a =>
    have hr := he x ax a hx hax
    rw [hax] at hv
    cases a with
    | agg cs =>
      simp only [Option.map_eq_some_iff, Prod.mk.injEq] at hv
      obtain ⟨av, hk, _, rfl⟩ := hv
      generalize ρ x = v at hr
      cases hr with
      | agg vs hn ho hrr =>
        cases n with
        | none =>
          cases hd : cs.drop off with
          | nil => simp [hd, takeN] at hk
          | cons c cs' =>
            simp only [hd, takeN, Option.some.injEq] at hk
            subst hk
            have hc : cs[off]? = some c := by have := getElem?_drop_lt (l := cs) (n := off) (j := 0) (a := c) (by simp [hd]); simpa using this
            have hlt : off < vs.size := by
              rw [hn]; rcases Nat.lt_or_ge off cs.length with h | h
              · exact h
              · rw [List.getElem?_eq_none h] at hc; cases hc
            refine OpOk.quiet hs (v := vs.getD off undef) ?_ (hrr off c hc)
            simp [Instr.field, run_underlying ht, hf, asAgg, part, run_isAgg htn, hoff, Array.getElem?_eq_getElem hlt]
        | some k =>
          obtain ⟨h1, h2⟩ := htn
          simp only [takeN, Option.map_eq_some_iff] at hk
          obtain ⟨rr, hrr', rfl⟩ := hk
          obtain ⟨rfl, hl⟩ := takeE_spec k _ rr hrr'
          rw [List.length_drop] at hl
          refine OpOk.quiet hs (v := .agg (vs.extract off (off + k))) ?_ ?_
          · simp [Instr.field, run_underlying ht, hf, asAgg, part, run_isAgg h1, run_sizeOf h2, hoff]
          · have hget : ∀ (j : Nat) (av : AV), ((cs.drop off).take k)[j]? = some av → j < k ∧ cs[off + j]? = some av := fun j av hj => by
              rw [List.getElem?_take] at hj
              split at hj
              · rw [List.getElem?_drop] at hj; exact ⟨by assumption, hj⟩
              · cases hj
            refine .agg _ ?_ (fun j av hj => ho _ av (hget j av hj).2) (fun j av hj => ?_)
            · rw [Array.size_extract, List.length_take, List.length_drop]; omega
            · obtain ⟨hjk, hj'⟩ := hget j av hj
              have := hrr _ av hj'
              have e1 : (vs.extract off (off + k)).getD j undef = vs.getD (off + j) undef := by
                have hlt : off + j < cs.length := by
                  rcases Nat.lt_or_ge (off + j) cs.length with h | h
                  · exact h
                  · rw [List.getElem?_eq_none h] at hj'; cases hj'
                have h3 : j < min (off + k) vs.size - off := by omega
                have h4 : off + j < vs.size := by omega
                simp [h3, Array.getElem?_eq_getElem h4]
              rw [e1]; exact this
    | _ => simp at hv

theorem run_zeroValue {t : TypeId} {z : Value} (h : (P.info? t).bind (·.zero) = some z) : (zeroValue t).run P w = .ok z w := by
  cases hi : P.info? t with
  | none => simp [hi] at h
  | some i =>
    simp only [hi, Option.bind_some] at h
    simp [zeroValue, typeInfo, hi, h]

theorem ok_box_core {s : Sem Next} {id : Nat} {cs : List AV} {vs : Array Value} {T : TypeId} (hs : SimO G w ob m) (hid : m id = none)
    (hn : vs.size = cs.length) (hone : ∀ (j : Nat) (av : AV), cs[j]? = some av → av.one = true) (hrel : ∀ (j : Nat) (av : AV), cs[j]? = some av → Rel G w ob av (vs.getD j undef))
    (h : s.run P w = .ok (.value (.pointer (some ⟨w.heap.size, 0, none⟩))) (w.alloc (.cells vs T))) : OpOk P G w ob m s ⟨some (.ptr id 0 0 1), [(id, .box cs)]⟩ := by
  have hno : ob id = none := (hs.dom id).1 hid
  have hext : OBext ob (upd ob id (some ⟨some w.heap.size, cs.length, 1, 1, false⟩)) := fun x j hj => by
    have hx : x ≠ id := fun e => by subst e; rw [hno] at hj; cases hj
    exact ⟨j, by rw [upd_ne hx]; exact hj, .inl rfl⟩
  have hGw : ∀ b, G b → (w.alloc (.cells vs T)).heap[b]? = w.heap[b]? := fun b hG => heap_alloc_old _ _ _ (hs.lt b hG)
  refine OpOk.new (w0 := w) (i := ⟨some w.heap.size, cs.length, 1, 1, false⟩) hs hid rfl rfl rfl rfl h (fun b hb => by simpa using hb.symm) ?_ ?_
  · refine ⟨rfl, rfl, rfl, w.heap.size, vs, T, rfl, heap_alloc_new _ _, hn, fun j av hj => ⟨hone j av hj, vs.getD j undef, ?_, (hrel j av hj).ext (fun _ h => h) hGw hext⟩⟩
    have hlt : j < vs.size := by
      rw [hn]; rcases Nat.lt_or_ge j cs.length with h | h
      · exact h
      · rw [List.getElem?_eq_none h] at hj; cases hj
    simp [Array.getElem?_eq_getElem hlt]
  · exact .ptr _ ⟨some w.heap.size, cs.length, 1, 1, false⟩ (by simp) (Nat.le_refl _) fun _ => ⟨w.heap.size, rfl, by simp, Nat.one_pos⟩

theorem ok_alloc {t : TypeId} {z : Value} {e : AX → Option AV} {p : Prop} {r : Res} {d : Nat}
    (hz : (P.info? t).bind (·.zero) = some z) (hone : z.cells.all Value.oneCell' = true)
    (hs : SimO G w ob m) (hv : eval (.alloc z.cells.toList) e m d = some (p, r)) :
    OpOk P G w ob m (do pure (.value (← Instr.alloc t true (.tuple #[])))) r := by
  simp only [eval] at hv
  cases hm : m (nid d) with
  | some o => simp [hm] at hv
  | none =>
    simp only [hm, Option.some.injEq, Prod.mk.injEq] at hv
    obtain ⟨_, rfl⟩ := hv
    refine ok_box_core (vs := z.cells) (T := t) hs hm (by simp) (fun j av hj => ?_) (fun j av hj => ?_) ?_
    · rw [List.getElem?_map, Option.map_eq_some_iff] at hj
      obtain ⟨u, _, rfl⟩ := hj; rfl
    · rw [List.getElem?_map, Option.map_eq_some_iff] at hj
      obtain ⟨u, hu, rfl⟩ := hj
      have hu' : z.cells[j]? = some u := by simpa using hu
      have hd : z.cells.getD j undef = u := by simp [hu']
      rw [hd]
      exact .sc (Array.all_eq_true'.1 hone u (Array.mem_of_getElem? hu'))
    · simp [Instr.alloc, run_zeroValue hz, newVar, newRow]

theorem cells_agg {cs : List AV} {v : Value} (h : Rel G w ob (.agg cs) v) : v.cells.size = cs.length ∧ (∀ (j : Nat) (av : AV), cs[j]? = some av → av.one = true) ∧
    ∀ (j : Nat) (av : AV), cs[j]? = some av → Rel G w ob av (v.cells.getD j undef) := by
  cases h with
  | agg vs hn ho hr => exact ⟨hn, ho, hr⟩

theorem cells_one {a : AV} {v : Value} (h : Rel G w ob a v) (ho : a.one = true) : v.cells = #[v] := by
  have := h.one_cell ho
  cases v <;> simp_all [Value.cells, Value.oneCell']

/-- a value's cells stand for the value's cells -/
theorem cells_rel {a : AV} {v : Value} (h : Rel G w ob a v) (ht : ∀ l, a ≠ .tup l) : v.cells.size = a.cells.length ∧ (∀ (j : Nat) (av : AV), a.cells[j]? = some av → av.one = true) ∧
    ∀ (j : Nat) (av : AV), a.cells[j]? = some av → Rel G w ob av (v.cells.getD j undef) := by
  by_cases ho : a.one = true
  · have hc : a.cells = [a] := by cases a <;> simp_all [AV.cells, AV.one]
    rw [cells_one h ho, hc]
    refine ⟨rfl, fun j av hj => ?_, fun j av hj => ?_⟩
    all_goals
      cases j with
      | zero => simp at hj; subst hj; first | exact ho | exact h
      | succ j => simp at hj
  · cases a with
    | agg cs => exact cells_agg h
    | tup l => exact absurd rfl (ht l)
    | _ => exact absurd rfl ho

theorem ok_box {t : TypeId} {ρ : Operand → Value} {e : AX → Option AV} {x : Operand} {ax : AX} {p : Prop} {r : Res} {d : Nat}
    (hs : SimO G w ob m) (hx : cx x = some ax) (he : OpRel G w ob ρ e) (hv : eval (.box ax) e m d = some (p, r)) :
    OpOk P G w ob m (do pure (.value (← Instr.box t (ρ x)))) r := by
  simp only [eval] at hv
  cases hm : m (nid d) with
  | some o => simp [hm] at hv
  | none =>
    cases hax : e ax with
    | none => simp [hm, hax] at hv
    | some a =>
      have hr := he x ax a hx hax
      rw [hm, hax] at hv
      have main : (∀ l, a ≠ .tup l) → r = ⟨some (.ptr (nid d) 0 0 1), [(nid d, .box a.cells)]⟩ → OpOk P G w ob m (do pure (.value (← Instr.box t (ρ x)))) r := by
        rintro ht rfl
        obtain ⟨h1, h2, h3⟩ := cells_rel hr ht
        exact ok_box_core (vs := (ρ x).cells) (T := t) hs hm h1 h2 h3 (by simp [Instr.box, newVar, newRow])
      cases a with
      | agg cs => simp only [Option.some.injEq, Prod.mk.injEq] at hv; exact main (fun _ h => by cases h) hv.2.symm
      | tup l => simp at hv
      | _ => simp only [Option.some.injEq, Prod.mk.injEq] at hv; exact main (fun _ h => by cases h) hv.2.symm
end
end Go.Abs
