/- The abstract layer, part 3: reading, building and comparing. -/
import Derived.Test.YtbpaheflphafiaaAbs2
set_option linter.unusedSimpArgs false
set_option linter.unusedVariables false
set_option linter.unnecessarySimpa false
namespace Go.Abs

def isAggB (P : Program) (t : TypeId) : Option Bool :=
  match P.underlying t with
  | some (.struct _) | some (.array _ _) => some true
  | some _ => some false
  | none => none

def szOf (P : Program) (t : TypeId) : Option Nat := (P.info? t).map (·.size)

section
variable {P : Program} {G : Nat → Prop} {w : World} {ob : Place} {m : Nat → Option AObj}

theorem run_isAgg {t : TypeId} {b : Bool} (h : isAggB P t = some b) : (isAgg t).run P w = .ok b w := by
  unfold isAggB at h
  unfold isAgg
  cases hu : P.underlying t with
  | none => simp [hu] at h
  | some d => cases d <;> simp [hu] at h <;> subst h <;> simp [run_underlying hu]

theorem run_sizeOf {t : TypeId} {n : Nat} (h : szOf P t = some n) : (sizeOf t).run P w = .ok n w := by
  unfold szOf at h
  rw [Option.map_eq_some_iff] at h
  obtain ⟨i, hi, rfl⟩ := h
  simp [sizeOf, typeInfo, hi]

/-- cells that can be read from an address on -/
def CellsAt (G : Nat → Prop) (w : World) (ob : Place) (b off : Nat) (cs : List AV) : Prop :=
  ∀ (j : Nat) (av : AV), cs[j]? = some av → av.one = true ∧ ∃ u, w.cell? ⟨b, off + j, none⟩ = some u ∧ Rel G w ob av u

theorem CellsAt.drop {b off : Nat} {cs : List AV} (h : CellsAt G w ob b off cs) (n : Nat) : CellsAt G w ob b (off + n) (cs.drop n) := fun j av hj => by
  rw [List.getElem?_drop] at hj
  have := h (n + j) av hj
  rwa [← Nat.add_assoc] at this

theorem pure_one {av : AV} (h : av.pure = true) : av.one = true := by
  cases av <;> simp_all [AV.pure, AV.one]

theorem ptr_cells {id k o tot : Nat} {v : Value} {p : Prop} {cs : List AV} (hs : SimO G w ob m) (hr : Rel G w ob (.ptr id k o tot) v)
    (hc : cellsOf m id k tot = some (p, cs)) (hp : p) : ∃ b base, v = .pointer (some ⟨b, base + o, none⟩) ∧ CellsAt G w ob b base cs := by
  unfold cellsOf at hc
  cases hr with
  | ptr a i h hle hv =>
    cases hm : m id with
    | none => simp [hm] at hc
    | some obj =>
      have ho := hs.own id obj i hm h
      rw [hm] at hc
      cases obj with
      | box cs' =>
        simp only [Option.some.injEq, Prod.mk.injEq] at hc
        obtain ⟨rfl, rfl⟩ := hc
        obtain ⟨rfl, rfl⟩ := hp
        obtain ⟨_, h1, h2, b, arr, T, h3, h4, h5, h6⟩ := ho
        obtain ⟨b', h7, h8, _⟩ := hv h1
        rw [h3] at h7; injection h7 with h7; subst h7
        refine ⟨b, 0, by rw [h8]; simp, fun j av hj => ?_⟩
        obtain ⟨ho, u, hu, hr⟩ := h6 j av hj
        exact ⟨ho, u, by rw [Nat.zero_add, cell_of_row w b j arr T _ h4]; exact hu, hr⟩
      | arr z s =>
        simp only [Option.some.injEq, Prod.mk.injEq] at hc
        obtain ⟨rfl, rfl⟩ := hc
        obtain ⟨_, _, h1, h2, h3⟩ := ho
        obtain ⟨b', h7, h8, h9⟩ := hv (by rw [h1, hp])
        rcases h3 with ⟨h3, _⟩ | ⟨b, arr, T, h3, h4, h5, h6⟩
        · rw [h3] at h7; cases h7
        · rw [h3] at h7; injection h7 with h7; subst h7
          refine ⟨b, k * i.esz, by rw [h8], fun j av hj => ?_⟩
          obtain ⟨hp, u, hu, hr⟩ := h6.2 k j av (by omega) hj
          exact ⟨pure_one hp, u, by rw [cell_of_row w b _ arr T _ h4]; exact hu, hr⟩
      | frz z s =>
        simp only [Option.some.injEq, Prod.mk.injEq] at hc
        obtain ⟨rfl, rfl⟩ := hc
        obtain ⟨_, _, h1, h2, h3⟩ := ho
        obtain ⟨b', h7, h8, h9⟩ := hv (by rw [h1, hp])
        rcases h3 with ⟨h3, _⟩ | ⟨b, arr, T, fz, h3, _, h4, h6⟩
        · rw [h3] at h7; cases h7
        · rw [h3] at h7; injection h7 with h7; subst h7
          refine ⟨b, k * i.esz, by rw [h8], fun j av hj => ?_⟩
          obtain ⟨hp, u, hu, hr⟩ := h6.2 k j av (by omega) hj
          exact ⟨pure_one hp, u, by rw [cell_of_row w b _ arr T _ h4]; exact hu, hr⟩
      | frzb cs' =>
        simp only [Option.some.injEq, Prod.mk.injEq] at hc
        obtain ⟨rfl, rfl⟩ := hc
        obtain ⟨rfl, rfl⟩ := hp
        obtain ⟨_, h1, h2, b, arr, T, fz, h3, hg, h4, h5, h6⟩ := ho
        obtain ⟨b', h7, h8, _⟩ := hv h1
        rw [h3] at h7; injection h7 with h7; subst h7
        refine ⟨b, 0, by rw [h8]; simp, fun j av hj => ?_⟩
        obtain ⟨ho, u, hu, hr⟩ := h6 j av hj
        exact ⟨pure_one ho, u, by rw [Nat.zero_add, cell_of_row w b j arr T _ h4]; exact hu, hr⟩
      | map k es => simp at hc

theorem fptr_cells {cs : List AV} {v : Value} (hr : Rel G w ob (.fptr cs) v) : ∃ b off, v = .pointer (some ⟨b, off, none⟩) ∧ G b ∧ CellsAt G w ob b off cs := by
  cases hr with
  | fptr b off c hG hp hc hr =>
    refine ⟨b, off, rfl, hG, fun j av hj => ⟨pure_one (hp j av hj), c j, hc j ?_, hr j av hj⟩⟩
    rcases Nat.lt_or_ge j cs.length with h | h
    · exact h
    · rw [List.getElem?_eq_none h] at hj; cases hj

theorem addr_add (b o n : Nat) : (⟨b, o, none⟩ : Addr).add n = ⟨b, o + n, none⟩ := by unfold Addr.add; split <;> simp_all

/-- a variable is read -/
theorem run_loadVar_cells {t : TypeId} {n : Option Nat} {b off : Nat} {cs : List AV} {av : AV}
    (ht : (match n with | none => isAggB P t = some false | some k => isAggB P t = some true ∧ szOf P t = some k))
    (hc : CellsAt G w ob b off cs) (hk : takeN n cs = some av) : ∃ v, (loadVar t ⟨b, off, none⟩).run P w = .ok v w ∧ Rel G w ob av v := by
  cases n with
  | none =>
    cases cs with
    | nil => simp [takeN] at hk
    | cons c cs =>
      simp only [takeN, Option.some.injEq] at hk
      subst hk
      obtain ⟨_, u, hu, hr⟩ := hc 0 c (by simp)
      refine ⟨u, ?_, hr⟩
      simp only [Nat.add_zero] at hu
      simp [loadVar, run_isAgg ht, hu]
  | some k =>
    obtain ⟨h1, h2⟩ := ht
    simp only [takeN, Option.map_eq_some_iff] at hk
    obtain ⟨r, hr, rfl⟩ := hk
    obtain ⟨rfl, hl⟩ := takeE_spec k cs r hr
    have hf : ∀ j, j < k → ∃ u, w.cell? ⟨b, off + j, none⟩ = some u ∧ ∀ av, cs[j]? = some av → av.one = true ∧ Rel G w ob av u := fun j hj => by
      have hjl : j < cs.length := by omega
      obtain ⟨h1, u, hu, h3⟩ := hc j cs[j] (List.getElem?_eq_getElem hjl)
      exact ⟨u, hu, fun av hav => by rw [List.getElem?_eq_getElem hjl] at hav; injection hav with hav; subst hav; exact ⟨h1, h3⟩⟩
    let f : Nat → Value := fun j => (w.cell? ⟨b, off + j, none⟩).getD undef
    have hrun := run_loadCells (P := P) w ⟨b, off, none⟩ k f (fun j hj => by rw [addr_add]; obtain ⟨u, hu, _⟩ := hf j hj; simp [f, hu])
    refine ⟨.agg ((List.range k).map f).toArray, ?_, ?_⟩
    · simp [loadVar, run_isAgg h1, run_sizeOf h2, hrun]
    · refine .agg _ (by simp; omega) (fun j av hj => ?_) (fun j av hj => ?_)
      all_goals
        have hjk : j < k := by
          rcases Nat.lt_or_ge j k with h | h
          · exact h
          · rw [List.getElem?_eq_none (by simp; omega)] at hj; cases hj
        obtain ⟨u, hu, h3⟩ := hf j hjk
        have hj' : cs[j]? = some av := by rw [List.getElem?_take] at hj; simpa [hjk] using hj
      · exact (h3 av hj').1
      · have : (((List.range k).map f).toArray).getD j undef = u := by simp [hjk, f, hu]
        rw [this]
        exact (h3 av hj').2

theorem ok_load {t : TypeId} {n : Option Nat} {ρ : Operand → Value} {e : AX → Option AV} {x : Operand} {ax : AX} {p : Prop} {r : Res} {d : Nat}
    (ht : (match n with | none => isAggB P t = some false | some k => isAggB P t = some true ∧ szOf P t = some k))
    (hs : SimO G w ob m) (hx : cx x = some ax) (he : OpRel G w ob ρ e) (hv : eval (.load n ax) e m d = some (p, r)) (hp : p) :
    OpOk P G w ob m (do pure (.value (← Instr.loadAt t (ρ x)))) r := by
  simp only [eval] at hv
  cases hax : e ax with
  | none => simp [hax] at hv
  | some a =>
    have hr := he x ax a hx hax
    rw [hax] at hv
    cases a with
    | fptr cs =>
      simp only [Option.map_eq_some_iff, Prod.mk.injEq] at hv
      obtain ⟨av, hk, _, rfl⟩ := hv
      obtain ⟨b, off, hvv, _, hc⟩ := fptr_cells hr
      obtain ⟨v, hrun, hrel⟩ := run_loadVar_cells (P := P) ht hc hk
      refine OpOk.quiet hs (v := v) ?_ hrel
      simp [Instr.loadAt, hvv, Instr.sureAddr, hrun]
    | ptr id k o tot =>
      simp only at hv
      cases hco : cellsOf m id k tot with
      | none => simp [hco] at hv
      | some pc =>
        obtain ⟨p', cs⟩ := pc
        simp only [hco, Option.map_eq_some_iff, Prod.mk.injEq] at hv
        obtain ⟨av, hk, rfl, rfl⟩ := hv
        obtain ⟨b, base, hvv, hc⟩ := ptr_cells hs hr hco hp
        obtain ⟨v, hrun, hrel⟩ := run_loadVar_cells (P := P) ht (hc.drop o) hk
        refine OpOk.quiet hs (v := v) ?_ hrel
        simp [Instr.loadAt, hvv, Instr.sureAddr, hrun]
    | _ => simp at hv

theorem ok_mov {ρ : Operand → Value} {e : AX → Option AV} {x : Operand} {ax : AX} {p : Prop} {r : Res} {d : Nat}
    (hs : SimO G w ob m) (hx : cx x = some ax) (he : OpRel G w ob ρ e) (hv : eval (.mov ax) e m d = some (p, r)) :
    OpOk P G w ob m (pure (.value (ρ x))) r := by
  simp only [eval] at hv
  cases hax : e ax with
  | none => simp [hax] at hv
  | some a =>
    simp only [hax, Option.some.injEq, Prod.mk.injEq] at hv
    obtain ⟨_, rfl⟩ := hv
    exact OpOk.quiet hs (by simp) (he x ax a hx hax)

theorem int_of {av : AV} {k : IntKind} {n : Int} {v : Value} (h : Rel G w ob av v) (ha : av = .sc (.int k n)) : v = .int k n := by
  subst ha; cases h; rfl

theorem Rel.sc_eq {u v : Value} (h : Rel G w ob (.sc u) v) : v = u := by cases h; rfl

theorem Rel.ofInt (k : IntKind) (n : Int) : Rel G w ob (.sc (.int k n)) (.int k n) := .sc rfl
theorem Rel.ofBool (b : Bool) : Rel G w ob (.sc (.bool b)) (.bool b) := .sc rfl

theorem binAV_ok {op : BinOp} {a b av : AV} {p : Prop} {x y : Value} (t : TypeId) (h : binAV op a b = some (p, av)) (hp : p) (ha : Rel G w ob a x) (hb : Rel G w ob b y) :
    ∃ v, (binOp op t x y).run P w = .ok v w ∧ Rel G w ob av v ∧ (∃ k n k' n', x = .int k n ∧ y = .int k' n') := by
  cases a with
  | sc u =>
    cases b with
    | sc u' =>
      obtain rfl := ha.sc_eq
      obtain rfl := hb.sc_eq
      cases x with
      | int k n =>
        cases y with
        | int k' n' =>
          cases op <;> simp only [binAV] at h <;> try (simp at h; done)
          all_goals first
            | (simp only [Option.some.injEq, Prod.mk.injEq] at h
               obtain ⟨rfl, rfl⟩ := h
               have h0 : ¬ n' < 0 := by omega
               refine ⟨_, ?_, .sc rfl, _, _, _, _, rfl, rfl⟩
               simp [binOp, Op.shift, h0]; done)
            | (by_cases hk : k = k'
               · subst hk
                 simp only [if_true, Option.some.injEq, Prod.mk.injEq] at h
                 obtain ⟨rfl, rfl⟩ := h
                 refine ⟨_, ?_, .sc rfl, _, _, _, _, rfl, rfl⟩
                 first
                   | (simp [binOp, Op.intArith]; done)
                   | (simp [binOp, Op.intCmp]; done)
                   | (simp [binOp, Op.intBits]; done)
                   | (have hq := hp; simp [binOp, Op.intDiv, hq]; done)
               · simp [hk] at h)
        | _ => cases op <;> simp [binAV] at h
      | _ => cases op <;> simp [binAV] at h
    | _ => cases op <;> simp [binAV] at h
  | _ => cases op <;> simp [binAV] at h

theorem unAV_ok {op : UnOp} {a av : AV} {x : Value} (h : unAV op a = some av) (ha : Rel G w ob a x) :
    ∃ v, (Op.unary op x).run P w = .ok v w ∧ Rel G w ob av v := by
  cases a with
  | sc u =>
    obtain rfl := ha.sc_eq
    cases op <;> cases x <;> simp only [unAV] at h <;> try (simp at h; done)
    all_goals
      simp only [Option.some.injEq] at h
      subst h
      exact ⟨_, by simp [Op.unary, Op.intArith, Op.intBits], .sc rfl⟩
  | _ => cases op <;> simp [unAV] at h

end
end Go.Abs
