/- The abstract layer, part 24: arguments of a row, opened: what is read at a type is the encoding of a value. -/
import Derived.Test.YtbpaheflphafiaaAbs23
import Derived.WalkKit
import Derived.ProofKit
import Derived.OpenShut
import Derived.ChangeOld
import Derived.Below
set_option linter.unusedSimpArgs false
set_option linter.unusedVariables false
set_option linter.unnecessarySimpa false
namespace Go.Abs

/-- cells that stand for abstract values without references -/
def RelC (W : World) (avs : List AV) (cs : List Value) : Prop :=
  cs.length = avs.length ∧ ∀ (j : Nat) (av : AV), avs[j]? = some av → av.pure = true ∧ Rel (fun b => b < W.heap.size) W (fun _ => none) av (cs.getD j undef)

/-- whatever is read at type t is the encoding of a value for which Ok holds -/
def Opens {α : Type} (P : Program) (W : World) (t : TypeId) (enc : α → List AV) (Ok : α → Prop) : Prop :=
  ∀ (H : Type) (e : TypeId × Value → H) (base : Nat) (spare : Nat → Bool) (held : Bool) (n : Nat) (cs : List Value) (x : DataW H × List MemPlace),
    DataW.trod e P W base spare held n t cs = some x → ∃ a, Ok a ∧ RelC W (enc a) cs

section
variable {P : Program} {W : World}

theorem opens_int {t : TypeId} {k : IntKind} (ht : P.underlying t = some (.int k)) : Opens P W t (fun n : Int => [.sc (.int k n)]) (fun n => (Lit.int k n).wf = true) := by
  intro H e base spare held n cs x h
  obtain ⟨z, rfl, _, hw⟩ := DataW.trod_int ht h
  refine ⟨z, hw, rfl, fun j av hj => ?_⟩
  cases j with
  | zero => simp only [List.getElem?_cons_zero, Option.some.injEq] at hj; subst hj; exact ⟨rfl, .sc rfl⟩
  | succ j => simp at hj

theorem opens_bool {t : TypeId} (ht : P.underlying t = some .bool) : Opens P W t (fun b : Bool => [.sc (.bool b)]) (fun _ => True) := by
  intro H e base spare held n cs x h
  obtain ⟨z, rfl, _⟩ := DataW.trod_bool ht h
  refine ⟨z, trivial, rfl, fun j av hj => ?_⟩
  cases j with
  | zero => simp only [List.getElem?_cons_zero, Option.some.injEq] at hj; subst hj; exact ⟨rfl, .sc rfl⟩
  | succ j => simp at hj

theorem Opens.map {α β : Type} {t : TypeId} {enc : α → List AV} {enc' : β → List AV} {Ok : α → Prop} {Ok' : β → Prop} (h : Opens P W t enc Ok) (g : α → β) (he : ∀ a, enc' (g a) = enc a) (hk : ∀ a, Ok a → Ok' (g a)) : Opens P W t enc' Ok' := by
  intro H e base spare held n cs x hx
  obtain ⟨a, h1, h2⟩ := h H e base spare held n cs x hx
  exact ⟨g a, hk a h1, by rw [he]; exact h2⟩

theorem RelC.append {xs ys : List AV} {cs ds : List Value} (h1 : RelC W xs cs) (h2 : RelC W ys ds) : RelC W (xs ++ ys) (cs ++ ds) := by
  refine ⟨by simp [h1.1, h2.1], fun j av hj => ?_⟩
  by_cases hjl : j < xs.length
  · rw [List.getElem?_append_left hjl] at hj
    have := h1.2 j av hj
    simpa [List.getD, List.getElem?_append_left (show j < cs.length by rw [h1.1]; exact hjl)] using this
  · rw [List.getElem?_append_right (by omega)] at hj
    have := h2.2 _ av hj
    simpa [List.getD, List.getElem?_append_right (show cs.length ≤ j by rw [h1.1]; omega), h1.1] using this

/-- fields, one after the other from cell 'off' on -/
def OpensF {α : Type} (P : Program) (W : World) (fs : List Field) (off size : Nat) (enc : α → List AV) (Ok : α → Prop) : Prop :=
  ∀ (H : Type) (e : TypeId × Value → H) (base : Nat) (spare : Nat → Bool) (held : Bool) (n : Nat) (cs : List Value), cs.length = size →
    (∀ f ∈ fs, ∃ x, DataW.trod e P W base spare held n f.type ((cs.drop f.offset).take (P.cellsOf f.type)) = some x) → ∃ a, Ok a ∧ RelC W (enc a) (cs.drop off)

theorem opensF_nil {size : Nat} : OpensF P W [] size size (fun _ : Unit => []) (fun _ => True) := by
  intro H e base spare held n cs hl _
  exact ⟨(), trivial, by rw [List.drop_of_length_le (by omega)]; rfl, fun j av hj => by simp at hj⟩

theorem opensF_cons {α β : Type} {f : Field} {fs : List Field} {off size : Nat} {enc : α → List AV} {enc' : β → List AV} {Ok : α → Prop} {Ok' : β → Prop}
    (h1 : Opens P W f.type enc Ok) (ho : f.offset = off) (h2 : OpensF P W fs (off + P.cellsOf f.type) size enc' Ok') :
    OpensF P W (f :: fs) off size (fun p : α × β => enc p.1 ++ enc' p.2) (fun p => Ok p.1 ∧ Ok' p.2) := by
  intro H e base spare held n cs hl hf
  obtain ⟨x, hx⟩ := hf f (List.mem_cons_self ..)
  obtain ⟨a, ha, hr⟩ := h1 H e base spare held n _ x hx
  obtain ⟨b, hb, hr'⟩ := h2 H e base spare held n cs hl (fun g hg => hf g (List.mem_cons_of_mem _ hg))
  refine ⟨(a, b), ⟨ha, hb⟩, ?_⟩
  have : cs.drop off = (cs.drop off).take (P.cellsOf f.type) ++ cs.drop (off + P.cellsOf f.type) := by
    rw [← List.drop_drop, List.take_append_drop]
  rw [this]
  rw [ho] at hr
  exact hr.append hr'

theorem opens_struct {α : Type} {t : TypeId} {fs : Array Field} {enc : α → List AV} {Ok : α → Prop} (ht : P.underlying t = some (.struct fs)) (h : OpensF P W fs.toList 0 (P.cellsOf t) enc Ok) : Opens P W t enc Ok := by
  intro H e base spare held n cs x hx
  obtain ⟨xs, m, _, _, hl, hlen, hf⟩ := DataW.trod_struct ht hx
  have := h H e base spare held m cs hl fun f hfm => by
    obtain ⟨i, hi⟩ := List.getElem?_of_mem hfm
    have hi' : fs[i]? = some f := by simpa using hi
    rw [hf i f hi']
    have hlt : i < xs.length := by rw [hlen]; exact (Array.getElem?_eq_some_iff.1 hi').1
    exact ⟨xs[i], List.getElem?_eq_getElem hlt⟩
  simpa using this

theorem opens_slice {α : Type} {t el : TypeId} {enc : α → List AV} {Ok : α → Prop} {d : α} {z : Nat} (ht : P.underlying t = some (.slice el)) (hz : P.cellsOf el = z) (hz0 : 0 < z)
    (h : Opens P W el enc Ok) : Opens P W t (fun l : List α => [encL z enc d l]) (fun l => (∀ a ∈ l, Ok a) ∧ l.length ≤ maxLen) := by
  intro H e base spare held n cs x hx
  have mk : ∀ (l : List α) (v : Value), ((∀ a ∈ l, Ok a) ∧ l.length ≤ maxLen) → Rel (fun b => b < W.heap.size) W (fun _ => none) (encL z enc d l) v →
      ∃ a : List α, ((∀ b ∈ a, Ok b) ∧ a.length ≤ maxLen) ∧ RelC W [encL z enc d a] [v] := fun l v hl hr => by
    refine ⟨l, hl, rfl, fun j av hj => ?_⟩
    cases j with
    | zero => simp only [List.getElem?_cons_zero, Option.some.injEq] at hj; subst hj; exact ⟨rfl, hr⟩
    | succ j => simp at hj
  rcases DataW.trod_slice ht hx with ⟨rfl, _⟩ | ⟨a, len, cap, elems, rest, m, _, rfl, _, hb, hlc, hcm, hel, hf, _, _⟩
  · exact mk [] _ ⟨fun a ha => by simp at ha, by simp⟩ .dslNil
  · by_cases hl0 : len = 0
    · subst hl0
      exact mk [] _ ⟨fun a ha => by simp at ha, by simp⟩ (.dslE a cap)
    · -- each element
      have each : ∀ i, i < len → ∃ (b : α) (ds : List Value), Ok b ∧ RelC W (enc b) ds ∧ W.cells? base (a.add (i * z)) z = some ds := fun i hi => by
        have h1 := hf i hi
        rw [hz] at h1
        have hlt : i < elems.length := by omega
        rw [List.getElem?_eq_getElem hlt] at h1
        cases hc : W.cells? base (a.add (i * z)) z with
        | none => rw [hc] at h1; cases h1
        | some ds =>
          rw [hc] at h1
          obtain ⟨b, hb1, hb2⟩ := h H e base spare held m ds _ h1
          exact ⟨b, ds, hb1, hb2, rfl⟩
      have hpick : ∀ i, ∃ b : α, i < len → ∃ ds : List Value, Ok b ∧ RelC W (enc b) ds ∧ W.cells? base (a.add (i * z)) z = some ds := fun i => by
        by_cases hi : i < len
        · obtain ⟨b, ds, h1, h2, h3⟩ := each i hi; exact ⟨b, fun _ => ⟨ds, h1, h2, h3⟩⟩
        · exact ⟨d, fun h => absurd h hi⟩
      obtain ⟨f, hfs⟩ := Classical.axiomOfChoice hpick
      obtain ⟨l, hl⟩ : ∃ l : List α, l = (List.range len).map f := ⟨_, rfl⟩
      have hll : l.length = len := by rw [hl]; simp
      have hget : ∀ i, i < len → l.getD i d = f i := fun i hi => by rw [hl]; simp [List.getD, hi]
      -- the address is plain
      obtain ⟨ds0, _, _, hc0⟩ := hfs 0 (by omega)
      have hspot : a.spot = none := by
        obtain ⟨_, hdl, hcell⟩ := World.cells?_some hc0
        have h1 := hcell 0 hz0
        rw [List.getElem?_eq_getElem (by omega)] at h1
        have := World.cell?_spot h1
        simpa [Addr.add] using this
      have hblk : a.block < W.heap.size := by
        have := World.cells?_block hc0 hz0
        simpa [Addr.add] using this
      obtain ⟨b, off, spot⟩ := a
      simp only at hspot hblk
      subst hspot
      have cell : ∀ i j, i < len → j < z → ∃ ds : List Value, RelC W (enc (f i)) ds ∧ W.cell? ⟨b, off + (i * z + j), none⟩ = some (ds.getD j undef) ∧ ds.length = z := fun i j hi hj => by
        obtain ⟨ds, _, h2, h3⟩ := hfs i hi
        obtain ⟨_, hdl, hcell⟩ := World.cells?_some h3
        refine ⟨ds, h2, ?_, hdl⟩
        have h1 := hcell j hj
        rw [List.getElem?_eq_getElem (by omega)] at h1
        rw [addr_add, addr_add, Nat.add_assoc] at h1
        rw [h1, List.getD, List.getElem?_eq_getElem (by omega)]; rfl
      have elen : ∀ i, i < len → (enc (f i)).length = z := fun i hi => by
        obtain ⟨ds, h1, _, h3⟩ := cell i 0 hi hz0
        rw [← h1.1, h3]
      refine mk l _ ⟨fun x hx => ?_, by rw [hll]; omega⟩ ?_
      · rw [hl, List.mem_map] at hx
        obtain ⟨i, hi, rfl⟩ := hx
        obtain ⟨_, h1, _⟩ := hfs i (by simpa using hi)
        exact h1
      · unfold encL
        rw [hll]
        refine .dsl b off cap (fun i j => (W.cell? ⟨b, off + (i * z + j), none⟩).getD undef) hblk hlc (fun i hi => ?_) (fun i j av hi hj => ?_) (fun i j hi hj => ?_) (fun i j av hi hj => ?_)
        · rw [hget i hi]; exact elen i hi
        · rw [hget i hi] at hj
          have hjz : j < z := by
            rw [← elen i hi]; rcases Nat.lt_or_ge j (enc (f i)).length with h | h
            · exact h
            · rw [List.getElem?_eq_none h] at hj; cases hj
          obtain ⟨ds, h1, _, _⟩ := cell i j hi hjz
          exact (h1.2 j av hj).1
        · obtain ⟨ds, _, h2, _⟩ := cell i j hi hj
          rw [h2]; rfl
        · rw [hget i hi] at hj
          have hjz : j < z := by
            rw [← elen i hi]; rcases Nat.lt_or_ge j (enc (f i)).length with h | h
            · exact h
            · rw [List.getElem?_eq_none h] at hj; cases hj
          obtain ⟨ds, h1, h2, _⟩ := cell i j hi hjz
          simp only [h2, Option.getD_some]
          exact (h1.2 j av hj).2
end
end Go.Abs
