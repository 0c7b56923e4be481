/- The abstract layer, part 1: abstract values and objects, and how they stand for the model's values and worlds. -/
import Derived.Calls
import Derived.Laws.Sem
import Derived.Laws.World
import Derived.Laws.Cells
import Derived.Laws.Rows
import Derived.Laws.Tables
set_option linter.unusedSimpArgs false
set_option linter.unusedVariables false
set_option linter.unnecessarySimpa false
namespace Go.Abs

inductive AV where
  | sc (v : Value)
  | dsl (z n : Nat) (g : Nat → List AV)
  | dslx (z n : Nat) (g : Nat → List AV)
  | sl (id off len tot : Nat)
  | ptr (id i o tot : Nat)
  | mp (id : Nat)
  | fptr (cs : List AV)
  | agg (cs : List AV)
  | tup (cs : List AV)
  | fn (f : Fn) (first cap : List AV)

instance : Inhabited AV := ⟨.sc (.bool false)⟩

structure Sq where
  n : Nat
  g : Nat → List AV

inductive AObj where
  | box (cs : List AV)
  | arr (z : Nat) (s : Sq)
  | frz (z : Nat) (s : Sq)
  | frzb (cs : List AV)
  | map (k : IntKind) (es : List (Int × AV))

def AV.cells : AV → List AV
  | .agg cs => cs
  | v => [v]

/-- no reference to an object -/
def AV.pure : AV → Bool
  | .sc _ | .dsl .. | .dslx .. => true
  | .fn _ [] [] => true
  | _ => false

/-- fits one cell -/
def AV.one : AV → Bool
  | .agg _ | .tup _ => false
  | _ => true

/-- an abstract value without references: also an aggregate of such -/
def AV.flat : AV → Bool
  | .agg cs => cs.all AV.pure
  | v => v.pure

def AObj.owned : AObj → Bool
  | .frz .. => false
  | .frzb _ => false
  | _ => true

structure Info where
  blk : Option Nat
  esz : Nat
  len : Nat
  cap : Nat
  isMap : Bool

abbrev Place := Nat → Option Info

def blks (ob : Place) (b : Nat) : Prop := ∃ id i, ob id = some i ∧ i.blk = some b

def SlV (i : Info) (off len : Nat) (v : Value) : Prop :=
  off + len ≤ i.len ∧ (i.blk = none → v = .slice none 0 0 ∨ ∃ a, v = .slice (some a) 0 0) ∧
    ∀ b, i.blk = some b → ∃ o c, v = .slice (some ⟨b, o, none⟩) len c ∧ len ≤ c ∧ (0 < len → o = off * i.esz) ∧ (off = 0 → o = 0 ∧ c = i.cap)

inductive Rel (G : Nat → Prop) (w : World) (ob : Place) : AV → Value → Prop
  | sc {v : Value} (h : v.oneCell' = true) : Rel G w ob (.sc v) v
  | dslNil {z : Nat} {g : Nat → List AV} : Rel G w ob (.dsl z 0 g) (.slice none 0 0)
  | dslxNil {z : Nat} {g : Nat → List AV} : Rel G w ob (.dslx z 0 g) (.slice none 0 0)
  | dslE {z : Nat} {g : Nat → List AV} (a : Addr) (cap : Nat) : Rel G w ob (.dsl z 0 g) (.slice (some a) 0 cap)
  | dslxE {z : Nat} {g : Nat → List AV} (a : Addr) : Rel G w ob (.dslx z 0 g) (.slice (some a) 0 0)
  | dsl {esz n : Nat} {g : Nat → List AV} (b off cap : Nat) (c : Nat → Nat → Value) (hG : G b) (hcap : n ≤ cap)
      (hlen : ∀ (i : Nat), i < n → (g i).length = esz)
      (hp : ∀ (i j : Nat) (av : AV), i < n → (g i)[j]? = some av → av.pure = true)
      (hc : ∀ i j, i < n → j < esz → w.cell? ⟨b, off + (i * esz + j), none⟩ = some (c i j))
      (hr : ∀ (i j : Nat) (av : AV), i < n → (g i)[j]? = some av → Rel G w ob av (c i j)) :
      Rel G w ob (.dsl esz n g) (.slice (some ⟨b, off, none⟩) n cap)
  | dslx {esz n : Nat} {g : Nat → List AV} (b off : Nat) (c : Nat → Nat → Value) (hG : G b)
      (hlen : ∀ (i : Nat), i < n → (g i).length = esz)
      (hp : ∀ (i j : Nat) (av : AV), i < n → (g i)[j]? = some av → av.pure = true)
      (hc : ∀ i j, i < n → j < esz → w.cell? ⟨b, off + (i * esz + j), none⟩ = some (c i j))
      (hr : ∀ (i j : Nat) (av : AV), i < n → (g i)[j]? = some av → Rel G w ob av (c i j)) :
      Rel G w ob (.dslx esz n g) (.slice (some ⟨b, off, none⟩) n n)
  | sl {id off len tot : Nat} {v : Value} (i : Info) (h : ob id = some i) (hle : tot ≤ i.len) (hs : ∃ a c, v = .slice a len c)
      (hv : i.len = tot → SlV i off len v) : Rel G w ob (.sl id off len tot) v
  | ptr {id k o tot : Nat} (a : Addr) (i : Info) (h : ob id = some i) (hle : tot ≤ i.len)
      (hv : i.len = tot → ∃ b, i.blk = some b ∧ a = ⟨b, k * i.esz + o, none⟩ ∧ k < i.len) : Rel G w ob (.ptr id k o tot) (.pointer (some a))
  | mp {id : Nat} (b : Nat) (i : Info) (h : ob id = some i) (hb : i.blk = some b) (hm : i.isMap = true) : Rel G w ob (.mp id) (.map (some b))
  | fptr {cs : List AV} (b off : Nat) (c : Nat → Value) (hG : G b)
      (hp : ∀ (j : Nat) (av : AV), cs[j]? = some av → av.pure = true)
      (hc : ∀ j, j < cs.length → w.cell? ⟨b, off + j, none⟩ = some (c j))
      (hr : ∀ (j : Nat) (av : AV), cs[j]? = some av → Rel G w ob av (c j)) : Rel G w ob (.fptr cs) (.pointer (some ⟨b, off, none⟩))
  | agg {cs : List AV} (vs : Array Value) (hn : vs.size = cs.length) (ho : ∀ (j : Nat) (av : AV), cs[j]? = some av → av.one = true)
      (hr : ∀ (j : Nat) (av : AV), cs[j]? = some av → Rel G w ob av (vs.getD j undef)) : Rel G w ob (.agg cs) (.agg vs)
  | tup {cs : List AV} (vs : Array Value) (hn : vs.size = cs.length)
      (hr : ∀ (j : Nat) (av : AV), cs[j]? = some av → Rel G w ob av (vs.getD j undef)) : Rel G w ob (.tup cs) (.tuple vs)
  | fn {f : Fn} {xs ys : List AV} (vs us : Array Value) (hn : vs.size = xs.length) (hm : us.size = ys.length)
      (hr : ∀ (j : Nat) (av : AV), xs[j]? = some av → Rel G w ob av (vs.getD j undef))
      (hq : ∀ (j : Nat) (av : AV), ys[j]? = some av → Rel G w ob av (us.getD j undef)) : Rel G w ob (.fn f xs ys) (.func f vs us)

def OBext (ob ob' : Place) : Prop := ∀ id i, ob id = some i → ∃ i', ob' id = some i' ∧ (i' = i ∨ (i.len < i'.len ∧ i.isMap = false))

theorem OBext.refl (ob : Place) : OBext ob ob := fun _ i h => ⟨i, h, .inl rfl⟩
theorem OBext.trans {o1 o2 o3 : Place} (h : OBext o1 o2) (h' : OBext o2 o3) : OBext o1 o3 := by
  intro id i hi
  obtain ⟨i', hi', h1⟩ := h id i hi
  obtain ⟨i'', hi'', h2⟩ := h' id i' hi'
  refine ⟨i'', hi'', ?_⟩
  rcases h1 with rfl | ⟨h1, m1⟩
  · exact h2
  · rcases h2 with rfl | ⟨h2, m2⟩
    · exact .inr ⟨h1, m1⟩
    · exact .inr ⟨Nat.lt_trans h1 h2, m1⟩

theorem cell_congr {w w' : World} {b off : Nat} (h : w'.heap[b]? = w.heap[b]?) : w'.cell? ⟨b, off, none⟩ = w.cell? ⟨b, off, none⟩ := by
  simp only [World.cell?, h]

theorem Rel.ext {G G' : Nat → Prop} {w w' : World} {ob ob' : Place} {av : AV} {v : Value} (h : Rel G w ob av v)
    (hG : ∀ b, G b → G' b) (hw : ∀ b, G b → w'.heap[b]? = w.heap[b]?) (hob : OBext ob ob') : Rel G' w' ob' av v := by
  induction h with
  | sc h => exact .sc h
  | dslNil => exact .dslNil
  | dslxNil => exact .dslxNil
  | dslE a cap => exact .dslE a cap
  | dslxE a => exact .dslxE a
  | dsl b off cap c hg hcap hlen hp hc hr ih =>
    exact .dsl b off cap c (hG b hg) hcap hlen hp (fun i j hi hj => by rw [cell_congr (hw b hg)]; exact hc i j hi hj) ih
  | dslx b off c hg hlen hp hc hr ih =>
    exact .dslx b off c (hG b hg) hlen hp (fun i j hi hj => by rw [cell_congr (hw b hg)]; exact hc i j hi hj) ih
  | sl i h hle hs hv =>
    obtain ⟨i', h', hi⟩ := hob _ i h
    rcases hi with rfl | ⟨hlt, _⟩
    · exact .sl i' h' hle hs hv
    · exact .sl i' h' (by omega) hs (fun e => by omega)
  | ptr a i h hle hv =>
    obtain ⟨i', h', hi⟩ := hob _ i h
    rcases hi with rfl | ⟨hlt, _⟩
    · exact .ptr a i' h' hle hv
    · exact .ptr a i' h' (by omega) (fun e => by omega)
  | mp b i h hb hm =>
    obtain ⟨i', h', hi⟩ := hob _ i h
    rcases hi with rfl | ⟨_, hf⟩
    · exact .mp b i' h' hb hm
    · rw [hm] at hf; cases hf
  | fptr b off c hg hp hc hr ih =>
    exact .fptr b off c (hG b hg) hp (fun j hj => by rw [cell_congr (hw b hg)]; exact hc j hj) ih
  | agg vs hn ho hr ih => exact .agg vs hn ho ih
  | tup vs hn hr ih => exact .tup vs hn ih
  | fn vs us hn hm hr hq ih1 ih2 => exact .fn vs us hn hm ih1 ih2

/-- a value without references stands whatever the objects are -/
theorem Rel.ob_free {G : Nat → Prop} {w : World} {ob ob' : Place} {av : AV} {v : Value} (h : Rel G w ob av v) (hp : av.pure = true) : Rel G w ob' av v := by
  induction h with
  | sc h => exact .sc h
  | dslNil => exact .dslNil
  | dslxNil => exact .dslxNil
  | dslE a cap => exact .dslE a cap
  | dslxE a => exact .dslxE a
  | dsl b off cap c hg hcap hlen hpp hc hr ih => exact .dsl b off cap c hg hcap hlen hpp hc (fun i j av hi h => ih i j av hi h (hpp i j av hi h))
  | dslx b off c hg hlen hpp hc hr ih => exact .dslx b off c hg hlen hpp hc (fun i j av hi h => ih i j av hi h (hpp i j av hi h))
  | fn vs us hn hm hr hq ih1 ih2 =>
    rename_i f xs ys
    cases xs with
    | nil => cases ys with
      | nil => exact .fn vs us hn hm (fun j av h => by simp at h) (fun j av h => by simp at h)
      | cons => simp [AV.pure] at hp
    | cons => simp [AV.pure] at hp
  | _ => simp [AV.pure] at hp

theorem Rel.one_cell {G : Nat → Prop} {w : World} {ob : Place} {av : AV} {v : Value} (h : Rel G w ob av v) (ho : av.one = true) : v.oneCell' = true := by
  cases h with
  | sc h => exact h
  | sl i h hle hs hv => obtain ⟨a, c, rfl⟩ := hs; rfl
  | agg => simp [AV.one] at ho
  | tup => simp [AV.one] at ho
  | _ => rfl

theorem Rel.flat_free {G : Nat → Prop} {w : World} {ob ob' : Place} {av : AV} {v : Value} (h : Rel G w ob av v) (hp : av.flat = true) : Rel G w ob' av v := by
  by_cases hq : av.pure = true
  · exact h.ob_free hq
  · cases h with
    | agg vs hn ho hr =>
      simp only [AV.flat, List.all_eq_true] at hp
      exact .agg vs hn ho (fun j av hj => (hr j av hj).ob_free (hp av (List.mem_of_getElem? hj)))
    | _ => exact absurd hp hq

/-- the cells of a sequence of elements lie in a row of cells -/
def InRow (G : Nat → Prop) (w : World) (ob : Place) (arr : Array Value) (esz : Nat) (s : Sq) : Prop :=
  (∀ (i : Nat), i < s.n → (s.g i).length = esz) ∧
  ∀ (i j : Nat) (av : AV), i < s.n → (s.g i)[j]? = some av → av.pure = true ∧ ∃ v, arr[i * esz + j]? = some v ∧ Rel G w ob av v

def ObjRel (G : Nat → Prop) (w : World) (ob : Place) (i : Info) : AObj → Prop
  | .box cs => i.isMap = false ∧ i.len = 1 ∧ i.esz = cs.length ∧ ∃ (b : Nat) (arr : Array Value) (T : TypeId), i.blk = some b ∧ w.heap[b]? = some (.cells arr T (0, 0)) ∧ arr.size = cs.length ∧
      ∀ (j : Nat) (av : AV), cs[j]? = some av → av.one = true ∧ ∃ v, arr[j]? = some v ∧ Rel G w ob av v
  | .arr z s => i.isMap = false ∧ i.esz = z ∧ i.len = s.n ∧ s.n ≤ i.cap ∧ ((i.blk = none ∧ s.n = 0 ∧ i.cap = 0) ∨ ∃ (b : Nat) (arr : Array Value) (T : TypeId), i.blk = some b ∧ w.heap[b]? = some (.cells arr T (0, 0)) ∧
      arr.size = i.cap * i.esz ∧ InRow G w ob arr i.esz s)
  | .frz z s => i.isMap = false ∧ i.esz = z ∧ i.len = s.n ∧ s.n ≤ i.cap ∧ ((i.blk = none ∧ s.n = 0 ∧ i.cap = 0) ∨ ∃ (b : Nat) (arr : Array Value) (T : TypeId) (fz : Nat × Nat), i.blk = some b ∧ G b ∧ w.heap[b]? = some (.cells arr T fz) ∧
      InRow G w ob arr i.esz s)
  | .frzb cs => i.isMap = false ∧ i.len = 1 ∧ i.esz = cs.length ∧ ∃ (b : Nat) (arr : Array Value) (T : TypeId) (fz : Nat × Nat), i.blk = some b ∧ G b ∧ w.heap[b]? = some (.cells arr T fz) ∧ arr.size = cs.length ∧
      ∀ (j : Nat) (av : AV), cs[j]? = some av → av.pure = true ∧ ∃ v, arr[j]? = some v ∧ Rel G w ob av v
  | .map k es => i.isMap = true ∧ ∃ (b : Nat) (ents : Array MapEntry) (clock : Nat), i.blk = some b ∧ w.heap[b]? = some (.map ents clock) ∧ ents.size = es.length ∧
      ∀ (j : Nat) (z : Int) (av : AV), es[j]? = some (z, av) → av.flat = true ∧ ∃ (e : MapEntry), ents[j]? = some e ∧ e.key = .int k z ∧ Rel G w ob av e.val

structure SimO (G : Nat → Prop) (w : World) (ob : Place) (m : Nat → Option AObj) : Prop where
  dom : ∀ id, m id = none ↔ ob id = none
  inj : ∀ id id' i i' b, ob id = some i → ob id' = some i' → i.blk = some b → i'.blk = some b → id = id'
  lt : ∀ b, G b → b < w.heap.size
  own : ∀ id o i, m id = some o → ob id = some i → ObjRel G w ob i o
  sep : ∀ id o i b, m id = some o → o.owned = true → ob id = some i → i.blk = some b → ¬ G b

structure Fr (G : Nat → Prop) (w : World) (ob : Place) (G' : Nat → Prop) (w' : World) (ob' : Place) : Prop where
  size : w.heap.size ≤ w'.heap.size
  same : ∀ b, b < w.heap.size → (G b ∨ ¬ blks ob b) → w'.heap[b]? = w.heap[b]?
  blk : ∀ b, blks ob' b → blks ob b ∨ w.heap.size ≤ b
  sub : ∀ b, G b → G' b
  new : ∀ b, G' b → G b ∨ w.heap.size ≤ b ∨ blks ob b
  os : w'.os = w.os
  tape : w'.tape = w.tape
  output : w'.output = w.output

theorem Fr.refl (G : Nat → Prop) (w : World) (ob : Place) : Fr G w ob G w ob :=
  ⟨Nat.le_refl _, fun _ _ _ => rfl, fun _ h => .inl h, fun _ h => h, fun _ h => .inl h, rfl, rfl, rfl⟩

theorem Fr.trans {G G1 G2 : Nat → Prop} {w w1 w2 : World} {ob ob1 ob2 : Place} (h : Fr G w ob G1 w1 ob1) (h' : Fr G1 w1 ob1 G2 w2 ob2) : Fr G w ob G2 w2 ob2 where
  size := Nat.le_trans h.size h'.size
  same := fun b hb hc => by
    rw [h'.same b (Nat.lt_of_lt_of_le hb h.size) ?_, h.same b hb hc]
    rcases hc with hc | hc
    · exact .inl (h.sub b hc)
    · refine .inr fun hk => ?_
      rcases h.blk b hk with h1 | h1
      · exact hc h1
      · omega
  blk := fun b hb => by
    rcases h'.blk b hb with h1 | h1
    · exact h.blk b h1
    · exact .inr (Nat.le_trans h.size h1)
  sub := fun b hb => h'.sub b (h.sub b hb)
  new := fun b hb => by
    rcases h'.new b hb with h1 | h1 | h1
    · exact h.new b h1
    · exact .inr (.inl (Nat.le_trans h.size h1))
    · rcases h.blk b h1 with h2 | h2
      · exact .inr (.inr h2)
      · exact .inr (.inl h2)
  os := h'.os.trans h.os
  tape := h'.tape.trans h.tape
  output := h'.output.trans h.output

theorem InRow.ext {G G' : Nat → Prop} {w w' : World} {ob ob' : Place} {arr : Array Value} {esz : Nat} {s : Sq} (h : InRow G w ob arr esz s)
    (hG : ∀ b, G b → G' b) (hw : ∀ b, G b → w'.heap[b]? = w.heap[b]?) (hob : OBext ob ob') : InRow G' w' ob' arr esz s :=
  ⟨h.1, fun i j av hi hj => let ⟨hp, v, hv, hr⟩ := h.2 i j av hi hj; ⟨hp, v, hv, hr.ext hG hw hob⟩⟩

theorem ObjRel.ext {G G' : Nat → Prop} {w w' : World} {ob ob' : Place} {i : Info} {o : AObj} (h : ObjRel G w ob i o)
    (hG : ∀ b, G b → G' b) (hw : ∀ b, G b → w'.heap[b]? = w.heap[b]?) (hob : OBext ob ob') (hb : ∀ b, i.blk = some b → w'.heap[b]? = w.heap[b]?) : ObjRel G' w' ob' i o := by
  cases o with
  | box cs =>
    obtain ⟨h0, h1, h2, b, arr, T, h3, h4, h5, h6⟩ := h
    exact ⟨h0, h1, h2, b, arr, T, h3, by rw [hb b h3]; exact h4, h5, fun j av hj => let ⟨ho, v, hv, hr⟩ := h6 j av hj; ⟨ho, v, hv, hr.ext hG hw hob⟩⟩
  | arr z s =>
    obtain ⟨h0, h00, h1, h2, h3⟩ := h
    refine ⟨h0, h00, h1, h2, ?_⟩
    rcases h3 with h3 | ⟨b, arr, T, h3, h4, h5, h6⟩
    · exact .inl h3
    · exact .inr ⟨b, arr, T, h3, by rw [hb b h3]; exact h4, h5, h6.ext hG hw hob⟩
  | frz z s =>
    obtain ⟨h0, h00, h1, h2, h3⟩ := h
    refine ⟨h0, h00, h1, h2, ?_⟩
    rcases h3 with h3 | ⟨b, arr, T, fz, h3, h4, h5, h6⟩
    · exact .inl h3
    · exact .inr ⟨b, arr, T, fz, h3, hG b h4, by rw [hb b h3]; exact h5, h6.ext hG hw hob⟩
  | frzb cs =>
    obtain ⟨h0, h1, h2, b, arr, T, fz, h3, h4, h5, h6, h7⟩ := h
    exact ⟨h0, h1, h2, b, arr, T, fz, h3, hG b h4, by rw [hb b h3]; exact h5, h6, fun j av hj => let ⟨ho, v, hv, hr⟩ := h7 j av hj; ⟨ho, v, hv, hr.ext hG hw hob⟩⟩
  | map k es =>
    obtain ⟨h0, b, ents, clock, h3, h4, h5, h6⟩ := h
    exact ⟨h0, b, ents, clock, h3, by rw [hb b h3]; exact h4, h5, fun j z av hj => let ⟨hf, e, he, hk, hr⟩ := h6 j z av hj; ⟨hf, e, he, hk, hr.ext hG hw hob⟩⟩

theorem ObjRel.blk_lt {G : Nat → Prop} {w : World} {ob : Place} {i : Info} {o : AObj} (h : ObjRel G w ob i o) {b : Nat} (hb : i.blk = some b) : b < w.heap.size := by
  have key : ∀ x, w.heap[b]? = some x → b < w.heap.size := fun x hx => by
    rcases Nat.lt_or_ge b w.heap.size with h | h
    · exact h
    · rw [Array.getElem?_eq_none h] at hx; cases hx
  cases o with
  | box cs =>
    obtain ⟨_, _, _, b', arr, T, h3, h4, _⟩ := h
    rw [hb] at h3; injection h3 with h3; subst h3; exact key _ h4
  | arr z s =>
    obtain ⟨_, _, _, _, h3 | ⟨b', arr, T, h3, h4, _⟩⟩ := h
    · rw [hb] at h3; cases h3.1
    · rw [hb] at h3; injection h3 with h3; subst h3; exact key _ h4
  | frz z s =>
    obtain ⟨_, _, _, _, h3 | ⟨b', arr, T, fz, h3, _, h4, _⟩⟩ := h
    · rw [hb] at h3; cases h3.1
    · rw [hb] at h3; injection h3 with h3; subst h3; exact key _ h4
  | frzb cs =>
    obtain ⟨_, _, _, b', arr, T, fz, h3, _, h4, _⟩ := h
    rw [hb] at h3; injection h3 with h3; subst h3; exact key _ h4
  | map k es =>
    obtain ⟨_, b', ents, clock, h3, h4, _⟩ := h
    rw [hb] at h3; injection h3 with h3; subst h3; exact key _ h4

theorem ObjRel.arr_none {G : Nat → Prop} {w : World} {ob : Place} {i : Info} {z : Nat} {s : Sq} (h : ObjRel G w ob i (.arr z s)) (hb : i.blk = none) : s.n = 0 := by
  rcases h.2.2.2.2 with h | ⟨b, _, _, h, _⟩
  · exact h.2.1
  · rw [hb] at h; cases h
theorem ObjRel.frz_none {G : Nat → Prop} {w : World} {ob : Place} {i : Info} {z : Nat} {s : Sq} (h : ObjRel G w ob i (.frz z s)) (hb : i.blk = none) : s.n = 0 := by
  rcases h.2.2.2.2 with h | ⟨b, _, _, _, h, _⟩
  · exact h.2.1
  · rw [hb] at h; cases h

def upd {β : Type} (f : Nat → Option β) (k : Nat) (v : Option β) : Nat → Option β := fun x => if x = k then v else f x

@[simp] theorem upd_same {β : Type} (f : Nat → Option β) (k : Nat) (v : Option β) : upd f k v k = v := by simp [upd]
theorem upd_ne {β : Type} {f : Nat → Option β} {k x : Nat} {v : Option β} (h : x ≠ k) : upd f k v x = f x := by simp [upd, h]

/-- one object is new or changed -/
theorem SimO.update {G : Nat → Prop} {w w' : World} {ob : Place} {m : Nat → Option AObj} (h : SimO G w ob m) (id : Nat) (o : AObj) (i : Info)
    (hsz : w.heap.size ≤ w'.heap.size)
    (hh : ∀ b, b < w.heap.size → (∀ j, ob id = some j → j.blk ≠ some b) → w'.heap[b]? = w.heap[b]?)
    (hi : ∀ j, ob id = some j → i = j ∨ (j.len < i.len ∧ j.isMap = false))
    (hb : ∀ b, i.blk = some b → (∃ j, ob id = some j ∧ j.blk = some b) ∨ w.heap.size ≤ b)
    (hnG : ∀ j, ob id = some j → ∀ b, j.blk = some b → G b → w'.heap[b]? = w.heap[b]?)
    (ho : ObjRel G w' (upd ob id (some i)) i o)
    (hs : o.owned = true → ∀ b, i.blk = some b → ¬ G b)
    : SimO G w' (upd ob id (some i)) (upd m id (some o)) ∧ OBext ob (upd ob id (some i)) ∧ ∀ b, blks (upd ob id (some i)) b → blks ob b ∨ w.heap.size ≤ b := by
  have hGw : ∀ b, G b → w'.heap[b]? = w.heap[b]? := fun b hG => by
    by_cases hx : ∀ j, ob id = some j → j.blk ≠ some b
    · exact hh b (h.lt b hG) hx
    · simp only [ne_eq, Classical.not_forall, Classical.not_not] at hx
      obtain ⟨j, hj, hjb⟩ := hx
      exact hnG j hj b hjb hG
  have hob : OBext ob (upd ob id (some i)) := fun x j hj => by
    by_cases hx : x = id
    · subst hx; exact ⟨i, by simp, hi j hj⟩
    · exact ⟨j, by rw [upd_ne hx]; exact hj, .inl rfl⟩
  refine ⟨⟨?_, ?_, ?_, ?_, ?_⟩, hob, ?_⟩
  · intro x
    by_cases hx : x = id
    · subst hx; simp
    · rw [upd_ne hx, upd_ne hx]; exact h.dom x
  · intro x y j j' b hj hj' hbj hbj'
    by_cases hx : x = id
    · by_cases hy : y = id
      · rw [hx, hy]
      · subst hx
        simp only [upd_same, Option.some.injEq] at hj; subst hj
        rw [upd_ne hy] at hj'
        rcases hb b hbj with ⟨k, hk, hkb⟩ | hlt
        · exact h.inj _ _ _ _ b hk hj' hkb hbj'
        · cases ho' : m y with
          | none => rw [(h.dom y).1 ho'] at hj'; cases hj'
          | some o' => have := (h.own y o' j' ho' hj').blk_lt hbj'; omega
    · by_cases hy : y = id
      · subst hy
        simp only [upd_same, Option.some.injEq] at hj'; subst hj'
        rw [upd_ne hx] at hj
        rcases hb b hbj' with ⟨k, hk, hkb⟩ | hlt
        · exact h.inj _ _ _ _ b hj hk hbj hkb
        · cases ho' : m x with
          | none => rw [(h.dom x).1 ho'] at hj; cases hj
          | some o' => have := (h.own x o' j ho' hj).blk_lt hbj; omega
      · rw [upd_ne hx] at hj; rw [upd_ne hy] at hj'
        exact h.inj _ _ _ _ b hj hj' hbj hbj'
  · intro b hG; exact Nat.lt_of_lt_of_le (h.lt b hG) hsz
  · intro x o' j ho' hj
    by_cases hx : x = id
    · subst hx
      simp only [upd_same, Option.some.injEq] at ho' hj; subst ho'; subst hj; exact ho
    · rw [upd_ne hx] at ho' hj
      have hr := h.own x o' j ho' hj
      refine hr.ext (fun _ h => h) hGw hob fun b hb' => hh b (hr.blk_lt hb') fun k hk hkb => ?_
      exact hx (h.inj _ _ _ _ b hj hk hb' hkb)
  · intro x o' j b ho' hown hj hb'
    by_cases hx : x = id
    · subst hx
      simp only [upd_same, Option.some.injEq] at ho' hj; subst ho'; subst hj; exact hs hown b hb'
    · rw [upd_ne hx] at ho' hj
      exact h.sep x o' j b ho' hown hj hb'
  · rintro b ⟨x, j, hj, hbj⟩
    by_cases hx : x = id
    · subst hx
      simp only [upd_same, Option.some.injEq] at hj; subst hj
      rcases hb b hbj with ⟨k, hk, hkb⟩ | hlt
      · exact .inl ⟨_, k, hk, hkb⟩
      · exact .inr hlt
    · rw [upd_ne hx] at hj; exact .inl ⟨x, j, hj, hbj⟩

/-- the heap is as it was -/
theorem SimO.heap_eq {G : Nat → Prop} {w w' : World} {ob : Place} {m : Nat → Option AObj} (h : SimO G w ob m) (he : w'.heap = w.heap) : SimO G w' ob m where
  dom := h.dom
  inj := h.inj
  lt := by rw [he]; exact h.lt
  own := fun id o i ho hi => (h.own id o i ho hi).ext (fun _ h => h) (fun _ _ => by rw [he]) (OBext.refl ob) (fun _ _ => by rw [he])
  sep := h.sep

end Go.Abs
