/- The abstract layer, part 29: arguments of a row, opened: structs and arrays. -/
import Derived.Test.YtbpaheflphafiaaApiT
set_option linter.unusedSimpArgs false
set_option linter.unusedVariables false
set_option linter.unnecessarySimpa false
namespace Go.Abs
open Go.Api Go.ChangeShapes Go.WideShapes Go.ChangeAt Go.RowKit
section
variable {P : Program} {W : World}
theorem opensF_step {α β : Type} {f : Field} {fs : List Field} {off sz off' size : Nat} {enc : α → List AV} {enc' : β → List AV} {Ok : α → Prop} {Ok' : β → Prop} (t : TypeId)
    (h1 : Opens P W t enc Ok) (ht : f.type = t) (hz : P.cellsOf t = sz) (ho : f.offset = off) (hs : off + sz = off') (h2 : OpensF P W fs off' size enc' Ok') :
    OpensF P W (f :: fs) off size (fun p : α × β => enc p.1 ++ enc' p.2) (fun p => Ok p.1 ∧ Ok' p.2) := by
  subst ht; subst hz; subst hs; exact opensF_cons h1 ho h2
theorem opens_struct' {α β : Type} {t : TypeId} {fs : Array Field} (size : Nat) {enc : α → List AV} {Ok : α → Prop} {enc' : β → List AV} {Ok' : β → Prop} (g : α → β) (ht : P.underlying t = some (.struct fs)) (hz : P.cellsOf t = size)
    (h : OpensF P W fs.toList 0 size enc Ok) (he : ∀ a, enc' (g a) = enc a) (hk : ∀ a, Ok a → Ok' (g a)) : Opens P W t enc' Ok' := by
  subst hz; exact (opens_struct ht h).map g he hk

/-- an integer of 64 bits -/
def fits (n : Int) : Prop := -9223372036854775808 ≤ n ∧ n ≤ 9223372036854775807
theorem opens_i64 {t : TypeId} (ht : P.underlying t = some (.int .i64)) : Opens P W t (fun n : Int => [.sc (.int .i64 n)]) fits :=
  (opens_int ht).map id (fun _ => rfl) fun n h => by
    simp only [Lit.wf, IntKind.min, IntKind.max, Bool.and_eq_true, decide_eq_true_eq] at h
    simp only [id, fits]
    simp [IntKind.min, IntKind.max, IntKind.bits, IntKind.signed] at h
    omega

theorem relC_agg {avs : List AV} {cs : Array Value} (h : RelC W avs cs.toList) : Rel (fun b => b < W.heap.size) W (fun _ => none) (.agg avs) (.agg cs) := by
  refine .agg cs (by simpa using h.1) (fun j av hj => pure_one (h.2 j av hj).1) (fun j av hj => ?_)
  have := (h.2 j av hj).2
  simpa [List.getD] using this

theorem opens_four {t el : TypeId} (ht : P.underlying t = some (.array 4 el)) (hel : P.underlying el = some (.int .i64)) (h4 : P.cellsOf t = 4) (h1 : P.cellsOf el = 1) : Opens P W t Four.enc (fun a => fits a.I0 ∧ fits a.I1 ∧ fits a.I2 ∧ fits a.I3) := by
  intro H e base spare held n cs x hx
  obtain ⟨xs, m, _, _, hl, hlen, hf⟩ := DataW.trod_array ht hx
  have each : ∀ i, i < 4 → ∃ z, fits z ∧ cs[i]? = some (.int .i64 z) := fun i hi => by
    have h := hf i hi
    rw [h1, Nat.mul_one, List.getElem?_eq_getElem (by omega)] at h
    obtain ⟨z, hz, hr⟩ := opens_i64 hel H e base spare held m _ _ h
    refine ⟨z, hz, ?_⟩
    have h2 := (hr.2 0 _ rfl).2.sc_eq
    have h3 : i < cs.length := by omega
    rw [List.getElem?_eq_getElem h3]
    simp [List.getD, List.getElem?_take, List.getElem?_drop, List.getElem?_eq_getElem h3] at h2
    rw [h2]
  obtain ⟨z0, f0, e0⟩ := each 0 (by omega)
  obtain ⟨z1, f1, e1⟩ := each 1 (by omega)
  obtain ⟨z2, f2, e2⟩ := each 2 (by omega)
  obtain ⟨z3, f3, e3⟩ := each 3 (by omega)
  refine ⟨⟨z0, z1, z2, z3⟩, ⟨f0, f1, f2, f3⟩, by simp [hl, h4, Four.enc], fun j av hj => ?_⟩
  match j, hj with
  | 0, hj => simp [Four.enc] at hj; subst hj; simp [List.getD, e0]; exact ⟨rfl, .sc rfl⟩
  | 1, hj => simp [Four.enc] at hj; subst hj; simp [List.getD, e1]; exact ⟨rfl, .sc rfl⟩
  | 2, hj => simp [Four.enc] at hj; subst hj; simp [List.getD, e2]; exact ⟨rfl, .sc rfl⟩
  | 3, hj => simp [Four.enc] at hj; subst hj; simp [List.getD, e3]; exact ⟨rfl, .sc rfl⟩
  | _ + 4, hj => simp [Four.enc] at hj

/-- a call by a contract, at the arguments of a row -/
theorem calls_true {f : FuncId} {args : List AV} {vals : List Value} (h : CallsA P f args [] (.sc (.bool true)) [])
    (hr : RelL (fun b => b < W.heap.size) W (fun _ => none) args vals) : Calls P f vals.toArray W fun e W' => e = .returned (.bool true) ∧ Below W.heap.size W W' := by
  refine (h.2 (fun b => b < W.heap.size) W (fun _ => none) vals ?_ hr).mono ?_
  · exact ⟨fun _ => ⟨fun _ => rfl, fun _ => rfl⟩, fun _ _ _ _ _ h => (by cases h), fun _ h => h, fun _ _ _ h => (by simp [ofL, wrm] at h), fun _ _ _ _ h => (by simp [ofL, wrm] at h)⟩
  · rintro e W' ⟨v, G', ob', rfl, _, hv, hf, _⟩
    have := hv.sc_eq
    subst this
    exact ⟨rfl, hf.os, hf.tape, hf.output, hf.size, fun k hk => hf.same k hk (.inl hk)⟩
end
end Go.Abs
