/- The abstract layer, part 28: small rules for walks. -/
import Derived.Test.YtbpaheflphafiaaAbs27
set_option linter.unusedSimpArgs false
set_option linter.unusedVariables false
set_option linter.unnecessarySimpa false
namespace Go.Abs
theorem avle_self (a : AV) : avle a a = True := eq_true (avle_refl a)
theorem avleL_self (l : List AV) : avleL l l = True := eq_true (avleL_refl l)
theorem objLeC_self {ρ : Nat → Nat} {z : Nat} {s : Sq} : objLeC ρ (.arr z s) (.arr z s) = True := eq_true objLeC_refl
theorem app0_le {α : Type} {enc : α → List AV} {d : α} {l : List α} {g : Nat → List AV} {ρ : Nat → Nat} {z : Nat} :
    objLeC ρ (.arr z (Sq.app ⟨0, g⟩ ⟨l.length, fun i => enc (l.getD i d)⟩)) (.arr z (encSq enc d l)) :=
  ⟨rfl, by simp [Sq.app, encSq], fun i hi => by simp only [Sq.app, encSq, Nat.not_lt_zero, if_false, Nat.sub_zero]; exact avleL_refl _⟩
theorem avle_dsl_dsl (z n z' n' : Nat) (g g' : Nat → List AV) : avle (.dsl z n g) (.dsl z' n' g') = (z = z' ∧ n = n' ∧ ∀ i, i < n → avleL (g i) (g' i)) := by simp only [avle]
theorem avle_agg_agg (cs cs' : List AV) : avle (.agg cs) (.agg cs') = avleL cs cs' := by simp only [avle]
theorem avle_sc_dsl (v : Value) (z n : Nat) (g : Nat → List AV) : avle (.sc v) (.dsl z n g) = (v = .slice none 0 0 ∧ n = 0) := by simp only [avle]
/-- one more element of a list that a loop builds -/
theorem app1_le {α : Type} {enc : α → List AV} {d : α} {l l' : List α} {g : Nat → List AV} {ρ : Nat → Nat} {z : Nat} (x : α) (hg : g 0 = enc x) (hl : l' = l ++ [x]) :
    objLeC ρ (.arr z ((encSq enc d l).app ⟨1, g⟩)) (.arr z (encSq enc d l')) := by subst hl; exact app_one_le hg
theorem take_snoc {α : Type} {l : List α} {i : Nat} (d : α) (h : i < l.length) : l.take (i + 1) = l.take i ++ [l.getD i d] := by
  rw [List.take_add_one, List.getElem?_eq_getElem h]; simp [List.getD, h]
theorem mem_getD {α : Type} {l : List α} {i : Nat} (d : α) (h : i < l.length) : l.getD i d ∈ l := by
  simp [List.getD, h]
/-- a list that a loop builds, element by element -/
theorem map_take_snoc {α β : Type} {l : List α} {i : Nat} (d : α) (f : α → β) (h : i < l.length) : (l.take (i + 1)).map f = (l.take i).map f ++ [f (l.getD i d)] := by
  rw [take_snoc d h, List.map_append]; rfl
attribute [go_sem] avle_self avleL_self objLeC_self

section
variable {α : Type}
/-- the cells of a list's elements, kept closed -/
def encAt (enc : α → List AV) (d : α) (l : List α) : Nat → List AV := fun i => enc (l.getD i d)
def encD (z : Nat) (enc : α → List AV) (d : α) (l : List α) : AV := .dsl z l.length (encAt enc d l)
def encQ (enc : α → List AV) (d : α) (l : List α) : Sq := ⟨l.length, encAt enc d l⟩
theorem encAt_app (enc : α → List AV) (d : α) (l : List α) (i : Nat) : encAt enc d l i = enc (l.getD i d) := rfl
theorem encQ_n (enc : α → List AV) (d : α) (l : List α) : (encQ enc d l).n = l.length := rfl
theorem encQ_g (enc : α → List AV) (d : α) (l : List α) : (encQ enc d l).g = encAt enc d l := rfl
theorem zero_add_fun (g : Nat → List AV) : (fun i => g (0 + i)) = g := by funext i; rw [Nat.zero_add]
theorem q_app0 {enc : α → List AV} {d : α} {l : List α} {g : Nat → List AV} {ρ : Nat → Nat} {z : Nat} : objLeC ρ (.arr z (Sq.app ⟨0, g⟩ ⟨l.length, encAt enc d l⟩)) (.arr z (encQ enc d l)) := app0_le
theorem q_app1 {enc : α → List AV} {d : α} {l l' : List α} {g : Nat → List AV} {ρ : Nat → Nat} {z : Nat} (x : α) (hg : g 0 = enc x) (hl : l' = l ++ [x]) :
    objLeC ρ (.arr z ((encQ enc d l).app ⟨1, g⟩)) (.arr z (encQ enc d l')) := app1_le x hg hl
theorem q_set {enc : α → List AV} {d : α} {l l' : List α} {i : Nat} {c : List AV} (x : α) {ρ : Nat → Nat} {z : Nat} (hi : i < l.length) (hc : c = enc x) (hl : l.set i x = l') :
    objLeC ρ (.arr z ((encQ enc d l).set i c)) (.arr z (encQ enc d l')) := set_le x hi hc hl
theorem q_setE {enc : α → List AV} {d : α} {l : List α} {i : Nat} {c : List AV} (x : α) (hi : i < l.length) (hc : c = enc x) : (encQ enc d l).set i c = encQ enc d (l.set i x) := by
  subst hc; exact encSq_set hi
theorem q_same {enc : α → List AV} {d : α} {l l' : List α} {ρ : Nat → Nat} {z : Nat} (h : l = l') : objLeC ρ (.arr z (encQ enc d l)) (.arr z (encQ enc d l')) := same_le h
theorem q_app {enc : α → List AV} {d : α} {l l' : List α} : (encQ enc d l).app ⟨l'.length, encAt enc d l'⟩ = encQ enc d (l ++ l') := encSq_app
theorem avle_nilD {enc : α → List AV} {d : α} {z : Nat} {l : List α} (h : l = []) : avle (.sc (.slice none 0 0)) (encD z enc d l) := avle_nilL h
theorem encQ_fold (enc : α → List AV) (d : α) (l : List α) : Sq.mk l.length (encAt enc d l) = encQ enc d l := rfl
theorem q_app' {enc : α → List AV} {d : α} {l l' : List α} : (encQ enc d l).app (encQ enc d l') = encQ enc d (l ++ l') := encSq_app
end
theorem app_zero (g : Nat → List AV) (t : Sq) : Sq.app ⟨0, g⟩ t = t := by
  cases t; simp [Sq.app]
attribute [go_sem] forall_eq_or_imp app_zero encQ_fold q_app' disj keys foot AOp.touches AOp.mayWrite List.flatMap_cons List.flatMap_nil List.append_assoc List.getElem?_nil List.all_cons List.all_nil List.map_cons avle_agg_agg encD encAt_app encQ_n encQ_g List.length_take Int.natCast_zero
theorem dsl_zero_add (z n : Nat) (g : Nat → List AV) : AV.dsl z n (fun i => g (0 + i)) = AV.dsl z n g := by rw [zero_add_fun]
theorem sq_zero_add (n : Nat) (g : Nat → List AV) : Sq.mk n (fun i => g (0 + i)) = Sq.mk n g := by rw [zero_add_fun]
attribute [go_sem ↓] dsl_zero_add sq_zero_add
end Go.Abs
