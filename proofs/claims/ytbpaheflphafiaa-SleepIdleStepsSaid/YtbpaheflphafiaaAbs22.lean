/- The abstract layer, part 22: lists as sequences of cells. -/
import Derived.Test.YtbpaheflphafiaaAbs21
set_option linter.unusedSimpArgs false
set_option linter.unusedVariables false
set_option linter.unnecessarySimpa false
namespace Go.Abs
theorem bor (b q : Bool) : (if b = true then true else q) = (b || q) := by cases b <;> rfl
theorem bor2 (b q : Bool) : (if b = false then true else q) = (!b || q) := by cases b <;> rfl
theorem band2 (b q : Bool) : (if b = false then q else false) = (!b && q) := by cases b <;> rfl
theorem band (b q : Bool) : (if b = true then q else false) = (b && q) := by cases b <;> rfl

section
variable {α : Type}

def encSq (enc : α → List AV) (d : α) (l : List α) : Sq := ⟨l.length, fun i => enc (l.getD i d)⟩
def encL (z : Nat) (enc : α → List AV) (d : α) (l : List α) : AV := .dsl z l.length fun i => enc (l.getD i d)

theorem setSq_n (s : Sq) (k : Nat) (c : List AV) : (s.set k c).n = s.n := rfl
theorem encSq_n (enc : α → List AV) (d : α) (l : List α) : (encSq enc d l).n = l.length := rfl
theorem encSq_g (enc : α → List AV) (d : α) (l : List α) (i : Nat) : (encSq enc d l).g i = enc (l.getD i d) := rfl

theorem getD_set (l : List α) (i j : Nat) (x d : α) (hi : i < l.length) : (l.set i x).getD j d = if j = i then x else l.getD j d := by
  simp only [List.getD, List.getElem?_set]
  by_cases h : i = j
  · subst h; simp [hi]
  · rw [if_neg h, if_neg (fun e => h e.symm)]

theorem encSq_set {enc : α → List AV} {d : α} {l : List α} {i : Nat} {x : α} (hi : i < l.length) : (encSq enc d l).set i (enc x) = encSq enc d (l.set i x) := by
  simp only [Sq.set, encSq, List.length_set, Sq.mk.injEq, true_and]
  funext j
  rw [getD_set l i j x d hi]
  split <;> rfl

theorem getD_append (l l' : List α) (i : Nat) (d : α) : (l ++ l').getD i d = if i < l.length then l.getD i d else l'.getD (i - l.length) d := by
  simp only [List.getD]
  by_cases h : i < l.length
  · rw [if_pos h, List.getElem?_append_left h]
  · rw [if_neg h, List.getElem?_append_right (by omega)]

theorem encSq_app {enc : α → List AV} {d : α} {l l' : List α} : (encSq enc d l).app (encSq enc d l') = encSq enc d (l ++ l') := by
  simp only [Sq.app, encSq, List.length_append, Sq.mk.injEq, true_and]
  funext j
  rw [getD_append]
  by_cases h : j < l.length <;> simp [h]

/-- one more element: an object may be seen so -/
theorem app_one_le {enc : α → List AV} {d : α} {l : List α} {g : Nat → List AV} {x : α} (hg : g 0 = enc x) {ρ : Nat → Nat} {z : Nat} :
    objLeC ρ (.arr z ((encSq enc d l).app ⟨1, g⟩)) (.arr z (encSq enc d (l ++ [x]))) := by
  refine ⟨rfl, by simp [Sq.app, encSq], fun i hi => ?_⟩
  have : ((encSq enc d l).app ⟨1, g⟩).g i = (encSq enc d (l ++ [x])).g i := by
    have hi' : i < l.length + 1 := hi
    simp only [Sq.app, encSq]
    rw [getD_append]
    by_cases h : i < l.length
    · simp [h]
    · have h0 : i - l.length = 0 := by omega
      simp only [h, if_false, h0, hg]
      rfl
  rw [this]
  exact avleL_refl _

theorem objLeC_refl {ρ : Nat → Nat} {z : Nat} {s : Sq} : objLeC ρ (.arr z s) (.arr z s) := ⟨rfl, rfl, fun _ _ => avleL_refl _⟩

theorem set_le {enc : α → List AV} {d : α} {l l' : List α} {i : Nat} {c : List AV} (x : α) {ρ : Nat → Nat} {z : Nat} (hi : i < l.length) (hc : c = enc x) (hl : l.set i x = l') :
    objLeC ρ (.arr z ((encSq enc d l).set i c)) (.arr z (encSq enc d l')) := by
  subst hc; subst hl; rw [encSq_set hi]; exact objLeC_refl

theorem set2_le {enc : α → List AV} {d : α} {l l' : List α} {i j : Nat} {c e : List AV} (x y : α) {ρ : Nat → Nat} {z : Nat} (hi : i < l.length) (hj : j < l.length) (hc : c = enc x) (he : e = enc y) (hl : (l.set i x).set j y = l') :
    objLeC ρ (.arr z (((encSq enc d l).set i c).set j e)) (.arr z (encSq enc d l')) := by
  subst hc; subst he; subst hl; rw [encSq_set hi, encSq_set (by simpa using hj)]; exact objLeC_refl

theorem same_le {enc : α → List AV} {d : α} {l l' : List α} {ρ : Nat → Nat} {z : Nat} (h : l = l') : objLeC ρ (.arr z (encSq enc d l)) (.arr z (encSq enc d l')) := by
  subst h; exact objLeC_refl

theorem avle_scsc (v v' : Value) : avle (.sc v) (.sc v') = (v = v') := by simp only [avle]
theorem avleL_nil : avleL [] [] = True := by simp only [avleL]
theorem avleL_cons (a b : AV) (as bs : List AV) : avleL (a :: as) (b :: bs) = (avle a b ∧ avleL as bs) := by simp only [avleL]
theorem avle_nilL {enc : α → List AV} {d : α} {z : Nat} {l : List α} (h : l = []) : avle (.sc (.slice none 0 0)) (encL z enc d l) := by
  subst h; simp [encL, avle]

/-- a frozen list -/
theorem avle_encL {enc : α → List AV} {d : α} {l l' : List α} {z n : Nat} {g : Nat → List AV} (hn : n = l.length) (hg : ∀ i, i < n → g i = enc (l.getD i d)) (h : l = l') : avle (.dsl z n g) (encL z enc d l') := by
  subst h; subst hn
  simp only [encL, avle, true_and]
  intro i hi; rw [hg i hi]; exact avleL_refl _
end
end Go.Abs
