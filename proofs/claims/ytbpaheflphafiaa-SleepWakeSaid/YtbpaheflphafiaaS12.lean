/- A part of the walk: contracts of functions that the statement reaches. -/
import Derived.Test.YtbpaheflphafiaaS10
set_option linter.unusedSimpArgs false
set_option linter.unusedVariables false
set_option linter.unnecessarySimpa false
set_option maxRecDepth 100000
set_option maxHeartbeats 2000000
set_option linter.unusedSimpArgs false
set_option linter.unusedVariables false
namespace Go.Abs
open Go.Proofs
open Api
theorem aslN_cons (c : Body) (l : List Body) : aslN (c :: l) = (if c.Asleep = true then 1 else 0) + aslN l := by
  unfold aslN; rw [List.filter_cons]
  by_cases h : c.Asleep = true
  · rw [if_pos h, if_pos h, List.length_cons]; omega
  · rw [if_neg h, if_neg h]; omega
theorem aslN_set : ∀ (l : List Body) (k : Nat) (b : Body), k < l.length → aslN (l.set k b) + (if (l.getD k default).Asleep = true then 1 else 0) = aslN l + (if b.Asleep = true then 1 else 0)
  | [], k, b, h => by simp at h
  | c :: l, 0, b, h => by
    rw [List.set_cons_zero, aslN_cons, aslN_cons, List.getD_cons_zero]; omega
  | c :: l, k + 1, b, h => by
    have ih := aslN_set l k b (by simpa using h)
    rw [List.set_cons_succ, aslN_cons, aslN_cons, List.getD_cons_succ]; omega
theorem wk_count (l : List Int) : ∀ (s : List Body × List (Int × Int)), (∀ i ∈ l, 0 ≤ i ∧ i < (s.1.length : Int)) → aslN (l.foldl wkStep s).1 + (l.foldl wkStep s).2.length = aslN s.1 + s.2.length := by
  induction l with
  | nil => intro s h; rfl
  | cons a l ih =>
    intro s h
    obtain ⟨h0, h1⟩ := h a (by simp)
    have hlen := (wkStep_len s a).1
    rw [List.foldl_cons, ih (wkStep s a) (fun i hi => by rw [hlen]; exact h i (by simp [hi]))]
    unfold wkStep
    split
    · rename_i hs
      have := aslN_set s.1 a.toNat (wkB (s.1.getD a.toNat default)) (by omega)
      rw [if_pos hs, if_neg (by simp [wkB])] at this
      simp only [List.length_append, List.length_singleton]
      omega
    · rfl
theorem getD_set_ne {α : Type} {l : List α} {i k : Nat} {a d : α} (h : i ≠ k) : (l.set k a).getD i d = l.getD i d := by
  simp [List.getD, List.getElem?_set_ne (Ne.symm h)]
theorem getD_set_self {α : Type} {l : List α} {k : Nat} {a d : α} (h : k < l.length) : (l.set k a).getD k d = a := by
  simp [List.getD, h]
theorem sl_count (l : List Int) : ∀ (s : List Body × List (Int × Int)), l.Nodup → (∀ i ∈ l, 0 ≤ i ∧ i < (s.1.length : Int)) → (∀ i ∈ l, (s.1.getD i.toNat default).Asleep = false) →
    aslN (l.foldl slStep s).1 + s.2.length = aslN s.1 + (l.foldl slStep s).2.length := by
  induction l with
  | nil => intro s _ _ _; rfl
  | cons a l ih =>
    intro s hn h hs
    obtain ⟨h0, h1⟩ := h a (by simp)
    rw [List.nodup_cons] at hn
    have hi := ih (slStep s a) hn.2 (fun i hi => by simp only [slStep, List.length_set]; exact h i (by simp [hi])) (fun i hi => by
      have hne : i.toNat ≠ a.toNat := fun e => by
        have h2 := h i (by simp [hi])
        have : i = a := by omega
        subst this; exact hn.1 hi
      simp only [slStep]
      rw [getD_set_ne hne]; exact hs i (by simp [hi]))
    have hset := aslN_set s.1 a.toNat (slB (s.1.getD a.toNat default)) (by omega)
    rw [hs a (by simp), if_neg (by simp), if_pos (by rfl)] at hset
    simp only [slStep, List.length_append, List.length_singleton] at hi
    simp only [List.foldl_cons, slStep] at hi ⊢
    omega
theorem wk_awake (l : List Int) : ∀ (s : List Body × List (Int × Int)), (∀ i ∈ l, 0 ≤ i ∧ i < (s.1.length : Int)) → ∀ i : Nat, ((i : Int) ∈ l ∨ (s.1.getD i default).Asleep = false) → ((l.foldl wkStep s).1.getD i default).Asleep = false := by
  induction l with
  | nil => intro s h i hi; simpa using hi
  | cons a l ih =>
    intro s h i hi
    obtain ⟨h0, h1⟩ := h a (by simp)
    have hlen := (wkStep_len s a).1
    rw [List.foldl_cons]
    refine ih (wkStep s a) (fun i hi => by rw [hlen]; exact h i (by simp [hi])) i ?_
    by_cases hia : (i : Int) = a
    · right
      have e : a.toNat = i := by omega
      unfold wkStep
      rw [e]
      split
      · rw [getD_set_self (by omega)]; rfl
      · rename_i hs; simpa using hs
    · rcases hi with hi | hi
      · left; simpa [hia] using hi
      · right
        unfold wkStep
        split
        · rw [getD_set_ne (by omega)]; exact hi
        · exact hi
theorem up_asleep (l : List Int) : ∀ (s : List Body) (i : Nat), ((l.foldl (fun bs i => bs.set i.toNat (updIdle (bs.getD i.toNat default))) s).getD i default).Asleep = (s.getD i default).Asleep := by
  induction l with
  | nil => intro s i; rfl
  | cons a l ih =>
    intro s i
    rw [List.foldl_cons, ih]
    by_cases hia : i = a.toNat
    · subst hia
      by_cases hl : a.toNat < s.length
      · rw [getD_set_self hl]; rfl
      · rw [List.set_eq_of_length_le (by omega)]
    · rw [getD_set_ne hia]
theorem aslN_ext : ∀ (a b : List Body), a.length = b.length → (∀ i, (a.getD i default).Asleep = (b.getD i default).Asleep) → aslN a = aslN b
  | [], [], _, _ => rfl
  | [], _ :: _, h, _ => by simp at h
  | _ :: _, [], h, _ => by simp at h
  | x :: a, y :: b, h, hi => by
    have ih := aslN_ext a b (by simpa using h) (fun i => by simpa [List.getD] using hi (i + 1))
    have h0 : x.Asleep = y.Asleep := by simpa [List.getD] using hi 0
    unfold aslN at ih ⊢
    simp only [List.filter_cons, h0]
    split
    · simp only [List.length_cons, ih]
    · exact ih
def wakeW (w : Api.World) (x : Island) : Api.World := withB w (wkR w x).1
def updW (w : Api.World) (x : Island) : Api.World := withB w (updR w x).1
theorem wkR_len (w : Api.World) (x : Island) : (wkR w x).1.length = w.Bodies.length := by
  unfold wkR; split
  · exact (wkF_len w _).1
  · rfl
theorem updR_len (w : Api.World) (x : Island) : (updR w x).1.length = w.Bodies.length := by
  unfold updR; split
  · split
    · rw [(slF_len _ _).1, upF_len]
    · exact upF_len w _
  · rfl
theorem indX_wake (w : Api.World) (x : Island) : indX (wakeW w x) x = indX w x := by
  show inds x.Bodies (wkR w x).1.length = _; rw [wkR_len]; rfl
theorem ev_wake (w : Api.World) (x : Island) : aslN (wkR w x).1 + (wkR w x).2.length = aslN w.Bodies := by
  unfold wkR; split
  · exact wk_count (indX w x) (w.Bodies, []) (indX_in w x)
  · rfl
theorem ev_upd (w : Api.World) (x : Island) : (aslN (updR (wakeW w x) x).1 = aslN (wkR w x).1 + (updR (wakeW w x) x).2.length) ∨ (awakeB (wakeW w x) x (indX (wakeW w x) x) = false ∧ (updR (wakeW w x) x).2 = []) := by
  cases ha : awakeB (wakeW w x) x (indX (wakeW w x) x) with
  | false => exact .inr ⟨rfl, by unfold updR; rw [ha]; rfl⟩
  | true =>
    left
    have hw : awakeB w x (indX w x) = true := by
      cases h : awakeB w x (indX w x) with
      | true => rfl
      | false =>
        have : wkR w x = (w.Bodies, []) := by unfold wkR; rw [h]; rfl
        have e : wakeW w x = w := by unfold wakeW; rw [this]; rfl
        rw [e, h] at ha; cases ha
    have hr : (wkR w x).1 = (wkF w (indX w x)).1 := by unfold wkR; rw [if_pos hw]
    have hup : aslN (upF (wakeW w x) (indX w x)) = aslN (wkR w x).1 := aslN_ext _ _ (upF_len _ _) fun i => up_asleep _ _ i
    unfold updR
    rw [if_pos ha, indX_wake]
    split
    · have hs := sl_count (indX w x) (upF (wakeW w x) (indX w x), []) (inds_nodup _ _) (fun i hi => by
        rw [upF_len]; show 0 ≤ i ∧ i < ((wkR w x).1.length : Int); rw [wkR_len]; exact indX_in w x i hi) (fun i hi => by
        have h1 := up_asleep (indX w x) (wakeW w x).Bodies i.toNat
        refine h1.trans ?_
        show ((wkR w x).1.getD i.toNat default).Asleep = false
        rw [hr]
        refine wk_awake (indX w x) (w.Bodies, []) (indX_in w x) i.toNat (.inl ?_)
        have := (indX_in w x i hi).1
        rw [show ((i.toNat : Nat) : Int) = i by omega]; exact hi)
      rw [← hup]
      simpa [slF] using hs
    · rw [hup]; rfl

end Go.Abs
