/- The abstract layer, part 15: regions, in text order and in every order. -/
import Derived.Test.YtbpaheflphafiaaAbs14
set_option linter.unusedSimpArgs false
set_option linter.unusedVariables false
set_option linter.unnecessarySimpa false
namespace Go.Abs

/-- a call, by a contract -/
def CallG (P : Program) (m : Nat → Option AObj) (f : FuncId) (avs : List AV) (b : Bool) (K : Res → Prop) : Prop :=
  ∃ r, (b = true → CallDoes P m f avs r) ∧ (r.wr ≠ [] → b = true) ∧ K r

@[congr] theorem CallG_congr {P : Program} {m m' : Nat → Option AObj} {f : FuncId} {avs avs' : List AV} {b b' : Bool} {K : Res → Prop} (h1 : m = m') (h2 : avs = avs') (h3 : b = b') :
    CallG P m f avs b K = CallG P m' f avs' b' K := by rw [h1, h2, h3]

/-- what remains to be shown of one operation: K of its result -/
def wopM (P : Program) (o : AOper) (σ : St) (b : Bool) (K : Bool → Res → Prop) : Prop :=
  match o.op with
  | .pick c x y => match σ.ev c with
    | some (cc, .sc (.bool q)) => match σ.ev x, σ.ev y with
      | some (c1, .sc (.bool p1)), some (c2, .sc (.bool p2)) =>
        (b = true → cc = true ∧ (q = true → c1 = true) ∧ (q = false → c2 = true)) ∧ K b ⟨some (.sc (.bool (if q then p1 else p2))), []⟩
      | some (c1, .sc (.bool p1)), none => q = true ∧ (b = true → cc = true ∧ c1 = true) ∧ K b ⟨some (.sc (.bool p1)), []⟩
      | none, some (c2, .sc (.bool p2)) => q = false ∧ (b = true → cc = true ∧ c2 = true) ∧ K b ⟨some (.sc (.bool p2)), []⟩
      | _, _ => False
    | _ => b = false ∧ K false ⟨none, []⟩
  | .call f xs => match target σ (.call f xs) with
    | some (f, avs) => allC σ b (AOp.call f xs).ops ∧ CallG P σ.objs f avs b (K b)
    | none => b = false ∧ K false ⟨none, []⟩
  | .callv x xs => match target σ (.callv x xs) with
    | some (f, avs) => allC σ b (AOp.callv x xs).ops ∧ CallG P σ.objs f avs b (K b)
    | none => b = false ∧ K false ⟨none, []⟩
  | op => match eval op σ.e σ.objs (o.dst.getD 0) with
    | some (p, r) => allC σ b op.ops ∧ (b = true → p) ∧ (r.wr ≠ [] → b = true) ∧ K b r
    | none => b = false ∧ K false ⟨none, []⟩

def wop (P : Program) (o : AOper) (σ : St) (K : Bool → Res → Prop) : Prop :=
  match guardV σ o.guard with
  | some b => wopM P o σ b K
  | none => False

def disj (a b : List Nat) : Prop := ∀ i ∈ a, i ∉ b

/-- does the operation keep off those that may be carried out ahead of it or behind it? seen: their feet and keys -/
def keepOff (seen : List (List Nat × List Nat)) (f k : List Nat) : List Nat → Prop
  | [] => True
  | c :: cs => (match seen[c]? with | some (f', k') => disj k (f' ++ k') ∧ disj k' (f ++ k) | none => False) ∧ keepOff seen f k cs

/-- operations one after the other -/
def wseq (P : Program) : List AOper → (St → Prop) → St → Prop
  | [], Q, σ => Q σ
  | o :: os, Q, σ => wop P o σ fun b r => wseq P os Q (σ.put o.dst b r)

/-- operations in every order -/
def wany (P : Program) : List AOper → List (List Nat × List Nat) → (St → Prop) → St → Prop
  | [], _, Q, σ => Q σ
  | o :: os, seen, Q, σ => wop P o σ fun b r => keepOff seen (foot σ o) (keys r) o.chk ∧ wany P os (seen ++ [(foot σ o, keys r)]) Q (σ.put o.dst b r)

@[congr] theorem wopM_congr {P : Program} {o : AOper} {σ σ' : St} {b b' : Bool} {K : Bool → Res → Prop} (h : σ = σ') (hb : b = b') : wopM P o σ b K = wopM P o σ' b' K := by rw [h, hb]
@[congr] theorem wop_congr {P : Program} {o : AOper} {σ σ' : St} {K : Bool → Res → Prop} (h : σ = σ') : wop P o σ K = wop P o σ' K := by rw [h]
@[congr] theorem wseq_congr {P : Program} {l : List AOper} {Q : St → Prop} {σ σ' : St} (h : σ = σ') : wseq P l Q σ = wseq P l Q σ' := by rw [h]
@[congr] theorem wany_congr {P : Program} {l : List AOper} {seen seen' : List (List Nat × List Nat)} {Q : St → Prop} {σ σ' : St} (hs : seen = seen') (h : σ = σ') : wany P l seen Q σ = wany P l seen' Q σ' := by rw [h, hs]

section
variable {P : Program}

theorem wopM_does {o : AOper} {σ : St} {b : Bool} {K : Bool → Res → Prop} (hg : guardV σ o.guard = some b) (h : wopM P o σ b K) : ∃ b r, Does P o σ b r ∧ K b r := by
  have hskip : b = false ∧ K false ⟨none, []⟩ → ∃ b r, Does P o σ b r ∧ K b r := by
    rintro ⟨rfl, hk⟩
    exact ⟨false, _, .skip hg, hk⟩
  unfold wopM at h
  split at h
  · rename_i c x y ho
    split at h
    · rename_i cc q hc
      split at h
      · rename_i c1 p1 c2 p2 hx hy
        exact ⟨b, _, .pick _ c x y q p1 p2 c1 c2 cc ho hg hc (fun _ => hx) (fun _ => hy) h.1, h.2⟩
      · rename_i c1 p1 hx hy
        obtain ⟨rfl, h1, h2⟩ := h
        exact ⟨b, _, .pick _ c x y true p1 p1 c1 c1 cc ho hg hc (fun _ => hx) (fun h => by cases h) (fun hb => ⟨(h1 hb).1, fun _ => (h1 hb).2, fun h => by cases h⟩), by simpa using h2⟩
      · rename_i c2 p2 hx hy
        obtain ⟨rfl, h1, h2⟩ := h
        exact ⟨b, _, .pick _ c x y false p2 p2 c2 c2 cc ho hg hc (fun h => by cases h) (fun _ => hy) (fun hb => ⟨(h1 hb).1, fun h => (by cases h), fun _ => (h1 hb).2⟩), by simpa using h2⟩
      · exact h.elim
    · exact hskip h
  · rename_i f xs ho
    split at h
    · rename_i f' avs ht
      obtain ⟨h1, r, h2, h3, h4⟩ := h
      exact ⟨b, r, .call _ f' avs r hg (by rw [ho]; exact ht) (by rw [ho]; exact h1) h2 h3, h4⟩
    · exact hskip h
  · rename_i x xs ho
    split at h
    · rename_i f' avs ht
      obtain ⟨h1, r, h2, h3, h4⟩ := h
      exact ⟨b, r, .call _ f' avs r hg (by rw [ho]; exact ht) (by rw [ho]; exact h1) h2 h3, h4⟩
    · exact hskip h
  · split at h
    · rename_i p r hv
      obtain ⟨h1, h2, h3, h4⟩ := h
      exact ⟨b, r, .op _ p r hg hv h1 h2 h3, h4⟩
    · exact hskip h

theorem wop_does {o : AOper} {σ : St} {K : Bool → Res → Prop} (h : wop P o σ K) : ∃ b r, Does P o σ b r ∧ K b r := by
  unfold wop at h
  split at h
  · rename_i b hg; exact wopM_does hg h
  · exact h.elim

/-! ### in every order -/

structure Ent where
  dst : Option Nat
  b : Bool
  r : Res

def St.by (σ : St) (e : Ent) : St := σ.put e.dst e.b e.r

/-- of the first k entries those of S -/
def atS (E : Nat → Ent) (σ : St) (S : Nat → Bool) : Nat → St
  | 0 => σ
  | k + 1 => bif S k then (atS E σ S k).by (E k) else atS E σ S k

theorem wrm_same {m : Nat → Option AObj} : ∀ {l : List (Nat × AObj)} {x : Nat}, x ∉ l.map (·.1) → wrm m l x = m x
  | [], x, _ => rfl
  | p :: l, x, h => by
    simp only [List.map_cons, List.mem_cons, not_or] at h
    show wrm (upd m p.1 (some p.2)) l x = m x
    rw [wrm_same h.2, upd_ne h.1]

theorem atS_env {E : Nat → Ent} {σ : St} {S S' : Nat → Bool} {t : Nat} : ∀ k, (∀ j, j < k → S j ≠ S' j → (E j).dst ≠ some t) → (atS E σ S k).env t = (atS E σ S' k).env t
  | 0, _ => rfl
  | k + 1, h => by
    have ih := atS_env (E := E) (σ := σ) (S := S) (S' := S') (t := t) k (fun j hj hn => h j (by omega) hn)
    have hk := h k (by omega)
    have put1 : ∀ (τ : St), (E k).dst ≠ some t → (τ.by (E k)).env t = τ.env t := fun τ hd => by
      unfold St.by St.put
      cases hdst : (E k).dst with
      | none => rfl
      | some d => simp only; exact upd_ne (fun e => hd (by rw [hdst, e]))
    have put2 : ∀ (τ τ' : St), τ.env t = τ'.env t → (τ.by (E k)).env t = (τ'.by (E k)).env t := fun τ τ' e => by
      unfold St.by St.put
      cases (E k).dst with
      | none => exact e
      | some d =>
        simp only [upd]
        split
        · rfl
        · exact e
    simp only [atS]
    cases hs : S k <;> cases hs' : S' k
    · simpa using ih
    · simp only [cond_true, cond_false]; rw [put1 _ (hk (by rw [hs, hs']; simp))]; exact ih
    · simp only [cond_true, cond_false]; rw [put1 _ (hk (by rw [hs, hs']; simp))]; exact ih
    · simpa using put2 _ _ ih

theorem atS_objs {E : Nat → Ent} {σ : St} {S S' : Nat → Bool} {x : Nat} : ∀ k, (∀ j, j < k → S j ≠ S' j → x ∉ keys (E j).r) → (atS E σ S k).objs x = (atS E σ S' k).objs x
  | 0, _ => rfl
  | k + 1, h => by
    have ih := atS_objs (E := E) (σ := σ) (S := S) (S' := S') (x := x) k (fun j hj hn => h j (by omega) hn)
    have hk := h k (by omega)
    simp only [atS]
    cases hs : S k <;> cases hs' : S' k
    · simpa using ih
    · simp only [cond_true, cond_false, St.by, St.put]; rw [wrm_same (hk (by rw [hs, hs']; simp))]; exact ih
    · simp only [cond_true, cond_false, St.by, St.put]; rw [wrm_same (hk (by rw [hs, hs']; simp))]; exact ih
    · simp only [cond_true, St.by, St.put]; exact wrm_m _ ih

theorem atS_eq {E : Nat → Ent} {σ : St} {S S' : Nat → Bool} : ∀ k, (∀ j, j < k → S j = S' j) → atS E σ S k = atS E σ S' k
  | 0, _ => rfl
  | k + 1, h => by
    simp only [atS]
    rw [h k (by omega), atS_eq k (fun j hj => h j (by omega))]

def apart2 (e e' : Ent) : Prop := (∀ d, e.dst = some d → e'.dst ≠ some d) ∧ disj (keys e.r) (keys e'.r)

theorem by_comm (σ : St) {e e' : Ent} (h : apart2 e e') : (σ.by e).by e' = (σ.by e').by e := by
  obtain ⟨h1, h2⟩ := h
  have henv : ((σ.by e).by e').env = ((σ.by e').by e).env := by
    unfold St.by St.put
    cases hd : e.dst with
    | none => rfl
    | some d => cases hd' : e'.dst with
      | none => rfl
      | some d' =>
        have hne : d ≠ d' := fun he => h1 d hd (by rw [hd', he])
        funext x
        simp only [upd]
        by_cases h1 : x = d' <;> by_cases h2 : x = d <;> simp_all
  have hobj : ((σ.by e).by e').objs = ((σ.by e').by e).objs := by
    funext x
    simp only [St.by, St.put]
    by_cases hx : x ∈ keys e.r
    · have hx' : x ∉ keys e'.r := h2 x hx
      rw [wrm_same hx']
      exact wrm_m _ (wrm_same hx').symm
    · rw [wrm_same (l := e.r.wr) hx]
      exact wrm_m _ (wrm_same hx)
  cases h : (σ.by e).by e'; cases h' : (σ.by e').by e
  rw [h, h'] at henv hobj
  simp only at henv hobj
  rw [henv, hobj]

theorem atS_put {E : Nat → Ent} {σ : St} {S : Nat → Bool} {i : Nat} (hi : S i = false) : ∀ k, i < k → (∀ j, i < j → j < k → S j = true → apart2 (E i) (E j)) →
    atS E σ (fun j => if j = i then true else S j) k = (atS E σ S k).by (E i)
  | 0, h, _ => by omega
  | k + 1, h, hj => by
    simp only [atS]
    by_cases hk : k = i
    · subst hk
      rw [if_pos rfl, hi, cond_true, cond_false, atS_eq (S := fun j => if j = k then true else S j) (S' := S) k (fun j hj => by simp [show j ≠ k by omega])]
    · rw [if_neg hk, atS_put hi k (by omega) (fun j h1 h2 h3 => hj j h1 (by omega) h3)]
      cases hs : S k with
      | false => simp
      | true => simp only [cond_true]; exact by_comm _ (hj k (by omega) (by omega) hs)

/-- the entries of a trace -/
theorem atS_upto {E : Nat → Ent} {σ : St} (n : Nat) : ∀ k, n ≤ k → atS E σ (fun j => decide (j < n)) k = atS E σ (fun _ => true) n
  | 0, h => by have : n = 0 := by omega
               subst this; rfl
  | k + 1, h => by
    by_cases hk : n = k + 1
    · subst hk; exact atS_eq _ (fun j hj => by simp [hj])
    · simp only [atS]
      rw [decide_eq_false (show ¬ k < n by omega), cond_false]
      exact atS_upto n k (by omega)

theorem Does.reclad {o o' : AOper} {σ : St} {b : Bool} {r : Res} (h : Does P o σ b r) (h1 : o'.dst = o.dst) (h2 : o'.op = o.op) (h3 : o'.guard = o.guard) : Does P o' σ b r := by
  cases h with
  | op _ p r hg hb hc hp hw => exact .op _ p r (by rw [h3]; exact hg) (by rw [h1, h2]; exact hb) (by rw [h2]; exact hc) hp hw
  | pick _ c x y q p1 p2 c1 c2 cc ho hg hq hx hy hc => exact .pick _ c x y q p1 p2 c1 c2 cc (by rw [h2]; exact ho) (by rw [h3]; exact hg) hq hx hy hc
  | call _ f avs r hg ht hc hd hw => exact .call _ f avs r (by rw [h3]; exact hg) (by rw [h2]; exact ht) (by rw [h2]; exact hc) hd hw
  | skip hg => exact .skip (by rw [h3]; exact hg)
end
end Go.Abs
