/- The abstract layer, part 16: a region of the model, by its abstract operations. -/
import Derived.Test.YtbpaheflphafiaaAbs15
set_option linter.unusedSimpArgs false
set_option linter.unusedVariables false
set_option linter.unnecessarySimpa false
namespace Go.Abs

/-! ### the check of a region, and its form -/

def edgeMask (acc : List Nat) : List Edge → Nat
  | [] => 0
  | e :: es => if Region.binds .any e then 2 ^ e.on ||| (acc.getD e.on 0 ||| edgeMask acc es) else edgeMask acc es

def maskL : List Oper → List Nat → List Nat
  | [], acc => acc
  | o :: os, acc => maskL os (acc ++ [edgeMask acc o.after.toList])

def edgesOk (ops : List Oper) (j : Nat) : Bool :=
  match ops with
  | [] => true
  | o :: os => (o.after.toList.all fun e => !Region.binds .any e || decide (e.on < j)) && edgesOk os (j + 1)

def apartS (a b : AOper) : Bool :=
  (match a.dst with | some d => !(b.looks.contains d) && b.dst != some d | none => true) && (match b.dst with | some d => !(a.looks.contains d) | none => true)

def interplay (a b : AOper) : Bool := (a.op.mayWrite && b.op.touches) || (b.op.mayWrite && a.op.touches)

/-- of the operations ahead, those that may be carried out behind: are they all apart? -/
def apartAll (m : Nat) (b : AOper) : List AOper → Nat → Bool
  | [], _ => true
  | a :: as, i => (m.testBit i || apartS a b) && apartAll m b as (i + 1)

def chkOf (m : Nat) (b : AOper) : List AOper → Nat → List Nat
  | [], _ => []
  | a :: as, i => if !m.testBit i && interplay a b then i :: chkOf m b as (i + 1) else chkOf m b as (i + 1)

/-- ahead: the operations so far -/
def anyForm (ahead : List AOper) : List AOper → List Nat → Option (List AOper)
  | [], _ => some []
  | b :: bs, m :: ms => if apartAll m b ahead 0 then (match anyForm (ahead ++ [b]) bs ms with
      | some r => some ({ b with chk := chkOf m b ahead 0 } :: r)
      | none => none) else none
  | _ :: _, [] => none

def copers (P : Program) (N : Nat) (ops : Array Oper) : List Oper → Option (List AOper)
  | [] => some []
  | o :: os => match coper P N ops o, copers P N ops os with
    | some a, some as => some (a :: as)
    | _, _ => none

def cregion (P : Program) (N : Nat) (ops : Array Oper) (draw : Bool) : Option (List AOper) :=
  match copers P N ops ops.toList with
  | some as => if draw then (if edgesOk ops.toList 0 then anyForm [] as (maskL ops.toList []) else none) else some as
  | none => none

section
variable {P : Program} {N : Nat}

theorem copers_get {ops : Array Oper} : ∀ {l : List Oper} {as : List AOper}, copers P N ops l = some as → as.length = l.length ∧ ∀ (i : Nat) (o : Oper), l[i]? = some o → ∃ a, as[i]? = some a ∧ coper P N ops o = some a
  | [], as, h => by simp only [copers, Option.some.injEq] at h; subst h; exact ⟨rfl, fun i o h => by simp at h⟩
  | o :: l, as, h => by
    simp only [copers] at h
    split at h
    · rename_i a as' h1 h2
      simp only [Option.some.injEq] at h; subst h
      obtain ⟨h3, h4⟩ := copers_get h2
      refine ⟨by simp [h3], fun i o' hi => ?_⟩
      cases i with
      | zero => simp only [List.getElem?_cons_zero, Option.some.injEq] at hi; subst hi; exact ⟨a, rfl, h1⟩
      | succ i => simp only [List.getElem?_cons_succ] at hi; exact h4 i o' hi
    · cases h

theorem chk_coper {ops : Array Oper} {o : Oper} {a : AOper} (h : coper P N ops o = some a) : a.chk = [] := by
  unfold coper at h
  (repeat' split at h) <;> simp only [Option.some.injEq, reduceCtorEq] at h <;> subst h <;> rfl

/-! ### text order -/

theorem wseq_ok {ops : Array Oper} {Q : St → Prop} {R : Exit → Act → World → Prop} : ∀ (l : List Oper) (as : List AOper) (k : Nat) (σ : St) (a : Act) (w : World) (ob : Place) (G : Nat → Prop),
    copers P N ops l = some as → (∀ i o, l[i]? = some o → ops[k + i]? = some o) → Sim N σ a w ob G → wseq P as Q σ →
    (∀ τ a' w' ob' G', Q τ → Sim N τ a' w' ob' G' → Fr G w ob G' w' ob' → OBext ob ob' → R .normal a' w') →
    wpOps P ops R (List.range' k l.length) a w
  | [], as, k, σ, a, w, ob, G, hc, hl, hs, h, hQ => by
    simp only [copers, Option.some.injEq] at hc; subst hc
    exact hQ σ a w ob G h hs (Fr.refl G w ob) (OBext.refl ob)
  | o :: l, as, k, σ, a, w, ob, G, hc, hl, hs, h, hQ => by
    simp only [copers] at hc
    split at hc
    case h_2 => cases hc
    rename_i ao as' h1 h2
    simp only [Option.some.injEq] at hc; subst hc
    obtain ⟨b, r, hd, hk⟩ := wop_does h
    have ho : ops[k]? = some o := by simpa using hl 0 o (by simp)
    simp only [List.length_cons, List.range'_succ]
    simp only [wpOps, ho]
    have := does_ok (K := wpOps P ops R (List.range' (k + 1) l.length)) (Q := R) h1 hs hd (fun a' w' ob' G' s f e => wseq_ok l as' (k + 1) _ a' w' ob' G' h2
      (fun i o' hi => by have := hl (i + 1) o' (by simpa using hi); rwa [show k + (i + 1) = k + 1 + i by omega] at this) s hk
      (fun τ a'' w'' ob'' G'' q s' f' e' => hQ τ a'' w'' ob'' G'' q s' (f.trans f') (e.trans e')))
    by_cases hw : Region.wanted o (yielded ops a.tmps) = true
    · rw [if_pos hw] at this ⊢; exact .inl this
    · rw [if_neg hw] at this ⊢; exact this

/-! ### every order -/

def runL (σ : St) (es : List Ent) : St := es.foldl St.by σ

theorem wany_trace {Q : St → Prop} : ∀ (aos : List AOper) (seen : List (List Nat × List Nat)) (σ : St), wany P aos seen Q σ →
    ∃ (es : List Ent) (ft : List (List Nat × List Nat)), es.length = aos.length ∧ ft.length = aos.length ∧ Q (runL σ es) ∧
      ∀ i o, aos[i]? = some o → ∃ e f, es[i]? = some e ∧ ft[i]? = some f ∧ e.dst = o.dst ∧ f = (foot (runL σ (es.take i)) o, keys e.r) ∧
        Does P o (runL σ (es.take i)) e.b e.r ∧ keepOff (seen ++ ft.take i) f.1 f.2 o.chk
  | [], seen, σ, h => ⟨[], [], rfl, rfl, h, fun i o hi => by simp at hi⟩
  | o :: os, seen, σ, h => by
    obtain ⟨b, r, hd, hk, hrest⟩ := wop_does h
    obtain ⟨es, ft, h1, h2, h3, h4⟩ := wany_trace os _ _ hrest
    refine ⟨⟨o.dst, b, r⟩ :: es, (foot σ o, keys r) :: ft, by simp [h1], by simp [h2], h3, fun i o' hi => ?_⟩
    cases i with
    | zero =>
      simp only [List.getElem?_cons_zero, Option.some.injEq] at hi; subst hi
      exact ⟨_, _, rfl, rfl, rfl, rfl, hd, by simpa using hk⟩
    | succ i =>
      simp only [List.getElem?_cons_succ] at hi
      obtain ⟨e, f, g1, g2, g3, g4, g5, g6⟩ := h4 i o' hi
      exact ⟨e, f, by simpa using g1, by simpa using g2, g3, g4, g5, by simpa using g6⟩

theorem atS_run {es : List Ent} {σ : St} : ∀ k, k ≤ es.length → atS (fun i => es.getD i ⟨none, false, ⟨none, []⟩⟩) σ (fun _ => true) k = runL σ (es.take k)
  | 0, _ => rfl
  | k + 1, h => by
    simp only [atS, cond_true]
    rw [atS_run k (by omega)]
    have : es.take (k + 1) = es.take k ++ [es.getD k ⟨none, false, ⟨none, []⟩⟩] := by
      rw [List.take_add_one, List.getElem?_eq_getElem (by omega)]
      simp [List.getD, List.getElem?_eq_getElem (show k < es.length by omega)]
    rw [this, runL, runL, List.foldl_append]
    rfl

def Closed (ops : Array Oper) (S : Nat → Bool) : Prop := ∀ (j : Nat) (o : Oper), ops[j]? = some o → S j = true → ∀ e ∈ o.after, Region.binds .any e = true → S e.on = true

theorem edgeMask_bit {acc : List Nat} {i : Nat} : ∀ {es : List Edge}, (edgeMask acc es).testBit i = true → ∃ e ∈ es, Region.binds .any e = true ∧ (i = e.on ∨ (acc.getD e.on 0).testBit i = true)
  | [], h => by simp [edgeMask] at h
  | e :: es, h => by
    simp only [edgeMask] at h
    split at h
    · rename_i hb
      simp only [Nat.testBit_or, Bool.or_eq_true, Nat.testBit_two_pow, decide_eq_true_eq] at h
      rcases h with h | h | h
      · exact ⟨e, List.mem_cons_self .., hb, .inl h.symm⟩
      · exact ⟨e, List.mem_cons_self .., hb, .inr h⟩
      · obtain ⟨e', h1, h2⟩ := edgeMask_bit h
        exact ⟨e', List.mem_cons_of_mem _ h1, h2⟩
    · obtain ⟨e', h1, h2⟩ := edgeMask_bit h
      exact ⟨e', List.mem_cons_of_mem _ h1, h2⟩

theorem maskL_spec {ops : Array Oper} {S : Nat → Bool} (hS : Closed ops S) : ∀ (os : List Oper) (acc : List Nat),
    (∀ i o, os[i]? = some o → ops[acc.length + i]? = some o) → (∀ k i, (acc.getD k 0).testBit i = true → S k = true → S i = true) →
    (maskL os acc).length = acc.length + os.length ∧ ∀ k i, ((maskL os acc).getD k 0).testBit i = true → S k = true → S i = true
  | [], acc, _, h => ⟨rfl, h⟩
  | o :: os, acc, ho, h => by
    have := maskL_spec hS os (acc ++ [edgeMask acc o.after.toList]) (fun i o' hi => by
      have := ho (i + 1) o' (by simpa using hi)
      simpa [Nat.add_assoc, Nat.add_comm 1 i] using this) (fun k i hb hk => by
      by_cases hlt : k < acc.length
      · rw [List.getD, List.getElem?_append_left hlt] at hb; exact h k i hb hk
      · by_cases hk' : k = acc.length
        · subst hk'
          rw [List.getD, List.getElem?_append_right (Nat.le_refl _)] at hb
          simp only [Nat.sub_self, List.getElem?_cons_zero, Option.getD_some] at hb
          obtain ⟨e, he, hbind, h1⟩ := edgeMask_bit hb
          have hse := hS acc.length o (by simpa using ho 0 o (by simp)) hk e (by simpa using he) hbind
          rcases h1 with rfl | h1
          · exact hse
          · exact h _ _ h1 hse
        · rw [List.getD, List.getElem?_eq_none (by simp; omega)] at hb; simp at hb)
    refine ⟨?_, this.2⟩
    have h1 := this.1
    simp only [List.length_append, List.length_cons, List.length_nil] at h1
    simp only [maskL, List.length_cons]
    omega

theorem edgesOk_spec : ∀ {os : List Oper} {j : Nat}, edgesOk os j = true → ∀ i o, os[i]? = some o → ∀ e ∈ o.after, Region.binds .any e = true → e.on < j + i
  | [], j, _, i, o, h => by simp at h
  | o' :: os, j, hk, i, o, h => by
    simp only [edgesOk, Bool.and_eq_true, List.all_eq_true, Bool.or_eq_true, Bool.not_eq_true', decide_eq_true_eq] at hk
    cases i with
    | zero =>
      simp only [List.getElem?_cons_zero, Option.some.injEq] at h; subst h
      intro e he hb
      rcases hk.1 e (by simpa using he) with h | h
      · rw [hb] at h; cases h
      · simpa using h
    | succ i =>
      simp only [List.getElem?_cons_succ] at h
      intro e he hb
      have := edgesOk_spec hk.2 i o h e he hb
      omega

theorem apartAll_spec {m : Nat} {b : AOper} : ∀ {as : List AOper} {i : Nat}, apartAll m b as i = true → ∀ j a, as[j]? = some a → m.testBit (i + j) = true ∨ apartS a b = true
  | [], i, _, j, a, h => by simp at h
  | a' :: as, i, hk, j, a, h => by
    simp only [apartAll, Bool.and_eq_true, Bool.or_eq_true] at hk
    cases j with
    | zero => simp only [List.getElem?_cons_zero, Option.some.injEq] at h; subst h; exact hk.1
    | succ j =>
      simp only [List.getElem?_cons_succ] at h
      have := apartAll_spec hk.2 j a h
      rwa [show i + 1 + j = i + (j + 1) by omega] at this

theorem chkOf_spec {m : Nat} {b : AOper} : ∀ {as : List AOper} {i : Nat} (j : Nat) (a : AOper), as[j]? = some a → m.testBit (i + j) = false → interplay a b = true → i + j ∈ chkOf m b as i
  | [], i, j, a, h, _, _ => by simp at h
  | a' :: as, i, j, a, h, hm, hi => by
    cases j with
    | zero =>
      simp only [List.getElem?_cons_zero, Option.some.injEq] at h; subst h
      simp only [Nat.add_zero] at hm
      simp [chkOf, hm, hi]
    | succ j =>
      simp only [List.getElem?_cons_succ] at h
      have := chkOf_spec (m := m) (b := b) (as := as) (i := i + 1) j a h (by rwa [show i + 1 + j = i + (j + 1) by omega]) hi
      rw [show i + 1 + j = i + (j + 1) by omega] at this
      simp only [chkOf]; split
      · exact List.mem_cons_of_mem _ this
      · exact this

theorem anyForm_spec : ∀ {bs : List AOper} {ahead : List AOper} {ms : List Nat} {r : List AOper}, anyForm ahead bs ms = some r → r.length = bs.length ∧
    ∀ j b, bs[j]? = some b → ∃ m, ms[j]? = some m ∧ r[j]? = some { b with chk := chkOf m b (ahead ++ bs.take j) 0 } ∧ apartAll m b (ahead ++ bs.take j) 0 = true
  | [], ahead, ms, r, h => by
    simp only [anyForm, Option.some.injEq] at h; subst h; exact ⟨rfl, fun j b h => by simp at h⟩
  | b :: bs, ahead, m :: ms, r, h => by
    simp only [anyForm] at h
    split at h
    case isFalse => cases h
    rename_i hap
    split at h
    case h_2 => cases h
    rename_i r' hr
    simp only [Option.some.injEq] at h; subst h
    obtain ⟨h1, h2⟩ := anyForm_spec hr
    refine ⟨by simp [h1], fun j b' hj => ?_⟩
    cases j with
    | zero => simp only [List.getElem?_cons_zero, Option.some.injEq] at hj; subst hj; exact ⟨m, rfl, by simp, by simpa using hap⟩
    | succ j =>
      simp only [List.getElem?_cons_succ] at hj
      obtain ⟨m', g1, g2, g3⟩ := h2 j b' hj
      exact ⟨m', by simpa using g1, by simpa using g2, by simpa using g3⟩
  | b :: bs, ahead, [], r, h => by simp [anyForm] at h

theorem keepOff_spec {seen : List (List Nat × List Nat)} {f k : List Nat} : ∀ {l : List Nat}, keepOff seen f k l → ∀ c ∈ l, ∃ f' k', seen[c]? = some (f', k') ∧ disj k (f' ++ k') ∧ disj k' (f ++ k)
  | [], _, c, hc => by cases hc
  | c' :: l, h, c, hc => by
    rcases List.mem_cons.1 hc with rfl | hc
    · have := h.1
      split at this
      · rename_i f' k' hs; exact ⟨f', k', hs, this⟩
      · exact this.elim
    · exact keepOff_spec h.2 c hc

theorem mayWrite_touches {op : AOp} (h : op.mayWrite = true) : op.touches = true := by cases op <;> first | rfl | exact h

theorem Does.quiet {o : AOper} {σ : St} {b : Bool} {r : Res} (h : Does P o σ b r) (hw : o.op.mayWrite = false) : keys r = [] := by
  cases h with
  | op _ p r hg hb hc hp hw' => rw [keys, eval_quiet hb hw]; rfl
  | pick => rfl
  | call _ f avs r hg ht hc hd hw' =>
    have := target_isCall ht
    cases ho : o.op <;> simp_all [AOp.isCall, AOp.mayWrite]
  | skip => rfl

theorem foot_quiet {σ : St} {o : AOper} (h : o.op.touches = false) : foot σ o = [] := by unfold foot; rw [if_neg (by simp [h])]
end
end Go.Abs
