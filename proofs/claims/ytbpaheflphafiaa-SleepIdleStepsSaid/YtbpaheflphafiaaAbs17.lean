/- The abstract layer, part 17: a region in every order. -/
import Derived.Test.YtbpaheflphafiaaAbs16
set_option linter.unusedSimpArgs false
set_option linter.unusedVariables false
set_option linter.unnecessarySimpa false
namespace Go.Abs

section
variable {P : Program} {N : Nat}

theorem count_lt {p q : Nat → Bool} {i : Nat} (hpq : ∀ x, q x = true → p x = true) (hp : p i = true) (hq : q i = false) : ∀ (l : List Nat), i ∈ l → l.countP q < l.countP p
  | [], h => by cases h
  | x :: l, h => by
    have hle : l.countP q ≤ l.countP p := List.countP_mono_left fun x _ => hpq x
    rcases List.mem_cons.1 h with rfl | h
    · simp only [List.countP_cons, hp, hq]; simp; omega
    · have := count_lt hpq hp hq l h
      simp only [List.countP_cons]
      have : (if q x = true then 1 else 0) ≤ (if p x = true then 1 else 0) := by
        by_cases hx : q x = true
        · simp [hx, hpq x hx]
        · simp [hx]
      omega

/-- two operations that no edge orders do not meet -/
structure Apart (ai aj : AOper) (fi fj : List Nat) (ei ej : Ent) : Prop where
  di : ∀ d, ei.dst = some d → d ∉ aj.looks ∧ ej.dst ≠ some d
  dj : ∀ d, ej.dst = some d → d ∉ ai.looks ∧ ei.dst ≠ some d
  ij : ∀ x ∈ keys ei.r, x ∉ fj ∧ x ∉ keys ej.r
  ji : ∀ x ∈ keys ej.r, x ∉ fi ∧ x ∉ keys ei.r

theorem Apart.symm {ai aj : AOper} {fi fj : List Nat} {ei ej : Ent} (h : Apart ai aj fi fj ei ej) : Apart aj ai fj fi ej ei := ⟨h.dj, h.di, h.ji, h.ij⟩

theorem apartS_spec {a b : AOper} (h : apartS a b = true) : (∀ d, a.dst = some d → d ∉ b.looks ∧ b.dst ≠ some d) ∧ (∀ d, b.dst = some d → d ∉ a.looks ∧ a.dst ≠ some d) := by
  unfold apartS at h
  rw [Bool.and_eq_true] at h
  obtain ⟨h1, h2⟩ := h
  have key : ∀ d, a.dst = some d → d ∉ b.looks ∧ b.dst ≠ some d := fun d hd => by
    rw [hd] at h1
    simpa using h1
  refine ⟨key, fun d hd => ?_⟩
  rw [hd] at h2
  exact ⟨by simpa using h2, fun e => (key d e).2 hd⟩

theorem looks_chk (a : AOper) (c : List Nat) : ({ a with chk := c } : AOper).looks = a.looks := rfl

theorem wregion_any {ops : Array Oper} {as : List AOper} {Q : St → Prop} {R : Exit → Act → World → Prop} {σ : St} {a : Act} {w : World} {ob : Place} {G : Nat → Prop} {id : Nat}
    (hm : P.follows .mixedOrders = true) (hc : cregion P N ops true = some as) (hs : Sim N σ a w ob G) (h : wany P as [] Q σ)
    (hQ : ∀ τ a' w' ob' G', Q τ → Sim N τ a' w' ob' G' → Fr G w ob G' w' ob' → OBext ob ob' → R .normal a' w') : (Code.region id ops true).wp P R a w := by
  unfold cregion at hc
  split at hc
  case h_2 => cases hc
  rename_i as0 hcop
  rw [if_pos rfl] at hc
  split at hc
  case isFalse => cases hc
  rename_i hedge
  obtain ⟨hl0, hget0⟩ := copers_get hcop
  obtain ⟨hl1, hget1⟩ := anyForm_spec hc
  obtain ⟨es, ft, hle, hlf, hQn, htr⟩ := wany_trace as [] σ h
  have hn : as.length = ops.size := by rw [hl1, hl0]; simp
  -- the entries
  let E : Nat → Ent := fun i => es.getD i ⟨none, false, ⟨none, []⟩⟩
  have hE : ∀ k, k ≤ ops.size → atS E σ (fun _ => true) k = runL σ (es.take k) := fun k hk => atS_run k (by omega)
  have hEget : ∀ i e, es[i]? = some e → E i = e := fun i e he => by simp only [E, List.getD]; rw [he]; rfl
  let ms := maskL ops.toList []
  have hmask : ∀ S, Closed ops S → ∀ k i, (ms.getD k 0).testBit i = true → S k = true → S i = true := fun S hS =>
    (maskL_spec hS ops.toList [] (fun i o hi => by simpa using hi) (fun k i hb => by simp at hb)).2
  -- what the trace says of one operation
  have one : ∀ i, i < ops.size → ∃ o ao ao0 m f, ops[i]? = some o ∧ as0[i]? = some ao0 ∧ as[i]? = some ao ∧ ao = { ao0 with chk := chkOf m ao0 (as0.take i) 0 } ∧ ms[i]? = some m ∧
      coper P N ops o = some ao0 ∧ apartAll m ao0 (as0.take i) 0 = true ∧ (E i).dst = ao.dst ∧ ft[i]? = some f ∧ f = (foot (atS E σ (fun _ => true) i) ao, keys (E i).r) ∧
      Does P ao (atS E σ (fun _ => true) i) (E i).b (E i).r ∧ keepOff (ft.take i) f.1 f.2 ao.chk := fun i hi => by
    have ho : ops.toList[i]? = some ops[i] := by simp [hi]
    obtain ⟨ao0, g1, g2⟩ := hget0 i _ ho
    obtain ⟨m, g3, g4, g5⟩ := hget1 i ao0 g1
    obtain ⟨e, f, k1, k2, k3, k4, k5, k6⟩ := htr i _ g4
    have hEi := hEget i e k1
    rw [← hE i (by omega)] at k4 k5
    exact ⟨ops[i], _, ao0, m, f, by simpa using ho, g1, g4, by simp, g3, g2, by simpa using g5, by rw [hEi]; exact k3, k2, by rw [hEi]; exact k4, by rw [hEi]; exact k5, by simpa using k6⟩
  -- a pair that no edge orders
  have pair : ∀ i j, i < j → j < ops.size → (∃ m, ms[j]? = some m ∧ m.testBit i = false) → ∀ ai aj, as[i]? = some ai → as[j]? = some aj →
      Apart ai aj (foot (atS E σ (fun _ => true) i) ai) (foot (atS E σ (fun _ => true) j) aj) (E i) (E j) := fun i j hij hj hb ai aj hai haj => by
    obtain ⟨o, ao, ao0, m, f, p1, p2, p3, p4, p5, p6, p7, p8, p9, p10, p11, p12⟩ := one j hj
    obtain ⟨o', ao', ao0', m', f', q1, q2, q3, q4, q5, q6, q7, q8, q9, q10, q11, q12⟩ := one i (by omega)
    rw [hai] at q3; injection q3 with q3; subst q3
    rw [haj] at p3; injection p3 with p3; subst p3
    obtain ⟨m2, hm2, hbit⟩ := hb
    rw [p5] at hm2; injection hm2 with hm2; subst hm2
    have hgi : (as0.take j)[i]? = some ao0' := by rw [List.getElem?_take]; simp [hij, q2]
    have hap := (apartAll_spec p7 i ao0' hgi).resolve_left (by simp [hbit])
    obtain ⟨s1, s2⟩ := apartS_spec hap
    have dyn : (∀ x ∈ keys (E i).r, x ∉ foot (atS E σ (fun _ => true) j) aj ∧ x ∉ keys (E j).r) ∧ (∀ x ∈ keys (E j).r, x ∉ foot (atS E σ (fun _ => true) i) ai ∧ x ∉ keys (E i).r) := by
      cases hin : interplay ao0' ao0 with
      | true =>
        have hch := chkOf_spec (i := 0) i ao0' hgi (by simpa using hbit) hin
        obtain ⟨f2, k2, hf2, hd1, hd2⟩ := keepOff_spec p12 i (by rw [p4]; simpa using hch)
        rw [List.getElem?_take, if_pos hij, q9] at hf2
        injection hf2 with hf2
        rw [q10] at hf2; injection hf2 with e1 e2
        subst e1; subst e2
        rw [p10] at hd1 hd2
        simp only at hd1 hd2
        refine ⟨fun x hx => ?_, fun x hx => ?_⟩
        · have := hd2 x hx
          simpa [List.mem_append, not_or] using this
        · have := hd1 x hx
          simpa [List.mem_append, not_or] using this
      | false =>
        simp only [interplay, Bool.or_eq_false_iff, Bool.and_eq_false_iff] at hin
        have hopi : ai.op = ao0'.op := by rw [q4]
        have hopj : aj.op = ao0.op := by rw [p4]
        rw [← hopi, ← hopj] at hin
        obtain ⟨h1, h2⟩ := hin
        have quiet : ∀ (b : AOper) (τ : St) (c : Bool) (r : Res), Does P b τ c r → b.op.mayWrite = false → keys r = [] := fun b τ c r hd hw => hd.quiet hw
        have tch : ∀ op : AOp, op.touches = false → op.mayWrite = false := fun op ht => by
          cases hw : op.mayWrite with
          | false => rfl
          | true => rw [mayWrite_touches hw] at ht; cases ht
        refine ⟨fun x hx => ?_, fun x hx => ?_⟩
        · rcases h1 with h1 | h1
          · rw [quiet _ _ _ _ q11 h1] at hx; cases hx
          · exact ⟨by rw [foot_quiet h1]; simp, by rw [quiet _ _ _ _ p11 (tch _ h1)]; simp⟩
        · rcases h2 with h2 | h2
          · rw [quiet _ _ _ _ p11 h2] at hx; cases hx
          · exact ⟨by rw [foot_quiet h2]; simp, by rw [quiet _ _ _ _ q11 (tch _ h2)]; simp⟩
    refine ⟨fun d hd => ?_, fun d hd => ?_, dyn.1, dyn.2⟩
    · rw [q8, q4] at hd
      have := s1 d hd
      rw [p8, p4]; exact this
    · rw [p8, p4] at hd
      have := s2 d hd
      rw [q8, q4]; exact this
  -- the walk in any order
  have main : ∀ (fuel : Nat) (listed : Array Bool) (a' : Act) (w' : World) (ob' : Place) (G' : Nat → Prop), listed.size = ops.size →
      (List.range ops.size).countP (fun i => !listed.getD i false) ≤ fuel → Closed ops (fun i => listed.getD i false) →
      Sim N (atS E σ (fun i => listed.getD i false) ops.size) a' w' ob' G' → Fr G w ob G' w' ob' → OBext ob ob' → wpAny P .any ops R fuel listed a' w' := by
    intro fuel
    have final : ∀ (listed : Array Bool) (a' : Act) (w' : World) (ob' : Place) (G' : Nat → Prop), listed.size = ops.size → Region.ready .any ops listed = [] →
        Sim N (atS E σ (fun i => listed.getD i false) ops.size) a' w' ob' G' → Fr G w ob G' w' ob' → OBext ob ob' → R .normal a' w' := by
      intro listed a' w' ob' G' hsz hr hsim hfr hob
      have hall : ∀ i, i < ops.size → listed.getD i false = true := by
        intro i
        induction i using Nat.strongRecOn with
        | _ i ih =>
          intro hi
          by_cases hli : listed.getD i false = true
          · exact hli
          · exfalso
            have : i ∈ Region.ready .any ops listed := by
              rw [mem_ready]
              refine ⟨?_, ops[i], by simp [hi], fun e he hb => ?_⟩
              · have hlt : i < listed.size := by omega
                simp only [Array.getD_eq_getD_getElem?, Array.getElem?_eq_getElem hlt, Option.getD_some] at hli ⊢
                simpa using hli
              · have := edgesOk_spec hedge i ops[i] (by simp [hi]) e he hb
                exact ih e.on (by omega) (by omega)
            rw [hr] at this; cases this
      have heq : atS E σ (fun i => listed.getD i false) ops.size = runL σ es := by
        rw [atS_eq (S' := fun _ => true) ops.size (fun j hj => hall j hj), hE _ (Nat.le_refl _), List.take_of_length_le (by omega)]
      rw [heq] at hsim
      exact hQ _ a' w' ob' G' hQn hsim hfr hob
    induction fuel with
    | zero =>
      intro listed a' w' ob' G' hsz hcnt hcl hsim hfr hob
      have hr : Region.ready .any ops listed = [] := by
        cases hr : Region.ready .any ops listed with
        | nil => rfl
        | cons i rs =>
          exfalso
          have hi : i ∈ Region.ready .any ops listed := by rw [hr]; exact List.mem_cons_self ..
          obtain ⟨h0, o, ho, _⟩ := mem_ready.1 hi
          have hlt : i < ops.size := (Array.getElem?_eq_some_iff.1 ho).1
          have : 0 < (List.range ops.size).countP (fun i => !listed.getD i false) := by
            rw [List.countP_pos_iff]
            refine ⟨i, List.mem_range.2 hlt, ?_⟩
            have hlt' : i < listed.size := by omega
            simp only [Array.getD_eq_getD_getElem?, Array.getElem?_eq_getElem hlt', Option.getD_some] at h0 ⊢
            simpa using h0
          omega
      exact ⟨hr, final listed a' w' ob' G' hsz hr hsim hfr hob⟩
    | succ fuel ih =>
      intro listed a' w' ob' G' hsz hcnt hcl hsim hfr hob
      refine ⟨fun hr => final listed a' w' ob' G' hsz hr hsim hfr hob, fun j hj => ?_⟩
      obtain ⟨h0, o, ho, hedges⟩ := mem_ready.1 hj
      have hlt : j < ops.size := (Array.getElem?_eq_some_iff.1 ho).1
      have hlt' : j < listed.size := by omega
      have h0' : listed.getD j false = false := by
        simp only [Array.getD_eq_getD_getElem?, Array.getElem?_eq_getElem hlt', Option.getD_some] at h0 ⊢
        exact h0
      have hset : (fun i => (listed.setIfInBounds j true).getD i false) = fun i => if i = j then true else listed.getD i false := by
        funext i
        by_cases hij : i = j
        · subst hij; simp [hlt']
        · rw [getD_set_ne false (fun e => hij e.symm)]; simp [hij]
      have hcl' : Closed ops (fun i => (listed.setIfInBounds j true).getD i false) := by
        rw [hset]
        intro k o' ho' hk e he hb
        by_cases hej : e.on = j
        · simp [hej]
        · simp only [hej, if_false]
          by_cases hkj : k = j
          · subst hkj
            rw [ho] at ho'; injection ho' with ho'; subst ho'
            exact hedges e he hb
          · simp only [hkj, if_false] at hk
            exact hcl k o' ho' hk e he hb
      obtain ⟨o1, ao, ao0, m, f, p1, p2, p3, p4, p5, p6, p7, p8, p9, p10, p11, p12⟩ := one j hlt
      rw [ho] at p1; injection p1 with p1; subst p1
      -- the operations that are listed out of turn
      have odd : ∀ k, k < ops.size → k ≠ j → decide (k < j) ≠ listed.getD k false → ∀ ak, as[k]? = some ak →
          Apart ak ao (foot (atS E σ (fun _ => true) k) ak) (foot (atS E σ (fun _ => true) j) ao) (E k) (E j) := by
        intro k hk hkj hne ak hak
        rcases Nat.lt_or_gt_of_ne hkj with hlt2 | hgt
        · have hSk : listed.getD k false = false := by
            cases hs : listed.getD k false with
            | false => rfl
            | true => rw [hs, decide_eq_true hlt2] at hne; exact absurd rfl hne
          refine pair k j hlt2 hlt ⟨m, p5, ?_⟩ ak ao hak p3
          cases hbit : m.testBit k with
          | false => rfl
          | true =>
            have hj' := congrFun hset j
            have hk' := congrFun hset k
            simp only at hj' hk'
            have := hmask _ hcl' j k (by rw [List.getD, p5]; exact hbit) (by rw [hj']; simp)
            rw [hk', if_neg hkj, hSk] at this; cases this
        · have hSk : listed.getD k false = true := by
            cases hs : listed.getD k false with
            | true => rfl
            | false => rw [hs, decide_eq_false (by omega)] at hne; exact absurd rfl hne
          obtain ⟨_, _, _, m', _, _, _, _, _, q5, _⟩ := one k hk
          refine (pair j k hgt hk ⟨m', q5, ?_⟩ ao ak p3 hak).symm
          cases hbit : m'.testBit j with
          | false => rfl
          | true =>
            have := hmask _ hcl k j (by rw [List.getD, q5]; exact hbit) hSk
            rw [h0'] at this; cases this
      have hask : ∀ k, k < ops.size → ∃ ak, as[k]? = some ak := fun k hk => ⟨as[k]'(by omega), List.getElem?_eq_getElem _⟩
      -- the operation does here what it does in text order
      have hup : atS E σ (fun _ => true) j = atS E σ (fun i => decide (i < j)) ops.size := (atS_upto j ops.size (by omega)).symm
      have hdo : Does P ao (atS E σ (fun i => listed.getD i false) ops.size) (E j).b (E j).r := by
        refine does_m p11 (fun t ht => ?_) (fun x hx => ?_) (fun x hx => ?_)
        · rw [hup]
          refine atS_env ops.size fun k hk hne hd => ?_
          by_cases hkj : k = j
          · subst hkj; rw [h0', decide_eq_false (by omega)] at hne; exact hne rfl
          · obtain ⟨ak, hak⟩ := hask k hk
            exact ((odd k hk hkj hne ak hak).di t hd).1 ht
        · rw [hup]
          refine atS_objs ops.size fun k hk hne hd => ?_
          by_cases hkj : k = j
          · subst hkj; rw [h0', decide_eq_false (by omega)] at hne; exact hne rfl
          · obtain ⟨ak, hak⟩ := hask k hk
            exact ((odd k hk hkj hne ak hak).ij x hd).1 hx
        · rw [hup]
          refine atS_objs ops.size fun k hk hne hd => ?_
          by_cases hkj : k = j
          · subst hkj; rw [h0', decide_eq_false (by omega)] at hne; exact hne rfl
          · obtain ⟨ak, hak⟩ := hask k hk
            exact ((odd k hk hkj hne ak hak).ij x hd).2 hx
      have hdo0 : Does P ao0 (atS E σ (fun i => listed.getD i false) ops.size) (E j).b (E j).r := hdo.reclad (by rw [p4]) (by rw [p4]) (by rw [p4])
      have hd0 : ao0.dst = (E j).dst := by rw [p8, p4]
      have := does_ok (K := wpAny P .any ops R fuel (listed.setIfInBounds j true)) (Q := R) p6 hsim hdo0 (fun a2 w2 ob2 G2 s2 f2 e2 => by
        have hst : (atS E σ (fun i => listed.getD i false) ops.size).put ao0.dst (E j).b (E j).r = atS E σ (fun i => (listed.setIfInBounds j true).getD i false) ops.size := by
          rw [hset, atS_put h0' ops.size hlt]
          · rw [hd0]; rfl
          · intro k hjk hk hSk
            obtain ⟨ak, hak⟩ := hask k hk
            have hap := (odd k hk (by omega) (by rw [hSk, decide_eq_false (by omega)]; simp) ak hak).symm
            exact ⟨fun d hd => (hap.di d hd).2, fun x hx => (hap.ij x hx).2⟩
        rw [hst] at s2
        refine ih _ a2 w2 ob2 G2 (by simpa using hsz) ?_ hcl' s2 (hfr.trans f2) (hob.trans e2)
        have := count_lt (p := fun i => !listed.getD i false) (q := fun i => !(listed.setIfInBounds j true).getD i false) (i := j)
          (fun x hx => by
            by_cases hxj : x = j
            · subst hxj; simp [h0']
            · rw [getD_set_ne false (fun e => hxj e.symm)] at hx; exact hx)
          (by simp [h0']) (by simp [hlt']) (List.range ops.size) (List.mem_range.2 hlt)
        omega)
      unfold wpOp
      rw [ho]
      by_cases hw : Region.wanted o (yielded ops a'.tmps) = true
      · rw [if_pos hw] at this; simp only [hw, if_true]; exact .inl this
      · rw [if_neg hw] at this; simp only [hw]; exact this
  refine wp_region_any hm ?_
  have hsim0 : Sim N (atS E σ (fun i => (Array.replicate ops.size false).getD i false) ops.size) a { w with drawn := w.drawn + 1 } ob G := by
    have : atS E σ (fun i => (Array.replicate ops.size false).getD i false) ops.size = σ := by
      have key : ∀ k, atS E σ (fun i => (Array.replicate ops.size false).getD i false) k = σ := by
        intro k
        induction k with
        | zero => rfl
        | succ k ih =>
          simp only [atS]
          rw [ih]
          have : (Array.replicate ops.size false).getD k false = false := by
            simp only [Array.getD_eq_getD_getElem?, Array.getElem?_replicate]; split <;> rfl
          rw [this]; rfl
      exact key _
    rw [this]
    refine ⟨hs.size, hs.defers, hs.objs.heap_eq rfl, fun t av ht => ?_, hs.env0⟩
    obtain ⟨v, h1, h2⟩ := hs.env t av ht
    exact ⟨v, h1, h2.ext (fun _ h => h) (fun _ _ => rfl) (OBext.refl ob)⟩
  refine main ops.size _ a _ ob G (by simp) ?_ ?_ hsim0 (Fr.of_heap (Nat.le_refl _) (fun _ _ _ => rfl) (fun _ h => .inl h) rfl rfl rfl) (OBext.refl ob)
  · exact Nat.le_trans (List.countP_le_length) (by simp)
  · intro j o ho hj
    have : (Array.replicate ops.size false).getD j false = false := by
      simp only [Array.getD_eq_getD_getElem?, Array.getElem?_replicate]; split <;> rfl
    simp only [this] at hj; cases hj
end
end Go.Abs
