/- The abstract layer, part 14: an operation does the same in every state that agrees on what it looks at. -/
import Derived.Test.YtbpaheflphafiaaAbs13
set_option linter.unusedSimpArgs false
set_option linter.unusedVariables false
set_option linter.unnecessarySimpa false
namespace Go.Abs

def AOp.mayWrite : AOp → Bool
  | .alloc _ | .box _ | .bslice .. | .store .. | .append .. | .mkslice .. | .mkmap _ | .mset .. | .aslice .. | .call .. | .callv .. => true
  | _ => false
def AOp.touches : AOp → Bool
  | .load .. | .iaddr .. | .mlen _ | .lookup .. | .isnil .. | .slice .. => true
  | op => op.mayWrite

/-- the objects that an operation's operands mention, where it looks at objects at all -/
def foot (σ : St) (o : AOper) : List Nat :=
  if o.op.touches then o.op.ops.flatMap (fun x => match σ.e x with | some v => v.ids | none => []) else []

def keys (r : Res) : List Nat := r.wr.map (·.1)

section
variable {P : Program}

theorem mem_foot {σ : St} {o : AOper} {x : AX} {v : AV} (ht : o.op.touches = true) (hx : x ∈ o.op.ops) (hv : σ.e x = some v) {i : Nat} (hi : i ∈ v.ids) : i ∈ foot σ o := by
  unfold foot
  rw [if_pos ht, List.mem_flatMap]
  exact ⟨x, hx, by rw [hv]; exact hi⟩

theorem freezeCell_m {m m' : Nat → Option AObj} {c : AV} (h : ∀ i ∈ c.ids, m i = m' i) : freezeCell m c = freezeCell m' c := by
  cases c with
  | sl id off len tot => simp only [freezeCell]; rw [h id (by simp [AV.ids])]
  | _ => rfl

theorem freezeL_m {m m' : Nat → Option AObj} : ∀ {cs : List AV}, (∀ i ∈ idsL cs, m i = m' i) → freezeL m cs = freezeL m' cs
  | [], _ => rfl
  | c :: cs, h => by
    simp only [freezeL]
    rw [freezeCell_m (fun i hi => h i (by simp [idsL, hi])), freezeL_m (fun i hi => h i (by simp [idsL, hi]))]

theorem freezeAV_m {m m' : Nat → Option AObj} {c : AV} (h : ∀ i ∈ c.ids, m i = m' i) : freezeAV m c = freezeAV m' c := by
  cases c with
  | agg cs => simp only [freezeAV]; rw [freezeL_m (fun i hi => h i (by simpa [AV.ids] using hi))]
  | tup cs => rfl
  | _ => simp only [freezeAV]; exact freezeCell_m h

theorem source_m {m m' : Nat → Option AObj} {c : AV} {z : Nat} (h : ∀ i ∈ c.ids, m i = m' i) : source m z c = source m' z c := by
  cases c with
  | sl id off len tot => simp only [source]; rw [h id (by simp [AV.ids])]
  | sc v => unfold source; split <;> first | rfl | simp_all
  | _ => rfl

theorem ids_cells (v : AV) (h : ∀ l, v ≠ .tup l) : ∀ i ∈ idsL v.cells, i ∈ v.ids := by
  intro i hi
  cases v with
  | agg cs => simpa [AV.cells, AV.ids] using hi
  | tup l => exact absurd rfl (h l)
  | _ => simpa [AV.cells, idsL] using hi

theorem ids_cells' (v : AV) : ∀ i ∈ idsL v.cells, i ∈ v.ids := by
  intro i hi
  cases v with
  | agg cs => simpa [AV.cells, AV.ids] using hi
  | tup l => simpa [AV.cells, AV.ids, idsL] using hi
  | _ => simpa [AV.cells, idsL] using hi

theorem fillA_ids {e : AX → Option AV} : ∀ (ps : List (Nat × Nat × AX)) (cs cs' : List AV), fillA e cs ps = some cs' → ∀ i ∈ idsL cs', i ∈ idsL cs ∨ ∃ x ∈ ps.map (·.2.2), ∃ v, e x = some v ∧ i ∈ v.ids
  | [], cs, cs', h => by
    simp only [fillA, Option.some.injEq] at h; subst h
    exact fun i hi => .inl hi
  | (o, s, x) :: ps, cs, cs', h => by
    simp only [fillA] at h
    split at h
    · cases h
    · rename_i v hnt hv
      split at h
      · rename_i hc
        intro i hi
        rcases fillA_ids ps _ _ h i hi with h1 | ⟨y, h1, u, h2, h3⟩
        · have : ∀ (cs p : List AV) (n : Nat), ∀ i ∈ idsL (splice cs n p), i ∈ idsL cs ∨ i ∈ idsL p := by
            have happ : ∀ (a b : List AV), idsL (a ++ b) = idsL a ++ idsL b := by
              intro a b; induction a with
              | nil => rfl
              | cons c a ih => simp [idsL, ih]
            have hdrop : ∀ (n : Nat) (a : List AV), ∀ i ∈ idsL (a.drop n), i ∈ idsL a := by
              intro n; induction n with
              | zero => intro a i hi; simpa using hi
              | succ n ih => intro a i hi; cases a with
                | nil => simpa using hi
                | cons c a => simp only [List.drop_succ_cons] at hi; simp [idsL, ih a i hi]
            intro cs p n
            induction cs generalizing n with
            | nil => cases n <;> intro i hi
                     · simp only [splice, List.drop_nil, List.append_nil] at hi; exact .inr hi
                     · simp only [splice] at hi; exact .inr hi
            | cons c cs ih =>
              cases n with
              | zero =>
                intro i hi
                simp only [splice, happ, List.mem_append] at hi
                rcases hi with hi | hi
                · exact .inr hi
                · exact .inl (hdrop _ _ i hi)
              | succ n =>
                intro i hi
                simp only [splice, idsL, List.mem_append] at hi ⊢
                rcases hi with hi | hi
                · exact .inl (.inl hi)
                · rcases ih n i hi with h | h
                  · exact .inl (.inr h)
                  · exact .inr h
          rcases this _ _ _ i h1 with h4 | h4
          · exact .inl h4
          · exact .inr ⟨x, by simp, v, hv, ids_cells' v i h4⟩
        · exact .inr ⟨y, by simp only [List.map_cons, List.mem_cons]; exact .inr h1, u, h2, h3⟩
      · cases h
    · cases h

theorem idsL_sc (l : List Value) : idsL (l.map .sc) = [] := by
  induction l with
  | nil => rfl
  | cons v l ih => simp [idsL, AV.ids, ih]

/-- evaluation looks at the objects that its operands mention, and at those that it writes, alone -/
theorem eval_m {op : AOp} {e : AX → Option AV} {m m' : Nat → Option AObj} {d : Nat} {p : Prop} {r : Res} (hv : eval op e m d = some (p, r))
    (h1 : op.touches = true → ∀ x ∈ op.ops, ∀ v, e x = some v → ∀ i ∈ v.ids, m i = m' i) (h2 : ∀ i ∈ keys r, m i = m' i) : eval op e m' d = some (p, r) := by
  cases op <;> simp only [eval] at hv <;> simp only [eval]
  case mov => exact hv
  case alloc z =>
    split at hv
    · rename_i hm
      simp only [Option.some.injEq, Prod.mk.injEq] at hv
      obtain ⟨rfl, rfl⟩ := hv
      rw [← h2 (nid d) (by simp [keys]), hm]
    · cases hv
  case box x =>
    have hd : m (nid d) = none := by cases hm : m (nid d) with
      | none => rfl
      | some o => rw [hm] at hv; cases e x <;> simp at hv
    have hk : nid d ∈ keys r := by
      rw [hd] at hv
      cases hx : e x with
      | none => simp [hx] at hv
      | some v =>
        rw [hx] at hv
        cases v <;> simp at hv <;> (obtain ⟨_, rfl⟩ := hv; simp [keys])
    rw [← h2 _ hk]; exact hv
  case build => exact hv
  case bslice z len zero ps =>
    split at hv
    case h_2 => cases hv
    rename_i cs hm hf
    split at hv
    case h_2 => cases hv
    rename_i p' cs' wr hfr
    simp only [Option.some.injEq, Prod.mk.injEq] at hv
    obtain ⟨rfl, rfl⟩ := hv
    have hfr' : freezeL m' cs = freezeL m cs := (freezeL_m fun i hi => by
      rcases fillA_ids _ _ _ hf i hi with h | ⟨x, hx, v, hv, hi⟩
      · rw [idsL_sc] at h; cases h
      · exact h1 rfl x hx v hv i hi).symm
    rw [← h2 (nid d) (by simp [keys]), hm, hf]
    simp only [hfr', hfr]
  case load n x =>
    split at hv
    · rename_i cs hx; (try simp only [hx]); exact hv
    · rename_i id k o tot hx
      (try simp only [hx])
      have : cellsOf m' id k tot = cellsOf m id k tot := by unfold cellsOf; rw [h1 rfl x (by simp [AOp.ops]) _ hx id (by simp [AV.ids])]
      rw [this]; exact hv
    · cases hv
  case store n x y =>
    split at hv
    case h_2 => cases hv
    rename_i id k o tot v hx hy
    have hid := h1 rfl x (by simp [AOp.ops]) _ hx id (by simp [AV.ids])
    (try simp only [hx, hy])
    rw [← hid]
    split at hv
    · rename_i cs hm; (try simp only [hm]); exact hv
    · rename_i z s hm
      have : freezeL m' v.cells = freezeL m v.cells := (freezeL_m fun i hi => h1 rfl y (by simp [AOp.ops]) _ hy i (ids_cells' v i hi)).symm
      (try simp only [hm]); simp only [this]; exact hv
    · cases hv
  case iaddr z x y =>
    split at hv
    · rename_i hx hy; (try simp only [hx, hy]); exact hv
    · rename_i hx hy; (try simp only [hx, hy]); exact hv
    · rename_i id off len tot k j hx hy
      (try simp only [hx, hy])
      rw [← h1 rfl x (by simp [AOp.ops]) _ hx id (by simp [AV.ids])]; exact hv
    · cases hv
  case mlen x =>
    split at hv
    · rename_i id hx
      (try simp only [hx])
      rw [← h1 rfl x (by simp [AOp.ops]) _ hx id (by simp [AV.ids])]; exact hv
    · cases hv
  case append z by_ x y =>
    split at hv
    · rename_i b hx hy
      (try simp only [hx, hy])
      have hs : source m' z b = source m z b := (source_m fun i hi => h1 rfl y (by simp [AOp.ops]) _ hy i hi).symm
      split at hv
      case h_2 => cases hv
      rename_i p' t hm hsrc
      simp only [Option.some.injEq, Prod.mk.injEq] at hv
      obtain ⟨rfl, rfl⟩ := hv
      rw [← h2 (nid d) (by simp [keys]), hm, hs, hsrc]
    · rename_i z' n g b hx hy
      (try simp only [hx, hy])
      have hs : source m' z b = source m z b := (source_m fun i hi => h1 rfl y (by simp [AOp.ops]) _ hy i hi).symm
      rw [hs]; exact hv
    · rename_i id off n tot b hx hy
      (try simp only [hx, hy])
      have hs : source m' z b = source m z b := (source_m fun i hi => h1 rfl y (by simp [AOp.ops]) _ hy i hi).symm
      rw [← h1 rfl x (by simp [AOp.ops]) _ hx id (by simp [AV.ids]), hs]; exact hv
    · cases hv
  case mkslice z by_ zero x y =>
    split at hv
    case h_2 => cases hv
    rename_i k1 l k2 c hm hx hy
    simp only [Option.some.injEq, Prod.mk.injEq] at hv
    obtain ⟨rfl, rfl⟩ := hv
    rw [← h2 (nid d) (by simp [keys]), hm, hx, hy]
  case mkmap k =>
    split at hv
    · rename_i hm
      simp only [Option.some.injEq, Prod.mk.injEq] at hv
      obtain ⟨rfl, rfl⟩ := hv
      rw [← h2 (nid d) (by simp [keys]), hm]
    · cases hv
  case lookup k zero ok x y =>
    split at hv
    case h_2 => cases hv
    rename_i id k' z hx hy
    (try simp only [hx, hy])
    rw [← h1 rfl x (by simp [AOp.ops]) _ hx id (by simp [AV.ids])]; exact hv
  case mset k x y u =>
    split at hv
    case h_2 => cases hv
    rename_i id k' z v hx hy hu
    (try simp only [hx, hy, hu])
    rw [← h1 rfl x (by simp [AOp.ops]) _ hx id (by simp [AV.ids])]; exact hv
  case isnil kd neg x =>
    cases hx : e x with
    | none => rw [hx] at hv; exact hv
    | some a =>
      rw [hx] at hv
      have : isNilA m' kd a = isNilA m kd a := by
        have := h1 rfl x (by simp [AOp.ops]) _ hx
        cases a with
        | sl id off n tot =>
          match kd with
          | 0 => simp only [isNilA]; rw [this id (by simp [AV.ids])]
          | _ + 1 => simp only [isNilA]
        | _ => unfold isNilA; split <;> simp_all
      simp only [this]; exact hv
  case slice z x lo hi mx =>
    split at hv
    · rename_i hx h2 h3 h4; (try simp only [hx, h2, h3, h4]); exact hv
    · rename_i hx h2 h3 h4; (try simp only [hx, h2, h3, h4]); exact hv
    · rename_i id off n tot l h hx h2 h3 h4
      (try simp only [hx, h2, h3, h4])
      rw [← h1 rfl x (by simp [AOp.ops]) _ hx id (by simp [AV.ids])]; exact hv
    · cases hv
  case aslice n z x =>
    split at hv
    · rename_i hx; (try simp only [hx]); exact hv
    · rename_i id k o tot hx
      (try simp only [hx])
      rw [← h1 rfl x (by simp [AOp.ops]) _ hx id (by simp [AV.ids])]; exact hv
    · cases hv
  all_goals exact hv

theorem eval_quiet {op : AOp} {e : AX → Option AV} {m : Nat → Option AObj} {d : Nat} {p : Prop} {r : Res} (hv : eval op e m d = some (p, r)) (hw : op.mayWrite = false) : r.wr = [] := by
  cases op <;> simp only [AOp.mayWrite, Bool.true_eq_false] at hw <;> simp only [eval] at hv
  all_goals
    (repeat' split at hv)
    all_goals first
      | (cases hv; done)
      | (simp only [Option.some.injEq, Prod.mk.injEq] at hv; obtain ⟨_, rfl⟩ := hv; rfl)
      | (simp only [Option.map_eq_some_iff, Prod.mk.injEq] at hv; obtain ⟨_, _, _, rfl⟩ := hv; rfl)
      | (simp only [Option.map_eq_some_iff, Prod.mk.injEq, Prod.exists] at hv; obtain ⟨_, _, _, _, rfl⟩ := hv; rfl)

theorem wrm_m {m m' : Nat → Option AObj} (l : List (Nat × AObj)) {x : Nat} (h : m x = m' x) : wrm m l x = wrm m' l x := by
  induction l generalizing m m' with
  | nil => exact h
  | cons p l ih =>
    show wrm (upd m p.1 (some p.2)) l x = wrm (upd m' p.1 (some p.2)) l x
    refine ih ?_
    unfold upd; split
    · rfl
    · exact h

theorem argsOk_m {m m' : Nat → Option AObj} {ρ : Nat → Nat} {O : List (Nat × AObj)} : ∀ (md : List Bool) (avs cargs : List AV) (wr : List (Nat × AObj)),
    ArgsOk m ρ O md avs cargs wr → (∀ av ∈ avs, ∀ i ∈ av.ids, m i = m' i) → ArgsOk m' ρ O md avs cargs wr
  | [], [], [], wr, h, _ => h
  | true :: md, av :: avs, c :: cs, wr, h, hm => by
    simp only [ArgsOk] at h ⊢
    exact ⟨h.1, h.2.1, argsOk_m md avs cs wr h.2.2 (fun av hav => hm av (List.mem_cons_of_mem _ hav))⟩
  | false :: md, av :: avs, c :: cs, wr, h, hm => by
    simp only [ArgsOk] at h ⊢
    obtain ⟨p, w1, w2, h1, h2, h3, h4⟩ := h
    exact ⟨p, w1, w2, by rw [← freezeAV_m (hm av (List.mem_cons_self ..))]; exact h1, h2, h3, argsOk_m md avs cs w2 h4 (fun av hav => hm av (List.mem_cons_of_mem _ hav))⟩
  | [], _ :: _, _, _, h, _ => by simp [ArgsOk] at h
  | [], [], _ :: _, _, h, _ => by simp [ArgsOk] at h
  | true :: _, [], _, _, h, _ => by simp [ArgsOk] at h
  | true :: _, _ :: _, [], _, h, _ => by simp [ArgsOk] at h
  | false :: _, [], _, _, h, _ => by simp [ArgsOk] at h
  | false :: _, _ :: _, [], _, h, _ => by simp [ArgsOk] at h

theorem ofL_mem {O : List (Nat × AObj)} {i : Nat} (h : (ofL O i).isSome) : ∃ o, (i, o) ∈ O := by
  have key : ∀ (l : List (Nat × AObj)) (f : Nat → Option AObj), (wrm f l i).isSome → (f i).isSome ∨ ∃ o, (i, o) ∈ l := by
    intro l
    induction l with
    | nil => intro f h; exact .inl h
    | cons p l ih =>
      intro f h
      rcases ih (upd f p.1 (some p.2)) h with h | ⟨o, ho⟩
      · unfold upd at h
        split at h
        · rename_i e; exact .inr ⟨p.2, by rw [e]; exact List.mem_cons_self ..⟩
        · exact .inl h
      · exact .inr ⟨o, List.mem_cons_of_mem _ ho⟩
  rcases key O _ h with h | h
  · simp at h
  · exact h

theorem callDoes_m {m m' : Nat → Option AObj} {f : FuncId} {avs : List AV} {r : Res} (h : CallDoes P m f avs r)
    (h1 : ∀ av ∈ avs, ∀ i ∈ av.ids, m i = m' i) (h2 : ∀ i ∈ keys r, m i = m' i) : CallDoes P m' f avs r := by
  cases h with
  | mk md cargs O r O' ρ wr keep spec ha hO hOc hOO hnew hnd hk =>
    have hk2 : ∀ i, (ofL O' i).isSome → m (ρ i) = m' (ρ i) := fun i hi => by
      obtain ⟨o, ho⟩ := ofL_mem hi
      refine h2 _ ?_
      simp only [keys, List.map_append, List.mem_append]
      refine .inr ?_
      simp only [renO, List.map_map, List.mem_map, Function.comp]
      exact ⟨(i, o), ho, rfl⟩
    exact .mk md cargs O r O' ρ wr keep spec (argsOk_m md avs cargs wr ha h1)
      (fun i o ho => by rw [← wrm_m wr (hk2 i (hOO i (by rw [ho]; rfl)))]; exact hO i o ho) hOc hOO
      (fun i hi => (hnew i hi).imp id (fun h => by rw [← hk2 i hi]; exact h)) hnd hk

/-- the slots that an operation looks at -/
def AOper.looks (o : AOper) : List Nat :=
  (o.op.ops.filterMap fun | .t n => some n | .k _ => none) ++ (match o.guard with | some (g, _) => [g] | none => [])

theorem ev_of_looks {σ τ : St} {o : AOper} (h : ∀ t ∈ o.looks, σ.env t = τ.env t) {x : AX} (hx : x ∈ o.op.ops) : σ.ev x = τ.ev x := by
  cases x with
  | t n => exact h n (by simp only [AOper.looks, List.mem_append, List.mem_filterMap]; exact .inl ⟨.t n, hx, rfl⟩)
  | k v => rfl

theorem es_congr {σ τ : St} : ∀ {l : List AX}, (∀ x ∈ l, σ.e x = τ.e x) → σ.es l = τ.es l
  | [], _ => rfl
  | x :: l, h => by simp only [St.es]; rw [h x (List.mem_cons_self ..), es_congr (fun y hy => h y (List.mem_cons_of_mem _ hy))]

theorem allC_congr {σ τ : St} {b : Bool} : ∀ {l : List AX}, (∀ x ∈ l, σ.c x = τ.c x) → allC σ b l → allC τ b l
  | [], _, _ => trivial
  | x :: l, h, hc => ⟨fun hb => by rw [← h x (List.mem_cons_self ..)]; exact hc.1 hb, allC_congr (fun y hy => h y (List.mem_cons_of_mem _ hy)) hc.2⟩

theorem does_m {σ τ : St} {o : AOper} {b : Bool} {r : Res} (h : Does P o σ b r) (hl : ∀ t ∈ o.looks, σ.env t = τ.env t)
    (hf : ∀ i ∈ foot σ o, σ.objs i = τ.objs i) (hk : ∀ i ∈ keys r, σ.objs i = τ.objs i) : Does P o τ b r := by
  have hev : ∀ x ∈ o.op.ops, σ.ev x = τ.ev x := fun x hx => ev_of_looks hl hx
  have he : ∀ x ∈ o.op.ops, σ.e x = τ.e x := fun x hx => by unfold St.e; rw [hev x hx]
  have hcc : ∀ x ∈ o.op.ops, σ.c x = τ.c x := fun x hx => by unfold St.c; rw [hev x hx]
  have hg : guardV σ o.guard = guardV τ o.guard := by
    cases hgd : o.guard with
    | none => rfl
    | some gw =>
      obtain ⟨g, want⟩ := gw
      simp only [guardV]
      rw [hl g (by simp [AOper.looks, hgd])]
  cases h with
  | skip hg' => exact .skip (hg ▸ hg')
  | op _ p r hg' hb hc hp hw =>
    refine .op _ p r (hg ▸ hg') ?_ (allC_congr hcc hc) hp hw
    rw [← eval_congr he]
    exact eval_m hb (fun ht x hx v hv i hi => hf i (mem_foot ht hx hv hi)) hk
  | pick _ c x y q p1 p2 c1 c2 cc ho hg' hq hx hy hc =>
    have hmem : c ∈ o.op.ops ∧ x ∈ o.op.ops ∧ y ∈ o.op.ops := by rw [ho]; simp [AOp.ops]
    exact .pick _ c x y q p1 p2 c1 c2 cc ho (hg ▸ hg') (by rw [← hev c hmem.1]; exact hq) (fun h => by rw [← hev x hmem.2.1]; exact hx h) (fun h => by rw [← hev y hmem.2.2]; exact hy h) hc
  | call _ f avs r hg' ht hc hd hw =>
    have htouch : o.op.touches = true := by
      have := target_isCall ht
      cases hop : o.op <;> simp_all [AOp.isCall, AOp.touches, AOp.mayWrite]
    have ht' : target τ o.op = some (f, avs) := by
      rw [← ht]
      cases hop : o.op with
      | call f' xs =>
        simp only [target]
        rw [es_congr (fun x hx => (he x (by rw [hop]; simpa [AOp.ops] using hx)).symm)]
      | callv x xs =>
        simp only [target]
        rw [es_congr (fun y hy => (he y (by rw [hop]; simp [AOp.ops, hy])).symm), he x (by rw [hop]; simp [AOp.ops])]
      | _ => rfl
    have hids : ∀ av ∈ avs, ∀ i ∈ av.ids, i ∈ foot σ o := by
      intro av hav i hi
      cases hop : o.op with
      | call f' xs =>
        rw [hop] at ht
        simp only [target] at ht
        split at ht
        · rename_i vs hvs
          simp only [Option.some.injEq, Prod.mk.injEq] at ht
          obtain ⟨_, rfl⟩ := ht
          obtain ⟨j, hj⟩ := List.getElem?_of_mem hav
          obtain ⟨x, hx, hxv⟩ := (es_spec hvs).2 j av hj
          exact mem_foot htouch (by rw [hop]; exact List.mem_of_getElem? hx) hxv hi
        · cases ht
      | callv x xs =>
        rw [hop] at ht
        simp only [target] at ht
        split at ht
        · rename_i f' first cap vs hfv hvs
          simp only [Option.some.injEq, Prod.mk.injEq] at ht
          obtain ⟨_, rfl⟩ := ht
          rcases List.mem_append.1 hav with hav | hav
          · rcases List.mem_append.1 hav with hav | hav
            · obtain ⟨j, hj⟩ := List.getElem?_of_mem hav
              exact mem_foot htouch (by rw [hop]; simp [AOp.ops]) hfv (by simp only [AV.ids, List.mem_append]; exact .inl (mem_idsL hj i hi))
            · obtain ⟨j, hj⟩ := List.getElem?_of_mem hav
              obtain ⟨y, hy, hyv⟩ := (es_spec hvs).2 j av hj
              exact mem_foot htouch (by rw [hop]; exact List.mem_cons_of_mem _ (List.mem_of_getElem? hy)) hyv hi
          · obtain ⟨j, hj⟩ := List.getElem?_of_mem hav
            exact mem_foot htouch (by rw [hop]; simp [AOp.ops]) hfv (by simp only [AV.ids, List.mem_append]; exact .inr (mem_idsL hj i hi))
        · cases ht
      | _ => rw [hop] at ht; simp [target] at ht
    exact .call _ f avs r (hg ▸ hg') ht' (allC_congr hcc hc) (fun hb => callDoes_m (hd hb) (fun av hav i hi => hf i (hids av hav i hi)) hk) hw
end
end Go.Abs
