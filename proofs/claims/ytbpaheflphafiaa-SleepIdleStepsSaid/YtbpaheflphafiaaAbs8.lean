/- The abstract layer, part 8: append, make, maps. -/
import Derived.Test.YtbpaheflphafiaaAbs7
set_option linter.unusedSimpArgs false
set_option linter.unusedVariables false
set_option linter.unnecessarySimpa false
namespace Go.Abs
section
variable {P : Program} {G : Nat → Prop} {w : World} {ob : Place} {m : Nat → Option AObj}

theorem Src.relD {esz : Nat} {t : Sq} {y : Value} {news : List Value} (h : Src G w ob esz t y news) {k j : Nat} {av : AV} (hk : k < t.n) (hj : (t.g k)[j]? = some av) :
    j < esz ∧ av.pure = true ∧ ∃ u, news[k * esz + j]? = some u ∧ Rel G w ob av u := by
  refine ⟨?_, h.rel k j av hk hj⟩
  rw [← h.glen k hk]; rcases Nat.lt_or_ge j (t.g k).length with h | h
  · exact h
  · rw [List.getElem?_eq_none h] at hj; cases hj

theorem idx_lt {k n esz j : Nat} (hk : k < n) (hj : j < esz) : k * esz + j < n * esz := by
  have : (k + 1) * esz ≤ n * esz := Nat.mul_le_mul_right _ hk
  rw [Nat.add_mul] at this; omega

theorem append_frozen {t el ty : TypeId} {i : TypeInfo} {z : Value} {esz bytes : Nat} {cs : Array Bool} {xv yv : Value} {n : Nat} {g : Nat → List AV} {tq : Sq} {news : List Value}
    (ht : P.underlying t = some (.slice el)) (hi : P.info? el = some i) (hz : i.zero = some z) (hsize : i.size = esz) (hby : i.bytes = bytes) (hzs : z.cells.size = esz)
    (hs : SimO G w ob m) (hbi : (builtin .append #[t, t] ty cs #[xv, yv]).run P w = ((Builtin.append_ #[t, t] ty #[xv, yv]).run P w).andThen fun v w' => .ok (.value v) w')
    (hr : Rel G w ob (.dslx esz n g) xv) (hS : Src G w ob esz tq yv news) (hb1 : (n + tq.n) * bytes ≤ 140737488355328) (hb2 : n + tq.n ≤ maxLen) :
    OpOk P G w ob m (builtin .append #[t, t] ty cs #[xv, yv]) ⟨some (.dsl esz (n + tq.n) (Sq.app ⟨n, g⟩ tq).g), []⟩ := by
  have hx : ∃ (old : List Value), ((xv = .slice none 0 0 ∧ n = 0) ∨ ∃ a, xv = .slice (some a) n n ∧ ∀ (j : Nat) (u : Value), old[j]? = some u → w.cell? (a.add j) = some u) ∧ old.length = n * esz ∧
      (∀ k, k < n → (g k).length = esz) ∧ ∀ (k j : Nat) (av : AV), k < n → (g k)[j]? = some av → av.pure = true ∧ ∃ u, old[k * esz + j]? = some u ∧ Rel G w ob av u := by
    cases hr with
    | dslxNil => exact ⟨[], .inl ⟨rfl, rfl⟩, by simp, fun k hk => by omega, fun k j av hk => by omega⟩
    | dslxE a => exact ⟨[], .inr ⟨a, rfl, fun j u hj => by simp at hj⟩, by simp, fun k hk => by omega, fun k j av hk => by omega⟩
    | dslx b off c hG hlen hpp hc hrr =>
      obtain ⟨old, hO⟩ := src_of_cells (G := G) (w := w) (ob := ob) (b := b) (off := off) (c := n) hlen fun k j av hk hj => ⟨hpp k j av hk hj, c k j, hc k j hk (by
          rw [← hlen k hk]; rcases Nat.lt_or_ge j (g k).length with h | h
          · exact h
          · rw [List.getElem?_eq_none h] at hj; cases hj), hrr k j av hk hj⟩
      refine ⟨old, .inr ⟨_, rfl, ?_⟩, hO.len, hO.glen, hO.rel⟩
      rcases hO.val with ⟨_, h⟩ | ⟨a, c', h, h'⟩
      · cases h
      · simp only [Value.slice.injEq, Option.some.injEq] at h
        obtain ⟨rfl, _⟩ := h
        exact h'
  obtain ⟨old, hxv, hol, hgl, hrel⟩ := hx
  have fresh : ∀ nc (row : Array Value), n + tq.n ≤ nc → (∀ j, j < n * esz → row[j]? = old[j]?) → (∀ j, j < tq.n * esz → row[n * esz + j]? = news[j]?) →
      (Builtin.append_ #[t, t] ty #[xv, yv]).run P w = .ok (.slice (some ⟨w.heap.size, 0, none⟩) (n + tq.n) nc) (w.drew.alloc (.cells row el)) →
      OpOk P G w ob m (builtin .append #[t, t] ty cs #[xv, yv]) ⟨some (.dsl esz (n + tq.n) (Sq.app ⟨n, g⟩ tq).g), []⟩ := by
    intro nc row hnc hold hnew hrun
    rw [hrun] at hbi
    have hhold : ∀ b, b < w.heap.size → (w.drew.alloc (.cells row el)).heap[b]? = w.heap[b]? := fun b hb => heap_alloc_old w.drew _ _ hb
    have hGw : ∀ b, G b → (w.drew.alloc (.cells row el)).heap[b]? = w.heap[b]? := fun b hG => hhold b (hs.lt b hG)
    refine ⟨fun b => G b ∨ b = w.heap.size, w.drew.alloc (.cells row el), ob, .slice (some ⟨w.heap.size, 0, none⟩) (n + tq.n) nc, .inl hbi, ⟨hs.dom, hs.inj, ?_, ?_, ?_⟩, fun av hav => ?_, OBext.refl ob, ⟨by simp, fun b hb _ => hhold b hb, fun b hb => .inl hb, fun b hb => .inl hb, ?_, rfl, rfl, rfl⟩⟩
    · rintro b (hb | rfl)
      · have := hs.lt b hb; simp; omega
      · simp
    · intro id o inf hm' hi'
      have ho := hs.own id o inf hm' hi'
      exact ho.ext (fun b hb => .inl hb) hGw (OBext.refl ob) fun b hb => hhold b (ho.blk_lt hb)
    · intro id o inf b hm' hown hi' hb hG
      rcases hG with hG | rfl
      · exact hs.sep id o inf b hm' hown hi' hb hG
      · have := (hs.own id o inf hm' hi').blk_lt hb; omega
    · injection hav with hav
      subst hav
      have lk : ∀ k, k < n + tq.n → ((Sq.app ⟨n, g⟩ tq).g k).length = esz := fun k hk => by
        simp only [Sq.app]
        split
        · exact hgl k ‹_›
        · exact hS.glen _ (by omega)
      have cellR : ∀ k j av, k < n + tq.n → ((Sq.app ⟨n, g⟩ tq).g k)[j]? = some av → av.pure = true ∧ ∃ u, row[k * esz + j]? = some u ∧ Rel G w ob av u := by
        intro k j av hk hj
        have hjl : j < esz := by
          rw [← lk k hk]; rcases Nat.lt_or_ge j ((Sq.app ⟨n, g⟩ tq).g k).length with h | h
          · exact h
          · rw [List.getElem?_eq_none h] at hj; cases hj
        simp only [Sq.app] at hj
        split at hj
        · rename_i hk1
          obtain ⟨c1, u, c2, c3⟩ := hrel k j av hk1 hj
          exact ⟨c1, u, by rw [hold _ (idx_lt hk1 hjl)]; exact c2, c3⟩
        · rename_i hk1
          obtain ⟨c0, c1, u, c2, c3⟩ := hS.relD (k := k - n) (by omega) hj
          have hlt := idx_lt (n := tq.n) (k := k - n) (by omega) c0
          refine ⟨c1, u, ?_, c3⟩
          have hge : n * esz ≤ k * esz := Nat.mul_le_mul_right _ (by omega)
          have hsub : (k - n) * esz = k * esz - n * esz := Nat.sub_mul _ _ _
          have e1 : k * esz + j = n * esz + ((k - n) * esz + j) := by omega
          rw [e1, hnew _ hlt]; exact c2
      refine .dsl w.heap.size 0 nc (fun k j => (row[k * esz + j]?).getD undef) (.inr rfl) hnc lk (fun k j av hk hj => (cellR k j av hk hj).1) (fun k j hk hj => ?_) (fun k j av hk hj => ?_)
      · obtain ⟨_, u, hu, _⟩ := cellR k j _ hk (List.getElem?_eq_getElem (by rw [lk k hk]; exact hj))
        have hnc' : (w.drew.alloc (.cells row el)).heap[w.heap.size]? = some (.cells row el (0, 0)) := heap_alloc_new w.drew _
        rw [Nat.zero_add, cell_of_row _ w.heap.size _ row el _ hnc', hu]; rfl
      · obtain ⟨_, u, hu, hre⟩ := cellR k j av hk hj
        rw [hu]
        exact hre.ext (fun b hb => .inl hb) hGw (OBext.refl ob)
    · rintro b (hb | rfl)
      · exact .inl hb
      · exact .inr (.inl (Nat.le_refl _))
  rcases hxv with ⟨rfl, rfl⟩ | ⟨a, rfl, holds⟩
  · rcases run_append_any (ty := ty) ht hi hz hsize hzs hS (x := .slice none 0 0) (n := 0) hb2 (by rw [hby]; exact hb1) (.inl ⟨.inl rfl, rfl⟩) with ⟨h0, hrun⟩ | ⟨b, cap, arr, T, _, hxe, _⟩ | ⟨nc, row, _, hnc, hrow, hrun, _, hnew⟩
    · rw [hrun] at hbi
      refine OpOk.quiet hs (v := .slice none 0 0) hbi ?_
      rw [h0]; exact .dslNil
    · cases hxe
    · exact fresh nc row hnc (fun j hj => by simp at hj) hnew hrun
  · rcases run_append_full (ty := ty) ht hi hz hsize hzs hS hb2 (by rw [hby]; exact hb1) hol holds with ⟨h0, hrun⟩ | ⟨nc, row, _, hnc, hrow, hrun, hold, hnew⟩
    · rw [hrun] at hbi
      refine OpOk.quiet hs (v := .slice (some a) n n) hbi ?_
      rw [h0, Nat.add_zero]
      cases hr with
      | dslxE a => exact .dslE a _
      | dslx b off c hG hlen hpp hc hrr =>
        refine .dsl b off n c hG (Nat.le_refl n) (fun k hk => ?_) (fun k j av hk hj => ?_) hc (fun k j av hk hj => ?_)
        all_goals (try simp only [Sq.app] at hj); (try simp only [Sq.app])
        · rw [if_pos hk]; exact hlen k hk
        · rw [if_pos hk] at hj; exact hpp k j av hk hj
        · rw [if_pos hk] at hj; exact hrr k j av hk hj
    · exact fresh nc row hnc hold hnew hrun

theorem ok_append {t el ty : TypeId} {i : TypeInfo} {z : Value} {esz bytes : Nat} {cs : Array Bool} {ρ : Operand → Value} {e : AX → Option AV} {x y : Operand} {ax ay : AX} {p : Prop} {r : Res} {d : Nat}
    (ht : P.underlying t = some (.slice el)) (hi : P.info? el = some i) (hz : i.zero = some z) (hsize : i.size = esz) (hby : i.bytes = bytes) (hzs : z.cells.size = esz)
    (hs : SimO G w ob m) (hx : cx x = some ax) (hy : cx y = some ay) (he : OpRel G w ob ρ e) (hv : eval (.append esz bytes ax ay) e m d = some (p, r)) (hp : p) :
    OpOk P G w ob m (builtin .append #[t, t] ty cs #[ρ x, ρ y]) r := by
  simp only [eval] at hv
  have hbi : (builtin .append #[t, t] ty cs #[ρ x, ρ y]).run P w = ((Builtin.append_ #[t, t] ty #[ρ x, ρ y]).run P w).andThen fun v w' => .ok (.value v) w' := by
    simp [builtin]
  cases hay : e ay with
  | none =>
    exfalso
    rw [hay] at hv
    cases hax : e ax with
    | none => simp [hax] at hv
    | some a => rw [hax] at hv; split at hv <;> simp_all
  | some b =>
    have hr2 := he y ay b hy hay
    cases hax : e ax with
    | none => simp [hax] at hv
    | some a =>
      have hr := he x ax a hx hax
      rw [hax, hay] at hv
      split at hv
      · -- a nil slice
        rename_i b' h1 h2
        simp only [Option.some.injEq] at h1 h2
        subst h1; subst h2
        rw [hr.sc_eq] at hbi
        rw [hr.sc_eq]
        split at hv
        case h_2 => cases hv
        rename_i p' tq hm hsrc
        simp only [Option.some.injEq, Prod.mk.injEq] at hv
        obtain ⟨rfl, rfl⟩ := hv
        obtain ⟨hp', hb1, hb2⟩ := hp
        obtain ⟨news, hS⟩ := source_ok hs hsrc hp' hr2
        have hno : ob (nid d) = none := (hs.dom _).1 hm
        rcases run_append_any (ty := ty) ht hi hz hsize hzs hS (x := .slice none 0 0) (n := 0) (by simpa using hb2) (by simp only [Nat.zero_add]; rw [hby]; exact hb1) (.inl ⟨.inl rfl, rfl⟩) with ⟨h0, hrun⟩ | ⟨b, cap, arr, T, _, hxe, _⟩ | ⟨nc, row, _, hnc, hrow, hrun, _, hnew⟩
        · -- nothing: the slice stays nil
          rw [hrun] at hbi
          have hext : OBext ob (upd ob (nid d) (some ⟨none, esz, 0, 0, false⟩)) := fun q j hj => ⟨j, by rw [upd_ne (fun e => by subst e; rw [hno] at hj; cases hj)]; exact hj, .inl rfl⟩
          obtain ⟨s1, s2, s3⟩ := hs.update (w' := w) (nid d) (.arr esz tq) ⟨none, esz, 0, 0, false⟩ (Nat.le_refl _) (fun _ _ _ => rfl) (fun j hj => by rw [hno] at hj; cases hj)
            (fun b hb => by cases hb) (fun j hj => by rw [hno] at hj; cases hj) ⟨rfl, rfl, h0.symm, by simp [h0], .inl ⟨rfl, h0, rfl⟩⟩ (fun _ b hb => by cases hb)
          refine ⟨G, w, _, .slice none 0 0, .inl hbi, s1, (fun av hav => ?_), s2, Fr.of_heap (Nat.le_refl _) (fun _ _ _ => rfl) s3 rfl rfl rfl⟩
          injection hav with hav
          subst hav
          rw [h0]
          exact .sl ⟨none, esz, 0, 0, false⟩ (by simp) (Nat.le_refl _) ⟨_, _, rfl⟩ fun _ => ⟨by simp, fun _ => .inl rfl, fun b hb => by cases hb⟩
        · cases hxe
        · rw [hrun] at hbi
          simp only [Nat.zero_add, Nat.zero_mul] at hbi hnc hnew
          have hext : OBext ob (upd ob (nid d) (some ⟨some w.heap.size, esz, tq.n, nc, false⟩)) := fun q j hj => ⟨j, by rw [upd_ne (fun e => by subst e; rw [hno] at hj; cases hj)]; exact hj, .inl rfl⟩
          have hGw : ∀ b, G b → (w.drew.alloc (.cells row el)).heap[b]? = w.heap[b]? := fun b hG => heap_alloc_old w.drew _ _ (hs.lt b hG)
          refine OpOk.new (w0 := w.drew) (i := ⟨some w.heap.size, esz, tq.n, nc, false⟩) hs hm rfl rfl rfl rfl hbi (fun b hb => by simpa using hb.symm) ?_ ?_
          · refine ⟨rfl, rfl, rfl, hnc, .inr ⟨w.heap.size, row, el, rfl, heap_alloc_new w.drew _, hrow, hS.glen, fun k j av hk hj => ?_⟩⟩
            obtain ⟨h1, h2, u, h3, h4⟩ := hS.relD hk hj
            exact ⟨h2, u, by rw [hnew _ (idx_lt hk h1)]; exact h3, h4.ext (fun _ h => h) hGw hext⟩
          · refine .sl ⟨some w.heap.size, esz, tq.n, nc, false⟩ (by simp) (Nat.le_refl _) ⟨_, _, rfl⟩ fun _ => ⟨by simp, fun h => by simp at h, fun b hb => ?_⟩
            simp only [Option.some.injEq] at hb
            subst hb
            exact ⟨0, nc, rfl, hnc, fun _ => by simp, fun _ => ⟨rfl, rfl⟩⟩
      · -- a slice without room
        rename_i zz n g b' h1 h2
        simp only [Option.some.injEq] at h1 h2
        subst h1; subst h2
        split at hv
        case h_2 => cases hv
        rename_i p' tq hsrc
        split at hv
        case isFalse => cases hv
        rename_i hze
        subst hze
        simp only [Option.some.injEq, Prod.mk.injEq] at hv
        obtain ⟨rfl, rfl⟩ := hv
        obtain ⟨hp', hb1, hb2⟩ := hp
        obtain ⟨news, hS⟩ := source_ok hs hsrc hp' hr2
        exact append_frozen ht hi hz hsize hby hzs hs hbi hr hS hb1 hb2
      · -- a slice of the call's own
        rename_i id off n tot b' h1 h2
        simp only [Option.some.injEq] at h1 h2
        subst h1; subst h2
        split at hv
        case h_2 => cases hv
        rename_i zz s p' tq hm hsrc
        split at hv
        case isFalse => cases hv
        rename_i hze
        subst hze
        simp only [Option.some.injEq, Prod.mk.injEq] at hv
        obtain ⟨rfl, rfl⟩ := hv
        obtain ⟨hp', rfl, rfl, htot, hb1, hb2⟩ := hp
        obtain ⟨news, hS⟩ := source_ok hs hsrc hp' hr2
        cases hi' : ob id with
        | none => rw [(hs.dom id).2 hi'] at hm; cases hm
        | some inf =>
          have ho := hs.own id _ inf hm hi'
          obtain ⟨hmap, hz1, hl1, hc1, hrow⟩ := ho
          generalize hxv : ρ x = xv at hr hbi ⊢
          cases hr with
          | sl i2 hh hle hss hvv =>
            rw [hi'] at hh; injection hh with hh; subst hh
            obtain ⟨_, hvn, hvs⟩ := hvv (by rw [hl1, htot])
            have hxcase : ((xv = .slice none 0 0 ∨ ∃ a, xv = .slice (some a) 0 0) ∧ s.n = 0 ∧ inf.blk = none ∧ inf.cap = 0) ∨ ∃ b arr T, inf.blk = some b ∧ xv = .slice (some ⟨b, 0, none⟩) s.n inf.cap ∧ w.heap[b]? = some (.cells arr T (0, 0)) ∧ arr.size = inf.cap * zz ∧ InRow G w ob arr zz s := by
              rcases hrow with ⟨h1, h2, h3⟩ | ⟨b, arr, T, h1, h2, h3, h4⟩
              · exact .inl ⟨hvn h1, h2, h1, h3⟩
              · obtain ⟨o, c, rfl, _, _, h6⟩ := hvs b h1
                obtain ⟨rfl, rfl⟩ := h6 rfl
                exact .inr ⟨b, arr, T, h1, rfl, h2, by rw [h3, hz1], hz1 ▸ h4⟩
            have hA := run_append_any (ty := ty) ht hi hz hsize hzs hS (x := xv) (n := s.n) hb2 (by rw [hby]; exact hb1) (by
              rcases hxcase with ⟨h1, h2, _⟩ | ⟨b, arr, T, h1, h2, h3, h4, _⟩
              · exact .inl ⟨h1, h2⟩
              · exact .inr ⟨b, inf.cap, arr, T, h2, h3, hc1, h4⟩)
            have hgapp : ∀ k, k < s.n + tq.n → ((s.app tq).g k).length = zz := fun k hk => by
              simp only [Sq.app]
              split
              · rename_i hk1
                rcases hxcase with ⟨_, h2, _⟩ | ⟨b, arr, T, _, _, _, _, h6⟩
                · omega
                · exact h6.1 k hk1
              · exact hS.glen _ (by omega)
            rcases hA with ⟨h0, hrun⟩ | ⟨b, cap, arr, T, hqne, hxe, hg, hcap, hrun⟩ | ⟨nc, row, hq0, hnc, hrow', hrun, hold, hnew⟩
            · -- nothing is appended
              rw [hrun] at hbi
              have hup : upd ob id (some inf) = ob := upd_self hi'
              obtain ⟨s1, s2, s3⟩ := hs.update (w' := w) id (.arr zz (s.app tq)) inf (Nat.le_refl _) (fun _ _ _ => rfl) (fun j hj => by rw [hi'] at hj; injection hj with hj; exact .inl hj)
                (fun b hb => .inl ⟨inf, hi', hb⟩) (fun _ _ _ _ _ => rfl) (by
                  rw [hup]
                  refine ⟨hmap, hz1, by simp [Sq.app, h0, hl1], by simp [Sq.app, h0, hc1], ?_⟩
                  rcases hrow with ⟨h1, h2, h3⟩ | ⟨b, arr, T, h1, h2, h3, h4⟩
                  · exact .inl ⟨h1, by simp [Sq.app, h0, h2], h3⟩
                  · refine .inr ⟨b, arr, T, h1, h2, h3, fun k hk => ?_, fun k j av hk hj => ?_⟩
                    · simp only [Sq.app, h0, Nat.add_zero] at hk ⊢; rw [if_pos hk]; exact h4.1 k hk
                    · simp only [Sq.app, h0, Nat.add_zero] at hk hj; rw [if_pos hk] at hj; exact h4.2 k j av hk hj)
                (fun _ b hb => hs.sep id _ inf b hm rfl hi' hb)
              refine ⟨G, w, _, xv, .inl hbi, s1, (fun av hav => ?_), s2, Fr.of_heap (Nat.le_refl _) (fun _ _ _ => rfl) s3 rfl rfl rfl⟩
              injection hav with hav
              subst hav
              rw [hup, h0, Nat.add_zero]
              exact .sl inf hi' (by omega) hss (fun _ => ⟨by omega, hvn, hvs⟩)
            · -- there is room
              rcases hxcase with ⟨hn0', hn0, hb0, hc0⟩ | ⟨b', arr', T', h1, h2, h3, h4, h5⟩
              · rcases hn0' with h1 | ⟨a, h1⟩
                · rw [h1] at hxe; cases hxe
                · rw [h1] at hxe
                  simp only [Value.slice.injEq] at hxe
                  omega
              rw [h2] at hxe
              simp only [Value.slice.injEq, Option.some.injEq, Addr.mk.injEq, and_true, true_and] at hxe
              obtain ⟨rfl, rfl⟩ := hxe
              rw [h3] at hg
              simp only [Option.some.injEq, Obj.cells.injEq, and_true] at hg
              obtain ⟨rfl, rfl⟩ := hg
              rw [hrun] at hbi
              have hfit : s.n * zz + news.length ≤ arr'.size := by rw [hS.len, h4, ← Nat.add_mul]; exact Nat.mul_le_mul_right _ hcap
              have hnG : ¬ G b' := hs.sep id _ inf b' hm rfl hi' h1
              have hhold : ∀ q, q ≠ b' → (w.setRow b' (stored arr' (s.n * zz) news)).heap[q]? = w.heap[q]? := fun q hk => setRow_other w b' q _ hk
              have hGw : ∀ q, G q → (w.setRow b' (stored arr' (s.n * zz) news)).heap[q]? = w.heap[q]? := fun q hG => hhold q (fun e => hnG (e ▸ hG))
              have hi2 : (⟨some b', zz, s.n + tq.n, inf.cap, false⟩ : Info) = inf ∨ (inf.len < (⟨some b', zz, s.n + tq.n, inf.cap, false⟩ : Info).len ∧ inf.isMap = false) := by
                by_cases hq : tq.n = 0
                · left
                  obtain ⟨ib, ie, il, ic, im⟩ := inf
                  simp only at hz1 hl1 hmap h1
                  simp [hq, h1, hz1, hl1, hmap]
                · exact .inr ⟨by simp only; omega, hmap⟩
              have hob : OBext ob (upd ob id (some ⟨some b', zz, s.n + tq.n, inf.cap, false⟩)) := fun q j hj => by
                by_cases hq : q = id
                · subst hq; rw [hi'] at hj; injection hj with hj; subst hj; exact ⟨_, by simp, hi2⟩
                · exact ⟨j, by rw [upd_ne hq]; exact hj, .inl rfl⟩
              obtain ⟨s1, s2, s3⟩ := hs.update (w' := w.setRow b' (stored arr' (s.n * zz) news)) id (.arr zz (s.app tq)) ⟨some b', zz, s.n + tq.n, inf.cap, false⟩ (by simp)
                (fun q _ hne => hhold q (fun e => hne inf hi' (by rw [h1, e]))) (fun j hj => by rw [hi'] at hj; injection hj with hj; exact hj ▸ hi2)
                (fun q hq => .inl ⟨inf, hi', by rw [h1]; exact hq⟩) (fun j hj q hq hG => hGw q hG)
                ⟨rfl, rfl, rfl, hcap, .inr ⟨b', _, T', rfl, heap_setRow_same h3, by rw [stored_size _ _ _ hfit, h4], hgapp, fun k j av hk hj => by
                  show av.pure = true ∧ ∃ v, (stored arr' (s.n * zz) news)[k * zz + j]? = some v ∧ _
                  rw [stored_get _ _ _ hfit, hS.len]
                  simp only [Sq.app] at hk hj
                  split at hj
                  · rename_i hk1
                    obtain ⟨c1, u, c2, c3⟩ := h5.2 k j av hk1 hj
                    have hjl : j < zz := by
                      rw [← h5.1 k hk1]; rcases Nat.lt_or_ge j (s.g k).length with h | h
                      · exact h
                      · rw [List.getElem?_eq_none h] at hj; cases hj
                    have := idx_lt hk1 hjl
                    rw [if_neg (by omega)]
                    exact ⟨c1, u, c2, c3.ext (fun _ h => h) hGw hob⟩
                  · rename_i hk1
                    obtain ⟨c0, c1, u, c2, c3⟩ := hS.relD (k := k - s.n) (by omega) hj
                    have := idx_lt (n := tq.n) (k := k - s.n) (by omega) c0
                    have hge : s.n * zz ≤ k * zz := Nat.mul_le_mul_right _ (by omega)
                    have hsub : (k - s.n) * zz = k * zz - s.n * zz := Nat.sub_mul _ _ _
                    rw [if_pos ⟨by omega, by omega⟩]
                    refine ⟨c1, u, ?_, c3.ext (fun _ h => h) hGw hob⟩
                    have e1 : k * zz + j - s.n * zz = (k - s.n) * zz + j := by omega
                    rw [e1]; exact c2⟩⟩
                (fun _ q hq => by simp only [Option.some.injEq] at hq; exact hq ▸ hnG)
              refine ⟨G, w.setRow b' (stored arr' (s.n * zz) news), _, .slice (some ⟨b', 0, none⟩) (s.n + tq.n) inf.cap, .inl hbi, s1, (fun av hav => ?_), s2, Fr.of_heap (by simp) (fun q hq hc => ?_) s3 rfl rfl rfl⟩
              · injection hav with hav
                subst hav
                refine .sl ⟨some b', zz, s.n + tq.n, inf.cap, false⟩ (by simp) (Nat.le_refl _) ⟨_, _, rfl⟩ fun _ => ⟨by simp, fun h => by simp at h, fun q hq => ?_⟩
                simp only [Option.some.injEq] at hq
                subst hq
                exact ⟨0, _, rfl, hcap, fun _ => by simp, fun _ => ⟨rfl, rfl⟩⟩
              · refine hhold q fun e => ?_
                subst e
                rcases hc with hc | hc
                · exact hnG hc
                · exact hc ⟨id, inf, hi', h1⟩
            · -- a new array
              rw [hrun] at hbi
              have hGw : ∀ q, G q → (w.drew.alloc (.cells row el)).heap[q]? = w.heap[q]? := fun q hG => heap_alloc_old w.drew _ _ (hs.lt q hG)
              have hi2 : inf.len < (⟨some w.heap.size, zz, s.n + tq.n, nc, false⟩ : Info).len ∧ inf.isMap = false := ⟨by simp only; omega, hmap⟩
              have hob : OBext ob (upd ob id (some ⟨some w.heap.size, zz, s.n + tq.n, nc, false⟩)) := fun q j hj => by
                by_cases hq : q = id
                · subst hq; rw [hi'] at hj; injection hj with hj; subst hj; exact ⟨_, by simp, .inr hi2⟩
                · exact ⟨j, by rw [upd_ne hq]; exact hj, .inl rfl⟩
              obtain ⟨s1, s2, s3⟩ := hs.update (w' := w.drew.alloc (.cells row el)) id (.arr zz (s.app tq)) ⟨some w.heap.size, zz, s.n + tq.n, nc, false⟩ (by simp)
                (fun q hq _ => heap_alloc_old w.drew _ _ hq) (fun j hj => by rw [hi'] at hj; injection hj with hj; exact .inr (hj ▸ hi2))
                (fun q hq => .inr (by simp only [Option.some.injEq] at hq; omega)) (fun j hj q hq hG => hGw q hG)
                ⟨rfl, rfl, rfl, hnc, .inr ⟨w.heap.size, row, el, rfl, heap_alloc_new w.drew _, hrow', hgapp, fun k j av hk hj => by
                  simp only [Sq.app] at hk hj
                  split at hj
                  · rename_i hk1
                    rcases hxcase with ⟨_, h2, _⟩ | ⟨b', arr', T', h1, h2, h3, h4, h5⟩
                    · omega
                    · obtain ⟨c1, u, c2, c3⟩ := h5.2 k j av hk1 hj
                      have hjl : j < zz := by
                        rw [← h5.1 k hk1]; rcases Nat.lt_or_ge j (s.g k).length with h | h
                        · exact h
                        · rw [List.getElem?_eq_none h] at hj; cases hj
                      exact ⟨c1, u, by rw [hold _ (idx_lt hk1 hjl) b' _ arr' T' h2 h3]; exact c2, c3.ext (fun _ h => h) hGw hob⟩
                  · rename_i hk1
                    obtain ⟨c0, c1, u, c2, c3⟩ := hS.relD (k := k - s.n) (by omega) hj
                    have hlt := idx_lt (n := tq.n) (k := k - s.n) (by omega) c0
                    refine ⟨c1, u, ?_, c3.ext (fun _ h => h) hGw hob⟩
                    have hge : s.n * zz ≤ k * zz := Nat.mul_le_mul_right _ (by omega)
                    have hsub : (k - s.n) * zz = k * zz - s.n * zz := Nat.sub_mul _ _ _
                    have e1 : k * zz + j = s.n * zz + ((k - s.n) * zz + j) := by omega
                    rw [e1, hnew _ hlt]; exact c2⟩⟩
                (fun _ q hq hG => by simp only [Option.some.injEq] at hq; have := hs.lt q hG; omega)
              refine ⟨G, w.drew.alloc (.cells row el), _, .slice (some ⟨w.heap.size, 0, none⟩) (s.n + tq.n) nc, .inl hbi, s1, (fun av hav => ?_), s2, Fr.of_heap (by simp) (fun q hq hc => heap_alloc_old w.drew _ _ hq) s3 rfl rfl rfl⟩
              injection hav with hav
              subst hav
              refine .sl ⟨some w.heap.size, zz, s.n + tq.n, nc, false⟩ (by simp) (Nat.le_refl _) ⟨_, _, rfl⟩ fun _ => ⟨by simp, fun h => by simp at h, fun q hq => ?_⟩
              simp only [Option.some.injEq] at hq
              subst hq
              exact ⟨0, nc, rfl, hnc, fun _ => by simp, fun _ => ⟨rfl, rfl⟩⟩
      · cases hv
end
end Go.Abs
