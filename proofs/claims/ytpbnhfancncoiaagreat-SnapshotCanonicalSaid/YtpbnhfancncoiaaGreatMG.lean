/- A part of the proof: contracts of functions that the statement reaches. -/
import Derived.Test.YtpbnhfancncoiaaGreatMF
import Derived.Laws.Strings
import Derived.Below
set_option linter.unusedSimpArgs false
set_option linter.unusedVariables false
set_option linter.unnecessarySimpa false
set_option maxRecDepth 100000
set_option maxHeartbeats 2000000
section
namespace Go.Abs
open Go.Proofs
open Api
def fewP (c : Contact) : Bool := decide (c.Manifold.Points.length ≤ 6)
def few (l : List Contact) : Bool := l.all fewP && decide (l.length ≤ 40)
theorem s_r27_FewPoints (l : List Contact) (hl : l.length ≤ 1048576) : CallsA Tryz.prog F_r27_FewPoints [encD 7 Contact.enc default l] [] (.sc (.bool (few l))) [] := by
  refine en1 hm shOk Tryz.func15 rfl rfl ?_
  simp only [go_sem]
  refine Wpi_loop hm (ι := {i : Nat // i ≤ l.length ∧ (l.take i).all fewP = true}) (fun i => [(0, .share, encD 7 Contact.enc default l), (3, .share, .sc (.int .i64 i.1))])
    (fun i => []) (fun i => l.length - i.1) ⟨0, by omega, rfl⟩ ?_ ?_
  · refine weakE_of [] [] (by simp) (by simp [assoc]) (by simp) ?_
    simp only [go_sem]
  · rintro ⟨i, hi, ht⟩
    simp only [go_sem]
    split
    · rename_i hlt
      have hlt : i < l.length := by omega
      refine ⟨ok_, ?_⟩
      by_cases he : (l.getD i default).Manifold.Points.length ≤ 6
      · rw [if_neg (by omega)]
        refine loop_next ⟨i + 1, by omega, l_all_succ default ht hlt (decide_eq_true he)⟩ (by show l.length - (i + 1) < l.length - i; omega) (weakE_of [] [] (by simp) (by simp [assoc]) (by simp) ?_)
        simp only [go_sem]
        exact (by rw [IntKind.wrap_i64]; omega)
      · rw [if_pos (by omega)]
        unfold few
        rw [l_all_false default hlt (decide_eq_false he)]; rfl
    · rename_i hge
      have hil : i = l.length := by omega
      subst hil
      unfold few
      rw [l_all_end ht, Bool.true_and]
      exact decide_eq_decide.2 (by omega)
def smallF (f : Fixture) : Bool := decide (f.Shape.Vertices.length ≤ 10)
def smallB (b : Body) : Bool := decide (b.Fixtures.length ≤ 4) && b.Fixtures.all smallF
def isSmall (w : Api.World) : Bool := decide (w.Bodies.length ≤ 8) && decide (w.Joints.length ≤ 8) && decide (w.Contacts.length ≤ 20) && decide (w.Overlaps.length ≤ 20) && decide (w.Settings.Iterations ≤ 16) && (w.Bodies.all smallB && few w.Contacts)
theorem isSmall_sm {w : Api.World} (h : isSmall w = true) : Wsm w := by
  simp only [isSmall, few, Bool.and_eq_true, decide_eq_true_eq] at h
  obtain ⟨⟨⟨⟨⟨h1, h2⟩, h3⟩, h4⟩, _⟩, h5, h6, _⟩ := h
  refine ⟨by omega, by omega, by omega, by omega, fun b hb => ?_, fun c hc => ?_⟩
  · have := List.all_eq_true.1 h5 b hb
    simp only [smallB, Bool.and_eq_true, decide_eq_true_eq] at this
    refine ⟨by omega, fun f hf => ?_⟩
    have := List.all_eq_true.1 this.2 f hf
    simp only [smallF, decide_eq_true_eq] at this
    unfold Fixture.sm Shape.sm; omega
  · have := List.all_eq_true.1 h6 c hc
    simp only [fewP, decide_eq_true_eq] at this
    unfold Manifold.sm; omega
theorem s_r27_IsSmall (w : Api.World) : CallsA Tryz.prog F_r27_IsSmall [.agg w.enc] [] (.sc (.bool (isSmall w))) [] := by
  refine en1 hm shOk Tryz.func6 rfl rfl ?_
  simp only [go_sem]
  by_cases hc : w.Bodies.length ≤ 8 ∧ w.Joints.length ≤ 8 ∧ w.Contacts.length ≤ 20 ∧ w.Overlaps.length ≤ 20 ∧ w.Settings.Iterations ≤ 16
  · obtain ⟨c1, c2, c3, c4, c5⟩ := hc
    have hsm : isSmall w = (w.Bodies.all smallB && few w.Contacts) := by simp [isSmall, c1, c2, c3, c4, c5]
    rw [hsm]
    rw [if_neg (by simp; omega)]
    refine Wpi_loop hm (ι := {i : Nat // i ≤ w.Bodies.length ∧ (w.Bodies.take i).all smallB = true}) (fun i => [(1, .share, .ptr 32 0 0 1), (3, .share, .sc (.int .i64 i.1))])
      (fun i => [(32, .box w.enc)]) (fun i => w.Bodies.length - i.1) ⟨0, by omega, rfl⟩ ?_ ?_
    · refine weakE_of [] [] (by simp) (by simp [assoc]) (by simp) ?_
      simp only [go_sem]
    · rintro ⟨i, hi, ht⟩
      simp only [go_sem]
      split
      · rename_i hlt
        have hlt : i < w.Bodies.length := by omega
        refine ⟨ok_, ?_⟩
        by_cases he : (w.Bodies.getD i default).Fixtures.length ≤ 4
        · rw [if_neg (by omega)]
          refine Wpi_loop hm (ι := {k : Nat // k ≤ (w.Bodies.getD i default).Fixtures.length ∧ ((w.Bodies.getD i default).Fixtures.take k).all smallF = true}) (fun k => [(1, .share, .ptr 32 0 0 1), (3, .share, .sc (.int .i64 i)), (4, .share, .sc (.int .i64 k.1))])
            (fun i => [(32, .box w.enc)]) (fun k => (w.Bodies.getD i default).Fixtures.length - k.1) ⟨0, by omega, rfl⟩ ?_ ?_
          · refine weakE_of [] [] (by simp) (by simp [assoc]) (by simp) ?_
            simp only [go_sem]
          · rintro ⟨k, hk, hkt⟩
            simp only [go_sem]
            refine ⟨ok_, ?_⟩
            split
            · rename_i hklt
              have hklt : k < (w.Bodies.getD i default).Fixtures.length := by omega
              refine ⟨ok_, ok_, ?_⟩
              by_cases hf : ((w.Bodies.getD i default).Fixtures.getD k default).Shape.Vertices.length ≤ 10
              · rw [if_neg (by omega)]
                refine loop_next ⟨k + 1, by omega, l_all_succ default hkt hklt (decide_eq_true hf)⟩ (by show (w.Bodies.getD i default).Fixtures.length - (k + 1) < (w.Bodies.getD i default).Fixtures.length - k; omega) (weakE_of [] [] (by simp) (by simp [assoc]) (by simp) ?_)
                simp only [go_sem]
                exact (by rw [IntKind.wrap_i64]; omega)
              · rw [if_pos (by omega)]
                have : smallB (w.Bodies.getD i default) = false := by unfold smallB; rw [l_all_false default hklt (decide_eq_false hf)]; simp
                rw [l_all_false default hlt this]; rfl
            · rename_i hge
              have hil : k = (w.Bodies.getD i default).Fixtures.length := by omega
              subst hil
              have hb : smallB (w.Bodies.getD i default) = true := by unfold smallB; rw [l_all_end hkt, decide_eq_true he]; rfl
              refine loop_next ⟨i + 1, by omega, l_all_succ default ht hlt hb⟩ (by show w.Bodies.length - (i + 1) < w.Bodies.length - i; omega) (weakE_of [] [] (by simp) (by simp [assoc]) (by simp) ?_)
              simp only [go_sem]
              exact (by rw [IntKind.wrap_i64]; omega)
        · rw [if_pos (by omega)]
          have : smallB (w.Bodies.getD i default) = false := by unfold smallB; rw [decide_eq_false he]; rfl
          rw [l_all_false default hlt this]; rfl
      · rename_i hge
        have hil : i = w.Bodies.length := by omega
        subst hil
        rw [l_all_end ht, Bool.true_and]
        refine CallGi_flat (s_r27_FewPoints w.Contacts (by omega)) rfl ?_
        simp only [go_sem]
  · have hsm : isSmall w = false := by
      rw [← Bool.not_eq_true]; intro h; apply hc
      simp only [isSmall, Bool.and_eq_true, decide_eq_true_eq] at h
      omega
    rw [hsm]
    rw [if_pos (by simp; omega)]
end Go.Abs
end
section
namespace Go.Abs
open Go.Proofs
open Api
def u8s (l : List Int) : List UInt8 := l.map fun k => UInt8.ofNat k.toNat
theorem strB_list {n : Nat} {g : Nat → List AV} {l : List Int} (hn : n = l.length) (hg : ∀ i, i < n → g i = encU8 (l.getD i 0)) : (strB ⟨n, g⟩).toList = u8s l := by
  rw [ByteArray.toList_eq]
  show (((List.range n).map fun i => byteOf (g i)).toArray).toList = _
  subst hn
  refine List.ext_getElem (by simp [u8s]) fun i h1 h2 => ?_
  have hi : i < l.length := by simpa [u8s] using h2
  simp only [List.toList_toArray, List.getElem_map, List.getElem_range, u8s]
  rw [hg i hi]
  have : l.getD i 0 = l[i] := by simp [List.getD, hi]
  rw [this]; rfl
theorem u8s_inj : ∀ {l m : List Int}, bytes l → bytes m → u8s l = u8s m → l = m
  | [], [], _, _, _ => rfl
  | [], _ :: _, _, _, h => by simp [u8s] at h
  | _ :: _, [], _, _, h => by simp [u8s] at h
  | a :: l, b :: m, hl, hm', h => by
    simp only [u8s, List.map_cons, List.cons.injEq] at h
    have ha := hl a (List.mem_cons_self ..)
    have hb := hm' b (List.mem_cons_self ..)
    have e : a = b := by
      have := congrArg UInt8.toNat h.1
      simp only [UInt8.toNat_ofNat'] at this
      omega
    rw [e, u8s_inj (fun x hx => hl x (List.mem_cons_of_mem _ hx)) (fun x hx => hm' x (List.mem_cons_of_mem _ hx)) h.2]
theorem u8s_beq {l m : List Int} (hl : bytes l) (hm' : bytes m) : (u8s l == u8s m) = decide (l = m) := by
  rw [Bool.eq_iff_iff, beq_iff_eq, decide_eq_true_eq]
  exact ⟨u8s_inj hl hm', fun h => by rw [h]⟩
theorem crc_bytes (n : Nat) : bytes (crcBytes n) := by
  intro x hx
  simp only [crcBytes, List.mem_cons, List.not_mem_nil, or_false] at hx
  rcases hx with rfl | rfl | rfl | rfl <;> omega
theorem seal_bytes {l : List Int} (h : bytes l) : bytes (sealB l) := by
  intro x hx
  rcases List.mem_append.1 hx with hx | hx
  · exact h x hx
  · exact crc_bytes _ x hx
theorem take_bytes {l : List Int} {n : Nat} (h : bytes l) : bytes (l.take n) := fun x hx => h x (List.mem_of_mem_take hx)
theorem take_getD {l : List Int} {n i : Nat} (h : i < n) : (l.take n).getD i 0 = l.getD i 0 := by
  simp only [List.getD, List.getElem?_take, h, if_true]
def opR (b : List Int) : Except Int (List Int) :=
  if b.length < 4 then .error 4 else if sealB (b.take (b.length - 4)) = b then .ok (b.take (b.length - 4)) else .error 22
def t2l (r : Except Int (List Int)) : List Int × Int := match r with | .ok x => (x, 0) | .error e => ([], e)
theorem s_checksum_Open (b : List Int) (hb : b.length ≤ 900000000) (hB : bytes b) : CallsA Tryz.prog F_checksum_Open [encD 1 encU8 0 b] [] (.tup [encD 1 encU8 0 (t2l (opR b)).1, .sc (.int .i64 (t2l (opR b)).2)]) [] := by
  refine enT hm shOk Tryz.func30 rfl rfl ?_
  simp only [go_sem]
  have w1 : IntKind.i64.wrap ((b.length : Int) - 4) = (b.length : Int) - 4 := by rw [IntKind.wrap_i64]; omega
  rw [w1]
  by_cases h0 : b.length < 4
  · have hr : opR b = .error 4 := by unfold opR; rw [if_pos h0]
    rw [if_pos (by omega), hr]
    simp only [t2l, go_sem]
    exact avle_nilD rfl
  rw [if_neg (by omega)]
  obtain ⟨n, hn⟩ : ∃ n, b.length = n + 4 := ⟨b.length - 4, by omega⟩
  have e1 : (b.length : Int) - 4 = n := by omega
  have e2 : b.length - 4 = n := by omega
  rw [e1]
  have hl : (b.take n).length = n := by rw [List.length_take]; omega
  simp only [Option.toList_some, Option.toList_none, Int.sub_zero, Int.toNat_natCast, go_sem]
  refine ⟨by omega, ?_⟩
  refine CallGi_thaw (s_checksum_Seal (b.take n) (by omega)) ?_
  simp only [argsC, go_sem]
  have hB1 := seal_bytes (take_bytes (n := n) hB)
  have d1 : (strB (encQ encU8 0 (sealB (b.take n)))).toList = u8s (sealB (b.take n)) := strB_list rfl fun _ _ => rfl
  have d2 : (strB (encQ encU8 0 b)).toList = u8s b := strB_list rfl fun _ _ => rfl
  rw [d1, d2, u8s_beq hB1 hB]
  refine ⟨dslv hl.symm (by rw [List.length_take] at hl; exact hl) (fun i hi => by rw [take_getD hi]), fun i _ => ⟨_, rfl⟩, fun i _ => ⟨_, rfl⟩, ?_⟩
  by_cases he : sealB (b.take n) = b
  · have hr : opR b = .ok (b.take n) := by unfold opR; rw [if_neg h0, e2, if_pos he]
    rw [if_neg (by simpa using he), hr]
    refine ⟨by omega, by simp only [maxLen]; omega, dslv (l := b.take n) (by omega) (by show (b.take n).length = _; omega) (fun i hi => by rw [take_getD (by omega)]), rfl⟩
  · have hr : opR b = .error 22 := by unfold opR; rw [if_neg h0, e2, if_neg he]
    rw [if_pos (by simpa using he), hr]
    exact ⟨avle_nilD rfl, rfl⟩
end Go.Abs
end
section
namespace Go.Abs
open Go.Proofs
open Api
theorem rN_all {α : Type} {p : Int → Except Int (α × Int)} {Q : α → Prop} (hp : ∀ t x t', p t = .ok (x, t') → Q x) (t : Int) : ∀ n l t', rN p t n = .ok (l, t') → ∀ x ∈ l, Q x
  | 0, l, t', h, x, hx => by cases h; cases hx
  | n + 1, l, t', h, x, hx => by
    simp only [rN] at h
    split at h
    · cases h
    · rename_i y hy
      split at h
      · cases h
      · rename_i z hz
        cases h
        rcases List.mem_append.1 hx with hx | hx
        · exact rN_all hp t n _ _ hy x hx
        · obtain rfl := List.mem_singleton.1 hx
          exact hp _ _ _ hz
theorem rSl_all {α : Type} {p : Int → Except Int (α × Int)} {b : List Int} {Q : α → Prop} (hp : ∀ t x t', p t = .ok (x, t') → Q x) {t t' : Int} {l : List α} (h : rSl p b t = .ok (l, t')) : (∀ x ∈ l, Q x) ∧ l.length ≤ 8192 := by
  unfold rSl at h
  split at h
  · cases h
  · rename_i x hx
    obtain ⟨h1, h2, h3⟩ := rLen_ok hx
    have hl := rN_len h
    simp only at hl
    exact ⟨rN_all hp _ _ _ _ h, by omega⟩
theorem rFixture_sm {b : List Int} {t t' : Int} {x : Fixture} (h : rFixture b t = .ok (x, t')) : Fixture.sm x := by
  unfold rFixture at h
  obtain ⟨x0, t0, h0, h⟩ := RB_ok h
  obtain ⟨x1, t1, h1, h⟩ := RB_ok h
  obtain ⟨x2, t2, h2, h⟩ := RB_ok h
  obtain ⟨x3, t3, h3, h⟩ := RB_ok h
  obtain ⟨x4, t4, h4, h⟩ := RB_ok h
  obtain ⟨x5, t5, h5, h⟩ := RB_ok h
  obtain ⟨x6, t6, h6, h⟩ := RB_ok h
  obtain ⟨x7, t7, h7, h⟩ := RB_ok h
  obtain ⟨x8, t8, h8, h⟩ := RB_ok h
  obtain ⟨x9, t9, h9, h⟩ := RB_ok h
  cases h
  have := (rSl_all (Q := fun _ => True) (fun _ _ _ _ => trivial) h2).2
  show x2.length ≤ 1048576
  omega
theorem rBody_sm {b : List Int} {t t' : Int} {x : Body} (h : rBody b t = .ok (x, t')) : Body.sm x := by
  unfold rBody at h
  obtain ⟨x0, t0, h0, h⟩ := RB_ok h
  obtain ⟨x1, t1, h1, h⟩ := RB_ok h
  obtain ⟨x2, t2, h2, h⟩ := RB_ok h
  obtain ⟨x3, t3, h3, h⟩ := RB_ok h
  obtain ⟨x4, t4, h4, h⟩ := RB_ok h
  obtain ⟨x5, t5, h5, h⟩ := RB_ok h
  obtain ⟨x6, t6, h6, h⟩ := RB_ok h
  obtain ⟨x7, t7, h7, h⟩ := RB_ok h
  obtain ⟨x8, t8, h8, h⟩ := RB_ok h
  obtain ⟨x9, t9, h9, h⟩ := RB_ok h
  obtain ⟨x10, t10, h10, h⟩ := RB_ok h
  obtain ⟨x11, t11, h11, h⟩ := RB_ok h
  obtain ⟨x12, t12, h12, h⟩ := RB_ok h
  obtain ⟨x13, t13, h13, h⟩ := RB_ok h
  obtain ⟨x14, t14, h14, h⟩ := RB_ok h
  obtain ⟨x15, t15, h15, h⟩ := RB_ok h
  obtain ⟨x16, t16, h16, h⟩ := RB_ok h
  cases h
  obtain ⟨k1, k2⟩ := rSl_all (Q := Fixture.sm) (fun _ _ _ h => rFixture_sm h) h16
  exact ⟨by show x16.length ≤ 1048576; omega, k1⟩
theorem rContact_sm {b : List Int} {t t' : Int} {x : Contact} (h : rContact b t = .ok (x, t')) : Manifold.sm x.Manifold := by
  unfold rContact at h
  obtain ⟨x0, t0, h0, h⟩ := RB_ok h
  obtain ⟨x1, t1, h1, h⟩ := RB_ok h
  obtain ⟨x2, t2, h2, h⟩ := RB_ok h
  cases h
  have := (rSl_all (Q := fun _ => True) (fun _ _ _ _ => trivial) h2).2
  show x2.length ≤ 1048576
  omega
theorem bytes_of {b : List Int} (h : ∀ a ∈ b, (Lit.int .u8 a).wf = true) : bytes b := fun a ha => by
  have h := h a ha
  simp only [Lit.wf, IntKind.min, IntKind.max, Bool.and_eq_true, decide_eq_true_eq] at h
  simp [IntKind.bits, IntKind.signed] at h
  omega
end Go.Abs
end
section
namespace Go.Abs
open Go.Proofs
open Api
theorem rWorld_sm {b : List Int} {t t' : Int} {x : Api.World} (h : rWorld b t = .ok (x, t')) : Wsm x := by
  unfold rWorld at h
  obtain ⟨x0, t0, h0, h⟩ := RB_ok h
  obtain ⟨x1, t1, h1, h⟩ := RB_ok h
  obtain ⟨x2, t2, h2, h⟩ := RB_ok h
  obtain ⟨x3, t3, h3, h⟩ := RB_ok h
  obtain ⟨x4, t4, h4, h⟩ := RB_ok h
  obtain ⟨x5, t5, h5, h⟩ := RB_ok h
  obtain ⟨x6, t6, h6, h⟩ := RB_ok h
  obtain ⟨x7, t7, h7, h⟩ := RB_ok h
  obtain ⟨x8, t8, h8, h⟩ := RB_ok h
  obtain ⟨x9, t9, h9, h⟩ := RB_ok h
  cases h
  obtain ⟨k1, k2⟩ := rSl_all (Q := Body.sm) (fun _ _ _ h => rBody_sm h) h4
  obtain ⟨l1, _⟩ := rSl_all (Q := fun _ => True) (fun _ _ _ _ => trivial) h5
  obtain ⟨m1, m2⟩ := rSl_all (Q := fun c => Manifold.sm c.Manifold) (fun _ _ _ h => rContact_sm h) h6
  obtain ⟨n1, _⟩ := rSl_all (Q := fun _ => True) (fun _ _ _ _ => trivial) h7
  exact ⟨by show x4.length ≤ _; omega, by show x5.length ≤ _; omega, by show x6.length ≤ _; omega, by show x7.length ≤ _; omega, k1, m1⟩
def decR (b : List Int) : Api.World × Int := match opR b with
  | .error e => (default, e)
  | .ok c => match rWorld c 0 with
    | .error e => (default, e)
    | .ok x => if x.2 < (c.length : Int) then (default, 3) else if d_world_Validate x.1 = 0 then (x.1, 0) else (default, 18)
theorem opR_ok {b c : List Int} (h : opR b = .ok c) : 4 ≤ b.length ∧ c = b.take (b.length - 4) ∧ sealB c = b := by
  unfold opR at h
  split at h
  · cases h
  · split at h
    · rename_i h1 h2; cases h; exact ⟨by omega, rfl, h2⟩
    · cases h
theorem opR_err {b : List Int} {e : Int} (h : opR b = .error e) : e ≠ 0 := by
  unfold opR at h
  split at h
  · cases h; decide
  · split at h
    · cases h
    · cases h; decide
theorem s_snapshot_Decode (b : List Int) (hb : b.length ≤ 900000000) (hB : bytes b) : CallsA Tryz.prog F_snapshot_Decode [encD 1 encU8 0 b] [] (.tup [.agg (decR b).1.enc, .sc (.int .i64 (decR b).2)]) [] := by
  have h1 := s_checksum_Open b hb hB
  refine enRT 40 [(2, some (some 11)), (3, none)] hm shOk Tryz.func10 rfl ?_
  simp only [go_sem]
  cases ho : opR b with
  | error e =>
    have he := opR_err ho
    have hd : decR b = (default, e) := by unfold decR; rw [ho]
    have hne : (e != 0) = true := by simpa using he
    rw [ho] at h1
    simp only [t2l] at h1
    refine CallGi_flat h1 rfl ?_
    simp only [hd, hne, go_sem]
    first | done | (try simp only [go_sem]) <;> ((repeat' (with_reducible apply And.intro)) <;> first | rfl | exact avle_nilD rfl | exact avle_refl _)
  | ok c =>
    obtain ⟨hc1, hc2, hc3⟩ := opR_ok ho
    have hcl : c.length ≤ 549755813888 := by rw [hc2, List.length_take]; omega
    have hcB : bytes c := by rw [hc2]; exact take_bytes hB
    rw [ho] at h1
    simp only [t2l] at h1
    refine CallGi_flat h1 rfl ?_
    simp only [n00, go_sem]
    have h2 := s_decodeAt_World c 0 F_snapshot_decoder_world (rWorld c) (fun t => s_dec_world c t hcl hcB) (nerr_World c)
    cases hr : rWorld c 0 with
    | error e =>
      have he := nerr_World c _ _ hr
      have hd : decR b = (default, e) := by unfold decR; rw [ho]; simp only [hr]
      have hne : (e != 0) = true := by simpa using he
      rw [hr] at h2
      simp only [t3d] at h2
      refine CallGi_flat h2 rfl ?_
      simp only [hd, hne, go_sem]
      first | done | (try simp only [go_sem]) <;> ((repeat' (with_reducible apply And.intro)) <;> first | rfl | exact avle_nilD rfl | exact avle_refl _)
    | ok x =>
      have hsm := rWorld_sm (t' := x.2) (x := x.1) hr
      rw [hr] at h2
      simp only [t3d] at h2
      refine CallGi_flat h2 rfl ?_
      simp only [n00, go_sem]
      by_cases hlt : x.2 < (c.length : Int)
      · have hd : decR b = (default, 3) := by unfold decR; rw [ho]; simp only [hr, if_pos hlt]
        rw [if_pos hlt]
        simp only [hd, go_sem]
        first | done | (try simp only [go_sem]) <;> ((repeat' (with_reducible apply And.intro)) <;> first | rfl | exact avle_nilD rfl | exact avle_refl _)
      · rw [if_neg hlt]
        skip
        refine CallGi_flat (s_world_Validate x.1 hsm) rfl ?_
        simp only [go_sem]
        by_cases hv : d_world_Validate x.1 = 0
        · have hd : decR b = (x.1, 0) := by unfold decR; rw [ho]; simp only [hr, if_neg hlt, if_pos hv]
          rw [if_neg (by simpa using hv)]
          simp only [hd, go_sem]
          first | done | (try simp only [go_sem]) <;> ((repeat' (with_reducible apply And.intro)) <;> first | rfl | exact avle_nilD rfl | exact avle_refl _)
        · have hd : decR b = (default, 18) := by unfold decR; rw [ho]; simp only [hr, if_neg hlt, if_neg hv]
          rw [if_pos (by simpa using hv)]
          simp only [hd, go_sem]
          first | done | (try simp only [go_sem]) <;> ((repeat' (with_reducible apply And.intro)) <;> first | rfl | exact avle_nilD rfl | exact avle_refl _)
end Go.Abs
end
section
namespace Go.Abs
open Go.Proofs
open Api
theorem isSmall_few {w : Api.World} (h : isSmall w = true) : Wfew w := by
  simp only [isSmall, few, Bool.and_eq_true, decide_eq_true_eq] at h
  obtain ⟨⟨⟨⟨⟨h1, h2⟩, h3⟩, h4⟩, _⟩, h5, h6, _⟩ := h
  refine ⟨by omega, fun b hb => ?_, by omega, by omega, fun c hc => ?_, by omega⟩
  · have := List.all_eq_true.1 h5 b hb
    simp only [smallB, Bool.and_eq_true, decide_eq_true_eq] at this
    refine ⟨by omega, fun f hf => ?_⟩
    have := List.all_eq_true.1 this.2 f hf
    simp only [smallF, decide_eq_true_eq] at this
    omega
  · have := List.all_eq_true.1 h6 c hc
    simp only [fewP, decide_eq_true_eq] at this
    omega
theorem CallGi_skip5 {P : Program} {m : Nat → Option AObj} {f : FuncId} {avs : List AV} {b : Bool} {Q : ContR} (hb : b = false) (r : AV) (hK : @Ri Q b ⟨some r, []⟩) : @CallGi P m f avs b Q :=
  ⟨⟨some r, []⟩, fun h => (by rw [hb] at h; cases h), fun h => absurd rfl h, hK⟩
theorem i_beqT (a : Int) : (a == a) = true := by simp
theorem l_beqT (a : List UInt8) : (a == a) = true := by simp
end Go.Abs
end
section
namespace Go.Abs
open Go.Proofs
open Api
theorem foldl_beU (l : List Int) : ∀ a : Int, l.foldl (fun u c => u * 256 + c) a = a * 256 ^ l.length + beU l := by
  induction l with
  | nil => intro a; simp [beU]
  | cons c l ih =>
    intro a
    have h := ih (a * 256 + c)
    have h0 := ih (0 * 256 + c)
    unfold beU
    simp only [List.foldl_cons, List.length_cons, Int.pow_succ]
    rw [h, h0, Int.add_mul, Int.zero_mul, Int.zero_add, Int.mul_assoc, Int.mul_comm 256, Int.add_assoc]
theorem beU_cons (c : Int) (l : List Int) : beU (c :: l) = c * 256 ^ l.length + beU l := by
  have := foldl_beU l (0 * 256 + c)
  rw [Int.zero_mul, Int.zero_add] at this
  unfold beU at *
  simpa using this
theorem pow256 (k : Nat) : ((256 : Int) ^ k) = ((256 ^ k : Nat) : Int) := by simp
theorem beU_lowD (u : Nat) : ∀ k, beU (lowD u k) = ((u % 256 ^ k : Nat) : Int)
  | 0 => by simp [lowD, beU, Nat.mod_one]
  | k + 1 => by
    rw [lowD, beU_cons, lowD_len, beU_lowD u k, pow256, Nat.pow_succ, Nat.mod_mul, Nat.mul_comm (256 ^ k)]
    omega
theorem lowD_congr : ∀ (k : Nat) {u v : Nat}, u % 256 ^ k = v % 256 ^ k → lowD u k = lowD v k
  | 0, _, _, _ => rfl
  | k + 1, u, v, h => by
    rw [Nat.pow_succ, Nat.mod_mul, Nat.mod_mul] at h
    have hp : 0 < 256 ^ k := Nat.pow_pos (by decide)
    have h1 : u % 256 ^ k = v % 256 ^ k := by
      have := congrArg (· % 256 ^ k) h
      simpa [Nat.add_mul_mod_self_left] using this
    have h2 : u / 256 ^ k % 256 = v / 256 ^ k % 256 := by
      rw [h1] at h
      exact Nat.eq_of_mul_eq_mul_left hp (Nat.add_left_cancel h)
    rw [lowD, lowD, h2, lowD_congr k h1]
theorem lowD_beU : ∀ {l : List Int}, bytes l → lowD (beU l).toNat l.length = l
  | [], _ => rfl
  | c :: l, h => by
    have hc := h c (List.mem_cons_self ..)
    have hl : bytes l := fun x hx => h x (List.mem_cons_of_mem _ hx)
    have hr := beU_range hl l.length (Nat.le_refl _)
    rw [List.take_length] at hr
    have ih := lowD_beU hl
    rw [beU_cons, List.length_cons, lowD]
    obtain ⟨n, rfl⟩ := Int.eq_ofNat_of_zero_le hc.1
    obtain ⟨v, hv⟩ := Int.eq_ofNat_of_zero_le hr.1
    rw [hv] at hr ih ⊢
    rw [pow256] at hr ⊢
    have hp : 0 < 256 ^ l.length := Nat.pow_pos (by decide)
    have hvl : v < 256 ^ l.length := by omega
    have e : ((n : Int) * ((256 ^ l.length : Nat) : Int) + (v : Int)).toNat = v + 256 ^ l.length * n := by
      rw [← Int.natCast_mul, ← Int.natCast_add, Int.toNat_natCast, Nat.mul_comm, Nat.add_comm]
    rw [e, Nat.add_mul_div_left _ _ hp, Nat.div_eq_of_lt hvl, Nat.zero_add, Nat.mod_eq_of_lt (by omega)]
    rw [lowD_congr l.length (v := v) (by rw [Nat.add_mul_mod_self_left])]
    rw [Int.toNat_natCast] at ih
    rw [ih]
theorem ndig_ex (u : Nat) (hu : u < 18446744073709551616) : ∃ k, k ≤ 8 ∧ u < 256 ^ k ∧ ∀ j, j < k → 256 ^ j ≤ u := by
  by_cases h0 : u < 256 ^ 0
  · exact ⟨0, by omega, h0, fun j hj => by omega⟩
  by_cases h1 : u < 256 ^ 1
  · exact ⟨1, by omega, h1, fun j hj => by obtain rfl : j = 0 := by omega
                                           omega⟩
  by_cases h2 : u < 256 ^ 2
  · exact ⟨2, by omega, h2, fun j hj => by
      have hc : j = 0 ∨ j = 1 := by omega
      rcases hc with rfl | rfl <;> omega⟩
  by_cases h3 : u < 256 ^ 3
  · exact ⟨3, by omega, h3, fun j hj => by
      have hc : j = 0 ∨ j = 1 ∨ j = 2 := by omega
      rcases hc with rfl | rfl | rfl <;> omega⟩
  by_cases h4 : u < 256 ^ 4
  · exact ⟨4, by omega, h4, fun j hj => by
      have hc : j = 0 ∨ j = 1 ∨ j = 2 ∨ j = 3 := by omega
      rcases hc with rfl | rfl | rfl | rfl <;> omega⟩
  by_cases h5 : u < 256 ^ 5
  · exact ⟨5, by omega, h5, fun j hj => by
      have hc : j = 0 ∨ j = 1 ∨ j = 2 ∨ j = 3 ∨ j = 4 := by omega
      rcases hc with rfl | rfl | rfl | rfl | rfl <;> omega⟩
  by_cases h6 : u < 256 ^ 6
  · exact ⟨6, by omega, h6, fun j hj => by
      have hc : j = 0 ∨ j = 1 ∨ j = 2 ∨ j = 3 ∨ j = 4 ∨ j = 5 := by omega
      rcases hc with rfl | rfl | rfl | rfl | rfl | rfl <;> omega⟩
  by_cases h7 : u < 256 ^ 7
  · exact ⟨7, by omega, h7, fun j hj => by
      have hc : j = 0 ∨ j = 1 ∨ j = 2 ∨ j = 3 ∨ j = 4 ∨ j = 5 ∨ j = 6 := by omega
      rcases hc with rfl | rfl | rfl | rfl | rfl | rfl | rfl <;> omega⟩
  by_cases h8 : u < 256 ^ 8
  · exact ⟨8, by omega, h8, fun j hj => by
      have hc : j = 0 ∨ j = 1 ∨ j = 2 ∨ j = 3 ∨ j = 4 ∨ j = 5 ∨ j = 6 ∨ j = 7 := by omega
      rcases hc with rfl | rfl | rfl | rfl | rfl | rfl | rfl | rfl <;> omega⟩
  · exact absurd hu (by omega)
theorem ndig_of {u k : Nat} (hk : k ≤ 8) (h1 : u < 256 ^ k) (h2 : ∀ j, j < k → 256 ^ j ≤ u) : ndig u = k :=
  ndig_eq hk (fun j hj => Nat.div_pos (h2 j hj) (Nat.pow_pos (by decide))) (Nat.div_eq_of_lt h1)
theorem mag_of {n : Int} (h : fits n) : (mag n : Int) = if n < 0 then -n else n := by
  unfold fits at h; unfold mag
  split <;> omega
end Go.Abs
end
section
namespace Go.Abs
open Go.Proofs
open Api
def RT {α : Type} (p : List Int → Int → Except Int (α × Int)) (f : α → List Int) (Ok : α → Prop) : Prop :=
  ∀ pre post x, Ok x → p (pre ++ (f x ++ post)) (pre.length : Nat) = .ok (x, ((pre.length + (f x).length : Nat) : Int))
def CN {α : Type} (p : List Int → Int → Except Int (α × Int)) (f : α → List Int) : Prop :=
  ∀ b t x t', bytes b → p b t = .ok (x, t') → ∃ pre post, b = pre ++ (f x ++ post) ∧ t = (pre.length : Nat) ∧ t' = ((pre.length + (f x).length : Nat) : Int)
theorem ap_get (pre : List Int) (H : Int) (r : List Int) : (pre ++ H :: r).getD pre.length 0 = H := by simp [List.getD]
theorem ap_drop (pre : List Int) (H : Int) (r : List Int) : (pre ++ H :: r).drop (pre.length + 1) = r := by
  rw [List.drop_append]; simp
theorem ap_get1 (pre : List Int) (H : Int) (r : List Int) : (pre ++ H :: r).getD (pre.length + 1) 0 = r.getD 0 0 := by
  simp [List.getD, List.getElem?_append_right]
theorem get_take0 {r : List Int} {k : Nat} (h : 0 < k) : (r.take k).getD 0 0 = r.getD 0 0 := by
  cases r with
  | nil => simp
  | cons a r => cases k with
    | zero => omega
    | succ k => simp
theorem lowD_first (u k : Nat) : (lowD u (k + 1)).getD 0 0 = ((u / 256 ^ k % 256 : Nat) : Int) := rfl
theorem rt_int : RT rInt intB fits := by
  intro pre post n hn
  have hm1 := mag_of hn
  unfold fits at hn
  obtain ⟨k, hk, h1, h2⟩ := ndig_ex (mag n) (mag_lt n)
  have hd := ndig_of hk h1 h2
  have hl : (digB n).length = k := by unfold digB; rw [lowD_len, hd]
  have hD : digB n = lowD (mag n) k := by unfold digB; rw [hd]
  have hu : beU (digB n) = mag n := by rw [hD, beU_lowD, Nat.mod_eq_of_lt h1]
  have hI : intB n = ((k : Int) + if n < 0 then 16 else 0) :: digB n := by unfold intB; rw [hl]
  have hil : (intB n).length = k + 1 := by rw [hI, List.length_cons, hl]
  have hf : 0 < k → (digB n).getD 0 0 ≠ 0 := fun h0 => by
    obtain ⟨j, rfl⟩ : ∃ j, k = j + 1 := ⟨k - 1, by omega⟩
    rw [hD, lowD_first]
    have := h2 j (by omega)
    have h3 : 0 < mag n / 256 ^ j := Nat.div_pos this (Nat.pow_pos (by decide))
    have h4 : mag n / 256 ^ j < 256 := by rw [Nat.div_lt_iff_lt_mul (Nat.pow_pos (by decide))]; rw [Nat.pow_succ, Nat.mul_comm] at h1; exact h1
    rw [Nat.mod_eq_of_lt h4]; omega
  have hk0 : mag n ≠ 0 → 0 < k := fun h => by
    rcases Nat.eq_zero_or_pos k with h0 | h0
    · rw [h0] at h1; simp at h1; omega
    · exact h0
  rw [hI, List.cons_append, List.length_cons, hl]
  generalize hH : ((k : Int) + if n < 0 then 16 else 0) = H
  unfold rInt
  have hbl : (pre ++ H :: (digB n ++ post)).length = pre.length + 1 + k + post.length := by simp [hl]; omega
  rw [if_neg (by rw [hbl]; omega), if_neg (by rw [hbl]; omega), Int.toNat_natCast, ap_get]
  unfold rBig
  rw [Int.toNat_natCast, ap_drop, ap_get1, hbl]
  by_cases h0 : n < 0
  · rw [if_pos h0] at hH hm1
    have hkp := hk0 (by omega)
    have e1 : H - 16 = k := by omega
    rw [if_pos (show (16 : Int) < H by omega), e1, Int.toNat_natCast, List.take_left' hl, hu]
    have hg : (digB n ++ post).getD 0 0 ≠ 0 := by
      have := hf hkp
      rw [← get_take0 hkp (r := digB n ++ post), List.take_left' hl]; exact this
    rw [if_neg (by omega), if_neg (by omega), if_neg (by
      rintro (⟨_, h⟩ | ⟨h, _⟩ | ⟨_, h⟩)
      · exact hg h
      · simp at h; omega
      · omega)]
    rw [if_pos (by simp; omega)]
    congr 2
    · omega
    · push_cast; omega
  · rw [if_neg h0] at hH hm1
    have e1 : H = k := by omega
    rw [if_neg (show ¬ (16 : Int) < H by omega), e1, Int.toNat_natCast, List.take_left' hl, hu]
    rw [if_neg (by omega), if_neg (by omega), if_neg (by
      rintro (⟨h, h'⟩ | ⟨_, h⟩ | ⟨h, _⟩)
      · have hkp : 0 < k := by omega
        have := hf hkp
        rw [← get_take0 hkp (r := digB n ++ post), List.take_left' hl] at h'; exact this h'
      · omega
      · simp at h; omega)]
    rw [if_neg (by simp; omega)]
    congr 2
    · push_cast; omega
theorem split_at {b : List Int} {t : Int} (h0 : 0 ≤ t) (h1 : t < b.length) : ∃ pre H r, b = pre ++ H :: r ∧ t = (pre.length : Nat) := by
  obtain ⟨n, rfl⟩ := Int.eq_ofNat_of_zero_le h0
  have hn : n < b.length := by omega
  refine ⟨b.take n, b[n], b.drop (n + 1), ?_, by rw [List.length_take]; omega⟩
  rw [← List.drop_eq_getElem_cons hn, List.take_append_drop]
theorem cn_int : CN rInt intB := by
  intro b t n t' hb h
  unfold rInt at h
  split at h
  · cases h
  rename_i h0
  split at h
  · cases h
  rename_i h1
  obtain ⟨pre, H, r, rfl, rfl⟩ := split_at (b := b) (t := t) (by omega) (by omega)
  have hH := hb H (by simp)
  have hr : bytes r := fun x hx => hb x (by simp [hx])
  rw [Int.toNat_natCast, ap_get] at h
  unfold rBig at h
  rw [Int.toNat_natCast, ap_drop, ap_get1] at h
  generalize hk : (if 16 < H then H - 16 else H) = k at h
  obtain ⟨k, rfl⟩ := Int.eq_ofNat_of_zero_le (show 0 ≤ k by split at hk <;> omega)
  have hbl : (pre ++ H :: r).length = pre.length + 1 + r.length := by simp; omega
  split at h
  · cases h
  split at h
  · cases h
  rename_i h8 h9
  split at h
  · cases h
  rename_i hc
  rw [hbl] at h9
  have hkr : k ≤ r.length := by omega
  rw [Int.toNat_natCast] at h hc
  have hD : bytes (r.take k) := take_bytes hr
  have hl : (r.take k).length = k := by rw [List.length_take]; omega
  have hrg := beU_range hD k (by omega)
  rw [List.take_of_length_le (by omega)] at hrg
  have hlow := lowD_beU hD
  rw [hl] at hlow
  have hfirst : 0 < k → r.getD 0 0 ≠ 0 := fun hk0 he => hc (.inl ⟨by omega, he⟩)
  generalize hu : beU (r.take k) = u at *
  obtain ⟨v, rfl⟩ := Int.eq_ofNat_of_zero_le hrg.1
  rw [pow256] at hrg
  rw [Int.toNat_natCast] at hlow
  have hv : v < 256 ^ k := by omega
  have hge : ∀ j, j < k → 256 ^ j ≤ v := fun j hj => by
    obtain ⟨i, rfl⟩ : ∃ i, k = i + 1 := ⟨k - 1, by omega⟩
    have h5 := hfirst (by omega)
    rw [← get_take0 (k := i + 1) (by omega), ← hlow, lowD_first] at h5
    have h6 : 256 ^ i ≤ v := by
      rcases Nat.lt_or_ge v (256 ^ i) with hlt | hge
      · rw [Nat.div_eq_of_lt hlt] at h5; simp at h5
      · exact hge
    exact Nat.le_trans (Nat.pow_le_pow_right (by decide) (by omega)) h6
  have hnd := ndig_of (by omega) hv hge
  have hres : ∀ n : Int, mag n = v → (k : Int) + (if n < 0 then 16 else 0) = H → intB n = H :: r.take k := fun n hm hh => by
    unfold intB digB; rw [hm, hnd, lowD_len, hlow, hh]
  have fin : ∀ n : Int, intB n = H :: r.take k → ∃ pre' post, pre ++ H :: r = pre' ++ (intB n ++ post) ∧ ((pre.length : Nat) : Int) = (pre'.length : Nat) ∧ ((pre.length : Nat) : Int) + 1 + (k : Nat) = ((pre'.length + (intB n).length : Nat) : Int) := fun n e => by
    refine ⟨pre, r.drop k, ?_, rfl, ?_⟩
    · rw [e, List.cons_append, List.take_append_drop]
    · rw [e, List.length_cons, hl]; push_cast; omega
  by_cases h16 : 16 < H
  · rw [if_pos (by simpa using h16)] at h
    rw [if_pos h16] at hk
    have hk0 : 0 < k := by omega
    have hv0 : 0 < v := Nat.lt_of_lt_of_le (Nat.pow_pos (by decide)) (hge 0 hk0)
    have hle : ¬ (9223372036854775808 : Int) < v := fun hh => hc (.inr (.inr ⟨by simpa using h16, hh⟩))
    cases h
    refine fin _ (hres _ ?_ ?_)
    · unfold mag; omega
    · rw [if_pos (by omega)]; omega
  · rw [if_neg (by simpa using h16)] at h
    rw [if_neg h16] at hk
    have hle : ¬ (9223372036854775808 : Int) ≤ v := fun hh => hc (.inr (.inl ⟨by simpa using h16, hh⟩))
    cases h
    refine fin _ (hres _ ?_ ?_)
    · unfold mag; omega
    · rw [if_neg (by omega)]; omega
end Go.Abs
end
section
namespace Go.Abs
open Go.Proofs
open Api
def RTx {β : Type} (r : List Int → Int → Except Int (β × Int)) (y : β) (e : List Int) : Prop :=
  ∀ pre post, r (pre ++ (e ++ post)) (pre.length : Nat) = .ok (y, ((pre.length + e.length : Nat) : Int))
def CNR {β : Type} (r : List Int → Int → Except Int (β × Int)) (R : β → List Int → Prop) : Prop :=
  ∀ pre post y t', bytes (pre ++ post) → r (pre ++ post) (pre.length : Nat) = .ok (y, t') → ∃ e post', post = e ++ post' ∧ t' = ((pre.length + e.length : Nat) : Int) ∧ R y e
theorem rt_x {α : Type} {p : List Int → Int → Except Int (α × Int)} {f : α → List Int} {Ok : α → Prop} (h : RT p f Ok) {x : α} (hx : Ok x) : RTx p x (f x) := fun pre post => h pre post x hx
theorem rt_step {α β : Type} {p : List Int → Int → Except Int (α × Int)} {q : α → List Int → Int → Except Int (β × Int)} {x : α} {y : β} {e1 e2 : List Int} (h : RTx p x e1) (hq : RTx (q x) y e2) :
    RTx (fun b t => RB (p b t) fun x t => q x b t) y (e1 ++ e2) := by
  intro pre post
  have h1 := h pre (e2 ++ post)
  have h2 := hq (pre ++ e1) post
  simp only [List.append_assoc] at h1 h2 ⊢
  rw [h1]
  simp only [RB]
  rw [List.length_append] at h2
  rw [h2]
  simp only [List.length_append]
  rw [Nat.add_assoc]
theorem rt_end {β : Type} {y : β} : RTx (fun _ t => .ok (y, t)) y [] := fun pre post => by simp
theorem cn_step {α β : Type} {p : List Int → Int → Except Int (α × Int)} {q : α → List Int → Int → Except Int (β × Int)} {R1 : α → List Int → Prop} {R : α → β → List Int → Prop} (h : CNR p R1) (hq : ∀ x, CNR (q x) (R x)) :
    CNR (fun b t => RB (p b t) fun x t => q x b t) (fun y e => ∃ x e1 e2, e = e1 ++ e2 ∧ R1 x e1 ∧ R x y e2) := by
  intro pre post y t' hB hr
  obtain ⟨x, t1, h1, h2⟩ := RB_ok hr
  obtain ⟨e1, post1, rfl, rfl, r1⟩ := h _ _ _ _ hB h1
  have e0 : pre ++ (e1 ++ post1) = (pre ++ e1) ++ post1 := (List.append_assoc ..).symm
  rw [e0] at h2 hB
  rw [← List.length_append] at h2
  obtain ⟨e2, post2, rfl, rfl, r2⟩ := hq x _ _ _ _ hB h2
  exact ⟨e1 ++ e2, post2, (List.append_assoc ..).symm, by simp only [List.length_append]; rw [Nat.add_assoc], x, e1, e2, rfl, r1, r2⟩
theorem cn_end {β : Type} {v : β} : CNR (fun _ t => .ok (v, t)) (fun y e => e = [] ∧ y = v) := by
  intro pre post y t' _ h
  cases h
  exact ⟨[], post, rfl, by simp, rfl, rfl⟩
theorem cn_mono {β : Type} {r : List Int → Int → Except Int (β × Int)} {R R' : β → List Int → Prop} (h : CNR r R) (hR : ∀ y e, R y e → R' y e) : CNR r R' := fun pre post y t' hB hr =>
  let ⟨e, post', h1, h2, h3⟩ := h pre post y t' hB hr; ⟨e, post', h1, h2, hR _ _ h3⟩
theorem cnr_int : CNR rInt (fun x e => e = intB x) := by
  intro pre post y t' hB h
  obtain ⟨pre', post', e1, e2, e3⟩ := cn_int _ _ _ _ hB h
  have hl : pre.length = pre'.length := by omega
  obtain ⟨rfl, rfl⟩ := List.append_inj e1 hl
  exact ⟨_, post', rfl, e3, rfl⟩
theorem ap_get2 (pre : List Int) (H : Int) (r : List Int) : (pre ++ ([H] ++ r)).getD pre.length 0 = H := ap_get pre H r
theorem rt_bool : RT rBool boolB (fun _ => True) := by
  intro pre post x _
  unfold rBool rByte boolB
  have hl : (pre ++ ([if x = true then (1 : Int) else 0] ++ post)).length = pre.length + 1 + post.length := by simp; omega
  rw [hl, if_neg (by omega), if_neg (by omega), Int.toNat_natCast, ap_get2]
  cases x <;> simp
theorem cnr_bool : CNR rBool (fun x e => e = boolB x) := by
  intro pre post x t' hB h
  unfold rBool rByte at h
  split at h
  · cases h
  · rename_i c hc
    split at hc
    · cases hc
    · split at hc
      · cases hc
      · rename_i h1 h2
        cases hc
        cases post with
        | nil => simp at h2
        | cons H r =>
          have hH := hB H (by simp)
          rw [Int.toNat_natCast, ap_get] at h
          split at h
          · cases h
          · cases h
            refine ⟨[H], r, rfl, by simp, ?_⟩
            unfold boolB
            by_cases e : H = 1
            · subst e; rfl
            · have : H = 0 := by omega
              subst this; rfl
def Vok (v : Vec) : Prop := fits v.X ∧ fits v.Y
theorem rVec_RB (b : List Int) (t : Int) : rVec b t = RB (rInt b t) fun x t => RB (rInt b t) fun y t => .ok (⟨x, y⟩, t) := by
  unfold rVec RB
  cases rInt b t with
  | error e => rfl
  | ok x => simp only; cases rInt b x.2 <;> rfl
theorem rt_vec : RT rVec vecB Vok := by
  intro pre post v hv
  rw [rVec_RB]
  have := rt_step (q := fun x b t => RB (rInt b t) fun y t => .ok ((⟨x, y⟩ : Vec), t)) (rt_x rt_int hv.1) (rt_step (q := fun y _ t => .ok ((⟨v.X, y⟩ : Vec), t)) (rt_x rt_int hv.2) rt_end) pre post
  rw [List.append_nil] at this
  exact this
theorem cnr_vec : CNR rVec (fun v e => e = vecB v) := by
  intro pre post v t' hB h
  rw [rVec_RB] at h
  obtain ⟨e, post', h1, h2, x, e1, e2, rfl, rfl, y, e3, e4, rfl, rfl, rfl, rfl⟩ := cn_step (q := fun x b t => RB (rInt b t) fun y t => .ok ((⟨x, y⟩ : Vec), t)) cnr_int (fun x => cn_step (q := fun y _ t => .ok ((⟨x, y⟩ : Vec), t)) cnr_int fun y => cn_end) pre post v t' hB h
  refine ⟨_, post', h1, h2, ?_⟩
  rw [List.append_nil]; rfl
theorem rN_cons {α : Type} (p : Int → Except Int (α × Int)) (t : Int) : ∀ n, rN p t (n + 1) = RB (p t) fun y t1 => RB (rN p t1 n) fun l t2 => .ok (y :: l, t2)
  | 0 => by
    simp only [rN]
    cases p t <;> rfl
  | n + 1 => by
    rw [rN, rN_cons p t n]
    cases hp : p t with
    | error e => rfl
    | ok y =>
      simp only [RB]
      rw [rN]
      cases hr : rN p y.2 n with
      | error e => rfl
      | ok l =>
        simp only
        cases p l.2 <;> rfl
theorem rt_N {α : Type} {p : List Int → Int → Except Int (α × Int)} {f : α → List Int} {Ok : α → Prop} (h : RT p f Ok) : ∀ l : List α, (∀ x ∈ l, Ok x) → RTx (fun b t => rN (p b) t l.length) l (l.flatMap f)
  | [], _ => fun pre post => by simp [rN]
  | x :: l, hl => by
    have ih := rt_N h l fun y hy => hl y (List.mem_cons_of_mem _ hy)
    have := rt_step (q := fun y b t => RB (rN (p b) t l.length) fun l t => .ok (y :: l, t)) (rt_x h (hl x (List.mem_cons_self ..))) (rt_step (q := fun l' _ t => .ok (x :: l', t)) ih rt_end)
    intro pre post
    have h2 := this pre post
    rw [List.append_nil] at h2
    simp only [List.length_cons, rN_cons, List.flatMap_cons]
    exact h2
theorem cnr_N {α : Type} {p : List Int → Int → Except Int (α × Int)} {f : α → List Int} (h : CNR p (fun x e => e = f x)) : ∀ n : Nat, CNR (fun b t => rN (p b) t n) (fun l e => e = l.flatMap f ∧ l.length = n)
  | 0 => by
    intro pre post y t' _ h
    cases h
    exact ⟨[], post, rfl, by simp, rfl, rfl⟩
  | n + 1 => by
    intro pre post y t' hB hr
    simp only [rN_cons] at hr
    obtain ⟨e, post', h1, h2, x, e1, e2, rfl, rfl, l, e3, e4, rfl, ⟨rfl, hl⟩, rfl, rfl⟩ := cn_step (q := fun y b t => RB (rN (p b) t n) fun l t => .ok (y :: l, t)) h (fun x => cn_step (q := fun l' _ t => .ok (x :: l', t)) (cnr_N h n) fun l => cn_end) pre post y t' hB hr
    refine ⟨_, post', h1, h2, ?_, by rw [List.length_cons, hl]⟩
    rw [List.append_nil, List.flatMap_cons]
def slB {α : Type} (f : α → List Int) (l : List α) : List Int := intB (l.length : Nat) ++ l.flatMap f
theorem rt_Sl {α : Type} {p : List Int → Int → Except Int (α × Int)} {f : α → List Int} {Ok : α → Prop} (h : RT p f Ok) {l : List α} (hl : ∀ x ∈ l, Ok x) (hn : l.length ≤ 8192) : RTx (fun b t => rSl (p b) b t) l (slB f l) := by
  intro pre post
  have h1 := rt_int pre (l.flatMap f ++ post) (l.length : Nat) (by unfold fits; omega)
  have h2 := rt_N h l hl (pre ++ intB (l.length : Nat)) post
  simp only [slB, List.append_assoc] at h1 h2 ⊢
  unfold rSl rLen
  rw [h1]
  simp only
  rw [if_neg (by omega), if_neg (by omega)]
  simp only [Int.toNat_natCast]
  rw [List.length_append] at h2
  rw [h2, List.length_append, Nat.add_assoc]
theorem cnr_Sl {α : Type} {p : List Int → Int → Except Int (α × Int)} {f : α → List Int} (h : CNR p (fun x e => e = f x)) : CNR (fun b t => rSl (p b) b t) (fun l e => e = slB f l) := by
  intro pre post y t' hB hr
  simp only [rSl] at hr
  split at hr
  · cases hr
  · rename_i x hx
    obtain ⟨h0, h1, h2⟩ := rLen_ok hx
    obtain ⟨n, t1⟩ := x
    simp only at h0 h1 hr
    obtain ⟨m, rfl⟩ := Int.eq_ofNat_of_zero_le h0
    obtain ⟨e1, post1, rfl, rfl, rfl⟩ := cnr_int _ _ _ _ hB h2
    have e0 : pre ++ (intB (m : Int) ++ post1) = (pre ++ intB (m : Int)) ++ post1 := (List.append_assoc ..).symm
    rw [e0] at hr hB
    rw [← List.length_append, Int.toNat_natCast] at hr
    obtain ⟨e2, post2, rfl, rfl, rfl, hl⟩ := cnr_N h m _ _ _ _ hB hr
    refine ⟨intB (m : Int) ++ y.flatMap f, post2, (List.append_assoc ..).symm, by simp only [List.length_append]; rw [Nat.add_assoc], ?_⟩
    show _ = intB (y.length : Nat) ++ _
    rw [hl]
end Go.Abs
end
section
namespace Go.Abs
open Go.Proofs
open Api
def Vec.ok (x : Vec) : Prop := fits x.X ∧ fits x.Y
theorem opens_Vec (W : World) : Opens Tryz.prog W 23 Vec.enc Vec.ok :=
  opens_struct' 2 (fun a : Int × Int × Unit => (⟨a.1, a.2.1⟩ : Vec)) Tryz.underlying23 (by kernel_rfl)
    (opensF_step 3 (opens_i64 Tryz.underlying3) rfl (by kernel_rfl : Tryz.prog.cellsOf 3 = 1) rfl rfl (opensF_step 3 (opens_i64 Tryz.underlying3) rfl (by kernel_rfl : Tryz.prog.cellsOf 3 = 1) rfl rfl opensF_nil)) (fun _ => rfl) (fun a h => ⟨h.1, h.2.1⟩)
def Settings.ok (x : Settings) : Prop := fits x.TimeStep ∧ Vec.ok x.Gravity ∧ fits x.Iterations ∧ fits x.SleepSteps
theorem opens_Settings (W : World) : Opens Tryz.prog W 25 Settings.enc Settings.ok :=
  opens_struct' 5 (fun a : Int × Vec × Int × Int × Unit => (⟨a.1, a.2.1, a.2.2.1, a.2.2.2.1⟩ : Settings)) Tryz.underlying25 (by kernel_rfl)
    (opensF_step 3 (opens_i64 Tryz.underlying3) rfl (by kernel_rfl : Tryz.prog.cellsOf 3 = 1) rfl rfl (opensF_step 23 (opens_Vec W) rfl (by kernel_rfl : Tryz.prog.cellsOf 23 = 2) rfl rfl (opensF_step 3 (opens_i64 Tryz.underlying3) rfl (by kernel_rfl : Tryz.prog.cellsOf 3 = 1) rfl rfl (opensF_step 3 (opens_i64 Tryz.underlying3) rfl (by kernel_rfl : Tryz.prog.cellsOf 3 = 1) rfl rfl opensF_nil)))) (fun _ => rfl) (fun a h => ⟨h.1, h.2.1, h.2.2.1, h.2.2.2.1⟩)
def Transform.ok (x : Transform) : Prop := Vec.ok x.Position ∧ fits x.Angle
theorem opens_Transform (W : World) : Opens Tryz.prog W 53 Transform.enc Transform.ok :=
  opens_struct' 3 (fun a : Vec × Int × Unit => (⟨a.1, a.2.1⟩ : Transform)) Tryz.underlying53 (by kernel_rfl)
    (opensF_step 23 (opens_Vec W) rfl (by kernel_rfl : Tryz.prog.cellsOf 23 = 2) rfl rfl (opensF_step 3 (opens_i64 Tryz.underlying3) rfl (by kernel_rfl : Tryz.prog.cellsOf 3 = 1) rfl rfl opensF_nil)) (fun _ => rfl) (fun a h => ⟨h.1, h.2.1⟩)
def Shape.ok (x : Shape) : Prop := fits x.Kind ∧ fits x.Radius ∧ ((∀ a ∈ x.Vertices, Vec.ok a) ∧ x.Vertices.length ≤ maxLen)
theorem opens_Shape (W : World) : Opens Tryz.prog W 60 Shape.enc Shape.ok :=
  opens_struct' 3 (fun a : Int × Int × List Vec × Unit => (⟨a.1, a.2.1, a.2.2.1⟩ : Shape)) Tryz.underlying60 (by kernel_rfl)
    (opensF_step 57 (opens_i64 Tryz.underlying57) rfl (by kernel_rfl : Tryz.prog.cellsOf 57 = 1) rfl rfl (opensF_step 3 (opens_i64 Tryz.underlying3) rfl (by kernel_rfl : Tryz.prog.cellsOf 3 = 1) rfl rfl (opensF_step 58 (opens_slice (d := (default : Vec)) Tryz.underlying58 (by kernel_rfl : Tryz.prog.cellsOf 23 = 2) (by decide) (opens_Vec W)) rfl (by kernel_rfl : Tryz.prog.cellsOf 58 = 1) rfl rfl opensF_nil))) (fun _ => rfl) (fun a h => ⟨h.1, h.2.1, h.2.2.1⟩)
def Fixture.ok (x : Fixture) : Prop := Shape.ok x.Shape ∧ fits x.Density ∧ fits x.Friction ∧ fits x.Restitution ∧ True ∧ fits x.Category ∧ fits x.Mask ∧ fits x.Group
theorem opens_Fixture (W : World) : Opens Tryz.prog W 62 Fixture.enc Fixture.ok :=
  opens_struct' 10 (fun a : Shape × Int × Int × Int × Bool × Int × Int × Int × Unit => (⟨a.1, a.2.1, a.2.2.1, a.2.2.2.1, a.2.2.2.2.1, a.2.2.2.2.2.1, a.2.2.2.2.2.2.1, a.2.2.2.2.2.2.2.1⟩ : Fixture)) Tryz.underlying62 (by kernel_rfl)
    (opensF_step 60 (opens_Shape W) rfl (by kernel_rfl : Tryz.prog.cellsOf 60 = 3) rfl rfl (opensF_step 3 (opens_i64 Tryz.underlying3) rfl (by kernel_rfl : Tryz.prog.cellsOf 3 = 1) rfl rfl (opensF_step 3 (opens_i64 Tryz.underlying3) rfl (by kernel_rfl : Tryz.prog.cellsOf 3 = 1) rfl rfl (opensF_step 3 (opens_i64 Tryz.underlying3) rfl (by kernel_rfl : Tryz.prog.cellsOf 3 = 1) rfl rfl (opensF_step 4 (opens_bool Tryz.underlying4) rfl (by kernel_rfl : Tryz.prog.cellsOf 4 = 1) rfl rfl (opensF_step 3 (opens_i64 Tryz.underlying3) rfl (by kernel_rfl : Tryz.prog.cellsOf 3 = 1) rfl rfl (opensF_step 3 (opens_i64 Tryz.underlying3) rfl (by kernel_rfl : Tryz.prog.cellsOf 3 = 1) rfl rfl (opensF_step 3 (opens_i64 Tryz.underlying3) rfl (by kernel_rfl : Tryz.prog.cellsOf 3 = 1) rfl rfl opensF_nil)))))))) (fun _ => rfl) (fun a h => ⟨h.1, h.2.1, h.2.2.1, h.2.2.2.1, h.2.2.2.2.1, h.2.2.2.2.2.1, h.2.2.2.2.2.2.1, h.2.2.2.2.2.2.2.1⟩)
def Body.ok (x : Body) : Prop := fits x.ID ∧ fits x.Kind ∧ Transform.ok x.Transform ∧ Vec.ok x.Velocity ∧ fits x.AngularVelocity ∧ Vec.ok x.Force ∧ fits x.Torque ∧ fits x.LinearDamping ∧ fits x.AngularDamping ∧ fits x.GravityScale ∧ True ∧ True ∧ True ∧ True ∧ fits x.IdleSteps ∧ ((∀ a ∈ x.Fixtures, Fixture.ok a) ∧ x.Fixtures.length ≤ maxLen)
theorem opens_Body (W : World) : Opens Tryz.prog W 56 Body.enc Body.ok :=
  opens_struct' 20 (fun a : Int × Int × Transform × Vec × Int × Vec × Int × Int × Int × Int × Bool × Bool × Bool × Bool × Int × List Fixture × Unit => (⟨a.1, a.2.1, a.2.2.1, a.2.2.2.1, a.2.2.2.2.1, a.2.2.2.2.2.1, a.2.2.2.2.2.2.1, a.2.2.2.2.2.2.2.1, a.2.2.2.2.2.2.2.2.1, a.2.2.2.2.2.2.2.2.2.1, a.2.2.2.2.2.2.2.2.2.2.1, a.2.2.2.2.2.2.2.2.2.2.2.1, a.2.2.2.2.2.2.2.2.2.2.2.2.1, a.2.2.2.2.2.2.2.2.2.2.2.2.2.1, a.2.2.2.2.2.2.2.2.2.2.2.2.2.2.1, a.2.2.2.2.2.2.2.2.2.2.2.2.2.2.2.1⟩ : Body)) Tryz.underlying56 (by kernel_rfl)
    (opensF_step 3 (opens_i64 Tryz.underlying3) rfl (by kernel_rfl : Tryz.prog.cellsOf 3 = 1) rfl rfl (opensF_step 51 (opens_i64 Tryz.underlying51) rfl (by kernel_rfl : Tryz.prog.cellsOf 51 = 1) rfl rfl (opensF_step 53 (opens_Transform W) rfl (by kernel_rfl : Tryz.prog.cellsOf 53 = 3) rfl rfl (opensF_step 23 (opens_Vec W) rfl (by kernel_rfl : Tryz.prog.cellsOf 23 = 2) rfl rfl (opensF_step 3 (opens_i64 Tryz.underlying3) rfl (by kernel_rfl : Tryz.prog.cellsOf 3 = 1) rfl rfl (opensF_step 23 (opens_Vec W) rfl (by kernel_rfl : Tryz.prog.cellsOf 23 = 2) rfl rfl (opensF_step 3 (opens_i64 Tryz.underlying3) rfl (by kernel_rfl : Tryz.prog.cellsOf 3 = 1) rfl rfl (opensF_step 3 (opens_i64 Tryz.underlying3) rfl (by kernel_rfl : Tryz.prog.cellsOf 3 = 1) rfl rfl (opensF_step 3 (opens_i64 Tryz.underlying3) rfl (by kernel_rfl : Tryz.prog.cellsOf 3 = 1) rfl rfl (opensF_step 3 (opens_i64 Tryz.underlying3) rfl (by kernel_rfl : Tryz.prog.cellsOf 3 = 1) rfl rfl (opensF_step 4 (opens_bool Tryz.underlying4) rfl (by kernel_rfl : Tryz.prog.cellsOf 4 = 1) rfl rfl (opensF_step 4 (opens_bool Tryz.underlying4) rfl (by kernel_rfl : Tryz.prog.cellsOf 4 = 1) rfl rfl (opensF_step 4 (opens_bool Tryz.underlying4) rfl (by kernel_rfl : Tryz.prog.cellsOf 4 = 1) rfl rfl (opensF_step 4 (opens_bool Tryz.underlying4) rfl (by kernel_rfl : Tryz.prog.cellsOf 4 = 1) rfl rfl (opensF_step 3 (opens_i64 Tryz.underlying3) rfl (by kernel_rfl : Tryz.prog.cellsOf 3 = 1) rfl rfl (opensF_step 54 (opens_slice (d := (default : Fixture)) Tryz.underlying54 (by kernel_rfl : Tryz.prog.cellsOf 62 = 10) (by decide) (opens_Fixture W)) rfl (by kernel_rfl : Tryz.prog.cellsOf 54 = 1) rfl rfl opensF_nil)))))))))))))))) (fun _ => rfl) (fun a h => ⟨h.1, h.2.1, h.2.2.1, h.2.2.2.1, h.2.2.2.2.1, h.2.2.2.2.2.1, h.2.2.2.2.2.2.1, h.2.2.2.2.2.2.2.1, h.2.2.2.2.2.2.2.2.1, h.2.2.2.2.2.2.2.2.2.1, h.2.2.2.2.2.2.2.2.2.2.1, h.2.2.2.2.2.2.2.2.2.2.2.1, h.2.2.2.2.2.2.2.2.2.2.2.2.1, h.2.2.2.2.2.2.2.2.2.2.2.2.2.1, h.2.2.2.2.2.2.2.2.2.2.2.2.2.2.1, h.2.2.2.2.2.2.2.2.2.2.2.2.2.2.2.1⟩)
def Joint.ok (x : Joint) : Prop := fits x.ID ∧ fits x.Kind ∧ fits x.BodyA ∧ fits x.BodyB ∧ Vec.ok x.AnchorA ∧ Vec.ok x.AnchorB ∧ Vec.ok x.Axis ∧ fits x.ReferenceAngle ∧ True ∧ fits x.Lower ∧ fits x.Upper ∧ True ∧ fits x.MotorSpeed ∧ fits x.MaxForce ∧ fits x.Softness ∧ fits x.BreakForce ∧ True ∧ (fits x.Impulses.I0 ∧ fits x.Impulses.I1 ∧ fits x.Impulses.I2 ∧ fits x.Impulses.I3)
theorem opens_Joint (W : World) : Opens Tryz.prog W 83 Joint.enc Joint.ok :=
  opens_struct' 24 (fun a : Int × Int × Int × Int × Vec × Vec × Vec × Int × Bool × Int × Int × Bool × Int × Int × Int × Int × Bool × Four × Unit => (⟨a.1, a.2.1, a.2.2.1, a.2.2.2.1, a.2.2.2.2.1, a.2.2.2.2.2.1, a.2.2.2.2.2.2.1, a.2.2.2.2.2.2.2.1, a.2.2.2.2.2.2.2.2.1, a.2.2.2.2.2.2.2.2.2.1, a.2.2.2.2.2.2.2.2.2.2.1, a.2.2.2.2.2.2.2.2.2.2.2.1, a.2.2.2.2.2.2.2.2.2.2.2.2.1, a.2.2.2.2.2.2.2.2.2.2.2.2.2.1, a.2.2.2.2.2.2.2.2.2.2.2.2.2.2.1, a.2.2.2.2.2.2.2.2.2.2.2.2.2.2.2.1, a.2.2.2.2.2.2.2.2.2.2.2.2.2.2.2.2.1, a.2.2.2.2.2.2.2.2.2.2.2.2.2.2.2.2.2.1⟩ : Joint)) Tryz.underlying83 (by kernel_rfl)
    (opensF_step 3 (opens_i64 Tryz.underlying3) rfl (by kernel_rfl : Tryz.prog.cellsOf 3 = 1) rfl rfl (opensF_step 80 (opens_i64 Tryz.underlying80) rfl (by kernel_rfl : Tryz.prog.cellsOf 80 = 1) rfl rfl (opensF_step 3 (opens_i64 Tryz.underlying3) rfl (by kernel_rfl : Tryz.prog.cellsOf 3 = 1) rfl rfl (opensF_step 3 (opens_i64 Tryz.underlying3) rfl (by kernel_rfl : Tryz.prog.cellsOf 3 = 1) rfl rfl (opensF_step 23 (opens_Vec W) rfl (by kernel_rfl : Tryz.prog.cellsOf 23 = 2) rfl rfl (opensF_step 23 (opens_Vec W) rfl (by kernel_rfl : Tryz.prog.cellsOf 23 = 2) rfl rfl (opensF_step 23 (opens_Vec W) rfl (by kernel_rfl : Tryz.prog.cellsOf 23 = 2) rfl rfl (opensF_step 3 (opens_i64 Tryz.underlying3) rfl (by kernel_rfl : Tryz.prog.cellsOf 3 = 1) rfl rfl (opensF_step 4 (opens_bool Tryz.underlying4) rfl (by kernel_rfl : Tryz.prog.cellsOf 4 = 1) rfl rfl (opensF_step 3 (opens_i64 Tryz.underlying3) rfl (by kernel_rfl : Tryz.prog.cellsOf 3 = 1) rfl rfl (opensF_step 3 (opens_i64 Tryz.underlying3) rfl (by kernel_rfl : Tryz.prog.cellsOf 3 = 1) rfl rfl (opensF_step 4 (opens_bool Tryz.underlying4) rfl (by kernel_rfl : Tryz.prog.cellsOf 4 = 1) rfl rfl (opensF_step 3 (opens_i64 Tryz.underlying3) rfl (by kernel_rfl : Tryz.prog.cellsOf 3 = 1) rfl rfl (opensF_step 3 (opens_i64 Tryz.underlying3) rfl (by kernel_rfl : Tryz.prog.cellsOf 3 = 1) rfl rfl (opensF_step 3 (opens_i64 Tryz.underlying3) rfl (by kernel_rfl : Tryz.prog.cellsOf 3 = 1) rfl rfl (opensF_step 3 (opens_i64 Tryz.underlying3) rfl (by kernel_rfl : Tryz.prog.cellsOf 3 = 1) rfl rfl (opensF_step 4 (opens_bool Tryz.underlying4) rfl (by kernel_rfl : Tryz.prog.cellsOf 4 = 1) rfl rfl (opensF_step 81 (opens_four Tryz.underlying81 Tryz.underlying3 (by kernel_rfl) (by kernel_rfl)) rfl (by kernel_rfl : Tryz.prog.cellsOf 81 = 4) rfl rfl opensF_nil)))))))))))))))))) (fun _ => rfl) (fun a h => ⟨h.1, h.2.1, h.2.2.1, h.2.2.2.1, h.2.2.2.2.1, h.2.2.2.2.2.1, h.2.2.2.2.2.2.1, h.2.2.2.2.2.2.2.1, h.2.2.2.2.2.2.2.2.1, h.2.2.2.2.2.2.2.2.2.1, h.2.2.2.2.2.2.2.2.2.2.1, h.2.2.2.2.2.2.2.2.2.2.2.1, h.2.2.2.2.2.2.2.2.2.2.2.2.1, h.2.2.2.2.2.2.2.2.2.2.2.2.2.1, h.2.2.2.2.2.2.2.2.2.2.2.2.2.2.1, h.2.2.2.2.2.2.2.2.2.2.2.2.2.2.2.1, h.2.2.2.2.2.2.2.2.2.2.2.2.2.2.2.2.1, h.2.2.2.2.2.2.2.2.2.2.2.2.2.2.2.2.2.1⟩)
def PairKey.ok (x : PairKey) : Prop := fits x.BodyA ∧ fits x.FixtureA ∧ fits x.BodyB ∧ fits x.FixtureB
theorem opens_PairKey (W : World) : Opens Tryz.prog W 66 PairKey.enc PairKey.ok :=
  opens_struct' 4 (fun a : Int × Int × Int × Int × Unit => (⟨a.1, a.2.1, a.2.2.1, a.2.2.2.1⟩ : PairKey)) Tryz.underlying66 (by kernel_rfl)
    (opensF_step 3 (opens_i64 Tryz.underlying3) rfl (by kernel_rfl : Tryz.prog.cellsOf 3 = 1) rfl rfl (opensF_step 3 (opens_i64 Tryz.underlying3) rfl (by kernel_rfl : Tryz.prog.cellsOf 3 = 1) rfl rfl (opensF_step 3 (opens_i64 Tryz.underlying3) rfl (by kernel_rfl : Tryz.prog.cellsOf 3 = 1) rfl rfl (opensF_step 3 (opens_i64 Tryz.underlying3) rfl (by kernel_rfl : Tryz.prog.cellsOf 3 = 1) rfl rfl opensF_nil)))) (fun _ => rfl) (fun a h => ⟨h.1, h.2.1, h.2.2.1, h.2.2.2.1⟩)
def ContactPoint.ok (x : ContactPoint) : Prop := Vec.ok x.Point ∧ fits x.Separation ∧ fits x.ID ∧ fits x.NormalImpulse ∧ fits x.TangentImpulse
theorem opens_ContactPoint (W : World) : Opens Tryz.prog W 117 ContactPoint.enc ContactPoint.ok :=
  opens_struct' 6 (fun a : Vec × Int × Int × Int × Int × Unit => (⟨a.1, a.2.1, a.2.2.1, a.2.2.2.1, a.2.2.2.2.1⟩ : ContactPoint)) Tryz.underlying117 (by kernel_rfl)
    (opensF_step 23 (opens_Vec W) rfl (by kernel_rfl : Tryz.prog.cellsOf 23 = 2) rfl rfl (opensF_step 3 (opens_i64 Tryz.underlying3) rfl (by kernel_rfl : Tryz.prog.cellsOf 3 = 1) rfl rfl (opensF_step 3 (opens_i64 Tryz.underlying3) rfl (by kernel_rfl : Tryz.prog.cellsOf 3 = 1) rfl rfl (opensF_step 3 (opens_i64 Tryz.underlying3) rfl (by kernel_rfl : Tryz.prog.cellsOf 3 = 1) rfl rfl (opensF_step 3 (opens_i64 Tryz.underlying3) rfl (by kernel_rfl : Tryz.prog.cellsOf 3 = 1) rfl rfl opensF_nil))))) (fun _ => rfl) (fun a h => ⟨h.1, h.2.1, h.2.2.1, h.2.2.2.1, h.2.2.2.2.1⟩)
def Manifold.ok (x : Manifold) : Prop := Vec.ok x.Normal ∧ ((∀ a ∈ x.Points, ContactPoint.ok a) ∧ x.Points.length ≤ maxLen)
theorem opens_Manifold (W : World) : Opens Tryz.prog W 69 Manifold.enc Manifold.ok :=
  opens_struct' 3 (fun a : Vec × List ContactPoint × Unit => (⟨a.1, a.2.1⟩ : Manifold)) Tryz.underlying69 (by kernel_rfl)
    (opensF_step 23 (opens_Vec W) rfl (by kernel_rfl : Tryz.prog.cellsOf 23 = 2) rfl rfl (opensF_step 67 (opens_slice (d := (default : ContactPoint)) Tryz.underlying67 (by kernel_rfl : Tryz.prog.cellsOf 117 = 6) (by decide) (opens_ContactPoint W)) rfl (by kernel_rfl : Tryz.prog.cellsOf 67 = 1) rfl rfl opensF_nil)) (fun _ => rfl) (fun a h => ⟨h.1, h.2.1⟩)
def Contact.ok (x : Contact) : Prop := PairKey.ok x.Key ∧ Manifold.ok x.Manifold
theorem opens_Contact (W : World) : Opens Tryz.prog W 71 Contact.enc Contact.ok :=
  opens_struct' 7 (fun a : PairKey × Manifold × Unit => (⟨a.1, a.2.1⟩ : Contact)) Tryz.underlying71 (by kernel_rfl)
    (opensF_step 66 (opens_PairKey W) rfl (by kernel_rfl : Tryz.prog.cellsOf 66 = 4) rfl rfl (opensF_step 69 (opens_Manifold W) rfl (by kernel_rfl : Tryz.prog.cellsOf 69 = 3) rfl rfl opensF_nil)) (fun _ => rfl) (fun a h => ⟨h.1, h.2.1⟩)
def World.ok (x : Api.World) : Prop := Settings.ok x.Settings ∧ ((∀ a ∈ x.Bodies, Body.ok a) ∧ x.Bodies.length ≤ maxLen) ∧ ((∀ a ∈ x.Joints, Joint.ok a) ∧ x.Joints.length ≤ maxLen) ∧ ((∀ a ∈ x.Contacts, Contact.ok a) ∧ x.Contacts.length ≤ maxLen) ∧ ((∀ a ∈ x.Overlaps, PairKey.ok a) ∧ x.Overlaps.length ≤ maxLen) ∧ fits x.NextID ∧ fits x.Frame
theorem opens_World (W : World) : Opens Tryz.prog W 31 Api.World.enc World.ok :=
  opens_struct' 11 (fun a : Settings × List Body × List Joint × List Contact × List PairKey × Int × Int × Unit => (⟨a.1, a.2.1, a.2.2.1, a.2.2.2.1, a.2.2.2.2.1, a.2.2.2.2.2.1, a.2.2.2.2.2.2.1⟩ : Api.World)) Tryz.underlying31 (by kernel_rfl)
    (opensF_step 25 (opens_Settings W) rfl (by kernel_rfl : Tryz.prog.cellsOf 25 = 5) rfl rfl (opensF_step 26 (opens_slice (d := (default : Body)) Tryz.underlying26 (by kernel_rfl : Tryz.prog.cellsOf 56 = 20) (by decide) (opens_Body W)) rfl (by kernel_rfl : Tryz.prog.cellsOf 26 = 1) rfl rfl (opensF_step 27 (opens_slice (d := (default : Joint)) Tryz.underlying27 (by kernel_rfl : Tryz.prog.cellsOf 83 = 24) (by decide) (opens_Joint W)) rfl (by kernel_rfl : Tryz.prog.cellsOf 27 = 1) rfl rfl (opensF_step 28 (opens_slice (d := (default : Contact)) Tryz.underlying28 (by kernel_rfl : Tryz.prog.cellsOf 71 = 7) (by decide) (opens_Contact W)) rfl (by kernel_rfl : Tryz.prog.cellsOf 28 = 1) rfl rfl (opensF_step 29 (opens_slice (d := (default : PairKey)) Tryz.underlying29 (by kernel_rfl : Tryz.prog.cellsOf 66 = 4) (by decide) (opens_PairKey W)) rfl (by kernel_rfl : Tryz.prog.cellsOf 29 = 1) rfl rfl (opensF_step 3 (opens_i64 Tryz.underlying3) rfl (by kernel_rfl : Tryz.prog.cellsOf 3 = 1) rfl rfl (opensF_step 3 (opens_i64 Tryz.underlying3) rfl (by kernel_rfl : Tryz.prog.cellsOf 3 = 1) rfl rfl opensF_nil))))))) (fun _ => rfl) (fun a h => ⟨h.1, h.2.1, h.2.2.1, h.2.2.2.1, h.2.2.2.2.1, h.2.2.2.2.2.1, h.2.2.2.2.2.2.1⟩)
end Go.Abs
end
section
namespace Go.Abs
open Go.Proofs
open Api
def FOK (x : Fixture) : Prop := Fixture.ok x ∧ x.Shape.Vertices.length ≤ 64
def BOK (x : Body) : Prop := Body.ok x ∧ Bfew x
def WOK (w : Api.World) : Prop := World.ok w ∧ Wfew w
def COK (x : Contact) : Prop := Contact.ok x ∧ x.Manifold.Points.length ≤ 64
theorem rt_Key : RT rKey keyB PairKey.ok := by
  intro pre post x hx
  have hx' := hx
  simp only [Fixture.ok, Body.ok, Joint.ok, PairKey.ok, ContactPoint.ok, Manifold.ok, Contact.ok, World.ok, Settings.ok, Transform.ok, Shape.ok, Vec.ok, FOK, BOK, COK, WOK, Bfew, Wfew] at hx'
  have h : RTx rKey x (intB x.BodyA ++ (intB x.FixtureA ++ (intB x.BodyB ++ (intB x.FixtureB ++ ([]))))) := by
    unfold rKey
    exact (rt_step (rt_x rt_int (x := x.BodyA) (by simp only [Vec.ok, Vok, hx', and_self])) (rt_step (rt_x rt_int (x := x.FixtureA) (by simp only [Vec.ok, Vok, hx', and_self])) (rt_step (rt_x rt_int (x := x.BodyB) (by simp only [Vec.ok, Vok, hx', and_self])) (rt_step (rt_x rt_int (x := x.FixtureB) (by simp only [Vec.ok, Vok, hx', and_self])) rt_end))))
  have e : keyB x = intB x.BodyA ++ (intB x.FixtureA ++ (intB x.BodyB ++ (intB x.FixtureB ++ ([])))) := by simp [keyB, ctcH, bodH, encH, enc1, enc2, enc3, keyB, intsB, vecsB, boolsB, slB, List.append_assoc]
  rw [e]; exact h pre post
theorem cnr_Key : CNR rKey (fun x e => e = keyB x) := by
  refine cn_mono (R := _) (by unfold rKey; exact (cn_step cnr_int fun x0 => (cn_step cnr_int fun x1 => (cn_step cnr_int fun x2 => (cn_step cnr_int fun x3 => cn_end))))) ?_
  rintro y e ⟨x0, e0, f0, rfl, rfl, x1, e1, f1, rfl, rfl, x2, e2, f2, rfl, rfl, x3, e3, f3, rfl, rfl, rfl, rfl⟩
  simp [keyB, ctcH, bodH, encH, enc1, enc2, enc3, keyB, intsB, vecsB, boolsB, slB, List.append_assoc]
theorem rt_ContactPoint : RT rContactPoint ptB ContactPoint.ok := by
  intro pre post x hx
  have hx' := hx
  simp only [Fixture.ok, Body.ok, Joint.ok, PairKey.ok, ContactPoint.ok, Manifold.ok, Contact.ok, World.ok, Settings.ok, Transform.ok, Shape.ok, Vec.ok, FOK, BOK, COK, WOK, Bfew, Wfew] at hx'
  have h : RTx rContactPoint x (vecB x.Point ++ (intB x.Separation ++ (intB x.ID ++ (intB x.NormalImpulse ++ (intB x.TangentImpulse ++ ([])))))) := by
    unfold rContactPoint
    exact (rt_step (rt_x rt_vec (x := x.Point) (by simp only [Vec.ok, Vok, hx', and_self])) (rt_step (rt_x rt_int (x := x.Separation) (by simp only [Vec.ok, Vok, hx', and_self])) (rt_step (rt_x rt_int (x := x.ID) (by simp only [Vec.ok, Vok, hx', and_self])) (rt_step (rt_x rt_int (x := x.NormalImpulse) (by simp only [Vec.ok, Vok, hx', and_self])) (rt_step (rt_x rt_int (x := x.TangentImpulse) (by simp only [Vec.ok, Vok, hx', and_self])) rt_end)))))
  have e : ptB x = vecB x.Point ++ (intB x.Separation ++ (intB x.ID ++ (intB x.NormalImpulse ++ (intB x.TangentImpulse ++ ([]))))) := by simp [ptB, ctcH, bodH, encH, enc1, enc2, enc3, keyB, intsB, vecsB, boolsB, slB, List.append_assoc]
  rw [e]; exact h pre post
theorem cnr_ContactPoint : CNR rContactPoint (fun x e => e = ptB x) := by
  refine cn_mono (R := _) (by unfold rContactPoint; exact (cn_step cnr_vec fun x0 => (cn_step cnr_int fun x1 => (cn_step cnr_int fun x2 => (cn_step cnr_int fun x3 => (cn_step cnr_int fun x4 => cn_end)))))) ?_
  rintro y e ⟨x0, e0, f0, rfl, rfl, x1, e1, f1, rfl, rfl, x2, e2, f2, rfl, rfl, x3, e3, f3, rfl, rfl, x4, e4, f4, rfl, rfl, rfl, rfl⟩
  simp [ptB, ctcH, bodH, encH, enc1, enc2, enc3, keyB, intsB, vecsB, boolsB, slB, List.append_assoc]
theorem rt_Contact : RT rContact ctcB COK := by
  intro pre post x hx
  have hx' := hx
  simp only [Fixture.ok, Body.ok, Joint.ok, PairKey.ok, ContactPoint.ok, Manifold.ok, Contact.ok, World.ok, Settings.ok, Transform.ok, Shape.ok, Vec.ok, FOK, BOK, COK, WOK, Bfew, Wfew] at hx'
  have h : RTx rContact x (keyB x.Key ++ (vecB x.Manifold.Normal ++ (slB ptB x.Manifold.Points ++ ([])))) := by
    unfold rContact
    exact (rt_step (rt_x rt_Key (x := x.Key) (by simp only [PairKey.ok, Vec.ok, Vok, hx', and_self])) (rt_step (rt_x rt_vec (x := x.Manifold.Normal) (by simp only [PairKey.ok, Vec.ok, Vok, hx', and_self])) (rt_step (rt_Sl rt_ContactPoint (l := x.Manifold.Points) (fun a ha => hx.1.2.2.1 a ha) (by have := hx.2; omega)) rt_end)))
  have e : ctcB x = keyB x.Key ++ (vecB x.Manifold.Normal ++ (slB ptB x.Manifold.Points ++ ([]))) := by simp [ctcB, ctcH, bodH, encH, enc1, enc2, enc3, keyB, intsB, vecsB, boolsB, slB, List.append_assoc]
  rw [e]; exact h pre post
theorem cnr_Contact : CNR rContact (fun x e => e = ctcB x) := by
  refine cn_mono (R := _) (by unfold rContact; exact (cn_step cnr_Key fun x0 => (cn_step cnr_vec fun x1 => (cn_step (cnr_Sl cnr_ContactPoint) fun x2 => cn_end)))) ?_
  rintro y e ⟨x0, e0, f0, rfl, rfl, x1, e1, f1, rfl, rfl, x2, e2, f2, rfl, rfl, rfl, rfl⟩
  simp [ctcB, ctcH, bodH, encH, enc1, enc2, enc3, keyB, intsB, vecsB, boolsB, slB, List.append_assoc]
theorem rt_Fixture : RT rFixture fixB FOK := by
  intro pre post x hx
  have hx' := hx
  simp only [Fixture.ok, Body.ok, Joint.ok, PairKey.ok, ContactPoint.ok, Manifold.ok, Contact.ok, World.ok, Settings.ok, Transform.ok, Shape.ok, Vec.ok, FOK, BOK, COK, WOK, Bfew, Wfew] at hx'
  have h : RTx rFixture x (intB x.Shape.Kind ++ (intB x.Shape.Radius ++ (slB vecB x.Shape.Vertices ++ (intB x.Density ++ (intB x.Friction ++ (intB x.Restitution ++ (boolB x.Sensor ++ (intB x.Category ++ (intB x.Mask ++ (intB x.Group ++ ([]))))))))))) := by
    unfold rFixture
    exact (rt_step (rt_x rt_int (x := x.Shape.Kind) (by simp only [Vec.ok, Vok, hx', and_self])) (rt_step (rt_x rt_int (x := x.Shape.Radius) (by simp only [Vec.ok, Vok, hx', and_self])) (rt_step (rt_Sl rt_vec (l := x.Shape.Vertices) (fun a ha => hx.1.1.2.2.1 a ha) (by have := hx.2; omega)) (rt_step (rt_x rt_int (x := x.Density) (by simp only [Vec.ok, Vok, hx', and_self])) (rt_step (rt_x rt_int (x := x.Friction) (by simp only [Vec.ok, Vok, hx', and_self])) (rt_step (rt_x rt_int (x := x.Restitution) (by simp only [Vec.ok, Vok, hx', and_self])) (rt_step (rt_x rt_bool (x := x.Sensor) (by simp only [Vec.ok, Vok, hx', and_self])) (rt_step (rt_x rt_int (x := x.Category) (by simp only [Vec.ok, Vok, hx', and_self])) (rt_step (rt_x rt_int (x := x.Mask) (by simp only [Vec.ok, Vok, hx', and_self])) (rt_step (rt_x rt_int (x := x.Group) (by simp only [Vec.ok, Vok, hx', and_self])) rt_end))))))))))
  have e : fixB x = intB x.Shape.Kind ++ (intB x.Shape.Radius ++ (slB vecB x.Shape.Vertices ++ (intB x.Density ++ (intB x.Friction ++ (intB x.Restitution ++ (boolB x.Sensor ++ (intB x.Category ++ (intB x.Mask ++ (intB x.Group ++ ([])))))))))) := by simp [fixB, ctcH, bodH, encH, enc1, enc2, enc3, keyB, intsB, vecsB, boolsB, slB, List.append_assoc]
  rw [e]; exact h pre post
theorem cnr_Fixture : CNR rFixture (fun x e => e = fixB x) := by
  refine cn_mono (R := _) (by unfold rFixture; exact (cn_step cnr_int fun x0 => (cn_step cnr_int fun x1 => (cn_step (cnr_Sl cnr_vec) fun x2 => (cn_step cnr_int fun x3 => (cn_step cnr_int fun x4 => (cn_step cnr_int fun x5 => (cn_step cnr_bool fun x6 => (cn_step cnr_int fun x7 => (cn_step cnr_int fun x8 => (cn_step cnr_int fun x9 => cn_end))))))))))) ?_
  rintro y e ⟨x0, e0, f0, rfl, rfl, x1, e1, f1, rfl, rfl, x2, e2, f2, rfl, rfl, x3, e3, f3, rfl, rfl, x4, e4, f4, rfl, rfl, x5, e5, f5, rfl, rfl, x6, e6, f6, rfl, rfl, x7, e7, f7, rfl, rfl, x8, e8, f8, rfl, rfl, x9, e9, f9, rfl, rfl, rfl, rfl⟩
  simp [fixB, ctcH, bodH, encH, enc1, enc2, enc3, keyB, intsB, vecsB, boolsB, slB, List.append_assoc]
theorem rt_Body : RT rBody bodB BOK := by
  intro pre post x hx
  have hx' := hx
  simp only [Fixture.ok, Body.ok, Joint.ok, PairKey.ok, ContactPoint.ok, Manifold.ok, Contact.ok, World.ok, Settings.ok, Transform.ok, Shape.ok, Vec.ok, FOK, BOK, COK, WOK, Bfew, Wfew] at hx'
  have h : RTx rBody x (intB x.ID ++ (intB x.Kind ++ (vecB x.Transform.Position ++ (intB x.Transform.Angle ++ (vecB x.Velocity ++ (intB x.AngularVelocity ++ (vecB x.Force ++ (intB x.Torque ++ (intB x.LinearDamping ++ (intB x.AngularDamping ++ (intB x.GravityScale ++ (boolB x.Bullet ++ (boolB x.FixedRotation ++ (boolB x.NoSleep ++ (boolB x.Asleep ++ (intB x.IdleSteps ++ (slB fixB x.Fixtures ++ ([])))))))))))))))))) := by
    unfold rBody
    exact (rt_step (rt_x rt_int (x := x.ID) (by simp only [Vec.ok, Vok, hx', and_self])) (rt_step (rt_x rt_int (x := x.Kind) (by simp only [Vec.ok, Vok, hx', and_self])) (rt_step (rt_x rt_vec (x := x.Transform.Position) (by simp only [Vec.ok, Vok, hx', and_self])) (rt_step (rt_x rt_int (x := x.Transform.Angle) (by simp only [Vec.ok, Vok, hx', and_self])) (rt_step (rt_x rt_vec (x := x.Velocity) (by simp only [Vec.ok, Vok, hx', and_self])) (rt_step (rt_x rt_int (x := x.AngularVelocity) (by simp only [Vec.ok, Vok, hx', and_self])) (rt_step (rt_x rt_vec (x := x.Force) (by simp only [Vec.ok, Vok, hx', and_self])) (rt_step (rt_x rt_int (x := x.Torque) (by simp only [Vec.ok, Vok, hx', and_self])) (rt_step (rt_x rt_int (x := x.LinearDamping) (by simp only [Vec.ok, Vok, hx', and_self])) (rt_step (rt_x rt_int (x := x.AngularDamping) (by simp only [Vec.ok, Vok, hx', and_self])) (rt_step (rt_x rt_int (x := x.GravityScale) (by simp only [Vec.ok, Vok, hx', and_self])) (rt_step (rt_x rt_bool (x := x.Bullet) (by simp only [Vec.ok, Vok, hx', and_self])) (rt_step (rt_x rt_bool (x := x.FixedRotation) (by simp only [Vec.ok, Vok, hx', and_self])) (rt_step (rt_x rt_bool (x := x.NoSleep) (by simp only [Vec.ok, Vok, hx', and_self])) (rt_step (rt_x rt_bool (x := x.Asleep) (by simp only [Vec.ok, Vok, hx', and_self])) (rt_step (rt_x rt_int (x := x.IdleSteps) (by simp only [Vec.ok, Vok, hx', and_self])) (rt_step (rt_Sl rt_Fixture (l := x.Fixtures) (fun a ha => ⟨hx.1.2.2.2.2.2.2.2.2.2.2.2.2.2.2.2.1 a ha, hx.2.2 a ha⟩) (by have := hx.2.1; omega)) rt_end)))))))))))))))))
  have e : bodB x = intB x.ID ++ (intB x.Kind ++ (vecB x.Transform.Position ++ (intB x.Transform.Angle ++ (vecB x.Velocity ++ (intB x.AngularVelocity ++ (vecB x.Force ++ (intB x.Torque ++ (intB x.LinearDamping ++ (intB x.AngularDamping ++ (intB x.GravityScale ++ (boolB x.Bullet ++ (boolB x.FixedRotation ++ (boolB x.NoSleep ++ (boolB x.Asleep ++ (intB x.IdleSteps ++ (slB fixB x.Fixtures ++ ([]))))))))))))))))) := by simp [bodB, ctcH, bodH, encH, enc1, enc2, enc3, keyB, intsB, vecsB, boolsB, slB, List.append_assoc]
  rw [e]; exact h pre post
theorem cnr_Body : CNR rBody (fun x e => e = bodB x) := by
  refine cn_mono (R := _) (by unfold rBody; exact (cn_step cnr_int fun x0 => (cn_step cnr_int fun x1 => (cn_step cnr_vec fun x2 => (cn_step cnr_int fun x3 => (cn_step cnr_vec fun x4 => (cn_step cnr_int fun x5 => (cn_step cnr_vec fun x6 => (cn_step cnr_int fun x7 => (cn_step cnr_int fun x8 => (cn_step cnr_int fun x9 => (cn_step cnr_int fun x10 => (cn_step cnr_bool fun x11 => (cn_step cnr_bool fun x12 => (cn_step cnr_bool fun x13 => (cn_step cnr_bool fun x14 => (cn_step cnr_int fun x15 => (cn_step (cnr_Sl cnr_Fixture) fun x16 => cn_end)))))))))))))))))) ?_
  rintro y e ⟨x0, e0, f0, rfl, rfl, x1, e1, f1, rfl, rfl, x2, e2, f2, rfl, rfl, x3, e3, f3, rfl, rfl, x4, e4, f4, rfl, rfl, x5, e5, f5, rfl, rfl, x6, e6, f6, rfl, rfl, x7, e7, f7, rfl, rfl, x8, e8, f8, rfl, rfl, x9, e9, f9, rfl, rfl, x10, e10, f10, rfl, rfl, x11, e11, f11, rfl, rfl, x12, e12, f12, rfl, rfl, x13, e13, f13, rfl, rfl, x14, e14, f14, rfl, rfl, x15, e15, f15, rfl, rfl, x16, e16, f16, rfl, rfl, rfl, rfl⟩
  simp [bodB, ctcH, bodH, encH, enc1, enc2, enc3, keyB, intsB, vecsB, boolsB, slB, List.append_assoc]
theorem rt_Joint : RT rJoint jntB Joint.ok := by
  intro pre post x hx
  have hx' := hx
  simp only [Fixture.ok, Body.ok, Joint.ok, PairKey.ok, ContactPoint.ok, Manifold.ok, Contact.ok, World.ok, Settings.ok, Transform.ok, Shape.ok, Vec.ok, FOK, BOK, COK, WOK, Bfew, Wfew] at hx'
  have h : RTx rJoint x (intB x.ID ++ (intB x.Kind ++ (intB x.BodyA ++ (intB x.BodyB ++ (vecB x.AnchorA ++ (vecB x.AnchorB ++ (vecB x.Axis ++ (intB x.ReferenceAngle ++ (boolB x.EnableLimit ++ (intB x.Lower ++ (intB x.Upper ++ (boolB x.EnableMotor ++ (intB x.MotorSpeed ++ (intB x.MaxForce ++ (intB x.Softness ++ (intB x.BreakForce ++ (boolB x.CollideConnected ++ ([x.Impulses.I0, x.Impulses.I1, x.Impulses.I2, x.Impulses.I3].flatMap intB ++ ([]))))))))))))))))))) := by
    unfold rJoint
    exact (rt_step (rt_x rt_int (x := x.ID) (by simp only [Vec.ok, Vok, hx', and_self])) (rt_step (rt_x rt_int (x := x.Kind) (by simp only [Vec.ok, Vok, hx', and_self])) (rt_step (rt_x rt_int (x := x.BodyA) (by simp only [Vec.ok, Vok, hx', and_self])) (rt_step (rt_x rt_int (x := x.BodyB) (by simp only [Vec.ok, Vok, hx', and_self])) (rt_step (rt_x rt_vec (x := x.AnchorA) (by simp only [Vec.ok, Vok, hx', and_self])) (rt_step (rt_x rt_vec (x := x.AnchorB) (by simp only [Vec.ok, Vok, hx', and_self])) (rt_step (rt_x rt_vec (x := x.Axis) (by simp only [Vec.ok, Vok, hx', and_self])) (rt_step (rt_x rt_int (x := x.ReferenceAngle) (by simp only [Vec.ok, Vok, hx', and_self])) (rt_step (rt_x rt_bool (x := x.EnableLimit) (by simp only [Vec.ok, Vok, hx', and_self])) (rt_step (rt_x rt_int (x := x.Lower) (by simp only [Vec.ok, Vok, hx', and_self])) (rt_step (rt_x rt_int (x := x.Upper) (by simp only [Vec.ok, Vok, hx', and_self])) (rt_step (rt_x rt_bool (x := x.EnableMotor) (by simp only [Vec.ok, Vok, hx', and_self])) (rt_step (rt_x rt_int (x := x.MotorSpeed) (by simp only [Vec.ok, Vok, hx', and_self])) (rt_step (rt_x rt_int (x := x.MaxForce) (by simp only [Vec.ok, Vok, hx', and_self])) (rt_step (rt_x rt_int (x := x.Softness) (by simp only [Vec.ok, Vok, hx', and_self])) (rt_step (rt_x rt_int (x := x.BreakForce) (by simp only [Vec.ok, Vok, hx', and_self])) (rt_step (rt_x rt_bool (x := x.CollideConnected) (by simp only [Vec.ok, Vok, hx', and_self])) (rt_step (rt_N rt_int [x.Impulses.I0, x.Impulses.I1, x.Impulses.I2, x.Impulses.I3] (by intro a ha; have hx1 := hx.2.2.2.2.2.2.2.2.2.2.2.2.2.2.2.2.2; simp only [List.mem_cons, List.not_mem_nil, or_false] at ha; rcases ha with rfl | rfl | rfl | rfl <;> simp only [hx1])) rt_end))))))))))))))))))
  have e : jntB x = intB x.ID ++ (intB x.Kind ++ (intB x.BodyA ++ (intB x.BodyB ++ (vecB x.AnchorA ++ (vecB x.AnchorB ++ (vecB x.Axis ++ (intB x.ReferenceAngle ++ (boolB x.EnableLimit ++ (intB x.Lower ++ (intB x.Upper ++ (boolB x.EnableMotor ++ (intB x.MotorSpeed ++ (intB x.MaxForce ++ (intB x.Softness ++ (intB x.BreakForce ++ (boolB x.CollideConnected ++ ([x.Impulses.I0, x.Impulses.I1, x.Impulses.I2, x.Impulses.I3].flatMap intB ++ ([])))))))))))))))))) := by simp [jntB, ctcH, bodH, encH, enc1, enc2, enc3, keyB, intsB, vecsB, boolsB, slB, List.append_assoc]
  rw [e]; exact h pre post
theorem cnr_Joint : CNR rJoint (fun x e => e = jntB x) := by
  refine cn_mono (R := _) (by unfold rJoint; exact (cn_step cnr_int fun x0 => (cn_step cnr_int fun x1 => (cn_step cnr_int fun x2 => (cn_step cnr_int fun x3 => (cn_step cnr_vec fun x4 => (cn_step cnr_vec fun x5 => (cn_step cnr_vec fun x6 => (cn_step cnr_int fun x7 => (cn_step cnr_bool fun x8 => (cn_step cnr_int fun x9 => (cn_step cnr_int fun x10 => (cn_step cnr_bool fun x11 => (cn_step cnr_int fun x12 => (cn_step cnr_int fun x13 => (cn_step cnr_int fun x14 => (cn_step cnr_int fun x15 => (cn_step cnr_bool fun x16 => (cn_step (cnr_N cnr_int 4) fun x17 => cn_end))))))))))))))))))) ?_
  rintro y e ⟨x0, e0, f0, rfl, rfl, x1, e1, f1, rfl, rfl, x2, e2, f2, rfl, rfl, x3, e3, f3, rfl, rfl, x4, e4, f4, rfl, rfl, x5, e5, f5, rfl, rfl, x6, e6, f6, rfl, rfl, x7, e7, f7, rfl, rfl, x8, e8, f8, rfl, rfl, x9, e9, f9, rfl, rfl, x10, e10, f10, rfl, rfl, x11, e11, f11, rfl, rfl, x12, e12, f12, rfl, rfl, x13, e13, f13, rfl, rfl, x14, e14, f14, rfl, rfl, x15, e15, f15, rfl, rfl, x16, e16, f16, rfl, rfl, x17, e17, f17, rfl, ⟨rfl, hl⟩, rfl, rfl⟩
  match x17, hl with
  | [q0, q1, q2, q3], _ =>
    simp [jntB, ctcH, bodH, encH, enc1, enc2, enc3, keyB, intsB, vecsB, boolsB, slB, List.append_assoc]
theorem rt_World : RT rWorld encW WOK := by
  intro pre post x hx
  have hx' := hx
  simp only [Fixture.ok, Body.ok, Joint.ok, PairKey.ok, ContactPoint.ok, Manifold.ok, Contact.ok, World.ok, Settings.ok, Transform.ok, Shape.ok, Vec.ok, FOK, BOK, COK, WOK, Bfew, Wfew] at hx'
  have h : RTx rWorld x (intB x.Settings.TimeStep ++ (vecB x.Settings.Gravity ++ (intB x.Settings.Iterations ++ (intB x.Settings.SleepSteps ++ (slB bodB x.Bodies ++ (slB jntB x.Joints ++ (slB ctcB x.Contacts ++ (slB keyB x.Overlaps ++ (intB x.NextID ++ (intB x.Frame ++ ([]))))))))))) := by
    unfold rWorld
    exact (rt_step (rt_x rt_int (x := x.Settings.TimeStep) (by simp only [Vec.ok, Vok, hx', and_self])) (rt_step (rt_x rt_vec (x := x.Settings.Gravity) (by simp only [Vec.ok, Vok, hx', and_self])) (rt_step (rt_x rt_int (x := x.Settings.Iterations) (by simp only [Vec.ok, Vok, hx', and_self])) (rt_step (rt_x rt_int (x := x.Settings.SleepSteps) (by simp only [Vec.ok, Vok, hx', and_self])) (rt_step (rt_Sl rt_Body (l := x.Bodies) (fun a ha => ⟨hx.1.2.1.1 a ha, hx.2.2.1 a ha⟩) (hx.2.1)) (rt_step (rt_Sl rt_Joint (l := x.Joints) (fun a ha => hx.1.2.2.1.1 a ha) (hx.2.2.2.1)) (rt_step (rt_Sl rt_Contact (l := x.Contacts) (fun a ha => ⟨hx.1.2.2.2.1.1 a ha, by have := hx.2.2.2.2.2.1 a ha; omega⟩) (hx.2.2.2.2.1)) (rt_step (rt_Sl rt_Key (l := x.Overlaps) (fun a ha => hx.1.2.2.2.2.1.1 a ha) (hx.2.2.2.2.2.2)) (rt_step (rt_x rt_int (x := x.NextID) (by simp only [Vec.ok, Vok, hx', and_self])) (rt_step (rt_x rt_int (x := x.Frame) (by simp only [Vec.ok, Vok, hx', and_self])) rt_end))))))))))
  have e : encW x = intB x.Settings.TimeStep ++ (vecB x.Settings.Gravity ++ (intB x.Settings.Iterations ++ (intB x.Settings.SleepSteps ++ (slB bodB x.Bodies ++ (slB jntB x.Joints ++ (slB ctcB x.Contacts ++ (slB keyB x.Overlaps ++ (intB x.NextID ++ (intB x.Frame ++ ([])))))))))) := by simp [encW, ctcH, bodH, encH, enc1, enc2, enc3, keyB, intsB, vecsB, boolsB, slB, List.append_assoc]
  rw [e]; exact h pre post
theorem cnr_World : CNR rWorld (fun x e => e = encW x) := by
  refine cn_mono (R := _) (by unfold rWorld; exact (cn_step cnr_int fun x0 => (cn_step cnr_vec fun x1 => (cn_step cnr_int fun x2 => (cn_step cnr_int fun x3 => (cn_step (cnr_Sl cnr_Body) fun x4 => (cn_step (cnr_Sl cnr_Joint) fun x5 => (cn_step (cnr_Sl cnr_Contact) fun x6 => (cn_step (cnr_Sl cnr_Key) fun x7 => (cn_step cnr_int fun x8 => (cn_step cnr_int fun x9 => cn_end))))))))))) ?_
  rintro y e ⟨x0, e0, f0, rfl, rfl, x1, e1, f1, rfl, rfl, x2, e2, f2, rfl, rfl, x3, e3, f3, rfl, rfl, x4, e4, f4, rfl, rfl, x5, e5, f5, rfl, rfl, x6, e6, f6, rfl, rfl, x7, e7, f7, rfl, rfl, x8, e8, f8, rfl, rfl, x9, e9, f9, rfl, rfl, rfl, rfl⟩
  simp [encW, ctcH, bodH, encH, enc1, enc2, enc3, keyB, intsB, vecsB, boolsB, slB, List.append_assoc]
end Go.Abs
end
section
namespace Go.Abs
open Go.Proofs
open Api
theorem opR_seal (p : List Int) : opR (sealB p) = .ok p := by
  have hl : (sealB p).length = p.length + 4 := by unfold sealB; rw [List.length_append]; rfl
  have ht : (sealB p).take ((sealB p).length - 4) = p := by
    rw [hl, Nat.add_sub_cancel]; unfold sealB; exact List.take_left' rfl
  unfold opR
  rw [if_neg (by omega), ht, if_pos rfl]
theorem rWorld_enc {w : Api.World} (h : WOK w) : rWorld (encW w) 0 = .ok (w, (encW w).length) := by
  have := rt_World [] [] w h
  simpa using this
theorem decR_encR {w : Api.World} (h : WOK w) (hv : d_world_Validate w = 0) : decR (encR w) = (w, 0) := by
  unfold decR encR
  rw [if_pos hv, opR_seal]
  simp only [rWorld_enc h]
  rw [if_neg (by omega), if_pos hv]
theorem rWorld_can {b : List Int} {w : Api.World} {t : Int} (hB : bytes b) (h : rWorld b 0 = .ok (w, t)) (ht : ¬ t < b.length) : b = encW w := by
  obtain ⟨e, post, h1, h2, h3⟩ := cnr_World [] b w t hB h
  subst h3
  rw [h1, List.length_append] at ht
  rw [List.length_nil] at h2
  have : post = [] := List.eq_nil_of_length_eq_zero (by omega)
  rw [h1, this, List.append_nil]
end Go.Abs
end
section
namespace Go.Abs
open Go.Proofs
open Api
theorem itrE_at {S R : Type} {f : Nat → S → S ⊕ R} {s0 : S} : ∀ {n : Nat} {s : S}, itrE f n s0 = .inl s → ∀ i, i < n → ∃ si s', itrE f i s0 = .inl si ∧ f i si = .inl s'
  | 0, _, _, i, hi => by omega
  | n + 1, s, h, i, hi => by
    simp only [itrE] at h
    split at h
    · rename_i s1 h1
      rcases Nat.lt_or_ge i n with hlt | hge
      · exact itrE_at h1 i hlt
      · obtain rfl : i = n := by omega
        exact ⟨s1, s, h1, h⟩
    · cases h
theorem shape_few {s : Shape} (h : d_shape_Validate s = 0) : s.Vertices.length ≤ 64 := by
  unfold d_shape_Validate at h
  simp only at h
  split at h
  · cases h
  · split at h
    · cases h
    · rename_i h1
      have h2 : d_shape_validCount s = true := by simpa using h1
      unfold d_shape_validCount at h2
      split at h2
      · simp at h2; omega
      · split at h2
        · simp at h2; omega
        · simp at h2; omega
theorem body_few {b : Body} (h : d_body_Validate b = 0) : Bfew b := by
  unfold d_body_Validate at h
  simp only at h
  split at h
  · cases h
  · split at h
    · cases h
    · split at h
      · cases h
      · rename_i h3
        refine ⟨by omega, fun f hf => ?_⟩
        cases hi : itrE (d_body_Validate_L1 b) b.Fixtures.length () with
        | inr r =>
          rw [hi] at h
          have : ∀ n r, itrE (d_body_Validate_L1 b) n () = .inr r → r = 13 := by
            intro n
            induction n with
            | zero => intro r h; cases h
            | succ n ih =>
              intro r h
              simp only [itrE] at h
              split at h
              · unfold d_body_Validate_L1 at h
                simp only at h
                split at h
                · cases h; rfl
                · cases h
              · rename_i r' h'; cases h; exact ih _ h'
          have := this _ _ hi
          subst this
          cases h
        | inl s =>
          obtain ⟨i, hil, rfl⟩ := List.getElem_of_mem hf
          obtain ⟨si, s', h4, h5⟩ := itrE_at hi i hil
          unfold d_body_Validate_L1 at h5
          simp only at h5
          split at h5
          · cases h5
          · rename_i h6
            have h7 : d_body_ValidateFixture (b.Fixtures.getD i default) = 0 := by simpa using h6
            have h8 : b.Fixtures.getD i default = b.Fixtures[i] := by simp [List.getD, hil]
            rw [h8] at h7
            unfold d_body_ValidateFixture at h7
            simp only at h7
            split at h7
            · rename_i h9; rw [h7] at h9; simp at h9
            · rename_i h9; exact shape_few (by simpa using h9)
theorem valid_few {w : Api.World} (h : d_world_Validate w = 0) : Wfew w := by
  unfold d_world_Validate at h
  simp only at h
  split at h
  · cases h
  split at h
  · cases h
  rename_i h2
  split at h
  · cases h
  split at h
  · cases h
  rename_i h4
  split at h
  · cases h
  split at h
  · cases h
  rename_i h6
  simp only [Bool.or_eq_true, decide_eq_true_eq, not_or] at h2
  obtain ⟨⟨⟨a1, a2⟩, a3⟩, a4⟩ := h2
  refine ⟨by omega, fun b hb => ?_, by omega, by omega, fun c hc => ?_, by omega⟩
  · have h5 : d_world_validBodies w = true := by simpa using h4
    unfold d_world_validBodies at h5
    cases hi : itrE (d_world_validBodies_L1 w) w.Bodies.length 0 with
    | inr r =>
      rw [hi] at h5
      have : ∀ n r, itrE (d_world_validBodies_L1 w) n 0 = .inr r → r = false := by
        intro n
        induction n with
        | zero => intro r h; cases h
        | succ n ih =>
          intro r h
          simp only [itrE] at h
          split at h
          · unfold d_world_validBodies_L1 at h
            simp only at h
            split at h
            · cases h; rfl
            · cases h
          · rename_i r' h'; cases h; exact ih _ h'
      have := this _ _ hi
      subst this
      cases h5
    | inl s =>
      obtain ⟨i, hil, rfl⟩ := List.getElem_of_mem hb
      obtain ⟨si, s', h4, h5⟩ := itrE_at hi i hil
      unfold d_world_validBodies_L1 at h5
      simp only at h5
      split at h5
      · cases h5
      · rename_i h7
        have h8 : w.Bodies.getD i default = w.Bodies[i] := by simp [List.getD, hil]
        simp only [Bool.or_eq_true, not_or] at h7
        have h9 := h7.1.1
        rw [h8] at h9
        exact body_few (by simpa using h9)
  · have h7 : okContacts w = true := by simpa using h6
    unfold okContacts at h7
    simp only [Bool.and_eq_true, List.all_eq_true] at h7
    have h8 := h7.1.1.1 c hc
    unfold d_world_validManifold at h8
    split at h8
    · rename_i h9
      simp only [Bool.or_eq_false_iff, decide_eq_false_iff_not] at h9
      omega
    · cases h8
theorem encR_valid {w : Api.World} (h : encE w = 0) : d_world_Validate w = 0 ∧ encR w = sealB (encW w) := by
  unfold encE at h
  unfold encR
  split at h
  · rename_i hv; exact ⟨hv, by rw [if_pos hv]⟩
  · cases h
theorem encR_iff {v w : Api.World} (hv : WOK v) (hw : WOK w) (h1 : encE v = 0) (h2 : encE w = 0) : encR v = encR w ↔ v = w := by
  constructor
  · intro h
    have e1 := decR_encR hv (encR_valid h1).1
    have e2 := decR_encR hw (encR_valid h2).1
    rw [h] at e1
    exact congrArg Prod.fst (e1.symm.trans e2)
  · intro h; rw [h]
theorem enc_bytes {w : Api.World} : bytes (encW w) := by
  have hi : ∀ n, bytes (intB n) := fun n x hx => by
    have hl : ∀ u k, bytes (lowD u k) := fun u k => by
      induction k with
      | zero => intro x hx; cases hx
      | succ k ih =>
        intro x hx
        rcases List.mem_cons.1 hx with rfl | hx
        · omega
        · exact ih x hx
    rcases List.mem_cons.1 hx with rfl | hx
    · have := ndig_le (mag n)
      unfold digB; rw [lowD_len]; split <;> omega
    · exact hl _ _ x hx
  have hb : ∀ x, bytes (boolB x) := fun x y hy => by
    unfold boolB at hy
    obtain rfl := List.mem_singleton.1 hy
    split <;> omega
  have hm : ∀ {α : Type} (f : α → List Int) (l : List α), (∀ a, bytes (f a)) → bytes (l.flatMap f) := fun f l h x hx => by
    obtain ⟨a, _, ha⟩ := List.mem_flatMap.1 hx
    exact h a x ha
  have ha : ∀ {l m : List Int}, bytes l → bytes m → bytes (l ++ m) := fun h1 h2 x hx => by
    rcases List.mem_append.1 hx with hx | hx
    · exact h1 x hx
    · exact h2 x hx
  have hv : ∀ v, bytes (vecB v) := fun v => ha (hi _) (hi _)
  have hI : ∀ l, bytes (intsB l) := fun l => hm _ _ hi
  have hB : ∀ l, bytes (boolsB l) := fun l => hm _ _ hb
  have hV : ∀ l, bytes (vecsB l) := fun l => hm _ _ hv
  have hk : ∀ k, bytes (keyB k) := fun k => hI _
  have hf : ∀ f, bytes (fixB f) := fun f => ha (ha (ha (ha (hI _) (hV _)) (hI _)) (hB _)) (hI _)
  have hbd : ∀ b, bytes (bodB b) := fun b => ha (ha (ha (ha (ha (ha (ha (ha (ha (hI _) (hV _)) (hI _)) (hV _)) (hI _)) (hV _)) (hI _)) (hB _)) (hI _)) (hm _ _ hf)
  have hj : ∀ j, bytes (jntB j) := fun j => ha (ha (ha (ha (ha (ha (ha (ha (hI _) (hV _)) (hI _)) (hB _)) (hI _)) (hB _)) (hI _)) (hB _)) (hI _)
  have hp : ∀ p, bytes (ptB p) := fun p => ha (hV _) (hI _)
  have hc : ∀ c, bytes (ctcB c) := fun c => ha (ha (ha (hk _) (hV _)) (hI _)) (hm _ _ hp)
  have h1 : bytes (encH w) := ha (ha (hI _) (hV _)) (hI _)
  have h2 : bytes (enc1 w) := ha (ha h1 (hm _ _ hbd)) (hI _)
  have h3 : bytes (enc2 w) := ha (ha h2 (hm _ _ hj)) (hI _)
  have h4 : bytes (enc3 w) := ha (ha h3 (hm _ _ hc)) (hI _)
  exact ha (ha h4 (hm _ _ hk)) (hI _)
theorem encR_bytes {w : Api.World} : bytes (encR w) := by
  unfold encR
  split
  · exact seal_bytes enc_bytes
  · intro x hx; cases hx
end Go.Abs
end
section
namespace Go.Abs
open Go.Proofs
open Api
theorem s_law45_SnapshotCanonical (v w : Api.World) (b : List Int) (hv : World.ok v) (hw : World.ok w) (hb : bytes b) : CallsA Tryz.prog F_law45_SnapshotCanonical [.agg v.enc, .agg w.enc, encD 1 encU8 0 b] [] (.sc (.bool true)) [] := by
  refine en1 hm shOk Tryz.func5 rfl rfl ?_
  simp only [go_sem, ↓reduceIte, Nat.reduceEqDiff, reduceCtorEq, Nat.reduceAdd, Nat.reduceLeDiff, Nat.reduceMul, Nat.reduceSub, Int.reduceToNat]
  by_cases h2 : (3000 : Int) < (b.length : Int)
  · simp only [h2, decide_true, go_sem, ↓reduceIte, Nat.reduceEqDiff, reduceCtorEq, Nat.reduceAdd, Nat.reduceLeDiff, Nat.reduceMul, Nat.reduceSub, Int.reduceToNat]
    refine CallGi_skip5 rfl (.sc (.bool true)) ?_
    simp only [h2, decide_true, go_sem, ↓reduceIte, Nat.reduceEqDiff, reduceCtorEq, Nat.reduceAdd, Nat.reduceLeDiff, Nat.reduceMul, Nat.reduceSub, Int.reduceToNat]
    refine CallGi_skip5 rfl (.sc (.bool true)) ?_
    simp only [h2, decide_true, go_sem, ↓reduceIte, Nat.reduceEqDiff, reduceCtorEq, Nat.reduceAdd, Nat.reduceLeDiff, Nat.reduceMul, Nat.reduceSub, Int.reduceToNat]
    refine CallGi_flat s_law45_example rfl ?_
    simp only [go_sem, ↓reduceIte, Nat.reduceEqDiff, reduceCtorEq, Nat.reduceAdd, Nat.reduceLeDiff, Nat.reduceMul, Nat.reduceSub, Int.reduceToNat]
  simp only [h2, decide_false, go_sem, ↓reduceIte, Nat.reduceEqDiff, reduceCtorEq, Nat.reduceAdd, Nat.reduceLeDiff, Nat.reduceMul, Nat.reduceSub, Int.reduceToNat]
  refine CallGi_flat (s_r27_IsSmall v) rfl ?_
  simp only [h2, decide_false, go_sem, ↓reduceIte, Nat.reduceEqDiff, reduceCtorEq, Nat.reduceAdd, Nat.reduceLeDiff, Nat.reduceMul, Nat.reduceSub, Int.reduceToNat]
  cases hs : isSmall v with
  | false =>
    refine CallGi_skip5 rfl (.sc (.bool true)) ?_
    simp only [h2, decide_false, go_sem, ↓reduceIte, Nat.reduceEqDiff, reduceCtorEq, Nat.reduceAdd, Nat.reduceLeDiff, Nat.reduceMul, Nat.reduceSub, Int.reduceToNat]
    refine CallGi_flat s_law45_example rfl ?_
    simp only [go_sem, ↓reduceIte, Nat.reduceEqDiff, reduceCtorEq, Nat.reduceAdd, Nat.reduceLeDiff, Nat.reduceMul, Nat.reduceSub, Int.reduceToNat]
  | true =>
    refine CallGi_flat (s_r27_IsSmall w) rfl ?_
    simp only [h2, decide_false, go_sem, ↓reduceIte, Nat.reduceEqDiff, reduceCtorEq, Nat.reduceAdd, Nat.reduceLeDiff, Nat.reduceMul, Nat.reduceSub, Int.reduceToNat]
    cases hs' : isSmall w with
    | false =>
      simp only [h2, decide_false, go_sem, ↓reduceIte, Nat.reduceEqDiff, reduceCtorEq, Nat.reduceAdd, Nat.reduceLeDiff, Nat.reduceMul, Nat.reduceSub, Int.reduceToNat]
      refine CallGi_flat s_law45_example rfl ?_
      simp only [go_sem, ↓reduceIte, Nat.reduceEqDiff, reduceCtorEq, Nat.reduceAdd, Nat.reduceLeDiff, Nat.reduceMul, Nat.reduceSub, Int.reduceToNat]
    | true =>
      have v1 := isSmall_sm hs
      have v2 := isSmall_few hs
      have w1 := isSmall_sm hs'
      have w2 := isSmall_few hs'
      have hsl : (sealB b).length ≤ 900000000 := by unfold sealB; rw [List.length_append]; show _ + 4 ≤ _; omega
      simp only [h2, decide_false, go_sem, ↓reduceIte, Nat.reduceEqDiff, reduceCtorEq, Nat.reduceAdd, Nat.reduceLeDiff, Nat.reduceMul, Nat.reduceSub, Int.reduceToNat]
      refine CallGi_flat (s_snapshot_Encode v v1 v2) rfl ?_
      simp only [go_sem, ↓reduceIte, Nat.reduceEqDiff, reduceCtorEq, Nat.reduceAdd, Nat.reduceLeDiff, Nat.reduceMul, Nat.reduceSub, Int.reduceToNat]
      refine CallGi_flat (s_snapshot_Encode w w1 w2) rfl ?_
      simp only [go_sem, ↓reduceIte, Nat.reduceEqDiff, reduceCtorEq, Nat.reduceAdd, Nat.reduceLeDiff, Nat.reduceMul, Nat.reduceSub, Int.reduceToNat]
      refine ⟨fun _ i _ => ⟨_, rfl⟩, fun _ i _ => ⟨_, rfl⟩, ?_⟩
      have hcmp : encE v = 0 → encE w = 0 → ((strB (encQ encU8 0 (encR v))).toList == (strB (encQ encU8 0 (encR w))).toList) = decide (v = w) := fun h1 h2 => by
        have d1 : (strB (encQ encU8 0 (encR v))).toList = u8s (encR v) := strB_list rfl fun _ _ => rfl
        have d2 : (strB (encQ encU8 0 (encR w))).toList = u8s (encR w) := strB_list rfl fun _ _ => rfl
        rw [d1, d2, u8s_beq encR_bytes encR_bytes]
        exact decide_eq_decide.2 (encR_iff ⟨hv, v2⟩ ⟨hw, w2⟩ h1 h2)
      cases hE : (encE v == 0 && encE w == 0) with
      | true =>
        rw [Bool.and_eq_true] at hE
        have h1 : encE v = 0 := by simpa using hE.1
        have h3 : encE w = 0 := by simpa using hE.2
        refine CallGi_flat (s_r25_Equal v w v1) rfl ?_
        simp only [hcmp h1 h3, go_sem, ↓reduceIte, Nat.reduceEqDiff, reduceCtorEq, Nat.reduceAdd, Nat.reduceLeDiff, Nat.reduceMul, Nat.reduceSub, Int.reduceToNat]
        rw [if_neg (by simp)]
        refine CallGi_flat (s_r09_Seal b (by omega)) rfl ?_
        simp only [go_sem, ↓reduceIte, Nat.reduceEqDiff, reduceCtorEq, Nat.reduceAdd, Nat.reduceLeDiff, Nat.reduceMul, Nat.reduceSub, Int.reduceToNat]
        refine CallGi_flat (s_snapshot_Decode (sealB b) hsl (seal_bytes hb)) rfl ?_
        simp only [go_sem, ↓reduceIte, Nat.reduceEqDiff, reduceCtorEq, Nat.reduceAdd, Nat.reduceLeDiff, Nat.reduceMul, Nat.reduceSub, Int.reduceToNat]
        cases hr : rWorld b 0 with
        | error e =>
          have hd : decR (sealB b) = (default, e) := by unfold decR; rw [opR_seal]; simp only [hr]
          have he := nerr_World b _ _ hr
          rw [hd]
          rw [if_pos (by simpa using he)]
          refine CallGi_flat s_law45_example rfl ?_
          simp only [go_sem, ↓reduceIte, Nat.reduceEqDiff, reduceCtorEq, Nat.reduceAdd, Nat.reduceLeDiff, Nat.reduceMul, Nat.reduceSub, Int.reduceToNat]
        | ok x =>
          by_cases hlt : x.2 < (b.length : Int)
          · have hd : decR (sealB b) = (default, 3) := by unfold decR; rw [opR_seal]; simp only [hr, if_pos hlt]
            rw [hd, if_pos (by decide)]
            refine CallGi_flat s_law45_example rfl ?_
            simp only [go_sem, ↓reduceIte, Nat.reduceEqDiff, reduceCtorEq, Nat.reduceAdd, Nat.reduceLeDiff, Nat.reduceMul, Nat.reduceSub, Int.reduceToNat]
          · by_cases hva : d_world_Validate x.1 = 0
            · have hd : decR (sealB b) = (x.1, 0) := by unfold decR; rw [opR_seal]; simp only [hr, if_neg hlt, if_pos hva]
              have hcan := rWorld_can hb hr hlt
              have hsm := rWorld_sm (t' := x.2) (x := x.1) hr
              have hfw := valid_few hva
              rw [hd, if_neg (by simp)]
              refine CallGi_flat (s_snapshot_Encode x.1 hsm hfw) rfl ?_
              have e0 : encE x.1 = 0 := by unfold encE; rw [if_pos hva]
              have e1 : encR x.1 = sealB b := by rw [(encR_valid e0).2, ← hcan]
              simp only [e0, e1, i_beqT, go_sem, ↓reduceIte, Nat.reduceEqDiff, reduceCtorEq, Nat.reduceAdd, Nat.reduceLeDiff, Nat.reduceMul, Nat.reduceSub, Int.reduceToNat]
              refine ⟨fun i _ => ⟨_, rfl⟩, ?_⟩
              refine CallGi_flat (s_r09_Seal b (by omega)) rfl ?_
              simp only [l_beqT, e0, i_beqT, go_sem, ↓reduceIte, Nat.reduceEqDiff, reduceCtorEq, Nat.reduceAdd, Nat.reduceLeDiff, Nat.reduceMul, Nat.reduceSub, Int.reduceToNat]
              refine ⟨fun i _ => ⟨_, rfl⟩, ?_⟩
              refine CallGi_flat s_law45_example rfl ?_
              simp only [e0, e1, i_beqT, l_beqT, go_sem, ↓reduceIte, Nat.reduceEqDiff, reduceCtorEq, Nat.reduceAdd, Nat.reduceLeDiff, Nat.reduceMul, Nat.reduceSub, Int.reduceToNat]
            · have hd : decR (sealB b) = (default, 18) := by unfold decR; rw [opR_seal]; simp only [hr, if_neg hlt, if_neg hva]
              rw [hd, if_pos (by decide)]
              refine CallGi_flat s_law45_example rfl ?_
              simp only [go_sem, ↓reduceIte, Nat.reduceEqDiff, reduceCtorEq, Nat.reduceAdd, Nat.reduceLeDiff, Nat.reduceMul, Nat.reduceSub, Int.reduceToNat]
      | false =>
        refine CallGi_skip5 rfl (.sc (.bool true)) ?_
        simp only [go_sem, ↓reduceIte, Nat.reduceEqDiff, reduceCtorEq, Nat.reduceAdd, Nat.reduceLeDiff, Nat.reduceMul, Nat.reduceSub, Int.reduceToNat]
        refine CallGi_flat (s_r09_Seal b (by omega)) rfl ?_
        simp only [go_sem, ↓reduceIte, Nat.reduceEqDiff, reduceCtorEq, Nat.reduceAdd, Nat.reduceLeDiff, Nat.reduceMul, Nat.reduceSub, Int.reduceToNat]
        refine CallGi_flat (s_snapshot_Decode (sealB b) hsl (seal_bytes hb)) rfl ?_
        simp only [go_sem, ↓reduceIte, Nat.reduceEqDiff, reduceCtorEq, Nat.reduceAdd, Nat.reduceLeDiff, Nat.reduceMul, Nat.reduceSub, Int.reduceToNat]
        cases hr : rWorld b 0 with
        | error e =>
          have hd : decR (sealB b) = (default, e) := by unfold decR; rw [opR_seal]; simp only [hr]
          have he := nerr_World b _ _ hr
          rw [hd]
          rw [if_pos (by simpa using he)]
          refine CallGi_flat s_law45_example rfl ?_
          simp only [go_sem, ↓reduceIte, Nat.reduceEqDiff, reduceCtorEq, Nat.reduceAdd, Nat.reduceLeDiff, Nat.reduceMul, Nat.reduceSub, Int.reduceToNat]
        | ok x =>
          by_cases hlt : x.2 < (b.length : Int)
          · have hd : decR (sealB b) = (default, 3) := by unfold decR; rw [opR_seal]; simp only [hr, if_pos hlt]
            rw [hd, if_pos (by decide)]
            refine CallGi_flat s_law45_example rfl ?_
            simp only [go_sem, ↓reduceIte, Nat.reduceEqDiff, reduceCtorEq, Nat.reduceAdd, Nat.reduceLeDiff, Nat.reduceMul, Nat.reduceSub, Int.reduceToNat]
          · by_cases hva : d_world_Validate x.1 = 0
            · have hd : decR (sealB b) = (x.1, 0) := by unfold decR; rw [opR_seal]; simp only [hr, if_neg hlt, if_pos hva]
              have hcan := rWorld_can hb hr hlt
              have hsm := rWorld_sm (t' := x.2) (x := x.1) hr
              have hfw := valid_few hva
              rw [hd, if_neg (by simp)]
              refine CallGi_flat (s_snapshot_Encode x.1 hsm hfw) rfl ?_
              have e0 : encE x.1 = 0 := by unfold encE; rw [if_pos hva]
              have e1 : encR x.1 = sealB b := by rw [(encR_valid e0).2, ← hcan]
              simp only [e0, e1, i_beqT, go_sem, ↓reduceIte, Nat.reduceEqDiff, reduceCtorEq, Nat.reduceAdd, Nat.reduceLeDiff, Nat.reduceMul, Nat.reduceSub, Int.reduceToNat]
              refine ⟨fun i _ => ⟨_, rfl⟩, ?_⟩
              refine CallGi_flat (s_r09_Seal b (by omega)) rfl ?_
              simp only [l_beqT, e0, i_beqT, go_sem, ↓reduceIte, Nat.reduceEqDiff, reduceCtorEq, Nat.reduceAdd, Nat.reduceLeDiff, Nat.reduceMul, Nat.reduceSub, Int.reduceToNat]
              refine ⟨fun i _ => ⟨_, rfl⟩, ?_⟩
              refine CallGi_flat s_law45_example rfl ?_
              simp only [e0, e1, i_beqT, l_beqT, go_sem, ↓reduceIte, Nat.reduceEqDiff, reduceCtorEq, Nat.reduceAdd, Nat.reduceLeDiff, Nat.reduceMul, Nat.reduceSub, Int.reduceToNat]
            · have hd : decR (sealB b) = (default, 18) := by unfold decR; rw [opR_seal]; simp only [hr, if_neg hlt, if_neg hva]
              rw [hd, if_pos (by decide)]
              refine CallGi_flat s_law45_example rfl ?_
              simp only [go_sem, ↓reduceIte, Nat.reduceEqDiff, reduceCtorEq, Nat.reduceAdd, Nat.reduceLeDiff, Nat.reduceMul, Nat.reduceSub, Int.reduceToNat]
end Go.Abs
end
