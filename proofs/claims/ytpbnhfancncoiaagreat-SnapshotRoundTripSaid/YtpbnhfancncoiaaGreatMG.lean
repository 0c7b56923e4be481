/- A part of the proof: contracts of functions that the statement reaches. -/
import Derived.Test.YtpbnhfancncoiaaGreatMF
import Derived.Laws.Strings
import Derived.Below
set_option linter.unusedSimpArgs false
set_option linter.unusedVariables false
set_option linter.unnecessarySimpa false
set_option maxRecDepth 100000
set_option maxHeartbeats 2000000
section
namespace Go.Abs
open Go.Proofs
open Api
def u8s (l : List Int) : List UInt8 := l.map fun k => UInt8.ofNat k.toNat
theorem strB_list {n : Nat} {g : Nat → List AV} {l : List Int} (hn : n = l.length) (hg : ∀ i, i < n → g i = encU8 (l.getD i 0)) : (strB ⟨n, g⟩).toList = u8s l := by
  rw [ByteArray.toList_eq]
  show (((List.range n).map fun i => byteOf (g i)).toArray).toList = _
  subst hn
  refine List.ext_getElem (by simp [u8s]) fun i h1 h2 => ?_
  have hi : i < l.length := by simpa [u8s] using h2
  simp only [List.toList_toArray, List.getElem_map, List.getElem_range, u8s]
  rw [hg i hi]
  have : l.getD i 0 = l[i] := by simp [List.getD, hi]
  rw [this]; rfl
theorem u8s_inj : ∀ {l m : List Int}, bytes l → bytes m → u8s l = u8s m → l = m
  | [], [], _, _, _ => rfl
  | [], _ :: _, _, _, h => by simp [u8s] at h
  | _ :: _, [], _, _, h => by simp [u8s] at h
  | a :: l, b :: m, hl, hm', h => by
    simp only [u8s, List.map_cons, List.cons.injEq] at h
    have ha := hl a (List.mem_cons_self ..)
    have hb := hm' b (List.mem_cons_self ..)
    have e : a = b := by
      have := congrArg UInt8.toNat h.1
      simp only [UInt8.toNat_ofNat'] at this
      omega
    rw [e, u8s_inj (fun x hx => hl x (List.mem_cons_of_mem _ hx)) (fun x hx => hm' x (List.mem_cons_of_mem _ hx)) h.2]
theorem u8s_beq {l m : List Int} (hl : bytes l) (hm' : bytes m) : (u8s l == u8s m) = decide (l = m) := by
  rw [Bool.eq_iff_iff, beq_iff_eq, decide_eq_true_eq]
  exact ⟨u8s_inj hl hm', fun h => by rw [h]⟩
theorem crc_bytes (n : Nat) : bytes (crcBytes n) := by
  intro x hx
  simp only [crcBytes, List.mem_cons, List.not_mem_nil, or_false] at hx
  rcases hx with rfl | rfl | rfl | rfl <;> omega
theorem seal_bytes {l : List Int} (h : bytes l) : bytes (sealB l) := by
  intro x hx
  rcases List.mem_append.1 hx with hx | hx
  · exact h x hx
  · exact crc_bytes _ x hx
theorem take_bytes {l : List Int} {n : Nat} (h : bytes l) : bytes (l.take n) := fun x hx => h x (List.mem_of_mem_take hx)
theorem take_getD {l : List Int} {n i : Nat} (h : i < n) : (l.take n).getD i 0 = l.getD i 0 := by
  simp only [List.getD, List.getElem?_take, h, if_true]
def opR (b : List Int) : Except Int (List Int) :=
  if b.length < 4 then .error 4 else if sealB (b.take (b.length - 4)) = b then .ok (b.take (b.length - 4)) else .error 22
def t2l (r : Except Int (List Int)) : List Int × Int := match r with | .ok x => (x, 0) | .error e => ([], e)
theorem s_checksum_Open (b : List Int) (hb : b.length ≤ 900000000) (hB : bytes b) : CallsA Tryz.prog F_checksum_Open [encD 1 encU8 0 b] [] (.tup [encD 1 encU8 0 (t2l (opR b)).1, .sc (.int .i64 (t2l (opR b)).2)]) [] := by
  refine enT hm shOk Tryz.func30 rfl rfl ?_
  simp only [go_sem]
  have w1 : IntKind.i64.wrap ((b.length : Int) - 4) = (b.length : Int) - 4 := by rw [IntKind.wrap_i64]; omega
  rw [w1]
  by_cases h0 : b.length < 4
  · have hr : opR b = .error 4 := by unfold opR; rw [if_pos h0]
    rw [if_pos (by omega), hr]
    simp only [t2l, go_sem]
    exact avle_nilD rfl
  rw [if_neg (by omega)]
  obtain ⟨n, hn⟩ : ∃ n, b.length = n + 4 := ⟨b.length - 4, by omega⟩
  have e1 : (b.length : Int) - 4 = n := by omega
  have e2 : b.length - 4 = n := by omega
  rw [e1]
  have hl : (b.take n).length = n := by rw [List.length_take]; omega
  simp only [Option.toList_some, Option.toList_none, Int.sub_zero, Int.toNat_natCast, go_sem]
  refine ⟨by omega, ?_⟩
  refine CallGi_thaw (s_checksum_Seal (b.take n) (by omega)) ?_
  simp only [argsC, go_sem]
  have hB1 := seal_bytes (take_bytes (n := n) hB)
  have d1 : (strB (encQ encU8 0 (sealB (b.take n)))).toList = u8s (sealB (b.take n)) := strB_list rfl fun _ _ => rfl
  have d2 : (strB (encQ encU8 0 b)).toList = u8s b := strB_list rfl fun _ _ => rfl
  rw [d1, d2, u8s_beq hB1 hB]
  refine ⟨dslv hl.symm (by rw [List.length_take] at hl; exact hl) (fun i hi => by rw [take_getD hi]), fun i _ => ⟨_, rfl⟩, fun i _ => ⟨_, rfl⟩, ?_⟩
  by_cases he : sealB (b.take n) = b
  · have hr : opR b = .ok (b.take n) := by unfold opR; rw [if_neg h0, e2, if_pos he]
    rw [if_neg (by simpa using he), hr]
    refine ⟨by omega, by simp only [maxLen]; omega, dslv (l := b.take n) (by omega) (by show (b.take n).length = _; omega) (fun i hi => by rw [take_getD (by omega)]), rfl⟩
  · have hr : opR b = .error 22 := by unfold opR; rw [if_neg h0, e2, if_neg he]
    rw [if_pos (by simpa using he), hr]
    exact ⟨avle_nilD rfl, rfl⟩
end Go.Abs
end
section
namespace Go.Abs
open Go.Proofs
open Api
theorem rN_all {α : Type} {p : Int → Except Int (α × Int)} {Q : α → Prop} (hp : ∀ t x t', p t = .ok (x, t') → Q x) (t : Int) : ∀ n l t', rN p t n = .ok (l, t') → ∀ x ∈ l, Q x
  | 0, l, t', h, x, hx => by cases h; cases hx
  | n + 1, l, t', h, x, hx => by
    simp only [rN] at h
    split at h
    · cases h
    · rename_i y hy
      split at h
      · cases h
      · rename_i z hz
        cases h
        rcases List.mem_append.1 hx with hx | hx
        · exact rN_all hp t n _ _ hy x hx
        · obtain rfl := List.mem_singleton.1 hx
          exact hp _ _ _ hz
theorem rSl_all {α : Type} {p : Int → Except Int (α × Int)} {b : List Int} {Q : α → Prop} (hp : ∀ t x t', p t = .ok (x, t') → Q x) {t t' : Int} {l : List α} (h : rSl p b t = .ok (l, t')) : (∀ x ∈ l, Q x) ∧ l.length ≤ 8192 := by
  unfold rSl at h
  split at h
  · cases h
  · rename_i x hx
    obtain ⟨h1, h2, h3⟩ := rLen_ok hx
    have hl := rN_len h
    simp only at hl
    exact ⟨rN_all hp _ _ _ _ h, by omega⟩
theorem rFixture_sm {b : List Int} {t t' : Int} {x : Fixture} (h : rFixture b t = .ok (x, t')) : Fixture.sm x := by
  unfold rFixture at h
  obtain ⟨x0, t0, h0, h⟩ := RB_ok h
  obtain ⟨x1, t1, h1, h⟩ := RB_ok h
  obtain ⟨x2, t2, h2, h⟩ := RB_ok h
  obtain ⟨x3, t3, h3, h⟩ := RB_ok h
  obtain ⟨x4, t4, h4, h⟩ := RB_ok h
  obtain ⟨x5, t5, h5, h⟩ := RB_ok h
  obtain ⟨x6, t6, h6, h⟩ := RB_ok h
  obtain ⟨x7, t7, h7, h⟩ := RB_ok h
  obtain ⟨x8, t8, h8, h⟩ := RB_ok h
  obtain ⟨x9, t9, h9, h⟩ := RB_ok h
  cases h
  have := (rSl_all (Q := fun _ => True) (fun _ _ _ _ => trivial) h2).2
  show x2.length ≤ 1048576
  omega
theorem rBody_sm {b : List Int} {t t' : Int} {x : Body} (h : rBody b t = .ok (x, t')) : Body.sm x := by
  unfold rBody at h
  obtain ⟨x0, t0, h0, h⟩ := RB_ok h
  obtain ⟨x1, t1, h1, h⟩ := RB_ok h
  obtain ⟨x2, t2, h2, h⟩ := RB_ok h
  obtain ⟨x3, t3, h3, h⟩ := RB_ok h
  obtain ⟨x4, t4, h4, h⟩ := RB_ok h
  obtain ⟨x5, t5, h5, h⟩ := RB_ok h
  obtain ⟨x6, t6, h6, h⟩ := RB_ok h
  obtain ⟨x7, t7, h7, h⟩ := RB_ok h
  obtain ⟨x8, t8, h8, h⟩ := RB_ok h
  obtain ⟨x9, t9, h9, h⟩ := RB_ok h
  obtain ⟨x10, t10, h10, h⟩ := RB_ok h
  obtain ⟨x11, t11, h11, h⟩ := RB_ok h
  obtain ⟨x12, t12, h12, h⟩ := RB_ok h
  obtain ⟨x13, t13, h13, h⟩ := RB_ok h
  obtain ⟨x14, t14, h14, h⟩ := RB_ok h
  obtain ⟨x15, t15, h15, h⟩ := RB_ok h
  obtain ⟨x16, t16, h16, h⟩ := RB_ok h
  cases h
  obtain ⟨k1, k2⟩ := rSl_all (Q := Fixture.sm) (fun _ _ _ h => rFixture_sm h) h16
  exact ⟨by show x16.length ≤ 1048576; omega, k1⟩
theorem rContact_sm {b : List Int} {t t' : Int} {x : Contact} (h : rContact b t = .ok (x, t')) : Manifold.sm x.Manifold := by
  unfold rContact at h
  obtain ⟨x0, t0, h0, h⟩ := RB_ok h
  obtain ⟨x1, t1, h1, h⟩ := RB_ok h
  obtain ⟨x2, t2, h2, h⟩ := RB_ok h
  cases h
  have := (rSl_all (Q := fun _ => True) (fun _ _ _ _ => trivial) h2).2
  show x2.length ≤ 1048576
  omega
end Go.Abs
end
section
namespace Go.Abs
open Go.Proofs
open Api
theorem rWorld_sm {b : List Int} {t t' : Int} {x : Api.World} (h : rWorld b t = .ok (x, t')) : Wsm x := by
  unfold rWorld at h
  obtain ⟨x0, t0, h0, h⟩ := RB_ok h
  obtain ⟨x1, t1, h1, h⟩ := RB_ok h
  obtain ⟨x2, t2, h2, h⟩ := RB_ok h
  obtain ⟨x3, t3, h3, h⟩ := RB_ok h
  obtain ⟨x4, t4, h4, h⟩ := RB_ok h
  obtain ⟨x5, t5, h5, h⟩ := RB_ok h
  obtain ⟨x6, t6, h6, h⟩ := RB_ok h
  obtain ⟨x7, t7, h7, h⟩ := RB_ok h
  obtain ⟨x8, t8, h8, h⟩ := RB_ok h
  obtain ⟨x9, t9, h9, h⟩ := RB_ok h
  cases h
  obtain ⟨k1, k2⟩ := rSl_all (Q := Body.sm) (fun _ _ _ h => rBody_sm h) h4
  obtain ⟨l1, _⟩ := rSl_all (Q := fun _ => True) (fun _ _ _ _ => trivial) h5
  obtain ⟨m1, m2⟩ := rSl_all (Q := fun c => Manifold.sm c.Manifold) (fun _ _ _ h => rContact_sm h) h6
  obtain ⟨n1, _⟩ := rSl_all (Q := fun _ => True) (fun _ _ _ _ => trivial) h7
  exact ⟨by show x4.length ≤ _; omega, by show x5.length ≤ _; omega, by show x6.length ≤ _; omega, by show x7.length ≤ _; omega, k1, m1⟩
def decR (b : List Int) : Api.World × Int := match opR b with
  | .error e => (default, e)
  | .ok c => match rWorld c 0 with
    | .error e => (default, e)
    | .ok x => if x.2 < (c.length : Int) then (default, 3) else if d_world_Validate x.1 = 0 then (x.1, 0) else (default, 18)
theorem opR_ok {b c : List Int} (h : opR b = .ok c) : 4 ≤ b.length ∧ c = b.take (b.length - 4) ∧ sealB c = b := by
  unfold opR at h
  split at h
  · cases h
  · split at h
    · rename_i h1 h2; cases h; exact ⟨by omega, rfl, h2⟩
    · cases h
theorem opR_err {b : List Int} {e : Int} (h : opR b = .error e) : e ≠ 0 := by
  unfold opR at h
  split at h
  · cases h; decide
  · split at h
    · cases h
    · cases h; decide
theorem s_snapshot_Decode (b : List Int) (hb : b.length ≤ 900000000) (hB : bytes b) : CallsA Tryz.prog F_snapshot_Decode [encD 1 encU8 0 b] [] (.tup [.agg (decR b).1.enc, .sc (.int .i64 (decR b).2)]) [] := by
  have h1 := s_checksum_Open b hb hB
  refine enRT 40 [(2, some (some 11)), (3, none)] hm shOk Tryz.func10 rfl ?_
  simp only [go_sem]
  cases ho : opR b with
  | error e =>
    have he := opR_err ho
    have hd : decR b = (default, e) := by unfold decR; rw [ho]
    have hne : (e != 0) = true := by simpa using he
    rw [ho] at h1
    simp only [t2l] at h1
    refine CallGi_flat h1 rfl ?_
    simp only [hd, hne, go_sem]
    first | done | (try simp only [go_sem]) <;> ((repeat' (with_reducible apply And.intro)) <;> first | rfl | exact avle_nilD rfl | exact avle_refl _)
  | ok c =>
    obtain ⟨hc1, hc2, hc3⟩ := opR_ok ho
    have hcl : c.length ≤ 549755813888 := by rw [hc2, List.length_take]; omega
    have hcB : bytes c := by rw [hc2]; exact take_bytes hB
    rw [ho] at h1
    simp only [t2l] at h1
    refine CallGi_flat h1 rfl ?_
    simp only [n00, go_sem]
    have h2 := s_decodeAt_World c 0 F_snapshot_decoder_world (rWorld c) (fun t => s_dec_world c t hcl hcB) (nerr_World c)
    cases hr : rWorld c 0 with
    | error e =>
      have he := nerr_World c _ _ hr
      have hd : decR b = (default, e) := by unfold decR; rw [ho]; simp only [hr]
      have hne : (e != 0) = true := by simpa using he
      rw [hr] at h2
      simp only [t3d] at h2
      refine CallGi_flat h2 rfl ?_
      simp only [hd, hne, go_sem]
      first | done | (try simp only [go_sem]) <;> ((repeat' (with_reducible apply And.intro)) <;> first | rfl | exact avle_nilD rfl | exact avle_refl _)
    | ok x =>
      have hsm := rWorld_sm (t' := x.2) (x := x.1) hr
      rw [hr] at h2
      simp only [t3d] at h2
      refine CallGi_flat h2 rfl ?_
      simp only [n00, go_sem]
      by_cases hlt : x.2 < (c.length : Int)
      · have hd : decR b = (default, 3) := by unfold decR; rw [ho]; simp only [hr, if_pos hlt]
        rw [if_pos hlt]
        simp only [hd, go_sem]
        first | done | (try simp only [go_sem]) <;> ((repeat' (with_reducible apply And.intro)) <;> first | rfl | exact avle_nilD rfl | exact avle_refl _)
      · rw [if_neg hlt]
        skip
        refine CallGi_flat (s_world_Validate x.1 hsm) rfl ?_
        simp only [go_sem]
        by_cases hv : d_world_Validate x.1 = 0
        · have hd : decR b = (x.1, 0) := by unfold decR; rw [ho]; simp only [hr, if_neg hlt, if_pos hv]
          rw [if_neg (by simpa using hv)]
          simp only [hd, go_sem]
          first | done | (try simp only [go_sem]) <;> ((repeat' (with_reducible apply And.intro)) <;> first | rfl | exact avle_nilD rfl | exact avle_refl _)
        · have hd : decR b = (default, 18) := by unfold decR; rw [ho]; simp only [hr, if_neg hlt, if_neg hv]
          rw [if_pos (by simpa using hv)]
          simp only [hd, go_sem]
          first | done | (try simp only [go_sem]) <;> ((repeat' (with_reducible apply And.intro)) <;> first | rfl | exact avle_nilD rfl | exact avle_refl _)
end Go.Abs
end
section
namespace Go.Abs
open Go.Proofs
open Api
theorem isSmall_few {w : Api.World} (h : isSmall w = true) : Wfew w := by
  simp only [isSmall, few, Bool.and_eq_true, decide_eq_true_eq] at h
  obtain ⟨⟨⟨⟨⟨h1, h2⟩, h3⟩, h4⟩, _⟩, h5, h6, _⟩ := h
  refine ⟨by omega, fun b hb => ?_, by omega, by omega, fun c hc => ?_, by omega⟩
  · have := List.all_eq_true.1 h5 b hb
    simp only [smallB, Bool.and_eq_true, decide_eq_true_eq] at this
    refine ⟨by omega, fun f hf => ?_⟩
    have := List.all_eq_true.1 this.2 f hf
    simp only [smallF, decide_eq_true_eq] at this
    omega
  · have := List.all_eq_true.1 h6 c hc
    simp only [fewP, decide_eq_true_eq] at this
    omega
theorem i_beqT (a : Int) : (a == a) = true := by simp
theorem decT {α : Type} [DecidableEq α] (a : α) : decide (a = a) = true := by simp
end Go.Abs
end
section
namespace Go.Abs
open Go.Proofs
open Api
theorem foldl_beU (l : List Int) : ∀ a : Int, l.foldl (fun u c => u * 256 + c) a = a * 256 ^ l.length + beU l := by
  induction l with
  | nil => intro a; simp [beU]
  | cons c l ih =>
    intro a
    have h := ih (a * 256 + c)
    have h0 := ih (0 * 256 + c)
    unfold beU
    simp only [List.foldl_cons, List.length_cons, Int.pow_succ]
    rw [h, h0, Int.add_mul, Int.zero_mul, Int.zero_add, Int.mul_assoc, Int.mul_comm 256, Int.add_assoc]
theorem beU_cons (c : Int) (l : List Int) : beU (c :: l) = c * 256 ^ l.length + beU l := by
  have := foldl_beU l (0 * 256 + c)
  rw [Int.zero_mul, Int.zero_add] at this
  unfold beU at *
  simpa using this
theorem pow256 (k : Nat) : ((256 : Int) ^ k) = ((256 ^ k : Nat) : Int) := by simp
theorem beU_lowD (u : Nat) : ∀ k, beU (lowD u k) = ((u % 256 ^ k : Nat) : Int)
  | 0 => by simp [lowD, beU, Nat.mod_one]
  | k + 1 => by
    rw [lowD, beU_cons, lowD_len, beU_lowD u k, pow256, Nat.pow_succ, Nat.mod_mul, Nat.mul_comm (256 ^ k)]
    omega
theorem ndig_ex (u : Nat) (hu : u < 18446744073709551616) : ∃ k, k ≤ 8 ∧ u < 256 ^ k ∧ ∀ j, j < k → 256 ^ j ≤ u := by
  by_cases h0 : u < 256 ^ 0
  · exact ⟨0, by omega, h0, fun j hj => by omega⟩
  by_cases h1 : u < 256 ^ 1
  · exact ⟨1, by omega, h1, fun j hj => by obtain rfl : j = 0 := by omega
                                           omega⟩
  by_cases h2 : u < 256 ^ 2
  · exact ⟨2, by omega, h2, fun j hj => by
      have hc : j = 0 ∨ j = 1 := by omega
      rcases hc with rfl | rfl <;> omega⟩
  by_cases h3 : u < 256 ^ 3
  · exact ⟨3, by omega, h3, fun j hj => by
      have hc : j = 0 ∨ j = 1 ∨ j = 2 := by omega
      rcases hc with rfl | rfl | rfl <;> omega⟩
  by_cases h4 : u < 256 ^ 4
  · exact ⟨4, by omega, h4, fun j hj => by
      have hc : j = 0 ∨ j = 1 ∨ j = 2 ∨ j = 3 := by omega
      rcases hc with rfl | rfl | rfl | rfl <;> omega⟩
  by_cases h5 : u < 256 ^ 5
  · exact ⟨5, by omega, h5, fun j hj => by
      have hc : j = 0 ∨ j = 1 ∨ j = 2 ∨ j = 3 ∨ j = 4 := by omega
      rcases hc with rfl | rfl | rfl | rfl | rfl <;> omega⟩
  by_cases h6 : u < 256 ^ 6
  · exact ⟨6, by omega, h6, fun j hj => by
      have hc : j = 0 ∨ j = 1 ∨ j = 2 ∨ j = 3 ∨ j = 4 ∨ j = 5 := by omega
      rcases hc with rfl | rfl | rfl | rfl | rfl | rfl <;> omega⟩
  by_cases h7 : u < 256 ^ 7
  · exact ⟨7, by omega, h7, fun j hj => by
      have hc : j = 0 ∨ j = 1 ∨ j = 2 ∨ j = 3 ∨ j = 4 ∨ j = 5 ∨ j = 6 := by omega
      rcases hc with rfl | rfl | rfl | rfl | rfl | rfl | rfl <;> omega⟩
  by_cases h8 : u < 256 ^ 8
  · exact ⟨8, by omega, h8, fun j hj => by
      have hc : j = 0 ∨ j = 1 ∨ j = 2 ∨ j = 3 ∨ j = 4 ∨ j = 5 ∨ j = 6 ∨ j = 7 := by omega
      rcases hc with rfl | rfl | rfl | rfl | rfl | rfl | rfl | rfl <;> omega⟩
  · exact absurd hu (by omega)
theorem ndig_of {u k : Nat} (hk : k ≤ 8) (h1 : u < 256 ^ k) (h2 : ∀ j, j < k → 256 ^ j ≤ u) : ndig u = k :=
  ndig_eq hk (fun j hj => Nat.div_pos (h2 j hj) (Nat.pow_pos (by decide))) (Nat.div_eq_of_lt h1)
theorem mag_of {n : Int} (h : fits n) : (mag n : Int) = if n < 0 then -n else n := by
  unfold fits at h; unfold mag
  split <;> omega
end Go.Abs
end
section
namespace Go.Abs
open Go.Proofs
open Api
def RT {α : Type} (p : List Int → Int → Except Int (α × Int)) (f : α → List Int) (Ok : α → Prop) : Prop :=
  ∀ pre post x, Ok x → p (pre ++ (f x ++ post)) (pre.length : Nat) = .ok (x, ((pre.length + (f x).length : Nat) : Int))
theorem ap_get (pre : List Int) (H : Int) (r : List Int) : (pre ++ H :: r).getD pre.length 0 = H := by simp [List.getD]
theorem ap_drop (pre : List Int) (H : Int) (r : List Int) : (pre ++ H :: r).drop (pre.length + 1) = r := by
  rw [List.drop_append]; simp
theorem ap_get1 (pre : List Int) (H : Int) (r : List Int) : (pre ++ H :: r).getD (pre.length + 1) 0 = r.getD 0 0 := by
  simp [List.getD, List.getElem?_append_right]
theorem get_take0 {r : List Int} {k : Nat} (h : 0 < k) : (r.take k).getD 0 0 = r.getD 0 0 := by
  cases r with
  | nil => simp
  | cons a r => cases k with
    | zero => omega
    | succ k => simp
theorem lowD_first (u k : Nat) : (lowD u (k + 1)).getD 0 0 = ((u / 256 ^ k % 256 : Nat) : Int) := rfl
theorem rt_int : RT rInt intB fits := by
  intro pre post n hn
  have hm1 := mag_of hn
  unfold fits at hn
  obtain ⟨k, hk, h1, h2⟩ := ndig_ex (mag n) (mag_lt n)
  have hd := ndig_of hk h1 h2
  have hl : (digB n).length = k := by unfold digB; rw [lowD_len, hd]
  have hD : digB n = lowD (mag n) k := by unfold digB; rw [hd]
  have hu : beU (digB n) = mag n := by rw [hD, beU_lowD, Nat.mod_eq_of_lt h1]
  have hI : intB n = ((k : Int) + if n < 0 then 16 else 0) :: digB n := by unfold intB; rw [hl]
  have hil : (intB n).length = k + 1 := by rw [hI, List.length_cons, hl]
  have hf : 0 < k → (digB n).getD 0 0 ≠ 0 := fun h0 => by
    obtain ⟨j, rfl⟩ : ∃ j, k = j + 1 := ⟨k - 1, by omega⟩
    rw [hD, lowD_first]
    have := h2 j (by omega)
    have h3 : 0 < mag n / 256 ^ j := Nat.div_pos this (Nat.pow_pos (by decide))
    have h4 : mag n / 256 ^ j < 256 := by rw [Nat.div_lt_iff_lt_mul (Nat.pow_pos (by decide))]; rw [Nat.pow_succ, Nat.mul_comm] at h1; exact h1
    rw [Nat.mod_eq_of_lt h4]; omega
  have hk0 : mag n ≠ 0 → 0 < k := fun h => by
    rcases Nat.eq_zero_or_pos k with h0 | h0
    · rw [h0] at h1; simp at h1; omega
    · exact h0
  rw [hI, List.cons_append, List.length_cons, hl]
  generalize hH : ((k : Int) + if n < 0 then 16 else 0) = H
  unfold rInt
  have hbl : (pre ++ H :: (digB n ++ post)).length = pre.length + 1 + k + post.length := by simp [hl]; omega
  rw [if_neg (by rw [hbl]; omega), if_neg (by rw [hbl]; omega), Int.toNat_natCast, ap_get]
  unfold rBig
  rw [Int.toNat_natCast, ap_drop, ap_get1, hbl]
  by_cases h0 : n < 0
  · rw [if_pos h0] at hH hm1
    have hkp := hk0 (by omega)
    have e1 : H - 16 = k := by omega
    rw [if_pos (show (16 : Int) < H by omega), e1, Int.toNat_natCast, List.take_left' hl, hu]
    have hg : (digB n ++ post).getD 0 0 ≠ 0 := by
      have := hf hkp
      rw [← get_take0 hkp (r := digB n ++ post), List.take_left' hl]; exact this
    rw [if_neg (by omega), if_neg (by omega), if_neg (by
      rintro (⟨_, h⟩ | ⟨h, _⟩ | ⟨_, h⟩)
      · exact hg h
      · simp at h; omega
      · omega)]
    rw [if_pos (by simp; omega)]
    congr 2
    · omega
    · push_cast; omega
  · rw [if_neg h0] at hH hm1
    have e1 : H = k := by omega
    rw [if_neg (show ¬ (16 : Int) < H by omega), e1, Int.toNat_natCast, List.take_left' hl, hu]
    rw [if_neg (by omega), if_neg (by omega), if_neg (by
      rintro (⟨h, h'⟩ | ⟨_, h⟩ | ⟨h, _⟩)
      · have hkp : 0 < k := by omega
        have := hf hkp
        rw [← get_take0 hkp (r := digB n ++ post), List.take_left' hl] at h'; exact this h'
      · omega
      · simp at h; omega)]
    rw [if_neg (by simp; omega)]
    congr 2
    · push_cast; omega
end Go.Abs
end
section
namespace Go.Abs
open Go.Proofs
open Api
def RTx {β : Type} (r : List Int → Int → Except Int (β × Int)) (y : β) (e : List Int) : Prop :=
  ∀ pre post, r (pre ++ (e ++ post)) (pre.length : Nat) = .ok (y, ((pre.length + e.length : Nat) : Int))
theorem rt_x {α : Type} {p : List Int → Int → Except Int (α × Int)} {f : α → List Int} {Ok : α → Prop} (h : RT p f Ok) {x : α} (hx : Ok x) : RTx p x (f x) := fun pre post => h pre post x hx
theorem rt_step {α β : Type} {p : List Int → Int → Except Int (α × Int)} {q : α → List Int → Int → Except Int (β × Int)} {x : α} {y : β} {e1 e2 : List Int} (h : RTx p x e1) (hq : RTx (q x) y e2) :
    RTx (fun b t => RB (p b t) fun x t => q x b t) y (e1 ++ e2) := by
  intro pre post
  have h1 := h pre (e2 ++ post)
  have h2 := hq (pre ++ e1) post
  simp only [List.append_assoc] at h1 h2 ⊢
  rw [h1]
  simp only [RB]
  rw [List.length_append] at h2
  rw [h2]
  simp only [List.length_append]
  rw [Nat.add_assoc]
theorem rt_end {β : Type} {y : β} : RTx (fun _ t => .ok (y, t)) y [] := fun pre post => by simp
theorem ap_get2 (pre : List Int) (H : Int) (r : List Int) : (pre ++ ([H] ++ r)).getD pre.length 0 = H := ap_get pre H r
theorem rt_bool : RT rBool boolB (fun _ => True) := by
  intro pre post x _
  unfold rBool rByte boolB
  have hl : (pre ++ ([if x = true then (1 : Int) else 0] ++ post)).length = pre.length + 1 + post.length := by simp; omega
  rw [hl, if_neg (by omega), if_neg (by omega), Int.toNat_natCast, ap_get2]
  cases x <;> simp
def Vok (v : Vec) : Prop := fits v.X ∧ fits v.Y
theorem rVec_RB (b : List Int) (t : Int) : rVec b t = RB (rInt b t) fun x t => RB (rInt b t) fun y t => .ok (⟨x, y⟩, t) := by
  unfold rVec RB
  cases rInt b t with
  | error e => rfl
  | ok x => simp only; cases rInt b x.2 <;> rfl
theorem rt_vec : RT rVec vecB Vok := by
  intro pre post v hv
  rw [rVec_RB]
  have := rt_step (q := fun x b t => RB (rInt b t) fun y t => .ok ((⟨x, y⟩ : Vec), t)) (rt_x rt_int hv.1) (rt_step (q := fun y _ t => .ok ((⟨v.X, y⟩ : Vec), t)) (rt_x rt_int hv.2) rt_end) pre post
  rw [List.append_nil] at this
  exact this
theorem rN_cons {α : Type} (p : Int → Except Int (α × Int)) (t : Int) : ∀ n, rN p t (n + 1) = RB (p t) fun y t1 => RB (rN p t1 n) fun l t2 => .ok (y :: l, t2)
  | 0 => by
    simp only [rN]
    cases p t <;> rfl
  | n + 1 => by
    rw [rN, rN_cons p t n]
    cases hp : p t with
    | error e => rfl
    | ok y =>
      simp only [RB]
      rw [rN]
      cases hr : rN p y.2 n with
      | error e => rfl
      | ok l =>
        simp only
        cases p l.2 <;> rfl
theorem rt_N {α : Type} {p : List Int → Int → Except Int (α × Int)} {f : α → List Int} {Ok : α → Prop} (h : RT p f Ok) : ∀ l : List α, (∀ x ∈ l, Ok x) → RTx (fun b t => rN (p b) t l.length) l (l.flatMap f)
  | [], _ => fun pre post => by simp [rN]
  | x :: l, hl => by
    have ih := rt_N h l fun y hy => hl y (List.mem_cons_of_mem _ hy)
    have := rt_step (q := fun y b t => RB (rN (p b) t l.length) fun l t => .ok (y :: l, t)) (rt_x h (hl x (List.mem_cons_self ..))) (rt_step (q := fun l' _ t => .ok (x :: l', t)) ih rt_end)
    intro pre post
    have h2 := this pre post
    rw [List.append_nil] at h2
    simp only [List.length_cons, rN_cons, List.flatMap_cons]
    exact h2
def slB {α : Type} (f : α → List Int) (l : List α) : List Int := intB (l.length : Nat) ++ l.flatMap f
theorem rt_Sl {α : Type} {p : List Int → Int → Except Int (α × Int)} {f : α → List Int} {Ok : α → Prop} (h : RT p f Ok) {l : List α} (hl : ∀ x ∈ l, Ok x) (hn : l.length ≤ 8192) : RTx (fun b t => rSl (p b) b t) l (slB f l) := by
  intro pre post
  have h1 := rt_int pre (l.flatMap f ++ post) (l.length : Nat) (by unfold fits; omega)
  have h2 := rt_N h l hl (pre ++ intB (l.length : Nat)) post
  simp only [slB, List.append_assoc] at h1 h2 ⊢
  unfold rSl rLen
  rw [h1]
  simp only
  rw [if_neg (by omega), if_neg (by omega)]
  simp only [Int.toNat_natCast]
  rw [List.length_append] at h2
  rw [h2, List.length_append, Nat.add_assoc]
end Go.Abs
end
section
namespace Go.Abs
open Go.Proofs
open Api
def Vec.ok (x : Vec) : Prop := fits x.X ∧ fits x.Y
theorem opens_Vec (W : World) : Opens Tryz.prog W 23 Vec.enc Vec.ok :=
  opens_struct' 2 (fun a : Int × Int × Unit => (⟨a.1, a.2.1⟩ : Vec)) Tryz.underlying23 (by kernel_rfl)
    (opensF_step 3 (opens_i64 Tryz.underlying3) rfl (by kernel_rfl : Tryz.prog.cellsOf 3 = 1) rfl rfl (opensF_step 3 (opens_i64 Tryz.underlying3) rfl (by kernel_rfl : Tryz.prog.cellsOf 3 = 1) rfl rfl opensF_nil)) (fun _ => rfl) (fun a h => ⟨h.1, h.2.1⟩)
def Settings.ok (x : Settings) : Prop := fits x.TimeStep ∧ Vec.ok x.Gravity ∧ fits x.Iterations ∧ fits x.SleepSteps
theorem opens_Settings (W : World) : Opens Tryz.prog W 25 Settings.enc Settings.ok :=
  opens_struct' 5 (fun a : Int × Vec × Int × Int × Unit => (⟨a.1, a.2.1, a.2.2.1, a.2.2.2.1⟩ : Settings)) Tryz.underlying25 (by kernel_rfl)
    (opensF_step 3 (opens_i64 Tryz.underlying3) rfl (by kernel_rfl : Tryz.prog.cellsOf 3 = 1) rfl rfl (opensF_step 23 (opens_Vec W) rfl (by kernel_rfl : Tryz.prog.cellsOf 23 = 2) rfl rfl (opensF_step 3 (opens_i64 Tryz.underlying3) rfl (by kernel_rfl : Tryz.prog.cellsOf 3 = 1) rfl rfl (opensF_step 3 (opens_i64 Tryz.underlying3) rfl (by kernel_rfl : Tryz.prog.cellsOf 3 = 1) rfl rfl opensF_nil)))) (fun _ => rfl) (fun a h => ⟨h.1, h.2.1, h.2.2.1, h.2.2.2.1⟩)
def Transform.ok (x : Transform) : Prop := Vec.ok x.Position ∧ fits x.Angle
theorem opens_Transform (W : World) : Opens Tryz.prog W 53 Transform.enc Transform.ok :=
  opens_struct' 3 (fun a : Vec × Int × Unit => (⟨a.1, a.2.1⟩ : Transform)) Tryz.underlying53 (by kernel_rfl)
    (opensF_step 23 (opens_Vec W) rfl (by kernel_rfl : Tryz.prog.cellsOf 23 = 2) rfl rfl (opensF_step 3 (opens_i64 Tryz.underlying3) rfl (by kernel_rfl : Tryz.prog.cellsOf 3 = 1) rfl rfl opensF_nil)) (fun _ => rfl) (fun a h => ⟨h.1, h.2.1⟩)
def Shape.ok (x : Shape) : Prop := fits x.Kind ∧ fits x.Radius ∧ ((∀ a ∈ x.Vertices, Vec.ok a) ∧ x.Vertices.length ≤ maxLen)
theorem opens_Shape (W : World) : Opens Tryz.prog W 60 Shape.enc Shape.ok :=
  opens_struct' 3 (fun a : Int × Int × List Vec × Unit => (⟨a.1, a.2.1, a.2.2.1⟩ : Shape)) Tryz.underlying60 (by kernel_rfl)
    (opensF_step 57 (opens_i64 Tryz.underlying57) rfl (by kernel_rfl : Tryz.prog.cellsOf 57 = 1) rfl rfl (opensF_step 3 (opens_i64 Tryz.underlying3) rfl (by kernel_rfl : Tryz.prog.cellsOf 3 = 1) rfl rfl (opensF_step 58 (opens_slice (d := (default : Vec)) Tryz.underlying58 (by kernel_rfl : Tryz.prog.cellsOf 23 = 2) (by decide) (opens_Vec W)) rfl (by kernel_rfl : Tryz.prog.cellsOf 58 = 1) rfl rfl opensF_nil))) (fun _ => rfl) (fun a h => ⟨h.1, h.2.1, h.2.2.1⟩)
def Fixture.ok (x : Fixture) : Prop := Shape.ok x.Shape ∧ fits x.Density ∧ fits x.Friction ∧ fits x.Restitution ∧ True ∧ fits x.Category ∧ fits x.Mask ∧ fits x.Group
theorem opens_Fixture (W : World) : Opens Tryz.prog W 62 Fixture.enc Fixture.ok :=
  opens_struct' 10 (fun a : Shape × Int × Int × Int × Bool × Int × Int × Int × Unit => (⟨a.1, a.2.1, a.2.2.1, a.2.2.2.1, a.2.2.2.2.1, a.2.2.2.2.2.1, a.2.2.2.2.2.2.1, a.2.2.2.2.2.2.2.1⟩ : Fixture)) Tryz.underlying62 (by kernel_rfl)
    (opensF_step 60 (opens_Shape W) rfl (by kernel_rfl : Tryz.prog.cellsOf 60 = 3) rfl rfl (opensF_step 3 (opens_i64 Tryz.underlying3) rfl (by kernel_rfl : Tryz.prog.cellsOf 3 = 1) rfl rfl (opensF_step 3 (opens_i64 Tryz.underlying3) rfl (by kernel_rfl : Tryz.prog.cellsOf 3 = 1) rfl rfl (opensF_step 3 (opens_i64 Tryz.underlying3) rfl (by kernel_rfl : Tryz.prog.cellsOf 3 = 1) rfl rfl (opensF_step 4 (opens_bool Tryz.underlying4) rfl (by kernel_rfl : Tryz.prog.cellsOf 4 = 1) rfl rfl (opensF_step 3 (opens_i64 Tryz.underlying3) rfl (by kernel_rfl : Tryz.prog.cellsOf 3 = 1) rfl rfl (opensF_step 3 (opens_i64 Tryz.underlying3) rfl (by kernel_rfl : Tryz.prog.cellsOf 3 = 1) rfl rfl (opensF_step 3 (opens_i64 Tryz.underlying3) rfl (by kernel_rfl : Tryz.prog.cellsOf 3 = 1) rfl rfl opensF_nil)))))))) (fun _ => rfl) (fun a h => ⟨h.1, h.2.1, h.2.2.1, h.2.2.2.1, h.2.2.2.2.1, h.2.2.2.2.2.1, h.2.2.2.2.2.2.1, h.2.2.2.2.2.2.2.1⟩)
def Body.ok (x : Body) : Prop := fits x.ID ∧ fits x.Kind ∧ Transform.ok x.Transform ∧ Vec.ok x.Velocity ∧ fits x.AngularVelocity ∧ Vec.ok x.Force ∧ fits x.Torque ∧ fits x.LinearDamping ∧ fits x.AngularDamping ∧ fits x.GravityScale ∧ True ∧ True ∧ True ∧ True ∧ fits x.IdleSteps ∧ ((∀ a ∈ x.Fixtures, Fixture.ok a) ∧ x.Fixtures.length ≤ maxLen)
theorem opens_Body (W : World) : Opens Tryz.prog W 56 Body.enc Body.ok :=
  opens_struct' 20 (fun a : Int × Int × Transform × Vec × Int × Vec × Int × Int × Int × Int × Bool × Bool × Bool × Bool × Int × List Fixture × Unit => (⟨a.1, a.2.1, a.2.2.1, a.2.2.2.1, a.2.2.2.2.1, a.2.2.2.2.2.1, a.2.2.2.2.2.2.1, a.2.2.2.2.2.2.2.1, a.2.2.2.2.2.2.2.2.1, a.2.2.2.2.2.2.2.2.2.1, a.2.2.2.2.2.2.2.2.2.2.1, a.2.2.2.2.2.2.2.2.2.2.2.1, a.2.2.2.2.2.2.2.2.2.2.2.2.1, a.2.2.2.2.2.2.2.2.2.2.2.2.2.1, a.2.2.2.2.2.2.2.2.2.2.2.2.2.2.1, a.2.2.2.2.2.2.2.2.2.2.2.2.2.2.2.1⟩ : Body)) Tryz.underlying56 (by kernel_rfl)
    (opensF_step 3 (opens_i64 Tryz.underlying3) rfl (by kernel_rfl : Tryz.prog.cellsOf 3 = 1) rfl rfl (opensF_step 51 (opens_i64 Tryz.underlying51) rfl (by kernel_rfl : Tryz.prog.cellsOf 51 = 1) rfl rfl (opensF_step 53 (opens_Transform W) rfl (by kernel_rfl : Tryz.prog.cellsOf 53 = 3) rfl rfl (opensF_step 23 (opens_Vec W) rfl (by kernel_rfl : Tryz.prog.cellsOf 23 = 2) rfl rfl (opensF_step 3 (opens_i64 Tryz.underlying3) rfl (by kernel_rfl : Tryz.prog.cellsOf 3 = 1) rfl rfl (opensF_step 23 (opens_Vec W) rfl (by kernel_rfl : Tryz.prog.cellsOf 23 = 2) rfl rfl (opensF_step 3 (opens_i64 Tryz.underlying3) rfl (by kernel_rfl : Tryz.prog.cellsOf 3 = 1) rfl rfl (opensF_step 3 (opens_i64 Tryz.underlying3) rfl (by kernel_rfl : Tryz.prog.cellsOf 3 = 1) rfl rfl (opensF_step 3 (opens_i64 Tryz.underlying3) rfl (by kernel_rfl : Tryz.prog.cellsOf 3 = 1) rfl rfl (opensF_step 3 (opens_i64 Tryz.underlying3) rfl (by kernel_rfl : Tryz.prog.cellsOf 3 = 1) rfl rfl (opensF_step 4 (opens_bool Tryz.underlying4) rfl (by kernel_rfl : Tryz.prog.cellsOf 4 = 1) rfl rfl (opensF_step 4 (opens_bool Tryz.underlying4) rfl (by kernel_rfl : Tryz.prog.cellsOf 4 = 1) rfl rfl (opensF_step 4 (opens_bool Tryz.underlying4) rfl (by kernel_rfl : Tryz.prog.cellsOf 4 = 1) rfl rfl (opensF_step 4 (opens_bool Tryz.underlying4) rfl (by kernel_rfl : Tryz.prog.cellsOf 4 = 1) rfl rfl (opensF_step 3 (opens_i64 Tryz.underlying3) rfl (by kernel_rfl : Tryz.prog.cellsOf 3 = 1) rfl rfl (opensF_step 54 (opens_slice (d := (default : Fixture)) Tryz.underlying54 (by kernel_rfl : Tryz.prog.cellsOf 62 = 10) (by decide) (opens_Fixture W)) rfl (by kernel_rfl : Tryz.prog.cellsOf 54 = 1) rfl rfl opensF_nil)))))))))))))))) (fun _ => rfl) (fun a h => ⟨h.1, h.2.1, h.2.2.1, h.2.2.2.1, h.2.2.2.2.1, h.2.2.2.2.2.1, h.2.2.2.2.2.2.1, h.2.2.2.2.2.2.2.1, h.2.2.2.2.2.2.2.2.1, h.2.2.2.2.2.2.2.2.2.1, h.2.2.2.2.2.2.2.2.2.2.1, h.2.2.2.2.2.2.2.2.2.2.2.1, h.2.2.2.2.2.2.2.2.2.2.2.2.1, h.2.2.2.2.2.2.2.2.2.2.2.2.2.1, h.2.2.2.2.2.2.2.2.2.2.2.2.2.2.1, h.2.2.2.2.2.2.2.2.2.2.2.2.2.2.2.1⟩)
def Joint.ok (x : Joint) : Prop := fits x.ID ∧ fits x.Kind ∧ fits x.BodyA ∧ fits x.BodyB ∧ Vec.ok x.AnchorA ∧ Vec.ok x.AnchorB ∧ Vec.ok x.Axis ∧ fits x.ReferenceAngle ∧ True ∧ fits x.Lower ∧ fits x.Upper ∧ True ∧ fits x.MotorSpeed ∧ fits x.MaxForce ∧ fits x.Softness ∧ fits x.BreakForce ∧ True ∧ (fits x.Impulses.I0 ∧ fits x.Impulses.I1 ∧ fits x.Impulses.I2 ∧ fits x.Impulses.I3)
theorem opens_Joint (W : World) : Opens Tryz.prog W 83 Joint.enc Joint.ok :=
  opens_struct' 24 (fun a : Int × Int × Int × Int × Vec × Vec × Vec × Int × Bool × Int × Int × Bool × Int × Int × Int × Int × Bool × Four × Unit => (⟨a.1, a.2.1, a.2.2.1, a.2.2.2.1, a.2.2.2.2.1, a.2.2.2.2.2.1, a.2.2.2.2.2.2.1, a.2.2.2.2.2.2.2.1, a.2.2.2.2.2.2.2.2.1, a.2.2.2.2.2.2.2.2.2.1, a.2.2.2.2.2.2.2.2.2.2.1, a.2.2.2.2.2.2.2.2.2.2.2.1, a.2.2.2.2.2.2.2.2.2.2.2.2.1, a.2.2.2.2.2.2.2.2.2.2.2.2.2.1, a.2.2.2.2.2.2.2.2.2.2.2.2.2.2.1, a.2.2.2.2.2.2.2.2.2.2.2.2.2.2.2.1, a.2.2.2.2.2.2.2.2.2.2.2.2.2.2.2.2.1, a.2.2.2.2.2.2.2.2.2.2.2.2.2.2.2.2.2.1⟩ : Joint)) Tryz.underlying83 (by kernel_rfl)
    (opensF_step 3 (opens_i64 Tryz.underlying3) rfl (by kernel_rfl : Tryz.prog.cellsOf 3 = 1) rfl rfl (opensF_step 80 (opens_i64 Tryz.underlying80) rfl (by kernel_rfl : Tryz.prog.cellsOf 80 = 1) rfl rfl (opensF_step 3 (opens_i64 Tryz.underlying3) rfl (by kernel_rfl : Tryz.prog.cellsOf 3 = 1) rfl rfl (opensF_step 3 (opens_i64 Tryz.underlying3) rfl (by kernel_rfl : Tryz.prog.cellsOf 3 = 1) rfl rfl (opensF_step 23 (opens_Vec W) rfl (by kernel_rfl : Tryz.prog.cellsOf 23 = 2) rfl rfl (opensF_step 23 (opens_Vec W) rfl (by kernel_rfl : Tryz.prog.cellsOf 23 = 2) rfl rfl (opensF_step 23 (opens_Vec W) rfl (by kernel_rfl : Tryz.prog.cellsOf 23 = 2) rfl rfl (opensF_step 3 (opens_i64 Tryz.underlying3) rfl (by kernel_rfl : Tryz.prog.cellsOf 3 = 1) rfl rfl (opensF_step 4 (opens_bool Tryz.underlying4) rfl (by kernel_rfl : Tryz.prog.cellsOf 4 = 1) rfl rfl (opensF_step 3 (opens_i64 Tryz.underlying3) rfl (by kernel_rfl : Tryz.prog.cellsOf 3 = 1) rfl rfl (opensF_step 3 (opens_i64 Tryz.underlying3) rfl (by kernel_rfl : Tryz.prog.cellsOf 3 = 1) rfl rfl (opensF_step 4 (opens_bool Tryz.underlying4) rfl (by kernel_rfl : Tryz.prog.cellsOf 4 = 1) rfl rfl (opensF_step 3 (opens_i64 Tryz.underlying3) rfl (by kernel_rfl : Tryz.prog.cellsOf 3 = 1) rfl rfl (opensF_step 3 (opens_i64 Tryz.underlying3) rfl (by kernel_rfl : Tryz.prog.cellsOf 3 = 1) rfl rfl (opensF_step 3 (opens_i64 Tryz.underlying3) rfl (by kernel_rfl : Tryz.prog.cellsOf 3 = 1) rfl rfl (opensF_step 3 (opens_i64 Tryz.underlying3) rfl (by kernel_rfl : Tryz.prog.cellsOf 3 = 1) rfl rfl (opensF_step 4 (opens_bool Tryz.underlying4) rfl (by kernel_rfl : Tryz.prog.cellsOf 4 = 1) rfl rfl (opensF_step 81 (opens_four Tryz.underlying81 Tryz.underlying3 (by kernel_rfl) (by kernel_rfl)) rfl (by kernel_rfl : Tryz.prog.cellsOf 81 = 4) rfl rfl opensF_nil)))))))))))))))))) (fun _ => rfl) (fun a h => ⟨h.1, h.2.1, h.2.2.1, h.2.2.2.1, h.2.2.2.2.1, h.2.2.2.2.2.1, h.2.2.2.2.2.2.1, h.2.2.2.2.2.2.2.1, h.2.2.2.2.2.2.2.2.1, h.2.2.2.2.2.2.2.2.2.1, h.2.2.2.2.2.2.2.2.2.2.1, h.2.2.2.2.2.2.2.2.2.2.2.1, h.2.2.2.2.2.2.2.2.2.2.2.2.1, h.2.2.2.2.2.2.2.2.2.2.2.2.2.1, h.2.2.2.2.2.2.2.2.2.2.2.2.2.2.1, h.2.2.2.2.2.2.2.2.2.2.2.2.2.2.2.1, h.2.2.2.2.2.2.2.2.2.2.2.2.2.2.2.2.1, h.2.2.2.2.2.2.2.2.2.2.2.2.2.2.2.2.2.1⟩)
def PairKey.ok (x : PairKey) : Prop := fits x.BodyA ∧ fits x.FixtureA ∧ fits x.BodyB ∧ fits x.FixtureB
theorem opens_PairKey (W : World) : Opens Tryz.prog W 66 PairKey.enc PairKey.ok :=
  opens_struct' 4 (fun a : Int × Int × Int × Int × Unit => (⟨a.1, a.2.1, a.2.2.1, a.2.2.2.1⟩ : PairKey)) Tryz.underlying66 (by kernel_rfl)
    (opensF_step 3 (opens_i64 Tryz.underlying3) rfl (by kernel_rfl : Tryz.prog.cellsOf 3 = 1) rfl rfl (opensF_step 3 (opens_i64 Tryz.underlying3) rfl (by kernel_rfl : Tryz.prog.cellsOf 3 = 1) rfl rfl (opensF_step 3 (opens_i64 Tryz.underlying3) rfl (by kernel_rfl : Tryz.prog.cellsOf 3 = 1) rfl rfl (opensF_step 3 (opens_i64 Tryz.underlying3) rfl (by kernel_rfl : Tryz.prog.cellsOf 3 = 1) rfl rfl opensF_nil)))) (fun _ => rfl) (fun a h => ⟨h.1, h.2.1, h.2.2.1, h.2.2.2.1⟩)
def ContactPoint.ok (x : ContactPoint) : Prop := Vec.ok x.Point ∧ fits x.Separation ∧ fits x.ID ∧ fits x.NormalImpulse ∧ fits x.TangentImpulse
theorem opens_ContactPoint (W : World) : Opens Tryz.prog W 117 ContactPoint.enc ContactPoint.ok :=
  opens_struct' 6 (fun a : Vec × Int × Int × Int × Int × Unit => (⟨a.1, a.2.1, a.2.2.1, a.2.2.2.1, a.2.2.2.2.1⟩ : ContactPoint)) Tryz.underlying117 (by kernel_rfl)
    (opensF_step 23 (opens_Vec W) rfl (by kernel_rfl : Tryz.prog.cellsOf 23 = 2) rfl rfl (opensF_step 3 (opens_i64 Tryz.underlying3) rfl (by kernel_rfl : Tryz.prog.cellsOf 3 = 1) rfl rfl (opensF_step 3 (opens_i64 Tryz.underlying3) rfl (by kernel_rfl : Tryz.prog.cellsOf 3 = 1) rfl rfl (opensF_step 3 (opens_i64 Tryz.underlying3) rfl (by kernel_rfl : Tryz.prog.cellsOf 3 = 1) rfl rfl (opensF_step 3 (opens_i64 Tryz.underlying3) rfl (by kernel_rfl : Tryz.prog.cellsOf 3 = 1) rfl rfl opensF_nil))))) (fun _ => rfl) (fun a h => ⟨h.1, h.2.1, h.2.2.1, h.2.2.2.1, h.2.2.2.2.1⟩)
def Manifold.ok (x : Manifold) : Prop := Vec.ok x.Normal ∧ ((∀ a ∈ x.Points, ContactPoint.ok a) ∧ x.Points.length ≤ maxLen)
theorem opens_Manifold (W : World) : Opens Tryz.prog W 69 Manifold.enc Manifold.ok :=
  opens_struct' 3 (fun a : Vec × List ContactPoint × Unit => (⟨a.1, a.2.1⟩ : Manifold)) Tryz.underlying69 (by kernel_rfl)
    (opensF_step 23 (opens_Vec W) rfl (by kernel_rfl : Tryz.prog.cellsOf 23 = 2) rfl rfl (opensF_step 67 (opens_slice (d := (default : ContactPoint)) Tryz.underlying67 (by kernel_rfl : Tryz.prog.cellsOf 117 = 6) (by decide) (opens_ContactPoint W)) rfl (by kernel_rfl : Tryz.prog.cellsOf 67 = 1) rfl rfl opensF_nil)) (fun _ => rfl) (fun a h => ⟨h.1, h.2.1⟩)
def Contact.ok (x : Contact) : Prop := PairKey.ok x.Key ∧ Manifold.ok x.Manifold
theorem opens_Contact (W : World) : Opens Tryz.prog W 71 Contact.enc Contact.ok :=
  opens_struct' 7 (fun a : PairKey × Manifold × Unit => (⟨a.1, a.2.1⟩ : Contact)) Tryz.underlying71 (by kernel_rfl)
    (opensF_step 66 (opens_PairKey W) rfl (by kernel_rfl : Tryz.prog.cellsOf 66 = 4) rfl rfl (opensF_step 69 (opens_Manifold W) rfl (by kernel_rfl : Tryz.prog.cellsOf 69 = 3) rfl rfl opensF_nil)) (fun _ => rfl) (fun a h => ⟨h.1, h.2.1⟩)
def World.ok (x : Api.World) : Prop := Settings.ok x.Settings ∧ ((∀ a ∈ x.Bodies, Body.ok a) ∧ x.Bodies.length ≤ maxLen) ∧ ((∀ a ∈ x.Joints, Joint.ok a) ∧ x.Joints.length ≤ maxLen) ∧ ((∀ a ∈ x.Contacts, Contact.ok a) ∧ x.Contacts.length ≤ maxLen) ∧ ((∀ a ∈ x.Overlaps, PairKey.ok a) ∧ x.Overlaps.length ≤ maxLen) ∧ fits x.NextID ∧ fits x.Frame
theorem opens_World (W : World) : Opens Tryz.prog W 31 Api.World.enc World.ok :=
  opens_struct' 11 (fun a : Settings × List Body × List Joint × List Contact × List PairKey × Int × Int × Unit => (⟨a.1, a.2.1, a.2.2.1, a.2.2.2.1, a.2.2.2.2.1, a.2.2.2.2.2.1, a.2.2.2.2.2.2.1⟩ : Api.World)) Tryz.underlying31 (by kernel_rfl)
    (opensF_step 25 (opens_Settings W) rfl (by kernel_rfl : Tryz.prog.cellsOf 25 = 5) rfl rfl (opensF_step 26 (opens_slice (d := (default : Body)) Tryz.underlying26 (by kernel_rfl : Tryz.prog.cellsOf 56 = 20) (by decide) (opens_Body W)) rfl (by kernel_rfl : Tryz.prog.cellsOf 26 = 1) rfl rfl (opensF_step 27 (opens_slice (d := (default : Joint)) Tryz.underlying27 (by kernel_rfl : Tryz.prog.cellsOf 83 = 24) (by decide) (opens_Joint W)) rfl (by kernel_rfl : Tryz.prog.cellsOf 27 = 1) rfl rfl (opensF_step 28 (opens_slice (d := (default : Contact)) Tryz.underlying28 (by kernel_rfl : Tryz.prog.cellsOf 71 = 7) (by decide) (opens_Contact W)) rfl (by kernel_rfl : Tryz.prog.cellsOf 28 = 1) rfl rfl (opensF_step 29 (opens_slice (d := (default : PairKey)) Tryz.underlying29 (by kernel_rfl : Tryz.prog.cellsOf 66 = 4) (by decide) (opens_PairKey W)) rfl (by kernel_rfl : Tryz.prog.cellsOf 29 = 1) rfl rfl (opensF_step 3 (opens_i64 Tryz.underlying3) rfl (by kernel_rfl : Tryz.prog.cellsOf 3 = 1) rfl rfl (opensF_step 3 (opens_i64 Tryz.underlying3) rfl (by kernel_rfl : Tryz.prog.cellsOf 3 = 1) rfl rfl opensF_nil))))))) (fun _ => rfl) (fun a h => ⟨h.1, h.2.1, h.2.2.1, h.2.2.2.1, h.2.2.2.2.1, h.2.2.2.2.2.1, h.2.2.2.2.2.2.1⟩)
end Go.Abs
end
section
namespace Go.Abs
open Go.Proofs
open Api
def FOK (x : Fixture) : Prop := Fixture.ok x ∧ x.Shape.Vertices.length ≤ 64
def BOK (x : Body) : Prop := Body.ok x ∧ Bfew x
def WOK (w : Api.World) : Prop := World.ok w ∧ Wfew w
def COK (x : Contact) : Prop := Contact.ok x ∧ x.Manifold.Points.length ≤ 64
theorem rt_Key : RT rKey keyB PairKey.ok := by
  intro pre post x hx
  have hx' := hx
  simp only [Fixture.ok, Body.ok, Joint.ok, PairKey.ok, ContactPoint.ok, Manifold.ok, Contact.ok, World.ok, Settings.ok, Transform.ok, Shape.ok, Vec.ok, FOK, BOK, COK, WOK, Bfew, Wfew] at hx'
  have h : RTx rKey x (intB x.BodyA ++ (intB x.FixtureA ++ (intB x.BodyB ++ (intB x.FixtureB ++ ([]))))) := by
    unfold rKey
    exact (rt_step (rt_x rt_int (x := x.BodyA) (by simp only [Vec.ok, Vok, hx', and_self])) (rt_step (rt_x rt_int (x := x.FixtureA) (by simp only [Vec.ok, Vok, hx', and_self])) (rt_step (rt_x rt_int (x := x.BodyB) (by simp only [Vec.ok, Vok, hx', and_self])) (rt_step (rt_x rt_int (x := x.FixtureB) (by simp only [Vec.ok, Vok, hx', and_self])) rt_end))))
  have e : keyB x = intB x.BodyA ++ (intB x.FixtureA ++ (intB x.BodyB ++ (intB x.FixtureB ++ ([])))) := by simp [keyB, ctcH, bodH, encH, enc1, enc2, enc3, keyB, intsB, vecsB, boolsB, slB, List.append_assoc]
  rw [e]; exact h pre post
theorem rt_ContactPoint : RT rContactPoint ptB ContactPoint.ok := by
  intro pre post x hx
  have hx' := hx
  simp only [Fixture.ok, Body.ok, Joint.ok, PairKey.ok, ContactPoint.ok, Manifold.ok, Contact.ok, World.ok, Settings.ok, Transform.ok, Shape.ok, Vec.ok, FOK, BOK, COK, WOK, Bfew, Wfew] at hx'
  have h : RTx rContactPoint x (vecB x.Point ++ (intB x.Separation ++ (intB x.ID ++ (intB x.NormalImpulse ++ (intB x.TangentImpulse ++ ([])))))) := by
    unfold rContactPoint
    exact (rt_step (rt_x rt_vec (x := x.Point) (by simp only [Vec.ok, Vok, hx', and_self])) (rt_step (rt_x rt_int (x := x.Separation) (by simp only [Vec.ok, Vok, hx', and_self])) (rt_step (rt_x rt_int (x := x.ID) (by simp only [Vec.ok, Vok, hx', and_self])) (rt_step (rt_x rt_int (x := x.NormalImpulse) (by simp only [Vec.ok, Vok, hx', and_self])) (rt_step (rt_x rt_int (x := x.TangentImpulse) (by simp only [Vec.ok, Vok, hx', and_self])) rt_end)))))
  have e : ptB x = vecB x.Point ++ (intB x.Separation ++ (intB x.ID ++ (intB x.NormalImpulse ++ (intB x.TangentImpulse ++ ([]))))) := by simp [ptB, ctcH, bodH, encH, enc1, enc2, enc3, keyB, intsB, vecsB, boolsB, slB, List.append_assoc]
  rw [e]; exact h pre post
theorem rt_Contact : RT rContact ctcB COK := by
  intro pre post x hx
  have hx' := hx
  simp only [Fixture.ok, Body.ok, Joint.ok, PairKey.ok, ContactPoint.ok, Manifold.ok, Contact.ok, World.ok, Settings.ok, Transform.ok, Shape.ok, Vec.ok, FOK, BOK, COK, WOK, Bfew, Wfew] at hx'
  have h : RTx rContact x (keyB x.Key ++ (vecB x.Manifold.Normal ++ (slB ptB x.Manifold.Points ++ ([])))) := by
    unfold rContact
    exact (rt_step (rt_x rt_Key (x := x.Key) (by simp only [PairKey.ok, Vec.ok, Vok, hx', and_self])) (rt_step (rt_x rt_vec (x := x.Manifold.Normal) (by simp only [PairKey.ok, Vec.ok, Vok, hx', and_self])) (rt_step (rt_Sl rt_ContactPoint (l := x.Manifold.Points) (fun a ha => hx.1.2.2.1 a ha) (by have := hx.2; omega)) rt_end)))
  have e : ctcB x = keyB x.Key ++ (vecB x.Manifold.Normal ++ (slB ptB x.Manifold.Points ++ ([]))) := by simp [ctcB, ctcH, bodH, encH, enc1, enc2, enc3, keyB, intsB, vecsB, boolsB, slB, List.append_assoc]
  rw [e]; exact h pre post
theorem rt_Fixture : RT rFixture fixB FOK := by
  intro pre post x hx
  have hx' := hx
  simp only [Fixture.ok, Body.ok, Joint.ok, PairKey.ok, ContactPoint.ok, Manifold.ok, Contact.ok, World.ok, Settings.ok, Transform.ok, Shape.ok, Vec.ok, FOK, BOK, COK, WOK, Bfew, Wfew] at hx'
  have h : RTx rFixture x (intB x.Shape.Kind ++ (intB x.Shape.Radius ++ (slB vecB x.Shape.Vertices ++ (intB x.Density ++ (intB x.Friction ++ (intB x.Restitution ++ (boolB x.Sensor ++ (intB x.Category ++ (intB x.Mask ++ (intB x.Group ++ ([]))))))))))) := by
    unfold rFixture
    exact (rt_step (rt_x rt_int (x := x.Shape.Kind) (by simp only [Vec.ok, Vok, hx', and_self])) (rt_step (rt_x rt_int (x := x.Shape.Radius) (by simp only [Vec.ok, Vok, hx', and_self])) (rt_step (rt_Sl rt_vec (l := x.Shape.Vertices) (fun a ha => hx.1.1.2.2.1 a ha) (by have := hx.2; omega)) (rt_step (rt_x rt_int (x := x.Density) (by simp only [Vec.ok, Vok, hx', and_self])) (rt_step (rt_x rt_int (x := x.Friction) (by simp only [Vec.ok, Vok, hx', and_self])) (rt_step (rt_x rt_int (x := x.Restitution) (by simp only [Vec.ok, Vok, hx', and_self])) (rt_step (rt_x rt_bool (x := x.Sensor) (by simp only [Vec.ok, Vok, hx', and_self])) (rt_step (rt_x rt_int (x := x.Category) (by simp only [Vec.ok, Vok, hx', and_self])) (rt_step (rt_x rt_int (x := x.Mask) (by simp only [Vec.ok, Vok, hx', and_self])) (rt_step (rt_x rt_int (x := x.Group) (by simp only [Vec.ok, Vok, hx', and_self])) rt_end))))))))))
  have e : fixB x = intB x.Shape.Kind ++ (intB x.Shape.Radius ++ (slB vecB x.Shape.Vertices ++ (intB x.Density ++ (intB x.Friction ++ (intB x.Restitution ++ (boolB x.Sensor ++ (intB x.Category ++ (intB x.Mask ++ (intB x.Group ++ ([])))))))))) := by simp [fixB, ctcH, bodH, encH, enc1, enc2, enc3, keyB, intsB, vecsB, boolsB, slB, List.append_assoc]
  rw [e]; exact h pre post
theorem rt_Body : RT rBody bodB BOK := by
  intro pre post x hx
  have hx' := hx
  simp only [Fixture.ok, Body.ok, Joint.ok, PairKey.ok, ContactPoint.ok, Manifold.ok, Contact.ok, World.ok, Settings.ok, Transform.ok, Shape.ok, Vec.ok, FOK, BOK, COK, WOK, Bfew, Wfew] at hx'
  have h : RTx rBody x (intB x.ID ++ (intB x.Kind ++ (vecB x.Transform.Position ++ (intB x.Transform.Angle ++ (vecB x.Velocity ++ (intB x.AngularVelocity ++ (vecB x.Force ++ (intB x.Torque ++ (intB x.LinearDamping ++ (intB x.AngularDamping ++ (intB x.GravityScale ++ (boolB x.Bullet ++ (boolB x.FixedRotation ++ (boolB x.NoSleep ++ (boolB x.Asleep ++ (intB x.IdleSteps ++ (slB fixB x.Fixtures ++ ([])))))))))))))))))) := by
    unfold rBody
    exact (rt_step (rt_x rt_int (x := x.ID) (by simp only [Vec.ok, Vok, hx', and_self])) (rt_step (rt_x rt_int (x := x.Kind) (by simp only [Vec.ok, Vok, hx', and_self])) (rt_step (rt_x rt_vec (x := x.Transform.Position) (by simp only [Vec.ok, Vok, hx', and_self])) (rt_step (rt_x rt_int (x := x.Transform.Angle) (by simp only [Vec.ok, Vok, hx', and_self])) (rt_step (rt_x rt_vec (x := x.Velocity) (by simp only [Vec.ok, Vok, hx', and_self])) (rt_step (rt_x rt_int (x := x.AngularVelocity) (by simp only [Vec.ok, Vok, hx', and_self])) (rt_step (rt_x rt_vec (x := x.Force) (by simp only [Vec.ok, Vok, hx', and_self])) (rt_step (rt_x rt_int (x := x.Torque) (by simp only [Vec.ok, Vok, hx', and_self])) (rt_step (rt_x rt_int (x := x.LinearDamping) (by simp only [Vec.ok, Vok, hx', and_self])) (rt_step (rt_x rt_int (x := x.AngularDamping) (by simp only [Vec.ok, Vok, hx', and_self])) (rt_step (rt_x rt_int (x := x.GravityScale) (by simp only [Vec.ok, Vok, hx', and_self])) (rt_step (rt_x rt_bool (x := x.Bullet) (by simp only [Vec.ok, Vok, hx', and_self])) (rt_step (rt_x rt_bool (x := x.FixedRotation) (by simp only [Vec.ok, Vok, hx', and_self])) (rt_step (rt_x rt_bool (x := x.NoSleep) (by simp only [Vec.ok, Vok, hx', and_self])) (rt_step (rt_x rt_bool (x := x.Asleep) (by simp only [Vec.ok, Vok, hx', and_self])) (rt_step (rt_x rt_int (x := x.IdleSteps) (by simp only [Vec.ok, Vok, hx', and_self])) (rt_step (rt_Sl rt_Fixture (l := x.Fixtures) (fun a ha => ⟨hx.1.2.2.2.2.2.2.2.2.2.2.2.2.2.2.2.1 a ha, hx.2.2 a ha⟩) (by have := hx.2.1; omega)) rt_end)))))))))))))))))
  have e : bodB x = intB x.ID ++ (intB x.Kind ++ (vecB x.Transform.Position ++ (intB x.Transform.Angle ++ (vecB x.Velocity ++ (intB x.AngularVelocity ++ (vecB x.Force ++ (intB x.Torque ++ (intB x.LinearDamping ++ (intB x.AngularDamping ++ (intB x.GravityScale ++ (boolB x.Bullet ++ (boolB x.FixedRotation ++ (boolB x.NoSleep ++ (boolB x.Asleep ++ (intB x.IdleSteps ++ (slB fixB x.Fixtures ++ ([]))))))))))))))))) := by simp [bodB, ctcH, bodH, encH, enc1, enc2, enc3, keyB, intsB, vecsB, boolsB, slB, List.append_assoc]
  rw [e]; exact h pre post
theorem rt_Joint : RT rJoint jntB Joint.ok := by
  intro pre post x hx
  have hx' := hx
  simp only [Fixture.ok, Body.ok, Joint.ok, PairKey.ok, ContactPoint.ok, Manifold.ok, Contact.ok, World.ok, Settings.ok, Transform.ok, Shape.ok, Vec.ok, FOK, BOK, COK, WOK, Bfew, Wfew] at hx'
  have h : RTx rJoint x (intB x.ID ++ (intB x.Kind ++ (intB x.BodyA ++ (intB x.BodyB ++ (vecB x.AnchorA ++ (vecB x.AnchorB ++ (vecB x.Axis ++ (intB x.ReferenceAngle ++ (boolB x.EnableLimit ++ (intB x.Lower ++ (intB x.Upper ++ (boolB x.EnableMotor ++ (intB x.MotorSpeed ++ (intB x.MaxForce ++ (intB x.Softness ++ (intB x.BreakForce ++ (boolB x.CollideConnected ++ ([x.Impulses.I0, x.Impulses.I1, x.Impulses.I2, x.Impulses.I3].flatMap intB ++ ([]))))))))))))))))))) := by
    unfold rJoint
    exact (rt_step (rt_x rt_int (x := x.ID) (by simp only [Vec.ok, Vok, hx', and_self])) (rt_step (rt_x rt_int (x := x.Kind) (by simp only [Vec.ok, Vok, hx', and_self])) (rt_step (rt_x rt_int (x := x.BodyA) (by simp only [Vec.ok, Vok, hx', and_self])) (rt_step (rt_x rt_int (x := x.BodyB) (by simp only [Vec.ok, Vok, hx', and_self])) (rt_step (rt_x rt_vec (x := x.AnchorA) (by simp only [Vec.ok, Vok, hx', and_self])) (rt_step (rt_x rt_vec (x := x.AnchorB) (by simp only [Vec.ok, Vok, hx', and_self])) (rt_step (rt_x rt_vec (x := x.Axis) (by simp only [Vec.ok, Vok, hx', and_self])) (rt_step (rt_x rt_int (x := x.ReferenceAngle) (by simp only [Vec.ok, Vok, hx', and_self])) (rt_step (rt_x rt_bool (x := x.EnableLimit) (by simp only [Vec.ok, Vok, hx', and_self])) (rt_step (rt_x rt_int (x := x.Lower) (by simp only [Vec.ok, Vok, hx', and_self])) (rt_step (rt_x rt_int (x := x.Upper) (by simp only [Vec.ok, Vok, hx', and_self])) (rt_step (rt_x rt_bool (x := x.EnableMotor) (by simp only [Vec.ok, Vok, hx', and_self])) (rt_step (rt_x rt_int (x := x.MotorSpeed) (by simp only [Vec.ok, Vok, hx', and_self])) (rt_step (rt_x rt_int (x := x.MaxForce) (by simp only [Vec.ok, Vok, hx', and_self])) (rt_step (rt_x rt_int (x := x.Softness) (by simp only [Vec.ok, Vok, hx', and_self])) (rt_step (rt_x rt_int (x := x.BreakForce) (by simp only [Vec.ok, Vok, hx', and_self])) (rt_step (rt_x rt_bool (x := x.CollideConnected) (by simp only [Vec.ok, Vok, hx', and_self])) (rt_step (rt_N rt_int [x.Impulses.I0, x.Impulses.I1, x.Impulses.I2, x.Impulses.I3] (by intro a ha; have hx1 := hx.2.2.2.2.2.2.2.2.2.2.2.2.2.2.2.2.2; simp only [List.mem_cons, List.not_mem_nil, or_false] at ha; rcases ha with rfl | rfl | rfl | rfl <;> simp only [hx1])) rt_end))))))))))))))))))
  have e : jntB x = intB x.ID ++ (intB x.Kind ++ (intB x.BodyA ++ (intB x.BodyB ++ (vecB x.AnchorA ++ (vecB x.AnchorB ++ (vecB x.Axis ++ (intB x.ReferenceAngle ++ (boolB x.EnableLimit ++ (intB x.Lower ++ (intB x.Upper ++ (boolB x.EnableMotor ++ (intB x.MotorSpeed ++ (intB x.MaxForce ++ (intB x.Softness ++ (intB x.BreakForce ++ (boolB x.CollideConnected ++ ([x.Impulses.I0, x.Impulses.I1, x.Impulses.I2, x.Impulses.I3].flatMap intB ++ ([])))))))))))))))))) := by simp [jntB, ctcH, bodH, encH, enc1, enc2, enc3, keyB, intsB, vecsB, boolsB, slB, List.append_assoc]
  rw [e]; exact h pre post
theorem rt_World : RT rWorld encW WOK := by
  intro pre post x hx
  have hx' := hx
  simp only [Fixture.ok, Body.ok, Joint.ok, PairKey.ok, ContactPoint.ok, Manifold.ok, Contact.ok, World.ok, Settings.ok, Transform.ok, Shape.ok, Vec.ok, FOK, BOK, COK, WOK, Bfew, Wfew] at hx'
  have h : RTx rWorld x (intB x.Settings.TimeStep ++ (vecB x.Settings.Gravity ++ (intB x.Settings.Iterations ++ (intB x.Settings.SleepSteps ++ (slB bodB x.Bodies ++ (slB jntB x.Joints ++ (slB ctcB x.Contacts ++ (slB keyB x.Overlaps ++ (intB x.NextID ++ (intB x.Frame ++ ([]))))))))))) := by
    unfold rWorld
    exact (rt_step (rt_x rt_int (x := x.Settings.TimeStep) (by simp only [Vec.ok, Vok, hx', and_self])) (rt_step (rt_x rt_vec (x := x.Settings.Gravity) (by simp only [Vec.ok, Vok, hx', and_self])) (rt_step (rt_x rt_int (x := x.Settings.Iterations) (by simp only [Vec.ok, Vok, hx', and_self])) (rt_step (rt_x rt_int (x := x.Settings.SleepSteps) (by simp only [Vec.ok, Vok, hx', and_self])) (rt_step (rt_Sl rt_Body (l := x.Bodies) (fun a ha => ⟨hx.1.2.1.1 a ha, hx.2.2.1 a ha⟩) (hx.2.1)) (rt_step (rt_Sl rt_Joint (l := x.Joints) (fun a ha => hx.1.2.2.1.1 a ha) (hx.2.2.2.1)) (rt_step (rt_Sl rt_Contact (l := x.Contacts) (fun a ha => ⟨hx.1.2.2.2.1.1 a ha, by have := hx.2.2.2.2.2.1 a ha; omega⟩) (hx.2.2.2.2.1)) (rt_step (rt_Sl rt_Key (l := x.Overlaps) (fun a ha => hx.1.2.2.2.2.1.1 a ha) (hx.2.2.2.2.2.2)) (rt_step (rt_x rt_int (x := x.NextID) (by simp only [Vec.ok, Vok, hx', and_self])) (rt_step (rt_x rt_int (x := x.Frame) (by simp only [Vec.ok, Vok, hx', and_self])) rt_end))))))))))
  have e : encW x = intB x.Settings.TimeStep ++ (vecB x.Settings.Gravity ++ (intB x.Settings.Iterations ++ (intB x.Settings.SleepSteps ++ (slB bodB x.Bodies ++ (slB jntB x.Joints ++ (slB ctcB x.Contacts ++ (slB keyB x.Overlaps ++ (intB x.NextID ++ (intB x.Frame ++ ([])))))))))) := by simp [encW, ctcH, bodH, encH, enc1, enc2, enc3, keyB, intsB, vecsB, boolsB, slB, List.append_assoc]
  rw [e]; exact h pre post
end Go.Abs
end
section
namespace Go.Abs
open Go.Proofs
open Api
theorem crcS_bit (c : BitVec 32) : (crcS c).getLsbD 31 = decide (c.toNat % 2 = 1) := by
  have h0 : (c >>> 1).getLsbD 31 = false := by simp
  unfold crcS
  split
  · rename_i h
    rw [BitVec.getLsbD_xor, h0, decide_eq_true h]; decide
  · rename_i h
    rw [h0, decide_eq_false h]
theorem crcS_inj {a b : BitVec 32} (h : crcS a = crcS b) : a = b := by
  have hp : decide (a.toNat % 2 = 1) = decide (b.toNat % 2 = 1) := by rw [← crcS_bit, ← crcS_bit, h]
  have hq : a >>> 1 = b >>> 1 := by
    unfold crcS at h
    by_cases ha : a.toNat % 2 = 1
    · rw [decide_eq_true ha] at hp
      have hb := of_decide_eq_true hp.symm
      rw [if_pos ha, if_pos hb] at h
      have := congrArg (· ^^^ BitVec.ofInt 32 2197175160) h
      simpa [BitVec.xor_assoc] using this
    · rw [decide_eq_false ha] at hp
      have hb : ¬ b.toNat % 2 = 1 := of_decide_eq_false hp.symm
      rwa [if_neg ha, if_neg hb] at h
  have h2 := congrArg BitVec.toNat hq
  simp only [BitVec.toNat_ushiftRight, Nat.shiftRight_succ, Nat.shiftRight_zero] at h2
  have h3 : (a.toNat % 2 = 1) ↔ (b.toNat % 2 = 1) := by
    constructor
    · intro h; exact of_decide_eq_true (hp ▸ decide_eq_true h)
    · intro h; exact of_decide_eq_true (hp.symm ▸ decide_eq_true h)
  apply BitVec.eq_of_toNat_eq
  omega
theorem crcK_inj {a b : BitVec 32} : ∀ k, crcK a k = crcK b k → a = b
  | 0, h => h
  | k + 1, h => crcK_inj k (crcS_inj h)
theorem xor_cancel {a b c : BitVec 32} (h : a ^^^ c = b ^^^ c) : a = b := by
  have := congrArg (· ^^^ c) h
  simpa [BitVec.xor_assoc] using this
theorem crcX_state {a b : BitVec 32} {x : Int} (h : crcX a x = crcX b x) : a = b := xor_cancel (crcK_inj 8 h)
theorem crcX_byte {a : BitVec 32} {x y : Int} (hx : 0 ≤ x ∧ x < 256) (hy : 0 ≤ y ∧ y < 256) (h : crcX a x = crcX a y) : x = y := by
  have h1 : a ^^^ BitVec.ofInt 32 x = a ^^^ BitVec.ofInt 32 y := crcK_inj 8 h
  have h2 := congrArg (a ^^^ ·) h1
  simp only [← BitVec.xor_assoc, BitVec.xor_self, BitVec.zero_xor] at h2
  have h3 := congrArg BitVec.toNat h2
  simp only [BitVec.toNat_ofInt] at h3
  omega
theorem foldl_crc {l : List Int} : ∀ {a b : BitVec 32}, l.foldl crcX a = l.foldl crcX b → a = b := by
  induction l with
  | nil => intro a b h; exact h
  | cons x l ih => intro a b h; exact crcX_state (ih h)
theorem crcF_change {p r : List Int} {x y : Int} (hx : 0 ≤ x ∧ x < 256) (hy : 0 ≤ y ∧ y < 256) (hne : x ≠ y) : crcF (p ++ x :: r) ≠ crcF (p ++ y :: r) := by
  intro h
  have h1 : crcL (p ++ x :: r) = crcL (p ++ y :: r) := xor_cancel h
  unfold crcL at h1
  rw [List.foldl_append, List.foldl_append, List.foldl_cons, List.foldl_cons] at h1
  exact hne (crcX_byte hx hy (foldl_crc h1))
theorem crcBytes_inj {a b : BitVec 32} (h : crcBytes a.toNat = crcBytes b.toNat) : a = b := by
  simp only [crcBytes, List.cons.injEq, and_true] at h
  have ha := a.isLt
  have hb := b.isLt
  apply BitVec.eq_of_toNat_eq
  omega
theorem opR_seal (p : List Int) : opR (sealB p) = .ok p := by
  have hl : (sealB p).length = p.length + 4 := by unfold sealB; rw [List.length_append]; rfl
  have ht : (sealB p).take ((sealB p).length - 4) = p := by
    rw [hl, Nat.add_sub_cancel]; unfold sealB; exact List.take_left' rfl
  unfold opR
  rw [if_neg (by omega), ht, if_pos rfl]
theorem opR_changed {p : List Int} {i : Nat} {y : Int} (hp : bytes p) (hi : i < (sealB p).length) (hy : 0 ≤ y ∧ y < 256) (hne : (sealB p).getD i 0 ≠ y) : opR ((sealB p).set i y) = .error 22 := by
  have hl : (sealB p).length = p.length + 4 := by unfold sealB; rw [List.length_append]; rfl
  unfold opR
  rw [if_neg (by rw [List.length_set]; omega), List.length_set, hl, Nat.add_sub_cancel, if_neg]
  have hself : (sealB p).set i y ≠ sealB p := fun h => by
    have h1 := congrArg (fun l => l.getD i 0) h
    simp only [List.getD, List.getElem?_set_self hi, Option.getD_some] at h1
    exact hne h1.symm
  by_cases hip : i < p.length
  · have e1 : (sealB p).set i y = p.set i y ++ crcBytes (crcF p).toNat := by unfold sealB; rw [List.set_append_left _ _ hip]
    rw [e1, List.take_left' (by rw [List.length_set])]
    unfold sealB
    intro h
    have h1 := List.append_cancel_left h
    have h2 := crcBytes_inj h1
    have e2 : p = p.take i ++ p[i] :: p.drop (i + 1) := by rw [← List.drop_eq_getElem_cons hip, List.take_append_drop]
    have e3 : p.set i y = p.take i ++ y :: p.drop (i + 1) := by
      rw [List.set_eq_take_append_cons_drop, if_pos hip]
    have e4 : (sealB p).getD i 0 = p[i] := by
      unfold sealB; simp [List.getD, List.getElem?_append_left hip, hip]
    rw [e3] at h2
    have h3 : crcF p = crcF (p.take i ++ p[i] :: p.drop (i + 1)) := congrArg crcF e2
    rw [h3] at h2
    rw [e4] at hne
    exact crcF_change hy (hp _ (List.getElem_mem hip)) (fun e => hne e.symm) h2
  · have e1 : ((sealB p).set i y).take p.length = p := by
      rw [List.take_set_of_le (by omega)]; unfold sealB; exact List.take_left' rfl
    rw [e1]
    exact fun h => hself h.symm
theorem rWorld_enc {w : Api.World} (h : WOK w) : rWorld (encW w) 0 = .ok (w, (encW w).length) := by
  have := rt_World [] [] w h
  simpa using this
theorem decR_encR {w : Api.World} (h : WOK w) (hv : d_world_Validate w = 0) : decR (encR w) = (w, 0) := by
  unfold decR encR
  rw [if_pos hv, opR_seal]
  simp only [rWorld_enc h]
  rw [if_neg (by omega), if_pos hv]
end Go.Abs
end
section
namespace Go.Abs
open Go.Proofs
open Api
theorem encR_valid {w : Api.World} (h : encE w = 0) : d_world_Validate w = 0 ∧ encR w = sealB (encW w) := by
  unfold encE at h
  unfold encR
  split at h
  · rename_i hv; exact ⟨hv, by rw [if_pos hv]⟩
  · cases h
theorem enc_bytes {w : Api.World} : bytes (encW w) := by
  have hi : ∀ n, bytes (intB n) := fun n x hx => by
    have hl : ∀ u k, bytes (lowD u k) := fun u k => by
      induction k with
      | zero => intro x hx; cases hx
      | succ k ih =>
        intro x hx
        rcases List.mem_cons.1 hx with rfl | hx
        · omega
        · exact ih x hx
    rcases List.mem_cons.1 hx with rfl | hx
    · have := ndig_le (mag n)
      unfold digB; rw [lowD_len]; split <;> omega
    · exact hl _ _ x hx
  have hb : ∀ x, bytes (boolB x) := fun x y hy => by
    unfold boolB at hy
    obtain rfl := List.mem_singleton.1 hy
    split <;> omega
  have hm : ∀ {α : Type} (f : α → List Int) (l : List α), (∀ a, bytes (f a)) → bytes (l.flatMap f) := fun f l h x hx => by
    obtain ⟨a, _, ha⟩ := List.mem_flatMap.1 hx
    exact h a x ha
  have ha : ∀ {l m : List Int}, bytes l → bytes m → bytes (l ++ m) := fun h1 h2 x hx => by
    rcases List.mem_append.1 hx with hx | hx
    · exact h1 x hx
    · exact h2 x hx
  have hv : ∀ v, bytes (vecB v) := fun v => ha (hi _) (hi _)
  have hI : ∀ l, bytes (intsB l) := fun l => hm _ _ hi
  have hB : ∀ l, bytes (boolsB l) := fun l => hm _ _ hb
  have hV : ∀ l, bytes (vecsB l) := fun l => hm _ _ hv
  have hk : ∀ k, bytes (keyB k) := fun k => hI _
  have hf : ∀ f, bytes (fixB f) := fun f => ha (ha (ha (ha (hI _) (hV _)) (hI _)) (hB _)) (hI _)
  have hbd : ∀ b, bytes (bodB b) := fun b => ha (ha (ha (ha (ha (ha (ha (ha (ha (hI _) (hV _)) (hI _)) (hV _)) (hI _)) (hV _)) (hI _)) (hB _)) (hI _)) (hm _ _ hf)
  have hj : ∀ j, bytes (jntB j) := fun j => ha (ha (ha (ha (ha (ha (ha (ha (hI _) (hV _)) (hI _)) (hB _)) (hI _)) (hB _)) (hI _)) (hB _)) (hI _)
  have hp : ∀ p, bytes (ptB p) := fun p => ha (hV _) (hI _)
  have hc : ∀ c, bytes (ctcB c) := fun c => ha (ha (ha (hk _) (hV _)) (hI _)) (hm _ _ hp)
  have h1 : bytes (encH w) := ha (ha (hI _) (hV _)) (hI _)
  have h2 : bytes (enc1 w) := ha (ha h1 (hm _ _ hbd)) (hI _)
  have h3 : bytes (enc2 w) := ha (ha h2 (hm _ _ hj)) (hI _)
  have h4 : bytes (enc3 w) := ha (ha h3 (hm _ _ hc)) (hI _)
  exact ha (ha h4 (hm _ _ hk)) (hI _)
theorem encR_bytes {w : Api.World} : bytes (encR w) := by
  unfold encR
  split
  · exact seal_bytes enc_bytes
  · intro x hx; cases hx
end Go.Abs
end
section
namespace Go.Abs
open Go.Proofs
open Api
theorem s_law45_SnapshotRoundTrip (w : Api.World) (a c : Int) (ha : 0 ≤ a ∧ a < 65536) (hc : 0 ≤ c ∧ c < 256) (hok : World.ok w) : CallsA Tryz.prog F_law45_SnapshotRoundTrip [.agg w.enc, .sc (.int .u16 a), .sc (.int .u8 c)] [] (.sc (.bool true)) [] := by
  refine en1 hm shOk Tryz.func3 rfl rfl ?_
  simp only [go_sem, ↓reduceIte, Nat.reduceEqDiff, reduceCtorEq, Nat.reduceAdd, Nat.reduceLeDiff, Nat.reduceMul, Nat.reduceSub, Int.reduceToNat]
  refine CallGi_flat (s_r27_IsSmall w) rfl ?_
  simp only [go_sem, ↓reduceIte, Nat.reduceEqDiff, reduceCtorEq, Nat.reduceAdd, Nat.reduceLeDiff, Nat.reduceMul, Nat.reduceSub, Int.reduceToNat]
  cases hs : isSmall w with
  | false =>
    rw [if_pos rfl]
    refine CallGi_flat s_law45_example rfl ?_
    simp only [go_sem, ↓reduceIte, Nat.reduceEqDiff, reduceCtorEq, Nat.reduceAdd, Nat.reduceLeDiff, Nat.reduceMul, Nat.reduceSub, Int.reduceToNat]
  | true =>
    have w1 := isSmall_sm hs
    have w2 := isSmall_few hs
    rw [if_neg (by decide)]
    refine CallGi_flat (s_snapshot_Encode w w1 w2) rfl ?_
    simp only [go_sem, ↓reduceIte, Nat.reduceEqDiff, reduceCtorEq, Nat.reduceAdd, Nat.reduceLeDiff, Nat.reduceMul, Nat.reduceSub, Int.reduceToNat]
    refine CallGi_flat (s_world_Validate w w1) rfl ?_
    simp only [go_sem, ↓reduceIte, Nat.reduceEqDiff, reduceCtorEq, Nat.reduceAdd, Nat.reduceLeDiff, Nat.reduceMul, Nat.reduceSub, Int.reduceToNat]
    by_cases hv : d_world_Validate w = 0
    · have e0 : encE w = 0 := by unfold encE; rw [if_pos hv]
      have hR := encR_len w2
      rw [if_neg (by simpa using hv)]
      refine CallGi_flat (s_snapshot_Decode (encR w) (by omega) encR_bytes) rfl ?_
      simp only [decR_encR ⟨hok, w2⟩ hv, e0, n00, go_sem, ↓reduceIte, Nat.reduceEqDiff, reduceCtorEq, Nat.reduceAdd, Nat.reduceLeDiff, Nat.reduceMul, Nat.reduceSub, Int.reduceToNat]
      refine CallGi_flat (s_r25_Equal w w w1) rfl ?_
      simp only [e0, decT, n00, go_sem, ↓reduceIte, Nat.reduceEqDiff, reduceCtorEq, Nat.reduceAdd, Nat.reduceLeDiff, Nat.reduceMul, Nat.reduceSub, Int.reduceToNat]
      have hL : 5 ≤ (encR w).length := by
        rw [(encR_valid e0).2]
        unfold sealB
        rw [List.length_append]
        have h4 : ∀ n, (crcBytes n).length = 4 := fun _ => rfl
        have h1 : 1 ≤ (encW w).length := by
          have e : (intsB [w.NextID, w.Frame]).length = (intB w.NextID).length + ((intB w.Frame).length + 0) := by simp [intsB]
          have e2 : (intB w.NextID).length = (digB w.NextID).length + 1 := rfl
          unfold encW
          rw [List.length_append, e]; omega
        rw [h4]; omega
      have e9 : (!decide True || decide (((encR w).length : Int) < 5)) = false := by
        rw [decide_eq_false (p := ((encR w).length : Int) < 5) (by omega)]; rfl
      rw [e9, if_neg (by decide)]
      have wa : IntKind.i64.wrap a = a := by rw [IntKind.wrap_i64]; omega
      obtain ⟨A, rfl⟩ := Int.eq_ofNat_of_zero_le ha.1
      have hm1 : (A : Int).tmod ((encR w).length : Int) = ((A % (encR w).length : Nat) : Int) := by
        rw [Int.tmod_eq_emod_of_nonneg (by omega)]; rfl
      rw [wa, hm1]
      have hi : A % (encR w).length < (encR w).length := Nat.mod_lt _ (by omega)
      generalize A % (encR w).length = i at *
      refine ⟨⟨by omega, by simp only [maxLen]; omega⟩, by omega, ⟨by omega, by omega⟩, ⟨by omega, by omega⟩, ?_⟩
      have hsl : ((encR w).set i c).length ≤ 900000000 := by rw [List.length_set]; omega
      have hsb : bytes ((encR w).set i c) := fun x hx => by
        rcases List.mem_or_eq_of_mem_set hx with hx | rfl
        · exact encR_bytes x hx
        · exact hc
      refine CallGi_thaw (s_snapshot_Decode ((encR w).set i c) hsl hsb) ?_
      have hd : (((encR w).getD i 0 == c) = true) ∨ decR ((encR w).set i c) = (default, 22) := by
        by_cases he : (encR w).getD i 0 = c
        · exact .inl (by simpa using he)
        · refine .inr ?_
          unfold decR
          rw [(encR_valid e0).2] at hi he ⊢
          rw [opR_changed enc_bytes hi hc he]
      simp only [argsC, go_sem, ↓reduceIte, Nat.reduceEqDiff, reduceCtorEq, Nat.reduceAdd, Nat.reduceLeDiff, Nat.reduceMul, Nat.reduceSub, Int.reduceToNat]
      have hle : avle (AV.dsl 1 (encR w).length ((encQ encU8 0 (encR w)).set i [AV.sc (Value.int IntKind.u8 c)]).g) (AV.dsl 1 ((encR w).set i c).length (encAt encU8 0 ((encR w).set i c))) := by
        refine ⟨rfl, (List.length_set ..).symm, fun j hj => ?_⟩
        show avleL (if j = i then [AV.sc (Value.int IntKind.u8 c)] else encU8 ((encR w).getD j 0)) (encU8 (((encR w).set i c).getD j 0))
        by_cases hji : j = i
        · subst hji
          rw [if_pos rfl]
          simp only [List.getD, List.getElem?_set_self hi, Option.getD_some]
          exact avleL_refl _
        · rw [if_neg hji]
          simp only [List.getD, List.getElem?_set_ne (Ne.symm hji)]
          exact avleL_refl _
      refine ⟨hle, ?_⟩
      have hg : ((encR w).getD i 0 == c || (decR ((encR w).set i c)).2 == 22) = true := by
        rcases hd with h | h
        · rw [h]; rfl
        · rw [h]; simp
      refine CallGi_flat s_law45_example rfl ?_
      simp only [go_sem, ↓reduceIte, Nat.reduceEqDiff, reduceCtorEq, Nat.reduceAdd, Nat.reduceLeDiff, Nat.reduceMul, Nat.reduceSub, Int.reduceToNat]
      exact hg
    · have e0 : encE w = 18 := by unfold encE; rw [if_neg hv]
      have e1 : encR w = [] := by unfold encR; rw [if_neg hv]
      rw [if_pos (by simpa using hv)]
      simp only [e0, e1, i_beqT, go_sem, ↓reduceIte, Nat.reduceEqDiff, reduceCtorEq, Nat.reduceAdd, Nat.reduceLeDiff, Nat.reduceMul, Nat.reduceSub, Int.reduceToNat]
      refine CallGi_flat s_law45_example rfl ?_
      simp only [e0, e1, i_beqT, List.length_nil, go_sem, ↓reduceIte, Nat.reduceEqDiff, reduceCtorEq, Nat.reduceAdd, Nat.reduceLeDiff, Nat.reduceMul, Nat.reduceSub, Int.reduceToNat]
theorem u16_of {a : Int} (h : (Lit.int .u16 a).wf = true) : 0 ≤ a ∧ a < 65536 := by
  simp only [Lit.wf, IntKind.min, IntKind.max, Bool.and_eq_true, decide_eq_true_eq] at h
  simp [IntKind.bits, IntKind.signed] at h
  omega
theorem u8_of {a : Int} (h : (Lit.int .u8 a).wf = true) : 0 ≤ a ∧ a < 256 := by
  simp only [Lit.wf, IntKind.min, IntKind.max, Bool.and_eq_true, decide_eq_true_eq] at h
  simp [IntKind.bits, IntKind.signed] at h
  omega
end Go.Abs
end
