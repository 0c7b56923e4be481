/- A part of the walk: contracts of functions that the statement reaches. -/
import Derived.Test.YtpbnhfancncoiaaAbsD
import Derived.Test.YtpbnhfancncoiaaE4
set_option linter.unusedSimpArgs false
set_option linter.unusedVariables false
set_option linter.unnecessarySimpa false
set_option maxRecDepth 100000
set_option maxHeartbeats 2000000
set_option linter.unusedSimpArgs false
set_option linter.unusedVariables false
namespace Go.Abs
open Go.Proofs
open Api
def bytes (b : List Int) : Prop := ∀ x ∈ b, 0 ≤ x ∧ x < 256
theorem bytes_getD {b : List Int} (h : bytes b) (i : Nat) : 0 ≤ b.getD i 0 ∧ b.getD i 0 < 256 := by
  by_cases hi : i < b.length
  · have : b.getD i 0 = b[i] := by simp [List.getD, hi]
    rw [this]; exact h _ (List.getElem_mem hi)
  · have : b.getD i 0 = 0 := by simp only [List.getD]; rw [List.getElem?_eq_none (by omega)]; rfl
    rw [this]; omega
def t2 (r : Except Int Int) : Int × Int := match r with | .ok x => (x, 0) | .error e => (0, e)
def rByte (b : List Int) (at' : Int) : Except Int Int :=
  if at' < 0 ∨ (b.length : Int) < at' then .error 2 else if at' = b.length then .error 4 else .ok (b.getD at'.toNat 0)
theorem rByte_ok {b : List Int} {at' x : Int} (h : rByte b at' = .ok x) : 0 ≤ at' ∧ at' < b.length ∧ x = b.getD at'.toNat 0 := by
  unfold rByte at h
  split at h
  · cases h
  · split at h
    · cases h
    · cases h; refine ⟨by omega, by omega, rfl⟩
theorem s_codec_readByte (b : List Int) (at' : Int) (hb : b.length ≤ 549755813888) : CallsA Try.prog F_codec_readByte [encD 1 encU8 0 b, .sc (.int .i64 at')] [] (.tup [.sc (.int .u8 (t2 (rByte b at')).1), .sc (.int .i64 (t2 (rByte b at')).2)]) [] := by
  refine callsI_of (rs := [_, _]) hm Try.func83 (by kernel_rfl) (by kernel_rfl) is_codec_readByte (by kernel_rfl : tmpsOf Try.f83.results.toList = some [4, 5]) (by decide) (by kernel_rfl) ?_
  simp only [c_codec_readByte, go_sem, ↓reduceIte, Nat.reduceEqDiff, reduceCtorEq, Nat.reduceAdd, Nat.reduceLeDiff, Nat.reduceMul, Nat.reduceSub, Int.reduceToNat]
  by_cases h0 : at' < 0
  · have hr : rByte b at' = .error 2 := by unfold rByte; rw [if_pos (.inl h0)]
    simp only [h0, hr, t2, decide_true, go_sem, ↓reduceIte, Nat.reduceEqDiff, reduceCtorEq, Nat.reduceAdd, Nat.reduceLeDiff, Nat.reduceMul, Nat.reduceSub, Int.reduceToNat]
  · by_cases h1 : (b.length : Int) < at'
    · have hr : rByte b at' = .error 2 := by unfold rByte; rw [if_pos (.inr h1)]
      simp only [h0, h1, hr, t2, decide_true, decide_false, go_sem, ↓reduceIte, Nat.reduceEqDiff, reduceCtorEq, Nat.reduceAdd, Nat.reduceLeDiff, Nat.reduceMul, Nat.reduceSub, Int.reduceToNat]
    · by_cases h2 : at' = b.length
      · have hr : rByte b at' = .error 4 := by unfold rByte; rw [if_neg (by omega), if_pos h2]
        simp only [h0, h1, hr, t2, decide_true, decide_false, go_sem, ↓reduceIte, Nat.reduceEqDiff, reduceCtorEq, Nat.reduceAdd, Nat.reduceLeDiff, Nat.reduceMul, Nat.reduceSub, Int.reduceToNat]
        simp only [h2, beq_self_eq_true, go_sem, ↓reduceIte, Nat.reduceEqDiff, reduceCtorEq, Nat.reduceAdd, Nat.reduceLeDiff, Nat.reduceMul, Nat.reduceSub, Int.reduceToNat]
      · have hr : rByte b at' = .ok (b.getD at'.toNat 0) := by unfold rByte; rw [if_neg (by omega), if_neg h2]
        simp only [h0, h1, h2, hr, t2, decide_true, decide_false, go_sem, ↓reduceIte, Nat.reduceEqDiff, reduceCtorEq, Nat.reduceAdd, Nat.reduceLeDiff, Nat.reduceMul, Nat.reduceSub, Int.reduceToNat]
        first | exact ⟨by omega, rfl, rfl⟩ | (rw [if_neg (by simpa using h2)]; omega)

/-- the number that bytes stand for, the first the greatest -/
def beU (l : List Int) : Int := l.foldl (fun u c => u * 256 + c) 0
theorem beU_snoc {l : List Int} {i : Nat} (hi : i < l.length) : beU (l.take (i + 1)) = beU (l.take i) * 256 + l.getD i 0 := by
  unfold beU; rw [take_snoc 0 hi, List.foldl_append]; rfl
theorem beU_range {l : List Int} (h : bytes l) : ∀ i, i ≤ l.length → 0 ≤ beU (l.take i) ∧ beU (l.take i) < 256 ^ i
  | 0, _ => by simp [beU]
  | i + 1, hi => by
    have ih := beU_range h i (by omega)
    rw [beU_snoc (by omega)]
    have hc := bytes_getD h i
    have : (256 : Int) ^ (i + 1) = 256 ^ i * 256 := Int.pow_succ _ _
    rw [this]
    omega
def t3 (r : Except Int (Int × Int)) : Int × Int × Int := match r with | .ok x => (x.1, x.2, 0) | .error e => (0, 0, e)
def rBig (b : List Int) (at' : Int) (m : Bool) (k : Int) : Except Int (Int × Int) :=
  if 8 < k then .error 3 else if (b.length : Int) - at' - 1 < k then .error 4 else
  if (0 < k ∧ b.getD (at'.toNat + 1) 0 = 0) ∨ (m = false ∧ 9223372036854775808 ≤ beU ((b.drop (at'.toNat + 1)).take k.toNat)) ∨ (m = true ∧ 9223372036854775808 < beU ((b.drop (at'.toNat + 1)).take k.toNat)) then .error 3
  else .ok (if m = true then - beU ((b.drop (at'.toNat + 1)).take k.toNat) else beU ((b.drop (at'.toNat + 1)).take k.toNat), at' + 1 + k)
def rInt (b : List Int) (at' : Int) : Except Int (Int × Int) :=
  if at' < 0 ∨ (b.length : Int) < at' then .error 2 else if at' = b.length then .error 4 else
  rBig b at' (decide (16 < b.getD at'.toNat 0)) (if 16 < b.getD at'.toNat 0 then b.getD at'.toNat 0 - 16 else b.getD at'.toNat 0)
theorem take_drop_len {b : List Int} {i k : Nat} (h : i + k ≤ b.length) : ((b.drop i).take k).length = k := by simp; omega
theorem take_drop_get {b : List Int} {i k j : Nat} (h : j < k) : ((b.drop i).take k).getD j 0 = b.getD (i + j) 0 := by
  simp only [List.getD, List.getElem?_take, h, if_true, List.getElem?_drop]
theorem dslv {n m : Nat} {l : List Int} {f : Nat → Int} (hn : n = l.length) (hm' : m = n) (hf : ∀ i, i < n → f i = l.getD i 0) : avle (.dsl 1 n fun i => [AV.sc (.int .u8 (f i))]) (.dsl 1 m (encAt encU8 0 l)) := by
  subst hm'
  exact ⟨rfl, rfl, fun i hi => by show avleL [AV.sc (.int .u8 (f i))] _; rw [hf i hi]; exact avleL_refl _⟩
theorem drop_get {b : List Int} {i j : Nat} : (b.drop i).getD j 0 = b.getD (i + j) 0 := by simp [List.getD]
theorem or256 (u c : Int) (hu : 0 ≤ u) (hu2 : u < 72057594037927936) (hc : 0 ≤ c ∧ c < 256) :
    IntKind.u64.wrap ↑(BitVec.ofInt 64 (IntKind.u64.wrap (u * 2 ^ min 8 64)) ||| BitVec.ofInt 64 (IntKind.u64.wrap c)).toNat = u * 256 + c := by
  obtain ⟨a, rfl⟩ := Int.eq_ofNat_of_zero_le hu
  obtain ⟨d, rfl⟩ := Int.eq_ofNat_of_zero_le hc.1
  have e1 : IntKind.u64.wrap ((a : Int) * 2 ^ min 8 64) = ((a * 256 : Nat) : Int) := by
    have e8 : (2 : Int) ^ min 8 64 = 256 := by decide
    rw [e8, IntKind.wrap_u64]; omega
  have e2 : IntKind.u64.wrap (d : Int) = (d : Int) := by rw [IntKind.wrap_u64]; omega
  rw [e1, e2]
  have e3 : (BitVec.ofInt 64 ((a * 256 : Nat) : Int) ||| BitVec.ofInt 64 (d : Int)).toNat = a * 256 + d := by
    have hd : d < 2 ^ 8 := by omega
    have h := Nat.shiftLeft_add_eq_or_of_lt hd a
    rw [BitVec.ofInt_natCast, BitVec.ofInt_natCast, BitVec.toNat_or, BitVec.toNat_ofNat, BitVec.toNat_ofNat, Nat.mod_eq_of_lt (by omega), Nat.mod_eq_of_lt (by omega)]
    rw [Nat.shiftLeft_eq] at h
    exact h.symm
  rw [e3, IntKind.wrap_u64]; omega
theorem pow256_le {i : Nat} (h : i ≤ 7) : (256 : Int) ^ i ≤ 72057594037927936 := by
  have := Nat.pow_le_pow_right (show 0 < 256 by decide) h
  have e : (256 : Int) ^ i = ((256 ^ i : Nat) : Int) := by simp
  rw [e]; exact Int.ofNat_le.2 this
theorem pow256_le8 {i : Nat} (h : i ≤ 8) : (256 : Int) ^ i ≤ 18446744073709551616 := by
  have := Nat.pow_le_pow_right (show 0 < 256 by decide) h
  have e : (256 : Int) ^ i = ((256 ^ i : Nat) : Int) := by simp
  rw [e]; exact Int.ofNat_le.2 this
theorem rd_true {u : Int} (h : 0 ≤ u ∧ u < 18446744073709551616) {z : Bool} (hz : u = 0 → z = true) :
    (z || ((mag (IntKind.i64.wrap (0 - IntKind.i64.wrap u)) : Nat) : Int) != u || !(decide (IntKind.i64.wrap (0 - IntKind.i64.wrap u) < 0) == true)) = (z || decide (9223372036854775808 < u)) := by
  by_cases h1 : 9223372036854775808 < u
  · have : ¬ IntKind.i64.wrap (0 - IntKind.i64.wrap u) < 0 := by simp only [IntKind.wrap_i64]; omega
    simp only [h1, this]; simp
  · by_cases h0 : u = 0
    · simp [hz h0]
    · have e : IntKind.i64.wrap (0 - IntKind.i64.wrap u) = -u := by simp only [IntKind.wrap_i64]; omega
      have e2 : ((mag (-u) : Nat) : Int) = u := by unfold mag; omega
      have e3 : -u < 0 := by omega
      simp only [e, e2, e3, h1]
      simp
theorem rd_false {u : Int} (h : 0 ≤ u ∧ u < 18446744073709551616) {z : Bool} :
    (z || ((mag (IntKind.i64.wrap u) : Nat) : Int) != u || !(decide (IntKind.i64.wrap u < 0) == false)) = (z || decide (9223372036854775808 ≤ u)) := by
  by_cases h1 : 9223372036854775808 ≤ u
  · have : IntKind.i64.wrap u < 0 := by simp only [IntKind.wrap_i64]; omega
    simp [h1, this]
  · have e : IntKind.i64.wrap u = u := by simp only [IntKind.wrap_i64]; omega
    have e2 : ((mag u : Nat) : Int) = u := by unfold mag; omega
    have e3 : ¬ u < 0 := by omega
    simp only [e, e2, e3, h1]
    simp
theorem foldl_ge {l : List Int} (h : bytes l) : ∀ u, 0 ≤ u → u ≤ l.foldl (fun u c => u * 256 + c) u := by
  induction l with
  | nil => intro u _; exact Int.le_refl _
  | cons c l ih =>
    intro u hu
    have hc := h c (List.mem_cons_self ..)
    have := ih (fun x hx => h x (List.mem_cons_of_mem _ hx)) (u * 256 + c) (by omega)
    simp only [List.foldl_cons]; omega
theorem beU_zero {l : List Int} (h : bytes l) (hu : beU l = 0) : l.getD 0 0 = 0 := by
  cases l with
  | nil => rfl
  | cons c l =>
    have hc := h c (List.mem_cons_self ..)
    have := foldl_ge (l := l) (fun x hx => h x (List.mem_cons_of_mem _ hx)) (0 * 256 + c) (by omega)
    unfold beU at hu
    simp only [List.foldl_cons] at hu
    show c = 0
    omega
theorem s_codec_ReadInt (b : List Int) (at' : Int) (hb : b.length ≤ 549755813888) (hB : bytes b) :
    CallsA Try.prog F_codec_ReadInt [encD 1 encU8 0 b, .sc (.int .i64 at')] [] (.tup [.sc (.int .i64 (t3 (rInt b at')).1), .sc (.int .i64 (t3 (rInt b at')).2.1), .sc (.int .i64 (t3 (rInt b at')).2.2)]) [] := by
  refine callsI_of (rs := [_, _, _]) hm Try.func72 (by kernel_rfl) (by kernel_rfl) is_codec_ReadInt (by kernel_rfl : tmpsOf Try.f72.results.toList = some [4, 5, 6]) (by decide) (by kernel_rfl) ?_
  simp only [c_codec_ReadInt, go_sem, ↓reduceIte, Nat.reduceEqDiff, reduceCtorEq, Nat.reduceAdd, Nat.reduceLeDiff, Nat.reduceMul, Nat.reduceSub, Int.reduceToNat]
  refine CallGi_flat (s_codec_readByte b at' hb) rfl ?_
  simp only [go_sem, ↓reduceIte, Nat.reduceEqDiff, reduceCtorEq, Nat.reduceAdd, Nat.reduceLeDiff, Nat.reduceMul, Nat.reduceSub, Int.reduceToNat]
  by_cases h0 : at' < 0 ∨ (b.length : Int) < at'
  · have h1 : rByte b at' = .error 2 := by unfold rByte; rw [if_pos h0]
    have h2 : rInt b at' = .error 2 := by unfold rInt; rw [if_pos h0]
    simp only [h1, h2, t2, t3, go_sem, ↓reduceIte, Nat.reduceEqDiff, reduceCtorEq, Nat.reduceAdd, Nat.reduceLeDiff, Nat.reduceMul, Nat.reduceSub, Int.reduceToNat]
    first | done | simp
  by_cases h0' : at' = b.length
  · have h1 : rByte b at' = .error 4 := by unfold rByte; rw [if_neg h0, if_pos h0']
    have h2 : rInt b at' = .error 4 := by unfold rInt; rw [if_neg h0, if_pos h0']
    simp only [h1, h2, t2, t3, go_sem, ↓reduceIte, Nat.reduceEqDiff, reduceCtorEq, Nat.reduceAdd, Nat.reduceLeDiff, Nat.reduceMul, Nat.reduceSub, Int.reduceToNat]
    first | done | simp
  have h1 : rByte b at' = .ok (b.getD at'.toNat 0) := by unfold rByte; rw [if_neg h0, if_neg h0']
  have hh := bytes_getD hB at'.toNat
  have hr : rInt b at' = rBig b at' (decide (16 < b.getD at'.toNat 0)) (if 16 < b.getD at'.toNat 0 then b.getD at'.toNat 0 - 16 else b.getD at'.toNat 0) := by unfold rInt; rw [if_neg h0, if_neg h0']
  rw [hr]
  simp only [h1, t2, go_sem, ↓reduceIte, Nat.reduceEqDiff, reduceCtorEq, Nat.reduceAdd, Nat.reduceLeDiff, Nat.reduceMul, Nat.reduceSub, Int.reduceToNat]
  generalize hH : b.getD at'.toNat 0 = H at *
  clear h1 hr
  rw [if_neg (by decide)]
  have w0 : IntKind.i64.wrap H = H := by rw [IntKind.wrap_i64]; omega
  have w1 : IntKind.i64.wrap (at' + 1) = at' + 1 := by rw [IntKind.wrap_i64]; omega
  by_cases hm16 : 16 < H
  · have w2 : IntKind.i64.wrap (H - 16) = H - 16 := by rw [IntKind.wrap_i64]; omega
    have hk0 : 0 ≤ (H - 16) := by omega
    simp only [hm16, w0, w1, w2, decide_true, decide_false, go_sem, ↓reduceIte, Nat.reduceEqDiff, reduceCtorEq, Nat.reduceAdd, Nat.reduceLeDiff, Nat.reduceMul, Nat.reduceSub, Int.reduceToNat]
    generalize hk : (H - 16) = k at *
    by_cases h8 : 8 < k
    · have h3 : rBig b at' true k = .error 3 := by unfold rBig; rw [if_pos h8]
      simp only [h8, h3, t3, go_sem, ↓reduceIte, Nat.reduceEqDiff, reduceCtorEq, Nat.reduceAdd, Nat.reduceLeDiff, Nat.reduceMul, Nat.reduceSub, Int.reduceToNat]
    by_cases h9 : (b.length : Int) - at' - 1 < k
    · have h3 : rBig b at' true k = .error 4 := by unfold rBig; rw [if_neg h8, if_pos h9]
      simp only [h8, h3, t3, Option.toList_some, Option.toList_none, Int.sub_zero, Int.toNat_natCast, go_sem, ↓reduceIte, Nat.reduceEqDiff, reduceCtorEq, Nat.reduceAdd, Nat.reduceLeDiff, Nat.reduceMul, Nat.reduceSub, Int.reduceToNat]
      refine ⟨by omega, ?_⟩
      rw [if_pos (by omega)]
      trivial
    simp only [h8, Option.toList_some, Option.toList_none, Int.sub_zero, Int.toNat_natCast, go_sem, ↓reduceIte, Nat.reduceEqDiff, reduceCtorEq, Nat.reduceAdd, Nat.reduceLeDiff, Nat.reduceMul, Nat.reduceSub, Int.reduceToNat]
    refine ⟨by omega, ?_⟩
    rw [if_neg (by omega)]
    refine ⟨by omega, ?_⟩
    obtain ⟨p, rfl⟩ := Int.eq_ofNat_of_zero_le (show 0 ≤ at' by omega)
    obtain ⟨q, rfl⟩ := Int.eq_ofNat_of_zero_le hk0
    have hLl : ((b.drop (p + 1)).take q).length = q := take_drop_len (by omega)
    refine Wpi_loop hm (ι := {i : Nat // i ≤ q}) (fun i => [(1, .share, .sc (.int .i64 p)), (9, .share, .sc (.int .i64 q)), (10, .share, .sc (.bool true)), (11, .thaw, encD 1 encU8 0 (b.drop (p + 1))), (12, .share, .sc (.int .u64 (beU (((b.drop (p + 1)).take q).take i.1)))), (44, .thaw, encD 1 encU8 0 ((b.drop (p + 1)).take q)), (45, .share, .sc (.int .i64 q)), (46, .share, .sc (.int .i64 i.1))])
      (fun i => []) (fun i => q - i.1) ⟨0, by omega⟩ ?_ ?_
    · refine weakE_of [] [] (by simp [go_sem]) (by simp [assoc, go_sem]) (by simp [go_sem]) ?_
      simp only [List.take_zero, go_sem, ↓reduceIte, Nat.reduceEqDiff, reduceCtorEq, Nat.reduceAdd, Nat.reduceLeDiff, Nat.reduceMul, Nat.reduceSub, Int.reduceToNat]
      exact ⟨dslv (by rw [List.length_drop]; omega) (by rw [List.length_drop]; omega) (fun i hi => by rw [drop_get, show ((p : Int) + 1).toNat + i = p + 1 + i by omega]), rfl, dslv hLl.symm (by rw [List.length_drop]; omega) (fun i hi => by rw [take_drop_get hi, show ((p : Int) + 1).toNat + i = p + 1 + i by omega])⟩
    · rintro ⟨i, hi⟩
      have hsn := beU_snoc (l := (b.drop (p + 1)).take q) (i := i)
      have hrg := beU_range (l := (b.drop (p + 1)).take q) (fun x hx => hB x (List.mem_of_mem_drop (List.mem_of_mem_take hx))) i (by omega)
      have hcc := bytes_getD (b := (b.drop (p + 1)).take q) (fun x hx => hB x (List.mem_of_mem_drop (List.mem_of_mem_take hx))) i
      have hld : (b.drop (p + 1)).length = b.length - (p + 1) := List.length_drop
      simp only [c_codec_ReadIntb0, go_sem, ↓reduceIte, Nat.reduceEqDiff, reduceCtorEq, Nat.reduceAdd, Nat.reduceLeDiff, Nat.reduceMul, Nat.reduceSub, Int.reduceToNat]
      by_cases hlt : i < q
      · rw [if_pos (by omega)]
        refine ⟨by omega, by omega, ?_⟩
        refine loop_next ⟨i + 1, by omega⟩ (by show q - (i + 1) < q - i; omega) (weakE_of [] [] (by simp [go_sem]) (by simp [go_sem]) (by simp [go_sem]) ?_)
        simp only [go_sem, ↓reduceIte, Nat.reduceEqDiff, reduceCtorEq, Nat.reduceAdd, Nat.reduceLeDiff, Nat.reduceMul, Nat.reduceSub, Int.reduceToNat]
        have h7 := pow256_le (show i ≤ 7 by omega)
        exact ⟨(or256 _ _ hrg.1 (by omega) hcc).trans (hsn (by omega)).symm, by rw [IntKind.wrap_i64]; omega⟩
      · rw [if_neg (by omega)]
        obtain rfl : i = q := by omega
        clear hsn
        rw [List.take_of_length_le (by omega)] at hrg
        have h8' := pow256_le8 (show i ≤ 8 by omega)
        simp only [List.take_of_length_le (show ((b.drop (p + 1)).take i).length ≤ i by omega)]
        refine ⟨by omega, ?_⟩
        refine CallGi_flat (s_codec_magnitude _) rfl ?_
        have hd0 : (b.drop (p + 1)).getD 0 0 = b.getD (p + 1) 0 := drop_get
        generalize hu : beU ((b.drop (p + 1)).take i) = u at *
        simp only [hd0, List.take_take, Nat.min_self, hu, go_sem, ↓reduceIte, Nat.reduceEqDiff, reduceCtorEq, Nat.reduceAdd, Nat.reduceLeDiff, Nat.reduceMul, Nat.reduceSub, Int.reduceToNat]
        have hb3 : 0 ≤ u ∧ u < 18446744073709551616 := by omega
        have hz0 : 0 < i → u = 0 → b.getD (p + 1) 0 = 0 := fun hi0 hu0 => by
          have := beU_zero (l := (b.drop (p + 1)).take i) (fun x hx => hB x (List.mem_of_mem_drop (List.mem_of_mem_take hx))) (by rw [hu]; exact hu0)
          rwa [take_drop_get hi0] at this
        have hpos : 0 < i := by omega
        simp only [hm16, if_true, decide_true]
        rw [rd_true hb3 (fun h => by rw [if_pos (show (0 : Int) < i by omega), hz0 hpos h]; rfl)]
        have hrB : rBig b p true i = if (0 < (i : Int) ∧ b.getD (p + 1) 0 = 0) ∨ (true = false ∧ 9223372036854775808 ≤ u) ∨ (true = true ∧ 9223372036854775808 < u) then .error 3 else .ok (if true = true then -u else u, (p : Int) + 1 + i) := by
          unfold rBig; rw [if_neg h8, if_neg h9]; simp only [Int.toNat_natCast, hu]
        rw [hrB]
        by_cases hc : (0 < (i : Int) ∧ b.getD (p + 1) 0 = 0) ∨ (true = false ∧ 9223372036854775808 ≤ u) ∨ (true = true ∧ 9223372036854775808 < u)
        · rw [if_pos hc, if_pos]
          · exact ⟨rfl, rfl, rfl⟩
          · rcases hc with ⟨hc1, hc2⟩ | ⟨_, hc1⟩ | ⟨_, hc1⟩
            · rw [if_pos hc1, hc2]; rfl
            · simp_all
            · simp_all
        · rw [if_neg hc, if_neg]
          · simp only [t3, w1]
            have hle : ¬ 9223372036854775808 < u := fun h => hc (.inr (.inr ⟨rfl, h⟩))
            refine ⟨?_, ?_, trivial⟩
            · simp only [IntKind.wrap_i64]; simp; omega
            · rw [IntKind.wrap_i64]; omega
          · intro hb4
            refine hc ?_
            simp only [Bool.or_eq_true, decide_eq_true_eq] at hb4
            rcases hb4 with hb4 | hb4
            · split at hb4
              · rename_i h0i; exact .inl ⟨h0i, by simpa using hb4⟩
              · cases hb4
            · simp_all
  · have w2 : IntKind.i64.wrap (H - 16) = H - 16 := by rw [IntKind.wrap_i64]; omega
    have hk0 : 0 ≤ H := by omega
    simp only [hm16, w0, w1, w2, decide_true, decide_false, go_sem, ↓reduceIte, Nat.reduceEqDiff, reduceCtorEq, Nat.reduceAdd, Nat.reduceLeDiff, Nat.reduceMul, Nat.reduceSub, Int.reduceToNat]
    generalize hk : H = k at *
    by_cases h8 : 8 < k
    · have h3 : rBig b at' false k = .error 3 := by unfold rBig; rw [if_pos h8]
      simp only [h8, h3, t3, go_sem, ↓reduceIte, Nat.reduceEqDiff, reduceCtorEq, Nat.reduceAdd, Nat.reduceLeDiff, Nat.reduceMul, Nat.reduceSub, Int.reduceToNat]
    by_cases h9 : (b.length : Int) - at' - 1 < k
    · have h3 : rBig b at' false k = .error 4 := by unfold rBig; rw [if_neg h8, if_pos h9]
      simp only [h8, h3, t3, Option.toList_some, Option.toList_none, Int.sub_zero, Int.toNat_natCast, go_sem, ↓reduceIte, Nat.reduceEqDiff, reduceCtorEq, Nat.reduceAdd, Nat.reduceLeDiff, Nat.reduceMul, Nat.reduceSub, Int.reduceToNat]
      refine ⟨by omega, ?_⟩
      rw [if_pos (by omega)]
      trivial
    simp only [h8, Option.toList_some, Option.toList_none, Int.sub_zero, Int.toNat_natCast, go_sem, ↓reduceIte, Nat.reduceEqDiff, reduceCtorEq, Nat.reduceAdd, Nat.reduceLeDiff, Nat.reduceMul, Nat.reduceSub, Int.reduceToNat]
    refine ⟨by omega, ?_⟩
    rw [if_neg (by omega)]
    refine ⟨by omega, ?_⟩
    obtain ⟨p, rfl⟩ := Int.eq_ofNat_of_zero_le (show 0 ≤ at' by omega)
    obtain ⟨q, rfl⟩ := Int.eq_ofNat_of_zero_le hk0
    have hLl : ((b.drop (p + 1)).take q).length = q := take_drop_len (by omega)
    refine Wpi_loop hm (ι := {i : Nat // i ≤ q}) (fun i => [(1, .share, .sc (.int .i64 p)), (9, .share, .sc (.int .i64 q)), (10, .share, .sc (.bool false)), (11, .thaw, encD 1 encU8 0 (b.drop (p + 1))), (12, .share, .sc (.int .u64 (beU (((b.drop (p + 1)).take q).take i.1)))), (44, .thaw, encD 1 encU8 0 ((b.drop (p + 1)).take q)), (45, .share, .sc (.int .i64 q)), (46, .share, .sc (.int .i64 i.1))])
      (fun i => []) (fun i => q - i.1) ⟨0, by omega⟩ ?_ ?_
    · refine weakE_of [] [] (by simp [go_sem]) (by simp [assoc, go_sem]) (by simp [go_sem]) ?_
      simp only [List.take_zero, go_sem, ↓reduceIte, Nat.reduceEqDiff, reduceCtorEq, Nat.reduceAdd, Nat.reduceLeDiff, Nat.reduceMul, Nat.reduceSub, Int.reduceToNat]
      exact ⟨dslv (by rw [List.length_drop]; omega) (by rw [List.length_drop]; omega) (fun i hi => by rw [drop_get, show ((p : Int) + 1).toNat + i = p + 1 + i by omega]), rfl, dslv hLl.symm (by rw [List.length_drop]; omega) (fun i hi => by rw [take_drop_get hi, show ((p : Int) + 1).toNat + i = p + 1 + i by omega])⟩
    · rintro ⟨i, hi⟩
      have hsn := beU_snoc (l := (b.drop (p + 1)).take q) (i := i)
      have hrg := beU_range (l := (b.drop (p + 1)).take q) (fun x hx => hB x (List.mem_of_mem_drop (List.mem_of_mem_take hx))) i (by omega)
      have hcc := bytes_getD (b := (b.drop (p + 1)).take q) (fun x hx => hB x (List.mem_of_mem_drop (List.mem_of_mem_take hx))) i
      have hld : (b.drop (p + 1)).length = b.length - (p + 1) := List.length_drop
      simp only [c_codec_ReadIntb0, go_sem, ↓reduceIte, Nat.reduceEqDiff, reduceCtorEq, Nat.reduceAdd, Nat.reduceLeDiff, Nat.reduceMul, Nat.reduceSub, Int.reduceToNat]
      by_cases hlt : i < q
      · rw [if_pos (by omega)]
        refine ⟨by omega, by omega, ?_⟩
        refine loop_next ⟨i + 1, by omega⟩ (by show q - (i + 1) < q - i; omega) (weakE_of [] [] (by simp [go_sem]) (by simp [go_sem]) (by simp [go_sem]) ?_)
        simp only [go_sem, ↓reduceIte, Nat.reduceEqDiff, reduceCtorEq, Nat.reduceAdd, Nat.reduceLeDiff, Nat.reduceMul, Nat.reduceSub, Int.reduceToNat]
        have h7 := pow256_le (show i ≤ 7 by omega)
        exact ⟨(or256 _ _ hrg.1 (by omega) hcc).trans (hsn (by omega)).symm, by rw [IntKind.wrap_i64]; omega⟩
      · rw [if_neg (by omega)]
        obtain rfl : i = q := by omega
        clear hsn
        rw [List.take_of_length_le (by omega)] at hrg
        have h8' := pow256_le8 (show i ≤ 8 by omega)
        simp only [List.take_of_length_le (show ((b.drop (p + 1)).take i).length ≤ i by omega)]
        refine ⟨by omega, ?_⟩
        refine CallGi_flat (s_codec_magnitude _) rfl ?_
        have hd0 : (b.drop (p + 1)).getD 0 0 = b.getD (p + 1) 0 := drop_get
        generalize hu : beU ((b.drop (p + 1)).take i) = u at *
        simp only [hd0, List.take_take, Nat.min_self, hu, go_sem, ↓reduceIte, Nat.reduceEqDiff, reduceCtorEq, Nat.reduceAdd, Nat.reduceLeDiff, Nat.reduceMul, Nat.reduceSub, Int.reduceToNat]
        have hb3 : 0 ≤ u ∧ u < 18446744073709551616 := by omega
        have hz0 : 0 < i → u = 0 → b.getD (p + 1) 0 = 0 := fun hi0 hu0 => by
          have := beU_zero (l := (b.drop (p + 1)).take i) (fun x hx => hB x (List.mem_of_mem_drop (List.mem_of_mem_take hx))) (by rw [hu]; exact hu0)
          rwa [take_drop_get hi0] at this
        simp only [hm16, if_false, decide_false]
        rw [rd_false hb3]
        have hrB : rBig b p false i = if (0 < (i : Int) ∧ b.getD (p + 1) 0 = 0) ∨ (false = false ∧ 9223372036854775808 ≤ u) ∨ (false = true ∧ 9223372036854775808 < u) then .error 3 else .ok (if false = true then -u else u, (p : Int) + 1 + i) := by
          unfold rBig; rw [if_neg h8, if_neg h9]; simp only [Int.toNat_natCast, hu]
        rw [hrB]
        by_cases hc : (0 < (i : Int) ∧ b.getD (p + 1) 0 = 0) ∨ (false = false ∧ 9223372036854775808 ≤ u) ∨ (false = true ∧ 9223372036854775808 < u)
        · rw [if_pos hc, if_pos]
          · exact ⟨rfl, rfl, rfl⟩
          · rcases hc with ⟨hc1, hc2⟩ | ⟨_, hc1⟩ | ⟨_, hc1⟩
            · rw [if_pos hc1, hc2]; rfl
            · simp_all
            · simp_all
        · rw [if_neg hc, if_neg]
          · simp only [t3, w1]
            have hle : ¬ 9223372036854775808 ≤ u := fun h => hc (.inr (.inl ⟨rfl, h⟩))
            refine ⟨?_, ?_, trivial⟩
            · simp only [IntKind.wrap_i64]; simp; omega
            · rw [IntKind.wrap_i64]; omega
          · intro hb4
            refine hc ?_
            simp only [Bool.or_eq_true, decide_eq_true_eq] at hb4
            rcases hb4 with hb4 | hb4
            · split at hb4
              · rename_i h0i; exact .inl ⟨h0i, by simpa using hb4⟩
              · cases hb4
            · simp_all
theorem n00 : ((0 : Int) != 0) = false := by decide
def t3b (r : Except Int (Bool × Int)) : Bool × Int × Int := match r with | .ok x => (x.1, x.2, 0) | .error e => (false, 0, e)
def rBool (b : List Int) (at' : Int) : Except Int (Bool × Int) :=
  match rByte b at' with
  | .error e => .error e
  | .ok c => if 1 < c then .error 3 else .ok (c == 1, at' + 1)
theorem rByte_err {b : List Int} {at' e : Int} (h : rByte b at' = .error e) : e ≠ 0 := by
  unfold rByte at h
  split at h
  · cases h; decide
  · split at h
    · cases h; decide
    · cases h
theorem s_codec_ReadBool (b : List Int) (at' : Int) (hb : b.length ≤ 549755813888) :
    CallsA Try.prog F_codec_ReadBool [encD 1 encU8 0 b, .sc (.int .i64 at')] [] (.tup [.sc (.bool (t3b (rBool b at')).1), .sc (.int .i64 (t3b (rBool b at')).2.1), .sc (.int .i64 (t3b (rBool b at')).2.2)]) [] := by
  refine callsI_of (rs := [_, _, _]) hm Try.func75 (by kernel_rfl) (by kernel_rfl) is_codec_ReadBool (by kernel_rfl : tmpsOf Try.f75.results.toList = some [4, 5, 6]) (by decide) (by kernel_rfl) ?_
  simp only [c_codec_ReadBool, go_sem, ↓reduceIte, Nat.reduceEqDiff, reduceCtorEq, Nat.reduceAdd, Nat.reduceLeDiff, Nat.reduceMul, Nat.reduceSub, Int.reduceToNat]
  refine CallGi_flat (s_codec_readByte b at' hb) rfl ?_
  simp only [go_sem, ↓reduceIte, Nat.reduceEqDiff, reduceCtorEq, Nat.reduceAdd, Nat.reduceLeDiff, Nat.reduceMul, Nat.reduceSub, Int.reduceToNat]
  cases hr : rByte b at' with
  | error e =>
    have he := rByte_err hr
    have h2 : rBool b at' = .error e := by unfold rBool; rw [hr]
    have hne : (e != 0) = true := by simpa using he
    simp only [h2, t2, t3b, hne, go_sem, ↓reduceIte, Nat.reduceEqDiff, reduceCtorEq, Nat.reduceAdd, Nat.reduceLeDiff, Nat.reduceMul, Nat.reduceSub, Int.reduceToNat]
  | ok c =>
    obtain ⟨h0, h1, rfl⟩ := rByte_ok hr
    have h2 : rBool b at' = if 1 < b.getD at'.toNat 0 then .error 3 else .ok (b.getD at'.toNat 0 == 1, at' + 1) := by unfold rBool; rw [hr]
    rw [h2]
    by_cases hc : 1 < b.getD at'.toNat 0
    · simp only [hc, t2, t3b, n00, decide_true, go_sem, ↓reduceIte, Nat.reduceEqDiff, reduceCtorEq, Nat.reduceAdd, Nat.reduceLeDiff, Nat.reduceMul, Nat.reduceSub, Int.reduceToNat]
    · simp only [hc, t2, t3b, n00, decide_false, go_sem, ↓reduceIte, Nat.reduceEqDiff, reduceCtorEq, Nat.reduceAdd, Nat.reduceLeDiff, Nat.reduceMul, Nat.reduceSub, Int.reduceToNat]
      rw [IntKind.wrap_i64]; omega
def t3v (r : Except Int (Vec × Int)) : Vec × Int × Int := match r with | .ok x => (x.1, x.2, 0) | .error e => (default, 0, e)
def rVec (b : List Int) (at' : Int) : Except Int (Vec × Int) :=
  match rInt b at' with
  | .error e => .error e
  | .ok (x, at1) => match rInt b at1 with
    | .error e => .error e
    | .ok (y, at2) => .ok (⟨x, y⟩, at2)
theorem rInt_err {b : List Int} {at' e : Int} (h : rInt b at' = .error e) : e ≠ 0 := by
  unfold rInt rBig at h
  (repeat' split at h) <;> cases h <;> decide
theorem s_codec_ReadVec (b : List Int) (at' : Int) (hb : b.length ≤ 549755813888) (hB : bytes b) :
    CallsA Try.prog F_codec_ReadVec [encD 1 encU8 0 b, .sc (.int .i64 at')] [] (.tup [.agg (t3v (rVec b at')).1.enc, .sc (.int .i64 (t3v (rVec b at')).2.1), .sc (.int .i64 (t3v (rVec b at')).2.2)]) [] := by
  refine callsIR'_of (rs := [_, _, _]) (N := 36) hm Try.func74 (by kernel_rfl) (by kernel_rfl) is_codec_ReadVec (by kernel_rfl) (by kernel_rfl : rvOf Try.prog Try.f74.results.toList = some [(4, some (some 2)), (5, none), (6, none)]) (by decide) (by kernel_rfl) ?_
  simp only [c_codec_ReadVec, go_sem, ↓reduceIte, Nat.reduceEqDiff, reduceCtorEq, Nat.reduceAdd, Nat.reduceLeDiff, Nat.reduceMul, Nat.reduceSub, Int.reduceToNat]
  refine CallGi_flat (s_codec_ReadInt b at' hb hB) rfl ?_
  simp only [go_sem, ↓reduceIte, Nat.reduceEqDiff, reduceCtorEq, Nat.reduceAdd, Nat.reduceLeDiff, Nat.reduceMul, Nat.reduceSub, Int.reduceToNat]
  cases hr : rInt b at' with
  | error e =>
    have he := rInt_err hr
    have h2 : rVec b at' = .error e := by unfold rVec; rw [hr]
    have hne : (e != 0) = true := by simpa using he
    simp only [h2, t3, t3v, hne, go_sem, ↓reduceIte, Nat.reduceEqDiff, reduceCtorEq, Nat.reduceAdd, Nat.reduceLeDiff, Nat.reduceMul, Nat.reduceSub, Int.reduceToNat]
    exact ⟨rfl, rfl⟩
  | ok p =>
    obtain ⟨x, at1⟩ := p
    simp only [t3, n00, go_sem, ↓reduceIte, Nat.reduceEqDiff, reduceCtorEq, Nat.reduceAdd, Nat.reduceLeDiff, Nat.reduceMul, Nat.reduceSub, Int.reduceToNat]
    refine CallGi_flat (s_codec_ReadInt b at1 hb hB) rfl ?_
    simp only [go_sem, ↓reduceIte, Nat.reduceEqDiff, reduceCtorEq, Nat.reduceAdd, Nat.reduceLeDiff, Nat.reduceMul, Nat.reduceSub, Int.reduceToNat]
    cases hr2 : rInt b at1 with
    | error e =>
      have he := rInt_err hr2
      have h2 : rVec b at' = .error e := by unfold rVec; rw [hr]; simp only [hr2]
      have hne : (e != 0) = true := by simpa using he
      simp only [h2, t3, t3v, hne, go_sem, ↓reduceIte, Nat.reduceEqDiff, reduceCtorEq, Nat.reduceAdd, Nat.reduceLeDiff, Nat.reduceMul, Nat.reduceSub, Int.reduceToNat]
      exact ⟨rfl, rfl⟩
    | ok p =>
      obtain ⟨y, at2⟩ := p
      have h2 : rVec b at' = .ok (⟨x, y⟩, at2) := by unfold rVec; rw [hr]; simp only [hr2]
      simp only [h2, t3, t3v, n00, go_sem, ↓reduceIte, Nat.reduceEqDiff, reduceCtorEq, Nat.reduceAdd, Nat.reduceLeDiff, Nat.reduceMul, Nat.reduceSub, Int.reduceToNat]

end Go.Abs
