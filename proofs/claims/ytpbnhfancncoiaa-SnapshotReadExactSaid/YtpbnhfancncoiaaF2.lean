/- A part of the walk: contracts of functions that the statement reaches. -/
import Derived.Test.YtpbnhfancncoiaaAbsD
import Derived.Test.YtpbnhfancncoiaaF1
set_option linter.unusedSimpArgs false
set_option linter.unusedVariables false
set_option linter.unnecessarySimpa false
set_option maxRecDepth 100000
set_option maxHeartbeats 2000000
set_option linter.unusedSimpArgs false
set_option linter.unusedVariables false
namespace Go.Abs
open Go.Proofs
open Api
def evD (n : Int) : Value := .iface 140 (.agg #[.int .i64 n])
theorem evD_ty : ∃ fs, Try.prog.underlying 140 = some (.struct fs) := ⟨_, Try.underlying140⟩
def tRes {α : Type} (enc : α → List AV) (st : α → List (Nat × AObj)) : Except Int α → Except Int (List AV × List (Nat × AObj))
  | .ok x => .ok (enc x, st x)
  | .error e => .error e
/-- a call whose contract turns objects of the state -/
theorem CallGi_subx {P : Program} {m : Nat → Option AObj} {f : FuncId} {avs : List AV} {b : Bool} {Q : ContR} {O O' : List (Nat × AObj)} {r : AV} (hc : CallsA P f avs O r O') (h : okO O) (hk : O'.map (·.1) = O.map (·.1)) (hm : ∀ p ∈ O, m p.1 = some p.2)
    (ha : ∀ a ∈ avs, ∀ i ∈ a.ids, (ofL O i).isSome) (hb : b = true) (hK : @Ri Q b ⟨some r, O'⟩) : @CallGi P m f avs b Q := by
  rw [← renO_id O'] at hK
  have hiff : ∀ i, (ofL O' i).isSome ↔ (ofL O i).isSome := fun i => by
    have key : ∀ (l : List (Nat × AObj)), (l.map (·.1)).Nodup → ((ofL l i).isSome ↔ i ∈ l.map (·.1)) := fun l hl => by
      constructor
      · intro hs
        obtain ⟨o, ho⟩ := Option.isSome_iff_exists.1 hs
        exact List.mem_map_of_mem (f := (·.1)) (ofL_mem' hl ho)
      · intro hs
        rw [List.mem_map] at hs
        obtain ⟨p, hp, rfl⟩ := hs
        rw [ofL_mem_eq hl hp]; rfl
    rw [key O' (by rw [hk]; exact h.1), key O h.1, hk]
  refine ⟨⟨some r, renO id O'⟩, fun _ => ?_, fun _ => hb, hK⟩
  have := CallDoes.mk (P := P) (m := m) (avs.map fun _ => true) avs O r O' id [] false hc (argsOk_same ha)
    (fun i o hi => by rw [aobj_ren_id]; exact hm _ (ofL_mem' h.1 hi))
    (fun i cs hi j hj => h.2 _ (ofL_mem' h.1 hi) cs rfl j hj) (fun i hi => (hiff i).2 hi) (fun i hi => .inl ((hiff i).1 hi)) (by show (O'.map (·.1)).Nodup; rw [hk]; exact h.1) (fun e => by cases e)
  simpa [AV.ren_id] using this
theorem CallGiT_sub {P : Program} {m : Nat → Option AObj} {f : FuncId} {avs : List AV} {b : Bool} {Q : ContR} {D : ContD} {O : List (Nat × AObj)} {α : Type} {r : Except Int α} {enc : α → List AV} {st : α → List (Nat × AObj)} {ev : Int → Value}
    (hc : CallsT P ev f avs O (tRes enc st r)) (hev : D.ev = ev) (h : okO O) (hk : ∀ x, (st x).map (·.1) = O.map (·.1)) (hm : ∀ p ∈ O, m p.1 = some p.2)
    (ha : ∀ a ∈ avs, ∀ i ∈ a.ids, (ofL O i).isSome) (hb : b = true) (hD : ∀ e, r = .error e → D.d e) (hK : ∀ x, r = .ok x → @Ri Q b ⟨some (pack (enc x)), st x⟩) : @CallGiT P m f avs b Q D := by
  cases r with
  | ok x => exact .inl (CallGi_subx hc h (hk x) hm ha hb (hK x rfl))
  | error e =>
    subst hev
    exact .inr ⟨hb, avs.map (fun _ => true), avs, O, id, [], e, hD e rfl, hc, argsOk_same ha, fun i o hi => by rw [aobj_ren_id]; exact hm _ (ofL_mem' h.1 hi),
      fun i cs hi j hj => h.2 _ (ofL_mem' h.1 hi) cs rfl j hj, fun i j _ _ e => e⟩
def dO (b : List Int) (at' : Int) : List (Nat × AObj) := [(1, .box [encD 1 encU8 0 b, .sc (.int .i64 at')])]
attribute [go_sem] dO
theorem okO_dO (b : List Int) (at' : Int) : okO (dO b at') := by
  refine ⟨by simp [go_sem], ?_⟩
  simp [go_sem, idsL, AV.ids]
theorem retT_ok {α : Type} {enc : α → List AV} {st : α → List (Nat × AObj)} {r : Except Int α} (x : α) (h : r = .ok x) {Q : List AV → List (Nat × AObj) → Prop} (hq : Q (enc x) (st x)) : ∃ rs O', tRes enc st r = .ok (rs, O') ∧ Q rs O' :=
  ⟨enc x, st x, by rw [h]; rfl, hq⟩
theorem tRes_err {α : Type} {enc : α → List AV} {st : α → List (Nat × AObj)} {r : Except Int α} {e : Int} (h : r = .error e) : tRes enc st r = .error e := by rw [h]; rfl
def advR (code : Int) : Except Int Unit := if code = 0 then .ok () else .error code
theorem advR_ok {c : Int} {u : Unit} (h : advR c = .ok u) : c = 0 := by
  unfold advR at h; split at h
  · assumption
  · cases h
theorem advR_err {c e : Int} (h : advR c = .error e) : c ≠ 0 ∧ c = e := by
  unfold advR at h; split at h
  · cases h
  · cases h; exact ⟨by assumption, rfl⟩
def tc_snapshot_decoder_advance : TCode := (.seq (.seq (.plain (.region false [⟨(some 6), .mov (.t 2), none, []⟩, ⟨(some 7), .bin .neq (.t 6) (.k (.sc (.int .i64 0))), none, []⟩])) (.cond (.t 7) (.die [⟨(some 8), .mov (.t 2), none, []⟩, ⟨(some 9), .build [(.int .i64 0)] [(0, 1, (.t 8))], none, []⟩] (.t 9)) (.plain .skip))) (.plain (.region false [⟨(some 11), .mov (.t 0), none, []⟩, ⟨(some 12), .mov (.t 1), none, []⟩, ⟨(some 13), .nilck (.t 11), none, []⟩, ⟨(some 14), .faddr 1 (.t 13), none, []⟩, ⟨none, .store 1 (.t 14) (.t 12), none, []⟩])))
theorem s_dec_advance (b : List Int) (at' off code : Int) : CallsT Try.prog evD F_snapshot_decoder_advance [.ptr 1 0 0 1, .sc (.int .i64 off), .sc (.int .i64 code)] (dO b at') (tRes (fun _ : Unit => []) (fun _ => dO b off) (advR code)) := by
  unfold advR
  refine callsTC_of (N := 15) hm evD_ty (fun _ => rfl) Try.func73 (by kernel_rfl) (by kernel_rfl) (by kernel_rfl) (by kernel_rfl : tcompile _ _ _ _ = some tc_snapshot_decoder_advance) (by kernel_rfl : rvOf Try.prog Try.f73.results.toList = some []) (by decide) (by kernel_rfl) ?_
  simp only [tc_snapshot_decoder_advance, go_sem, ↓reduceIte, Nat.reduceEqDiff, reduceCtorEq, Nat.reduceAdd, Nat.reduceLeDiff, Nat.reduceMul, Nat.reduceSub, Int.reduceToNat]
  by_cases hc : code = 0
  · subst hc
    rw [if_neg (by decide)]
    refine retT_ok () rfl ?_
    simp only [retR]
    exact retW_of [] [] [] rfl rfl (by simp [go_sem]) (by simp [assoc, go_sem]) (by simp [go_sem]) (by simp only [go_sem, ↓reduceIte, Nat.reduceEqDiff, reduceCtorEq, Nat.reduceAdd, Nat.reduceLeDiff, Nat.reduceMul, Nat.reduceSub, Int.reduceToNat])
  · have hne : (code != 0) = true := by simpa using hc
    rw [if_pos hne, if_neg hc]
    exact ⟨code, rfl, rfl⟩
theorem rBool_err {b : List Int} {at' e : Int} (h : rBool b at' = .error e) : e ≠ 0 := by
  unfold rBool at h
  split at h
  · rename_i hr; cases h; exact rByte_err hr
  · split at h
    · cases h; decide
    · cases h
theorem rVec_err {b : List Int} {at' e : Int} (h : rVec b at' = .error e) : e ≠ 0 := by
  unfold rVec at h
  split at h
  · rename_i hr; cases h; exact rInt_err hr
  · split at h
    · rename_i hr; cases h; exact rInt_err hr
    · cases h
theorem s_dec_int (b : List Int) (at' : Int) (hb : b.length ≤ 549755813888) (hB : bytes b) : CallsT Try.prog evD F_snapshot_decoder_int [.ptr 1 0 0 1] (dO b at') (tRes (fun x : Int × Int => [.sc (.int .i64 x.1)]) (fun x => dO b x.2) (rInt b at')) := by
  refine callsT_of (N := 24) hm Try.func50 (by kernel_rfl) (by kernel_rfl) is_snapshot_decoder_int (by kernel_rfl) (by kernel_rfl : rvOf Try.prog Try.f50.results.toList = some [(2, none)]) (by decide) (by kernel_rfl) ?_
  simp only [c_snapshot_decoder_int, go_sem, ↓reduceIte, Nat.reduceEqDiff, reduceCtorEq, Nat.reduceAdd, Nat.reduceLeDiff, Nat.reduceMul, Nat.reduceSub, Int.reduceToNat]
  refine CallGi_flat (s_codec_ReadInt b at' hb hB) rfl ?_
  simp only [go_sem, ↓reduceIte, Nat.reduceEqDiff, reduceCtorEq, Nat.reduceAdd, Nat.reduceLeDiff, Nat.reduceMul, Nat.reduceSub, Int.reduceToNat]
  refine CallGiT_sub (s_dec_advance b at' _ _) rfl (okO_dO _ _) (fun _ => rfl) (by simp [go_sem]) (by simp [go_sem, AV.ids]) rfl (fun e he => ?_) (fun _ he => ?_)
  · cases hr : rInt b at' with
    | ok x => exact absurd (by rw [hr]; rfl) (advR_err he).1
    | error e' =>
      have h := (advR_err he).2

      rw [hr] at h
      obtain rfl : e' = e := h
      exact tRes_err rfl
  · cases hr : rInt b at' with
    | error e' => have h := advR_ok he; rw [hr] at h; exact absurd h (rInt_err hr)
    | ok x =>
      simp only [t3, go_sem, ↓reduceIte, Nat.reduceEqDiff, reduceCtorEq, Nat.reduceAdd, Nat.reduceLeDiff, Nat.reduceMul, Nat.reduceSub, Int.reduceToNat]
      refine retT_ok x rfl ?_
      simp only [retR, go_sem, ↓reduceIte, Nat.reduceEqDiff, reduceCtorEq, Nat.reduceAdd, Nat.reduceLeDiff, Nat.reduceMul, Nat.reduceSub, Int.reduceToNat]
      refine retW_of [.share] [] [] rfl rfl (by simp [go_sem]) (by simp [assoc, go_sem]) (by simp [go_sem]) ?_
      simp only [go_sem, ↓reduceIte, Nat.reduceEqDiff, reduceCtorEq, Nat.reduceAdd, Nat.reduceLeDiff, Nat.reduceMul, Nat.reduceSub, Int.reduceToNat]
theorem s_dec_bool (b : List Int) (at' : Int) (hb : b.length ≤ 549755813888) : CallsT Try.prog evD F_snapshot_decoder_bool [.ptr 1 0 0 1] (dO b at') (tRes (fun x : Bool × Int => [.sc (.bool x.1)]) (fun x => dO b x.2) (rBool b at')) := by
  refine callsT_of (N := 24) hm Try.func52 (by kernel_rfl) (by kernel_rfl) is_snapshot_decoder_bool (by kernel_rfl) (by kernel_rfl : rvOf Try.prog Try.f52.results.toList = some [(2, none)]) (by decide) (by kernel_rfl) ?_
  simp only [c_snapshot_decoder_bool, go_sem, ↓reduceIte, Nat.reduceEqDiff, reduceCtorEq, Nat.reduceAdd, Nat.reduceLeDiff, Nat.reduceMul, Nat.reduceSub, Int.reduceToNat]
  refine CallGi_flat (s_codec_ReadBool b at' hb) rfl ?_
  simp only [go_sem, ↓reduceIte, Nat.reduceEqDiff, reduceCtorEq, Nat.reduceAdd, Nat.reduceLeDiff, Nat.reduceMul, Nat.reduceSub, Int.reduceToNat]
  refine CallGiT_sub (s_dec_advance b at' _ _) rfl (okO_dO _ _) (fun _ => rfl) (by simp [go_sem]) (by simp [go_sem, AV.ids]) rfl (fun e he => ?_) (fun _ he => ?_)
  · cases hr : rBool b at' with
    | ok x => exact absurd (by rw [hr]; rfl) (advR_err he).1
    | error e' =>
      have h := (advR_err he).2

      rw [hr] at h
      obtain rfl : e' = e := h
      exact tRes_err rfl
  · cases hr : rBool b at' with
    | error e' => have h := advR_ok he; rw [hr] at h; exact absurd h (rBool_err hr)
    | ok x =>
      simp only [t3b, go_sem, ↓reduceIte, Nat.reduceEqDiff, reduceCtorEq, Nat.reduceAdd, Nat.reduceLeDiff, Nat.reduceMul, Nat.reduceSub, Int.reduceToNat]
      refine retT_ok x rfl ?_
      simp only [retR, go_sem, ↓reduceIte, Nat.reduceEqDiff, reduceCtorEq, Nat.reduceAdd, Nat.reduceLeDiff, Nat.reduceMul, Nat.reduceSub, Int.reduceToNat]
      refine retW_of [.share] [] [] rfl rfl (by simp [go_sem]) (by simp [assoc, go_sem]) (by simp [go_sem]) ?_
      simp only [go_sem, ↓reduceIte, Nat.reduceEqDiff, reduceCtorEq, Nat.reduceAdd, Nat.reduceLeDiff, Nat.reduceMul, Nat.reduceSub, Int.reduceToNat]
theorem s_dec_vec (b : List Int) (at' : Int) (hb : b.length ≤ 549755813888) (hB : bytes b) : CallsT Try.prog evD F_snapshot_decoder_vec [.ptr 1 0 0 1] (dO b at') (tRes (fun x : Vec × Int => [.agg x.1.enc]) (fun x => dO b x.2) (rVec b at')) := by
  refine callsT_of (N := 24) hm Try.func51 (by kernel_rfl) (by kernel_rfl) is_snapshot_decoder_vec (by kernel_rfl) (by kernel_rfl : rvOf Try.prog Try.f51.results.toList = some [(2, some (some 2))]) (by decide) (by kernel_rfl) ?_
  simp only [c_snapshot_decoder_vec, go_sem, ↓reduceIte, Nat.reduceEqDiff, reduceCtorEq, Nat.reduceAdd, Nat.reduceLeDiff, Nat.reduceMul, Nat.reduceSub, Int.reduceToNat]
  refine CallGi_flat (s_codec_ReadVec b at' hb hB) rfl ?_
  simp only [go_sem, ↓reduceIte, Nat.reduceEqDiff, reduceCtorEq, Nat.reduceAdd, Nat.reduceLeDiff, Nat.reduceMul, Nat.reduceSub, Int.reduceToNat]
  refine CallGiT_sub (s_dec_advance b at' _ _) rfl (okO_dO _ _) (fun _ => rfl) (by simp [go_sem]) (by simp [go_sem, AV.ids]) rfl (fun e he => ?_) (fun _ he => ?_)
  · cases hr : rVec b at' with
    | ok x => exact absurd (by rw [hr]; rfl) (advR_err he).1
    | error e' =>
      have h := (advR_err he).2

      rw [hr] at h
      obtain rfl : e' = e := h
      exact tRes_err rfl
  · cases hr : rVec b at' with
    | error e' => have h := advR_ok he; rw [hr] at h; exact absurd h (rVec_err hr)
    | ok x =>
      simp only [t3v, go_sem, ↓reduceIte, Nat.reduceEqDiff, reduceCtorEq, Nat.reduceAdd, Nat.reduceLeDiff, Nat.reduceMul, Nat.reduceSub, Int.reduceToNat]
      refine retT_ok x rfl ?_
      simp only [retR, go_sem, ↓reduceIte, Nat.reduceEqDiff, reduceCtorEq, Nat.reduceAdd, Nat.reduceLeDiff, Nat.reduceMul, Nat.reduceSub, Int.reduceToNat]
      refine retW_of [.share] [] [] rfl rfl (by simp [go_sem]) (by simp [assoc, go_sem]) (by simp [go_sem]) ?_
      simp only [go_sem, ↓reduceIte, Nat.reduceEqDiff, reduceCtorEq, Nat.reduceAdd, Nat.reduceLeDiff, Nat.reduceMul, Nat.reduceSub, Int.reduceToNat]
def tc_snapshot_decoder_length : TCode := (.seq (.plain (.region false [⟨(some 2), .mov (.k (.sc (.int .i64 0))), none, []⟩])) (.seq (.plain (.region false [⟨(some 4), .mov (.t 0), none, []⟩, ⟨(some 5), .call 50 [(.t 4)], none, []⟩, ⟨(some 3), .mov (.t 5), none, []⟩])) (.seq (.block 0 (.seq (.plain (.region false [⟨(some 7), .mov (.t 3), none, []⟩, ⟨(some 8), .bin .lss (.t 7) (.k (.sc (.int .i64 0))), none, []⟩, ⟨(some 6), .mov (.t 8), none, []⟩])) (.cond (.t 6) (.die [⟨(some 9), .build [(.int .i64 0)] [(0, 1, (.k (.sc (.int .i64 3))))], none, []⟩] (.t 9)) (.seq (.plain (.region false [⟨(some 12), .mov (.t 3), none, []⟩, ⟨(some 13), .bin .gtr (.t 12) (.k (.sc (.int .i64 8192))), none, []⟩, ⟨(some 11), .mov (.t 13), none, []⟩])) (.cond (.t 11) (.die [⟨(some 14), .build [(.int .i64 0)] [(0, 1, (.k (.sc (.int .i64 5))))], none, []⟩] (.t 14)) (.plain .skip)))))) (.seq (.plain (.region false [⟨(some 16), .mov (.t 3), none, []⟩, ⟨(some 2), .mov (.t 16), none, []⟩])) (.plain .ret)))))
def rLen (b : List Int) (at' : Int) : Except Int (Int × Int) :=
  match rInt b at' with
  | .error e => .error e
  | .ok x => if x.1 < 0 then .error 3 else if 8192 < x.1 then .error 5 else .ok x
theorem rLen_ok {b : List Int} {at' : Int} {x : Int × Int} (h : rLen b at' = .ok x) : 0 ≤ x.1 ∧ x.1 ≤ 8192 ∧ rInt b at' = .ok x := by
  unfold rLen at h
  split at h
  · cases h
  · split at h
    · cases h
    · split at h
      · cases h
      · rename_i hr _ _; cases h; exact ⟨by omega, by omega, hr⟩
theorem s_dec_length (b : List Int) (at' : Int) (hb : b.length ≤ 549755813888) (hB : bytes b) : CallsT Try.prog evD F_snapshot_decoder_length [.ptr 1 0 0 1] (dO b at') (tRes (fun x : Int × Int => [.sc (.int .i64 x.1)]) (fun x => dO b x.2) (rLen b at')) := by
  refine callsTC_of (N := 17) hm evD_ty (fun _ => rfl) Try.func76 (by kernel_rfl) (by kernel_rfl) (by kernel_rfl) (by kernel_rfl : tcompile _ _ _ _ = some tc_snapshot_decoder_length) (by kernel_rfl : rvOf Try.prog Try.f76.results.toList = some [(2, none)]) (by decide) (by kernel_rfl) ?_
  simp only [tc_snapshot_decoder_length, go_sem, ↓reduceIte, Nat.reduceEqDiff, reduceCtorEq, Nat.reduceAdd, Nat.reduceLeDiff, Nat.reduceMul, Nat.reduceSub, Int.reduceToNat]
  refine CallGiT_sub (s_dec_int b at' hb hB) rfl (okO_dO _ _) (fun _ => rfl) (by simp [go_sem]) (by simp [go_sem, AV.ids]) rfl (fun e he => ?_) (fun x he => ?_)
  · have : rLen b at' = .error e := by unfold rLen; rw [he]
    exact tRes_err this
  · simp only [go_sem, ↓reduceIte, Nat.reduceEqDiff, reduceCtorEq, Nat.reduceAdd, Nat.reduceLeDiff, Nat.reduceMul, Nat.reduceSub, Int.reduceToNat]
    by_cases h1 : x.1 < 0
    · have h2 : rLen b at' = .error 3 := by unfold rLen; rw [he]; simp only [h1, if_true]
      simp only [h1, decide_true, go_sem, ↓reduceIte, Nat.reduceEqDiff, reduceCtorEq, Nat.reduceAdd, Nat.reduceLeDiff, Nat.reduceMul, Nat.reduceSub, Int.reduceToNat]
      exact ⟨3, tRes_err h2, rfl⟩
    · by_cases h3 : 8192 < x.1
      · have h2 : rLen b at' = .error 5 := by unfold rLen; rw [he]; simp only [h1, h3, if_true, if_false]
        simp only [h1, h3, decide_true, decide_false, go_sem, ↓reduceIte, Nat.reduceEqDiff, reduceCtorEq, Nat.reduceAdd, Nat.reduceLeDiff, Nat.reduceMul, Nat.reduceSub, Int.reduceToNat]
        exact ⟨5, tRes_err h2, rfl⟩
      · have h2 : rLen b at' = .ok x := by unfold rLen; rw [he]; simp only [h1, h3, if_false]
        simp only [h1, h3, decide_false, go_sem, ↓reduceIte, Nat.reduceEqDiff, reduceCtorEq, Nat.reduceAdd, Nat.reduceLeDiff, Nat.reduceMul, Nat.reduceSub, Int.reduceToNat]
        refine retT_ok x h2 ?_
        simp only [retR, go_sem, ↓reduceIte, Nat.reduceEqDiff, reduceCtorEq, Nat.reduceAdd, Nat.reduceLeDiff, Nat.reduceMul, Nat.reduceSub, Int.reduceToNat]
        refine retW_of [.share] [] [] rfl rfl (by simp [go_sem]) (by simp [assoc, go_sem]) (by simp [go_sem]) ?_
        simp only [go_sem, ↓reduceIte, Nat.reduceEqDiff, reduceCtorEq, Nat.reduceAdd, Nat.reduceLeDiff, Nat.reduceMul, Nat.reduceSub, Int.reduceToNat]

end Go.Abs
