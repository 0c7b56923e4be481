/- A part of the walk: contracts of functions that the statement reaches. -/
import Derived.Test.YtpbnhfancncoiaaAbsD
import Derived.Test.YtpbnhfancncoiaaF5
set_option linter.unusedSimpArgs false
set_option linter.unusedVariables false
set_option linter.unnecessarySimpa false
set_option maxRecDepth 100000
set_option maxHeartbeats 2000000
set_option linter.unusedSimpArgs false
set_option linter.unusedVariables false
namespace Go.Abs
open Go.Proofs
open Api
def rd_snapshot_recoverError : RecD := ⟨5, 2, 6, 7, 10, 9, 140, [⟨(some 8), .mov (.t 10), none, []⟩, ⟨(some 11), .ext (.t 8) 0, none, []⟩, ⟨(some 12), .ext (.t 8) 1, none, []⟩, ⟨(some 3), .alloc [(.int .i64 0)], none, []⟩, ⟨none, .store 1 (.t 3) (.t 11), none, []⟩, ⟨(some 4), .mov (.t 12), none, []⟩], (.seq (.seq (.region false [⟨(some 13), .mov (.t 4), none, []⟩, ⟨(some 14), .un .not (.t 13), none, []⟩])
  (.cond (.t 14) (.region false [⟨(some 15), .mov (.t 2), none, []⟩, ⟨none, .bad, none, []⟩]) .skip))
  (.region false [⟨(some 16), .mov (.t 0), none, []⟩, ⟨(some 17), .faddr 0 (.t 3), none, []⟩, ⟨(some 18), .load none (.t 17), none, []⟩, ⟨(some 19), .nilck (.t 16), none, []⟩, ⟨none, .store 1 (.t 19) (.t 18), none, []⟩]))⟩
theorem rd_is : recog Try.prog Try.f49.ntmps 20 (Try.f49.body.getD .skip) = some rd_snapshot_recoverError := by kernel_rfl
def t3d {α : Type} [Inhabited α] (r : Except Int (α × Int)) : α × Int × Int := match r with | .ok x => (x.1, x.2, 0) | .error e => (default, 0, e)

def dd_snapshot_decodeAt_Contact : DecD where
  as0 := [⟨(some 6), .alloc [(.int .i64 0), (.int .i64 0), (.int .i64 0), (.int .i64 0), (.int .i64 0), (.int .i64 0), (.slice none 0 0)], none, []⟩, ⟨(some 7), .alloc [(.int .i64 0)], none, []⟩, ⟨(some 8), .alloc [(.int .i64 0)], none, []⟩]
  as1 := [⟨(some 10), .mov (.t 0), none, []⟩, ⟨(some 11), .mov (.t 1), none, []⟩, ⟨(some 12), .build [(.slice none 0 0), (.int .i64 0)] [(0, 1, (.t 10)), (1, 1, (.t 11))], none, []⟩, ⟨(some 13), .box (.t 12), none, []⟩, ⟨(some 9), .mov (.t 13), none, []⟩]
  mkf := [⟨(some 14), .mkfn (.func 62) [] [(.t 8), (.t 6), (.t 7)], none, []⟩]
  fv := 14
  g := 49
  tc := 8
  as4 := [⟨(some 15), .mov (.t 2), none, []⟩, ⟨(some 16), .mov (.t 9), none, []⟩, ⟨(some 17), .callv (.t 15) [(.t 16)], none, []⟩, ⟨none, .store 7 (.t 6) (.t 17), none, []⟩]
  as5 := [⟨(some 18), .load (some 7) (.t 6), none, []⟩, ⟨(some 19), .mov (.t 9), none, []⟩, ⟨(some 20), .nilck (.t 19), none, []⟩, ⟨(some 21), .faddr 1 (.t 20), none, []⟩, ⟨(some 22), .load none (.t 21), none, []⟩, ⟨none, .store 7 (.t 6) (.t 18), none, [4]⟩, ⟨none, .store 1 (.t 7) (.t 22), none, []⟩, ⟨none, .store 1 (.t 8) (.k (.sc (.int .i64 0))), none, []⟩]
theorem dd_Contact_is : recogA Try.prog Try.f38.ntmps (Try.f38.body.getD .skip) = some dd_snapshot_decodeAt_Contact := by kernel_rfl
def oA_Contact (x : Contact) (n e : Int) : List (Nat × AObj) := [(112, .box x.enc), (128, .box [.sc (.int .i64 n)]), (144, .box [.sc (.int .i64 e)])]
def oZ_Contact : List (Nat × AObj) := [(112, .box Contact.zero), (128, .box [.sc (.int .i64 0)]), (144, .box [.sc (.int .i64 0)])]
def oT_Contact : Slots := [(6, .share, .ptr 112 0 0 1), (7, .share, .ptr 128 0 0 1), (8, .share, .ptr 144 0 0 1)]
attribute [go_sem] oA_Contact oT_Contact oZ_Contact
theorem nt_Contact : Try.f38.ntmps = 23 := by kernel_rfl
theorem oRes_Contact (x : Contact) (n e : Int) : retR (stOf oT_Contact (oA_Contact x n e)) Try.f38.ntmps [(6, some (some 7)), (7, some none), (8, some none)] (fun σ2 => RetW [] σ2 (List.range' Try.f38.ntmps [(6, some (some 7)), (7, some none), (8, some none)].length) [.agg x.enc, .sc (.int .i64 n), .sc (.int .i64 e)] []) := by
  rw [nt_Contact]
  simp only [go_sem, ↓reduceIte, Nat.reduceEqDiff, reduceCtorEq, Nat.reduceAdd, Nat.reduceLeDiff, Nat.reduceMul, Nat.reduceSub, Int.reduceToNat]
  refine retW_of [.share, .share, .share] [] [] rfl rfl (by simp [go_sem]) (by simp [assoc, go_sem]) (by simp [go_sem]) ?_
  simp only [go_sem, ↓reduceIte, Nat.reduceEqDiff, reduceCtorEq, Nat.reduceAdd, Nat.reduceLeDiff, Nat.reduceMul, Nat.reduceSub, Int.reduceToNat]
theorem oCl_Contact (x : Contact) (n e : Int) : Wp Try.prog Try.f62.ntmps ((oA_Contact x n e).map (·.1)) c_snapshot_decodeAt_Contact_f1 (doneQ ((oA_Contact x n e).map (·.1)) (if e = 0 then oA_Contact x n e else oA_Contact default 0 e)) (start [.ptr 144 0 0 1, .ptr 112 0 0 1, .ptr 128 0 0 1] (oA_Contact x n e)) := by
  refine Wp.of_W hm _ ?_
  show @Wi Try.prog Try.f62.ntmps _ _ (doneC ((oA_Contact x n e).map (·.1)) (if e = 0 then oA_Contact x n e else oA_Contact default 0 e)) _
  simp only [c_snapshot_decodeAt_Contact_f1, go_sem, ↓reduceIte, Nat.reduceEqDiff, reduceCtorEq, Nat.reduceAdd, Nat.reduceLeDiff, Nat.reduceMul, Nat.reduceSub, Int.reduceToNat]
  by_cases he : e = 0
  · subst he
    rw [if_neg (by decide)]
    simp only [if_true, go_sem, ↓reduceIte, Nat.reduceEqDiff, reduceCtorEq, Nat.reduceAdd, Nat.reduceLeDiff, Nat.reduceMul, Nat.reduceSub, Int.reduceToNat]
    refine weakE_of [] [] (by simp [go_sem]) (by simp [assoc, go_sem]) (by simp [go_sem]) ?_
    simp only [go_sem, ↓reduceIte, Nat.reduceEqDiff, reduceCtorEq, Nat.reduceAdd, Nat.reduceLeDiff, Nat.reduceMul, Nat.reduceSub, Int.reduceToNat]
    try trivial
  · have hne : (e != 0) = true := by simpa using he
    rw [if_pos hne]
    simp only [he, go_sem, ↓reduceIte, Nat.reduceEqDiff, reduceCtorEq, Nat.reduceAdd, Nat.reduceLeDiff, Nat.reduceMul, Nat.reduceSub, Int.reduceToNat]
    refine weakE_of [] [] (by simp [go_sem]) (by simp [assoc, go_sem]) (by simp [go_sem]) ?_
    simp only [go_sem, ↓reduceIte, Nat.reduceEqDiff, reduceCtorEq, Nat.reduceAdd, Nat.reduceLeDiff, Nat.reduceMul, Nat.reduceSub, Int.reduceToNat]
    (repeat' (with_reducible apply And.intro)) <;> first | rfl | exact avle_nilD rfl
theorem okO_oZ_Contact : okO oZ_Contact := by
  refine ⟨by simp [go_sem], ?_⟩
  simp [go_sem, Contact.zero, idsL, AV.ids]
theorem oTp_Contact : ∀ (t : Nat) (av : AV), envT oT_Contact t = some (true, av) → ∃ k, (ofL oZ_Contact k).isSome = true ∧ av = AV.ptr k 0 0 1 := by
  intro t av ht
  simp only [oT_Contact, envT] at ht
  (repeat' split at ht) <;> simp only [Option.some.injEq, Prod.mk.injEq, true_and, reduceCtorEq] at ht <;> subst ht <;> exact ⟨_, rfl, rfl⟩
theorem oDis_Contact (b : List Int) (at' : Int) : ∀ (i j : Nat), (ofL oZ_Contact i).isSome = true → (ofL (dO b at') j).isSome = true → i ≠ assoc [(1, 224)] j := by
  intro i j hi hj
  obtain ⟨o, ho⟩ := ofL_mem hi
  obtain ⟨o', ho'⟩ := ofL_mem hj
  simp only [oZ_Contact, dO, List.mem_cons, Prod.mk.injEq, List.not_mem_nil, or_false] at ho ho'
  obtain ⟨rfl, _⟩ := ho'
  rcases ho with ⟨rfl, _⟩ | ⟨rfl, _⟩ | ⟨rfl, _⟩ <;> decide
theorem oRec_Contact (n : Int) : wseq Try.prog rd_snapshot_recoverError.as (fun τ => Wp Try.prog Try.f49.ntmps (oZ_Contact.map (·.1)) rd_snapshot_recoverError.ac (doneQ (oZ_Contact.map (·.1)) (oA_Contact default 0 n)) τ)
    (stOf [(0, .share, .ptr 144 0 0 1), (rd_snapshot_recoverError.x, .share, .sc (evD n)), (rd_snapshot_recoverError.p, .share, .tup [.agg [.sc (.int .i64 n)], .sc (.bool true)])] oZ_Contact) := by
  refine to_rec ?_
  simp only [rd_snapshot_recoverError, Contact.zero, go_sem, ↓reduceIte, Nat.reduceEqDiff, reduceCtorEq, Nat.reduceAdd, Nat.reduceLeDiff, Nat.reduceMul, Nat.reduceSub, Int.reduceToNat]
  refine Wpi_of hm ?_
  simp only [go_sem, ↓reduceIte, Nat.reduceEqDiff, reduceCtorEq, Nat.reduceAdd, Nat.reduceLeDiff, Nat.reduceMul, Nat.reduceSub, Int.reduceToNat]
  refine weakE_of [] [] (by simp [go_sem]) (by simp [assoc, go_sem]) (by simp [go_sem]) ?_
  simp only [go_sem, ↓reduceIte, Nat.reduceEqDiff, reduceCtorEq, Nat.reduceAdd, Nat.reduceLeDiff, Nat.reduceMul, Nat.reduceSub, Int.reduceToNat]
  try ((repeat' (with_reducible apply And.intro)) <;> first | rfl | exact avle_self _ | exact avle_nilD rfl)
theorem s_decodeAt_Contact (b : List Int) (at' : Int) (f : Nat) (p : Int → Except Int (Contact × Int)) (hp : ∀ t, CallsT Try.prog evD f [.ptr 1 0 0 1] (dO b t) (tRes (fun x : Contact × Int => [.agg x.1.enc]) (fun x => dO b x.2) (p t))) (hpe : ∀ t e, p t = .error e → e ≠ 0) :
    CallsA Try.prog F_snapshot_decodeAt_Contact [encD 1 encU8 0 b, .sc (.int .i64 at'), .fn (.func f) [] []] [] (.tup [.agg (t3d (p at')).1.enc, .sc (.int .i64 (t3d (p at')).2.1), .sc (.int .i64 (t3d (p at')).2.2)]) [] := by
  have hc := hp at'
  have hne := hpe at'
  cases hr : p at' with
  | ok x =>
    rw [hr] at hc
    have hw := oCl_Contact x.1 x.2 0
    rw [if_pos rfl] at hw
    refine decA_normal hm Try.func38 (by kernel_rfl) (by kernel_rfl) dd_Contact_is (by kernel_rfl : rvOf Try.prog Try.f38.results.toList = some [(6, some (some 7)), (7, some none), (8, some none)]) (by kernel_rfl) (by kernel_rfl) Try.underlying20 Try.func49 (by kernel_rfl) (by kernel_rfl) (by kernel_rfl) rd_is
      Try.func62 (by kernel_rfl) (by kernel_rfl) (by kernel_rfl) is_snapshot_decodeAt_Contact_f1 (by decide +kernel) (KK := [112, 128, 144]) (by simp) hw (oRes_Contact x.1 x.2 0) ?_
    show @Wsi Try.prog dd_snapshot_decodeAt_Contact.as0 (thenS Try.prog dd_snapshot_decodeAt_Contact.as1 (thenS Try.prog dd_snapshot_decodeAt_Contact.mkf (midN Try.prog dd_snapshot_decodeAt_Contact.fv (.fn (.func F_snapshot_decodeAt_Contact_f1) [] [.ptr 144 0 0 1, .ptr 112 0 0 1, .ptr 128 0 0 1]) dd_snapshot_decodeAt_Contact.as4 (thenA Try.prog dd_snapshot_decodeAt_Contact.as5 (endN [112, 128, 144] oT_Contact (oA_Contact x.1 x.2 0)))))) _
    simp only [dd_snapshot_decodeAt_Contact, go_sem, ↓reduceIte, Nat.reduceEqDiff, reduceCtorEq, Nat.reduceAdd, Nat.reduceLeDiff, Nat.reduceMul, Nat.reduceSub, Int.reduceToNat]
    refine CallGi_obj [true] [(1, 224)] (show CallsA Try.prog f [.ptr 1 0 0 1] (dO b at') (.agg x.1.enc) (dO b x.2) from hc) (by simp [go_sem]) (by simp [go_sem]) (by simp [go_sem]) (by simp [go_sem]) ?_
    simp only [argsOC, dd_snapshot_decodeAt_Contact, go_sem, ↓reduceIte, Nat.reduceEqDiff, reduceCtorEq, Nat.reduceAdd, Nat.reduceLeDiff, Nat.reduceMul, Nat.reduceSub, Int.reduceToNat]
    refine weakE_of [] [] (by simp [go_sem]) (by simp [assoc, go_sem]) (by simp [go_sem]) ?_
    simp only [t3d, go_sem, ↓reduceIte, Nat.reduceEqDiff, reduceCtorEq, Nat.reduceAdd, Nat.reduceLeDiff, Nat.reduceMul, Nat.reduceSub, Int.reduceToNat]
    try ((repeat' (with_reducible apply And.intro)) <;> first | rfl | exact avle_self _)
  | error e =>
    rw [hr] at hc
    have hne := hne e hr
    have hw := oCl_Contact default 0 e
    rw [if_neg hne] at hw
    refine decA_dies hm Try.func38 (by kernel_rfl) (by kernel_rfl) dd_Contact_is (by kernel_rfl : rvOf Try.prog Try.f38.results.toList = some [(6, some (some 7)), (7, some none), (8, some none)]) (by kernel_rfl) (by kernel_rfl) Try.underlying20 Try.func49 (by kernel_rfl) (by kernel_rfl) (by kernel_rfl) rd_is
      rfl rfl evD_ty (ev := evD) (fun _ => rfl) Try.func62 (by kernel_rfl) (by kernel_rfl) (by kernel_rfl) is_snapshot_decodeAt_Contact_f1 (by decide +kernel) (ρ := assoc [(1, 224)]) (O := dO b at') (ic := 144) (OA0 := oZ_Contact) (T := oT_Contact) ?_ ?_ rfl ?_ ?_ (oRec_Contact e) hw (oRes_Contact default 0 e) ?_
    · simp [go_sem]
    · exact oTp_Contact
    · exact fun i cs hi j hj => (okO_oZ_Contact).2 _ (ofL_mem' (okO_oZ_Contact).1 hi) cs rfl j hj
    · exact oDis_Contact b at'
    show @Wsi Try.prog dd_snapshot_decodeAt_Contact.as0 (thenS Try.prog dd_snapshot_decodeAt_Contact.as1 (thenS Try.prog dd_snapshot_decodeAt_Contact.mkf (midD Try.prog dd_snapshot_decodeAt_Contact.fv (.fn (.func F_snapshot_decodeAt_Contact_f1) [] [.ptr 144 0 0 1, .ptr 112 0 0 1, .ptr 128 0 0 1]) dd_snapshot_decodeAt_Contact.tc (.ptr 144 0 0 1) evD e (assoc [(1, 224)]) (dO b at') (zC oZ_Contact oT_Contact) dd_snapshot_decodeAt_Contact.as4))) _
    simp only [dd_snapshot_decodeAt_Contact, go_sem, ↓reduceIte, Nat.reduceEqDiff, reduceCtorEq, Nat.reduceAdd, Nat.reduceLeDiff, Nat.reduceMul, Nat.reduceSub, Int.reduceToNat]
    refine WdF_go ?_
    simp only [go_sem, ↓reduceIte, Nat.reduceEqDiff, reduceCtorEq, Nat.reduceAdd, Nat.reduceLeDiff, Nat.reduceMul, Nat.reduceSub, Int.reduceToNat]
    refine WdF_go ?_
    simp only [go_sem, ↓reduceIte, Nat.reduceEqDiff, reduceCtorEq, Nat.reduceAdd, Nat.reduceLeDiff, Nat.reduceMul, Nat.reduceSub, Int.reduceToNat]
    refine WdF_die ⟨rfl, f, [.ptr 224 0 0 1], [true], [.ptr 1 0 0 1], by simp only [go_sem, ↓reduceIte, Nat.reduceEqDiff, reduceCtorEq, Nat.reduceAdd, Nat.reduceLeDiff, Nat.reduceMul, Nat.reduceSub, Int.reduceToNat], by simp only [go_sem, ↓reduceIte, Nat.reduceEqDiff, reduceCtorEq, Nat.reduceAdd, Nat.reduceLeDiff, Nat.reduceMul, Nat.reduceSub, Int.reduceToNat], hc, ?_, ?_, ?_, ?_⟩ ⟨?_, ?_⟩
    · exact ⟨rfl, by intro i hi; simp only [AV.ids, List.mem_singleton] at hi; subst hi; rfl, rfl⟩
    · intro i o hi
      have hm1 := ofL_mem' (okO_dO b at').1 hi
      simp only [dO, List.mem_singleton, Prod.mk.injEq] at hm1
      obtain ⟨rfl, rfl⟩ := hm1
      simp only [go_sem, ↓reduceIte, Nat.reduceEqDiff, reduceCtorEq, Nat.reduceAdd, Nat.reduceLeDiff, Nat.reduceMul, Nat.reduceSub, Int.reduceToNat]
    · exact fun i cs hi j hj => (okO_dO b at').2 _ (ofL_mem' (okO_dO b at').1 hi) cs rfl j hj
    · intro i j hi hj _
      obtain ⟨o, ho⟩ := ofL_mem hi
      obtain ⟨o', ho'⟩ := ofL_mem hj
      simp only [List.mem_singleton, Prod.mk.injEq] at ho ho'
      rw [ho.1, ho'.1]
    · intro i o hi
      have hm1 := ofL_mem' (okO_oZ_Contact).1 hi
      simp only [oZ_Contact, List.mem_cons, Prod.mk.injEq, List.not_mem_nil, or_false] at hm1
      rcases hm1 with ⟨rfl, rfl⟩ | ⟨rfl, rfl⟩ | ⟨rfl, rfl⟩
      · simp only [Contact.zero, go_sem, ↓reduceIte, Nat.reduceEqDiff, reduceCtorEq, Nat.reduceAdd, Nat.reduceLeDiff, Nat.reduceMul, Nat.reduceSub, Int.reduceToNat]
      · simp only [go_sem, ↓reduceIte, Nat.reduceEqDiff, reduceCtorEq, Nat.reduceAdd, Nat.reduceLeDiff, Nat.reduceMul, Nat.reduceSub, Int.reduceToNat]
      · simp only [go_sem, ↓reduceIte, Nat.reduceEqDiff, reduceCtorEq, Nat.reduceAdd, Nat.reduceLeDiff, Nat.reduceMul, Nat.reduceSub, Int.reduceToNat]
    · intro t av ht
      simp only [oT_Contact, envT] at ht
      (repeat' split at ht) <;> simp only [Option.some.injEq, Prod.mk.injEq, true_and, reduceCtorEq] at ht <;> subst ht <;> (rename_i e1; subst e1; simp only [go_sem, ↓reduceIte, Nat.reduceEqDiff, reduceCtorEq, Nat.reduceAdd, Nat.reduceLeDiff, Nat.reduceMul, Nat.reduceSub, Int.reduceToNat])

def dd_snapshot_decodeAt_Body : DecD where
  as0 := [⟨(some 6), .alloc [(.int .i64 0), (.int .i64 0), (.int .i64 0), (.int .i64 0), (.int .i64 0), (.int .i64 0), (.int .i64 0), (.int .i64 0), (.int .i64 0), (.int .i64 0), (.int .i64 0), (.int .i64 0), (.int .i64 0), (.int .i64 0), (.bool false), (.bool false), (.bool false), (.bool false), (.int .i64 0), (.slice none 0 0)], none, []⟩, ⟨(some 7), .alloc [(.int .i64 0)], none, []⟩, ⟨(some 8), .alloc [(.int .i64 0)], none, []⟩]
  as1 := [⟨(some 10), .mov (.t 0), none, []⟩, ⟨(some 11), .mov (.t 1), none, []⟩, ⟨(some 12), .build [(.slice none 0 0), (.int .i64 0)] [(0, 1, (.t 10)), (1, 1, (.t 11))], none, []⟩, ⟨(some 13), .box (.t 12), none, []⟩, ⟨(some 9), .mov (.t 13), none, []⟩]
  mkf := [⟨(some 14), .mkfn (.func 48) [] [(.t 8), (.t 6), (.t 7)], none, []⟩]
  fv := 14
  g := 49
  tc := 8
  as4 := [⟨(some 15), .mov (.t 2), none, []⟩, ⟨(some 16), .mov (.t 9), none, []⟩, ⟨(some 17), .callv (.t 15) [(.t 16)], none, []⟩, ⟨none, .store 20 (.t 6) (.t 17), none, []⟩]
  as5 := [⟨(some 18), .load (some 20) (.t 6), none, []⟩, ⟨(some 19), .mov (.t 9), none, []⟩, ⟨(some 20), .nilck (.t 19), none, []⟩, ⟨(some 21), .faddr 1 (.t 20), none, []⟩, ⟨(some 22), .load none (.t 21), none, []⟩, ⟨none, .store 20 (.t 6) (.t 18), none, [4]⟩, ⟨none, .store 1 (.t 7) (.t 22), none, []⟩, ⟨none, .store 1 (.t 8) (.k (.sc (.int .i64 0))), none, []⟩]
theorem dd_Body_is : recogA Try.prog Try.f31.ntmps (Try.f31.body.getD .skip) = some dd_snapshot_decodeAt_Body := by kernel_rfl
def oA_Body (x : Body) (n e : Int) : List (Nat × AObj) := [(112, .box x.enc), (128, .box [.sc (.int .i64 n)]), (144, .box [.sc (.int .i64 e)])]
def oZ_Body : List (Nat × AObj) := [(112, .box Body.zero), (128, .box [.sc (.int .i64 0)]), (144, .box [.sc (.int .i64 0)])]
def oT_Body : Slots := [(6, .share, .ptr 112 0 0 1), (7, .share, .ptr 128 0 0 1), (8, .share, .ptr 144 0 0 1)]
attribute [go_sem] oA_Body oT_Body oZ_Body
theorem nt_Body : Try.f31.ntmps = 23 := by kernel_rfl
theorem oRes_Body (x : Body) (n e : Int) : retR (stOf oT_Body (oA_Body x n e)) Try.f31.ntmps [(6, some (some 20)), (7, some none), (8, some none)] (fun σ2 => RetW [] σ2 (List.range' Try.f31.ntmps [(6, some (some 20)), (7, some none), (8, some none)].length) [.agg x.enc, .sc (.int .i64 n), .sc (.int .i64 e)] []) := by
  rw [nt_Body]
  simp only [go_sem, ↓reduceIte, Nat.reduceEqDiff, reduceCtorEq, Nat.reduceAdd, Nat.reduceLeDiff, Nat.reduceMul, Nat.reduceSub, Int.reduceToNat]
  refine retW_of [.share, .share, .share] [] [] rfl rfl (by simp [go_sem]) (by simp [assoc, go_sem]) (by simp [go_sem]) ?_
  simp only [go_sem, ↓reduceIte, Nat.reduceEqDiff, reduceCtorEq, Nat.reduceAdd, Nat.reduceLeDiff, Nat.reduceMul, Nat.reduceSub, Int.reduceToNat]
theorem oCl_Body (x : Body) (n e : Int) : Wp Try.prog Try.f48.ntmps ((oA_Body x n e).map (·.1)) c_snapshot_decodeAt_Body_f1 (doneQ ((oA_Body x n e).map (·.1)) (if e = 0 then oA_Body x n e else oA_Body default 0 e)) (start [.ptr 144 0 0 1, .ptr 112 0 0 1, .ptr 128 0 0 1] (oA_Body x n e)) := by
  refine Wp.of_W hm _ ?_
  show @Wi Try.prog Try.f48.ntmps _ _ (doneC ((oA_Body x n e).map (·.1)) (if e = 0 then oA_Body x n e else oA_Body default 0 e)) _
  simp only [c_snapshot_decodeAt_Body_f1, go_sem, ↓reduceIte, Nat.reduceEqDiff, reduceCtorEq, Nat.reduceAdd, Nat.reduceLeDiff, Nat.reduceMul, Nat.reduceSub, Int.reduceToNat]
  by_cases he : e = 0
  · subst he
    rw [if_neg (by decide)]
    simp only [if_true, go_sem, ↓reduceIte, Nat.reduceEqDiff, reduceCtorEq, Nat.reduceAdd, Nat.reduceLeDiff, Nat.reduceMul, Nat.reduceSub, Int.reduceToNat]
    refine weakE_of [] [] (by simp [go_sem]) (by simp [assoc, go_sem]) (by simp [go_sem]) ?_
    simp only [go_sem, ↓reduceIte, Nat.reduceEqDiff, reduceCtorEq, Nat.reduceAdd, Nat.reduceLeDiff, Nat.reduceMul, Nat.reduceSub, Int.reduceToNat]
    try trivial
  · have hne : (e != 0) = true := by simpa using he
    rw [if_pos hne]
    simp only [he, go_sem, ↓reduceIte, Nat.reduceEqDiff, reduceCtorEq, Nat.reduceAdd, Nat.reduceLeDiff, Nat.reduceMul, Nat.reduceSub, Int.reduceToNat]
    refine weakE_of [] [] (by simp [go_sem]) (by simp [assoc, go_sem]) (by simp [go_sem]) ?_
    simp only [go_sem, ↓reduceIte, Nat.reduceEqDiff, reduceCtorEq, Nat.reduceAdd, Nat.reduceLeDiff, Nat.reduceMul, Nat.reduceSub, Int.reduceToNat]
    (repeat' (with_reducible apply And.intro)) <;> first | rfl | exact avle_nilD rfl
theorem okO_oZ_Body : okO oZ_Body := by
  refine ⟨by simp [go_sem], ?_⟩
  simp [go_sem, Body.zero, idsL, AV.ids]
theorem oTp_Body : ∀ (t : Nat) (av : AV), envT oT_Body t = some (true, av) → ∃ k, (ofL oZ_Body k).isSome = true ∧ av = AV.ptr k 0 0 1 := by
  intro t av ht
  simp only [oT_Body, envT] at ht
  (repeat' split at ht) <;> simp only [Option.some.injEq, Prod.mk.injEq, true_and, reduceCtorEq] at ht <;> subst ht <;> exact ⟨_, rfl, rfl⟩
theorem oDis_Body (b : List Int) (at' : Int) : ∀ (i j : Nat), (ofL oZ_Body i).isSome = true → (ofL (dO b at') j).isSome = true → i ≠ assoc [(1, 224)] j := by
  intro i j hi hj
  obtain ⟨o, ho⟩ := ofL_mem hi
  obtain ⟨o', ho'⟩ := ofL_mem hj
  simp only [oZ_Body, dO, List.mem_cons, Prod.mk.injEq, List.not_mem_nil, or_false] at ho ho'
  obtain ⟨rfl, _⟩ := ho'
  rcases ho with ⟨rfl, _⟩ | ⟨rfl, _⟩ | ⟨rfl, _⟩ <;> decide
theorem oRec_Body (n : Int) : wseq Try.prog rd_snapshot_recoverError.as (fun τ => Wp Try.prog Try.f49.ntmps (oZ_Body.map (·.1)) rd_snapshot_recoverError.ac (doneQ (oZ_Body.map (·.1)) (oA_Body default 0 n)) τ)
    (stOf [(0, .share, .ptr 144 0 0 1), (rd_snapshot_recoverError.x, .share, .sc (evD n)), (rd_snapshot_recoverError.p, .share, .tup [.agg [.sc (.int .i64 n)], .sc (.bool true)])] oZ_Body) := by
  refine to_rec ?_
  simp only [rd_snapshot_recoverError, Body.zero, go_sem, ↓reduceIte, Nat.reduceEqDiff, reduceCtorEq, Nat.reduceAdd, Nat.reduceLeDiff, Nat.reduceMul, Nat.reduceSub, Int.reduceToNat]
  refine Wpi_of hm ?_
  simp only [go_sem, ↓reduceIte, Nat.reduceEqDiff, reduceCtorEq, Nat.reduceAdd, Nat.reduceLeDiff, Nat.reduceMul, Nat.reduceSub, Int.reduceToNat]
  refine weakE_of [] [] (by simp [go_sem]) (by simp [assoc, go_sem]) (by simp [go_sem]) ?_
  simp only [go_sem, ↓reduceIte, Nat.reduceEqDiff, reduceCtorEq, Nat.reduceAdd, Nat.reduceLeDiff, Nat.reduceMul, Nat.reduceSub, Int.reduceToNat]
  try ((repeat' (with_reducible apply And.intro)) <;> first | rfl | exact avle_self _ | exact avle_nilD rfl)
theorem s_decodeAt_Body (b : List Int) (at' : Int) (f : Nat) (p : Int → Except Int (Body × Int)) (hp : ∀ t, CallsT Try.prog evD f [.ptr 1 0 0 1] (dO b t) (tRes (fun x : Body × Int => [.agg x.1.enc]) (fun x => dO b x.2) (p t))) (hpe : ∀ t e, p t = .error e → e ≠ 0) :
    CallsA Try.prog F_snapshot_decodeAt_Body [encD 1 encU8 0 b, .sc (.int .i64 at'), .fn (.func f) [] []] [] (.tup [.agg (t3d (p at')).1.enc, .sc (.int .i64 (t3d (p at')).2.1), .sc (.int .i64 (t3d (p at')).2.2)]) [] := by
  have hc := hp at'
  have hne := hpe at'
  cases hr : p at' with
  | ok x =>
    rw [hr] at hc
    have hw := oCl_Body x.1 x.2 0
    rw [if_pos rfl] at hw
    refine decA_normal hm Try.func31 (by kernel_rfl) (by kernel_rfl) dd_Body_is (by kernel_rfl : rvOf Try.prog Try.f31.results.toList = some [(6, some (some 20)), (7, some none), (8, some none)]) (by kernel_rfl) (by kernel_rfl) Try.underlying20 Try.func49 (by kernel_rfl) (by kernel_rfl) (by kernel_rfl) rd_is
      Try.func48 (by kernel_rfl) (by kernel_rfl) (by kernel_rfl) is_snapshot_decodeAt_Body_f1 (by decide +kernel) (KK := [112, 128, 144]) (by simp) hw (oRes_Body x.1 x.2 0) ?_
    show @Wsi Try.prog dd_snapshot_decodeAt_Body.as0 (thenS Try.prog dd_snapshot_decodeAt_Body.as1 (thenS Try.prog dd_snapshot_decodeAt_Body.mkf (midN Try.prog dd_snapshot_decodeAt_Body.fv (.fn (.func F_snapshot_decodeAt_Body_f1) [] [.ptr 144 0 0 1, .ptr 112 0 0 1, .ptr 128 0 0 1]) dd_snapshot_decodeAt_Body.as4 (thenA Try.prog dd_snapshot_decodeAt_Body.as5 (endN [112, 128, 144] oT_Body (oA_Body x.1 x.2 0)))))) _
    simp only [dd_snapshot_decodeAt_Body, go_sem, ↓reduceIte, Nat.reduceEqDiff, reduceCtorEq, Nat.reduceAdd, Nat.reduceLeDiff, Nat.reduceMul, Nat.reduceSub, Int.reduceToNat]
    refine CallGi_obj [true] [(1, 224)] (show CallsA Try.prog f [.ptr 1 0 0 1] (dO b at') (.agg x.1.enc) (dO b x.2) from hc) (by simp [go_sem]) (by simp [go_sem]) (by simp [go_sem]) (by simp [go_sem]) ?_
    simp only [argsOC, dd_snapshot_decodeAt_Body, go_sem, ↓reduceIte, Nat.reduceEqDiff, reduceCtorEq, Nat.reduceAdd, Nat.reduceLeDiff, Nat.reduceMul, Nat.reduceSub, Int.reduceToNat]
    refine weakE_of [] [] (by simp [go_sem]) (by simp [assoc, go_sem]) (by simp [go_sem]) ?_
    simp only [t3d, go_sem, ↓reduceIte, Nat.reduceEqDiff, reduceCtorEq, Nat.reduceAdd, Nat.reduceLeDiff, Nat.reduceMul, Nat.reduceSub, Int.reduceToNat]
    try ((repeat' (with_reducible apply And.intro)) <;> first | rfl | exact avle_self _)
  | error e =>
    rw [hr] at hc
    have hne := hne e hr
    have hw := oCl_Body default 0 e
    rw [if_neg hne] at hw
    refine decA_dies hm Try.func31 (by kernel_rfl) (by kernel_rfl) dd_Body_is (by kernel_rfl : rvOf Try.prog Try.f31.results.toList = some [(6, some (some 20)), (7, some none), (8, some none)]) (by kernel_rfl) (by kernel_rfl) Try.underlying20 Try.func49 (by kernel_rfl) (by kernel_rfl) (by kernel_rfl) rd_is
      rfl rfl evD_ty (ev := evD) (fun _ => rfl) Try.func48 (by kernel_rfl) (by kernel_rfl) (by kernel_rfl) is_snapshot_decodeAt_Body_f1 (by decide +kernel) (ρ := assoc [(1, 224)]) (O := dO b at') (ic := 144) (OA0 := oZ_Body) (T := oT_Body) ?_ ?_ rfl ?_ ?_ (oRec_Body e) hw (oRes_Body default 0 e) ?_
    · simp [go_sem]
    · exact oTp_Body
    · exact fun i cs hi j hj => (okO_oZ_Body).2 _ (ofL_mem' (okO_oZ_Body).1 hi) cs rfl j hj
    · exact oDis_Body b at'
    show @Wsi Try.prog dd_snapshot_decodeAt_Body.as0 (thenS Try.prog dd_snapshot_decodeAt_Body.as1 (thenS Try.prog dd_snapshot_decodeAt_Body.mkf (midD Try.prog dd_snapshot_decodeAt_Body.fv (.fn (.func F_snapshot_decodeAt_Body_f1) [] [.ptr 144 0 0 1, .ptr 112 0 0 1, .ptr 128 0 0 1]) dd_snapshot_decodeAt_Body.tc (.ptr 144 0 0 1) evD e (assoc [(1, 224)]) (dO b at') (zC oZ_Body oT_Body) dd_snapshot_decodeAt_Body.as4))) _
    simp only [dd_snapshot_decodeAt_Body, go_sem, ↓reduceIte, Nat.reduceEqDiff, reduceCtorEq, Nat.reduceAdd, Nat.reduceLeDiff, Nat.reduceMul, Nat.reduceSub, Int.reduceToNat]
    refine WdF_go ?_
    simp only [go_sem, ↓reduceIte, Nat.reduceEqDiff, reduceCtorEq, Nat.reduceAdd, Nat.reduceLeDiff, Nat.reduceMul, Nat.reduceSub, Int.reduceToNat]
    refine WdF_go ?_
    simp only [go_sem, ↓reduceIte, Nat.reduceEqDiff, reduceCtorEq, Nat.reduceAdd, Nat.reduceLeDiff, Nat.reduceMul, Nat.reduceSub, Int.reduceToNat]
    refine WdF_die ⟨rfl, f, [.ptr 224 0 0 1], [true], [.ptr 1 0 0 1], by simp only [go_sem, ↓reduceIte, Nat.reduceEqDiff, reduceCtorEq, Nat.reduceAdd, Nat.reduceLeDiff, Nat.reduceMul, Nat.reduceSub, Int.reduceToNat], by simp only [go_sem, ↓reduceIte, Nat.reduceEqDiff, reduceCtorEq, Nat.reduceAdd, Nat.reduceLeDiff, Nat.reduceMul, Nat.reduceSub, Int.reduceToNat], hc, ?_, ?_, ?_, ?_⟩ ⟨?_, ?_⟩
    · exact ⟨rfl, by intro i hi; simp only [AV.ids, List.mem_singleton] at hi; subst hi; rfl, rfl⟩
    · intro i o hi
      have hm1 := ofL_mem' (okO_dO b at').1 hi
      simp only [dO, List.mem_singleton, Prod.mk.injEq] at hm1
      obtain ⟨rfl, rfl⟩ := hm1
      simp only [go_sem, ↓reduceIte, Nat.reduceEqDiff, reduceCtorEq, Nat.reduceAdd, Nat.reduceLeDiff, Nat.reduceMul, Nat.reduceSub, Int.reduceToNat]
    · exact fun i cs hi j hj => (okO_dO b at').2 _ (ofL_mem' (okO_dO b at').1 hi) cs rfl j hj
    · intro i j hi hj _
      obtain ⟨o, ho⟩ := ofL_mem hi
      obtain ⟨o', ho'⟩ := ofL_mem hj
      simp only [List.mem_singleton, Prod.mk.injEq] at ho ho'
      rw [ho.1, ho'.1]
    · intro i o hi
      have hm1 := ofL_mem' (okO_oZ_Body).1 hi
      simp only [oZ_Body, List.mem_cons, Prod.mk.injEq, List.not_mem_nil, or_false] at hm1
      rcases hm1 with ⟨rfl, rfl⟩ | ⟨rfl, rfl⟩ | ⟨rfl, rfl⟩
      · simp only [Body.zero, go_sem, ↓reduceIte, Nat.reduceEqDiff, reduceCtorEq, Nat.reduceAdd, Nat.reduceLeDiff, Nat.reduceMul, Nat.reduceSub, Int.reduceToNat]
      · simp only [go_sem, ↓reduceIte, Nat.reduceEqDiff, reduceCtorEq, Nat.reduceAdd, Nat.reduceLeDiff, Nat.reduceMul, Nat.reduceSub, Int.reduceToNat]
      · simp only [go_sem, ↓reduceIte, Nat.reduceEqDiff, reduceCtorEq, Nat.reduceAdd, Nat.reduceLeDiff, Nat.reduceMul, Nat.reduceSub, Int.reduceToNat]
    · intro t av ht
      simp only [oT_Body, envT] at ht
      (repeat' split at ht) <;> simp only [Option.some.injEq, Prod.mk.injEq, true_and, reduceCtorEq] at ht <;> subst ht <;> (rename_i e1; subst e1; simp only [go_sem, ↓reduceIte, Nat.reduceEqDiff, reduceCtorEq, Nat.reduceAdd, Nat.reduceLeDiff, Nat.reduceMul, Nat.reduceSub, Int.reduceToNat])

def dd_snapshot_decodeAt_Joint : DecD where
  as0 := [⟨(some 6), .alloc [(.int .i64 0), (.int .i64 0), (.int .i64 0), (.int .i64 0), (.int .i64 0), (.int .i64 0), (.int .i64 0), (.int .i64 0), (.int .i64 0), (.int .i64 0), (.int .i64 0), (.bool false), (.int .i64 0), (.int .i64 0), (.bool false), (.int .i64 0), (.int .i64 0), (.int .i64 0), (.int .i64 0), (.bool false), (.int .i64 0), (.int .i64 0), (.int .i64 0), (.int .i64 0)], none, []⟩, ⟨(some 7), .alloc [(.int .i64 0)], none, []⟩, ⟨(some 8), .alloc [(.int .i64 0)], none, []⟩]
  as1 := [⟨(some 10), .mov (.t 0), none, []⟩, ⟨(some 11), .mov (.t 1), none, []⟩, ⟨(some 12), .build [(.slice none 0 0), (.int .i64 0)] [(0, 1, (.t 10)), (1, 1, (.t 11))], none, []⟩, ⟨(some 13), .box (.t 12), none, []⟩, ⟨(some 9), .mov (.t 13), none, []⟩]
  mkf := [⟨(some 14), .mkfn (.func 61) [] [(.t 8), (.t 6), (.t 7)], none, []⟩]
  fv := 14
  g := 49
  tc := 8
  as4 := [⟨(some 15), .mov (.t 2), none, []⟩, ⟨(some 16), .mov (.t 9), none, []⟩, ⟨(some 17), .callv (.t 15) [(.t 16)], none, []⟩, ⟨none, .store 24 (.t 6) (.t 17), none, []⟩]
  as5 := [⟨(some 18), .load (some 24) (.t 6), none, []⟩, ⟨(some 19), .mov (.t 9), none, []⟩, ⟨(some 20), .nilck (.t 19), none, []⟩, ⟨(some 21), .faddr 1 (.t 20), none, []⟩, ⟨(some 22), .load none (.t 21), none, []⟩, ⟨none, .store 24 (.t 6) (.t 18), none, [4]⟩, ⟨none, .store 1 (.t 7) (.t 22), none, []⟩, ⟨none, .store 1 (.t 8) (.k (.sc (.int .i64 0))), none, []⟩]
theorem dd_Joint_is : recogA Try.prog Try.f35.ntmps (Try.f35.body.getD .skip) = some dd_snapshot_decodeAt_Joint := by kernel_rfl
def oA_Joint (x : Joint) (n e : Int) : List (Nat × AObj) := [(112, .box x.enc), (128, .box [.sc (.int .i64 n)]), (144, .box [.sc (.int .i64 e)])]
def oZ_Joint : List (Nat × AObj) := [(112, .box Joint.zero), (128, .box [.sc (.int .i64 0)]), (144, .box [.sc (.int .i64 0)])]
def oT_Joint : Slots := [(6, .share, .ptr 112 0 0 1), (7, .share, .ptr 128 0 0 1), (8, .share, .ptr 144 0 0 1)]
attribute [go_sem] oA_Joint oT_Joint oZ_Joint
theorem nt_Joint : Try.f35.ntmps = 23 := by kernel_rfl
theorem oRes_Joint (x : Joint) (n e : Int) : retR (stOf oT_Joint (oA_Joint x n e)) Try.f35.ntmps [(6, some (some 24)), (7, some none), (8, some none)] (fun σ2 => RetW [] σ2 (List.range' Try.f35.ntmps [(6, some (some 24)), (7, some none), (8, some none)].length) [.agg x.enc, .sc (.int .i64 n), .sc (.int .i64 e)] []) := by
  rw [nt_Joint]
  simp only [go_sem, ↓reduceIte, Nat.reduceEqDiff, reduceCtorEq, Nat.reduceAdd, Nat.reduceLeDiff, Nat.reduceMul, Nat.reduceSub, Int.reduceToNat]
  refine retW_of [.share, .share, .share] [] [] rfl rfl (by simp [go_sem]) (by simp [assoc, go_sem]) (by simp [go_sem]) ?_
  simp only [go_sem, ↓reduceIte, Nat.reduceEqDiff, reduceCtorEq, Nat.reduceAdd, Nat.reduceLeDiff, Nat.reduceMul, Nat.reduceSub, Int.reduceToNat]
theorem oCl_Joint (x : Joint) (n e : Int) : Wp Try.prog Try.f61.ntmps ((oA_Joint x n e).map (·.1)) c_snapshot_decodeAt_Joint_f1 (doneQ ((oA_Joint x n e).map (·.1)) (if e = 0 then oA_Joint x n e else oA_Joint default 0 e)) (start [.ptr 144 0 0 1, .ptr 112 0 0 1, .ptr 128 0 0 1] (oA_Joint x n e)) := by
  refine Wp.of_W hm _ ?_
  show @Wi Try.prog Try.f61.ntmps _ _ (doneC ((oA_Joint x n e).map (·.1)) (if e = 0 then oA_Joint x n e else oA_Joint default 0 e)) _
  simp only [c_snapshot_decodeAt_Joint_f1, go_sem, ↓reduceIte, Nat.reduceEqDiff, reduceCtorEq, Nat.reduceAdd, Nat.reduceLeDiff, Nat.reduceMul, Nat.reduceSub, Int.reduceToNat]
  by_cases he : e = 0
  · subst he
    rw [if_neg (by decide)]
    simp only [if_true, go_sem, ↓reduceIte, Nat.reduceEqDiff, reduceCtorEq, Nat.reduceAdd, Nat.reduceLeDiff, Nat.reduceMul, Nat.reduceSub, Int.reduceToNat]
    refine weakE_of [] [] (by simp [go_sem]) (by simp [assoc, go_sem]) (by simp [go_sem]) ?_
    simp only [go_sem, ↓reduceIte, Nat.reduceEqDiff, reduceCtorEq, Nat.reduceAdd, Nat.reduceLeDiff, Nat.reduceMul, Nat.reduceSub, Int.reduceToNat]
    try trivial
  · have hne : (e != 0) = true := by simpa using he
    rw [if_pos hne]
    simp only [he, go_sem, ↓reduceIte, Nat.reduceEqDiff, reduceCtorEq, Nat.reduceAdd, Nat.reduceLeDiff, Nat.reduceMul, Nat.reduceSub, Int.reduceToNat]
    refine weakE_of [] [] (by simp [go_sem]) (by simp [assoc, go_sem]) (by simp [go_sem]) ?_
    simp only [go_sem, ↓reduceIte, Nat.reduceEqDiff, reduceCtorEq, Nat.reduceAdd, Nat.reduceLeDiff, Nat.reduceMul, Nat.reduceSub, Int.reduceToNat]
    (repeat' (with_reducible apply And.intro)) <;> first | rfl | exact avle_nilD rfl
theorem okO_oZ_Joint : okO oZ_Joint := by
  refine ⟨by simp [go_sem], ?_⟩
  simp [go_sem, Joint.zero, idsL, AV.ids]
theorem oTp_Joint : ∀ (t : Nat) (av : AV), envT oT_Joint t = some (true, av) → ∃ k, (ofL oZ_Joint k).isSome = true ∧ av = AV.ptr k 0 0 1 := by
  intro t av ht
  simp only [oT_Joint, envT] at ht
  (repeat' split at ht) <;> simp only [Option.some.injEq, Prod.mk.injEq, true_and, reduceCtorEq] at ht <;> subst ht <;> exact ⟨_, rfl, rfl⟩
theorem oDis_Joint (b : List Int) (at' : Int) : ∀ (i j : Nat), (ofL oZ_Joint i).isSome = true → (ofL (dO b at') j).isSome = true → i ≠ assoc [(1, 224)] j := by
  intro i j hi hj
  obtain ⟨o, ho⟩ := ofL_mem hi
  obtain ⟨o', ho'⟩ := ofL_mem hj
  simp only [oZ_Joint, dO, List.mem_cons, Prod.mk.injEq, List.not_mem_nil, or_false] at ho ho'
  obtain ⟨rfl, _⟩ := ho'
  rcases ho with ⟨rfl, _⟩ | ⟨rfl, _⟩ | ⟨rfl, _⟩ <;> decide
theorem oRec_Joint (n : Int) : wseq Try.prog rd_snapshot_recoverError.as (fun τ => Wp Try.prog Try.f49.ntmps (oZ_Joint.map (·.1)) rd_snapshot_recoverError.ac (doneQ (oZ_Joint.map (·.1)) (oA_Joint default 0 n)) τ)
    (stOf [(0, .share, .ptr 144 0 0 1), (rd_snapshot_recoverError.x, .share, .sc (evD n)), (rd_snapshot_recoverError.p, .share, .tup [.agg [.sc (.int .i64 n)], .sc (.bool true)])] oZ_Joint) := by
  refine to_rec ?_
  simp only [rd_snapshot_recoverError, Joint.zero, go_sem, ↓reduceIte, Nat.reduceEqDiff, reduceCtorEq, Nat.reduceAdd, Nat.reduceLeDiff, Nat.reduceMul, Nat.reduceSub, Int.reduceToNat]
  refine Wpi_of hm ?_
  simp only [go_sem, ↓reduceIte, Nat.reduceEqDiff, reduceCtorEq, Nat.reduceAdd, Nat.reduceLeDiff, Nat.reduceMul, Nat.reduceSub, Int.reduceToNat]
  refine weakE_of [] [] (by simp [go_sem]) (by simp [assoc, go_sem]) (by simp [go_sem]) ?_
  simp only [go_sem, ↓reduceIte, Nat.reduceEqDiff, reduceCtorEq, Nat.reduceAdd, Nat.reduceLeDiff, Nat.reduceMul, Nat.reduceSub, Int.reduceToNat]
  try ((repeat' (with_reducible apply And.intro)) <;> first | rfl | exact avle_self _ | exact avle_nilD rfl)
theorem s_decodeAt_Joint (b : List Int) (at' : Int) (f : Nat) (p : Int → Except Int (Joint × Int)) (hp : ∀ t, CallsT Try.prog evD f [.ptr 1 0 0 1] (dO b t) (tRes (fun x : Joint × Int => [.agg x.1.enc]) (fun x => dO b x.2) (p t))) (hpe : ∀ t e, p t = .error e → e ≠ 0) :
    CallsA Try.prog F_snapshot_decodeAt_Joint [encD 1 encU8 0 b, .sc (.int .i64 at'), .fn (.func f) [] []] [] (.tup [.agg (t3d (p at')).1.enc, .sc (.int .i64 (t3d (p at')).2.1), .sc (.int .i64 (t3d (p at')).2.2)]) [] := by
  have hc := hp at'
  have hne := hpe at'
  cases hr : p at' with
  | ok x =>
    rw [hr] at hc
    have hw := oCl_Joint x.1 x.2 0
    rw [if_pos rfl] at hw
    refine decA_normal hm Try.func35 (by kernel_rfl) (by kernel_rfl) dd_Joint_is (by kernel_rfl : rvOf Try.prog Try.f35.results.toList = some [(6, some (some 24)), (7, some none), (8, some none)]) (by kernel_rfl) (by kernel_rfl) Try.underlying20 Try.func49 (by kernel_rfl) (by kernel_rfl) (by kernel_rfl) rd_is
      Try.func61 (by kernel_rfl) (by kernel_rfl) (by kernel_rfl) is_snapshot_decodeAt_Joint_f1 (by decide +kernel) (KK := [112, 128, 144]) (by simp) hw (oRes_Joint x.1 x.2 0) ?_
    show @Wsi Try.prog dd_snapshot_decodeAt_Joint.as0 (thenS Try.prog dd_snapshot_decodeAt_Joint.as1 (thenS Try.prog dd_snapshot_decodeAt_Joint.mkf (midN Try.prog dd_snapshot_decodeAt_Joint.fv (.fn (.func F_snapshot_decodeAt_Joint_f1) [] [.ptr 144 0 0 1, .ptr 112 0 0 1, .ptr 128 0 0 1]) dd_snapshot_decodeAt_Joint.as4 (thenA Try.prog dd_snapshot_decodeAt_Joint.as5 (endN [112, 128, 144] oT_Joint (oA_Joint x.1 x.2 0)))))) _
    simp only [dd_snapshot_decodeAt_Joint, go_sem, ↓reduceIte, Nat.reduceEqDiff, reduceCtorEq, Nat.reduceAdd, Nat.reduceLeDiff, Nat.reduceMul, Nat.reduceSub, Int.reduceToNat]
    refine CallGi_obj [true] [(1, 224)] (show CallsA Try.prog f [.ptr 1 0 0 1] (dO b at') (.agg x.1.enc) (dO b x.2) from hc) (by simp [go_sem]) (by simp [go_sem]) (by simp [go_sem]) (by simp [go_sem]) ?_
    simp only [argsOC, dd_snapshot_decodeAt_Joint, go_sem, ↓reduceIte, Nat.reduceEqDiff, reduceCtorEq, Nat.reduceAdd, Nat.reduceLeDiff, Nat.reduceMul, Nat.reduceSub, Int.reduceToNat]
    refine weakE_of [] [] (by simp [go_sem]) (by simp [assoc, go_sem]) (by simp [go_sem]) ?_
    simp only [t3d, go_sem, ↓reduceIte, Nat.reduceEqDiff, reduceCtorEq, Nat.reduceAdd, Nat.reduceLeDiff, Nat.reduceMul, Nat.reduceSub, Int.reduceToNat]
    try ((repeat' (with_reducible apply And.intro)) <;> first | rfl | exact avle_self _)
  | error e =>
    rw [hr] at hc
    have hne := hne e hr
    have hw := oCl_Joint default 0 e
    rw [if_neg hne] at hw
    refine decA_dies hm Try.func35 (by kernel_rfl) (by kernel_rfl) dd_Joint_is (by kernel_rfl : rvOf Try.prog Try.f35.results.toList = some [(6, some (some 24)), (7, some none), (8, some none)]) (by kernel_rfl) (by kernel_rfl) Try.underlying20 Try.func49 (by kernel_rfl) (by kernel_rfl) (by kernel_rfl) rd_is
      rfl rfl evD_ty (ev := evD) (fun _ => rfl) Try.func61 (by kernel_rfl) (by kernel_rfl) (by kernel_rfl) is_snapshot_decodeAt_Joint_f1 (by decide +kernel) (ρ := assoc [(1, 224)]) (O := dO b at') (ic := 144) (OA0 := oZ_Joint) (T := oT_Joint) ?_ ?_ rfl ?_ ?_ (oRec_Joint e) hw (oRes_Joint default 0 e) ?_
    · simp [go_sem]
    · exact oTp_Joint
    · exact fun i cs hi j hj => (okO_oZ_Joint).2 _ (ofL_mem' (okO_oZ_Joint).1 hi) cs rfl j hj
    · exact oDis_Joint b at'
    show @Wsi Try.prog dd_snapshot_decodeAt_Joint.as0 (thenS Try.prog dd_snapshot_decodeAt_Joint.as1 (thenS Try.prog dd_snapshot_decodeAt_Joint.mkf (midD Try.prog dd_snapshot_decodeAt_Joint.fv (.fn (.func F_snapshot_decodeAt_Joint_f1) [] [.ptr 144 0 0 1, .ptr 112 0 0 1, .ptr 128 0 0 1]) dd_snapshot_decodeAt_Joint.tc (.ptr 144 0 0 1) evD e (assoc [(1, 224)]) (dO b at') (zC oZ_Joint oT_Joint) dd_snapshot_decodeAt_Joint.as4))) _
    simp only [dd_snapshot_decodeAt_Joint, go_sem, ↓reduceIte, Nat.reduceEqDiff, reduceCtorEq, Nat.reduceAdd, Nat.reduceLeDiff, Nat.reduceMul, Nat.reduceSub, Int.reduceToNat]
    refine WdF_go ?_
    simp only [go_sem, ↓reduceIte, Nat.reduceEqDiff, reduceCtorEq, Nat.reduceAdd, Nat.reduceLeDiff, Nat.reduceMul, Nat.reduceSub, Int.reduceToNat]
    refine WdF_go ?_
    simp only [go_sem, ↓reduceIte, Nat.reduceEqDiff, reduceCtorEq, Nat.reduceAdd, Nat.reduceLeDiff, Nat.reduceMul, Nat.reduceSub, Int.reduceToNat]
    refine WdF_die ⟨rfl, f, [.ptr 224 0 0 1], [true], [.ptr 1 0 0 1], by simp only [go_sem, ↓reduceIte, Nat.reduceEqDiff, reduceCtorEq, Nat.reduceAdd, Nat.reduceLeDiff, Nat.reduceMul, Nat.reduceSub, Int.reduceToNat], by simp only [go_sem, ↓reduceIte, Nat.reduceEqDiff, reduceCtorEq, Nat.reduceAdd, Nat.reduceLeDiff, Nat.reduceMul, Nat.reduceSub, Int.reduceToNat], hc, ?_, ?_, ?_, ?_⟩ ⟨?_, ?_⟩
    · exact ⟨rfl, by intro i hi; simp only [AV.ids, List.mem_singleton] at hi; subst hi; rfl, rfl⟩
    · intro i o hi
      have hm1 := ofL_mem' (okO_dO b at').1 hi
      simp only [dO, List.mem_singleton, Prod.mk.injEq] at hm1
      obtain ⟨rfl, rfl⟩ := hm1
      simp only [go_sem, ↓reduceIte, Nat.reduceEqDiff, reduceCtorEq, Nat.reduceAdd, Nat.reduceLeDiff, Nat.reduceMul, Nat.reduceSub, Int.reduceToNat]
    · exact fun i cs hi j hj => (okO_dO b at').2 _ (ofL_mem' (okO_dO b at').1 hi) cs rfl j hj
    · intro i j hi hj _
      obtain ⟨o, ho⟩ := ofL_mem hi
      obtain ⟨o', ho'⟩ := ofL_mem hj
      simp only [List.mem_singleton, Prod.mk.injEq] at ho ho'
      rw [ho.1, ho'.1]
    · intro i o hi
      have hm1 := ofL_mem' (okO_oZ_Joint).1 hi
      simp only [oZ_Joint, List.mem_cons, Prod.mk.injEq, List.not_mem_nil, or_false] at hm1
      rcases hm1 with ⟨rfl, rfl⟩ | ⟨rfl, rfl⟩ | ⟨rfl, rfl⟩
      · simp only [Joint.zero, go_sem, ↓reduceIte, Nat.reduceEqDiff, reduceCtorEq, Nat.reduceAdd, Nat.reduceLeDiff, Nat.reduceMul, Nat.reduceSub, Int.reduceToNat]
      · simp only [go_sem, ↓reduceIte, Nat.reduceEqDiff, reduceCtorEq, Nat.reduceAdd, Nat.reduceLeDiff, Nat.reduceMul, Nat.reduceSub, Int.reduceToNat]
      · simp only [go_sem, ↓reduceIte, Nat.reduceEqDiff, reduceCtorEq, Nat.reduceAdd, Nat.reduceLeDiff, Nat.reduceMul, Nat.reduceSub, Int.reduceToNat]
    · intro t av ht
      simp only [oT_Joint, envT] at ht
      (repeat' split at ht) <;> simp only [Option.some.injEq, Prod.mk.injEq, true_and, reduceCtorEq] at ht <;> subst ht <;> (rename_i e1; subst e1; simp only [go_sem, ↓reduceIte, Nat.reduceEqDiff, reduceCtorEq, Nat.reduceAdd, Nat.reduceLeDiff, Nat.reduceMul, Nat.reduceSub, Int.reduceToNat])

end Go.Abs
