/- A part of the proof: contracts of functions that the statement reaches. -/
import Derived.Test.YtfkngoiiedmofaaGreatMF
set_option linter.unusedSimpArgs false
set_option linter.unusedVariables false
set_option linter.unnecessarySimpa false
set_option maxRecDepth 100000
set_option maxHeartbeats 2000000
section
namespace Go.Abs
open Go.Proofs
open Api
noncomputable def leafE : Leafs Tryz.prog where
  run := fun f avs O _ => bif Nat.beq f F_law50_example then (match avs, O with | [], [] => some (.sc (.bool true), []) | _, _ => none) else none
  ok := fun f avs O c r O' h => by
    cases hb : Nat.beq f F_law50_example with
    | false => rw [hb] at h; cases h
    | true =>
      rw [hb] at h
      obtain rfl := Nat.eq_of_beq_eq_true hb
      simp only [cond_true] at h
      split at h
      · simp only [Option.some.injEq, Prod.mk.injEq] at h
        obtain ⟨rfl, rfl⟩ := h
        exact s_law50_example
      · cases h
noncomputable def g5 : FnG Tryz.prog F_law50_DeferredNil := mkG Tryz.f5.ntmps [(4, none)] shOk Tryz.func5 rfl
noncomputable def cl5 : CallF := mkCall (callA tabN leafE 40)
theorem cl5_ok : CallOk Tryz.prog cl5 := mkCall_ok (callA_ok hm tabN leafE 40)
noncomputable def c5 : ACode := g5.F.code
noncomputable def r5 : List AOper := c5.snd.fst.fst.ops
noncomputable def y5 : ACode := c5.snd.snd
noncomputable def x5 : ACode := c5.snd.fst.snd.thn
theorem code5 : c5 = .seq c5.fst (.seq (.seq (.region false (r5.take 3 ++ nthO r5 3 :: r5.drop 4)) (.cond (.t 20) x5 .skip)) y5) := by kernel_rfl
noncomputable def s5a (r : Api.Request) (i : Int) : CSt := getX (exec cl5 c5.fst ⟨argE 0 [.agg r.enc, .sc (.int .i64 i)] .e, [], [], 0⟩)
noncomputable def s5b (r : Api.Request) (i : Int) : CSt := getS (runOps cl5 (r5.take 3) [] (s5a r i))
noncomputable def s5d (r : Api.Request) (i : Int) (q : Bool) : CSt := getS (runOps cl5 (r5.drop 4) [] ((s5b r i).put (nthO r5 3).dst true ⟨some (.sc (.bool q)), []⟩ (s5b r i).ctr))
noncomputable def s5e (r : Api.Request) (i : Int) : CSt := getX (exec cl5 x5 (s5d r i false))
noncomputable def s5f (r : Api.Request) (i : Int) : CSt := getX (exec cl5 y5 (s5d r i true))
theorem k5a (r : Api.Request) (i : Int) : isNrm (exec cl5 c5.fst ⟨argE 0 [.agg r.enc, .sc (.int .i64 i)] .e, [], [], 0⟩) = true := by kernel_rfl
theorem k5b (r : Api.Request) (i : Int) : isSm (runOps cl5 (r5.take 3) [] (s5a r i)) = true := by kernel_rfl
theorem k5t (r : Api.Request) (i : Int) : target (s5b r i).st (nthO r5 3).op = some (F_r47_SmallInputs, [.sl 80 0 1 1]) := by kernel_rfl
theorem k5u (r : Api.Request) (i : Int) : (nthO r5 3).op.ops.all (s5b r i).st.c = true := by kernel_rfl
theorem k5o (r : Api.Request) (i : Int) : (s5b r i).st.objs 80 = some (.arr 49 ⟨1, arrG ((s5b r i).st.objs 80)⟩) := by kernel_rfl
theorem k5g (r : Api.Request) (i : Int) : arrG ((s5b r i).st.objs 80) 0 = r.Input.enc := by kernel_rfl
theorem k5d (r : Api.Request) (i : Int) : ∀ q, isSm (runOps cl5 (r5.drop 4) [] ((s5b r i).put (nthO r5 3).dst true ⟨some (.sc (.bool q)), []⟩ (s5b r i).ctr)) = true
  | true => by kernel_rfl
  | false => by kernel_rfl
theorem k5c (r : Api.Request) (i : Int) : ∀ q, (s5d r i q).st.ev (.t 20) = some (true, .sc (.bool (!q)))
  | true => by kernel_rfl
  | false => by kernel_rfl
theorem k5e (r : Api.Request) (i : Int) : isRet (exec cl5 x5 (s5d r i false)) = true := by kernel_rfl
theorem k5f (r : Api.Request) (i : Int) : isRet (exec cl5 y5 (s5d r i true)) = true := by kernel_rfl
theorem k5e1 (r : Api.Request) (i : Int) : isSm (retP (s5e r i) g5.F.nt g5.F.rvs) = true := by kernel_rfl
theorem k5f1 (r : Api.Request) (i : Int) : isSm (retP (s5f r i) g5.F.nt g5.F.rvs) = true := by kernel_rfl
theorem k5e2 (r : Api.Request) (i : Int) : retV (getS (retP (s5e r i) g5.F.nt g5.F.rvs)) (List.range' g5.F.nt g5.F.rvs.length) = some [.sc (.bool true)] := by kernel_rfl
theorem k5f2 (r : Api.Request) (i : Int) : retV (getS (retP (s5f r i) g5.F.nt g5.F.rvs)) (List.range' g5.F.nt g5.F.rvs.length) = some [.sc (.bool true)] := by kernel_rfl
theorem s_law50_DeferredNil (r : Api.Request) (i : Int) : CallsA Tryz.prog F_law50_DeferredNil [.agg r.enc, .sc (.int .i64 i)] [] (.sc (.bool true)) [] := by
  obtain ⟨fn, f1, f2, f3, f4, f5, f6, f7⟩ := g5.ok
  refine callsW_of (rs := [.sc (.bool true)]) f1 f2 f3 f4 f5 f6 (by rw [f7]; kernel_rfl) ?_
  rw [← start_eq (O := []) List.nodup_nil (c := 0), f7]
  show Wp _ _ _ c5 _ _
  rw [code5]
  refine Wp.seq (exec_ok cl5_ok hm c5.fst (getX_normal (k5a r i)) ?_)
  show Wp _ _ _ _ _ (s5a r i).st
  refine Wp.seq (Wp.seq (Wp.regCall cl5_ok (v := .sc (.bool (smI r.Input.Body.Fixtures))) rfl (getS_eq (k5b r i)) (by kernel_rfl) (k5t r i) (k5u r i) ?_ (getS_eq (k5d r i (smI r.Input.Body.Fixtures))) ?_))
  · refine callDoes_look (k5o r i) ((s_r47_SmallInputs1 r.Input).args_le ⟨AVle.dsl fun k hk => AVleL.of_eq ?_, trivial⟩) rfl
    obtain rfl : k = 0 := by omega
    exact (k5g r i).trans rfl
  show Wp _ _ _ _ _ (s5d r i (smI r.Input.Body.Fixtures)).st
  generalize smI r.Input.Body.Fixtures = q
  refine Wp.cond1 (k5c r i q) ?_
  cases q with
  | false =>
    have h := getX_ret (k5e r i)
    exact exec_ok cl5_ok hm x5 h (finN (getS_eq (k5e1 r i)) (k5e2 r i) rfl)
  | true =>
    refine Wp.of_W hm .skip ?_
    show Wp _ _ _ y5 _ (s5d r i true).st
    have h := getX_ret (k5f r i)
    refine exec_ok cl5_ok hm y5 h ?_
    exact finN (getS_eq (k5f1 r i)) (k5f2 r i) rfl
end Go.Abs
end
