/- WorkersValidateExact returns true, whatever the input. -/
import Derived.Test.YtjakdlcknhfibaaC12
import Derived.Test.YtjakdlcknhfibaaAbs24
import Derived.Test.YtjakdlcknhfibaaRows
import Derived.WalkKit
import Derived.ProofKit
import Derived.OpenShut
import Derived.ShutString
import Derived.ChangeOld
import Derived.Below
set_option linter.unusedSimpArgs false
set_option linter.unusedVariables false
set_option linter.unnecessarySimpa false
namespace Go.Proofs.Ytjakdlcknhfibaa
open Go.ChangeMaps (open_string shut_string)
open Go.ChangeShapes Go.WideShapes Go.ChangeAt Go.RowKit Go.Abs
set_option linter.unusedVariables false
set_option linter.unusedSimpArgs false

theorem laidOutG : laidOutB Try.prog = true := by kernel_rfl
theorem ownG : ownKnob Try.prog.godebug = none := by kernel_rfl

/-- a call by a contract, at the arguments of a row -/
theorem calls_true {P : Program} {f : FuncId} {args : List AV} {vals : List Value} {W : World} (h : CallsA P f args [] (.sc (.bool true)) [])
    (hr : RelL (fun b => b < W.heap.size) W (fun _ => none) args vals) : Calls P f vals.toArray W fun e W' => e = .returned (.bool true) ∧ Below W.heap.size W W' := by
  refine (h.2 (fun b => b < W.heap.size) W (fun _ => none) vals ?_ hr).mono ?_
  · exact ⟨fun _ => ⟨fun _ => rfl, fun _ => rfl⟩, fun _ _ _ _ _ h => (by cases h), fun _ h => h, fun _ _ _ h => (by simp [ofL, wrm] at h), fun _ _ _ _ h => (by simp [ofL, wrm] at h)⟩
  · rintro e W' ⟨v, G', ob', rfl, _, hv, hf, _⟩
    have := hv.sc_eq
    subst this
    exact ⟨rfl, hf.os, hf.tape, hf.output, hf.size, fun k hk => hf.same k hk (.inl hk)⟩

theorem opensTask (W : World) : Opens Try.prog W 97 encT (fun _ => True) := by
  have ht : Try.prog.underlying 97 = some (.struct ((Try.prog.fieldsOf 97))) := by kernel_rfl
  have hf : ∃ f0 f1 : Field, (Try.prog.fieldsOf 97).toList = [f0, f1] ∧ f0.type = 3 ∧ f1.type = 3 ∧ f0.offset = 0 ∧ f1.offset = 1 := ⟨(Try.prog.fieldsOf 97).toList[0]!, (Try.prog.fieldsOf 97).toList[1]!, by kernel_rfl, by kernel_rfl, by kernel_rfl, by kernel_rfl, by kernel_rfl⟩
  obtain ⟨f0, f1, hl, t0, t1, o0, o1⟩ := hf
  have c3 : Try.prog.cellsOf 3 = 1 := by kernel_rfl
  have c97 : Try.prog.cellsOf 97 = 2 := by kernel_rfl
  have h2 : OpensF Try.prog W [f0, f1] 0 2 (fun p : Int × (Int × Unit) => [.sc (.int .i64 p.1)] ++ ([.sc (.int .i64 p.2.1)] ++ [])) _ :=
    opensF_cons (W := W) (t0 ▸ opens_int (W := W) Try.underlying3) o0 (by
      rw [t0, c3]
      exact opensF_cons (W := W) (t1 ▸ opens_int (W := W) Try.underlying3) o1 (by rw [t1, c3]; exact opensF_nil (W := W)))
  have h3 := opens_struct (W := W) ht (by rw [hl, c97]; exact h2)
  exact h3.map (fun p => (p.1, p.2.1)) (fun p => rfl) (fun _ _ => trivial)

set_option maxRecDepth 100000 in
theorem liftedV (os : Os) (started : os.Started) (H : Type) (enc : TypeId × Value → H) :
    ReturnsInHanded {} Try.checked os 3 .any (Rows.workersValidateExactSpec.pre6 enc Try.prog Try.f3 Rows.workersValidateExactRow.domain false) (Rows.workersValidateExactSpec.post enc Try.prog Try.f3 false true false false) := by
  refine returnsInHanded_of_change (C := Try.checked) ownG started (by kernel_rfl) Try.func3
    (ChangeSpec.witness6 (enc := enc) (C := Try.checked) false ⟨#[], #[.slice none 0 0, .int .i64 0], []⟩ 8 (by kernel_rfl) (by kernel_rfl) (by kernel_rfl) (by kernel_rfl)) ?_
  intro W base args ds gs before hval0 hW hcnd _
  have hval : ∀ (j : Nat) t v, Try.f3.params[j]? = some t → args[j]? = some v → Value.okWide Try.prog W .any base t v := hval0
  have hW' := hW
  obtain ⟨p, q, hA0, hV, rfl, hfz, hnd⟩ := hW
  have hA : DataW.TrodAll enc Try.prog W 0 (fun _ => true) true Try.f3.params.toList args.toList ds p := hA0
  rw [Try.params3] at hA hval
  obtain ⟨v0, vs0, d0, ds0, p0, q0, hargs, rfl, rfl, h0, r0⟩ := trodAll_cons hA
  obtain ⟨v1, vs1, d1, ds1, p1, q1, rfl, rfl, rfl, h1, r1⟩ := trodAll_cons r0
  obtain ⟨rfl, rfl, rfl⟩ := trodAll_nil r1
  obtain rfl : args = #[v0, v1] := by cases args; simp_all
  obtain ⟨rfl, rfl⟩ := trodVars_none hV
  obtain ⟨a0, len0, cap0, rfl⟩ := okWide_slice Try.underlying22 (hval 0 22 v0 rfl rfl)
  have k0 := h0
  have lt0 : ∀ x ∈ p0, x.block < W.heap.size := by obtain ⟨m, hm⟩ := k0; exact DataW.trod_lt m _ _ _ hm
  obtain ⟨l, hl, hrl⟩ : ∃ l : List (Int × Int), ((∀ a ∈ l, True) ∧ l.length ≤ maxLen) ∧ RelC W [encL 2 encT (0, 0) l] [.slice a0 len0 cap0] := by
    obtain ⟨fuel, hf⟩ := h0
    exact opens_slice (d := ((0 : Int), (0 : Int))) Try.underlying22 (by kernel_rfl : Try.prog.cellsOf 97 = 2) (by decide) (opensTask W) _ _ _ _ _ _ _ _ hf
  obtain ⟨a1, rfl, rfl, rfl, w1⟩ := open_int Try.underlying3 (hval 1 3 v1 rfl rfl) h1
  clear hA0 hval0
  refine (calls_true (s3 l a1) (vals := [.slice a0 len0 cap0, .int .i64 a1]) ?_).mono fun e W' ⟨he, bel⟩ => ?_
  · refine ⟨rfl, fun j av hj => ?_⟩
    match j, hj with
    | 0, hj => simp at hj; subst hj; exact (hrl.2 0 _ rfl).2
    | 1, hj => simp at hj; subst hj; exact .sc rfl
    | _ + 2, hj => simp at hj
  · subst he
    exact ⟨_, rfl, _, _, _, [], _, [], hW', trodAll_mk1 (shut_bool Try.underlying4 _), (trodAll_cons_mk (Below.trod laidOutG (by kernel_rfl) (of_decide_eq_true (by kernel_rfl)) k0 bel lt0) (trodAll_cons_mk (shut_int Try.underlying3 w1) trodAll_mk0)), rfl, bel.frame _, fun h => by cases h⟩

theorem workersValidateExact : Rows.WorkersValidateExactSaid :=
  OpenClaim.holds_of_wide 3 Try.f3 rfl rfl rfl rfl rfl rfl rfl ⟨rfl, rfl, rfl, rfl, rfl⟩ rfl rfl rfl rfl rfl (by kernel_rfl) Try.func3 (by kernel_rfl)
    (of_decide_eq_true (by kernel_rfl)) (by unfold Func.isWrapper; first | (rw [if_pos (by decide +kernel)]; kernel_rfl) | (rw [if_neg (by decide +kernel)]; exact ⟨rfl, rfl⟩))
    (fun os started H enc _ => liftedV os started H enc)
#print axioms workersValidateExact
end Go.Proofs.Ytjakdlcknhfibaa
