/- A part of the walk: contracts of functions that the statement reaches. -/
import Derived.Test.YtpbnhfancncoiaaAbsD
import Derived.Test.YtpbnhfancncoiaaHO
set_option linter.unusedSimpArgs false
set_option linter.unusedVariables false
set_option linter.unnecessarySimpa false
set_option maxRecDepth 100000
set_option maxHeartbeats 2000000
set_option linter.unusedSimpArgs false
set_option linter.unusedVariables false
namespace Go.Abs
open Go.Proofs
open Api
theorem CallGi_subw {P : Program} {m : Nat → Option AObj} {f : FuncId} {avs : List AV} {b : Bool} {Q : ContR} {O O' : List (Nat × AObj)} {r : AV} (hc : CallsA P f avs O r O') (h : okO O) (hk : O'.map (·.1) = O.map (·.1)) (hm : ∀ p ∈ O, m p.1 = some p.2)
    (ha : ∀ a ∈ avs, ∀ i ∈ a.ids, (ofL O i).isSome) (hb : b = true) (hK : @Ri Q b ⟨some r, O'⟩) : @CallGi P m f avs b Q := by
  rw [← renO_id O'] at hK
  have hiff : ∀ i, (ofL O' i).isSome ↔ (ofL O i).isSome := fun i => by
    have key : ∀ (l : List (Nat × AObj)), (l.map (·.1)).Nodup → ((ofL l i).isSome ↔ i ∈ l.map (·.1)) := fun l hl => by
      constructor
      · intro hs
        obtain ⟨o, ho⟩ := Option.isSome_iff_exists.1 hs
        exact List.mem_map_of_mem (f := (·.1)) (ofL_mem' hl ho)
      · intro hs
        rw [List.mem_map] at hs
        obtain ⟨p, hp, rfl⟩ := hs
        rw [ofL_mem_eq hl hp]; rfl
    rw [key O' (by rw [hk]; exact h.1), key O h.1, hk]
  refine ⟨⟨some r, renO id O'⟩, fun _ => ?_, fun _ => hb, hK⟩
  have := CallDoes.mk (P := P) (m := m) (avs.map fun _ => true) avs O r O' id [] false hc (argsOk_same ha)
    (fun i o hi => by rw [aobj_ren_id]; exact hm _ (ofL_mem' h.1 hi))
    (fun i cs hi j hj => h.2 _ (ofL_mem' h.1 hi) cs rfl j hj) (fun i hi => (hiff i).2 hi) (fun i hi => .inl ((hiff i).1 hi)) (by show (O'.map (·.1)).Nodup; rw [hk]; exact h.1) (fun e => by cases e)
  simpa [AV.ren_id] using this


end Go.Abs
