/- A part of the walk: contracts of functions that the statement reaches. -/
import Derived.Test.YtlldeiikcfaegaaGreatAbsC
import Derived.Test.YtlldeiikcfaegaaGreatY1
set_option linter.unusedSimpArgs false
set_option linter.unusedVariables false
set_option linter.unnecessarySimpa false
set_option maxRecDepth 100000
set_option maxHeartbeats 2000000
set_option linter.unusedSimpArgs false
set_option linter.unusedVariables false
namespace Go.Abs
open Go.Proofs
open Api
/-- the first body with each number -/
def addF (l : List Body) (b : Body) : List Body := if (l.any fun x => b.ID == x.ID) = true then l else l ++ [b]
def firsts (l : List Body) : List Body := l.foldl addF []
def bmE (l : List Body) : List (Int × AV) := l.map fun b => (b.ID, .agg b.enc)
def bF (l : List Body) (k : Int) : Option Body := l.find? fun b => k == b.ID
theorem mget_bmE (k : Int) : ∀ l : List Body, mget (bmE l) k = (bF l k).map fun b => .agg b.enc
  | [] => rfl
  | b :: l => by
    have ih := mget_bmE k l
    simp only [bmE, bF, List.map_cons, mget, List.find?_cons] at ih ⊢
    cases h : k == b.ID with
    | true => rfl
    | false => exact ih
theorem bF_any (l : List Body) (k : Int) : (bF l k).isSome = l.any fun x => k == x.ID := by
  unfold bF
  rw [Bool.eq_iff_iff, List.find?_isSome, List.any_eq_true]
theorem mput_bmE (b : Body) : ∀ l : List Body, bF l b.ID = none → mput (bmE l) b.ID (.agg b.enc) = bmE (l ++ [b])
  | [], _ => rfl
  | x :: l, h => by
    simp only [bF, List.find?_cons] at h
    cases hx : b.ID == x.ID with
    | true => rw [hx] at h; cases h
    | false =>
      rw [hx] at h
      have ih := mput_bmE b l h
      simp only [bmE, List.map_cons, List.cons_append, mput, hx] at ih ⊢
      rw [if_neg (by simp), ih]
theorem firsts_snoc {l : List Body} {i : Nat} (h : i < l.length) : firsts (l.take (i + 1)) = addF (firsts (l.take i)) (l.getD i default) := by
  unfold firsts; rw [take_snoc default h, List.foldl_append]; rfl
theorem bF_add (l : List Body) (b : Body) (k : Int) : bF (addF l b) k = bF (l ++ [b]) k := by
  unfold addF
  split
  · rename_i h
    unfold bF
    rw [List.find?_append]
    cases hf : l.find? (fun x => k == x.ID) with
    | some x => rfl
    | none =>
      rw [Option.none_or]
      cases hk : k == b.ID with
      | false => simp [hk]
      | true =>
        exfalso
        rw [beq_iff_eq] at hk; subst hk
        rw [List.find?_eq_none] at hf
        rw [List.any_eq_true] at h
        obtain ⟨x, hx, he⟩ := h
        exact hf x hx he
  · rfl
theorem bF_fold (k : Int) : ∀ (l s : List Body), bF (l.foldl addF s) k = bF (s ++ l) k
  | [], s => by simp
  | b :: l, s => by
    rw [List.foldl_cons, bF_fold k l (addF s b)]
    have h := bF_add s b k
    unfold bF at h ⊢
    rw [List.find?_append, h, List.find?_append, List.append_cons s b l, List.find?_append, List.find?_append]
theorem bF_firsts (l : List Body) (k : Int) : bF (firsts l) k = bF l k := by unfold firsts; rw [bF_fold]; rfl
theorem zB20 : zeroAV (.agg #[.int .i64 0, .int .i64 0, .int .i64 0, .int .i64 0, .int .i64 0, .int .i64 0, .int .i64 0, .int .i64 0, .int .i64 0, .int .i64 0, .int .i64 0, .int .i64 0, .int .i64 0, .int .i64 0, .bool false, .bool false, .bool false, .bool false, .int .i64 0, .slice none 0 0]) = .agg [.sc (.int .i64 0), .sc (.int .i64 0), .sc (.int .i64 0), .sc (.int .i64 0), .sc (.int .i64 0), .sc (.int .i64 0), .sc (.int .i64 0), .sc (.int .i64 0), .sc (.int .i64 0), .sc (.int .i64 0), .sc (.int .i64 0), .sc (.int .i64 0), .sc (.int .i64 0), .sc (.int .i64 0), .sc (.bool false), .sc (.bool false), .sc (.bool false), .sc (.bool false), .sc (.int .i64 0), .sc (.slice none 0 0)] := rfl
theorem s_statehash_bodiesByID (w : Api.World) (hw : w.Bodies.length ≤ 1048576) : CallsA Tryz.prog F_statehash_bodiesByID [.agg w.enc] [] (.mp 1) [(1, .map .i64 (bmE (firsts w.Bodies)))] := by
  refine callsIO_of (rs := [_]) hm Tryz.func114 (by kernel_rfl) (by kernel_rfl) is_statehash_bodiesByID (by kernel_rfl : tmpsOf Tryz.f114.results.toList = some [2]) (by decide) (by kernel_rfl) ?_
  simp only [c_statehash_bodiesByID, go_sem]
  refine Wpi_loop hm (ι := {i : Nat // i ≤ w.Bodies.length}) (fun i => [(3, .share, .mp 1), (10, .share, encD 20 Body.enc default w.Bodies), (11, .share, .sc (.int .i64 w.Bodies.length)), (12, .share, .sc (.int .i64 i.1))])
    (fun i => [(1, .map .i64 (bmE (firsts (w.Bodies.take i.1))))]) (fun i => w.Bodies.length - i.1) ⟨0, by omega⟩ ?_ ?_
  · refine weakE_ [(1, 144)] [] ?_
    simp only [go_sem]
    try rfl
  · rintro ⟨i, hi⟩
    simp only [c_statehash_bodiesByIDb0, go_sem]
    by_cases hlt : i < w.Bodies.length
    · rw [if_pos (by omega)]
      refine ⟨ok_, ?_⟩
      simp only [mget_bmE, bF_firsts]
      cases hf : bF (w.Bodies.take i) (w.Bodies.getD i default).ID with
      | none =>
        have he : firsts (w.Bodies.take (i + 1)) = firsts (w.Bodies.take i) ++ [w.Bodies.getD i default] := by
          rw [firsts_snoc hlt]; unfold addF
          rw [← bF_any, bF_firsts, hf]; rfl
        have hp := mput_bmE (w.Bodies.getD i default) (firsts (w.Bodies.take i)) (by rw [bF_firsts]; exact hf)
        simp only [zB20, go_sem]
        refine loop_next ⟨i + 1, by omega⟩ (by show w.Bodies.length - (i + 1) < w.Bodies.length - i; omega) (weakE_ [] [] ?_)
        simp only [he, go_sem]
        exact ⟨(by rw [IntKind.wrap_i64]; omega), congrArg (AObj.map .i64) hp⟩
      | some b =>
        have he : firsts (w.Bodies.take (i + 1)) = firsts (w.Bodies.take i) := by
          rw [firsts_snoc hlt]; unfold addF
          rw [← bF_any, bF_firsts, hf]; rfl
        simp only [go_sem]
        refine loop_next ⟨i + 1, by omega⟩ (by show w.Bodies.length - (i + 1) < w.Bodies.length - i; omega) (weakE_ [] [] ?_)
        simp only [he, go_sem]
        exact ⟨(by rw [IntKind.wrap_i64]; omega), rfl⟩
    · rw [if_neg (by omega)]
      obtain rfl : i = w.Bodies.length := by omega
      refine retW_of [.share] [] [] rfl rfl (by simp [go_sem]) (by simp [assoc, go_sem]) (by simp [go_sem]) ?_
      simp only [go_sem, List.take_length]
      exact rfl

end Go.Abs
