/- A part of the walk: contracts of functions that the statement reaches. -/
import Derived.Test.YtpbnhfancncoiaaAbsD
import Derived.Test.YtpbnhfancncoiaaE5
import Derived.Test.YtpbnhfancncoiaaSUB
set_option linter.unusedSimpArgs false
set_option linter.unusedVariables false
set_option linter.unnecessarySimpa false
set_option maxRecDepth 100000
set_option maxHeartbeats 2000000
set_option linter.unusedSimpArgs false
set_option linter.unusedVariables false
namespace Go.Abs
open Go.Proofs
open Api
def keyB (k : PairKey) : List Int := intsB [k.BodyA, k.FixtureA, k.BodyB, k.FixtureB]
theorem keyB_len (k : PairKey) : (keyB k).length ≤ 40 := intsB_len _
theorem s_enc_key (b : List Int) (k : PairKey) (hb : b.length ≤ 300000000000) : CallsA Try.prog F_snapshot_encoder_key [.ptr 1 0 0 1, .agg k.enc] (eO b) (.tup []) (eO (b ++ keyB k)) := by
  refine callsIO_of (rs := []) hm Try.func47 (by kernel_rfl) (by kernel_rfl) is_snapshot_encoder_key (by kernel_rfl : tmpsOf Try.f47.results.toList = some []) (by decide) (by kernel_rfl) ?_
  simp only [c_snapshot_encoder_key, go_sem]
  refine CallGi_obj [true, false] [] (s_enc_ints b [k.BodyA, k.FixtureA, k.BodyB, k.FixtureB] (by simp only [List.length_append, List.length_cons, List.length_nil]; omega)) (by simp [go_sem]) (by simp [go_sem]) (by simp [go_sem]) (by simp [go_sem]) ?_
  simp only [argsOC, go_sem]
  refine ⟨avle_lit2 (l := [k.BodyA, k.FixtureA, k.BodyB, k.FixtureB]) (fun _ _ => rfl) rfl rfl rfl, ?_⟩
  refine retW_of [] [] [] rfl rfl (by simp [go_sem]) (by simp [assoc, go_sem]) (by simp [go_sem]) ?_
  simp only [keyB, go_sem]
theorem fm_lenP {α : Type} {f : α → List Int} {c : Nat} : ∀ {l : List α}, (∀ a ∈ l, (f a).length ≤ c) → (l.flatMap f).length ≤ c * l.length
  | [], _ => by simp
  | a :: l, h => by
    have := fm_lenP (f := f) (c := c) (l := l) fun x hx => h x (List.mem_cons_of_mem _ hx)
    have := h a (List.mem_cons_self ..)
    rw [List.flatMap_cons, List.length_append, List.length_cons, Nat.mul_add]; omega
def ptB (p : ContactPoint) : List Int := (vecsB [p.Point]) ++ (intsB [p.Separation, p.ID, p.NormalImpulse, p.TangentImpulse])
theorem ptB_len (p : ContactPoint) : (ptB p).length ≤ 60 := by
  have q0 : (vecsB [p.Point]).length ≤ 20 := vecsB_len _
  have q1 : (intsB [p.Separation, p.ID, p.NormalImpulse, p.TangentImpulse]).length ≤ 40 := intsB_len _
  unfold ptB; simp only [List.length_append]; omega
def ctcH (x : Contact) : List Int := keyB x.Key ++ (vecsB [x.Manifold.Normal]) ++ (intsB [(x.Manifold.Points.length : Int)])
def ctcB (x : Contact) : List Int := ctcH x ++ x.Manifold.Points.flatMap ptB
theorem ctcH_len (x : Contact) : (ctcH x).length ≤ 70 := by
  have q0 := keyB_len x.Key
  have q1 : (vecsB [x.Manifold.Normal]).length ≤ 20 := vecsB_len _
  have q2 : (intsB [(x.Manifold.Points.length : Int)]).length ≤ 10 := intsB_len _
  unfold ctcH; simp only [List.length_append]; omega
theorem s_enc_contact (b : List Int) (x : Contact) (hb : b.length ≤ 100000000000) (hx : x.Manifold.Points.length ≤ 1048576) : CallsA Try.prog F_snapshot_encoder_contact [.ptr 1 0 0 1, .agg x.enc] (eO b) (.tup []) (eO (b ++ ctcB x)) := by
  have q0 := keyB_len x.Key
  have q1 : (vecsB [x.Manifold.Normal]).length ≤ 20 := vecsB_len _
  have q2 : (intsB [(x.Manifold.Points.length : Int)]).length ≤ 10 := intsB_len _
  have hh := ctcH_len x
  refine callsIO_of (rs := []) hm Try.func29 (by kernel_rfl) (by kernel_rfl) is_snapshot_encoder_contact (by kernel_rfl : tmpsOf Try.f29.results.toList = some []) (by decide) (by kernel_rfl) ?_
  simp only [c_snapshot_encoder_contact, go_sem]
  refine CallGi_subw (s_enc_key b x.Key (by omega)) (okO_eO _) rfl (by simp [go_sem]) (by simp [go_sem, AV.ids]) rfl ?_
  simp only [go_sem]
  refine CallGi_obj [true, false] [] (s_enc_vecs (b ++ keyB x.Key) [x.Manifold.Normal] (by simp only [List.length_append, List.length_cons, List.length_nil]; omega)) (by simp [go_sem]) (by simp [go_sem]) (by simp [go_sem]) (by simp [go_sem]) ?_
  simp only [argsOC, go_sem]
  refine ⟨avle_lit2 (l := [x.Manifold.Normal]) (fun _ _ => rfl) rfl rfl rfl, ?_⟩
  refine CallGi_obj [true, false] [] (s_enc_ints ((b ++ keyB x.Key) ++ vecsB [x.Manifold.Normal]) [(x.Manifold.Points.length : Int)] (by simp only [List.length_append, List.length_cons, List.length_nil]; omega)) (by simp [go_sem]) (by simp [go_sem]) (by simp [go_sem]) (by simp [go_sem]) ?_
  simp only [argsOC, go_sem]
  refine ⟨avle_lit2 (l := [(x.Manifold.Points.length : Int)]) (fun _ _ => rfl) rfl rfl rfl, ?_⟩
  unfold ctcB
  refine Wpi_loop hm (ι := {i : Nat // i ≤ x.Manifold.Points.length}) (fun i => [(0, .share, .ptr 1 0 0 1), (25, .share, encD 6 ContactPoint.enc default x.Manifold.Points), (26, .share, .sc (.int .i64 x.Manifold.Points.length)), (27, .share, .sc (.int .i64 i.1))])
    (fun i => eO (b ++ (ctcH x ++ (x.Manifold.Points.take i.1).flatMap ptB))) (fun i => x.Manifold.Points.length - i.1) ⟨0, by omega⟩ ?_ ?_
  · refine weakE_ [] [] ?_
    simp only [List.take_zero, List.flatMap_nil, List.append_nil, ctcH, go_sem]
    try trivial
  · rintro ⟨i, hi⟩
    simp only [c_snapshot_encoder_contactb0, go_sem]
    by_cases hlt : i < x.Manifold.Points.length
    · rw [if_pos (by omega)]
      have hl := fm_lenP (f := ptB) (c := 60) (l := x.Manifold.Points.take i) (fun f _ => ptB_len f)
      rw [List.length_take] at hl
      have hs := fm_snoc (f := ptB) (l := x.Manifold.Points) default hlt
      refine ⟨ok_, ?_⟩
      have q0 : (vecsB [(x.Manifold.Points.getD i default).Point]).length ≤ 20 := vecsB_len _
      have q1 : (intsB [(x.Manifold.Points.getD i default).Separation, (x.Manifold.Points.getD i default).ID, (x.Manifold.Points.getD i default).NormalImpulse, (x.Manifold.Points.getD i default).TangentImpulse]).length ≤ 40 := intsB_len _
      refine CallGi_obj [true, false] [] (s_enc_vecs (b ++ (ctcH x ++ (x.Manifold.Points.take i).flatMap ptB)) [(x.Manifold.Points.getD i default).Point] (by simp only [List.length_append, List.length_cons, List.length_nil]; omega)) (by simp [go_sem]) (by simp [go_sem]) (by simp [go_sem]) (by simp [go_sem]) ?_
      simp only [argsOC, go_sem]
      refine ⟨avle_lit2 (l := [(x.Manifold.Points.getD i default).Point]) (fun _ _ => rfl) rfl rfl rfl, ?_⟩
      refine CallGi_obj [true, false] [] (s_enc_ints ((b ++ (ctcH x ++ (x.Manifold.Points.take i).flatMap ptB)) ++ vecsB [(x.Manifold.Points.getD i default).Point]) [(x.Manifold.Points.getD i default).Separation, (x.Manifold.Points.getD i default).ID, (x.Manifold.Points.getD i default).NormalImpulse, (x.Manifold.Points.getD i default).TangentImpulse] (by simp only [List.length_append, List.length_cons, List.length_nil]; omega)) (by simp [go_sem]) (by simp [go_sem]) (by simp [go_sem]) (by simp [go_sem]) ?_
      simp only [argsOC, go_sem]
      refine ⟨avle_lit2 (l := [(x.Manifold.Points.getD i default).Separation, (x.Manifold.Points.getD i default).ID, (x.Manifold.Points.getD i default).NormalImpulse, (x.Manifold.Points.getD i default).TangentImpulse]) (fun _ _ => rfl) rfl rfl rfl, ?_⟩
      refine loop_next ⟨i + 1, by omega⟩ (by show x.Manifold.Points.length - (i + 1) < x.Manifold.Points.length - i; omega) (weakE_ [] [] ?_)
      simp only [hs, ptB, go_sem]
      exact (by rw [IntKind.wrap_i64]; omega)
    · rw [if_neg (by omega)]
      obtain rfl : i = x.Manifold.Points.length := by omega
      refine retW_of [] [] [] rfl rfl (by simp [go_sem]) (by simp [assoc, go_sem]) (by simp [go_sem]) ?_
      simp only [List.take_length, go_sem]

end Go.Abs
