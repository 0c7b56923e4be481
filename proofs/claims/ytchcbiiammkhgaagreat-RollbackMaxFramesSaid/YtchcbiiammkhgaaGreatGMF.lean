/- The statement's row. -/
import Derived.Test.YtchcbiiammkhgaaGreatMW
import Derived.Test.YtchcbiiammkhgaaGreatGP0
import Derived.Test.YtchcbiiammkhgaaGreatGP1
import Derived.Test.YtchcbiiammkhgaaGreatGP2
import Derived.Test.YtchcbiiammkhgaaGreatGP3
import Derived.Test.YtchcbiiammkhgaaGreatGP4
import Derived.Test.YtchcbiiammkhgaaGreatGP5
import Derived.Test.YtchcbiiammkhgaaGreatGP6
import Derived.Test.YtchcbiiammkhgaaGreatGP7
set_option linter.unusedSimpArgs false
set_option linter.unusedVariables false
set_option linter.unnecessarySimpa false
set_option maxRecDepth 100000
set_option maxHeartbeats 2000000
noncomputable section
namespace Go.Abs
open Go.Proofs Api
end Go.Abs
namespace Go.Proofs.YtchcbiiammkhgaaGreat
open Go.ChangeMaps (open_string shut_string)
open Go.ChangeShapes Go.WideShapes Go.ChangeAt Go.RowKit Go.Abs
theorem G5f {l:List Bool}{k:Nat}(hk:k<l.length)(h:l[k]? =some true):l[k]=true:=by rw[List.getElem?_eq_getElem hk]at h;injection h
theorem F5j {P:Program}{f:FuncId}{fn:Func}{s:ChangeSpec}{c:OpenClaim}(hl:(F1 P f fn s c).1.length=32)
  (p0:(F1 P f fn s c).1[0]? =some true)(p1:(F1 P f fn s c).1[1]? =some true)(p2:(F1 P f fn s c).1[2]? =some true)(p3:(F1 P f fn s c).1[3]? =some true)(p4:(F1 P f fn s c).1[4]? =some true)(p5:(F1 P f fn s c).1[5]? =some true)(p6:(F1 P f fn s c).1[6]? =some true)(p7:(F1 P f fn s c).1[7]? =some true)(p8:(F1 P f fn s c).1[8]? =some true)(p9:(F1 P f fn s c).1[9]? =some true)(p10:(F1 P f fn s c).1[10]? =some true)(p11:(F1 P f fn s c).1[11]? =some true)(p12:(F1 P f fn s c).1[12]? =some true)(p13:(F1 P f fn s c).1[13]? =some true)(p14:(F1 P f fn s c).1[14]? =some true)(p15:(F1 P f fn s c).1[15]? =some true)(p16:(F1 P f fn s c).1[16]? =some true)(p17:(F1 P f fn s c).1[17]? =some true)(p18:(F1 P f fn s c).1[18]? =some true)(p19:(F1 P f fn s c).1[19]? =some true)(p20:(F1 P f fn s c).1[20]? =some true)(p21:(F1 P f fn s c).1[21]? =some true)(p22:(F1 P f fn s c).1[22]? =some true)(p23:(F1 P f fn s c).1[23]? =some true)(p24:(F1 P f fn s c).1[24]? =some true)(p25:(F1 P f fn s c).1[25]? =some true)(p26:(F1 P f fn s c).1[26]? =some true)(p27:(F1 P f fn s c).1[27]? =some true)(p28:(F1 P f fn s c).1[28]? =some true)(p29:(F1 P f fn s c).1[29]? =some true)(p30:(F1 P f fn s c).1[30]? =some true)(p31:(F1 P f fn s c).1[31]? =some true):joinedFacts P f fn s c=true:=by
 refine(F1 P f fn s c).2 ?_;generalize(F1 P f fn s c).1=l at*;intro x hx;obtain⟨k,hk,rfl⟩:=List.getElem_of_mem hx;refine G5f hk ?_;rw[hl]at hk
 match k,hk with
 |0,_=>exact p0
 |1,_=>exact p1
 |2,_=>exact p2
 |3,_=>exact p3
 |4,_=>exact p4
 |5,_=>exact p5
 |6,_=>exact p6
 |7,_=>exact p7
 |8,_=>exact p8
 |9,_=>exact p9
 |10,_=>exact p10
 |11,_=>exact p11
 |12,_=>exact p12
 |13,_=>exact p13
 |14,_=>exact p14
 |15,_=>exact p15
 |16,_=>exact p16
 |17,_=>exact p17
 |18,_=>exact p18
 |19,_=>exact p19
 |20,_=>exact p20
 |21,_=>exact p21
 |22,_=>exact p22
 |23,_=>exact p23
 |24,_=>exact p24
 |25,_=>exact p25
 |26,_=>exact p26
 |27,_=>exact p27
 |28,_=>exact p28
 |29,_=>exact p29
 |30,_=>exact p30
 |31,_=>exact p31
 |n+32,h=>omega
theorem u8_of' {a : Int} (h : (Lit.int .u8 a).wf = true) : 0 ≤ a ∧ a < 256 := by
  simp only [Lit.wf, IntKind.min, IntKind.max, Bool.and_eq_true, decide_eq_true_eq] at h
  simp [IntKind.bits, IntKind.signed] at h
  omega
theorem G79:laidOutB Tryz.prog=true:=by kernel_rfl
theorem G8k:ownKnob Tryz.prog.godebug=none:=by kernel_rfl
theorem G1z(os:Os)(started:os.Started)(H:Type)(enc:TypeId×Value->H):
  ReturnsInHanded {} Tryz.checked os 4 .any (Rows.rollbackMaxFramesSpec.pre6 enc Tryz.prog Tryz.f4 Rows.rollbackMaxFramesRow.domain false) (Rows.rollbackMaxFramesSpec.post enc Tryz.prog Tryz.f4 false true false false):=by
 refine returnsInHanded_of_change (C:=Tryz.checked) G8k started (by kernel_rfl) Tryz.func4
  (ChangeSpec.witness6 (enc:=enc) (C:=Tryz.checked) false ⟨#[],#[.int .u8 0],[]⟩ 16 (by kernel_rfl) (by kernel_rfl) (by kernel_rfl) (by kernel_rfl)) ?_
 intro W base args ds gs before hval0 hW hcnd _;have hval: ∀(j:Nat) t v,Tryz.f4.params[j]? =some t->args[j]? =some v->Value.okWide Tryz.prog W .any base t v:=hval0
 have hW':=hW;obtain⟨p,q,hA0,hV,rfl,hfz,hnd⟩:=hW;have hA:DataW.TrodAll enc Tryz.prog W 0 (λ_=>true) true Tryz.f4.params.toList args.toList ds p:=hA0;rw[Tryz.params4]at hA hval;obtain⟨v0,vs0,d0,ds0,p0,q0,hargs,rfl,rfl,h0,r0⟩:=trodAll_cons hA;obtain⟨rfl,rfl,rfl⟩:=trodAll_nil r0;obtain rfl:args= #[v0]:=by cases args;simp_all
 obtain⟨rfl,rfl⟩:=trodVars_none hV;obtain⟨x0,rfl,rfl,rfl,w0⟩:=open_int Tryz.underlying5 (hval 0 5 v0 rfl rfl) h0;clear hA0 hval0;refine(F3l (B9p x0 (u8_of' w0)) (vals:= [.int .u8 x0]) ?_).mono λe W' ⟨he,bel⟩=> ?_
 ·refine⟨rfl,λj av hj=> ?_⟩
  match j,hj with
  |0,hj=>simp at hj;subst hj;exact .sc rfl
  |_+1,hj=>simp at hj
 ·subst he;exact⟨_,rfl,_,_,_,[],_,[],hW',trodAll_mk1 (shut_bool Tryz.underlying4 _),(trodAll_cons_mk (shut_int Tryz.underlying5 w0) trodAll_mk0),rfl,bel.frame _,λh=>by cases h⟩
theorem G52:(F1 Tryz.pinned.checked.prog 4 Tryz.f4 Rows.rollbackMaxFramesSpec Rows.rollbackMaxFramesRow).1.length=32:=by kernel_rfl
theorem G1l:joinedFacts Tryz.pinned.checked.prog 4 Tryz.f4 Rows.rollbackMaxFramesSpec Rows.rollbackMaxFramesRow=true:=F5j G52 G5s G5t G5u G5v G5w G5x G5y G5z G50 G51 G2l G2m G2n G2o G2p G2q G2r G2s G2t G2u G2v G2w G2x G2y G2z G20 G21 G22 G23 G24 G25 G26
theorem rollbackMaxFrames:Rows.RollbackMaxFramesSaid:=
 OpenClaim.holds_of_wide 4 Tryz.f4 rfl rfl rfl rfl rfl rfl rfl ⟨rfl,rfl,rfl,rfl,rfl⟩ rfl rfl rfl rfl rfl (by as_aux_lemma=>kernel_rfl) Tryz.func4 G1l
  (of_decide_eq_true (by as_aux_lemma=>kernel_rfl)) (by as_aux_lemma=>unfold Func.isWrapper;first |(rw[if_pos (by decide+kernel)];kernel_rfl) |(rw[if_neg (by decide+kernel)];exact⟨rfl,rfl⟩))
  (λos started H enc _=>G1z os started H enc)
#print axioms rollbackMaxFrames
end Go.Proofs.YtchcbiiammkhgaaGreat
end
