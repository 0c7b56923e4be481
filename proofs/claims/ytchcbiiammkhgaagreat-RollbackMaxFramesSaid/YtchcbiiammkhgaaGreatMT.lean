/- A part of the proof: contracts of functions that the statement reaches. -/
import Derived.Test.YtchcbiiammkhgaaGreatMS
set_option linter.unusedSimpArgs false
set_option linter.unusedVariables false
set_option linter.unnecessarySimpa false
set_option maxRecDepth 100000
set_option maxHeartbeats 2000000
noncomputable section
namespace Go.Abs
open Go.Proofs
open Api
theorem F3m(b:cF)(x:Api.Input):(W9 b x).cK=b.cK:=by
 unfold W9 A5y A2f W6 A96;dsimp only
 (repeat' split) <;> rfl
theorem A6n {α:Type}{z n n':Nat}{enc:α->List AV}{d:α}{l:List α}{i:Nat}{c:List AV}(a:α)(hi:i<l.length)(hc:c=enc a)(hn:n=l.length)(hn':n'=(l.set i a).length):M9 (.dsl z n ((A9 enc d l).set i c).g) (.dsl z n' (I8 enc d (l.set i a))):=by subst hn;subst hn';rw[List.length_set];exact A3n hi c hc
def B1q(j:cG)(x:Api.Input):cG:=
 if x.cS=7 then⟨j.ID,j.cS,j.cU,j.cV,x.cI,j.dR,j.eS,j.cX,j.dE,j.dN,j.dS,j.dH,j.dP,j.dU,j.dD,j.dI,j.dC,j.cQ⟩
 else⟨j.ID,j.cS,j.cU,j.cV,j.dW,j.dR,j.eS,j.cX,j.dE,j.dN,j.dS,j.dH,x.Value,j.dU,j.dD,j.dI,j.dC,j.cQ⟩
def F28(w:Api.World)(x:Api.Input)(r:Api.World×Int):Prop:=0<=H5 w x.ID->A16 (w.cC.getD (H5 w x.ID).toNat dF_) x=0->r=(A7b ⟨w.cM,w.cC.set (H5 w x.ID).toNat (W9 (w.cC.getD (H5 w x.ID).toNat dF_) x),w.cD,w.cB,w.cT,w.dJ,w.eK⟩ x.ID,0)
theorem C9z(w:Api.World)(x:Api.Input)(hw:Wsm w): ∃r:Api.World×Int,Wsm r.1/\F28 w x r/\cA_ C9c [.agg w.enc, .agg x.enc] [] (.tup [.agg r.1.enc,sI r.2]) []:=by
 have hl:=hw.1
 have hlt:=A3a w x.ID;by_cases h1:H5 w x.ID<0
 ·refine⟨(zW,8),A3j,(λh=>by omega),?_⟩;refine S1 44 [(4,some (some 11)),(5,none)] hm A6 Tryz.func175 rfl (st_ ?_);refine A0 (T0 w x.ID hl) rfl (st_ ?_);rw[if_pos h1]
  (repeat' (with_reducible apply And.intro)) <;> first |with_reducible rfl |rfl |exact D0 _ |exact G8 rfl |exact A0c _ rfl rfl rfl rfl |exact A3n (by assumption) _ rfl |exact A6n _ (by assumption) rfl rfl rfl |exact A2m (λ_=>rfl) |omega |(unfold maxLen;omega)
 obtain⟨i,hi⟩: ∃i:Nat,H5 w x.ID=i:=⟨(H5 w x.ID).toNat,by omega⟩;have hil:i<w.cC.length:=by omega
 have hf:=T0 w x.ID hl;rw[hi]at hf;by_cases h2:A16 (w.cC.getD i dF_) x=0
 ·have hbs:cF.sm (w.cC.getD i dF_):=hw.2.2.2.2.1 _ (B8 dF_ hil)
  have hcs:cF.sm (W9 (w.cC.getD i dF_) x):=by unfold cF.sm;rw[F3m];exact hbs
  have hw2:Wsm ⟨w.cM,w.cC.set i (W9 (w.cC.getD i dF_) x),w.cD,w.cB,w.cT,w.dJ,w.eK⟩:=G3u hw i _ hcs;refine⟨(A7b ⟨w.cM,w.cC.set i (W9 (w.cC.getD i dF_) x),w.cD,w.cB,w.cT,w.dJ,w.eK⟩ x.ID,0),B3y _ _ hw2,(λ_ _=>by rw[hi];rfl),?_⟩;refine S1 44 [(4,some (some 11)),(5,none)] hm A6 Tryz.func175 rfl (st_ ?_);refine A0 hf rfl (st_ ?_);rw[if_neg (by omega)];refine⟨⟨by omega,by omega⟩,?_⟩;refine A0 (B8z (w.cC.getD i dF_) x) rfl (st_ ?_);rw[if_neg (by rw[h2];simp)];refine J2 ev_ K0 (U3 w hw) (st_ ?_);refine⟨⟨by omega,by omega⟩,?_⟩;refine A0 (E09 (w.cC.getD i dF_) x hbs) rfl (st_ ?_);refine⟨⟨by omega,by omega⟩,?_⟩;refine O7 (A39 ⟨w.cM,w.cC.set i (W9 (w.cC.getD i dF_) x),w.cD,w.cB,w.cT,w.dJ,w.eK⟩ x.ID hw2) ?_;simp only[S3,go_sem,go_sem_proc]
  (repeat' (with_reducible apply And.intro)) <;> first |with_reducible rfl |rfl |exact D0 _ |exact G8 rfl |exact A0c _ rfl rfl rfl rfl |exact A3n (by assumption) _ rfl |exact A6n _ (by assumption) rfl rfl rfl |exact A2m (λ_=>rfl) |omega |(unfold maxLen;omega)
 ·refine⟨(zW,A16 (w.cC.getD i dF_) x),A3j,(λ_ h=>absurd (by rw[hi]at h;exact h) h2),?_⟩;refine S1 44 [(4,some (some 11)),(5,none)] hm A6 Tryz.func175 rfl (st_ ?_);refine A0 hf rfl (st_ ?_);rw[if_neg (by omega)];refine⟨⟨by omega,by omega⟩,?_⟩;refine A0 (B8z (w.cC.getD i dF_) x) rfl (st_ ?_);rw[if_pos (by simpa using h2)]
  (repeat' (with_reducible apply And.intro)) <;> first |with_reducible rfl |rfl |exact D0 _ |exact G8 rfl |exact A0c _ rfl rfl rfl rfl |exact A3n (by assumption) _ rfl |exact A6n _ (by assumption) rfl rfl rfl |exact A2m (λ_=>rfl) |omega |(unfold maxLen;omega)
theorem F54 {j:cG}{x:Api.Input}(h:x.cS=7):B1q j x=⟨j.ID,j.cS,j.cU,j.cV,x.cI,j.dR,j.eS,j.cX,j.dE,j.dN,j.dS,j.dH,j.dP,j.dU,j.dD,j.dI,j.dC,j.cQ⟩:=if_pos h
theorem F55 {j:cG}{x:Api.Input}(h: ¬x.cS=7):B1q j x=⟨j.ID,j.cS,j.cU,j.cV,j.dW,j.dR,j.eS,j.cX,j.dE,j.dN,j.dS,j.dH,x.Value,j.dU,j.dD,j.dI,j.dC,j.cQ⟩:=if_neg h
theorem B44(w:Api.World)(x:Api.Input)(hw:Wsm w): ∃r:Api.World×Int,Wsm r.1/\cA_ C54 [.agg w.enc, .agg x.enc] [] (.tup [.agg r.1.enc,sI r.2]) []:=by
 have hl:=hw.2.1
 have hlt: -1<=B4l w x.ID/\B4l w x.ID<w.cD.length:=D4b;by_cases h1:B4l w x.ID<0
 ·refine⟨(zW,8),A3j,?_⟩;refine S1 56 [(4,some (some 11)),(5,none)] hm A6 Tryz.func174 rfl (st_ ?_);refine A0 (A7t w x.ID hl) rfl (st_ ?_);rw[if_pos h1]
  (repeat' (with_reducible apply And.intro)) <;> first |with_reducible rfl |rfl |exact D0 _ |exact G8 rfl |exact A0c _ rfl rfl rfl rfl |exact A3n (by assumption) _ rfl |exact A6n _ (by assumption) rfl rfl rfl |exact A2m (λ_=>rfl) |omega |(unfold maxLen;omega)
 obtain⟨i,hi⟩: ∃i:Nat,B4l w x.ID=i:=⟨(B4l w x.ID).toNat,by omega⟩;have hil:i<w.cD.length:=by omega
 have hf:=A7t w x.ID hl;rw[hi]at hf;by_cases h3:x.cS=7
 ·
  by_cases h4:(w.cD.getD i dF_).cS≠5
  ·
   refine⟨(zW,10),A3j,?_⟩;refine S1 56 [(4,some (some 11)),(5,none)] hm A6 Tryz.func174 rfl (st_ ?_);refine A0 hf rfl (st_ ?_);rw[if_neg (by omega)];refine⟨⟨by omega,by omega⟩,?_⟩;rw[if_pos (by rw[h3];rfl)];rw[if_pos (by simpa[List.getD]using h4)]
   (repeat' (with_reducible apply And.intro)) <;> first |with_reducible rfl |rfl |exact D0 _ |exact G8 rfl |exact A0c _ rfl rfl rfl rfl |exact A3n (by assumption) _ rfl |exact A6n _ (by assumption) rfl rfl rfl |exact A2m (λ_=>rfl) |omega |(unfold maxLen;omega)
  by_cases h5:A1r (B1q (w.cD.getD i dF_) x)≠0
  ·
   refine⟨(zW,6),A3j,?_⟩;refine S1 56 [(4,some (some 11)),(5,none)] hm A6 Tryz.func174 rfl (st_ ?_);refine A0 hf rfl (st_ ?_);rw[if_neg (by omega)];refine⟨⟨by omega,by omega⟩,?_⟩;rw[if_pos (by rw[h3];rfl)];rw[if_neg (by simpa[List.getD]using h4)];have hv:=A2h (B1q (w.cD.getD i dF_) x)
   have hj:=F54 (j:=w.cD.getD i dF_) h3;generalize hjv:B1q (w.cD.getD i dF_) x=jv at*;subst hj;refine A0 hv rfl (st_ ?_);rw[if_pos (by simpa using h5)]
   (repeat' (with_reducible apply And.intro)) <;> first |with_reducible rfl |rfl |exact D0 _ |exact G8 rfl |exact A0c _ rfl rfl rfl rfl |exact A3n (by assumption) _ rfl |exact A6n _ (by assumption) rfl rfl rfl |exact A2m (λ_=>rfl) |omega |(unfold maxLen;omega)
  ·
   have hw2:Wsm ⟨w.cM,w.cC,w.cD.set i (B1q (w.cD.getD i dF_) x),w.cB,w.cT,w.dJ,w.eK⟩:=E6c hw _ _ _ (by rw[List.length_set];exact hl);refine⟨(A7b (A7b ⟨w.cM,w.cC,w.cD.set i (B1q (w.cD.getD i dF_) x),w.cB,w.cT,w.dJ,w.eK⟩ (w.cD.getD i dF_).cU) (w.cD.getD i dF_).cV,0),B3y _ _ (B3y _ _ hw2),?_⟩;refine S1 56 [(4,some (some 11)),(5,none)] hm A6 Tryz.func174 rfl (st_ ?_);refine A0 hf rfl (st_ ?_);rw[if_neg (by omega)];refine⟨⟨by omega,by omega⟩,?_⟩;rw[if_pos (by rw[h3];rfl)];rw[if_neg (by simpa[List.getD]using h4)];have hv:=A2h (B1q (w.cD.getD i dF_) x)
   have hj:=F54 (j:=w.cD.getD i dF_) h3;generalize hjv:B1q (w.cD.getD i dF_) x=jv at*;subst hj;refine A0 hv rfl (st_ ?_);rw[if_neg (by simpa using h5)];refine J2 ev_ K0 (U3 w hw) (st_ ?_);refine⟨⟨by omega,by omega⟩,?_⟩;refine O7 (A39 ⟨w.cM,w.cC,w.cD.set i ⟨(w.cD.getD i dF_).ID,(w.cD.getD i dF_).cS,(w.cD.getD i dF_).cU,(w.cD.getD i dF_).cV,x.cI,(w.cD.getD i dF_).dR,(w.cD.getD i dF_).eS,(w.cD.getD i dF_).cX,(w.cD.getD i dF_).dE,(w.cD.getD i dF_).dN,(w.cD.getD i dF_).dS,(w.cD.getD i dF_).dH,(w.cD.getD i dF_).dP,(w.cD.getD i dF_).dU,(w.cD.getD i dF_).dD,(w.cD.getD i dF_).dI,(w.cD.getD i dF_).dC,(w.cD.getD i dF_).cQ⟩,w.cB,w.cT,w.dJ,w.eK⟩ (w.cD.getD i dF_).cU hw2) ?_;simp only[S3,go_sem,go_sem_proc];refine⟨A3n hil _ rfl,?_⟩;refine A0 (A39 (A7b ⟨w.cM,w.cC,w.cD.set i ⟨(w.cD.getD i dF_).ID,(w.cD.getD i dF_).cS,(w.cD.getD i dF_).cU,(w.cD.getD i dF_).cV,x.cI,(w.cD.getD i dF_).dR,(w.cD.getD i dF_).eS,(w.cD.getD i dF_).cX,(w.cD.getD i dF_).dE,(w.cD.getD i dF_).dN,(w.cD.getD i dF_).dS,(w.cD.getD i dF_).dH,(w.cD.getD i dF_).dP,(w.cD.getD i dF_).dU,(w.cD.getD i dF_).dD,(w.cD.getD i dF_).dI,(w.cD.getD i dF_).dC,(w.cD.getD i dF_).cQ⟩,w.cB,w.cT,w.dJ,w.eK⟩ (w.cD.getD i dF_).cU) (w.cD.getD i dF_).cV (B3y _ _ hw2)) rfl ?_;simp only[go_sem,go_sem_proc]
 ·
  by_cases h4: ¬(w.cD.getD i dF_).dH=true
  ·
   refine⟨(zW,10),A3j,?_⟩;refine S1 56 [(4,some (some 11)),(5,none)] hm A6 Tryz.func174 rfl (st_ ?_);refine A0 hf rfl (st_ ?_);rw[if_neg (by omega)];refine⟨⟨by omega,by omega⟩,?_⟩;rw[if_neg (by simpa using h3)];rw[if_pos (by simpa[List.getD]using h4)]
   (repeat' (with_reducible apply And.intro)) <;> first |with_reducible rfl |rfl |exact D0 _ |exact G8 rfl |exact A0c _ rfl rfl rfl rfl |exact A3n (by assumption) _ rfl |exact A6n _ (by assumption) rfl rfl rfl |exact A2m (λ_=>rfl) |omega |(unfold maxLen;omega)
  by_cases h5:A1r (B1q (w.cD.getD i dF_) x)≠0
  ·
   refine⟨(zW,6),A3j,?_⟩;refine S1 56 [(4,some (some 11)),(5,none)] hm A6 Tryz.func174 rfl (st_ ?_);refine A0 hf rfl (st_ ?_);rw[if_neg (by omega)];refine⟨⟨by omega,by omega⟩,?_⟩;rw[if_neg (by simpa using h3)];rw[if_neg (by simpa[List.getD]using h4)];have hv:=A2h (B1q (w.cD.getD i dF_) x)
   have hj:=F55 (j:=w.cD.getD i dF_) h3;generalize hjv:B1q (w.cD.getD i dF_) x=jv at*;subst hj;refine A0 hv rfl (st_ ?_);rw[if_pos (by simpa using h5)]
   (repeat' (with_reducible apply And.intro)) <;> first |with_reducible rfl |rfl |exact D0 _ |exact G8 rfl |exact A0c _ rfl rfl rfl rfl |exact A3n (by assumption) _ rfl |exact A6n _ (by assumption) rfl rfl rfl |exact A2m (λ_=>rfl) |omega |(unfold maxLen;omega)
  ·
   have hw2:Wsm ⟨w.cM,w.cC,w.cD.set i (B1q (w.cD.getD i dF_) x),w.cB,w.cT,w.dJ,w.eK⟩:=E6c hw _ _ _ (by rw[List.length_set];exact hl);refine⟨(A7b (A7b ⟨w.cM,w.cC,w.cD.set i (B1q (w.cD.getD i dF_) x),w.cB,w.cT,w.dJ,w.eK⟩ (w.cD.getD i dF_).cU) (w.cD.getD i dF_).cV,0),B3y _ _ (B3y _ _ hw2),?_⟩;refine S1 56 [(4,some (some 11)),(5,none)] hm A6 Tryz.func174 rfl (st_ ?_);refine A0 hf rfl (st_ ?_);rw[if_neg (by omega)];refine⟨⟨by omega,by omega⟩,?_⟩;rw[if_neg (by simpa using h3)];rw[if_neg (by simpa[List.getD]using h4)];have hv:=A2h (B1q (w.cD.getD i dF_) x)
   have hj:=F55 (j:=w.cD.getD i dF_) h3;generalize hjv:B1q (w.cD.getD i dF_) x=jv at*;subst hj;refine A0 hv rfl (st_ ?_);rw[if_neg (by simpa using h5)];refine J2 ev_ K0 (U3 w hw) (st_ ?_);refine⟨⟨by omega,by omega⟩,?_⟩;refine O7 (A39 ⟨w.cM,w.cC,w.cD.set i ⟨(w.cD.getD i dF_).ID,(w.cD.getD i dF_).cS,(w.cD.getD i dF_).cU,(w.cD.getD i dF_).cV,(w.cD.getD i dF_).dW,(w.cD.getD i dF_).dR,(w.cD.getD i dF_).eS,(w.cD.getD i dF_).cX,(w.cD.getD i dF_).dE,(w.cD.getD i dF_).dN,(w.cD.getD i dF_).dS,(w.cD.getD i dF_).dH,x.Value,(w.cD.getD i dF_).dU,(w.cD.getD i dF_).dD,(w.cD.getD i dF_).dI,(w.cD.getD i dF_).dC,(w.cD.getD i dF_).cQ⟩,w.cB,w.cT,w.dJ,w.eK⟩ (w.cD.getD i dF_).cU hw2) ?_;simp only[S3,go_sem,go_sem_proc];refine⟨A3n hil _ rfl,?_⟩;refine A0 (A39 (A7b ⟨w.cM,w.cC,w.cD.set i ⟨(w.cD.getD i dF_).ID,(w.cD.getD i dF_).cS,(w.cD.getD i dF_).cU,(w.cD.getD i dF_).cV,(w.cD.getD i dF_).dW,(w.cD.getD i dF_).dR,(w.cD.getD i dF_).eS,(w.cD.getD i dF_).cX,(w.cD.getD i dF_).dE,(w.cD.getD i dF_).dN,(w.cD.getD i dF_).dS,(w.cD.getD i dF_).dH,x.Value,(w.cD.getD i dF_).dU,(w.cD.getD i dF_).dD,(w.cD.getD i dF_).dI,(w.cD.getD i dF_).dC,(w.cD.getD i dF_).cQ⟩,w.cB,w.cT,w.dJ,w.eK⟩ (w.cD.getD i dF_).cU) (w.cD.getD i dF_).cV (B3y _ _ hw2)) rfl ?_;simp only[go_sem,go_sem_proc]
theorem C80(w:Api.World)(x:Api.Input)(hw:Wsm w)(hx:cF.sm x.cF): ∃r:Api.World×Int×Int,Wsm r.1/\(B9 w=0->A0l x=0->x.cS<7->F28 w x (r.1,r.2.2)/\r.2.1=0)/\cA_ C8o [.agg w.enc, .agg x.enc] [] (.tup [.agg r.1.enc,sI r.2.1,sI r.2.2]) []:=by
 by_cases h1:B9 w≠0
 ·refine⟨(zW,0,18),A3j,(λh=>absurd h h1),?_⟩;refine S1 87 [(4,some (some 11)),(5,none),(6,none)] hm A6 Tryz.func104 rfl (st_ ?_);refine A0 (I6 w hw) rfl (st_ ?_);rw[if_pos (by simpa using h1)]
  all_goals((repeat' (with_reducible apply And.intro)) <;> first |with_reducible rfl |rfl |exact D0 _ |exact G8 rfl |omega)
 by_cases h2:A0l x≠0
 ·refine⟨(zW,0,A0l x),A3j,(λ_ h=>absurd h h2),?_⟩;refine S1 87 [(4,some (some 11)),(5,none),(6,none)] hm A6 Tryz.func104 rfl (st_ ?_);refine A0 (I6 w hw) rfl (st_ ?_);rw[if_neg (by simpa using h1)];refine A0 (A0q x hx) rfl (st_ ?_);rw[if_pos (by simpa using h2)]
  all_goals((repeat' (with_reducible apply And.intro)) <;> first |with_reducible rfl |rfl |exact D0 _ |exact G8 rfl |omega)
 by_cases k9:x.cS=9
 ·obtain⟨r,hr,hc⟩:=E1l w x.cF hw hx;refine⟨r,hr,(λ_ _ h=>by omega),?_⟩;refine S1 87 [(4,some (some 11)),(5,none),(6,none)] hm A6 Tryz.func104 rfl (st_ ?_);refine A0 (I6 w hw) rfl (st_ ?_);rw[if_neg (by simpa using h1)];refine A0 (A0q x hx) rfl (st_ ?_);rw[if_neg (by simpa using h2)];rw[if_pos (by simp[k9])];refine A0 hc rfl ?_;simp only[go_sem,go_sem_proc]
  all_goals((repeat' (with_reducible apply And.intro)) <;> first |with_reducible rfl |rfl |exact D0 _ |exact G8 rfl |omega)
 by_cases k11:x.cS=11
 ·obtain⟨r,hr,hc⟩:=D87 w x.cG hw;refine⟨r,hr,(λ_ _ h=>by omega),?_⟩;refine S1 87 [(4,some (some 11)),(5,none),(6,none)] hm A6 Tryz.func104 rfl (st_ ?_);refine A0 (I6 w hw) rfl (st_ ?_);rw[if_neg (by simpa using h1)];refine A0 (A0q x hx) rfl (st_ ?_);rw[if_neg (by simpa using h2)];rw[if_neg (by simpa using k9)];rw[if_pos (by simp[k11])];refine A0 hc rfl ?_;simp only[go_sem,go_sem_proc]
  all_goals((repeat' (with_reducible apply And.intro)) <;> first |with_reducible rfl |rfl |exact D0 _ |exact G8 rfl |omega)
 by_cases k10:x.cS=10
 ·obtain⟨r,hr,hc⟩:=D3o w x.ID hw;refine⟨(r.1,0,r.2),hr,(λ_ _ h=>by omega),?_⟩;refine S1 87 [(4,some (some 11)),(5,none),(6,none)] hm A6 Tryz.func104 rfl (st_ ?_);refine A0 (I6 w hw) rfl (st_ ?_);rw[if_neg (by simpa using h1)];refine A0 (A0q x hx) rfl (st_ ?_);rw[if_neg (by simpa using h2)];rw[if_neg (by simpa using k9)];rw[if_neg (by simpa using k11)];rw[if_pos (by simp[k10])];refine A0 hc rfl ?_;simp only[go_sem,go_sem_proc]
  all_goals((repeat' (with_reducible apply And.intro)) <;> first |with_reducible rfl |rfl |exact D0 _ |exact G8 rfl |omega)
 by_cases k12:x.cS=12
 ·obtain⟨r,hr,hc⟩:=D0c w x.ID hw;refine⟨(r.1,0,r.2),hr,(λ_ _ h=>by omega),?_⟩;refine S1 87 [(4,some (some 11)),(5,none),(6,none)] hm A6 Tryz.func104 rfl (st_ ?_);refine A0 (I6 w hw) rfl (st_ ?_);rw[if_neg (by simpa using h1)];refine A0 (A0q x hx) rfl (st_ ?_);rw[if_neg (by simpa using h2)];rw[if_neg (by simpa using k9)];rw[if_neg (by simpa using k11)];rw[if_neg (by simpa using k10)];rw[if_pos (by simp[k12])];refine A0 hc rfl ?_;simp only[go_sem,go_sem_proc]
  all_goals((repeat' (with_reducible apply And.intro)) <;> first |with_reducible rfl |rfl |exact D0 _ |exact G8 rfl |omega)
 by_cases k7:x.cS=7
 ·obtain⟨r,hr,hc⟩:=B44 w x hw;refine⟨(r.1,0,r.2),hr,(λ_ _ h=>by omega),?_⟩;refine S1 87 [(4,some (some 11)),(5,none),(6,none)] hm A6 Tryz.func104 rfl (st_ ?_);refine A0 (I6 w hw) rfl (st_ ?_);rw[if_neg (by simpa using h1)];refine A0 (A0q x hx) rfl (st_ ?_);rw[if_neg (by simpa using h2)];rw[if_neg (by simpa using k9)];rw[if_neg (by simpa using k11)];rw[if_neg (by simpa using k10)];rw[if_neg (by simpa using k12)];rw[if_pos (by simp[k7])];rw[if_pos (by simp[k7])];refine A0 hc rfl ?_;simp only[go_sem,go_sem_proc]
  all_goals((repeat' (with_reducible apply And.intro)) <;> first |with_reducible rfl |rfl |exact D0 _ |exact G8 rfl |omega)
 by_cases k8:x.cS=8
 ·obtain⟨r,hr,hc⟩:=B44 w x hw;refine⟨(r.1,0,r.2),hr,(λ_ _ h=>by omega),?_⟩;refine S1 87 [(4,some (some 11)),(5,none),(6,none)] hm A6 Tryz.func104 rfl (st_ ?_);refine A0 (I6 w hw) rfl (st_ ?_);rw[if_neg (by simpa using h1)];refine A0 (A0q x hx) rfl (st_ ?_);rw[if_neg (by simpa using h2)];rw[if_neg (by simpa using k9)];rw[if_neg (by simpa using k11)];rw[if_neg (by simpa using k10)];rw[if_neg (by simpa using k12)];rw[if_neg (by simpa using k7)];rw[if_pos (by simp[k8])];refine A0 hc rfl ?_;simp only[go_sem,go_sem_proc]
  all_goals((repeat' (with_reducible apply And.intro)) <;> first |with_reducible rfl |rfl |exact D0 _ |exact G8 rfl |omega)
 obtain⟨r,hr,hk,hc⟩:=C9z w x hw;refine⟨(r.1,0,r.2),hr,(λ_ _ _=>⟨hk,rfl⟩),?_⟩;refine S1 87 [(4,some (some 11)),(5,none),(6,none)] hm A6 Tryz.func104 rfl (st_ ?_);refine A0 (I6 w hw) rfl (st_ ?_);rw[if_neg (by simpa using h1)];refine A0 (A0q x hx) rfl (st_ ?_);rw[if_neg (by simpa using h2)];rw[if_neg (by simpa using k9)];rw[if_neg (by simpa using k11)];rw[if_neg (by simpa using k10)];rw[if_neg (by simpa using k12)];rw[if_neg (by simpa using k7)];rw[if_neg (by simpa using k8)];refine A0 hc rfl ?_;simp only[go_sem,go_sem_proc]
 all_goals((repeat' (with_reducible apply And.intro)) <;> first |with_reducible rfl |rfl |exact D0 _ |exact G8 rfl |omega)
end Go.Abs
end
noncomputable section
namespace Go.Abs
open Go.Proofs
open Api
end Go.Abs
namespace Go.Api
open Go.Abs
structure B7g where
 cF:Int
 dB:Int
 gA:Int
 eY:cI
 dF:cI
 deriving DecidableEq,Inhabited
def B7g.enc(x:B7g):List AV:=[sI x.cF,sI x.dB,sI x.gA,sI x.eY.X,sI x.eY.Y,sI x.dF.X,sI x.dF.Y]
def B7g.zero:List AV:= [sI 0,sI 0,sI 0,sI 0,sI 0,sI 0,sI 0]
attribute [go_sem] B7g.enc B7g.zero
@[go_sem] theorem G6t(x:B7g):B7g.mk x.cF x.dB x.gA x.eY x.dF=x:=rfl
end Go.Api
namespace Go.Abs
open Go.Proofs Api
end Go.Abs
end
noncomputable section
namespace Go.Abs
open Go.Proofs
open Api
end Go.Abs
namespace Go.Api
open Go.Abs
structure B2y where
 gB:B7g
 gG:Bool
 cC:List Int
 gH:Int
 gJ:Int
 deriving DecidableEq,Inhabited
def B2y.enc(x:B2y):List AV:=[sI x.gB.cF,sI x.gB.dB,sI x.gB.gA,sI x.gB.eY.X,sI x.gB.eY.Y,sI x.gB.dF.X,sI x.gB.dF.Y,sB x.gG,A4 1 C6 0 x.cC,sI x.gH,sI x.gJ]
def B2y.zero:List AV:= [sI 0,sI 0,sI 0,sI 0,sI 0,sI 0,sI 0,sB false, .sc (.slice none 0 0),sI 0,sI 0]
attribute [go_sem] B2y.enc B2y.zero
@[go_sem] theorem G4r(x:B2y):B2y.mk x.gB x.gG x.cC x.gH x.gJ=x:=rfl
end Go.Api
namespace Go.Abs
open Go.Proofs Api
theorem B1a(w:Api.World)(h:Wsm w):cA_ C8r [.agg w.enc] [] (.agg w.enc) []:=by
 obtain⟨h1,h2,h3,h4,h5,h6⟩:=h;refine C6y 56 [(2,some (some 11))] hm A6 Tryz.func48 rfl (st_ ?_);refine B5 [false] [(1,1)] (A9k w.cC h1) (by simp) (by simp) (by simp) (by simp) (st_ ?_);refine B5 [false] [(1,2)] (A8t w.cD h2) (by simp) (by simp) (by simp) (by simp) (st_ ?_);refine B5 [false] [(1,3)] (B2j w.cB h3) (by simp) (by simp) (by simp) (by simp) (st_ ?_);refine B5 [false] [(1,4)] (B2k w.cT h4) (by simp) (by simp) (by simp) (by simp) (st_ ?_);refine B1 hm (ι:= {i:Nat // i<=w.cC.length}) (λi=> [(1, .cA, .ptr 32 0 0 1),(2, .cA, .ptr 48 0 0 1),(24, .cA, .sl 1 0 w.cC.length w.cC.length),(25, .cA,sI w.cC.length),(26, .cA,sI i.1)])
  (λi=>(32, .box [sI w.cM.dZ,sI w.cM.eG.X,sI w.cM.eG.Y,sI w.cM.eL,sI w.cM.eD,
 .sl 1 0 w.cC.length w.cC.length, .sl 2 0 w.cD.length w.cD.length, .sl 3 0 w.cB.length w.cB.length, .sl 4 0 w.cT.length w.cT.length,sI w.dJ,sI w.eK])::(48, .box World.zero)::D7j w 1 2 3 4) (λi=>w.cC.length-i.1) ⟨0,by omega⟩ ?_ ?_
 ·refine B0 [] [] ?_;simp only[go_sem,go_sem_proc]
 ·rintro⟨i,hi⟩;refine st_ ?_;split
  ·rename_i hlt;have hlt:i<w.cC.length:=by omega
   refine⟨⟨by omega,by omega⟩,?_⟩;refine A0 (A4t (w.cC.getD i dF_) (h5 _ (B8 _ hlt))) rfl (st_ ?_);refine⟨(by(repeat' (with_reducible apply And.intro)) <;> omega),?_⟩;refine A8 ⟨i+1,by omega⟩ (by show w.cC.length-(i+1)<w.cC.length-i;omega) (B0 [] [] ?_);refine st_ ?_;exact⟨(by rw[IntKind.wrap_i64];omega),A2y (w.cC.getD i dF_) hlt rfl (C8e _ _ _ hlt)⟩
  ·rename_i hge;obtain rfl:i=w.cC.length:=by omega
   refine B1 hm (ι:= {i:Nat // i<=w.cB.length}) (λi=> [(1, .cA, .ptr 32 0 0 1),(2, .cA, .ptr 48 0 0 1),(39, .cA, .sl 3 0 w.cB.length w.cB.length),(40, .cA,sI w.cB.length),(41, .cA,sI i.1)])
    (λi=>(32, .box [sI w.cM.dZ,sI w.cM.eG.X,sI w.cM.eG.Y,sI w.cM.eL,sI w.cM.eD,
 .sl 1 0 w.cC.length w.cC.length, .sl 2 0 w.cD.length w.cD.length, .sl 3 0 w.cB.length w.cB.length, .sl 4 0 w.cT.length w.cT.length,sI w.dJ,sI w.eK])::(48, .box World.zero)::D7j w 1 2 3 4) (λi=>w.cB.length-i.1) ⟨0,by omega⟩ ?_ ?_
   ·refine B0 [] [] ?_;simp only[go_sem,go_sem_proc]
   ·rintro⟨i,hi⟩;refine st_ ?_;split
    ·rename_i hlt;have hlt:i<w.cB.length:=by omega
     refine⟨⟨by omega,by omega⟩,?_⟩;refine A0 (B3a (w.cB.getD i dF_).cL (h6 _ (B8 _ hlt))) rfl (st_ ?_);refine⟨(by(repeat' (with_reducible apply And.intro)) <;> omega),?_⟩;refine A8 ⟨i+1,by omega⟩ (by show w.cB.length-(i+1)<w.cB.length-i;omega) (B0 [] [] ?_);refine st_ ?_;exact⟨(by rw[IntKind.wrap_i64];omega),A2y (w.cB.getD i dF_) hlt rfl (C8e _ _ _ hlt)⟩
    ·rename_i hge;obtain rfl:i=w.cB.length:=by omega
     refine B6 [.eQ] [] [] ?_;simp only[go_sem,go_sem_proc]
end Go.Abs
end
noncomputable section
namespace Go.Abs
open Go.Proofs
open Api
def G0q(b:cF):Prop:=b.cK.length<=3/\ ∀f∈b.cK,f.Shape.cJ.length<=8
def G66(w:Api.World):Prop:=(w.cC.length<=7/\w.cD.length<=6/\w.cB.length<=40/\w.cT.length<=40/\w.cM.eL<=16)/\(∀b∈w.cC,G0q b)/\ ∀c∈w.cB,c.cL.cP.length<=4
noncomputable instance(b:cF):Decidable (G0q b):=Classical.propDecidable _
noncomputable instance(w:Api.World):Decidable (G66 w):=Classical.propDecidable _
theorem F2t(w:Api.World)(x:B3):(wkR w x).2.length<=x.cC.length:=by
 have h:=C7b x.cC w.cC.length;unfold wkR;split
 ·have:=(F2s w (A1b w x)).2
  unfold A1b at this⊢;omega
 ·exact Nat.zero_le _
theorem G4l {P:Program}{L:List (Nat×List Bool)}{f:FuncId}{fn:Func}{ac:ACode}{args rs:List AV}{O O':List (Nat×A7)}(N:Nat)(rvs:List (Nat×Option (Option Nat)))(hm:P.follows .mixedOrders=true)(hL:okE P L=true)(hf:P.funcs[f]? =some fn)(hc:N9 P L fn.ntmps (fn.body.getD .skip)=some ac)
  (h: @Wpi P N (O.map (·.1)) ac (B4w N (O.map (·.1)) rvs rs O') (A0s args O))(hp:A5t rs= .tup rs:=by rfl)(hN:fn.ntmps=N:=by kernel_rfl)(hts:A6a P fn.results.toList=some rvs:=by kernel_rfl)(hb:fn.body=some (fn.body.getD .skip):=by kernel_rfl)(hname:(fn.name != "runtime.NumGoroutine")=true:=by kernel_rfl)(hlt:(rvs.all λp=>p.1.blt N)=true:=by decide)(hl:(args.length.ble N)=true:=by kernel_rfl):
  D5 P f args O (.tup rs) O':=hp▸C0f (ac:= .mark ac) hm hf hb hname (have e:F9 P fn.ntmps (fn.body.getD .skip)=some ac.strip:=cs2 hL hc;e) hN hts hlt hl h
def bg0(w:Api.World):Api.World:= {w with cB:=B1w w}
def bW1(x:B3)(s:Api.World×List Api.Event):Api.World×List Api.Event:=(U8 s.1 (wkR s.1 x).1,s.2++(wkR s.1 x).2.map evP)
def bWn(w:Api.World)(n:Nat):Api.World×List Api.Event:=itr (λk s=>bW1 ((D6 (bg0 w)).getD k dF_) s) n (bg0 w,B9h w.cB (B1w w))
def D1n(w:Api.World):Api.World:=(bWn w (D6 (bg0 w)).length).1
def D7w(w:Api.World):List Api.Event:=(bWn w (D6 (bg0 w)).length).2
theorem D7v(w:Api.World)(n:Nat):bWn w (n+1)=bW1 ((D6 (bg0 w)).getD n dF_) (bWn w n):=H6 ..
theorem E2h(w:Api.World): ∀n,A2i (bWn w n).1.cC w.cC/\(bWn w n).1=U8 (bg0 w) (bWn w n).1.cC
 |0=>⟨A2i.refl _,rfl⟩
 |n+1=>by
  obtain⟨h1,h2⟩:=E2h w n;rw[D7v];generalize bWn w n=s at h1 h2⊢;refine⟨(F9s _ _).trans h1,?_⟩;have key: ∀B,U8 s.1 B=U8 (bg0 w) B:=λB=>by rw[h2];rfl
  exact key _
theorem D3s {w:Api.World}(hw:Wsm w)(hf:Wfw w):Wsm (bg0 w):=by obtain⟨h1,h2,h3,h4,h5,h6⟩:=hw;obtain⟨g1,g2⟩:=D4p w hf;exact⟨h1,h2,Nat.le_trans g1 (by decide),h4,h5,λc hc=>Nat.le_trans (g2 c hc) (by decide)⟩
theorem E2i {w:Api.World}(hw:Wsm w)(hf:Wfw w): ∀n,n<=(D6 (bg0 w)).length->(bWn w n).2.length<=2000000+60*n
 |0,_=>by
  have h1:=B3p (B1w w) w.cB 1
  have h2:=B3p w.cB (B1w w) 2
  have h3:=(D4p w hf).1
  have h4:=hw.2.2.1
  have h1':=B3p w.cB (B1w w) 1
  have h2':=B3p (B1w w) w.cB 2;show(B9h _ _).length<=_;unfold B9h;rw[List.length_append];omega
 |n+1,hn=>by
  have ih:=E2i hw hf n (by omega);rw[D7v];have hx:=B7i (D3s hw hf) _ (B8 (l:=D6 (bg0 w)) (i:=n) dF_ (by omega))
  have h3:(bg0 w).cC.length<=60:=hf.1
  have h4:=F2t (bWn w n).1 ((D6 (bg0 w)).getD n dF_);show((bWn w n).2++List.map evP _).length<=_;rw[List.length_append,List.length_map];omega
theorem E5u(w:Api.World)(hw:Wsm w)(hf:Wfw w)(hv:B9 w=0):cA_ E6q [.agg w.enc] [] (.tup [.agg (D1n w).enc,A4 3 B3.enc dF_ (D6 (bg0 w)), .sl 1 0 (D7w w).length (D7w w).length]) [(1, .arr 5 (A9 Api.Event.enc dF_ (D7w w)))]:=by
 have hV:=I6 w hw;rw[hv]at hV;have hg:=D3s hw hf
 have hbl:=B4d (bg0 w)
 have hbs:= @B7i (bg0 w) hg
 have hf1:(bg0 w).cC.length<=60:=hf.1
 have hU:=D8z w hw hf
 have hul:=(D4p w hf).1
 have hE:=D8y w.cB (B1w w) hw.2.2.1 (by omega);refine G4l 49 [(2,some (some 11)),(3,none),(4,none)] hm A6 Tryz.func50 rfl ?_;refine B2 [(1, .cA, .ptr 32 0 0 1),(2, .cA, .ptr 48 0 0 1)] [(48, .box World.zero),(32, .box w.enc)] (C7 hm ?_) ?_
 ·simp only[go_sem,go_sem_proc,World.zero];refine B0 [] [] ?_;simp only[go_sem,go_sem_proc]
 refine B2 [(1, .cA, .ptr 32 0 0 1),(2, .cA, .ptr 48 0 0 1)] [(48, .box World.zero),(32, .box w.enc)] (C7 hm ?_) ?_
 ·refine st_ ?_;refine A0 hV rfl ?_;simp only[go_sem,go_sem_proc,World.zero];refine B0 [] [] ?_;simp only[go_sem,go_sem_proc]
 refine B2 [(1, .cA, .ptr 32 0 0 1),(2, .cA, .ptr 48 0 0 1),(5, .cA,A4 7 cY.enc dF_ w.cB)] [(48, .box World.zero),(32, .box w.enc)] (C7 hm ?_) ?_
 ·simp only[go_sem,go_sem_proc,World.zero];refine B0 [] [] ?_;simp only[go_sem,go_sem_proc]
 refine B2 [(1, .cA, .ptr 32 0 0 1),(2, .cA, .ptr 48 0 0 1),(5, .cA,A4 7 cY.enc dF_ w.cB)] [(48, .box World.zero),(32, .box w.enc)] (C7 hm ?_) ?_
 ·refine st_ ?_;refine A0 (B1a w hw) rfl ?_;simp only[go_sem,go_sem_proc,World.zero];refine B0 [] [] ?_;simp only[go_sem,go_sem_proc]
 refine B2 [(1, .cA, .ptr 32 0 0 1),(2, .cA, .ptr 48 0 0 1),(5, .cA,A4 7 cY.enc dF_ w.cB)] [(48, .box World.zero),(32, .box (bg0 w).enc)] (C7 hm ?_) ?_
 ·refine st_ ?_;refine A0 hU rfl ?_;simp only[go_sem,go_sem_proc,World.zero,bg0];refine B0 [] [] ?_;simp only[go_sem,go_sem_proc]
 refine B2 [(1, .cA, .ptr 32 0 0 1),(2, .cA, .ptr 48 0 0 1),(6, .cA, .sl 6 0 (bWn w 0).2.length (bWn w 0).2.length)] [(48, .box World.zero),(32, .box (bWn w 0).1.enc),(6, .arr 5 (A9 Api.Event.enc dF_ (bWn w 0).2))] (C7 hm ?_) ?_
 ·rw[show bWn w 0=(bg0 w,B9h w.cB (B1w w))from rfl];simp only[go_sem,go_sem_proc,bg0];refine J2 ev_ K0 hE ?_;simp only[go_sem,go_sem_proc,World.zero];refine B0 [(6,432)] [] (st_ ?_);exact eE_
 refine B2 [(1, .cA, .ptr 32 0 0 1),(2, .cA, .ptr 48 0 0 1),(6, .cA, .sl 6 0 (bWn w 0).2.length (bWn w 0).2.length),(7, .cA,A4 3 B3.enc dF_ (D6 (bg0 w)))] [(48, .box World.zero),(32, .box (bWn w 0).1.enc),(6, .arr 5 (A9 Api.Event.enc dF_ (bWn w 0).2))] (C7 hm ?_) ?_
 ·rw[show bWn w 0=(bg0 w,B9h w.cB (B1w w))from rfl];refine st_ ?_;refine A0 (F2i (bg0 w) hg) rfl ?_;simp only[go_sem,go_sem_proc,World.zero];refine B0 [] [] ?_;simp only[go_sem,go_sem_proc]
 refine B2 [(1, .cA, .ptr 32 0 0 1),(2, .cA, .ptr 48 0 0 1),(6, .cA, .sl 6 0 (bWn w (D6 (bg0 w)).length).2.length (bWn w (D6 (bg0 w)).length).2.length),(7, .cA,A4 3 B3.enc dF_ (D6 (bg0 w)))] [(48, .box World.zero),(32, .box (bWn w (D6 (bg0 w)).length).1.enc),(6, .arr 5 (A9 Api.Event.enc dF_ (bWn w (D6 (bg0 w)).length).2))] (B2 [(1, .cA, .ptr 32 0 0 1),(2, .cA, .ptr 48 0 0 1),(6, .cA, .sl 6 0 (bWn w 0).2.length (bWn w 0).2.length),(7, .cA,A4 3 B3.enc dF_ (D6 (bg0 w))),(29, .cA,A4 3 B3.enc dF_ (D6 (bg0 w))),(30, .cA,sI ((D6 (bg0 w)).length)),(31, .cA,sI (0:Nat))] [(48, .box World.zero),(32, .box (bWn w 0).1.enc),(6, .arr 5 (A9 Api.Event.enc dF_ (bWn w 0).2))] (C7 hm ?_) (Y7 ?_)) ?_
 ·generalize bWn w 0=s;refine st_ ?_;refine B0 [] [] ?_;simp only[go_sem,go_sem_proc]
 ·refine B1 hm (ι:= {k:Nat // k<=(D6 (bg0 w)).length}) (λk=> [(1, .cA, .ptr 32 0 0 1),(2, .cA, .ptr 48 0 0 1),(6, .cA, .sl 6 0 (bWn w k.1).2.length (bWn w k.1).2.length),(7, .cA,A4 3 B3.enc dF_ (D6 (bg0 w))),(29, .cA,A4 3 B3.enc dF_ (D6 (bg0 w))),(30, .cA,sI ((D6 (bg0 w)).length)),(31, .cA,sI (k.1:Nat))]) (λk=> [(48, .box World.zero),(32, .box (bWn w k.1).1.enc),(6, .arr 5 (A9 Api.Event.enc dF_ (bWn w k.1).2))]) (λk=>(D6 (bg0 w)).length-k.1) ⟨0,Nat.zero_le _⟩ ?_ ?_
  ·refine B0 [] [] ?_;simp only[go_sem,go_sem_proc]
  ·rintro⟨k,hk⟩;dsimp only;have hn:=D7v w k
   have hl:=E2i hw hf k hk;obtain⟨hi1,hi2⟩:=E2h w k;have hfin:(D6 (bg0 w)).length<=k->bWn w k=bWn w (D6 (bg0 w)).length:=λh=>by rw[show k=(D6 (bg0 w)).length by omega]
   generalize bWn w k=s at hn hl hi1 hi2 hfin⊢;by_cases hlt:k<(D6 (bg0 w)).length;rotate_left
   ·refine st_ ?_;rw[if_neg (by omega),<-hfin (by omega)];refine B0 [] [] ?_;simp only[go_sem,go_sem_proc]
   have hx:=hbs _ (B8 (l:=D6 (bg0 w)) (i:=k) dF_ hlt)
   have hsw:Wsm s.1:=by rw[hi2];exact B9c hg hi1
   have hux:=F2t s.1 ((D6 (bg0 w)).getD k dF_);refine st_ ?_;rw[if_pos (by omega)];generalize(D6 (bg0 w)).getD k dF_=x at hn hx hux⊢;refine⟨bE_,?_⟩;refine A0 (E5t s.1 x hsw hx.1) rfl ?_;simp only[go_sem,go_sem_proc,bW1]at hn⊢;have he:(List.map evP (wkR s.1 x).2).length<=60:=by rw[List.length_map];omega
   generalize List.map evP (wkR s.1 x).2=E at hn he⊢;refine⟨⟨by omega,by simp only[maxLen];omega⟩,?_⟩;refine A8 ⟨k+1,by omega⟩ (by show(D6 (bg0 w)).length-(k+1)<(D6 (bg0 w)).length-k;omega) ?_;simp only[hn];refine B0 [] [] (st_ ?_);exact eE_
 rw[show D1n w=(bWn w (D6 (bg0 w)).length).1 from rfl,show D7w w=(bWn w (D6 (bg0 w)).length).2 from rfl];generalize bWn w (D6 (bg0 w)).length=s;refine C7 hm (st_ ?_);refine B6 [.cA, .cA, .cA] [(1,6)] [] ?_;simp only[go_sem,go_sem_proc]
def G0g(r:B0s):List AV:= [.fn (.func B54) [] [.cW r.enc]]
attribute [go_sem] G0g
def sqC(w g:Api.World)(I:List B3)(e q:Nat):List AV:= [sB true,sI w.cM.dZ,sI w.cM.eG.X,sI w.cM.eG.Y,sI w.cM.eL,sI w.cM.eD,A4 20 cF.enc dF_ w.cC,A4 24 cG.enc dF_ w.cD,A4 7 cY.enc dF_ w.cB,A4 4 cR.enc dF_ w.cT,sI w.dJ,sI w.eK,sB true,sI g.cM.dZ,sI g.cM.eG.X,sI g.cM.eG.Y,sI g.cM.eL,sI g.cM.eD,A4 20 cF.enc dF_ g.cC,A4 24 cG.enc dF_ g.cD,A4 7 cY.enc dF_ g.cB,A4 4 cR.enc dF_ g.cT,sI g.dJ,sI g.eK,A4 3 B3.enc dF_ I, .sl 2 0 I.length I.length, .sl 3 0 e e, .sl 4 0 q q]
def sqO(w g:Api.World)(I:List B3)(E:List Api.Event)(q:List B0s):List (Nat×A7):= [(1, .box (sqC w g I E.length q.length)),(2, .arr 1 ⟨I.length,λ_=> [sB false]⟩),(3, .arr 5 (A9 Api.Event.enc dF_ E)),(4, .arr 1 (A9 G0g dF_ q))]
attribute [go_sem] sqC sqO
theorem C81(x:Api.Input)(h:cF.sm x.cF):cA_ E41 [.agg x.enc] [] (.agg x.enc) []:=by refine M3 8 [(2,some (some 49))] hm A6 Tryz.func52 rfl (st_ ?_);refine A0 (A4t x.cF h) rfl ?_;simp only[go_sem,go_sem_proc]
def PW(w:Api.World):Prop:=Wsm w/\Wfw w/\w.cD.length<=20000/\w.cB.length<=230400/\ ∀c∈w.cB,c.cL.cP.length<=2
theorem E4j(w:Api.World)(x:B3): ∀n,A2i (A7k w x n) w.cC
 |0=>A2i.refl _
 |n+1=>by
  have ih:=E4j w x n
  have hn:A7k w x (n+1)=_:=H6 ..;rw[show itr _ n w.cC=A7k w x n from rfl]at hn;rw[hn];split
  ·refine(C8b ?_).trans ih;rw[ih.2];have h:=(E9j w x x.cC.length ((J5 w x).getD n 0).toNat).1;rw[<-h];rfl
  ·exact ih
theorem G1p(c:cY)(rs:List Row)(base:Int):(cst c rs base).cL.cP.length=c.cL.cP.length:=E7o ..
theorem E9a(w:Api.World)(x:B3)(hw: ∀c∈w.cB,c.cL.cP.length<=2): ∀n,∀c∈B0k w x n,c.cL.cP.length<=2
 |0=>hw
 |n+1=>by
  have ih:=E9a w x hw n
  have hn:B0k w x (n+1)=_:=H6 ..;rw[show itr _ n w.cB=B0k w x n from rfl]at hn;rw[hn];intro c hc;rcases List.mem_or_eq_of_mem_set hc with hc |rfl
  ·exact ih c hc
  ·rw[G1p];by_cases h:(x.cB.getD n 0).toNat<w.cB.length
   ·exact hw _ (B8 dF_ h)
   ·have e:w.cB.getD (x.cB.getD n 0).toNat dF_=default:=by
     generalize(x.cB.getD n 0).toNat=k at h⊢;simp only[List.getD];rw[List.getElem?_eq_none (by omega)];rfl
    rw[e];exact Nat.zero_le _
theorem G3z {w:Api.World}(h:PW w)(x:B3):PW (D89 w x):=by
 unfold D89;split
 ·exact h
 split
 ·exact h
 obtain⟨h1,h2,h3,h4,h5⟩:=h;have hB:=E4j w x (J5 w x).length;obtain⟨g1,g2,g3,g4,g5,g6⟩:=B9c h1 hB;have hf:=C18 h2 hB
 have hc:=E9a w x h5 x.cB.length;exact⟨⟨g1,by show(B0l _ _ _).length<=_;rw[C8g];exact g2,by show(B0k _ _ _).length<=_;rw[C8f];exact g3,g4,g5,λc hcc=>Nat.le_trans (hc c hcc) (by decide)⟩,hf,by show(B0l _ _ _).length<=_;rw[C8g];exact h3,by show(B0k _ _ _).length<=_;rw[C8f];exact h4,hc⟩
def gN(g:Api.World)(I:List B3)(n:Nat):Api.World:=itr (λk s=>D89 s (I.getD k dF_)) n g
theorem F1w(g:Api.World)(I:List B3)(n:Nat):gN g I (n+1)=D89 (gN g I n) (I.getD n dF_):=H6 ..
theorem F24 {g:Api.World}(h:PW g)(I:List B3): ∀n,PW (gN g I n)
 |0=>h
 |n+1=>by rw[F1w];exact G3z (F24 h I n) _
def B6d(w:Api.World):Api.World×List Api.Event:=if B9 w=0 then(D8c w,E7y w)else(zW,[])
theorem F4s(w:Api.World)(hw:Wsm w)(hf:Wfw w):cA_ D9v [.agg w.enc] [] (.tup [.agg (B6d w).1.enc,A4 5 Api.Event.enc dF_ (B6d w).2]) []:=by
 unfold B6d;by_cases hv:B9 w=0
 ·rw[if_pos hv];exact F0x w hw hf hv
 ·rw[if_neg hv];refine S1 78 [(2,some (some 11)),(3,none)] hm A6 Tryz.func58 rfl (st_ ?_);refine A0 (I6 w hw) rfl (st_ ?_);rw[if_pos (by simpa using hv)];simp only[go_sem,go_sem_proc,zW];exact eE_
theorem G37 {w:Api.World}(hw:Wsm w)(hf:Wfw w):Wsm (B6d w).1/\Wfw (B6d w).1:=by
 unfold B6d;split
 ·obtain⟨hi1,hi2⟩:=B9w w (D6 w).length;have hW:=D8c.eq_1 w;unfold eW2 at hW;generalize eWn w (D6 w).length=s at hW hi1 hi2;have hsw:Wsm s.1:=by rw[hi2];exact B9c hw hi1
  have hsf:Wfw s.1:=by rw[hi2];exact C18 hf hi1
  have hbk:Wsm (bkW s.1)/\Wfw (bkW s.1):=by obtain⟨g1,g2,g3,g4,g5,g6⟩:=hsw;exact⟨⟨g1,Nat.le_trans (List.length_filter_le ..) g2,g3,g4,g5,g6⟩,hsf⟩
  generalize bkW s.1=V at hW hbk;dsimp only at hW;have hcf:A2i (V.cC.map I9) V.cC:=C8a (g:=I9) (λ_=>rfl) _
  have hU:Wsm (U8 V (V.cC.map I9)):=B9c hbk.1 hcf
  have hUf:Wfw (U8 V (V.cC.map I9)):=C18 hbk.2 hcf;generalize U8 V (V.cC.map I9)=U at hW hU hUf;dsimp only;rw[hW];obtain⟨g1,g2,g3,g4,g5,g6⟩:=hU;exact⟨⟨g1,g2,g3,Nat.le_trans (E27 U hUf) (by decide),g5,g6⟩,hUf⟩
 ·exact⟨A3j,by exact⟨Nat.zero_le _,λb hb=>by cases hb⟩⟩
theorem F41 {w:Api.World}(hw:Wsm w)(hf:Wfw w)(hj:w.cD.length<=20000):PW (D1n w):=by obtain⟨h1,h2⟩:=E2h w (D6 (bg0 w)).length;have hu:=D4p w hf;show PW (bWn w _).1;generalize bWn w (D6 (bg0 w)).length=s at h1 h2⊢;rw[h2];exact⟨B9c (D3s hw hf) h1,C18 (w:=bg0 w) hf h1,hj,hu.1,hu.2⟩
def X7(w:Api.World):Api.World×List Api.Event×Int:=
 if B9 w≠0 then(zW,[],18)else if w.eK=1099511627776 then(zW,[],21)else
 ((B6d (gN (D1n w) (D6 (bg0 w)) (D6 (bg0 w)).length)).1,D7w w++(B6d (gN (D1n w) (D6 (bg0 w)) (D6 (bg0 w)).length)).2,0)
theorem F7v {w:Api.World}(hw:Wsm w)(hf:Wfw w):(D7w w).length<=2100000:=by
 have h:=E2i hw hf (D6 (bg0 w)).length (Nat.le_refl _)
 have h2:=B4d (bg0 w)
 have h3:(bg0 w).cC.length<=60:=hf.1;show(bWn w _).2.length<=_;omega
theorem F8i {w:Api.World}(hw:Wsm w)(hf:Wfw w):(B6d w).2.length<=4000000:=by
 unfold B6d;split
 ·have h1:=D30 hw hf (D6 w).length (Nat.le_refl _)
  have h2:=B4d w
  have h3:=hf.1
  have h4:=E2j (w:=(eWn w (D6 w).length).1) (l:=(eWn w (D6 w).length).1.cD)
  have h5:(eWn w (D6 w).length).1.cD=w.cD:=by rw[(B9w w _).2];rfl
  have h6:=hw.2.1
  have l1:=B9v (ovL (eW2 w)) (λk=>w.cT.contains k) 3
  have l2:=B9v w.cT (λk=>(ovL (eW2 w)).contains k) 4
  have l3:(ovL (eW2 w)).length<=230400:=E27 _ (by
   obtain⟨hi1,hi2⟩:=B9w w (D6 w).length;have hsf:Wfw (eWn w (D6 w).length).1:=by rw[hi2];exact C18 hf hi1
   exact C18 (w:=bkW (eWn w (D6 w).length).1) hsf (C8a (g:=I9) (λ_=>rfl) _))
  have h7:=hw.2.2.2.1;show(E7y w).length<=_;unfold E7y C8c;simp only[List.flatten_cons,List.flatten_nil,List.append_nil,List.length_append];rw[h5]at h4⊢;omega
 ·exact Nat.zero_le _
theorem F2v {P:Program}{d:Nat}{m:Nat->Option A7}{f:FuncId}{avs:List AV}{Q:ContR}(v:AV)(hK: @Ri Q false ⟨some v,[]⟩): @B65 P d m f avs false Q:=⟨⟨some v,[]⟩,(λh=>by cases h),(λh=>absurd rfl h),hK⟩
theorem F0y(w:Api.World)(hw:Wsm w)(hf:Wfw w)(hj:w.cD.length<=20000):cA_ D51 [.agg w.enc, .sc (.slice none 0 0)] [] (.tup [.agg (X7 w).1.enc,A4 5 Api.Event.enc dF_ (X7 w).2.1,sI ((X7 w).2.2)]) []:=by
 have hV:=I6 w hw
 have z1:((0:Int) != 0)=false:=rfl
 have z2:decide ((0:Int)<0)=false:=rfl;unfold X7;by_cases hv:B9 w=0;rotate_left
 ·rw[if_pos hv];refine S1 71 [(4,some (some 11)),(5,none),(6,none)] hm A6 Tryz.func126 rfl (st_ ?_);refine A0 hV rfl (st_ ?_);rw[if_pos (by simpa using hv)];simp only[go_sem,go_sem_proc,zW]
  all_goals exact eE_
 rw[hv]at hV;rw[if_neg (by simpa using hv)];by_cases hF:w.eK=1099511627776
 ·rw[if_pos hF];refine S1 71 [(4,some (some 11)),(5,none),(6,none)] hm A6 Tryz.func126 rfl (st_ ?_);refine A0 hV rfl ?_;simp only[go_sem,go_sem_proc,z1];rw[if_pos (by simpa using hF)];simp only[go_sem,go_sem_proc,zW]
  all_goals exact eE_
 rw[if_neg hF];have hB:=E5u w hw hf hv
 have hpw:=F41 hw hf hj
 have hI:=λx hx=>(B7i (D3s hw hf) x hx).1
 have hbl:=B4d (bg0 w)
 have hf1:(bg0 w).cC.length<=60:=hf.1
 have hel:=F7v hw hf
 have hgn:=F24 hpw (D6 (bg0 w));generalize D1n w=g at hB hgn⊢;generalize D7w w=E at hB hel⊢;generalize D6 (bg0 w)=I at hB hgn hI hbl⊢;refine E0h 71 [(4,some (some 11)),(5,none),(6,none)] hm A6 Tryz.func126 rfl ?_;refine B2 [(1, .cA, .sc (.slice none 0 0)),(2, .cA, .ptr 48 0 0 1),(4, .cA, .ptr 80 0 0 1)] [(80, .box World.zero),(48, .box w.enc)] (C7 hm ?_) ?_
 ·simp only[go_sem,go_sem_proc,World.zero];exact B0 [] [] se_
 refine B2 [(1, .cA, .sc (.slice none 0 0)),(2, .cA, .ptr 48 0 0 1),(4, .cA, .ptr 80 0 0 1)] [(80, .box World.zero),(48, .box w.enc)] (C7 hm ?_) ?_
 ·refine st_ ?_;refine A0 hV rfl ?_;simp only[go_sem,go_sem_proc,z1];rw[if_neg (by simpa using hF)];exact B0 [] [] se_
 refine B2 [(1, .cA, .sc (.slice none 0 0)),(2, .cA, .ptr 48 0 0 1),(4, .cA, .ptr 80 0 0 1),(7, .cA,A4 3 B3.enc dF_ I),(8, .cA, .sl 3 0 E.length E.length)] [(80, .box World.zero),(48, .box g.enc),(3, .arr 5 (A9 Api.Event.enc dF_ E))] (C7 hm ?_) ?_
 ·refine st_ ?_;refine J2 ev_ K0 hB ?_;simp only[go_sem,go_sem_proc,World.zero];exact B0 [(3,384)] [] se_
 refine B2 [(1, .cA, .sc (.slice none 0 0)),(2, .cA, .ptr 48 0 0 1),(4, .cA, .ptr 80 0 0 1),(7, .cA,A4 3 B3.enc dF_ I),(8, .cA, .sl 3 0 E.length E.length)] [(80, .box World.zero),(48, .box g.enc),(3, .arr 5 (A9 Api.Event.enc dF_ E))] (C7 hm ?_) ?_
 ·simp only[go_sem,go_sem_proc,World.zero];simp only[z2,Bool.false_and];refine F2v (sB true) (st_ ?_);refine⟨by simp,by simp,?_⟩;rw[if_neg (by simp)];exact B0 [] [] se_
 refine B2 [(1, .cA, .sc (.slice none 0 0)),(2, .cA, .ptr 48 0 0 1),(4, .cA, .ptr 80 0 0 1),(7, .cA,A4 3 B3.enc dF_ I),(8, .cA, .sl 3 0 E.length E.length)] [(80, .box World.zero),(48, .box (gN g I I.length).enc),(3, .arr 5 (A9 Api.Event.enc dF_ E))] (B2 [(1, .cA, .sc (.slice none 0 0)),(2, .cA, .ptr 48 0 0 1),(4, .cA, .ptr 80 0 0 1),(7, .cA,A4 3 B3.enc dF_ I),(8, .cA, .sl 3 0 E.length E.length),(44, .cA,sI I.length),(45, .cA,sI (0:Nat))] [(80, .box World.zero),(48, .box (gN g I 0).enc),(3, .arr 5 (A9 Api.Event.enc dF_ E))] (C7 hm ?_) (Y7 ?_)) ?_
 ·rw[show gN g I 0=g from rfl];simp only[go_sem,go_sem_proc,World.zero];exact B0 [] [] se_
 ·refine B1 hm (ι:= {k:Nat // k<=I.length}) (λk=> [(1, .cA, .sc (.slice none 0 0)),(2, .cA, .ptr 48 0 0 1),(4, .cA, .ptr 80 0 0 1),(7, .cA,A4 3 B3.enc dF_ I),(8, .cA, .sl 3 0 E.length E.length),(44, .cA,sI I.length),(45, .cA,sI (k.1:Nat))]) (λk=> [(80, .box World.zero),(48, .box (gN g I k.1).enc),(3, .arr 5 (A9 Api.Event.enc dF_ E))]) (λk=>I.length-k.1) ⟨0,Nat.zero_le _⟩ ?_ ?_
  ·exact B0 [] [] se_
  ·rintro⟨k,hk⟩;dsimp only;have hn:=F1w g I k
   have hp:=hgn k
   have hfin:I.length<=k->gN g I k=gN g I I.length:=λh=>by rw[show k=I.length by omega]
   generalize gN g I k=a at hn hp hfin⊢;by_cases hlt:k<I.length;rotate_left
   ·refine st_ ?_;rw[if_neg (by omega),<-hfin (by omega)];exact B0 [] [] se_
   have hx:=hI _ (B8 (l:=I) (i:=k) dF_ hlt);refine st_ ?_;rw[if_pos (by omega)];generalize I.getD k dF_=x at hn hx⊢;refine⟨bE_,?_⟩;refine A0 (D3l a x hp.1 hx (λ_=>hp.2.2.2.2) hp.2.2.1 hp.2.2.2.1) rfl ?_;generalize D89 a x=b at hn;refine st_ ?_;refine A8 ⟨k+1,by omega⟩ (by show I.length-(k+1)<I.length-k;omega) ?_;simp only[hn];exact B0 [] [] se_
 have hp:=hgn I.length;generalize gN g I I.length=a at hp⊢;have hEn:=F4s a hp.1 hp.2.1
 have hev:=F8i hp.1 hp.2.1;generalize B6d a=v at hEn hev⊢;refine B2 [(1, .cA, .sc (.slice none 0 0)),(2, .cA, .ptr 48 0 0 1),(4, .cA, .ptr 80 0 0 1),(7, .cA,A4 3 B3.enc dF_ I),(8, .cA, .sl 3 0 E.length E.length),(10, .cA,A4 5 Api.Event.enc dF_ v.2)] [(80, .box World.zero),(48, .box v.1.enc),(3, .arr 5 (A9 Api.Event.enc dF_ E))] (C7 hm ?_) ?_
 ·refine st_ ?_;refine A0 hEn rfl ?_;simp only[go_sem,go_sem_proc,World.zero];exact B0 [] [] se_
 refine C7 hm ?_;simp only[go_sem,go_sem_proc,World.zero];refine⟨⟨by omega,by simp only[maxLen];omega⟩,?_⟩;exact⟨(List.length_append ..).symm,by rw[List.length_append];exact D0 _⟩
theorem E2z {S R:Type}{f:Nat->S->S ⊕ R}: ∀ {n:Nat} {s s':S},J8 f n s= .inl s'-> ∀i,i<n-> ∃a b,f i a= .inl b
 |0,_,_,_,i,hi=>absurd hi (Nat.not_lt_zero i)
 |n+1,s,s',h,i,hi=>by
  simp only[J8]at h;cases hk:J8 f n s with
  |inr r=>rw[hk]at h;cases h
  |inl a=>
   rw[hk]at h;rcases Nat.lt_succ_iff_lt_or_eq.1 hi with hl |rfl
   ·exact E2z hk i hl
   ·exact⟨a,s',h⟩
theorem E3p {w:Api.World}(hv:B9 w=0):w.cC.length<=32/\w.cD.length<=32/\w.cB.length<=8192/\w.cT.length<=8192/\Y9 w=true:=by
 unfold B9 at hv;dsimp only at hv;split at hv
 ·cases hv
 split at hv
 ·cases hv
 rename_i h1;split at hv
 ·cases hv
 split at hv
 ·cases hv
 rename_i h2;simp only[Bool.or_eq_true,decide_eq_true_eq,not_or,Int.not_lt]at h1;refine⟨by omega,by omega,by omega,by omega,by simpa using h2⟩
theorem E9k {w:Api.World}(hv:B9 w=0)(b:cF)(hb:b∈w.cC):W7 b=0:=by
 have h:=(E3p hv).2.2.2.2;unfold Y9 at h;obtain⟨i,hi,rfl⟩:=List.mem_iff_getElem.1 hb;have hg:w.cC.getD i dF_=w.cC[i]:=by simp only[List.getD,List.getElem?_eq_getElem hi,Option.getD_some]
 cases hk:J8 (M6 w) w.cC.length 0 with
 |inr r=>
  exfalso;have key: ∀n,∀r,J8 (M6 w) n 0= .inr r->r=false:=by
   intro n;induction n with
   |zero=>intro r h;cases h
   |succ n ih=>
    intro r h;simp only[J8]at h;cases hq:J8 (M6 w) n 0 with
    |inr q=>rw[hq]at h;cases h;exact ih _ hq
    |inl a=>rw[hq]at h;unfold M6 at h;dsimp only at h;split at h <;> cases h;rfl
  rw[hk]at h;have:=key _ _ hk;subst this;cases h
 |inl s=>
  obtain⟨a,c,h1⟩:=E2z hk i hi;unfold M6 at h1;dsimp only at h1;rw[hg]at h1;split at h1
  ·cases h1
  ·rename_i h2;simp only[Bool.or_eq_true,not_or]at h2;simpa using h2.1.1
theorem F2r {b:cF}(h:W7 b=0):b.cK.length<=4:=by
 unfold W7 at h;split at h
 ·cases h
 dsimp only at h;split at h
 ·cases h
 split at h
 ·cases h
 rename_i h2;omega
theorem E6a {w:Api.World}(hv:B9 w=0):Wfw w/\w.cD.length<=20000:=by have h:=E3p hv;refine⟨⟨by omega,λb hb=> ?_⟩,by omega⟩;have:=F2r (E9k hv b hb);omega
theorem E83(w:Api.World)(hw:Wsm w):cA_ D51 [.agg w.enc, .sc (.slice none 0 0)] [] (.tup [.agg (X7 w).1.enc,A4 5 Api.Event.enc dF_ (X7 w).2.1,sI ((X7 w).2.2)]) []:=by
 by_cases hv:B9 w=0
 ·exact F0y w hw (E6a hv).1 (E6a hv).2
 ·have hV:=I6 w hw
  unfold X7;rw[if_pos hv];refine S1 71 [(4,some (some 11)),(5,none),(6,none)] hm A6 Tryz.func126 rfl (st_ ?_);refine A0 hV rfl (st_ ?_);rw[if_pos (by simpa using hv)];simp only[go_sem,go_sem_proc,zW]
  all_goals exact eE_
theorem C1d {w:Api.World}(hw:Wsm w):Wsm (X7 w).1:=by
 unfold X7;split
 ·exact A3j
 split
 ·exact A3j
 rename_i h1 _;have hv:B9 w=0:=by simpa using h1
 have hp:=F24 (F41 hw (E6a hv).1 (E6a hv).2) (D6 (bg0 w)) (D6 (bg0 w)).length;exact(G37 hp.1 hp.2.1).1
open Classical in
def apR(w:Api.World)(x:Api.Input):Api.World×Int×Int:=if h:Wsm w/\cF.sm x.cF then Classical.choose (C80 w x h.1 h.2)else(zW,0,0)
theorem D7p {w:Api.World}{x:Api.Input}(hw:Wsm w)(hx:cF.sm x.cF):Wsm (apR w x).1/\(B9 w=0->A0l x=0->x.cS<7->F28 w x ((apR w x).1,(apR w x).2.2)/\(apR w x).2.1=0)/\cA_ C8o [.agg w.enc, .agg x.enc] [] (.tup [.agg (apR w x).1.enc,sI ((apR w x).2.1),sI ((apR w x).2.2)]) []:=by unfold apR;rw[dif_pos ⟨hw,hx⟩];exact Classical.choose_spec (C80 w x hw hx)
def apS(l:List Api.Input)(k:Nat)(s:Api.World×List Int):Api.World×List Int:=(if(apR s.1 (l.getD k dF_)).2.2=0 then(apR s.1 (l.getD k dF_)).1 else s.1,s.2++ [(apR s.1 (l.getD k dF_)).2.2])
def apN(l:List Api.Input)(w:Api.World)(n:Nat):Api.World×List Int:=itr (apS l) n (w,[])
theorem D7o(l:List Api.Input)(w:Api.World)(n:Nat):apN l w (n+1)=apS l n (apN l w n):=H6 ..
def A5r(l:List Api.Input):Prop:=l.length<=4096/\ ∀x∈l,cF.sm x.cF
theorem D97 {l:List Api.Input}{w:Api.World}(hw:Wsm w)(hl:A5r l): ∀n,n<=l.length->Wsm (apN l w n).1/\(apN l w n).2.length=n
 |0,_=>⟨hw,rfl⟩
 |n+1,h=>by
  obtain⟨h1,h2⟩:=D97 hw hl n (by omega);have hx:=hl.2 _ (B8 (l:=l) (i:=n) dF_ (by omega))
  have hr:=(D7p h1 hx).1;rw[D7o];refine⟨?_,?_⟩
  ·show Wsm (if _ then _ else _);split
   ·exact hr
   ·exact h1
  ·show((apN l w n).2++ [_]).length=_;rw[List.length_append,h2];rfl
theorem D81(w:Api.World)(l:List Api.Input)(hw:Wsm w)(hl:A5r l)(hv:B9 w=0):cA_ D6y [.agg w.enc,A4 49 Api.Input.enc dF_ l] [] (.tup [.agg (apN l w l.length).1.enc,A4 1 C6 0 (apN l w l.length).2]) []:=by
 have hV:=I6 w hw
 have z1:((0:Int) != 0)=false:=rfl;rw[hv]at hV;have hln:=hl.1;refine E0h 54 [(4,some (some 11)),(5,none)] hm A6 Tryz.func125 rfl ?_;refine B2 [(1, .cA,A4 49 Api.Input.enc dF_ l),(4, .cA, .ptr 80 0 0 1),(2, .cA, .ptr 48 0 0 1)] [(80, .box World.zero),(48, .box w.enc)] (C7 hm ?_) ?_
 ·simp only[go_sem,go_sem_proc,World.zero];exact B0 [] [] se_
 refine B2 [(1, .cA,A4 49 Api.Input.enc dF_ l),(4, .cA, .ptr 80 0 0 1),(2, .cA, .ptr 48 0 0 1),(6, .cA, .sl 6 0 0 0)] [(80, .box World.zero),(48, .box w.enc),(6, .arr 1 (A9 C6 0 ([]:List Int)))] (C7 hm ?_) ?_
 ·simp only[go_sem,go_sem_proc,World.zero];refine⟨⟨by omega,by omega,by omega,by omega⟩,?_⟩;exact B0 [(6,256)] [] se_
 refine B2 [(1, .cA,A4 49 Api.Input.enc dF_ l),(4, .cA, .ptr 80 0 0 1),(6, .cA, .sl 6 0 ([]:List Int).length ([]:List Int).length),(2, .cA, .ptr 48 0 0 1)] [(80, .box World.zero),(48, .box w.enc),(6, .arr 1 (A9 C6 0 ([]:List Int)))] (C7 hm ?_) ?_
 ·simp only[go_sem,go_sem_proc,World.zero];refine A0 hV rfl ?_;simp only[go_sem,go_sem_proc,z1];exact B0 [] [] se_
 refine B2 [(1, .cA,A4 49 Api.Input.enc dF_ l),(4, .cA, .ptr 80 0 0 1),(6, .cA, .sl 6 0 ([]:List Int).length ([]:List Int).length),(7, .cA, .ptr 128 0 0 1)] [(80, .box World.zero),(128, .box w.enc),(6, .arr 1 (A9 C6 0 ([]:List Int)))] (C7 hm ?_) ?_
 ·simp only[go_sem,go_sem_proc,World.zero];refine A0 (B1a w hw) rfl (st_ ?_);exact B0 [] [] se_
 refine B2 [(1, .cA,A4 49 Api.Input.enc dF_ l),(4, .cA, .ptr 80 0 0 1),(6, .cA, .sl 6 0 (apN l w l.length).2.length (apN l w l.length).2.length),(7, .cA, .ptr 128 0 0 1)] [(80, .box World.zero),(128, .box (apN l w l.length).1.enc),(6, .arr 1 (A9 C6 0 (apN l w l.length).2))] (B2 [(1, .cA,A4 49 Api.Input.enc dF_ l),(4, .cA, .ptr 80 0 0 1),(6, .cA, .sl 6 0 (apN l w 0).2.length (apN l w 0).2.length),(7, .cA, .ptr 128 0 0 1),(31, .cA,A4 49 Api.Input.enc dF_ l),(32, .cA,sI l.length),(33, .cA,sI (0:Nat))] [(80, .box World.zero),(128, .box (apN l w 0).1.enc),(6, .arr 1 (A9 C6 0 (apN l w 0).2))] (C7 hm ?_) (Y7 ?_)) ?_
 ·rw[show apN l w 0=(w,[])from rfl];simp only[go_sem,go_sem_proc,World.zero];exact B0 [] [] se_
 ·refine B1 hm (ι:= {k:Nat // k<=l.length}) (λk=> [(1, .cA,A4 49 Api.Input.enc dF_ l),(4, .cA, .ptr 80 0 0 1),(6, .cA, .sl 6 0 (apN l w k.1).2.length (apN l w k.1).2.length),(7, .cA, .ptr 128 0 0 1),(31, .cA,A4 49 Api.Input.enc dF_ l),(32, .cA,sI l.length),(33, .cA,sI (k.1:Nat))]) (λk=> [(80, .box World.zero),(128, .box (apN l w k.1).1.enc),(6, .arr 1 (A9 C6 0 (apN l w k.1).2))]) (λk=>l.length-k.1) ⟨0,Nat.zero_le _⟩ ?_ ?_
  ·exact B0 [] [] se_
  ·rintro⟨k,hk⟩;dsimp only;have hn:=D7o l w k
   have hp:=D97 hw hl k hk
   have hfin:l.length<=k->apN l w k=apN l w l.length:=λh=>by rw[show k=l.length by omega]
   generalize apN l w k=a at hn hp hfin⊢;by_cases hlt:k<l.length;rotate_left
   ·refine st_ ?_;rw[if_neg (by omega),<-hfin (by omega)];exact B0 [] [] se_
   have hx:=hl.2 _ (B8 (l:=l) (i:=k) dF_ hlt);unfold apS at hn;have hA:=(D7p hp.1 hx).2.2;generalize apR a.1 (l.getD k dF_)=r at hn hA;refine st_ ?_;rw[if_pos (by omega)];generalize l.getD k dF_=x at hn hx hA⊢;refine⟨bE_,?_⟩;refine A0 hA rfl (st_ ?_);by_cases hc:r.2.2=0
   ·rw[if_pos hc]at hn;rw[if_pos (by simpa using hc)];refine⟨⟨by omega,by simp only[maxLen];omega⟩,?_⟩;refine A8 ⟨k+1,by omega⟩ (by show l.length-(k+1)<l.length-k;omega) ?_;simp only[hn];refine B0 [] [] (st_ ?_)
    (repeat' (with_reducible apply And.intro)) <;> first |exact A1g r.2.2 rfl rfl |(rw[List.length_append];rfl) |exact eE_
   ·rw[if_neg hc]at hn;rw[if_neg (by simpa using hc)];refine⟨⟨by omega,by simp only[maxLen];omega⟩,?_⟩;refine A8 ⟨k+1,by omega⟩ (by show l.length-(k+1)<l.length-k;omega) ?_;simp only[hn];refine B0 [] [] (st_ ?_)
    (repeat' (with_reducible apply And.intro)) <;> first |exact A1g r.2.2 rfl rfl |(rw[List.length_append];rfl) |exact eE_
 generalize apN l w l.length=a;refine C7 hm ?_;simp only[go_sem,go_sem_proc,World.zero]
 all_goals exact eE_
def V1(w:Api.World)(l:List Api.Input):Api.World×List Api.Event×Int:=if B9 w≠0 then(zW,[],18)else X7 (apN l w l.length).1
theorem B9x {w:Api.World}(hw:Wsm w){l:List Api.Input}(hl:A5r l):Wsm (V1 w l).1:=by
 unfold V1;split
 ·exact A3j
 ·exact C1d (D97 hw hl _ (Nat.le_refl _)).1
theorem B09(w:Api.World)(l:List Api.Input)(hw:Wsm w)(hl:A5r l):cA_ E13 [.agg w.enc,A4 49 Api.Input.enc dF_ l, .sc (.slice none 0 0)] [] (.tup [.agg (V1 w l).1.enc,A4 5 Api.Event.enc dF_ (V1 w l).2.1,sI ((V1 w l).2.2)]) []:=by
 have hV:=I6 w hw
 have z1:((0:Int) != 0)=false:=rfl;unfold V1;by_cases hv:B9 w=0;rotate_left
 ·rw[if_pos hv];refine S1 27 [(6,some (some 11)),(7,none),(8,none)] hm A6 Tryz.func63 rfl (st_ ?_);refine A0 hV rfl (st_ ?_);rw[if_pos (by simpa using hv)];simp only[go_sem,go_sem_proc,zW]
  all_goals exact eE_
 rw[if_neg (by simpa using hv)];rw[hv]at hV;have hA:=D81 w l hw hl hv
 have hS:=E83 (apN l w l.length).1 (D97 hw hl _ (Nat.le_refl _)).1;generalize X7 (apN l w l.length).1=r at hS⊢;generalize apN l w l.length=a at hA hS;refine S1 27 [(6,some (some 11)),(7,none),(8,none)] hm A6 Tryz.func63 rfl (st_ ?_);refine A0 hV rfl ?_;simp only[go_sem,go_sem_proc,z1];refine A0 hA rfl (st_ ?_);exact A0 hS rfl se_
def B00(l:List Api.Input):List AV:= [A4 49 Api.Input.enc dF_ l]
def A1n(h:Int):List AV:= [.sc (.int .u64 h)]
attribute [go_sem] B00 A1n
structure Ses where
 ins:List (List Api.Input)
 hs:List Int
 re:Int
 ws:List Api.World
 win:Int
def rsC(s:Ses):List AV:= [.sl 2 0 s.ins.length s.ins.length, .sl 3 0 s.hs.length s.hs.length,sI s.re, .sl 4 0 s.ws.length s.ws.length,sI s.win]
def rsO(s:Ses):List (Nat×A7):= [(1, .box (rsC s)),(2, .arr 1 (A9 B00 dF_ s.ins)),(3, .arr 1 (A9 A1n 0 s.hs)),(4, .arr 11 (A9 World.enc dF_ s.ws))]
attribute [go_sem] rsC rsO
theorem B07 {s:Ses}:okO (rsO s):=by
 refine⟨by simp[rsO],λp hp cs ee j hj=> ?_⟩;simp only[rsO,List.mem_cons,List.not_mem_nil,or_false]at hp;rcases hp with rfl |rfl |rfl |rfl
 ·simp only[A7.box.injEq]at ee;subst ee;simp[rsC,F0,AV.ids]at hj;rcases hj with rfl |rfl |rfl <;> rfl
 all_goals cases ee
theorem V6 {P:Program}{m:Nat->Option A7}{f:FuncId}{avs:List AV}{b:Bool}{Q:ContR}{s s':Ses}{r:AV}(hc:D5 P f avs (rsO s) r (rsO s'))(ha: ∀a∈avs,∀i∈a.ids,(ofL (rsO s) i).isSome)(hK: @Ri Q b ⟨some r,rsO s'⟩)(hm: ∀p∈rsO s,m p.1=some p.2:=by simp[rsO,rsC,upd,go_sem,go_sem_proc])(hb:b=true:=by rfl): @A21 P m f avs b Q:=M1 hc B07 B07 (by simp[rsO]) hm (by simp[rsO]) ha hb hK
theorem A6m {s:Ses}(o:Nat): ∀a∈ [AV.ptr 1 0 o 1],∀i∈a.ids,(ofL (rsO s) i).isSome:=by intro a ha j hj;simp only[List.mem_cons,List.not_mem_nil,or_false]at ha;subst ha;simp[AV.ids]at hj;subst hj;rfl
theorem D3t {s:Ses}(o:Nat)(k:Int): ∀a∈ [AV.ptr 1 0 o 1,sI k],∀i∈a.ids,(ofL (rsO s) i).isSome:=by
 intro a ha j hj;simp only[List.mem_cons,List.not_mem_nil,or_false]at ha;rcases ha with rfl |rfl
 ·simp[AV.ids]at hj;subst hj;rfl
 ·simp[AV.ids]at hj
theorem A0y(s:Ses)(hw:s.win≠0):cA_ B8b [.ptr 1 0 0 1] (rsO s) (sB false) (rsO s):=by
 refine I7 hm A6 Tryz.func60 rfl rfl (st_ ?_);refine B6 [.cA] [] [] ?_;simp only[go_sem,go_sem_proc]
 all_goals simp[hw]
theorem A1h(s:Ses):cA_ B5o [.ptr 1 0 0 1] (rsO s) (sI s.ins.length) (rsO s):=by refine I7 hm A6 Tryz.func61 rfl rfl (st_ ?_);exact B6 [.cA] [] [] se_
theorem C2s(s:Ses)(k:Nat)(hk:k<s.ws.length)(hl:s.ws.length<=100000):cA_ A8u [.ptr 1 0 3 1,sI k] (rsO s) (.agg (s.ws.getD (s.ws.length-1-k) dF_).enc) (rsO s):=by
 refine C6y 19 [(4,some (some 11))] hm A6 Tryz.func64 rfl ?_;have e:IntKind.i64.wrap (IntKind.i64.wrap ((s.ws.length:Int)-1)-(k:Int))=((s.ws.length-1-k:Nat):Int):=by simp only[IntKind.wrap_i64];omega
 simp only[go_sem,go_sem_proc,e];refine⟨⟨by omega,by omega⟩,?_⟩;exact B6 [.eQ] [] [] se_
theorem E00(s:Ses)(hw:s.win≠0):cA_ A9y [.ptr 1 0 0 1] (rsO s) (sI s.ins.length) (rsO s):=by refine I7 hm A6 Tryz.func21 rfl rfl (st_ ?_);refine V6 (A0y s hw) (A6m 0) (st_ ?_);refine V6 (A1h s) (A6m 0) (st_ ?_);exact B6 [.cA] [] [] se_
theorem D8u(s:Ses)(hw:s.win≠0):cA_ A6l [.ptr 1 0 0 1] (rsO s) (sI s.re) (rsO s):=by refine I7 hm A6 Tryz.func30 rfl rfl (st_ ?_);refine V6 (A0y s hw) (A6m 0) (st_ ?_);exact B6 [.cA] [] [] se_
def C7j(s:Ses):Int:=max 0 ((s.ins.length:Int)-s.win)
theorem E01(s:Ses)(hw:s.win≠0)(hk:0<s.ws.length)(hl:s.ws.length<=100000)(hs:Wsm (s.ws.getD (s.ws.length-1) dF_)):cA_ A9z [.ptr 1 0 0 1] (rsO s) (.agg (s.ws.getD (s.ws.length-1) dF_).enc) (rsO s):=by have hL:=C2s s 0 hk hl;rw[Nat.sub_zero]at hL;generalize s.ws.getD (s.ws.length-1) dF_=x at hL hs⊢;refine C6y 11 [(2,some (some 11))] hm A6 Tryz.func23 rfl (st_ ?_);refine V6 (A0y s hw) (A6m 0) (st_ ?_);refine V6 (hL) (D3t 3 0) (st_ ?_);refine A0 (B1a x hs) rfl (st_ ?_);exact B6 [.eQ] [] [] se_
end Go.Abs
end
