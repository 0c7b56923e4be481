/- A part of the proof: contracts of functions that the statement reaches. -/
import Derived.Test.YtchcbiiammkhgaaGreatMT
set_option linter.unusedSimpArgs false
set_option linter.unusedVariables false
set_option linter.unnecessarySimpa false
set_option maxRecDepth 100000
set_option maxHeartbeats 2000000
noncomputable section
namespace Go.Abs
open Go.Proofs
open Api
def E5j(x:Bool):List AV:= [sB x]
def eO(b:List Int):List (Nat×A7):= [(1, .box [A4 1 A17 0 b])]
attribute [go_sem] E5j eO
theorem C19(b:List Int):okO (eO b):=by refine⟨g_,?_⟩;simp[go_sem]
theorem R6(b:List Int)(l:List Int)(hb:b.length+10*l.length<=400000000000):cA_ 339 [.ptr 1 0 0 1,A4 1 C8 0 l] (eO b) (.tup []) (eO (b++D9 l)):=by
 refine A3a hm A6 Tryz.func339 rfl rfl (sg_ ?_);refine B1 hm (ι:= {i:Nat // i<=l.length}) (λi=> [(0, .cA, .ptr 1 0 0 1),(6, .cA,A4 1 C8 0 l),(7, .cA,sI l.length),(8, .cA,sI i.1)])
  (λi=>eO (b++(l.take i.1).flatMap A95)) (λi=>l.length-i.1) ⟨0,o_⟩ ?_ ?_
 ·refine D8 [] [] ?_;simp only[go_sem]
  try rfl
 ·rintro⟨i,hi⟩;refine sg_ ?_;by_cases hlt:i<l.length
  ·rw[zc o_];have hl:=B0v (f:=A95) B5g (l.take i);rw[zt]at hl;have hs:=A7i (f:=A95) (l:=l) 0 hlt;refine⟨ok_,?_⟩;refine A0 (A7t (b++(l.take i).flatMap A95) (l.getD i 0) (by rw[zd];omega)) rfl (sg_ ?_);refine A8 ⟨i+1,o_⟩ (by show l.length-(i+1)<l.length-i;omega) (D8 [] [] ?_);simp only[hs,go_sem];exact wo_
  ·rw[zb o_];obtain rfl:i=l.length:=o_
   refine B8 [] [] [] ?_;simp only[zn,D9,go_sem]
theorem B1x(b:List Int)(l:List Bool)(hb:b.length+1*l.length<=400000000000):cA_ 453 [.ptr 1 0 0 1,A4 1 E5j false l] (eO b) (.tup []) (eO (b++W7 l)):=by
 refine A3a hm A6 Tryz.func453 rfl rfl (sg_ ?_);refine B1 hm (ι:= {i:Nat // i<=l.length}) (λi=> [(0, .cA, .ptr 1 0 0 1),(6, .cA,A4 1 E5j false l),(7, .cA,sI l.length),(8, .cA,sI i.1)])
  (λi=>eO (b++(l.take i.1).flatMap C23)) (λi=>l.length-i.1) ⟨0,o_⟩ ?_ ?_
 ·refine D8 [] [] ?_;simp only[go_sem]
  try rfl
 ·rintro⟨i,hi⟩;refine sg_ ?_;by_cases hlt:i<l.length
  ·rw[zc o_];have hl:=B0v (f:=C23) (λx=>Nat.le_of_eq (D6b x)) (l.take i);rw[zt]at hl;have hs:=A7i (f:=C23) (l:=l) false hlt;refine⟨ok_,?_⟩;refine A0 (C7b (b++(l.take i).flatMap C23) (l.getD i false) (by rw[zd];omega)) rfl (sg_ ?_);refine A8 ⟨i+1,o_⟩ (by show l.length-(i+1)<l.length-i;omega) (D8 [] [] ?_);simp only[hs,go_sem];exact wo_
  ·rw[zb o_];obtain rfl:i=l.length:=o_
   refine B8 [] [] [] ?_;simp only[zn,W7,go_sem]
theorem A68(b:List Int)(l:List cI)(hb:b.length+20*l.length<=400000000000):cA_ 340 [.ptr 1 0 0 1,A4 2 cI.enc dF_ l] (eO b) (.tup []) (eO (b++N3 l)):=by
 refine A3a hm A6 Tryz.func340 rfl rfl (sg_ ?_);refine B1 hm (ι:= {i:Nat // i<=l.length}) (λi=> [(0, .cA, .ptr 1 0 0 1),(6, .cA,A4 2 cI.enc dF_ l),(7, .cA,sI l.length),(8, .cA,sI i.1)])
  (λi=>eO (b++(l.take i.1).flatMap C4w)) (λi=>l.length-i.1) ⟨0,o_⟩ ?_ ?_
 ·refine D8 [] [] ?_;simp only[go_sem]
  try rfl
 ·rintro⟨i,hi⟩;refine sg_ ?_;by_cases hlt:i<l.length
  ·rw[zc o_];have hl:=B0v (f:=C4w) E1l (l.take i);rw[zt]at hl;have hs:=A7i (f:=C4w) (l:=l) dF_ hlt;refine⟨ok_,?_⟩;refine A0 (C9f (b++(l.take i).flatMap C4w) (l.getD i dF_) (by rw[zd];omega)) rfl (sg_ ?_);refine A8 ⟨i+1,o_⟩ (by show l.length-(i+1)<l.length-i;omega) (D8 [] [] ?_);simp only[hs,go_sem];exact wo_
  ·rw[zb o_];obtain rfl:i=l.length:=o_
   refine B8 [] [] [] ?_;simp only[zn,N3,go_sem]
def B3y(k:cR):List Int:=D9 [k.cU,k.dM,k.cV,k.dJ]
theorem C3q(k:cR):(B3y k).length<=40:=K5 _
theorem D6y(b:List Int)(k:cR)(hb:b.length<=300000000000):cA_ 344 [.ptr 1 0 0 1, .agg k.enc] (eO b) (.tup []) (eO (b++B3y k)):=by refine A3a hm A6 Tryz.func344 rfl rfl (sg_ ?_);refine B5 [true,false] [] (R6 b [k.cU,k.dM,k.cV,k.dJ] (by simp only[zd,List.length_cons,List.length_nil];omega)) g_ g_ g_ g_ (sg_ ?_);refine⟨H1 (l:= [k.cU,k.dM,k.cV,k.dJ]) (λ_ _=>rfl) rfl rfl rfl,?_⟩;refine B8 [] [] [] ?_;simp only[B3y,go_sem]
def C04(x:cY):List Int:=(D9 [x.Shape.cS,x.Shape.eW,(x.Shape.cK.length:Int)])++(N3 x.Shape.cK)++(D9 [x.fS,x.eK,x.fC])++(W7 [x.fM])++(D9 [x.fR,x.fX,x.fW])
theorem F0g(x:cY):(C04 x).length<=100+20*x.Shape.cK.length:=by
 have q0:(D9 [x.Shape.cS,x.Shape.eW,(x.Shape.cK.length:Int)]).length<=30:=K5 _
 have q1:=A1i x.Shape.cK
 have q2:(D9 [x.fS,x.eK,x.fC]).length<=30:=K5 _
 have q3:(W7 [x.fM]).length<=1:=A4g _
 have q4:(D9 [x.fR,x.fX,x.fW]).length<=30:=K5 _;unfold C04;simp only[zd];omega
theorem D7t(b:List Int)(x:cY)(hb:b.length<=200000000000)(hx:x.Shape.cK.length<=1048576):cA_ 454 [.ptr 1 0 0 1, .agg x.enc] (eO b) (.tup []) (eO (b++C04 x)):=by
 have q0:(D9 [x.Shape.cS,x.Shape.eW,(x.Shape.cK.length:Int)]).length<=30:=K5 _
 have q1:=A1i x.Shape.cK
 have q2:(D9 [x.fS,x.eK,x.fC]).length<=30:=K5 _
 have q3:(W7 [x.fM]).length<=1:=A4g _
 have q4:(D9 [x.fR,x.fX,x.fW]).length<=30:=K5 _;refine A3a hm A6 Tryz.func454 rfl rfl (sg_ ?_);refine B5 [true,false] [] (R6 b [x.Shape.cS,x.Shape.eW,(x.Shape.cK.length:Int)] (by simp only[zd,List.length_cons,List.length_nil];omega)) g_ g_ g_ g_ (sg_ ?_);refine⟨H1 (l:= [x.Shape.cS,x.Shape.eW,(x.Shape.cK.length:Int)]) (λ_ _=>rfl) rfl rfl rfl,?_⟩;refine B5 [true,true] [] (A68 (b++D9 [x.Shape.cS,x.Shape.eW,(x.Shape.cK.length:Int)]) x.Shape.cK (by simp only[zd,List.length_cons,List.length_nil];omega)) g_ g_ g_ g_ (sg_ ?_);refine B5 [true,false] [] (R6 ((b++D9 [x.Shape.cS,x.Shape.eW,(x.Shape.cK.length:Int)])++N3 x.Shape.cK) [x.fS,x.eK,x.fC] (by simp only[zd,List.length_cons,List.length_nil];omega)) g_ g_ g_ g_ (sg_ ?_);refine⟨H1 (l:= [x.fS,x.eK,x.fC]) (λ_ _=>rfl) rfl rfl rfl,?_⟩;refine B5 [true,false] [] (B1x (((b++D9 [x.Shape.cS,x.Shape.eW,(x.Shape.cK.length:Int)])++N3 x.Shape.cK)++D9 [x.fS,x.eK,x.fC]) [x.fM] (by simp only[zd,List.length_cons,List.length_nil];omega)) g_ g_ g_ g_ (sg_ ?_);refine⟨H1 (l:= [x.fM]) (λ_ _=>rfl) rfl rfl rfl,?_⟩;refine B5 [true,false] [] (R6 ((((b++D9 [x.Shape.cS,x.Shape.eW,(x.Shape.cK.length:Int)])++N3 x.Shape.cK)++D9 [x.fS,x.eK,x.fC])++W7 [x.fM]) [x.fR,x.fX,x.fW] (by simp only[zd,List.length_cons,List.length_nil];omega)) g_ g_ g_ g_ (sg_ ?_);refine⟨H1 (l:= [x.fR,x.fX,x.fW]) (λ_ _=>rfl) rfl rfl rfl,?_⟩;refine B8 [] [] [] ?_;simp only[C04,go_sem]
theorem A6h {α:Type}{f:α->List Int}{c:Nat}: ∀ {l:List α},(∀a∈l,(f a).length<=c)->(l.flatMap f).length<=c*l.length
 | [],_=>by simp
 |a::l,h=>by
  have:=A6h (f:=f) (c:=c) (l:=l) λx hx=>h x (qf _ hx)
  have:=h a (qp ..);rw[yo,zd,List.length_cons,Nat.mul_add];omega
def D8j(x:cE):Prop:=x.cH.length<=64/\ ∀f∈x.cH,f.Shape.cK.length<=64
theorem E3n {x:cE}(h:D8j x): ∀f∈x.cH,(C04 f).length<=1400:=λf hf=>by have:=F0g f;have:=h.2 f hf;omega
def D4y(x:cE):List Int:=(D9 [x.ID,x.cS])++(N3 [x.cJ.dY])++(D9 [x.cJ.eT])++(N3 [x.dO])++(D9 [x.dA])++(N3 [x.fF])++(D9 [x.fG,x.eC,x.dX,x.eF])++(W7 [x.fH,x.eE,x.fD,x.eX])++(D9 [x.eM,(x.cH.length:Int)])
def B6x(x:cE):List Int:=D4y x++x.cH.flatMap C04
theorem D88(x:cE):(D4y x).length<=300:=by
 have q0:(D9 [x.ID,x.cS]).length<=20:=K5 _
 have q1:(N3 [x.cJ.dY]).length<=20:=A1i _
 have q2:(D9 [x.cJ.eT]).length<=10:=K5 _
 have q3:(N3 [x.dO]).length<=20:=A1i _
 have q4:(D9 [x.dA]).length<=10:=K5 _
 have q5:(N3 [x.fF]).length<=20:=A1i _
 have q6:(D9 [x.fG,x.eC,x.dX,x.eF]).length<=40:=K5 _
 have q7:(W7 [x.fH,x.eE,x.fD,x.eX]).length<=4:=A4g _
 have q8:(D9 [x.eM,(x.cH.length:Int)]).length<=20:=K5 _;unfold D4y;simp only[zd];omega
theorem D87 {x:cE}(h:D8j x):(B6x x).length<=90000:=by
 have h1:=D88 x
 have h2:=A6h (E3n h)
 have h3:=h.1;unfold B6x;rw[zd];omega
theorem E6f(b:List Int)(x:cE)(hb:b.length<=100000000000)(hx:D8j x):cA_ 341 [.ptr 1 0 0 1, .agg x.enc] (eO b) (.tup []) (eO (b++B6x x)):=by
 have q0:(D9 [x.ID,x.cS]).length<=20:=K5 _
 have q1:(N3 [x.cJ.dY]).length<=20:=A1i _
 have q2:(D9 [x.cJ.eT]).length<=10:=K5 _
 have q3:(N3 [x.dO]).length<=20:=A1i _
 have q4:(D9 [x.dA]).length<=10:=K5 _
 have q5:(N3 [x.fF]).length<=20:=A1i _
 have q6:(D9 [x.fG,x.eC,x.dX,x.eF]).length<=40:=K5 _
 have q7:(W7 [x.fH,x.eE,x.fD,x.eX]).length<=4:=A4g _
 have q8:(D9 [x.eM,(x.cH.length:Int)]).length<=20:=K5 _
 have hh:=D88 x
 have hx1:=hx.1;refine A3a hm A6 Tryz.func341 rfl rfl (sg_ ?_);refine B5 [true,false] [] (R6 b [x.ID,x.cS] (by simp only[zd,List.length_cons,List.length_nil];omega)) g_ g_ g_ g_ (sg_ ?_);refine⟨H1 (l:= [x.ID,x.cS]) (λ_ _=>rfl) rfl rfl rfl,?_⟩;refine B5 [true,false] [] (A68 (b++D9 [x.ID,x.cS]) [x.cJ.dY] (by simp only[zd,List.length_cons,List.length_nil];omega)) g_ g_ g_ g_ (sg_ ?_);refine⟨H1 (l:= [x.cJ.dY]) (λ_ _=>rfl) rfl rfl rfl,?_⟩;refine B5 [true,false] [] (R6 ((b++D9 [x.ID,x.cS])++N3 [x.cJ.dY]) [x.cJ.eT] (by simp only[zd,List.length_cons,List.length_nil];omega)) g_ g_ g_ g_ (sg_ ?_);refine⟨H1 (l:= [x.cJ.eT]) (λ_ _=>rfl) rfl rfl rfl,?_⟩;refine B5 [true,false] [] (A68 (((b++D9 [x.ID,x.cS])++N3 [x.cJ.dY])++D9 [x.cJ.eT]) [x.dO] (by simp only[zd,List.length_cons,List.length_nil];omega)) g_ g_ g_ g_ (sg_ ?_);refine⟨H1 (l:= [x.dO]) (λ_ _=>rfl) rfl rfl rfl,?_⟩;refine B5 [true,false] [] (R6 ((((b++D9 [x.ID,x.cS])++N3 [x.cJ.dY])++D9 [x.cJ.eT])++N3 [x.dO]) [x.dA] (by simp only[zd,List.length_cons,List.length_nil];omega)) g_ g_ g_ g_ (sg_ ?_);refine⟨H1 (l:= [x.dA]) (λ_ _=>rfl) rfl rfl rfl,?_⟩;refine B5 [true,false] [] (A68 (((((b++D9 [x.ID,x.cS])++N3 [x.cJ.dY])++D9 [x.cJ.eT])++N3 [x.dO])++D9 [x.dA]) [x.fF] (by simp only[zd,List.length_cons,List.length_nil];omega)) g_ g_ g_ g_ (sg_ ?_);refine⟨H1 (l:= [x.fF]) (λ_ _=>rfl) rfl rfl rfl,?_⟩;refine B5 [true,false] [] (R6 ((((((b++D9 [x.ID,x.cS])++N3 [x.cJ.dY])++D9 [x.cJ.eT])++N3 [x.dO])++D9 [x.dA])++N3 [x.fF]) [x.fG,x.eC,x.dX,x.eF] (by simp only[zd,List.length_cons,List.length_nil];omega)) g_ g_ g_ g_ (sg_ ?_);refine⟨H1 (l:= [x.fG,x.eC,x.dX,x.eF]) (λ_ _=>rfl) rfl rfl rfl,?_⟩;refine B5 [true,false] [] (B1x (((((((b++D9 [x.ID,x.cS])++N3 [x.cJ.dY])++D9 [x.cJ.eT])++N3 [x.dO])++D9 [x.dA])++N3 [x.fF])++D9 [x.fG,x.eC,x.dX,x.eF]) [x.fH,x.eE,x.fD,x.eX] (by simp only[zd,List.length_cons,List.length_nil];omega)) g_ g_ g_ g_ (sg_ ?_);refine⟨H1 (l:= [x.fH,x.eE,x.fD,x.eX]) (λ_ _=>rfl) rfl rfl rfl,?_⟩;refine B5 [true,false] [] (R6 ((((((((b++D9 [x.ID,x.cS])++N3 [x.cJ.dY])++D9 [x.cJ.eT])++N3 [x.dO])++D9 [x.dA])++N3 [x.fF])++D9 [x.fG,x.eC,x.dX,x.eF])++W7 [x.fH,x.eE,x.fD,x.eX]) [x.eM,(x.cH.length:Int)] (by simp only[zd,List.length_cons,List.length_nil];omega)) g_ g_ g_ g_ (sg_ ?_);refine⟨H1 (l:= [x.eM,(x.cH.length:Int)]) (λ_ _=>rfl) rfl rfl rfl,?_⟩;unfold B6x;refine B1 hm (ι:= {i:Nat // i<=x.cH.length}) (λi=> [(0, .cA, .ptr 1 0 0 1),(71, .cA,A4 10 cY.enc dF_ x.cH),(72, .cA,sI x.cH.length),(73, .cA,sI i.1)])
  (λi=>eO (b++(D4y x++(x.cH.take i.1).flatMap C04))) (λi=>x.cH.length-i.1) ⟨0,o_⟩ ?_ ?_
 ·refine D8 [] [] ?_;simp only[D4y,go_sem]
  try trivial
 ·rintro⟨i,hi⟩;refine sg_ ?_;by_cases hlt:i<x.cH.length
  ·rw[zc o_];have hl:=A6h (f:=C04) (c:=1400) (l:=x.cH.take i) (λf hf=>E3n hx f (ym hf));rw[zt]at hl;have hs:=A7i (f:=C04) (l:=x.cH) dF_ hlt;refine⟨ok_,?_⟩;refine P8 (D7t (b++(D4y x++(x.cH.take i).flatMap C04)) (x.cH.getD i dF_) (by simp only[zd];omega) (by have:=hx.2 _ (B6 dF_ hlt);omega)) (C19 _) rfl g_ g_ rfl (sg_ ?_);refine A8 ⟨i+1,o_⟩ (by show x.cH.length-(i+1)<x.cH.length-i;omega) (D8 [] [] ?_);simp only[hs,go_sem];exact wo_
  ·rw[zb o_];obtain rfl:i=x.cH.length:=o_
   refine B8 [] [] [] ?_;simp only[zn,go_sem]
def B61(x:cF):List Int:=(D9 [x.ID,x.cS,x.cU,x.cV])++(N3 [x.dP,x.dL,x.eN])++(D9 [x.cW])++(W7 [x.dD])++(D9 [x.dQ,x.dS])++(W7 [x.dF])++(D9 [x.dN,x.dR,x.dB,x.dH])++(W7 [x.cZ])++(D9 [x.cP.I0,x.cP.I1,x.cP.I2,x.cP.I3])
theorem D95(x:cF):(B61 x).length<=300:=by
 have q0:(D9 [x.ID,x.cS,x.cU,x.cV]).length<=40:=K5 _
 have q1:(N3 [x.dP,x.dL,x.eN]).length<=60:=A1i _
 have q2:(D9 [x.cW]).length<=10:=K5 _
 have q3:(W7 [x.dD]).length<=1:=A4g _
 have q4:(D9 [x.dQ,x.dS]).length<=20:=K5 _
 have q5:(W7 [x.dF]).length<=1:=A4g _
 have q6:(D9 [x.dN,x.dR,x.dB,x.dH]).length<=40:=K5 _
 have q7:(W7 [x.cZ]).length<=1:=A4g _
 have q8:(D9 [x.cP.I0,x.cP.I1,x.cP.I2,x.cP.I3]).length<=40:=K5 _;unfold B61;simp only[zd];omega
theorem E2m(b:List Int)(x:cF)(hb:b.length<=200000000000):cA_ 342 [.ptr 1 0 0 1, .agg x.enc] (eO b) (.tup []) (eO (b++B61 x)):=by
 have q0:(D9 [x.ID,x.cS,x.cU,x.cV]).length<=40:=K5 _
 have q1:(N3 [x.dP,x.dL,x.eN]).length<=60:=A1i _
 have q2:(D9 [x.cW]).length<=10:=K5 _
 have q3:(W7 [x.dD]).length<=1:=A4g _
 have q4:(D9 [x.dQ,x.dS]).length<=20:=K5 _
 have q5:(W7 [x.dF]).length<=1:=A4g _
 have q6:(D9 [x.dN,x.dR,x.dB,x.dH]).length<=40:=K5 _
 have q7:(W7 [x.cZ]).length<=1:=A4g _;refine A3a hm A6 Tryz.func342 rfl rfl (sg_ ?_);refine B5 [true,false] [] (R6 b [x.ID,x.cS,x.cU,x.cV] (by simp only[zd,List.length_cons,List.length_nil];omega)) g_ g_ g_ g_ (sg_ ?_);refine⟨H1 (l:= [x.ID,x.cS,x.cU,x.cV]) (λ_ _=>rfl) rfl rfl rfl,?_⟩;refine B5 [true,false] [] (A68 (b++D9 [x.ID,x.cS,x.cU,x.cV]) [x.dP,x.dL,x.eN] (by simp only[zd,List.length_cons,List.length_nil];omega)) g_ g_ g_ g_ (sg_ ?_);refine⟨H1 (l:= [x.dP,x.dL,x.eN]) (λ_ _=>rfl) rfl rfl rfl,?_⟩;refine B5 [true,false] [] (R6 ((b++D9 [x.ID,x.cS,x.cU,x.cV])++N3 [x.dP,x.dL,x.eN]) [x.cW] (by simp only[zd,List.length_cons,List.length_nil];omega)) g_ g_ g_ g_ (sg_ ?_);refine⟨H1 (l:= [x.cW]) (λ_ _=>rfl) rfl rfl rfl,?_⟩;refine B5 [true,false] [] (B1x (((b++D9 [x.ID,x.cS,x.cU,x.cV])++N3 [x.dP,x.dL,x.eN])++D9 [x.cW]) [x.dD] (by simp only[zd,List.length_cons,List.length_nil];omega)) g_ g_ g_ g_ (sg_ ?_);refine⟨H1 (l:= [x.dD]) (λ_ _=>rfl) rfl rfl rfl,?_⟩;refine B5 [true,false] [] (R6 ((((b++D9 [x.ID,x.cS,x.cU,x.cV])++N3 [x.dP,x.dL,x.eN])++D9 [x.cW])++W7 [x.dD]) [x.dQ,x.dS] (by simp only[zd,List.length_cons,List.length_nil];omega)) g_ g_ g_ g_ (sg_ ?_);refine⟨H1 (l:= [x.dQ,x.dS]) (λ_ _=>rfl) rfl rfl rfl,?_⟩;refine B5 [true,false] [] (B1x (((((b++D9 [x.ID,x.cS,x.cU,x.cV])++N3 [x.dP,x.dL,x.eN])++D9 [x.cW])++W7 [x.dD])++D9 [x.dQ,x.dS]) [x.dF] (by simp only[zd,List.length_cons,List.length_nil];omega)) g_ g_ g_ g_ (sg_ ?_);refine⟨H1 (l:= [x.dF]) (λ_ _=>rfl) rfl rfl rfl,?_⟩;refine B5 [true,false] [] (R6 ((((((b++D9 [x.ID,x.cS,x.cU,x.cV])++N3 [x.dP,x.dL,x.eN])++D9 [x.cW])++W7 [x.dD])++D9 [x.dQ,x.dS])++W7 [x.dF]) [x.dN,x.dR,x.dB,x.dH] (by simp only[zd,List.length_cons,List.length_nil];omega)) g_ g_ g_ g_ (sg_ ?_);refine⟨H1 (l:= [x.dN,x.dR,x.dB,x.dH]) (λ_ _=>rfl) rfl rfl rfl,?_⟩;refine B5 [true,false] [] (B1x (((((((b++D9 [x.ID,x.cS,x.cU,x.cV])++N3 [x.dP,x.dL,x.eN])++D9 [x.cW])++W7 [x.dD])++D9 [x.dQ,x.dS])++W7 [x.dF])++D9 [x.dN,x.dR,x.dB,x.dH]) [x.cZ] (by simp only[zd,List.length_cons,List.length_nil];omega)) g_ g_ g_ g_ (sg_ ?_);refine⟨H1 (l:= [x.cZ]) (λ_ _=>rfl) rfl rfl rfl,?_⟩;refine B5 [true,false] [] (R6 ((((((((b++D9 [x.ID,x.cS,x.cU,x.cV])++N3 [x.dP,x.dL,x.eN])++D9 [x.cW])++W7 [x.dD])++D9 [x.dQ,x.dS])++W7 [x.dF])++D9 [x.dN,x.dR,x.dB,x.dH])++W7 [x.cZ]) [x.cP.I0,x.cP.I1,x.cP.I2,x.cP.I3] (by simp only[zd,List.length_cons,List.length_nil];omega)) g_ g_ g_ g_ (sg_ ?_);refine⟨⟨rfl,rfl,λi hi=> ?_⟩,?_⟩
 ·match i,hi with
  |0,_=>exact I5 _
  |1,_=>exact I5 _
  |2,_=>exact I5 _
  |3,_=>exact I5 _
 refine B8 [] [] [] ?_;simp only[B61,go_sem]
def ptB(p:cN):List Int:=(N3 [p.eU])++(D9 [p.eZ,p.ID,p.eL,p.eS])
theorem E36(p:cN):(ptB p).length<=60:=by
 have q0:(N3 [p.eU]).length<=20:=A1i _
 have q1:(D9 [p.eZ,p.ID,p.eL,p.eS]).length<=40:=K5 _;unfold ptB;simp only[zd];omega
def D06(x:cX):List Int:=B3y x.dU++(N3 [x.cL.dG])++(D9 [(x.cL.cQ.length:Int)])
def B49(x:cX):List Int:=D06 x++x.cL.cQ.flatMap ptB
theorem D9h(x:cX):(D06 x).length<=70:=by
 have q0:=C3q x.dU
 have q1:(N3 [x.cL.dG]).length<=20:=A1i _
 have q2:(D9 [(x.cL.cQ.length:Int)]).length<=10:=K5 _;unfold D06;simp only[zd];omega
theorem E96(x:cX):(B49 x).length<=70+60*x.cL.cQ.length:=by
 have h1:=D9h x
 have h2:=B0v (f:=ptB) E36 x.cL.cQ;unfold B49;rw[zd];omega
theorem D7s(b:List Int)(x:cX)(hb:b.length<=100000000000)(hx:x.cL.cQ.length<=1048576):cA_ 343 [.ptr 1 0 0 1, .agg x.enc] (eO b) (.tup []) (eO (b++B49 x)):=by
 have q0:=C3q x.dU
 have q1:(N3 [x.cL.dG]).length<=20:=A1i _
 have q2:(D9 [(x.cL.cQ.length:Int)]).length<=10:=K5 _
 have hh:=D9h x;refine A3a hm A6 Tryz.func343 rfl rfl (sg_ ?_);refine P8 (D6y b x.dU o_) (C19 _) rfl g_ g_ rfl (sg_ ?_);refine B5 [true,false] [] (A68 (b++B3y x.dU) [x.cL.dG] (by simp only[zd,List.length_cons,List.length_nil];omega)) g_ g_ g_ g_ (sg_ ?_);refine⟨H1 (l:= [x.cL.dG]) (λ_ _=>rfl) rfl rfl rfl,?_⟩;refine B5 [true,false] [] (R6 ((b++B3y x.dU)++N3 [x.cL.dG]) [(x.cL.cQ.length:Int)] (by simp only[zd,List.length_cons,List.length_nil];omega)) g_ g_ g_ g_ (sg_ ?_);refine⟨H1 (l:= [(x.cL.cQ.length:Int)]) (λ_ _=>rfl) rfl rfl rfl,?_⟩;unfold B49;refine B1 hm (ι:= {i:Nat // i<=x.cL.cQ.length}) (λi=> [(0, .cA, .ptr 1 0 0 1),(25, .cA,A4 6 cN.enc dF_ x.cL.cQ),(26, .cA,sI x.cL.cQ.length),(27, .cA,sI i.1)])
  (λi=>eO (b++(D06 x++(x.cL.cQ.take i.1).flatMap ptB))) (λi=>x.cL.cQ.length-i.1) ⟨0,o_⟩ ?_ ?_
 ·refine D8 [] [] ?_;simp only[D06,go_sem]
  try trivial
 ·rintro⟨i,hi⟩;refine sg_ ?_;by_cases hlt:i<x.cL.cQ.length
  ·rw[zc o_];have hl:=A6h (f:=ptB) (c:=60) (l:=x.cL.cQ.take i) (λf _=>E36 f);rw[zt]at hl;have hs:=A7i (f:=ptB) (l:=x.cL.cQ) dF_ hlt;refine⟨ok_,?_⟩;have q0:(N3 [(x.cL.cQ.getD i dF_).eU]).length<=20:=A1i _
   have q1:(D9 [(x.cL.cQ.getD i dF_).eZ,(x.cL.cQ.getD i dF_).ID,(x.cL.cQ.getD i dF_).eL,(x.cL.cQ.getD i dF_).eS]).length<=40:=K5 _;refine B5 [true,false] [] (A68 (b++(D06 x++(x.cL.cQ.take i).flatMap ptB)) [(x.cL.cQ.getD i dF_).eU] (by simp only[zd,List.length_cons,List.length_nil];omega)) g_ g_ g_ g_ (sg_ ?_);refine⟨H1 (l:= [(x.cL.cQ.getD i dF_).eU]) (λ_ _=>rfl) rfl rfl rfl,?_⟩;refine B5 [true,false] [] (R6 ((b++(D06 x++(x.cL.cQ.take i).flatMap ptB))++N3 [(x.cL.cQ.getD i dF_).eU]) [(x.cL.cQ.getD i dF_).eZ,(x.cL.cQ.getD i dF_).ID,(x.cL.cQ.getD i dF_).eL,(x.cL.cQ.getD i dF_).eS] (by simp only[zd,List.length_cons,List.length_nil];omega)) g_ g_ g_ g_ (sg_ ?_);refine⟨H1 (l:= [(x.cL.cQ.getD i dF_).eZ,(x.cL.cQ.getD i dF_).ID,(x.cL.cQ.getD i dF_).eL,(x.cL.cQ.getD i dF_).eS]) (λ_ _=>rfl) rfl rfl rfl,?_⟩;refine A8 ⟨i+1,o_⟩ (by show x.cL.cQ.length-(i+1)<x.cL.cQ.length-i;omega) (D8 [] [] ?_);simp only[hs,ptB,go_sem];exact wo_
  ·rw[zb o_];obtain rfl:i=x.cL.cQ.length:=o_
   refine B8 [] [] [] ?_;simp only[zn,go_sem]
theorem C51(b:BitVec 32):IntKind.u32.wrap (b.toNat:Int)=b.toNat:=by rw[IntKind.wrap_u32];have:=b.isLt;omega
theorem B94(b:BitVec 32):BitVec.ofInt 32 (b.toNat:Int)=b:=by apply yM;have:=b.isLt;rw[yu];omega
theorem E42(n:Int):BitVec.ofInt 32 (IntKind.u32.wrap n)=BitVec.ofInt 32 n:=by
 apply yM;rw[IntKind.wrap_u32,yu,yu];show(n%4294967296%4294967296).toNat=(n%4294967296).toNat
 omega
theorem F29(b:BitVec 32):(b &&& BitVec.ofInt 32 1).toNat=b.toNat%2:=by rw[BitVec.toNat_and,show(BitVec.ofInt 32 1).toNat=1 from rfl,Nat.and_one_is_mod]
theorem F3b(b:BitVec 32)(k:Nat):((b.toNat:Int)).fdiv (2^k)=((b >>> k).toNat:Int):=by
 rw[BitVec.toNat_ushiftRight,Nat.shiftRight_eq_div_pow,qP _ (Int.pow_nonneg o_)]
 norm_cast
theorem D9b(b:BitVec 32):((b.toNat:Int)).fdiv (2^min 1 32)=((b >>> 1).toNat:Int):=F3b b 1
theorem F12(n:Nat)(h:n<2):IntKind.u32.wrap (n:Int)=n:=by rw[IntKind.wrap_u32];omega
theorem E3c(d:BitVec 32):(IntKind.u32.wrap (((BitVec.ofInt 32 (d.toNat:Int)) &&& BitVec.ofInt 32 1).toNat:Int)==1)=decide (d.toNat%2=1):=by rw[B94,F29,F12 _ (yF _ (by decide)),qz,qc,zk];omega
def E5f(c:BitVec 32):BitVec 32:=if c.toNat%2=1 then(c >>> 1) ^^^ BitVec.ofInt 32 2197175160 else c >>> 1
def D04(c:BitVec 32):Nat->BitVec 32
 |0=>c
 |k+1=>E5f (D04 c k)
theorem F58(d:BitVec 32):IntKind.u32.wrap (((BitVec.ofInt 32 ((d.toNat:Int).fdiv (2^min 1 32))) ^^^ BitVec.ofInt 32 2197175160).toNat:Int)=(d >>> 1 ^^^ BitVec.ofInt 32 2197175160).toNat:=by rw[D9b,B94,C51]
theorem C9e(c:BitVec 32):cA_ 525 [.sc (.int .u32 c.toNat)] [] (.sc (.int .u32 (D04 c 8).toNat)) []:=by
 refine en1 hm A6 Tryz.func525 rfl rfl (sg_ ?_);refine B1 hm (ι:= {k:Nat // k<=8}) (λk=> [(0, .cA, .sc (.int .u32 (D04 c k.1).toNat)),(4, .cA,sI k.1)])
  (λ_=> []) (λk=>8-k.1) ⟨0,o_⟩ ?_ ?_
 ·refine D8 [] [] (sg_ ?_);rfl
 ·rintro⟨k,hk⟩;have hS:D04 c (k+1)=E5f (D04 c k):=rfl;refine sg_ ?_;by_cases hlt:k<8
  ·rw[zc o_];generalize D04 c k=d at*;refine⟨o_,?_⟩;split
   ·rename_i ho;have ho:d.toNat%2=1:=yc ((E3c d).symm.trans ho)
    have hS2:E5f d=(d >>> 1) ^^^ BitVec.ofInt 32 2197175160:=zc ho;refine A8 ⟨k+1,o_⟩ (by show 8-(k+1)<8-k;omega) (D8 [] [] ?_);simp only[hS,hS2,go_sem];exact⟨F58 d,wo_⟩
   ·rename_i ho;have ho: ¬d.toNat%2=1:=λh=>ho ((E3c d).trans (zT h))
    have hS2:E5f d=d >>> 1:=zb ho;refine A8 ⟨k+1,o_⟩ (by show 8-(k+1)<8-k;omega) (D8 [] [] ?_);simp only[hS,hS2,go_sem];exact⟨D9b d,wo_⟩
  ·rw[zb o_];obtain rfl:k=8:=o_
   rfl
def F6a(c:BitVec 32)(x:Int):BitVec 32:=D04 (c ^^^ BitVec.ofInt 32 x) 8
def D05(l:List Int):BitVec 32:=l.foldl F6a (BitVec.ofInt 32 4294967295)
theorem E7d {l:List Int}{i:Nat}(h:i<l.length):D05 (l.take (i+1))=F6a (D05 (l.take i)) (l.getD i 0):=by unfold D05;rw[K9 0 h,qR];rfl
def E5e(l:List Int):BitVec 32:=D05 l ^^^ BitVec.ofInt 32 4294967295
theorem F3c(d:BitVec 32)(x:Int):IntKind.u32.wrap (((BitVec.ofInt 32 (d.toNat:Int)) ^^^ BitVec.ofInt 32 (IntKind.u32.wrap x)).toNat:Int)=(d ^^^ BitVec.ofInt 32 x).toNat:=by rw[B94,E42,C51]
theorem F3a(d:BitVec 32):IntKind.u32.wrap (((BitVec.ofInt 32 (if IntKind.u32.signed=true then -1 else IntKind.u32.max)) ^^^ BitVec.ofInt 32 (d.toNat:Int)).toNat:Int)=(d ^^^ BitVec.ofInt 32 4294967295).toNat:=by rw[show(if IntKind.u32.signed=true then(-1:Int)else IntKind.u32.max)=4294967295 from by decide,B94,C51,BitVec.xor_comm]
theorem C9d(l:List Int)(hl:l.length<=1000000000):cA_ 455 [A4 1 A17 0 l] [] (.sc (.int .u32 (E5e l).toNat)) []:=by
 refine en1 hm A6 Tryz.func455 rfl rfl (sg_ ?_);refine B1 hm (ι:= {i:Nat // i<=l.length}) (λi=> [(3, .cA, .sc (.int .u32 (D05 (l.take i.1)).toNat)),(6, .cA,A4 1 A17 0 l),(7, .cA,sI l.length),(8, .cA,sI i.1)])
  (λ_=> []) (λi=>l.length-i.1) ⟨0,o_⟩ ?_ ?_
 ·refine D8 [] [] (sg_ ?_);decide
 ·rintro⟨i,hi⟩;refine sg_ ?_;by_cases hlt:i<l.length
  ·rw[zc o_];have hs:=E7d hlt;generalize D05 (l.take i)=d at*;refine⟨ok_,?_⟩;have hU:=C9e (d ^^^ BitVec.ofInt 32 (l.getD i 0));rw[<-F3c]at hU;refine A0 hU rfl (sg_ ?_);refine A8 ⟨i+1,o_⟩ (by show l.length-(i+1)<l.length-i;omega) (D8 [] [] ?_);simp only[hs,go_sem];exact⟨rfl,wo_⟩
  ·rw[zb o_];obtain rfl:i=l.length:=o_
   simp only[zn,go_sem];exact F3a (D05 l)
theorem D9k {α:Type}{enc:α->List AV}{d:α}{l m l':List α}{z n n2:Nat}{g g2:Nat->List AV}(hn:n=l.length)(hg: ∀i,i<n->g i=enc (l.getD i d))(hn2:n2=m.length)(hg2: ∀i,i<n2->g2 i=enc (m.getD i d))(hl:l'=l++m):
  M9 (.dsl z (n+n2) (Sq.app ⟨n,g⟩ ⟨n2,g2⟩).g) (.dsl z l'.length (I9 enc d l')):=by
 subst hn hn2 hl;refine⟨rfl,p_,λi hi=> ?_⟩;show Z0 (if i<l.length then g i else g2 (i-l.length)) (I9 enc d (l++m) i);rw[B20,B5x];by_cases h:i<l.length
 ·rw[zc h,zc h,hg i h];exact I5 _
 ·rw[zb h,zb h,hg2 _ o_];exact I5 _
theorem c8(c k:Nat):IntKind.u8.wrap ((c:Int).fdiv (2^k))=((c / 2^k%256:Nat):Int):=by
 rw[qP _ (Int.pow_nonneg o_),IntKind.wrap_u8]
 norm_cast
theorem F9c(c:Nat):IntKind.u8.wrap (c:Int)=((c%256:Nat):Int):=by rw[IntKind.wrap_u8];omega
theorem F9d(c:Nat):IntKind.u8.wrap ((c:Int).fdiv (2^min 8 32))=((c / 256%256:Nat):Int):=c8 c 8
theorem F9e(c:Nat):IntKind.u8.wrap ((c:Int).fdiv (2^min 16 32))=((c / 65536%256:Nat):Int):=c8 c 16
theorem F9f(c:Nat):IntKind.u8.wrap ((c:Int).fdiv (2^min 24 32))=((c / 16777216%256:Nat):Int):=c8 c 24
def C27(c:Nat):List Int:= [((c%256:Nat):Int),((c / 256%256:Nat):Int),((c / 65536%256:Nat):Int),((c / 16777216%256:Nat):Int)]
def D4a(l:List Int):List Int:=l++C27 (E5e l).toNat
theorem D3v(l:List Int)(hl:l.length<=1000000000):cA_ 345 [A4 1 A17 0 l] [] (A4 1 A17 0 (D4a l)) []:=by
 refine en1 hm A6 Tryz.func345 rfl rfl (sg_ ?_);refine A0 (C9d l hl) rfl ?_;have ho:AV.offId 208 (.dsl 1 l.length (I9 A17 0 l))=true:=rfl;simp only[ho,go_sem];have hw:IntKind.i64.wrap ((l.length:Int)+4)=(l.length:Int)+4:=wo_;simp only[hw];refine⟨⟨o_,o_,o_,o_⟩,o_,o_,o_,⟨o_,(by simp only[maxLen];omega)⟩,?_⟩;have hs:D4a l=l++C27 (E5e l).toNat:=rfl;generalize(E5e l).toNat=c at*;simp only[F9c,F9d,F9e,F9f]
 first |refine⟨rfl,D9k (enc:=A17) (d:=0) (m:=C27 c) rfl (λi hi=> ?_) rfl (λi hi=> ?_) hs⟩ |refine D9k (enc:=A17) (d:=0) (m:=C27 c) rfl (λi hi=> ?_) rfl (λi hi=> ?_) hs
 ·show(if 0<=i/\i<min l.length l.length then _ else _)=_;rw[zc ⟨o_,o_⟩];rfl
 ·match i,hi with
  |0,_=>rfl
  |1,_=>rfl
  |2,_=>rfl
  |3,_=>rfl
def C2y(w:Api.World):Prop:=w.cC.length<=8192/\(∀b∈w.cC,D8j b)/\w.cD.length<=8192/\w.cB.length<=8192/\(∀c∈w.cB,c.cL.cQ.length<=8)/\w.cT.length<=8192
def C3e(w:Api.World):List Int:=D9 [w.cM.dZ]++N3 [w.cM.eD]++D9 [w.cM.eG,w.cM.eA,(w.cC.length:Int)]
def C3b(w:Api.World):List Int:=C3e w++w.cC.flatMap B6x++D9 [(w.cD.length:Int)]
def C3c(w:Api.World):List Int:=C3b w++w.cD.flatMap B61++D9 [(w.cB.length:Int)]
def C3d(w:Api.World):List Int:=C3c w++w.cB.flatMap B49++D9 [(w.cT.length:Int)]
def D1b(w:Api.World):List Int:=C3d w++w.cT.flatMap B3y++D9 [w.dK,w.eJ]
theorem D9p(w:Api.World):(C3e w).length<=60:=by
 have q0:(D9 [w.cM.dZ]).length<=10:=K5 _
 have q1:(N3 [w.cM.eD]).length<=20:=A1i _
 have q2:(D9 [w.cM.eG,w.cM.eA,(w.cC.length:Int)]).length<=30:=K5 _;unfold C3e;simp only[zd];omega
theorem E3j {w:Api.World}(h:C2y w): ∀c∈w.cB,(B49 c).length<=600:=λc hc=>by have:=E96 c;have:=h.2.2.2.2.1 c hc;omega
theorem D9m {w:Api.World}(h:C2y w):(C3b w).length<=737300000:=by
 have h1:=D9p w
 have h2:=A6h (f:=B6x) (c:=90000) (l:=w.cC) λb hb=>D87 (h.2.1 b hb)
 have h3:(D9 [(w.cD.length:Int)]).length<=10:=K5 _
 have:=h.1;unfold C3b;simp only[zd];omega
theorem D9n {w:Api.World}(h:C2y w):(C3c w).length<=739800000:=by
 have h1:=D9m h
 have h2:=A6h (f:=B61) (c:=300) (l:=w.cD) λb _=>D95 b
 have h3:(D9 [(w.cB.length:Int)]).length<=10:=K5 _
 have:=h.2.2.1;unfold C3c;simp only[zd];omega
theorem D9o {w:Api.World}(h:C2y w):(C3d w).length<=744800000:=by
 have h1:=D9n h
 have h2:=A6h (f:=B49) (c:=600) (l:=w.cB) (E3j h)
 have h3:(D9 [(w.cT.length:Int)]).length<=10:=K5 _
 have:=h.2.2.2.1;unfold C3d;simp only[zd];omega
theorem D9q {w:Api.World}(h:C2y w):(D1b w).length<=745200000:=by
 have h1:=D9o h
 have h2:=A6h (f:=B3y) (c:=40) (l:=w.cT) λb _=>C3q b
 have h3:(D9 [w.dK,w.eJ]).length<=20:=K5 _
 have:=h.2.2.2.2.2;unfold D1b;simp only[zd];omega
theorem E2l(l:List Int)(hb:10*l.length<=400000000000):cA_ 339 [.ptr 1 0 0 1,A4 1 C8 0 l] [(1, .box [.sc (.slice none 0 0)])] (.tup []) (eO (D9 l)):=by
 refine A3a hm A6 Tryz.func339 rfl rfl (sg_ ?_);refine B1 hm (ι:= {i:Nat // i<=l.length}) (λi=> [(0, .cA, .ptr 1 0 0 1),(6, .cA,A4 1 C8 0 l),(7, .cA,sI l.length),(8, .cA,sI i.1)])
  (λi=>eO ((l.take i.1).flatMap A95)) (λi=>l.length-i.1) ⟨0,o_⟩ ?_ ?_
 ·refine D8 [] [] (sg_ ?_);exact G5 rfl
 ·rintro⟨i,hi⟩;refine sg_ ?_;by_cases hlt:i<l.length
  ·rw[zc o_];have hl:=B0v (f:=A95) B5g (l.take i);rw[zt]at hl;have hs:=A7i (f:=A95) (l:=l) 0 hlt;refine⟨ok_,?_⟩;refine A0 (A7t ((l.take i).flatMap A95) (l.getD i 0) o_) rfl (sg_ ?_);refine A8 ⟨i+1,o_⟩ (by show l.length-(i+1)<l.length-i;omega) (D8 [] [] ?_);simp only[hs,go_sem];exact wo_
  ·rw[zb o_];obtain rfl:i=l.length:=o_
   refine B8 [] [] [] ?_;simp only[zn,D9,go_sem]
def D2m:Slots:= [(1, .cA, .ptr 32 0 0 1),(4, .cA, .ptr 1 0 0 1)]
attribute [go_sem] D2m
theorem B9v(w:Api.World)(hw:Wsm w)(hf:C2y w)(hv:B7 w=0):cA_ 215 [.agg w.enc] [] (.tup [A4 1 A17 0 (D4a (D1b w)),sI 0]) []:=by
 refine enT hm A6 Tryz.func215 rfl rfl (sg_ ?_);refine A0 (H8 w hw) rfl (sg_ ?_);rw[zb (by simp[hv])];refine B5 [true,false] [(1,288)] (E2l [w.cM.dZ] p_) g_ g_ g_ g_ (sg_ ?_);refine⟨H1 (l:= [w.cM.dZ]) (λ_ _=>rfl) rfl rfl rfl,?_⟩;have q0:(D9 [w.cM.dZ]).length<=10:=K5 _
 have q1:(N3 [w.cM.eD]).length<=20:=A1i _
 have m0:=D9p w
 have m1:=D9m hf
 have m2:=D9n hf
 have m3:=D9o hf
 have m4:=D9q hf;obtain⟨f1,f2,f3,f4,f5,f6⟩:=hf;refine B5 [true,false] [(1,288)] (A68 (D9 [w.cM.dZ]) [w.cM.eD] (by simp only[zd,List.length_cons,List.length_nil];omega)) g_ g_ g_ g_ (sg_ ?_);refine⟨H1 (l:= [w.cM.eD]) (λ_ _=>rfl) rfl rfl rfl,?_⟩;refine B5 [true,false] [(1,288)] (R6 (D9 [w.cM.dZ]++N3 [w.cM.eD]) [w.cM.eG,w.cM.eA,(w.cC.length:Int)] (by simp only[zd,List.length_cons,List.length_nil];omega)) g_ g_ g_ g_ (sg_ ?_);refine⟨H1 (l:= [w.cM.eG,w.cM.eA,(w.cC.length:Int)]) (λ_ _=>rfl) rfl rfl rfl,?_⟩;have eH:D9 [w.cM.dZ]++(N3 [w.cM.eD]++D9 [w.cM.eG,w.cM.eA,(w.cC.length:Int)])=C3e w:=by unfold C3e;rw[zx]
 refine B1 hm (ι:= {i:Nat // i<=w.cC.length}) (λi=>(D2m++ [(43, .cA,A4 20 cE.enc dF_ w.cC),(44, .cA,sI w.cC.length),(45, .cA,sI i.1)]))
  (λi=>(32, .box w.enc)::eO (C3e w++(w.cC.take i.1).flatMap B6x)) (λi=>w.cC.length-i.1) ⟨0,o_⟩ ?_ ?_
 ·refine D8 [(1,288)] [] ?_;simp only[eH,go_sem]
  try trivial
 ·rintro⟨i,hi⟩;refine sg_ ?_;have hl:=A6h (f:=B6x) (c:=90000) (l:=w.cC.take i) (λb hb=>D87 (f2 b (ym hb)));rw[zt]at hl;by_cases hlt:i<w.cC.length
  ·rw[zc o_];have hs:=A7i (f:=B6x) (l:=w.cC) dF_ hlt;refine⟨ok_,?_⟩;refine P8 (E6f (C3e w++(w.cC.take i).flatMap B6x) (w.cC.getD i dF_) (by simp only[zd];omega) (f2 _ (B6 dF_ hlt))) (C19 _) rfl g_ g_ rfl (sg_ ?_);refine A8 ⟨i+1,o_⟩ (by show w.cC.length-(i+1)<w.cC.length-i;omega) (D8 [] [] ?_);simp only[hs,go_sem];exact wo_
  ·rw[zb o_];obtain rfl:i=w.cC.length:=o_
   rw[zn]at hl;have e1:C3e w++(w.cC.flatMap B6x++D9 [(w.cD.length:Int)])=C3b w:=by unfold C3b;rw[zx]
   simp only[zn,go_sem];refine B5 [true,false] [] (R6 (C3e w++w.cC.flatMap B6x) [(w.cD.length:Int)] (by simp only[zd,List.length_cons,List.length_nil];omega)) g_ g_ g_ g_ (sg_ ?_);refine⟨H1 (l:= [(w.cD.length:Int)]) (λ_ _=>rfl) rfl rfl rfl,?_⟩;refine B1 hm (ι:= {i:Nat // i<=w.cD.length}) (λi=>(D2m++ [(60, .cA,A4 24 cF.enc dF_ w.cD),(61, .cA,sI w.cD.length),(62, .cA,sI i.1)]))
    (λi=>(32, .box w.enc)::eO (C3b w++(w.cD.take i.1).flatMap B61)) (λi=>w.cD.length-i.1) ⟨0,o_⟩ ?_ ?_
   ·refine D8 [] [] ?_;simp only[e1,go_sem]
    try trivial
   ·rintro⟨i,hi⟩;refine sg_ ?_;have hl:=A6h (f:=B61) (c:=300) (l:=w.cD.take i) (λb _=>D95 b);rw[zt]at hl;by_cases hlt:i<w.cD.length
    ·rw[zc o_];have hs:=A7i (f:=B61) (l:=w.cD) dF_ hlt;refine⟨ok_,?_⟩;refine P8 (E2m (C3b w++(w.cD.take i).flatMap B61) (w.cD.getD i dF_) (by simp only[zd];omega)) (C19 _) rfl g_ g_ rfl (sg_ ?_);refine A8 ⟨i+1,o_⟩ (by show w.cD.length-(i+1)<w.cD.length-i;omega) (D8 [] [] ?_);simp only[hs,go_sem];exact wo_
    ·rw[zb o_];obtain rfl:i=w.cD.length:=o_
     rw[zn]at hl;have e2:C3b w++(w.cD.flatMap B61++D9 [(w.cB.length:Int)])=C3c w:=by unfold C3c;rw[zx]
     simp only[zn,go_sem];refine B5 [true,false] [] (R6 (C3b w++w.cD.flatMap B61) [(w.cB.length:Int)] (by simp only[zd,List.length_cons,List.length_nil];omega)) g_ g_ g_ g_ (sg_ ?_);refine⟨H1 (l:= [(w.cB.length:Int)]) (λ_ _=>rfl) rfl rfl rfl,?_⟩;refine B1 hm (ι:= {i:Nat // i<=w.cB.length}) (λi=>(D2m++ [(77, .cA,A4 7 cX.enc dF_ w.cB),(78, .cA,sI w.cB.length),(79, .cA,sI i.1)]))
      (λi=>(32, .box w.enc)::eO (C3c w++(w.cB.take i.1).flatMap B49)) (λi=>w.cB.length-i.1) ⟨0,o_⟩ ?_ ?_
     ·refine D8 [] [] ?_;simp only[e2,go_sem]
      try trivial
     ·rintro⟨i,hi⟩;refine sg_ ?_;have hl:=A6h (f:=B49) (c:=600) (l:=w.cB.take i) (λc hc=>E3j ⟨f1,f2,f3,f4,f5,f6⟩ c (ym hc));rw[zt]at hl;by_cases hlt:i<w.cB.length
      ·rw[zc o_];have hs:=A7i (f:=B49) (l:=w.cB) dF_ hlt;refine⟨ok_,?_⟩;refine P8 (D7s (C3c w++(w.cB.take i).flatMap B49) (w.cB.getD i dF_) (by simp only[zd];omega) (by have:=f5 _ (B6 dF_ hlt);omega)) (C19 _) rfl g_ g_ rfl (sg_ ?_);refine A8 ⟨i+1,o_⟩ (by show w.cB.length-(i+1)<w.cB.length-i;omega) (D8 [] [] ?_);simp only[hs,go_sem];exact wo_
      ·rw[zb o_];obtain rfl:i=w.cB.length:=o_
       rw[zn]at hl;have e3:C3c w++(w.cB.flatMap B49++D9 [(w.cT.length:Int)])=C3d w:=by unfold C3d;rw[zx]
       simp only[zn,go_sem];refine B5 [true,false] [] (R6 (C3c w++w.cB.flatMap B49) [(w.cT.length:Int)] (by simp only[zd,List.length_cons,List.length_nil];omega)) g_ g_ g_ g_ (sg_ ?_);refine⟨H1 (l:= [(w.cT.length:Int)]) (λ_ _=>rfl) rfl rfl rfl,?_⟩;refine B1 hm (ι:= {i:Nat // i<=w.cT.length}) (λi=>(D2m++ [(94, .cA,A4 4 cR.enc dF_ w.cT),(95, .cA,sI w.cT.length),(96, .cA,sI i.1)]))
        (λi=>(32, .box w.enc)::eO (C3d w++(w.cT.take i.1).flatMap B3y)) (λi=>w.cT.length-i.1) ⟨0,o_⟩ ?_ ?_
       ·refine D8 [] [] ?_;simp only[e3,go_sem]
        try trivial
       ·rintro⟨i,hi⟩;refine sg_ ?_;have hl:=A6h (f:=B3y) (c:=40) (l:=w.cT.take i) (λb _=>C3q b);rw[zt]at hl;by_cases hlt:i<w.cT.length
        ·rw[zc o_];have hs:=A7i (f:=B3y) (l:=w.cT) dF_ hlt;refine⟨ok_,?_⟩;refine P8 (D6y (C3d w++(w.cT.take i).flatMap B3y) (w.cT.getD i dF_) (by simp only[zd];omega)) (C19 _) rfl g_ g_ rfl (sg_ ?_);refine A8 ⟨i+1,o_⟩ (by show w.cT.length-(i+1)<w.cT.length-i;omega) (D8 [] [] ?_);simp only[hs,go_sem];exact wo_
        ·rw[zb o_];obtain rfl:i=w.cT.length:=o_
         rw[zn]at hl;have e4:C3d w++(w.cT.flatMap B3y++D9 [w.dK,w.eJ])=D1b w:=by unfold D1b;rw[zx]
         simp only[zn,go_sem];refine B5 [true,false] [] (R6 (C3d w++w.cT.flatMap B3y) [w.dK,w.eJ] (by simp only[zd,List.length_cons,List.length_nil];omega)) g_ g_ g_ g_ (sg_ ?_);refine⟨H1 (l:= [w.dK,w.eJ]) (λ_ _=>rfl) rfl rfl rfl,?_⟩;simp only[e4,go_sem];refine A0 (D3v (D1b w) o_) rfl ?_;simp only[go_sem]
def D1a(w:Api.World):List Int:=if B7 w=0 then D4a (D1b w)else []
def F0a(w:Api.World):Int:=if B7 w=0 then 0 else 18
theorem C9o(w:Api.World)(hw:Wsm w)(hf:C2y w):cA_ 215 [.agg w.enc] [] (.tup [A4 1 A17 0 (D1a w),sI (F0a w)]) []:=by
 unfold D1a F0a;by_cases hv:B7 w=0
 ·rw[zc hv,zc hv];exact B9v w hw hf hv
 ·rw[zb hv,zb hv];refine enT hm A6 Tryz.func215 rfl rfl (sg_ ?_);refine A0 (H8 w hw) rfl (sg_ ?_);rw[zc (by simpa using hv)];exact G5 rfl
theorem F0b {w:Api.World}(hf:C2y w):(D1a w).length<=745200004:=by
 have:=D9q hf;unfold D1a;split
 ·unfold D4a;rw[zd];show _+4<=_;omega
 ·simp
theorem F10 {s:Shape}(h:F9 s=0):s.cK.length<=64:=by
 unfold F9 at h;split at h
 ·cases h
 dsimp only at h;split at h
 ·cases h
 rename_i h1;have h2:A0o s=true:=by simpa using h1
 unfold A0o at h2;split at h2
 ·have:(s.cK.length:Int)=1:=by simpa using h2
  omega
 split at h2
 ·have:(s.cK.length:Int)=2:=by simpa using h2
  omega
 ·simp only[zi,zk]at h2;omega
theorem F1z {b:cE}(h:W9 b=0)(f:cY)(hf:f∈b.cH):F9 f.Shape=0:=by
 unfold W9 at h;split at h
 ·cases h
 dsimp only at h;split at h
 ·cases h
 split at h
 ·cases h
 obtain⟨s',h1⟩: ∃s',I8 (X0 b) b.cH.length ()= .inl s':=by
  cases hk:I8 (X0 b) b.cH.length ()with
  |inl a=>exact⟨a,rfl⟩
  |inr r=>
   exfalso;rw[hk]at h;have key: ∀n r,I8 (X0 b) n ()= .inr r->r=13:=by
    intro n;induction n with
    |zero=>intro r h;cases h
    |succ n ih=>
     intro r h;simp only[I8]at h;cases hq:I8 (X0 b) n ()with
     |inr q=>rw[hq]at h;cases h;exact ih _ hq
     |inl a=>rw[hq]at h;unfold X0 at h;dsimp only at h;split at h <;> cases h;rfl
   have:=key _ _ hk;subst this;cases h
 obtain⟨i,hi,rfl⟩:=List.mem_iff_getElem.1 hf;have hg:b.cH.getD i dF_=b.cH[i]:=by simp only[List.getD,zg hi,Option.getD_some]
 obtain⟨a,c,h2⟩:=C16 h1 i hi;unfold X0 at h2;dsimp only at h2;rw[hg]at h2;split at h2
 ·cases h2
 rename_i h3;have h4:A2j b.cH[i]=0:=by simpa using h3
 unfold A2j at h4;dsimp only at h4;split at h4
 ·rename_i h5;rw[h4]at h5;simp at h5
 ·rename_i h5;simpa using h5
theorem F1y {b:cE}(h:W9 b=0):D8j b:=⟨by have:=E4k h;omega,λf hf=>F10 (F1z h f hf)⟩
theorem F5h {w:Api.World}(hv:B7 w=0):C2y w:=by
 have h:=D54 hv;refine⟨o_,λb hb=>F1y (E1k hv b hb),o_,o_,λc hc=> ?_,o_⟩;have hc2:A5i w=true:=by
  unfold B7 at hv;dsimp only at hv;split at hv
  ·cases hv
  split at hv
  ·cases hv
  split at hv
  ·cases hv
  split at hv
  ·cases hv
  split at hv
  ·cases hv
  split at hv
  ·cases hv
  ·rename_i h2;simpa using h2
 unfold A5i at hc2;simp only[zi,qm]at hc2;have h1:=hc2.1.1.1 c hc;unfold J6 at h1;split at h1
 ·rename_i h2;simp only[yb,zC]at h2;omega
 ·cases h1
def ofW(w:Api.World):Int:=if B7 w=0 then C0b ((D1a w).length:Nat) ((D1a w).map w64)else 0
theorem C7z(w:Api.World)(hw:Wsm w)(hv: ¬B7 w=0):cA_ 215 [.agg w.enc] [] (.tup [.sc (.slice none 0 0),sI 18]) []:=by
 refine enT hm A6 Tryz.func215 rfl rfl (st_ ?_);refine A0 (H8 w hw) rfl (st_ ?_);rw[zc (by simpa using hv)]
 all_goals exact eE_
theorem B4n(w:Api.World)(hw:Wsm w):cA_ 127 [.agg w.enc] [] (.sc (.int .u64 (ofW w))) []:=by
 by_cases hv:B7 w=0
 ·have hf:=F5h hv
  have hl:=F0b hf;refine en1 hm A6 Tryz.func127 rfl rfl (st_ ?_);refine A0 (C9o w hw hf) rfl (st_ ?_);unfold ofW F0a;rw[zc hv,zc hv,zb p_];refine A0 (C5p (D1a w) o_) rfl ?_;simp only[go_sem,go_sem_proc]
 ·refine en1 hm A6 Tryz.func127 rfl rfl (st_ ?_);refine A0 (C7z w hw hv) rfl (st_ ?_);unfold ofW;rw[zb hv,zc p_]
theorem E0x(s:Ses)(l:List Api.Input)(x:Api.World)(hx:Wsm x)(h1:s.ins.length<=100000)(h2:s.hs.length<=100000):cA_ 65 [.ptr 1 0 0 1,A4 49 Api.Input.enc dF_ l, .agg x.enc] (rsO s) (.tup []) (rsO {s with ins:=s.ins++ [l],hs:=s.hs++ [ofW x]}):=by refine A3a hm A6 Tryz.func65 rfl rfl (st_ ?_);refine⟨bE_,?_⟩;refine A0 (B4n x hx) rfl (st_ ?_);refine⟨bE_,?_⟩;exact B8 [] [] [] se_
structure A4e (s:Ses):Prop where
 win:1<=s.win/\s.win<=64
 ins:s.ins.length<=4096
 hs:s.hs.length=s.ins.length
 ws:0<s.ws.length/\s.ws.length<=65
 sm: ∀x∈s.ws,Wsm x
 im: ∀l∈s.ins,A1z l
def A0a(s:Ses):Api.World:=s.ws.getD (s.ws.length-1) dF_
theorem A4e.last {s:Ses}(h:A4e s):Wsm (A0a s):=h.sm _ (B6 dF_ (by have:=h.ws;omega))
theorem B5f {l:List Api.Input}(h:A1z l): ∀i,i<l.length->cE.sm (l.getD i dF_).cE:=λi hi=>h.2 _ (B6 (l:=l) (i:=i) dF_ hi)
theorem E25 {s:Ses}(o:Nat)(l:List Api.Input)(x:Api.World): ∀a∈ [AV.ptr 1 0 o 1,A4 49 Api.Input.enc dF_ l, .agg x.enc],∀i∈a.ids,(ofL (rsO s) i).isSome:=by
 intro a ha j hj;simp only[zo,zr,zU]at ha;rcases ha with rfl |rfl |rfl
 ·simp[AV.ids]at hj;subst hj;rfl
 ·simp[AV.ids,A4]at hj
 ·simp[AV.ids,F6,World.enc,A4]at hj
theorem D80 {s:Ses}(o:Nat)(x:Api.World)(c:Int): ∀a∈ [AV.ptr 1 0 o 1, .agg x.enc,sI c],∀i∈a.ids,(ofL (rsO s) i).isSome:=by
 intro a ha j hj;simp only[zo,zr,zU]at ha;rcases ha with rfl |rfl |rfl
 ·simp[AV.ids]at hj;subst hj;rfl
 ·simp[AV.ids,F6,World.enc,A4]at hj
 ·simp[AV.ids]at hj
theorem E0h {s:Ses}{old:List Api.World}:okO (C08 s old):=by
 refine⟨by simp[C08],λp hp cs ee j hj=> ?_⟩;simp only[C08,zo,zr,zU]at hp;rcases hp with rfl |rfl |rfl |rfl |rfl
 ·simp only[A7.box.injEq]at ee;subst ee;simp[F6,AV.ids]at hj;rcases hj with rfl |rfl |rfl <;> rfl
 all_goals cases ee
theorem E0u(s:Ses)(l:List Api.Input)(h:A4e s)(hf:4096<=s.ins.length):cA_ 20 [.ptr 1 0 0 1,A4 49 Api.Input.enc dF_ l] (rsO s) (sI 9) (rsO s):=by
 have hw0:s.win≠0:=by have:=h.win;omega
 refine I6 hm A6 Tryz.func20 rfl rfl (st_ ?_);refine Y9 (Y1 s hw0) (A6n 0) (st_ ?_);refine Y9 (Y0 s) (A6n 0) (st_ ?_);rw[zc o_];exact B8 [.cA] [] [] se_
theorem E2d(s:Ses)(l:List Api.Input)(h:A4e s)(hl:A1z l)(hf:s.ins.length<4096)(hc:H2 [] l≠0):cA_ 20 [.ptr 1 0 0 1,A4 49 Api.Input.enc dF_ l] (rsO s) (sI (H2 [] l)) (rsO s):=by
 have hw0:s.win≠0:=by have:=h.win;omega
 refine I6 hm A6 Tryz.func20 rfl rfl (st_ ?_);refine Y9 (Y1 s hw0) (A6n 0) (st_ ?_);refine Y9 (Y0 s) (A6n 0) (st_ ?_);rw[zb o_];refine O6 (A1d [] l p_ hl.1 (B5f hl)) ?_;simp only[S2,go_sem,go_sem_proc];refine⟨G5 rfl,?_⟩;rw[zc (by simpa using hc)];exact B8 [.cA] [] [] se_
theorem E2e(s:Ses)(l:List Api.Input)(h:A4e s)(hl:A1z l)(hf:s.ins.length<4096)(hc:H2 [] l=0)(he:(X9 (A0a s) l).2.2≠0):cA_ 20 [.ptr 1 0 0 1,A4 49 Api.Input.enc dF_ l] (rsO s) (sI ((X9 (A0a s) l).2.2)) (rsO s):=by
 have hw0:s.win≠0:=by have:=h.win;omega
 have hL:=C0l s 0 h.ws.1 (by have:=h.ws;omega);rw[Nat.sub_zero,show s.ws.getD (s.ws.length-1) dF_=A0a s from rfl]at hL;have hF:=B03 (A0a s) l h.last hl;generalize X9 (A0a s) l=r at he hF⊢;generalize A0a s=x at hL hF;refine I6 hm A6 Tryz.func20 rfl rfl (st_ ?_);refine Y9 (Y1 s hw0) (A6n 0) (st_ ?_);refine Y9 (Y0 s) (A6n 0) (st_ ?_);rw[zb o_];refine O6 (A1d [] l p_ hl.1 (B5f hl)) ?_;simp only[S2,go_sem,go_sem_proc];refine⟨G5 rfl,?_⟩;rw[zb (by simpa using hc)];refine Y9 (hL) (C8a 3 0) (st_ ?_);refine A0 hF rfl (st_ ?_);rw[zc (by simpa using he)];exact B8 [.cA] [] [] se_
theorem C95(s:Ses)(l:List Api.Input)(h:A4e s)(hl:A1z l)(hf:s.ins.length<4096)(hc:H2 [] l=0)(he:(X9 (A0a s) l).2.2=0)(hp:(s.ws.length:Int)+1<=s.win+1):cA_ 20 [.ptr 1 0 0 1,A4 49 Api.Input.enc dF_ l] (rsO s) (sI 0) (rsO {s with ins:=s.ins++ [l],hs:=s.hs++ [ofW (X9 (A0a s) l).1],ws:=s.ws++ [(X9 (A0a s) l).1]}):=by
 have hw0:s.win≠0:=by have:=h.win;omega
 have hwin:=h.win
 have hL:=C0l s 0 h.ws.1 (by have:=h.ws;omega);rw[Nat.sub_zero,show s.ws.getD (s.ws.length-1) dF_=A0a s from rfl]at hL;have hF:=B03 (A0a s) l h.last hl
 have hx:=B77 h.last hl;generalize X9 (A0a s) l=r at he hF hx⊢;generalize A0a s=x at hL hF;have hA:=E0x s l r.1 hx o_ (by have:=h.hs;omega)
 have hP:=E6b {s with ins:=s.ins++ [l],hs:=s.hs++ [ofW r.1]} r.1 (s.win+1) (by have:=h.ws;show s.ws.length<=1000;omega) hp;refine I6 hm A6 Tryz.func20 rfl rfl (st_ ?_);refine Y9 (Y1 s hw0) (A6n 0) (st_ ?_);refine Y9 (Y0 s) (A6n 0) (st_ ?_);rw[zb o_];refine O6 (A1d [] l p_ hl.1 (B5f hl)) ?_;simp only[S2,go_sem,go_sem_proc];refine⟨G5 rfl,?_⟩;rw[zb (by simpa using hc)];refine Y9 (hL) (C8a 3 0) (st_ ?_);refine A0 hF rfl (st_ ?_);rw[zb (by simpa using he)];refine A0 (B2p l hl) rfl (st_ ?_);refine Y9 (hA) (E25 0 l r.1) (st_ ?_);have hw1:IntKind.i64.wrap (s.win+1)=s.win+1:=wo_;rw[hw1];refine Y9 (hP) (D80 3 r.1 _) (st_ ?_);exact B8 [.cA] [] [] se_
theorem E2f(s:Ses)(l:List Api.Input)(h:A4e s)(hl:A1z l)(hf:s.ins.length<4096)(hc:H2 [] l=0)(he:(X9 (A0a s) l).2.2=0)(hp: ¬(s.ws.length:Int)+1<=s.win+1):cA_ 20 [.ptr 1 0 0 1,A4 49 Api.Input.enc dF_ l] (rsO s) (sI 0) (C08 {s with ins:=s.ins++ [l],hs:=s.hs++ [ofW (X9 (A0a s) l).1],ws:=(s.ws++ [(X9 (A0a s) l).1]).drop 1} (s.ws++ [(X9 (A0a s) l).1])):=by
 have hw0:s.win≠0:=by have:=h.win;omega
 have hwin:=h.win
 have hL:=C0l s 0 h.ws.1 (by have:=h.ws;omega);rw[Nat.sub_zero,show s.ws.getD (s.ws.length-1) dF_=A0a s from rfl]at hL;have hF:=B03 (A0a s) l h.last hl
 have hx:=B77 h.last hl;generalize X9 (A0a s) l=r at he hF hx⊢;generalize A0a s=x at hL hF;have hA:=E0x s l r.1 hx o_ (by have:=h.hs;omega)
 have hP:=E6c {s with ins:=s.ins++ [l],hs:=s.hs++ [ofW r.1]} r.1 (s.win+1) (by have:=h.ws;show s.ws.length<=1000;omega) hp;refine I6 hm A6 Tryz.func20 rfl rfl (st_ ?_);refine Y9 (Y1 s hw0) (A6n 0) (st_ ?_);refine Y9 (Y0 s) (A6n 0) (st_ ?_);rw[zb o_];refine O6 (A1d [] l p_ hl.1 (B5f hl)) ?_;simp only[S2,go_sem,go_sem_proc];refine⟨G5 rfl,?_⟩;rw[zb (by simpa using hc)];refine Y9 (hL) (C8a 3 0) (st_ ?_);refine A0 hF rfl (st_ ?_);rw[zb (by simpa using he)];refine A0 (B2p l hl) rfl (st_ ?_);refine Y9 (hA) (E25 0 l r.1) (st_ ?_);have hw1:IntKind.i64.wrap (s.win+1)=s.win+1:=wo_;rw[hw1];refine K6 (hP) A5o E0h (by simp[rsO,C08]) (by simp[upd,go_sem,go_sem_proc]) (by simp[rsO,C08,upd]) (D80 3 r.1 _) rfl (st_ ?_);exact B8 [.cA] [] [] se_
def rn0(win:Int):List (Nat×A7):= [(1, .box [.sc (.slice none 0 0), .sc (.slice none 0 0),sI 0, .sc (.slice none 0 0),sI win])]
def rn1(win:Int)(x:Api.World):List (Nat×A7):= [(1, .box [.sc (.slice none 0 0), .sc (.slice none 0 0),sI 0, .sl 4 0 1 1,sI win]),(4, .arr 11 (B0 World.enc dF_ [x]))]
attribute [go_sem] rn0 rn1
def C76(w:Api.World)(win:Int):Ses:=⟨[],[],0,[w],win⟩
theorem E6d(x:Api.World)(win cap:Int)(hc:1<=cap):cA_ 59 [.ptr 1 0 3 1, .agg x.enc,sI cap] (rn0 win) (.tup []) (rn1 win x):=by
 refine A3a hm A6 Tryz.func59 rfl rfl (st_ ?_);refine⟨by simp only[maxLen];omega,?_⟩;rw[zb o_];refine B8 [] [(4,224)] [] (st_ ?_);refine⟨rfl,rfl,λi hi=> ?_⟩;obtain rfl:i=0:=by have:i<1:=hi;omega
 exact I5 _
theorem E2h(w:Api.World)(win:Int)(hw:Wsm w)(hv:B7 w=0)(hn: ¬(1<=win/\win<=64)):cA_ 19 [.agg w.enc,sI win] [] (.tup [.sc (.pointer none),sI 2]) []:=by
 refine enT hm A6 Tryz.func19 rfl rfl (st_ ?_);refine A0 (H8 w hw) rfl (st_ ?_);rw[zb (by simpa using hv)];rw[zc (by split <;> simp <;> omega)]
 all_goals exact eE_
theorem E0v(w:Api.World)(win:Int)(hw:Wsm w)(hv:B7 w=0)(hn:1<=win/\win<=64):cA_ 19 [.agg w.enc,sI win] [] (.tup [.ptr 1 0 0 1,sI 0]) (rsO (C76 w win)):=by
 have hw1:IntKind.i64.wrap (win+1)=win+1:=wo_;refine A3a hm A6 Tryz.func19 rfl rfl (st_ ?_);refine A0 (H8 w hw) rfl (st_ ?_);rw[zb (by simpa using hv)];rw[zb (by split <;> simp <;> omega)];refine A0 (B04 w hw) rfl (st_ ?_);rw[hw1];refine B5 [true,false,true] [(1,304),(4,500)] (E6d w win (win+1) o_) (by simp[rn0]) (by simp[rn1]) (by simp[rn1,J1]) g_ (st_ ?_);refine B8 [.cA, .cA] [(1,304),(4,500)] [2,3] ?_;simp only[go_sem,go_sem_proc,C76]
 all_goals exact eE_
theorem E4o {P:Program}{m:Nat->Option A7}{f:FuncId}{avs:List AV}{b:Bool}{Q:ContR}{O:List (Nat×A7)}{r:AV}(hc:D5 P f avs O r O)(h:okO O)(hm: ∀p∈O,m p.1=some p.2)
  (ha: ∀a∈avs,∀i∈a.ids,(ofL O i).isSome)(hid: ∀p∈O,∃av∈avs,p.1∈A76 m av)(hK: @Ri Q b ⟨some r,[]⟩): @A25 P m f avs b Q:=by
 refine⟨⟨some r,[]⟩,λ_=> ?_,λh=>absurd rfl h,hK⟩;have:=O9.mk (P:=P) (m:=m) (avs.map λ_=>true) avs O r O id [] false hc (A86 ha)
  (λi o hi=>by rw[B1j];exact hm _ (A0z h.1 hi))
  (λi cs hi j hj=>h.2 _ (A0z h.1 hi) cs rfl j hj) (λi hi=>hi) (λi hi=> .inl hi) (by simpa using h.1) (λe=>by cases e)
 have h2:O9 P m f avs ⟨some r,O⟩:=by simpa[AV.ren_id,C2b]using this
 exact .drop _ _ h2 hm hid
theorem V4 {P:Program}{m:Nat->Option A7}{f:FuncId}{b:Bool}{Q:ContR}{s:Ses}{o:Nat}{l:List AV}{r:AV}(hc:D5 P f (.ptr 1 0 o 1::l) (rsO s) r (rsO s))(hK: @Ri Q b ⟨some r,[]⟩)(hl:F6 l= []:=by rfl)(hm: ∀p∈rsO s,m p.1=some p.2:=by simp[upd,go_sem,go_sem_proc]): @A25 P m f (.ptr 1 0 o 1::l) b Q:=by
 have h1:m 1=some (.box (rsC s)):=hm (1, .box (rsC s)) (qp ..);refine E4o hc A5o hm (λa ha i hi=> ?_) (λp hp=>⟨_,qp ..,?_⟩) hK
 ·rcases zo.1 ha with rfl |ha
  ·simp[AV.ids]at hi;subst hi;rfl
  ·have:i∈F6 l:=B8y.2 ⟨a,ha,hi⟩
   rw[hl]at this;cases this
 ·simp only[rsO,zo,zr,zU]at hp;rcases hp with rfl |rfl |rfl |rfl <;> simp[A76,AV.ids,h1,rsC,F6]
theorem A8t(s:Ses)(hw:1<=s.win/\s.win<=64)(hl:s.ins.length<=100000):cA_ 22 [.ptr 1 0 0 1] (rsO s) (sI (B80 s)) (rsO s):=by
 have hw0:s.win≠0:=o_
 refine I6 hm A6 Tryz.func22 rfl rfl (st_ ?_);refine V4 (Y1 s hw0) (st_ ?_);refine V4 (Y0 s) (st_ ?_);refine B8 [.cA] [] [] ?_;simp only[go_sem,go_sem_proc,B80]
 all_goals first |(rw[IntKind.wrap_i64,Int.max_def,Int.max_def];split <;> split <;> omega) |(rw[IntKind.wrap_i64,Int.max_def];split <;> split <;> omega) |exact eE_
end Go.Abs
end
