/- A part of the proof: contracts of functions that the statement reaches. -/
import Derived.Test.YtchcbiiammkhgaaGreatMH
set_option linter.unusedSimpArgs false
set_option linter.unusedVariables false
set_option linter.unnecessarySimpa false
set_option maxRecDepth 100000
set_option maxHeartbeats 2000000
noncomputable section
namespace Go.Abs
open Go.Proofs
open Api
def B6a(b:cF):Bool:=let v1:=(B0v b.dL 16777216);let v3:=(B0v b.fF 536870911);let v9:=(A7n b.cH);(((((((inR b.ID 1 1099511627776)&&v9)&&(v1&&(inR b.cZ (-4194304) 4194304)))&&(v3&&(inR b.fH (-536870911) 536870911)))&&((inR b.eA 0 65536)&&(inR b.dX 0 65536)))&&(inR b.eF (-262144) 262144))&&(inR b.eJ 0 1048576))
theorem E3h(b:cF):cA_ E1y [.agg b.enc] [] (sB (B6a b)) []:=by
 refine en1 hm A6 Tryz.func226 rfl rfl ?_;have:=E3g
 have:=B8q
 have:=B1u
 have:=B6a.eq_1 b;exact E7
def A1s(k:Int):Int×Int:=if(k==1)=true then((0,268435456))else(if(k==2)=true then(((-205888),205888))else(((-268435456),268435456)))
theorem B7o(k:Int):cA_ D0r [sI k] [] (.tup [sI ((A1s k).1),sI ((A1s k).2)]) []:=by refine enT hm A6 Tryz.func361 rfl rfl ?_;have:=A1s.eq_1 k;exact E7
def Q8(v:cI)(limit:Int):Bool:=((inR v.X (IntKind.i64.wrap (0-limit)) limit)&&(inR v.Y (IntKind.i64.wrap (0-limit)) limit))
theorem A5e(v:cI)(limit:Int):cA_ C58 [.agg v.enc,sI limit] [] (sB (Q8 v limit)) []:=by
 refine en1 hm A6 Tryz.func363 rfl rfl ?_;have:=K7
 have:=Q8.eq_1 v limit;exact E7
def A9e(j:cG):Bool:=if(j.cS==5)=true then(((j.cU==0)&&(inR j.cV 1 1099511627776)))else((((inR j.cU 1 1099511627776)&&(inR j.cV 1 1099511627776))&&(j.cU != j.cV)))
theorem C93(j:cG):cA_ C9g [.agg j.enc] [] (sB (A9e j)) []:=by
 refine en1 hm A6 Tryz.func230 rfl rfl ?_;have:=K7
 have:=A9e.eq_1 j;exact E7
def A8g(j:cG):Bool:=if(j.cS==3)=true then(let v1:=(B0g j.eS);(!(inR v1 65520 65552)))else(if(j.cS==1)=true then((((!((j.eS.X==0)&&(j.eS.Y==0)))||j.dH)||(!j.dE)))else(if(j.cS==4)=true then((((!((j.eS.X==0)&&(j.eS.Y==0)))||j.dH)||j.dE))else(if(j.cS==5)=true then((((!((j.eS.X==0)&&(j.eS.Y==0)))||j.dH)||j.dE))else((!((j.eS.X==0)&&(j.eS.Y==0)))))))
theorem C7v(j:cG):cA_ C57 [.agg j.enc] [] (sB (A8g j)) []:=by
 refine en1 hm A6 Tryz.func231 rfl rfl ?_;have:=V8
 have:=K7
 have:=A8g.eq_1 j;exact E7
theorem D4j:okO []:=⟨by simp,by simp⟩
def A18(x:Int):Bool:=(x != x)
theorem C2w(x:Int):cA_ D9k [sI x] [] (sB (A18 x)) []:=by refine en1 hm A6 Tryz.func319 rfl rfl ?_;have:=A18.eq_1 x;exact E7
def J9(x:Int)(y:Int):Int:=let v1:=(A18 x);let v2:=(A18 y);if v1=true then(if v2=true then(0)else((-1)))else(if v2=true then(1)else(if x<y then((-1))else(if y<x then(1)else(0))))
theorem A07(x:Int)(y:Int):cA_ D40 [sI x,sI y] [] (sI (J9 x y)) []:=by
 refine en1 hm A6 Tryz.func375 rfl rfl ?_;have:=C2w
 have:=J9.eq_1 x y;exact E7
def A6r(l:List Int)(i1:Nat)(s1:Unit):(Unit) ⊕ (Int):=if((l.getD i1 0) != 0)=true then(.inr (l.getD i1 0))else(.inl ())
def A1p(l:List Int):Int:=(match J8 (A6r l) l.length ()with | .inr r=>r | .inl s1=>0)
theorem C05(l:List Int)(hl:l.length<=1048576):cA_ E6l [A4 1 C6 0 l] [] (sI (A1p l)) []:=by
 refine en1 hm A6 Tryz.func374 rfl rfl ?_;have:=A1p.eq_1 l
 have:=λi_ s_=>A6r.eq_1 l i_ s_
 have:=λx_ Q_ σ_=> @lp_ Tryz.prog Tryz.f374.ntmps [] x_ Q_ σ_ hm (IE (A6r l) ()) (λ_=>True) l.length (λi_=> [(3, .cA,sI 0),(6, .cA,A4 1 C6 0 l),(7, .cA,sI (l.length:Int)),(8, .cA,sI (i_:Int))]) (λi_=> []) [] rfl (λ_ _=>trivial) (by simp[go_sem]) (by simp[go_sem,D3]) (by simp[go_sem]);exact B2n
def A1z(a:cR)(b:cR):Int:=let v1:=(J9 a.cU b.cU);let v2:=(J9 a.dM b.dM);let v3:=(J9 a.cV b.cV);let v4:=(J9 a.dK b.dK);let v5:=(A1p ([v1,v2,v3,v4]));v5
theorem B42(a:cR)(b:cR):cA_ B34 [.agg a.enc, .agg b.enc] [] (sI (A1z a b)) []:=by
 refine en1 hm A6 Tryz.func247 rfl rfl (sg_ ?_);refine A0 (A07 a.cU b.cU) rfl ?_;generalize hv1:(J9 a.cU b.cU)=v1;refine sg_ ?_;refine A0 (A07 a.dM b.dM) rfl ?_;generalize hv2:(J9 a.dM b.dM)=v2;refine sg_ ?_;refine A0 (A07 a.cV b.cV) rfl ?_;generalize hv3:(J9 a.cV b.cV)=v3;refine sg_ ?_;refine A0 (A07 a.dK b.dK) rfl ?_;generalize hv4:(J9 a.dK b.dK)=v4;refine sg_ ?_;refine A5i (C05 ([v1,v2,v3,v4]) (by((simp_all;done)))) rfl ?_ ?_
 ·(try simp only[S3,go_sem]);all_goals((repeat' (with_reducible apply And.intro)) <;> exact H1 (λ_ _=>rfl) rfl rfl rfl)
 generalize hv5:(A1p ([v1,v2,v3,v4]))=v5;refine sg_ ?_;have hd:A1z a b=v5:=by(unfold A1z;exact hd_)
 try rw[hd]
def B1o(a:cR)(b:cR):Bool:=let v1:=(A1z a b);(decide (v1<0))
theorem B8y(a:cR)(b:cR):cA_ D4w [.agg a.enc, .agg b.enc] [] (sB (B1o a b)) []:=by
 refine en1 hm A6 Tryz.func238 rfl rfl ?_;have:=B42
 have:=B1o.eq_1 a b;exact E7
def T3(l:List cR)(i1:Nat)(s1:Int×Int×Int×Int):(Int×Int×Int×Int) ⊕ (Bool):=let v1:=(A97 (l.getD i1 dF_));let v2:=(B1o (⟨s1.1,s1.2.1,s1.2.2.1,s1.2.2.2⟩:cR) (l.getD i1 dF_));if((!v1)||((decide (0<(i1:Int)))&&((((l.getD i1 dF_).cU==s1.1)&&(((l.getD i1 dF_).dM==s1.2.1)&&(((l.getD i1 dF_).cV==s1.2.2.1)&&((l.getD i1 dF_).dK==s1.2.2.2))))||(!v2))))=true then(.inr false)else(.inl ((l.getD i1 dF_).cU,(l.getD i1 dF_).dM,(l.getD i1 dF_).cV,(l.getD i1 dF_).dK))
def U0(l:List cR):Bool:=(match J8 (T3 l) l.length (0,0,0,0)with | .inr r=>r | .inl s1=>true)
theorem B2e(l:List cR)(hl:l.length<=1048576):cA_ C23 [A4 4 cR.enc dF_ l] [] (sB (U0 l)) []:=by
 refine en1 hm A6 Tryz.func145 rfl rfl ?_;have:=λx1 x2 x3 x4 x5=>cx_ (B8y ⟨x1,x2,x3,x4⟩ x5)
 have:=D2v
 have:=B8y
 have:=U0.eq_1 l
 have:=λi_ s_=>T3.eq_1 l i_ s_
 have:=λx_ Q_ σ_=> @lp_ Tryz.prog Tryz.f145.ntmps [] x_ Q_ σ_ hm (IE (T3 l) (0,0,0,0)) (λ_=>True) l.length (λi_=> [(3, .cA, .ptr 64 0 0 1),(7, .cA,A4 4 cR.enc dF_ l),(8, .cA,sI (l.length:Int)),(9, .cA,sI (i_:Int))]) (λi_=> [(64, .box [sI ((stE (T3 l) i_ (0,0,0,0)).1),sI ((stE (T3 l) i_ (0,0,0,0)).2.1),sI ((stE (T3 l) i_ (0,0,0,0)).2.2.1),sI ((stE (T3 l) i_ (0,0,0,0)).2.2.2)])]) [] rfl (λ_ _=>trivial) (by simp[go_sem]) (by simp[go_sem,D3]) (by simp[go_sem]);exact B2n
def A51(v:cI):Bool:=let v1:=(A6x v.X);let v2:=(A6x v.Y);(v1||v2)
theorem C97(v:cI):cA_ B5s [.agg v.enc] [] (sB (A51 v)) []:=by
 refine en1 hm A6 Tryz.func378 rfl rfl ?_;have:=D3d
 have:=A51.eq_1 v;exact E7
def G5(s:Shape):Int:=if((decide (s.cS<1))||(decide (3<s.cS)))=true then(10)else(let v1:=(A0f s);if v1=false then(11)else(if(s.cJ.any (λx=>(A51 x)))=true then(6)else(if((s.cS==3)&&(s.eV != 0))=true then(if((s.cS==3)&&(s.eV != 0))=true then(6)else(let v2:=(O6 (s.cJ.getD 1 dF_) (s.cJ.getD 0 dF_));let v3:=(B0g v2);if((s.cS==2)&&(decide (v3<4096)))=true then(12)else(let v4:=(M5 s.cJ);let v5:=(A4j s.cJ);let v6:=(A11 s.cJ);if((s.cS==3)&&(((!v4)||(decide (v5<4096)))||(decide (v6<256))))=true then(12)else(0))))else(if((s.cS != 3)&&((decide (s.eV<2048))||(decide (524288<s.eV))))=true then(6)else(let v7:=(O6 (s.cJ.getD 1 dF_) (s.cJ.getD 0 dF_));let v8:=(B0g v7);if((s.cS==2)&&(decide (v8<4096)))=true then(12)else(let v9:=(M5 s.cJ);let v10:=(A4j s.cJ);let v11:=(A11 s.cJ);if((s.cS==3)&&(((!v9)||(decide (v10<4096)))||(decide (v11<256))))=true then(12)else(0)))))))
theorem A1x(s:Shape)(hn:s.cJ.length<=1048576):cA_ D68 [.agg s.enc] [] (sI (G5 s)) []:=by
 refine en1 hm A6 Tryz.func248 rfl rfl ?_;have:=G6d s
 have:=D3e
 have:=(B9r s.cJ B5s [] [] [] (λx=>(A51 x)) (by(omega)) D4j (by simp[AV.ids,F0]) (λx _=>C97 x))
 have:=L7
 have:=V8
 have:=B9i s.cJ
 have:=A69
 have:=C38
 have:=C5n
 have:=G5.eq_1 s;exact E7
def A2c(f:dB):Int:=let v1:=(G5 f.Shape);if(v1 != 0)=true then(v1)else(if((!(((inR f.fR 0 262144)&&(inR f.eI 0 131072))&&(inR f.fC 0 65536)))||(!(((inR f.fQ 0 65535)&&(inR f.fY 0 65535))&&(inR f.fV (-32) 32))))=true then(6)else(0))
theorem C32(f:dB)(hn:f.Shape.cJ.length<=1048576):cA_ C20 [.agg f.enc] [] (sI (A2c f)) []:=by
 refine en1 hm A6 Tryz.func227 rfl rfl ?_;have:=A1x
 have:=B8q
 have:=A2c.eq_1 f;exact E7
def A5b(n:Int):Bool:=(!(inR n (-536870911) 536870911))
theorem C78(n:Int):cA_ B4a [sI n] [] (sB (A5b n)) []:=by
 refine en1 hm A6 Tryz.func364 rfl rfl ?_;have:=C77
 have:=A5b.eq_1 n;exact E7
def A3k(l:List Int):Bool:=(!(l.any (λx=>(A5b x))))
theorem B82(l:List Int)(hl:l.length<=1048576):cA_ D5i [A4 1 C6 0 l] [] (sB (A3k l)) []:=by
 refine en1 hm A6 Tryz.func234 rfl rfl ?_;have:=(A5f l B4a [] [] [] (λx=>(A5b x)) (by(omega)) D4j (by simp[AV.ids,F0]) (λx _=>C78 x))
 have:=A3k.eq_1 l;exact E7
def R6(p:cO):Bool:=if(decide (p.eM<0))=false then(let v1:=(A3k ([p.eY.X,p.eY.Y,p.fA,p.ID,p.eM,p.eW]));((decide (p.eM<0))||(!v1)))else(true)
theorem C1b(p:cO):cA_ A92 [.agg p.enc] [] (sB (R6 p)) []:=by
 refine en1 hm A6 Tryz.func236 rfl rfl (sg_ ?_);by_cases h1:(decide (p.eM<0))=false
 ·rw[if_pos h1]
  (repeat(with_reducible refine And.intro ?_ ?_;exact aI_))
  refine A5i (B82 ([p.eY.X,p.eY.Y,p.fA,p.ID,p.eM,p.eW]) (by((simp_all;done)))) rfl ?_ ?_
  ·(try simp only[S3,go_sem]);all_goals((repeat' (with_reducible apply And.intro)) <;> exact H1 (λ_ _=>rfl) rfl rfl rfl)
  generalize hv1:(A3k ([p.eY.X,p.eY.Y,p.fA,p.ID,p.eM,p.eW]))=v1;simp only[go_sem,E8];have hd:R6 p=((decide (p.eM<0))||(!v1)):=by(unfold R6;exact hd_)
  try rw[hd]
 ·rw[if_neg h1]
  (repeat(with_reducible refine And.intro ?_ ?_;exact aI_))
  have hd:R6 p=true:=by(unfold R6;exact hd_)
  try rw[hd]
def N4(m:cL):Bool:=if(((decide ((m.cP.length:Int)<1))||(decide (2<(m.cP.length:Int))))||(((m.cP.length:Int)==2)&&((m.cP.getD 0 dF_).ID==(m.cP.getD 1 dF_).ID)))=false then(let v1:=(A3k ([m.dF.X,m.dF.Y]));if((((decide ((m.cP.length:Int)<1))||(decide (2<(m.cP.length:Int))))||(((m.cP.length:Int)==2)&&((m.cP.getD 0 dF_).ID==(m.cP.getD 1 dF_).ID)))||(!v1))=true then(false)else((!(m.cP.any (λx=>(R6 x))))))else(false)
theorem C5x(m:cL)(hl:m.cP.length<=1048576):cA_ C43 [.agg m.enc] [] (sB (N4 m)) []:=by
 refine en1 hm A6 Tryz.func144 rfl rfl ?_;simp only[go_sem,C9,E8,C3]
 (repeat(with_reducible refine And.intro ?_ ?_;exact aI_))
 by_cases h1:(((decide ((m.cP.length:Int)<1))||(decide (2<(m.cP.length:Int))))||(((m.cP.length:Int)==2)&&((m.cP.getD 0 dF_).ID==(m.cP.getD 1 dF_).ID)))=false
 ·rw[if_pos h1]
  (repeat(with_reducible refine And.intro ?_ ?_;exact aI_))
  refine A5i (B82 ([m.dF.X,m.dF.Y]) (by((simp_all;done)))) rfl ?_ ?_
  ·(try simp only[S3,go_sem]);all_goals((repeat' (with_reducible apply And.intro)) <;> exact H1 (λ_ _=>rfl) rfl rfl rfl)
  generalize hv1:(A3k ([m.dF.X,m.dF.Y]))=v1;simp only[go_sem,E8,C3];by_cases h2:((((decide ((m.cP.length:Int)<1))||(decide (2<(m.cP.length:Int))))||(((m.cP.length:Int)==2)&&((m.cP.getD 0 dF_).ID==(m.cP.getD 1 dF_).ID)))||(!v1))=true
  ·rw[if_pos h2];have hd:N4 m=false:=by(unfold N4;exact hd_)
   try rw[hd]
  ·rw[if_neg h2];refine A0 (B1t m.cP A92 [] [] [] (λx=>(R6 x)) (by(omega)) D4j (by simp[AV.ids,F0]) (λx _=>C1b x)) rfl (sg_ ?_);have hd:N4 m=(!(m.cP.any (λx=>(R6 x)))):=by(unfold N4;exact hd_)
   try rw[hd]
 ·rw[if_neg h1];have hd:N4 m=false:=by(unfold N4;exact hd_)
  try rw[hd]
  try simp only[go_sem]
  exact A8j
theorem A3a(w:Api.World)(id:Int): -1<=H5 w id/\H5 w id<(w.cC.length:Int):=D4b
def A1a(w:Api.World)(j:cG):Bool:=let v1:=(H5 w j.cV);let v2:=(H5 w j.cU);((decide (0<=v1))&&((j.cS==5)||(decide (0<=v2))))
theorem A9l(w:Api.World)(j:cG)(hl:w.cC.length<=1048576):cA_ C9t [.agg w.enc, .agg j.enc] [] (sB (A1a w j)) []:=by
 refine en1 hm A6 Tryz.func142 rfl rfl ?_;have:=A3a w j.cV
 have:=T0
 have:=A3a w j.cU
 have:=A1a.eq_1 w j;exact E7
def A70(w:Api.World)(k:cR):Bool:=let v1:=(H5 w k.cU);let v2:=(H5 w k.cV);((((decide (0<=v1))&&(decide (0<=v2)))&&(decide (k.dM<((w.cC.getD v1.toNat dF_).cK.length:Int))))&&(decide (k.dK<((w.cC.getD v2.toNat dF_).cK.length:Int))))
theorem C5v(w:Api.World)(k:cR)(hl:w.cC.length<=1048576):cA_ C41 [.agg w.enc, .agg k.enc] [] (sB (A70 w k)) []:=by
 refine en1 hm A6 Tryz.func149 rfl rfl ?_;have:=A3a w k.cU
 have:=T0
 have:=A3a w k.cV
 have:=A70.eq_1 w k;exact E7
def W8(b:cF)(i1:Nat)(s1:Unit):(Unit) ⊕ (Int):=let v2:=(A2c (b.cK.getD i1 dF_));if(v2 != 0)=true then(.inr 13)else(.inl ())
def W7(b:cF):Int:=if(((b.cS != 1)&&(b.cS != 2))&&(b.cS != 3))=true then(10)else(let v1:=(B6a b);if v1=false then(6)else(if 4<(b.cK.length:Int)then(11)else((match J8 (W8 b) b.cK.length ()with | .inr r=>r | .inl s1=>let v3:=(B1n b);if v3=false then(14)else(0)))))
theorem B40(b:cF)(hb:cF.sm b):cA_ D9i [.agg b.enc] [] (sI (W7 b)) []:=by
 refine en1 hm A6 Tryz.func140 rfl rfl ?_;have:=hb.1
 have:=λi (h:i<b.cK.length)=>hb.2 _ (B8 dF_ h)
 have:=E3h
 have:=C32
 have:=D5k
 have:=W7.eq_1 b
 have:=λi_ s_=>W8.eq_1 b i_ s_
 have:=λx_ Q_ σ_=> @lp_ Tryz.prog Tryz.f140.ntmps [] x_ Q_ σ_ hm (IE (W8 b) ()) (λ_=>True) b.cK.length (λi_=> [(1, .cA, .ptr 32 0 0 1),(26, .cA,A4 10 dB.enc dF_ b.cK),(27, .cA,sI (b.cK.length:Int)),(28, .cA,sI (i_:Int))]) (λi_=> [(32, .box [sI b.ID,sI b.cS,sI b.cH.dY.X,sI b.cH.dY.Y,sI b.cH.eR,sI b.dL.X,sI b.dL.Y,sI b.cZ,sI b.fF.X,sI b.fF.Y,sI b.fH,sI b.eA,sI b.dX,sI b.eF,sB b.fG,sB b.eC,sB b.fD,sB b.eU,sI b.eJ,A4 10 dB.enc dF_ b.cK])]) [] rfl (λ_ _=>trivial) (by simp[go_sem]) (by simp[go_sem,D3]) (by simp[go_sem]);exact B2n
def T4(j:cG)(i1:Nat)(s1:Unit):(Unit) ⊕ (Bool):=if(inR ([j.cQ.I0,j.cQ.I1,j.cQ.I2,j.cQ.I3].getD i1 0) (-536870911) 536870911)=false then(.inr false)else(.inl ())
def T5(j:cG)(i2:Nat)(s2:Unit):(Unit) ⊕ (Bool):=if(inR ([j.cQ.I0,j.cQ.I1,j.cQ.I2,j.cQ.I3].getD i2 0) (-536870911) 536870911)=false then(.inr false)else(.inl ())
def O9(j:cG):Bool:=if(j.cS==5)=true then(let v1:=(A1s j.cS);(match J8 (T4 j) 4 ()with | .inr r=>r | .inl s1=>let v4:=(Q8 j.dW 268435456);let v5:=(Q8 j.dR 1048576);(((((((((((inR j.ID 1 1099511627776)&&v4)&&v5)&&(inR j.cX (-205888) 205887))&&(inR j.dN v1.1 v1.2))&&(inR j.dS v1.1 v1.2))&&(decide (j.dN<=j.dS)))&&(inR j.dP (-16777216) 16777216))&&(inR j.dU 0 536870911))&&(inR j.dD 0 536870911))&&(inR j.dI 0 536870911))))else(let v13:=(A1s j.cS);(match J8 (T5 j) 4 ()with | .inr r=>r | .inl s2=>let v16:=(Q8 j.dW 1048576);let v17:=(Q8 j.dR 1048576);(((((((((((inR j.ID 1 1099511627776)&&v16)&&v17)&&(inR j.cX (-205888) 205887))&&(inR j.dN v13.1 v13.2))&&(inR j.dS v13.1 v13.2))&&(decide (j.dN<=j.dS)))&&(inR j.dP (-16777216) 16777216))&&(inR j.dU 0 536870911))&&(inR j.dD 0 536870911))&&(inR j.dI 0 536870911))))
theorem C37(j:cG):cA_ C29 [.agg j.enc] [] (sB (O9 j)) []:=by
 refine en1 hm A6 Tryz.func229 rfl rfl (sg_ ?_);by_cases h1:(j.cS==5)=true
 ·rw[if_pos h1];refine A0 (B7o j.cS) rfl ?_;generalize hv1:(A1s j.cS)=v1;refine sg_ ?_;refine B1 hm (ι:= {p:Nat×Unit // p.1<=4/\J8 (T4 j) p.1 ()= .inl p.2}) (λi=> [(1, .cA, .ptr 32 0 0 1),(3, .cA,sI 268435456),(4, .cA,sI v1.1),(5, .cA,sI v1.2),(18, .cA, .agg [sI j.cQ.I0,sI j.cQ.I1,sI j.cQ.I2,sI j.cQ.I3]),(19, .cA,sI (i.1.1:Int))]) (λi=> [(32, .box [sI j.ID,sI j.cS,sI j.cU,sI j.cV,sI j.dW.X,sI j.dW.Y,sI j.dR.X,sI j.dR.Y,sI j.eS.X,sI j.eS.Y,sI j.cX,sB j.dE,sI j.dN,sI j.dS,sB j.dH,sI j.dP,sI j.dU,sI j.dD,sI j.dI,sB j.dC,sI j.cQ.I0,sI j.cQ.I1,sI j.cQ.I2,sI j.cQ.I3])]) (λi=>4-i.1.1) ⟨(0,()),by omega,rfl⟩ ?_ ?_
  ·refine E0 [] [] ?_;simp only[go_sem]
  ·rintro⟨⟨i1,s1⟩,hi1,hs1⟩;replace hi1:i1<=4:=hi1;replace hs1:J8 (T4 j) i1 ()= .inl s1:=hs1;refine sg_ ?_;by_cases h2:(i1:Int)<4
   ·rw[if_pos h2];have hlt1:i1<4:=by omega
    (repeat(with_reducible refine And.intro ?_ ?_;exact aI_))
    rw[G0i (show i1<4 by omega)];refine A0 (K7 ([j.cQ.I0,j.cQ.I1,j.cQ.I2,j.cQ.I3].getD i1 0) (-536870911) 536870911) rfl (sg_ ?_);by_cases h3:(inR ([j.cQ.I0,j.cQ.I1,j.cQ.I2,j.cQ.I3].getD i1 0) (-536870911) 536870911)=false
    ·rw[if_pos h3];have e1:J8 (T4 j) (i1+1) ()= .inr false:=A1v hs1 (by(unfold T4;exact hd_));replace e1:=A5j e1 (show i1+1<=4 by omega);have hd:O9 j=false:=by(unfold O9;exact hd_)
     try rw[hd]
    ·rw[if_neg h3];have hn:J8 (T4 j) (i1+1) ()= .inl ():=A1v hs1 (by(unfold T4;exact hd_));refine A8 ⟨(i1+1,()),by omega,hn⟩ (by show 4-(i1+1)<4-i1;omega) (E0 [] [] ?_);refine sg_ ?_;exact A8j
   ·rw[if_neg h2];have hge:i1=4:=by omega
    subst hge;refine A0 (K7 j.ID 1 1099511627776) rfl (sg_ ?_);refine A0 (A5e j.dW 268435456) rfl ?_;generalize hv4:(Q8 j.dW 268435456)=v4;simp only[go_sem,C9,C3];refine A0 (A5e j.dR 1048576) rfl ?_;generalize hv5:(Q8 j.dR 1048576)=v5;simp only[go_sem,C9,C3];refine A0 (K7 j.cX (-205888) 205887) rfl ?_;simp only[go_sem,C9,C3];refine A0 (K7 j.dN v1.1 v1.2) rfl ?_;simp only[go_sem,C9,C3];refine A0 (K7 j.dS v1.1 v1.2) rfl ?_;simp only[go_sem,C9,C3];refine A0 (K7 j.dP (-16777216) 16777216) rfl ?_;simp only[go_sem,C9,C3];refine A0 (K7 j.dU 0 536870911) rfl ?_;simp only[go_sem,C9,C3];refine A0 (K7 j.dD 0 536870911) rfl ?_;simp only[go_sem,C9,C3];refine A0 (K7 j.dI 0 536870911) rfl ?_;simp only[go_sem,C9,C3];have hd:O9 j=(((((((((((inR j.ID 1 1099511627776)&&v4)&&v5)&&(inR j.cX (-205888) 205887))&&(inR j.dN v1.1 v1.2))&&(inR j.dS v1.1 v1.2))&&(decide (j.dN<=j.dS)))&&(inR j.dP (-16777216) 16777216))&&(inR j.dU 0 536870911))&&(inR j.dD 0 536870911))&&(inR j.dI 0 536870911)):=by(unfold O9;exact hd_)
    try rw[hd]
 ·rw[if_neg h1];refine A0 (B7o j.cS) rfl ?_;generalize hv13:(A1s j.cS)=v13;refine sg_ ?_;refine B1 hm (ι:= {p:Nat×Unit // p.1<=4/\J8 (T5 j) p.1 ()= .inl p.2}) (λi=> [(1, .cA, .ptr 32 0 0 1),(3, .cA,sI 1048576),(4, .cA,sI v13.1),(5, .cA,sI v13.2),(18, .cA, .agg [sI j.cQ.I0,sI j.cQ.I1,sI j.cQ.I2,sI j.cQ.I3]),(19, .cA,sI (i.1.1:Int))]) (λi=> [(32, .box [sI j.ID,sI j.cS,sI j.cU,sI j.cV,sI j.dW.X,sI j.dW.Y,sI j.dR.X,sI j.dR.Y,sI j.eS.X,sI j.eS.Y,sI j.cX,sB j.dE,sI j.dN,sI j.dS,sB j.dH,sI j.dP,sI j.dU,sI j.dD,sI j.dI,sB j.dC,sI j.cQ.I0,sI j.cQ.I1,sI j.cQ.I2,sI j.cQ.I3])]) (λi=>4-i.1.1) ⟨(0,()),by omega,rfl⟩ ?_ ?_
  ·refine E0 [] [] ?_;simp only[go_sem]
  ·rintro⟨⟨i2,s2⟩,hi2,hs2⟩;replace hi2:i2<=4:=hi2;replace hs2:J8 (T5 j) i2 ()= .inl s2:=hs2;refine sg_ ?_;by_cases h4:(i2:Int)<4
   ·rw[if_pos h4];have hlt2:i2<4:=by omega
    (repeat(with_reducible refine And.intro ?_ ?_;exact aI_))
    rw[G0i (show i2<4 by omega)];refine A0 (K7 ([j.cQ.I0,j.cQ.I1,j.cQ.I2,j.cQ.I3].getD i2 0) (-536870911) 536870911) rfl (sg_ ?_);by_cases h5:(inR ([j.cQ.I0,j.cQ.I1,j.cQ.I2,j.cQ.I3].getD i2 0) (-536870911) 536870911)=false
    ·rw[if_pos h5];have e2:J8 (T5 j) (i2+1) ()= .inr false:=A1v hs2 (by(unfold T5;exact hd_));replace e2:=A5j e2 (show i2+1<=4 by omega);have hd:O9 j=false:=by(unfold O9;exact hd_)
     try rw[hd]
    ·rw[if_neg h5];have hn:J8 (T5 j) (i2+1) ()= .inl ():=A1v hs2 (by(unfold T5;exact hd_));refine A8 ⟨(i2+1,()),by omega,hn⟩ (by show 4-(i2+1)<4-i2;omega) (E0 [] [] ?_);refine sg_ ?_;exact A8j
   ·rw[if_neg h4];have hge:i2=4:=by omega
    subst hge;refine A0 (K7 j.ID 1 1099511627776) rfl (sg_ ?_);refine A0 (A5e j.dW 1048576) rfl ?_;generalize hv16:(Q8 j.dW 1048576)=v16;simp only[go_sem,C9,C3];refine A0 (A5e j.dR 1048576) rfl ?_;generalize hv17:(Q8 j.dR 1048576)=v17;simp only[go_sem,C9,C3];refine A0 (K7 j.cX (-205888) 205887) rfl ?_;simp only[go_sem,C9,C3];refine A0 (K7 j.dN v13.1 v13.2) rfl ?_;simp only[go_sem,C9,C3];refine A0 (K7 j.dS v13.1 v13.2) rfl ?_;simp only[go_sem,C9,C3];refine A0 (K7 j.dP (-16777216) 16777216) rfl ?_;simp only[go_sem,C9,C3];refine A0 (K7 j.dU 0 536870911) rfl ?_;simp only[go_sem,C9,C3];refine A0 (K7 j.dD 0 536870911) rfl ?_;simp only[go_sem,C9,C3];refine A0 (K7 j.dI 0 536870911) rfl ?_;simp only[go_sem,C9,C3];have hd:O9 j=(((((((((((inR j.ID 1 1099511627776)&&v16)&&v17)&&(inR j.cX (-205888) 205887))&&(inR j.dN v13.1 v13.2))&&(inR j.dS v13.1 v13.2))&&(decide (j.dN<=j.dS)))&&(inR j.dP (-16777216) 16777216))&&(inR j.dU 0 536870911))&&(inR j.dD 0 536870911))&&(inR j.dI 0 536870911)):=by(unfold O9;exact hd_)
    try rw[hd]
def A1r(j:cG):Int:=if((decide (j.cS<1))||(decide (5<j.cS)))=true then(10)else(let v1:=(O9 j);if v1=false then(6)else(let v2:=(A9e j);if v2=false then(14)else(let v3:=(A8g j);if v3=true then(15)else(0))))
theorem A2h(j:cG):cA_ D63 [.agg j.enc] [] (sI (A1r j)) []:=by
 refine en1 hm A6 Tryz.func141 rfl rfl ?_;have:=C37
 have:=C93
 have:=C7v
 have:=A1r.eq_1 j;exact E7
def M6(w:Api.World)(i1:Nat)(s1:Int):(Int) ⊕ (Bool):=let v1:=(W7 (w.cC.getD i1 dF_));if(((v1 != 0)||(decide (w.dJ<=(w.cC.getD i1 dF_).ID)))||(decide ((w.cC.getD i1 dF_).ID<=s1)))=true then(.inr false)else(.inl (w.cC.getD i1 dF_).ID)
def Y9(w:Api.World):Bool:=(match J8 (M6 w) w.cC.length 0 with | .inr r=>r | .inl s1=>true)
theorem D0d(w:Api.World)(hw:Wsm w):cA_ C9u [.agg w.enc] [] (sB (Y9 w)) []:=by
 have hw1:=hw.1;refine en1 hm A6 Tryz.func87 rfl rfl (sg_ ?_);refine B1 hm (ι:= {p:Nat×Int // p.1<=w.cC.length/\J8 (M6 w) p.1 0= .inl p.2}) (λi=> [(1, .cA, .ptr 32 0 0 1),(3, .cA,sI i.1.2),(7, .cA,A4 20 cF.enc dF_ w.cC),(8, .cA,sI (w.cC.length:Int)),(9, .cA,sI (i.1.1:Int))]) (λi=> [(32, .box [sI w.cM.dZ,sI w.cM.eG.X,sI w.cM.eG.Y,sI w.cM.eL,sI w.cM.eD,A4 20 cF.enc dF_ w.cC,A4 24 cG.enc dF_ w.cD,A4 7 cY.enc dF_ w.cB,A4 4 cR.enc dF_ w.cT,sI w.dJ,sI w.eK])]) (λi=>w.cC.length-i.1.1) ⟨(0,0),by omega,rfl⟩ ?_ ?_
 ·refine E0 [] [] ?_;simp only[go_sem]
 ·rintro⟨⟨i1,s1⟩,hi1,hs1⟩;replace hi1:i1<=w.cC.length:=hi1;replace hs1:J8 (M6 w) i1 0= .inl s1:=hs1;refine sg_ ?_;by_cases h1:(i1:Int)<(w.cC.length:Int)
  ·rw[if_pos h1];have hlt1:i1<w.cC.length:=by omega
   (repeat(with_reducible refine And.intro ?_ ?_;exact aI_))
   refine A0 (B40 (w.cC.getD i1 dF_) (by(exact hw.2.2.2.2.1 _ (B8 _ (by omega))))) rfl ?_;generalize hv1:(W7 (w.cC.getD i1 dF_))=v1;simp only[go_sem,E8,C3];by_cases h2:(((v1 != 0)||(decide (w.dJ<=(w.cC.getD i1 dF_).ID)))||(decide ((w.cC.getD i1 dF_).ID<=s1)))=true
   ·rw[if_pos h2];have e1:J8 (M6 w) (i1+1) 0= .inr false:=A1v hs1 (by(unfold M6;exact hd_));replace e1:=A5j e1 (show i1+1<=w.cC.length by omega);have hd:Y9 w=false:=by(unfold Y9;exact hd_)
    try rw[hd]
   ·rw[if_neg h2];have hn:J8 (M6 w) (i1+1) 0= .inl (w.cC.getD i1 dF_).ID:=A1v hs1 (by(unfold M6;exact hd_));refine A8 ⟨(i1+1,(w.cC.getD i1 dF_).ID),by omega,hn⟩ (by show w.cC.length-(i1+1)<w.cC.length-i1;omega) (E0 [] [] ?_);refine sg_ ?_;exact A8j
  ·rw[if_neg h1];have hge:i1=w.cC.length:=by omega
   subst hge;have hd:Y9 w=true:=by(unfold Y9;exact hd_)
   try rw[hd]
def Y1(w:Api.World)(i1:Nat)(s1:Int):(Int) ⊕ (Bool):=let v1:=(A1r (w.cD.getD i1 dF_));let v2:=(A1a w (w.cD.getD i1 dF_));let v3:=(H5 w (w.cD.getD i1 dF_).ID);if(((((v1 != 0)||(decide (w.dJ<=(w.cD.getD i1 dF_).ID)))||(decide ((w.cD.getD i1 dF_).ID<=s1)))||(!v2))||(decide (0<=v3)))=true then(.inr false)else(.inl (w.cD.getD i1 dF_).ID)
def A2b(w:Api.World):Bool:=(match J8 (Y1 w) w.cD.length 0 with | .inr r=>r | .inl s1=>true)
theorem D0e(w:Api.World)(hw:Wsm w):cA_ C9v [.agg w.enc] [] (sB (A2b w)) []:=by
 have hw2:=hw.2.1;have hw1:=hw.1;refine en1 hm A6 Tryz.func88 rfl rfl (sg_ ?_);refine B1 hm (ι:= {p:Nat×Int // p.1<=w.cD.length/\J8 (Y1 w) p.1 0= .inl p.2}) (λi=> [(1, .cA, .ptr 32 0 0 1),(3, .cA,sI i.1.2),(7, .cA,A4 24 cG.enc dF_ w.cD),(8, .cA,sI (w.cD.length:Int)),(9, .cA,sI (i.1.1:Int))]) (λi=> [(32, .box [sI w.cM.dZ,sI w.cM.eG.X,sI w.cM.eG.Y,sI w.cM.eL,sI w.cM.eD,A4 20 cF.enc dF_ w.cC,A4 24 cG.enc dF_ w.cD,A4 7 cY.enc dF_ w.cB,A4 4 cR.enc dF_ w.cT,sI w.dJ,sI w.eK])]) (λi=>w.cD.length-i.1.1) ⟨(0,0),by omega,rfl⟩ ?_ ?_
 ·refine E0 [] [] ?_;simp only[go_sem]
 ·rintro⟨⟨i1,s1⟩,hi1,hs1⟩;replace hi1:i1<=w.cD.length:=hi1;replace hs1:J8 (Y1 w) i1 0= .inl s1:=hs1;refine sg_ ?_;by_cases h1:(i1:Int)<(w.cD.length:Int)
  ·rw[if_pos h1];have hlt1:i1<w.cD.length:=by omega
   (repeat(with_reducible refine And.intro ?_ ?_;exact aI_))
   refine A0 (A2h (w.cD.getD i1 dF_)) rfl ?_;generalize hv1:(A1r (w.cD.getD i1 dF_))=v1;simp only[go_sem,E8,C3];refine A0 (A9l w (w.cD.getD i1 dF_) (by(exact hw.1))) rfl ?_;generalize hv2:(A1a w (w.cD.getD i1 dF_))=v2;simp only[go_sem,E8,C3];have p2:=A3a w (w.cD.getD i1 dF_).ID;refine A0 (T0 w (w.cD.getD i1 dF_).ID (by(exact hw.1))) rfl ?_;generalize hv3:(H5 w (w.cD.getD i1 dF_).ID)=v3 at*;simp only[go_sem,E8,C3];by_cases h3:(((((v1 != 0)||(decide (w.dJ<=(w.cD.getD i1 dF_).ID)))||(decide ((w.cD.getD i1 dF_).ID<=s1)))||(!v2))||(decide (0<=v3)))=true
   ·rw[if_pos h3];have e1:J8 (Y1 w) (i1+1) 0= .inr false:=A1v hs1 (by(unfold Y1;exact hd_));replace e1:=A5j e1 (show i1+1<=w.cD.length by omega);have hd:A2b w=false:=by(unfold A2b;exact hd_)
    try rw[hd]
   ·rw[if_neg h3];have hn:J8 (Y1 w) (i1+1) 0= .inl (w.cD.getD i1 dF_).ID:=A1v hs1 (by(unfold Y1;exact hd_));refine A8 ⟨(i1+1,(w.cD.getD i1 dF_).ID),by omega,hn⟩ (by show w.cD.length-(i1+1)<w.cD.length-i1;omega) (E0 [] [] ?_);refine sg_ ?_;exact A8j
  ·rw[if_neg h1];have hge:i1=w.cD.length:=by omega
   subst hge;have hd:A2b w=true:=by(unfold A2b;exact hd_)
   try rw[hd]
def D34(l:List cR):List AV:= [A4 4 cR.enc dF_ l]
attribute [go_sem] D34
theorem D2q(n:Nat)(h0:0<n)(hn:n<=4194304):cA_ B3f [.sc (.slice none 0 0),sI n] [] (.sl 1 0 0 n) [(1, .arr 4 ⟨n,λ_=>cR.zero⟩)]:=by
 have w1:IntKind.i64.wrap (0-0)=0:=rfl
 have w2:IntKind.i64.wrap ((n:Int)-0)=n:=by rw[IntKind.wrap_i64];omega
 refine I7 hm A6 Tryz.func240 rfl rfl (sg_ ?_);rw[if_neg (by omega)];simp only[w1,w2];rw[if_pos (by omega)];refine⟨ok_,?_⟩;refine⟨by omega,?_⟩;simp only[Int.toNat_natCast];refine B6 [.cA] [(1,368)] [] (sg_ ?_);simp
theorem C5t(n:Nat)(hn:n<=4194304):cA_ B3f [.sc (.slice none 0 0),sI n] [] (.sl 1 0 0 0) [(1, .arr 4 (A9 cR.enc dF_ []))]:=by
 rcases Nat.eq_zero_or_pos n with rfl |h0
 ·have w1:IntKind.i64.wrap (0-0)=0:=rfl
  refine I7 hm A6 Tryz.func240 rfl rfl (sg_ ?_);rw[if_neg (by omega)];simp only[w1];rw[if_neg (by decide)];refine B6 [.eZ] [] [1] ?_;simp only[go_sem]
 ·exact(D2q n h0 hn).shrink rfl _
def A7v(L:List (List cR))(k:Nat):Nat:=((L.take k).flatten).length
theorem E1p {L:List (List cR)}{k:Nat}(h:k<L.length):A7v L (k+1)=A7v L k+(L.getD k dF_).length:=by unfold A7v;rw[L5 dF_ h];simp
theorem C8i(L:List (List cR))(k:Nat):A7v L k<=L.flatten.length:=by
 unfold A7v;have:L.flatten=(L.take k).flatten++(L.drop k).flatten:=by rw[<-List.flatten_append,List.take_append_drop]
 rw[this,List.length_append];omega
theorem C1y(L:List (List cR))(hL:L.flatten.length<=4194304)(hl:L.length<=1000):cA_ C1m [A4 1 D34 dF_ L] [] (A4 4 cR.enc dF_ L.flatten) []:=by
 refine en1 hm A6 Tryz.func147 rfl rfl (sg_ ?_);refine B1 hm (ι:= {i:Nat // i<=L.length}) (λi=> [(0, .cA,A4 1 D34 dF_ L),(3, .cA,sI (A7v L i.1)),(9, .cA,A4 1 D34 dF_ L),(10, .cA,sI L.length),(11, .cA,sI i.1)])
  (λi=> []) (λi=>L.length-i.1) ⟨0,by omega⟩ ?_ ?_
 ·refine E0 [] [] (sg_ ?_);simp[A7v]
 ·rintro⟨i,hi⟩;have hs:=C8i L i;refine sg_ ?_;by_cases hlt:(i:Int)<L.length
  ·rw[if_pos hlt];have hlt:i<L.length:=by omega
   have hs2:=C8i L (i+1)
   have he:=E1p hlt;refine⟨ok_,?_⟩;have hw:IntKind.i64.wrap ((A7v L i:Int)+((L.getD i dF_).length:Int))=(A7v L (i+1):Int):=by rw[IntKind.wrap_i64,he];omega
   rw[hw,if_neg (by omega)];refine A8 ⟨i+1,by omega⟩ (by show L.length-(i+1)<L.length-i;omega) (E0 [] [] ?_);refine sg_ ?_;exact(by rw[IntKind.wrap_i64];omega)
  ·rw[if_neg hlt];obtain rfl:i=L.length:=by omega
   have hfull:A7v L L.length=L.flatten.length:=by unfold A7v;rw[List.take_length]
   refine B5 [true,true] [(1,7)] (C5t (A7v L L.length) (by omega)) (by simp) (by simp) (by simp) (by simp) (sg_ ?_);refine B1 hm (ι:= {i:Nat // i<=L.length}) (λi=> [(6, .cA, .sl 7 0 (A7v L i.1) (A7v L i.1)),(25, .cA,A4 1 D34 dF_ L),(26, .cA,sI L.length),(27, .cA,sI i.1)])
    (λi=> [(7, .arr 4 (A9 cR.enc dF_ (L.take i.1).flatten))]) (λi=>L.length-i.1) ⟨0,by omega⟩ ?_ ?_
   ·refine E0 [] [] (sg_ ?_);simp[A7v,List.take_zero,go_sem]
   ·rintro⟨i,hi⟩;have hs:=C8i L i;refine sg_ ?_;by_cases hlt:(i:Int)<L.length
    ·rw[if_pos hlt];have hlt:i<L.length:=by omega
     have hs2:=C8i L (i+1)
     have he:=E1p hlt
     have hm0:(L.take i).flatten.length=A7v L i:=rfl;refine⟨ok_,?_⟩;refine⟨⟨by omega,by omega,by omega,by simp only[maxLen];omega⟩,?_⟩;refine A8 ⟨i+1,by omega⟩ (by show L.length-(i+1)<L.length-i;omega) (E0 [] [] ?_);simp only[go_sem]
     all_goals((repeat' (with_reducible apply And.intro)) <;> first |(rw[IntKind.wrap_i64];omega) |exact he.symm |exact A32 (by rw[L5 dF_ hlt];simp))
    ·rw[if_neg hlt];obtain rfl:i=L.length:=by omega
     simp only[go_sem,List.take_length];exact⟨hfull,by rw[hfull];exact D0 _⟩
theorem F37 {α:Type}{l:List α}{p:α->Bool}{i:Nat}(d:α)(h:(l.take i).all p=true)(hi:i<l.length)(hp:p (l.getD i d)=true):(l.take (i+1)).all p=true:=by rw[L5 d hi,List.all_append,h];simpa using hp
theorem F0f {α:Type}{l:List α}{p:α->Bool}{i:Nat}(d:α)(hi:i<l.length)(hp:p (l.getD i d)=false):l.all p=false:=by rw[List.all_eq_false];exact⟨_,B8 d hi,by rw[hp];simp⟩
theorem F56 {α:Type}{l:List α}{p:α->Bool}(h:(l.take l.length).all p=true):l.all p=true:=by rwa[List.take_length]at h
def D11(w:Api.World)(k:cR):Bool:= !(A70 w k)
theorem C1a(w:Api.World)(k:cR)(hw:w.cC.length<=1048576):cA_ A91 [.agg k.enc, .ptr 32 0 0 1] [(32, .box w.enc)] (sB (D11 w k)) [(32, .box w.enc)]:=by refine I7 hm A6 Tryz.func148 rfl rfl (sg_ ?_);refine A0 (C5v w k hw) rfl (sg_ ?_);refine B6 [.cA] [] [] ?_;simp only[go_sem,D11]
def B05(w:Api.World):List cR:=w.cB.map λc=>c.dQ
def A8n(w:Api.World):Bool:=w.cB.all (λc=>N4 c.cL)&&U0 (B05 w)&&U0 w.cT&& !((B05 w++w.cT).any (D11 w))
theorem G6z(w:Api.World):okO [(32, .box w.enc)]:=by refine⟨by simp[go_sem],?_⟩;simp[go_sem,F0,AV.ids]
theorem C5w(w:Api.World)(hw:Wsm w):cA_ C42 [.agg w.enc] [] (sB (A8n w)) []:=by
 obtain⟨w1,w2,w3,w4,w5,w6⟩:=hw;refine en1 hm A6 Tryz.func89 rfl rfl (sg_ ?_);refine B1 hm (ι:= {i:Nat // i<=w.cB.length/\(w.cB.take i).all (λc=>N4 c.cL)=true}) (λi=> [(1, .cA, .ptr 32 0 0 1),(3,if i.1=0 then .eZ else .cA, .sl 7 0 i.1 i.1),(7, .cA,A4 7 cY.enc dF_ w.cB),(8, .cA,sI w.cB.length),(9, .cA,sI i.1)])
  (λi=> [(32, .box w.enc),(7, .arr 4 (A9 cR.enc dF_ ((w.cB.take i.1).map λc=>c.dQ)))]) (λi=>w.cB.length-i.1) ⟨0,by omega,rfl⟩ ?_ ?_
 ·refine E0 [] [7] ?_;simp only[go_sem,List.take_zero,List.map_nil]
 ·rintro⟨i,hi,ht⟩;refine sg_ ?_;by_cases hlt:(i:Int)<w.cB.length
  ·rw[if_pos hlt];have hlt:i<w.cB.length:=by omega
   have hmm:=B8 dF_ hlt;refine⟨ok_,?_⟩;refine A0 (C5x (w.cB.getD i dF_).cL (w6 _ hmm)) rfl (sg_ ?_);cases hv:N4 (w.cB.getD i dF_).cL with
   |false=>rw[if_pos rfl];unfold A8n;have:=F0f (p:=λc:cY=>N4 c.cL) dF_ hlt hv;rw[this];rfl
   |true=>
    rw[if_neg (by simp)];have hlen:(List.map (λc:cY=>c.dQ) (List.take i w.cB)).length=i:=by simp;omega
    refine⟨⟨by omega,by omega,by simp only[maxLen];omega⟩,?_⟩;refine A8 ⟨i+1,by omega,F37 dF_ ht hlt hv⟩ (by show w.cB.length-(i+1)<w.cB.length-i;omega) (E0 [] [] ?_);refine sg_ ?_;refine⟨by omega,(by rw[IntKind.wrap_i64];omega),A1g (w.cB.getD i dF_).dQ rfl ?_⟩;rw[L5 dF_ hlt,List.map_append];rfl
  ·rw[if_neg hlt];obtain rfl:i=w.cB.length:=by omega
   have hall:=F56 ht
   have hk:(List.map (λc:cY=>c.dQ) (List.take w.cB.length w.cB))=B05 w:=by rw[List.take_length];rfl
   have hkl:(B05 w).length=w.cB.length:=by simp[B05]
   simp only[hk];refine A5i (B2e (B05 w) (by omega)) rfl ?_ ?_
   ·simp only[S3,go_sem,hkl]
   refine sg_ ?_;refine A0 (B2e w.cT w4) rfl ?_;simp only[go_sem,E8,D7,hk,hkl];have hok:A8n w=(U0 (B05 w)&&U0 w.cT&& !((B05 w++w.cT).any (D11 w))):=by unfold A8n;rw[hall,Bool.true_and]
   rw[hok];cases U0 (B05 w)with
   |false=>rfl
   |true=>
    cases U0 w.cT with
    |false=>rfl
    |true=>
     rw[if_neg (by simp)];have hC:=C1y [B05 w,w.cT] (by simp;omega) (by simp)
     have hflat: [B05 w,w.cT].flatten=B05 w++w.cT:=by simp
     rw[hflat]at hC;refine O7 hC ?_;simp only[S3,go_sem];refine⟨H1 (λ_ _=>rfl) (by simp[D34,A4,hkl]) rfl rfl,?_⟩;refine B5 [true,true] [] (B5q (B05 w++w.cT) A91 [] [.ptr 32 0 0 1] [(32, .box w.enc)] (D11 w) (by rw[List.length_append];omega) (G6z w) (by simp[go_sem,AV.ids]) (λk _=>C1a w k w1)) (by simp) (by simp) (by simp) (by simp[go_sem]) ?_;simp only[go_sem]
def A5q(s:cM):Int:=if((((!(inR s.dZ 64 8192))||(!((inR s.eG.X (-16777216) 16777216)&&(inR s.eG.Y (-16777216) 16777216))))||(!(inR s.eL 1 32)))||(!(inR s.eD 0 1048576)))=true then(6)else(0)
theorem C09(s:cM):cA_ C0b [.agg s.enc] [] (sI (A5q s)) []:=by
 refine en1 hm A6 Tryz.func85 rfl rfl ?_;have:=C77
 have:=A5q.eq_1 s;exact E7
def B9(w:Api.World):Int:=let v1:=(A5q w.cM);if(v1 != 0)=true then(17)else(if((((decide (32<(w.cC.length:Int)))||(decide (32<(w.cD.length:Int))))||(decide (8192<(w.cB.length:Int))))||(decide (8192<(w.cT.length:Int))))=true then(11)else(if((!(inR w.dJ 1 1099511627776))||(!(inR w.eK 0 1099511627776)))=true then(6)else(let v4:=(Y9 w);if v4=false then(14)else(let v5:=(A2b w);if v5=false then(15)else(let v6:=(A8n w);if v6=false then(16)else(0))))))
theorem I6(w:Api.World)(hw:Wsm w):cA_ D7g [.agg w.enc] [] (sI (B9 w)) []:=by
 refine en1 hm A6 Tryz.func47 rfl rfl ?_;have:=C09
 have:=C77
 have:=D0d
 have:=D0e
 have:=C5w
 have:=B9.eq_1 w;exact E7
end Go.Abs
end
