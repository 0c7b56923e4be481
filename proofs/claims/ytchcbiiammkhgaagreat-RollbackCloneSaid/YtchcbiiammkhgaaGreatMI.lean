/- A part of the proof: contracts of functions that the statement reaches. -/
import Derived.Test.YtchcbiiammkhgaaGreatMH
set_option linter.unusedSimpArgs false
set_option linter.unusedVariables false
set_option linter.unnecessarySimpa false
set_option maxRecDepth 100000
set_option maxHeartbeats 2000000
noncomputable section
namespace Go.Abs
open Go.Proofs
open Api
theorem C81:okO []:=⟨p_,p_⟩
def A2f(x:Int):Bool:=(x != x)
theorem C0p(x:Int):cA_ 319 [sI x] [] (sB (A2f x)) []:=by refine en1 hm A6 Tryz.func319 rfl rfl ?_;have:=A2f.eq_1 x;exact E7
def K0(x:Int)(y:Int):Int:=let v1:=(A2f x);let v2:=(A2f y);if v1=true then(if v2=true then(0)else((-1)))else(if v2=true then(1)else(if x<y then((-1))else(if y<x then(1)else(0))))
theorem A1h(x:Int)(y:Int):cA_ 375 [sI x,sI y] [] (sI (K0 x y)) []:=by
 refine en1 hm A6 Tryz.func375 rfl rfl ?_;have:=C0p
 have:=K0.eq_1 x y;exact E7
def A6s(l:List Int)(i1:Nat)(s1:Unit):(Unit) ⊕ (Int):=if((l.getD i1 0) != 0)=true then(.inr (l.getD i1 0))else(.inl ())
def A1t(l:List Int):Int:=(match I8 (A6s l) l.length ()with | .inr r=>r | .inl s1=>0)
theorem B9a(l:List Int)(hl:l.length<=1048576):cA_ 374 [A4 1 C8 0 l] [] (sI (A1t l)) []:=by
 refine en1 hm A6 Tryz.func374 rfl rfl ?_;have:=A1t.eq_1 l
 have:=λi_ s_=>A6s.eq_1 l i_ s_
 have:=λx_ Q_ σ_=> @lp_ Tryz.prog Tryz.f374.ntmps [] x_ Q_ σ_ hm (IE (A6s l) ()) (λ_=>True) l.length (λi_=> [(3, .cA,sI 0),(6, .cA,A4 1 C8 0 l),(7, .cA,sI (l.length:Int)),(8, .cA,sI (i_:Int))]) (λi_=> []) [] rfl (λ_ _=>trivial) g_ g_ g_;exact A85
def A14(a:cR)(b:cR):Int:=let v1:=(K0 a.cU b.cU);let v2:=(K0 a.dM b.dM);let v3:=(K0 a.cV b.cV);let v4:=(K0 a.dJ b.dJ);let v5:=(A1t ([v1,v2,v3,v4]));v5
theorem B39(a:cR)(b:cR):cA_ 247 [.agg a.enc, .agg b.enc] [] (sI (A14 a b)) []:=by
 refine en1 hm A6 Tryz.func247 rfl rfl (sg_ ?_);refine A0 (A1h a.cU b.cU) rfl ?_;generalize hv1:(K0 a.cU b.cU)=v1;refine sg_ ?_;refine A0 (A1h a.dM b.dM) rfl ?_;generalize hv2:(K0 a.dM b.dM)=v2;refine sg_ ?_;refine A0 (A1h a.cV b.cV) rfl ?_;generalize hv3:(K0 a.cV b.cV)=v3;refine sg_ ?_;refine A0 (A1h a.dJ b.dJ) rfl ?_;generalize hv4:(K0 a.dJ b.dJ)=v4;refine sg_ ?_;refine A4d (B9a ([v1,v2,v3,v4]) (by((simp_all;done)))) rfl ?_ ?_
 ·(try simp only[S2,go_sem]);all_goals((with_reducible and_intros) <;> exact H1 (λ_ _=>rfl) rfl rfl rfl)
 generalize hv5:(A1t ([v1,v2,v3,v4]))=v5;refine sg_ ?_;have hd:A14 a b=v5:=by(unfold A14;exact hd_)
 try rw[hd]
def B1a(a:cR)(b:cR):Bool:=let v1:=(A14 a b);(decide (v1<0))
theorem B7e(a:cR)(b:cR):cA_ 238 [.agg a.enc, .agg b.enc] [] (sB (B1a a b)) []:=by
 refine en1 hm A6 Tryz.func238 rfl rfl ?_;have:=B39
 have:=B1a.eq_1 a b;exact E7
def T4(l:List cR)(i1:Nat)(s1:Int×Int×Int×Int):(Int×Int×Int×Int) ⊕ (Bool):=let v1:=(A9z (l.getD i1 dF_));let v2:=(B1a (⟨s1.1,s1.2.1,s1.2.2.1,s1.2.2.2⟩:cR) (l.getD i1 dF_));if((!v1)||((decide (0<(i1:Int)))&&((((l.getD i1 dF_).cU==s1.1)&&(((l.getD i1 dF_).dM==s1.2.1)&&(((l.getD i1 dF_).cV==s1.2.2.1)&&((l.getD i1 dF_).dJ==s1.2.2.2))))||(!v2))))=true then(.inr false)else(.inl ((l.getD i1 dF_).cU,(l.getD i1 dF_).dM,(l.getD i1 dF_).cV,(l.getD i1 dF_).dJ))
def U1(l:List cR):Bool:=(match I8 (T4 l) l.length (0,0,0,0)with | .inr r=>r | .inl s1=>true)
theorem B1u(l:List cR)(hl:l.length<=1048576):cA_ 145 [A4 4 cR.enc dF_ l] [] (sB (U1 l)) []:=by
 refine en1 hm A6 Tryz.func145 rfl rfl ?_;have:=λx1 x2 x3 x4 x5=>cx_ (B7e ⟨x1,x2,x3,x4⟩ x5)
 have:=C7a
 have:=B7e
 have:=U1.eq_1 l
 have:=λi_ s_=>T4.eq_1 l i_ s_
 have:=λx_ Q_ σ_=> @lp_ Tryz.prog Tryz.f145.ntmps [] x_ Q_ σ_ hm (IE (T4 l) (0,0,0,0)) (λ_=>True) l.length (λi_=> [(3, .cA, .ptr 64 0 0 1),(7, .cA,A4 4 cR.enc dF_ l),(8, .cA,sI (l.length:Int)),(9, .cA,sI (i_:Int))]) (λi_=> [(64, .box [sI ((stE (T4 l) i_ (0,0,0,0)).1),sI ((stE (T4 l) i_ (0,0,0,0)).2.1),sI ((stE (T4 l) i_ (0,0,0,0)).2.2.1),sI ((stE (T4 l) i_ (0,0,0,0)).2.2.2)])]) [] rfl (λ_ _=>trivial) g_ g_ g_;exact A85
def A56(v:cI):Bool:=let v1:=(A6z v.X);let v2:=(A6z v.Y);(v1||v2)
theorem C5n(v:cI):cA_ 378 [.agg v.enc] [] (sB (A56 v)) []:=by
 refine en1 hm A6 Tryz.func378 rfl rfl ?_;have:=C7t
 have:=A56.eq_1 v;exact E7
def F9(s:Shape):Int:=if((decide (s.cS<1))||(decide (3<s.cS)))=true then(10)else(let v1:=(A0o s);if v1=false then(11)else(if(s.cK.any (λx=>(A56 x)))=true then(6)else(if((s.cS==3)&&(s.eW != 0))=true then(if((s.cS==3)&&(s.eW != 0))=true then(6)else(let v2:=(O5 (s.cK.getD 1 dF_) (s.cK.getD 0 dF_));let v3:=(A97 v2);if((s.cS==2)&&(decide (v3<4096)))=true then(12)else(let v4:=(M5 s.cK);let v5:=(A4l s.cK);let v6:=(A16 s.cK);if((s.cS==3)&&(((!v4)||(decide (v5<4096)))||(decide (v6<256))))=true then(12)else(0))))else(if((s.cS != 3)&&((decide (s.eW<2048))||(decide (524288<s.eW))))=true then(6)else(let v7:=(O5 (s.cK.getD 1 dF_) (s.cK.getD 0 dF_));let v8:=(A97 v7);if((s.cS==2)&&(decide (v8<4096)))=true then(12)else(let v9:=(M5 s.cK);let v10:=(A4l s.cK);let v11:=(A16 s.cK);if((s.cS==3)&&(((!v9)||(decide (v10<4096)))||(decide (v11<256))))=true then(12)else(0)))))))
theorem A11(s:Shape)(hn:s.cK.length<=1048576):cA_ 248 [.agg s.enc] [] (sI (F9 s)) []:=by
 refine en1 hm A6 Tryz.func248 rfl rfl ?_;have:=F72 s
 have:=C7u
 have:=(B71 s.cK 378 [] [] [] (λx=>(A56 x)) (by(omega)) C81 (by simp[AV.ids,F6]) (λx _=>C5n x))
 have:=L9
 have:=W6
 have:=B7t s.cK
 have:=A7b
 have:=C1h
 have:=C2i
 have:=F9.eq_1 s;exact E7
def A2j(f:cY):Int:=let v1:=(F9 f.Shape);if(v1 != 0)=true then(v1)else(if((!(((inR f.fS 0 262144)&&(inR f.eK 0 131072))&&(inR f.fC 0 65536)))||(!(((inR f.fR 0 65535)&&(inR f.fX 0 65535))&&(inR f.fW (-32) 32))))=true then(6)else(0))
theorem C1b(f:cY)(hn:f.Shape.cK.length<=1048576):cA_ 227 [.agg f.enc] [] (sI (A2j f)) []:=by
 refine en1 hm A6 Tryz.func227 rfl rfl ?_;have:=A11
 have:=B66
 have:=A2j.eq_1 f;exact E7
def A5g(n:Int):Bool:=(!(inR n (-536870911) 536870911))
theorem C4k(n:Int):cA_ 364 [sI n] [] (sB (A5g n)) []:=by
 refine en1 hm A6 Tryz.func364 rfl rfl ?_;have:=C4j
 have:=A5g.eq_1 n;exact E7
def A3l(l:List Int):Bool:=(!(l.any (λx=>(A5g x))))
theorem B7j(l:List Int)(hl:l.length<=1048576):cA_ 234 [A4 1 C8 0 l] [] (sB (A3l l)) []:=by
 refine en1 hm A6 Tryz.func234 rfl rfl ?_;have:=(A5l l 364 [] [] [] (λx=>(A5g x)) (by(omega)) C81 (by simp[AV.ids,F6]) (λx _=>C4k x))
 have:=A3l.eq_1 l;exact E7
def R8(p:cN):Bool:=if(decide (p.eL<0))=false then(let v1:=(A3l ([p.eU.X,p.eU.Y,p.eZ,p.ID,p.eL,p.eS]));((decide (p.eL<0))||(!v1)))else(true)
theorem B9h(p:cN):cA_ 236 [.agg p.enc] [] (sB (R8 p)) []:=by
 refine en1 hm A6 Tryz.func236 rfl rfl (sg_ ?_);by_cases h1:(decide (p.eL<0))=false
 ·rw[zc h1]
  (repeat(with_reducible refine And.intro ?_ ?_;exact aI_))
  refine A4d (B7j ([p.eU.X,p.eU.Y,p.eZ,p.ID,p.eL,p.eS]) (by((simp_all;done)))) rfl ?_ ?_
  ·(try simp only[S2,go_sem]);all_goals((with_reducible and_intros) <;> exact H1 (λ_ _=>rfl) rfl rfl rfl)
  generalize hv1:(A3l ([p.eU.X,p.eU.Y,p.eZ,p.ID,p.eL,p.eS]))=v1;simp only[go_sem,D6];have hd:R8 p=((decide (p.eL<0))||(!v1)):=by(unfold R8;exact hd_)
  try rw[hd]
 ·rw[zb h1]
  (repeat(with_reducible refine And.intro ?_ ?_;exact aI_))
  have hd:R8 p=true:=by(unfold R8;exact hd_)
  try rw[hd]
def J6(m:cL):Bool:=if(((decide ((m.cQ.length:Int)<1))||(decide (2<(m.cQ.length:Int))))||(((m.cQ.length:Int)==2)&&((m.cQ.getD 0 dF_).ID==(m.cQ.getD 1 dF_).ID)))=false then(let v1:=(A3l ([m.dG.X,m.dG.Y]));if((((decide ((m.cQ.length:Int)<1))||(decide (2<(m.cQ.length:Int))))||(((m.cQ.length:Int)==2)&&((m.cQ.getD 0 dF_).ID==(m.cQ.getD 1 dF_).ID)))||(!v1))=true then(false)else((!(m.cQ.any (λx=>(R8 x))))))else(false)
theorem C2t(m:cL)(hl:m.cQ.length<=1048576):cA_ 144 [.agg m.enc] [] (sB (J6 m)) []:=by
 refine en1 hm A6 Tryz.func144 rfl rfl ?_;simp only[go_sem,C7,D6,C0]
 (repeat(with_reducible refine And.intro ?_ ?_;exact aI_))
 by_cases h1:(((decide ((m.cQ.length:Int)<1))||(decide (2<(m.cQ.length:Int))))||(((m.cQ.length:Int)==2)&&((m.cQ.getD 0 dF_).ID==(m.cQ.getD 1 dF_).ID)))=false
 ·rw[zc h1]
  (repeat(with_reducible refine And.intro ?_ ?_;exact aI_))
  refine A4d (B7j ([m.dG.X,m.dG.Y]) (by((simp_all;done)))) rfl ?_ ?_
  ·(try simp only[S2,go_sem]);all_goals((with_reducible and_intros) <;> exact H1 (λ_ _=>rfl) rfl rfl rfl)
  generalize hv1:(A3l ([m.dG.X,m.dG.Y]))=v1;simp only[go_sem,D6,C0];by_cases h2:((((decide ((m.cQ.length:Int)<1))||(decide (2<(m.cQ.length:Int))))||(((m.cQ.length:Int)==2)&&((m.cQ.getD 0 dF_).ID==(m.cQ.getD 1 dF_).ID)))||(!v1))=true
  ·rw[zc h2];have hd:J6 m=false:=by(unfold J6;exact hd_)
   try rw[hd]
  ·rw[zb h2];refine A0 (B1f m.cQ 236 [] [] [] (λx=>(R8 x)) (by(omega)) C81 (by simp[AV.ids,F6]) (λx _=>B9h x)) rfl (sg_ ?_);have hd:J6 m=(!(m.cQ.any (λx=>(R8 x)))):=by(unfold J6;exact hd_)
   try rw[hd]
 ·rw[zb h1];have hd:J6 m=false:=by(unfold J6;exact hd_)
  try rw[hd]
  try simp only[go_sem]
  exact A8n
theorem A3e(w:Api.World)(id:Int): -1<=H5 w id/\H5 w id<(w.cC.length:Int):=C8t
def A1k(w:Api.World)(j:cF):Bool:=let v1:=(H5 w j.cV);let v2:=(H5 w j.cU);((decide (0<=v1))&&((j.cS==5)||(decide (0<=v2))))
theorem A9n(w:Api.World)(j:cF)(hl:w.cC.length<=1048576):cA_ 142 [.agg w.enc, .agg j.enc] [] (sB (A1k w j)) []:=by
 refine en1 hm A6 Tryz.func142 rfl rfl ?_;have:=A3e w j.cV
 have:=T1
 have:=A3e w j.cU
 have:=A1k.eq_1 w j;exact E7
def A73(w:Api.World)(k:cR):Bool:=let v1:=(H5 w k.cU);let v2:=(H5 w k.cV);((((decide (0<=v1))&&(decide (0<=v2)))&&(decide (k.dM<((w.cC.getD v1.toNat dF_).cH.length:Int))))&&(decide (k.dJ<((w.cC.getD v2.toNat dF_).cH.length:Int))))
theorem C2r(w:Api.World)(k:cR)(hl:w.cC.length<=1048576):cA_ 149 [.agg w.enc, .agg k.enc] [] (sB (A73 w k)) []:=by
 refine en1 hm A6 Tryz.func149 rfl rfl ?_;have:=A3e w k.cU
 have:=T1
 have:=A3e w k.cV
 have:=A73.eq_1 w k;exact E7
def X0(b:cE)(i1:Nat)(s1:Unit):(Unit) ⊕ (Int):=let v2:=(A2j (b.cH.getD i1 dF_));if(v2 != 0)=true then(.inr 13)else(.inl ())
def W9(b:cE):Int:=if(((b.cS != 1)&&(b.cS != 2))&&(b.cS != 3))=true then(10)else(let v1:=(B5a b);if v1=false then(6)else(if 4<(b.cH.length:Int)then(11)else((match I8 (X0 b) b.cH.length ()with | .inr r=>r | .inl s1=>let v3:=(B09 b);if v3=false then(14)else(0)))))
theorem B37(b:cE)(hb:cE.sm b):cA_ 140 [.agg b.enc] [] (sI (W9 b)) []:=by
 refine en1 hm A6 Tryz.func140 rfl rfl ?_;have:=hb.1
 have:=λi (h:i<b.cH.length)=>hb.2 _ (B6 dF_ h)
 have:=D5w
 have:=C1b
 have:=C9b
 have:=W9.eq_1 b
 have:=λi_ s_=>X0.eq_1 b i_ s_
 have:=λx_ Q_ σ_=> @lp_ Tryz.prog Tryz.f140.ntmps [] x_ Q_ σ_ hm (IE (X0 b) ()) (λ_=>True) b.cH.length (λi_=> [(1, .cA, .ptr 32 0 0 1),(26, .cA,A4 10 cY.enc dF_ b.cH),(27, .cA,sI (b.cH.length:Int)),(28, .cA,sI (i_:Int))]) (λi_=> [(32, .box [sI b.ID,sI b.cS,sI b.cJ.dY.X,sI b.cJ.dY.Y,sI b.cJ.eT,sI b.dO.X,sI b.dO.Y,sI b.dA,sI b.fF.X,sI b.fF.Y,sI b.fG,sI b.eC,sI b.dX,sI b.eF,sB b.fH,sB b.eE,sB b.fD,sB b.eX,sI b.eM,A4 10 cY.enc dF_ b.cH])]) [] rfl (λ_ _=>trivial) g_ g_ g_;exact A85
def T5(j:cF)(i1:Nat)(s1:Unit):(Unit) ⊕ (Bool):=if(inR ([j.cP.I0,j.cP.I1,j.cP.I2,j.cP.I3].getD i1 0) (-536870911) 536870911)=false then(.inr false)else(.inl ())
def T6(j:cF)(i2:Nat)(s2:Unit):(Unit) ⊕ (Bool):=if(inR ([j.cP.I0,j.cP.I1,j.cP.I2,j.cP.I3].getD i2 0) (-536870911) 536870911)=false then(.inr false)else(.inl ())
def O8(j:cF):Bool:=if(j.cS==5)=true then(let v1:=(A1w j.cS);(match I8 (T5 j) 4 ()with | .inr r=>r | .inl s1=>let v4:=(R1 j.dP 268435456);let v5:=(R1 j.dL 1048576);(((((((((((inR j.ID 1 1099511627776)&&v4)&&v5)&&(inR j.cW (-205888) 205887))&&(inR j.dQ v1.1 v1.2))&&(inR j.dS v1.1 v1.2))&&(decide (j.dQ<=j.dS)))&&(inR j.dN (-16777216) 16777216))&&(inR j.dR 0 536870911))&&(inR j.dB 0 536870911))&&(inR j.dH 0 536870911))))else(let v13:=(A1w j.cS);(match I8 (T6 j) 4 ()with | .inr r=>r | .inl s2=>let v16:=(R1 j.dP 1048576);let v17:=(R1 j.dL 1048576);(((((((((((inR j.ID 1 1099511627776)&&v16)&&v17)&&(inR j.cW (-205888) 205887))&&(inR j.dQ v13.1 v13.2))&&(inR j.dS v13.1 v13.2))&&(decide (j.dQ<=j.dS)))&&(inR j.dN (-16777216) 16777216))&&(inR j.dR 0 536870911))&&(inR j.dB 0 536870911))&&(inR j.dH 0 536870911))))
theorem C1g(j:cF):cA_ 229 [.agg j.enc] [] (sB (O8 j)) []:=by
 refine en1 hm A6 Tryz.func229 rfl rfl (sg_ ?_);by_cases h1:(j.cS==5)=true
 ·rw[zc h1];refine A0 (B6f j.cS) rfl ?_;generalize hv1:(A1w j.cS)=v1;refine sg_ ?_;refine B1 hm (ι:= {p:Nat×Unit // p.1<=4/\I8 (T5 j) p.1 ()= .inl p.2}) (λi=> [(1, .cA, .ptr 32 0 0 1),(3, .cA,sI 268435456),(4, .cA,sI v1.1),(5, .cA,sI v1.2),(18, .cA, .agg [sI j.cP.I0,sI j.cP.I1,sI j.cP.I2,sI j.cP.I3]),(19, .cA,sI (i.1.1:Int))]) (λi=> [(32, .box [sI j.ID,sI j.cS,sI j.cU,sI j.cV,sI j.dP.X,sI j.dP.Y,sI j.dL.X,sI j.dL.Y,sI j.eN.X,sI j.eN.Y,sI j.cW,sB j.dD,sI j.dQ,sI j.dS,sB j.dF,sI j.dN,sI j.dR,sI j.dB,sI j.dH,sB j.cZ,sI j.cP.I0,sI j.cP.I1,sI j.cP.I2,sI j.cP.I3])]) (λi=>4-i.1.1) ⟨(0,()),o_,rfl⟩ ?_ ?_
  ·refine D8 [] [] ?_;simp only[go_sem]
  ·rintro⟨⟨i1,s1⟩,hi1,hs1⟩;replace hi1:i1<=4:=hi1;replace hs1:I8 (T5 j) i1 ()= .inl s1:=hs1;refine sg_ ?_;by_cases h2:(i1:Int)<4
   ·rw[zc h2];have hlt1:i1<4:=o_
    (repeat(with_reducible refine And.intro ?_ ?_;exact aI_))
    rw[F2c (show i1<4 by omega)];refine A0 (L0 ([j.cP.I0,j.cP.I1,j.cP.I2,j.cP.I3].getD i1 0) (-536870911) 536870911) rfl (sg_ ?_);by_cases h3:(inR ([j.cP.I0,j.cP.I1,j.cP.I2,j.cP.I3].getD i1 0) (-536870911) 536870911)=false
    ·rw[zc h3];have e1:I8 (T5 j) (i1+1) ()= .inr false:=A0f hs1 (by(unfold T5;exact hd_));replace e1:=A4w e1 (show i1+1<=4 by omega);have hd:O8 j=false:=by(unfold O8;exact hd_)
     try rw[hd]
    ·rw[zb h3];have hn:I8 (T5 j) (i1+1) ()= .inl ():=A0f hs1 (by(unfold T5;exact hd_));refine A8 ⟨(i1+1,()),o_,hn⟩ (by show 4-(i1+1)<4-i1;omega) (D8 [] [] ?_);refine sg_ ?_;exact A8n
   ·rw[zb h2];have hge:i1=4:=o_
    subst hge;refine A0 (L0 j.ID 1 1099511627776) rfl (sg_ ?_);refine A0 (A5k j.dP 268435456) rfl ?_;generalize hv4:(R1 j.dP 268435456)=v4;simp only[go_sem,C7,C0];refine A0 (A5k j.dL 1048576) rfl ?_;generalize hv5:(R1 j.dL 1048576)=v5;simp only[go_sem,C7,C0];refine A0 (L0 j.cW (-205888) 205887) rfl ?_;simp only[go_sem,C7,C0];refine A0 (L0 j.dQ v1.1 v1.2) rfl ?_;simp only[go_sem,C7,C0];refine A0 (L0 j.dS v1.1 v1.2) rfl ?_;simp only[go_sem,C7,C0];refine A0 (L0 j.dN (-16777216) 16777216) rfl ?_;simp only[go_sem,C7,C0];refine A0 (L0 j.dR 0 536870911) rfl ?_;simp only[go_sem,C7,C0];refine A0 (L0 j.dB 0 536870911) rfl ?_;simp only[go_sem,C7,C0];refine A0 (L0 j.dH 0 536870911) rfl ?_;simp only[go_sem,C7,C0];have hd:O8 j=(((((((((((inR j.ID 1 1099511627776)&&v4)&&v5)&&(inR j.cW (-205888) 205887))&&(inR j.dQ v1.1 v1.2))&&(inR j.dS v1.1 v1.2))&&(decide (j.dQ<=j.dS)))&&(inR j.dN (-16777216) 16777216))&&(inR j.dR 0 536870911))&&(inR j.dB 0 536870911))&&(inR j.dH 0 536870911)):=by(unfold O8;exact hd_)
    try rw[hd]
 ·rw[zb h1];refine A0 (B6f j.cS) rfl ?_;generalize hv13:(A1w j.cS)=v13;refine sg_ ?_;refine B1 hm (ι:= {p:Nat×Unit // p.1<=4/\I8 (T6 j) p.1 ()= .inl p.2}) (λi=> [(1, .cA, .ptr 32 0 0 1),(3, .cA,sI 1048576),(4, .cA,sI v13.1),(5, .cA,sI v13.2),(18, .cA, .agg [sI j.cP.I0,sI j.cP.I1,sI j.cP.I2,sI j.cP.I3]),(19, .cA,sI (i.1.1:Int))]) (λi=> [(32, .box [sI j.ID,sI j.cS,sI j.cU,sI j.cV,sI j.dP.X,sI j.dP.Y,sI j.dL.X,sI j.dL.Y,sI j.eN.X,sI j.eN.Y,sI j.cW,sB j.dD,sI j.dQ,sI j.dS,sB j.dF,sI j.dN,sI j.dR,sI j.dB,sI j.dH,sB j.cZ,sI j.cP.I0,sI j.cP.I1,sI j.cP.I2,sI j.cP.I3])]) (λi=>4-i.1.1) ⟨(0,()),o_,rfl⟩ ?_ ?_
  ·refine D8 [] [] ?_;simp only[go_sem]
  ·rintro⟨⟨i2,s2⟩,hi2,hs2⟩;replace hi2:i2<=4:=hi2;replace hs2:I8 (T6 j) i2 ()= .inl s2:=hs2;refine sg_ ?_;by_cases h4:(i2:Int)<4
   ·rw[zc h4];have hlt2:i2<4:=o_
    (repeat(with_reducible refine And.intro ?_ ?_;exact aI_))
    rw[F2c (show i2<4 by omega)];refine A0 (L0 ([j.cP.I0,j.cP.I1,j.cP.I2,j.cP.I3].getD i2 0) (-536870911) 536870911) rfl (sg_ ?_);by_cases h5:(inR ([j.cP.I0,j.cP.I1,j.cP.I2,j.cP.I3].getD i2 0) (-536870911) 536870911)=false
    ·rw[zc h5];have e2:I8 (T6 j) (i2+1) ()= .inr false:=A0f hs2 (by(unfold T6;exact hd_));replace e2:=A4w e2 (show i2+1<=4 by omega);have hd:O8 j=false:=by(unfold O8;exact hd_)
     try rw[hd]
    ·rw[zb h5];have hn:I8 (T6 j) (i2+1) ()= .inl ():=A0f hs2 (by(unfold T6;exact hd_));refine A8 ⟨(i2+1,()),o_,hn⟩ (by show 4-(i2+1)<4-i2;omega) (D8 [] [] ?_);refine sg_ ?_;exact A8n
   ·rw[zb h4];have hge:i2=4:=o_
    subst hge;refine A0 (L0 j.ID 1 1099511627776) rfl (sg_ ?_);refine A0 (A5k j.dP 1048576) rfl ?_;generalize hv16:(R1 j.dP 1048576)=v16;simp only[go_sem,C7,C0];refine A0 (A5k j.dL 1048576) rfl ?_;generalize hv17:(R1 j.dL 1048576)=v17;simp only[go_sem,C7,C0];refine A0 (L0 j.cW (-205888) 205887) rfl ?_;simp only[go_sem,C7,C0];refine A0 (L0 j.dQ v13.1 v13.2) rfl ?_;simp only[go_sem,C7,C0];refine A0 (L0 j.dS v13.1 v13.2) rfl ?_;simp only[go_sem,C7,C0];refine A0 (L0 j.dN (-16777216) 16777216) rfl ?_;simp only[go_sem,C7,C0];refine A0 (L0 j.dR 0 536870911) rfl ?_;simp only[go_sem,C7,C0];refine A0 (L0 j.dB 0 536870911) rfl ?_;simp only[go_sem,C7,C0];refine A0 (L0 j.dH 0 536870911) rfl ?_;simp only[go_sem,C7,C0];have hd:O8 j=(((((((((((inR j.ID 1 1099511627776)&&v16)&&v17)&&(inR j.cW (-205888) 205887))&&(inR j.dQ v13.1 v13.2))&&(inR j.dS v13.1 v13.2))&&(decide (j.dQ<=j.dS)))&&(inR j.dN (-16777216) 16777216))&&(inR j.dR 0 536870911))&&(inR j.dB 0 536870911))&&(inR j.dH 0 536870911)):=by(unfold O8;exact hd_)
    try rw[hd]
def A1v(j:cF):Int:=if((decide (j.cS<1))||(decide (5<j.cS)))=true then(10)else(let v1:=(O8 j);if v1=false then(6)else(let v2:=(A9g j);if v2=false then(14)else(let v3:=(A8j j);if v3=true then(15)else(0))))
theorem A2n(j:cF):cA_ 141 [.agg j.enc] [] (sI (A1v j)) []:=by
 refine en1 hm A6 Tryz.func141 rfl rfl ?_;have:=C1g
 have:=C5j
 have:=C37
 have:=A1v.eq_1 j;exact E7
def C5w(w:Api.World):Prop:=w.cC.length<=1048576/\w.cD.length<=1048576/\w.cB.length<=1048576/\w.cT.length<=1048576/\(∀b∈w.cC,cE.sm b)/\True
theorem Wsm.to0 {w:Api.World}(h:Wsm w):C5w w:=⟨h.1,h.2.1,h.2.2.1,h.2.2.2.1,h.2.2.2.2.1,trivial⟩
def M6(w:Api.World)(i1:Nat)(s1:Int):(Int) ⊕ (Bool):=let v1:=(W9 (w.cC.getD i1 dF_));if(((v1 != 0)||(decide (w.dK<=(w.cC.getD i1 dF_).ID)))||(decide ((w.cC.getD i1 dF_).ID<=s1)))=true then(.inr false)else(.inl (w.cC.getD i1 dF_).ID)
def Z4(w:Api.World):Bool:=(match I8 (M6 w) w.cC.length 0 with | .inr r=>r | .inl s1=>true)
theorem C5t(w:Api.World)(hw:C5w w):cA_ 87 [.agg w.enc] [] (sB (Z4 w)) []:=by
 have hw1:=hw.1;refine en1 hm A6 Tryz.func87 rfl rfl (sg_ ?_);refine B1 hm (ι:= {p:Nat×Int // p.1<=w.cC.length/\I8 (M6 w) p.1 0= .inl p.2}) (λi=> [(1, .cA, .ptr 32 0 0 1),(3, .cA,sI i.1.2),(7, .cA,A4 20 cE.enc dF_ w.cC),(8, .cA,sI (w.cC.length:Int)),(9, .cA,sI (i.1.1:Int))]) (λi=> [(32, .box [sI w.cM.dZ,sI w.cM.eD.X,sI w.cM.eD.Y,sI w.cM.eG,sI w.cM.eA,A4 20 cE.enc dF_ w.cC,A4 24 cF.enc dF_ w.cD,A4 7 cX.enc dF_ w.cB,A4 4 cR.enc dF_ w.cT,sI w.dK,sI w.eJ])]) (λi=>w.cC.length-i.1.1) ⟨(0,0),o_,rfl⟩ ?_ ?_
 ·refine D8 [] [] ?_;simp only[go_sem]
 ·rintro⟨⟨i1,s1⟩,hi1,hs1⟩;replace hi1:i1<=w.cC.length:=hi1;replace hs1:I8 (M6 w) i1 0= .inl s1:=hs1;refine sg_ ?_;by_cases h1:(i1:Int)<(w.cC.length:Int)
  ·rw[zc h1];have hlt1:i1<w.cC.length:=o_
   (repeat(with_reducible refine And.intro ?_ ?_;exact aI_))
   refine A0 (B37 (w.cC.getD i1 dF_) (by(exact hw.2.2.2.2.1 _ (B6 _ o_)))) rfl ?_;generalize hv1:(W9 (w.cC.getD i1 dF_))=v1;simp only[go_sem,D6,C0];by_cases h2:(((v1 != 0)||(decide (w.dK<=(w.cC.getD i1 dF_).ID)))||(decide ((w.cC.getD i1 dF_).ID<=s1)))=true
   ·rw[zc h2];have e1:I8 (M6 w) (i1+1) 0= .inr false:=A0f hs1 (by(unfold M6;exact hd_));replace e1:=A4w e1 (show i1+1<=w.cC.length by omega);have hd:Z4 w=false:=by(unfold Z4;exact hd_)
    try rw[hd]
   ·rw[zb h2];have hn:I8 (M6 w) (i1+1) 0= .inl (w.cC.getD i1 dF_).ID:=A0f hs1 (by(unfold M6;exact hd_));refine A8 ⟨(i1+1,(w.cC.getD i1 dF_).ID),o_,hn⟩ (by show w.cC.length-(i1+1)<w.cC.length-i1;omega) (D8 [] [] ?_);refine sg_ ?_;exact A8n
  ·rw[zb h1];have hge:i1=w.cC.length:=o_
   subst hge;have hd:Z4 w=true:=by(unfold Z4;exact hd_)
   try rw[hd]
def Y6(w:Api.World)(i1:Nat)(s1:Int):(Int) ⊕ (Bool):=let v1:=(A1v (w.cD.getD i1 dF_));let v2:=(A1k w (w.cD.getD i1 dF_));let v3:=(H5 w (w.cD.getD i1 dF_).ID);if(((((v1 != 0)||(decide (w.dK<=(w.cD.getD i1 dF_).ID)))||(decide ((w.cD.getD i1 dF_).ID<=s1)))||(!v2))||(decide (0<=v3)))=true then(.inr false)else(.inl (w.cD.getD i1 dF_).ID)
def A2i(w:Api.World):Bool:=(match I8 (Y6 w) w.cD.length 0 with | .inr r=>r | .inl s1=>true)
theorem C5u(w:Api.World)(hw:C5w w):cA_ 88 [.agg w.enc] [] (sB (A2i w)) []:=by
 have hw2:=hw.2.1;have hw1:=hw.1;refine en1 hm A6 Tryz.func88 rfl rfl (sg_ ?_);refine B1 hm (ι:= {p:Nat×Int // p.1<=w.cD.length/\I8 (Y6 w) p.1 0= .inl p.2}) (λi=> [(1, .cA, .ptr 32 0 0 1),(3, .cA,sI i.1.2),(7, .cA,A4 24 cF.enc dF_ w.cD),(8, .cA,sI (w.cD.length:Int)),(9, .cA,sI (i.1.1:Int))]) (λi=> [(32, .box [sI w.cM.dZ,sI w.cM.eD.X,sI w.cM.eD.Y,sI w.cM.eG,sI w.cM.eA,A4 20 cE.enc dF_ w.cC,A4 24 cF.enc dF_ w.cD,A4 7 cX.enc dF_ w.cB,A4 4 cR.enc dF_ w.cT,sI w.dK,sI w.eJ])]) (λi=>w.cD.length-i.1.1) ⟨(0,0),o_,rfl⟩ ?_ ?_
 ·refine D8 [] [] ?_;simp only[go_sem]
 ·rintro⟨⟨i1,s1⟩,hi1,hs1⟩;replace hi1:i1<=w.cD.length:=hi1;replace hs1:I8 (Y6 w) i1 0= .inl s1:=hs1;refine sg_ ?_;by_cases h1:(i1:Int)<(w.cD.length:Int)
  ·rw[zc h1];have hlt1:i1<w.cD.length:=o_
   (repeat(with_reducible refine And.intro ?_ ?_;exact aI_))
   refine A0 (A2n (w.cD.getD i1 dF_)) rfl ?_;generalize hv1:(A1v (w.cD.getD i1 dF_))=v1;simp only[go_sem,D6,C0];refine A0 (A9n w (w.cD.getD i1 dF_) (by(exact hw.1))) rfl ?_;generalize hv2:(A1k w (w.cD.getD i1 dF_))=v2;simp only[go_sem,D6,C0];have p2:=A3e w (w.cD.getD i1 dF_).ID;refine A0 (T1 w (w.cD.getD i1 dF_).ID (by(exact hw.1))) rfl ?_;generalize hv3:(H5 w (w.cD.getD i1 dF_).ID)=v3 at*;simp only[go_sem,D6,C0];by_cases h3:(((((v1 != 0)||(decide (w.dK<=(w.cD.getD i1 dF_).ID)))||(decide ((w.cD.getD i1 dF_).ID<=s1)))||(!v2))||(decide (0<=v3)))=true
   ·rw[zc h3];have e1:I8 (Y6 w) (i1+1) 0= .inr false:=A0f hs1 (by(unfold Y6;exact hd_));replace e1:=A4w e1 (show i1+1<=w.cD.length by omega);have hd:A2i w=false:=by(unfold A2i;exact hd_)
    try rw[hd]
   ·rw[zb h3];have hn:I8 (Y6 w) (i1+1) 0= .inl (w.cD.getD i1 dF_).ID:=A0f hs1 (by(unfold Y6;exact hd_));refine A8 ⟨(i1+1,(w.cD.getD i1 dF_).ID),o_,hn⟩ (by show w.cD.length-(i1+1)<w.cD.length-i1;omega) (D8 [] [] ?_);refine sg_ ?_;exact A8n
  ·rw[zb h1];have hge:i1=w.cD.length:=o_
   subst hge;have hd:A2i w=true:=by(unfold A2i;exact hd_)
   try rw[hd]
def C8m(l:List cR):List AV:= [A4 4 cR.enc dF_ l]
attribute [go_sem] C8m
theorem C66(n:Nat)(h0:0<n)(hn:n<=4194304):cA_ 240 [.sc (.slice none 0 0),sI n] [] (.sl 1 0 0 n) [(1, .arr 4 ⟨n,λ_=>cR.zero⟩)]:=by
 have w1:IntKind.i64.wrap (0-0)=0:=rfl
 have w2:IntKind.i64.wrap ((n:Int)-0)=n:=wo_;refine I6 hm A6 Tryz.func240 rfl rfl (sg_ ?_);rw[zb o_];simp only[w1,w2];rw[zc o_];refine⟨ok_,?_⟩;refine⟨o_,?_⟩;simp only[Int.toNat_natCast];refine B8 [.cA] [(1,368)] [] (sg_ ?_);simp
theorem C2p(n:Nat)(hn:n<=4194304):cA_ 240 [.sc (.slice none 0 0),sI n] [] (.sl 1 0 0 0) [(1, .arr 4 (B0 cR.enc dF_ []))]:=by
 rcases yk n with rfl |h0
 ·have w1:IntKind.i64.wrap (0-0)=0:=rfl
  refine I6 hm A6 Tryz.func240 rfl rfl (sg_ ?_);rw[zb o_];simp only[w1];rw[zb (by decide)];refine B8 [.fA] [] [1] ?_;simp only[go_sem]
 ·exact(C66 n h0 hn).shrink rfl _
def A7x(L:List (List cR))(k:Nat):Nat:=((L.take k).flatten).length
theorem D4d {L:List (List cR)}{k:Nat}(h:k<L.length):A7x L (k+1)=A7x L k+(L.getD k dF_).length:=by unfold A7x;rw[K9 dF_ h];simp
theorem C4t(L:List (List cR))(k:Nat):A7x L k<=L.flatten.length:=by
 unfold A7x;have:L.flatten=(L.take k).flatten++(L.drop k).flatten:=by rw[<-List.flatten_append,xa]
 rw[this,zd];omega
theorem B9s(L:List (List cR))(hL:L.flatten.length<=4194304)(hl:L.length<=1000):cA_ 147 [A4 1 C8m dF_ L] [] (A4 4 cR.enc dF_ L.flatten) []:=by
 refine en1 hm A6 Tryz.func147 rfl rfl (sg_ ?_);refine B1 hm (ι:= {i:Nat // i<=L.length}) (λi=> [(0, .cA,A4 1 C8m dF_ L),(3, .cA,sI (A7x L i.1)),(9, .cA,A4 1 C8m dF_ L),(10, .cA,sI L.length),(11, .cA,sI i.1)])
  (λi=> []) (λi=>L.length-i.1) ⟨0,o_⟩ ?_ ?_
 ·refine D8 [] [] (sg_ ?_);simp[A7x]
 ·rintro⟨i,hi⟩;have hs:=C4t L i;refine sg_ ?_;by_cases hlt:(i:Int)<L.length
  ·rw[zc hlt];have hlt:i<L.length:=o_
   have hs2:=C4t L (i+1)
   have he:=D4d hlt;refine⟨ok_,?_⟩;have hw:IntKind.i64.wrap ((A7x L i:Int)+((L.getD i dF_).length:Int))=(A7x L (i+1):Int):=by rw[IntKind.wrap_i64,he];omega
   rw[hw,zb o_];refine A8 ⟨i+1,o_⟩ (by show L.length-(i+1)<L.length-i;omega) (D8 [] [] ?_);refine sg_ ?_;exact wo_
  ·rw[zb hlt];obtain rfl:i=L.length:=o_
   have hfull:A7x L L.length=L.flatten.length:=by unfold A7x;rw[zn]
   refine B5 [true,true] [(1,7)] (C2p (A7x L L.length) o_) p_ p_ p_ p_ (sg_ ?_);refine B1 hm (ι:= {i:Nat // i<=L.length}) (λi=> [(6, .cA, .sl 7 0 (A7x L i.1) (A7x L i.1)),(25, .cA,A4 1 C8m dF_ L),(26, .cA,sI L.length),(27, .cA,sI i.1)])
    (λi=> [(7, .arr 4 (B0 cR.enc dF_ (L.take i.1).flatten))]) (λi=>L.length-i.1) ⟨0,o_⟩ ?_ ?_
   ·refine D8 [] [] (sg_ ?_);simp[A7x,go_sem]
   ·rintro⟨i,hi⟩;have hs:=C4t L i;refine sg_ ?_;by_cases hlt:(i:Int)<L.length
    ·rw[zc hlt];have hlt:i<L.length:=o_
     have hs2:=C4t L (i+1)
     have he:=D4d hlt
     have hm0:(L.take i).flatten.length=A7x L i:=rfl;refine⟨ok_,?_⟩;refine⟨bE_,?_⟩;refine A8 ⟨i+1,o_⟩ (by show L.length-(i+1)<L.length-i;omega) (D8 [] [] ?_);simp only[go_sem]
     all_goals((with_reducible and_intros) <;> first |(rw[IntKind.wrap_i64];omega) |exact he.symm |exact A32 (by rw[K9 dF_ hlt];simp))
    ·rw[zb hlt];obtain rfl:i=L.length:=o_
     simp only[go_sem,zn];exact⟨hfull,by rw[hfull];exact D0 _⟩
theorem C3r {α:Type}{l:List α}{p:α->Bool}{i:Nat}(d:α)(h:(l.take i).all p=true)(hi:i<l.length)(hp:p (l.getD i d)=true):(l.take (i+1)).all p=true:=by rw[K9 d hi,List.all_append,h];simpa using hp
theorem B5z {α:Type}{l:List α}{p:α->Bool}{i:Nat}(d:α)(hi:i<l.length)(hp:p (l.getD i d)=false):l.all p=false:=by rw[List.all_eq_false];exact⟨_,B6 d hi,by rw[hp];simp⟩
theorem C6o {α:Type}{l:List α}{p:α->Bool}(h:(l.take l.length).all p=true):l.all p=true:=by rwa[zn]at h
def C6e(w:Api.World)(k:cR):Bool:= !(A73 w k)
theorem B9g(w:Api.World)(k:cR)(hw:w.cC.length<=1048576):cA_ 148 [.agg k.enc, .ptr 32 0 0 1] [(32, .box w.enc)] (sB (C6e w k)) [(32, .box w.enc)]:=by refine I6 hm A6 Tryz.func148 rfl rfl (sg_ ?_);refine A0 (C2r w k hw) rfl (sg_ ?_);refine B8 [.cA] [] [] ?_;simp only[go_sem,C6e]
def B0y(w:Api.World):List cR:=w.cB.map λc=>c.dU
def A5i(w:Api.World):Bool:=w.cB.all (λc=>J6 c.cL)&&U1 (B0y w)&&U1 w.cT&& !((B0y w++w.cT).any (C6e w))
theorem F8o(w:Api.World):okO [(32, .box w.enc)]:=by refine⟨g_,?_⟩;simp[go_sem]
theorem E87 {m:cL}(h:J6 m=true):m.cQ.length<=2:=by refine Decidable.byContradiction λhn=> ?_;unfold J6 at h;simp only[show decide (2<(m.cQ.length:Int))=true from zT o_,z8,zV,zL]at h;simp at h
theorem C1p(m:cL):cA_ 144 [.agg m.enc] [] (sB (J6 m)) []:=by
 by_cases h:m.cQ.length<=1048576
 ·exact C2t m h
 have hf:J6 m=false:=by
  cases hm:J6 m with
  |false=>rfl
  |true=>have:=E87 hm;omega
 rw[hf];refine en1 hm A6 Tryz.func144 rfl rfl ?_;have c1:((m.cQ.length:Int)<1)=False:=eq_false o_
 have c2:(2<(m.cQ.length:Int))=True:=eq_true o_
 have c3:((m.cQ.length:Int)==2)=false:=by simp;omega
 simp only[go_sem,c1,c2,c3,z6]
theorem C2s(w:Api.World)(hw:C5w w):cA_ 89 [.agg w.enc] [] (sB (A5i w)) []:=by
 obtain⟨w1,w2,w3,w4,w5,w6⟩:=hw;refine en1 hm A6 Tryz.func89 rfl rfl (sg_ ?_);refine B1 hm (ι:= {i:Nat // i<=w.cB.length/\(w.cB.take i).all (λc=>J6 c.cL)=true}) (λi=> [(1, .cA, .ptr 32 0 0 1),(3,if i.1=0 then .fA else .cA, .sl 7 0 i.1 i.1),(7, .cA,A4 7 cX.enc dF_ w.cB),(8, .cA,sI w.cB.length),(9, .cA,sI i.1)])
  (λi=> [(32, .box w.enc),(7, .arr 4 (B0 cR.enc dF_ ((w.cB.take i.1).map λc=>c.dU)))]) (λi=>w.cB.length-i.1) ⟨0,o_,rfl⟩ ?_ ?_
 ·refine D8 [] [7] ?_;simp only[go_sem]
 ·rintro⟨i,hi,ht⟩;refine sg_ ?_;by_cases hlt:(i:Int)<w.cB.length
  ·rw[zc hlt];have hlt:i<w.cB.length:=o_
   have hmm:=B6 dF_ hlt;refine⟨ok_,?_⟩;refine A0 (C1p (w.cB.getD i dF_).cL) rfl (sg_ ?_);cases hv:J6 (w.cB.getD i dF_).cL with
   |false=>rw[zc rfl];unfold A5i;have:=B5z (p:=λc:cX=>J6 c.cL) dF_ hlt hv;rw[this];rfl
   |true=>
    rw[zb p_];have hlen:(List.map (λc:cX=>c.dU) (List.take i w.cB)).length=i:=by simp;omega
    refine⟨bE_,?_⟩;refine A8 ⟨i+1,o_,C3r dF_ ht hlt hv⟩ (by show w.cB.length-(i+1)<w.cB.length-i;omega) (D8 [] [] ?_);refine sg_ ?_;refine⟨o_,wo_,A0q (w.cB.getD i dF_).dU rfl ?_⟩;rw[K9 dF_ hlt,qN];rfl
  ·rw[zb hlt];obtain rfl:i=w.cB.length:=o_
   have hall:=C6o ht
   have hk:(List.map (λc:cX=>c.dU) (List.take w.cB.length w.cB))=B0y w:=by rw[zn];rfl
   have hkl:(B0y w).length=w.cB.length:=by simp[B0y]
   simp only[hk];refine A4d (B1u (B0y w) o_) rfl ?_ ?_
   ·simp only[S2,go_sem,hkl]
   refine sg_ ?_;refine A0 (B1u w.cT w4) rfl ?_;simp only[go_sem,D6,D1,hk,hkl];have hok:A5i w=(U1 (B0y w)&&U1 w.cT&& !((B0y w++w.cT).any (C6e w))):=by unfold A5i;rw[hall,zH]
   rw[hok];cases U1 (B0y w)with
   |false=>rfl
   |true=>
    cases U1 w.cT with
    |false=>rfl
    |true=>
     rw[zb p_];have hC:=B9s [B0y w,w.cT] (by simp;omega) p_
     have hflat: [B0y w,w.cT].flatten=B0y w++w.cT:=p_
     rw[hflat]at hC;refine O6 hC ?_;simp only[S2,go_sem];refine⟨H1 (λ_ _=>rfl) (by simp[C8m,A4,hkl]) rfl rfl,?_⟩;refine B5 [true,true] [] (B4v (B0y w++w.cT) 148 [] [.ptr 32 0 0 1] [(32, .box w.enc)] (C6e w) (by rw[zd];omega) (F8o w) g_ (λk _=>B9g w k w1)) p_ p_ p_ g_ ?_;simp only[go_sem]
def A5v(s:cM):Int:=if((((!(inR s.dZ 64 8192))||(!((inR s.eD.X (-16777216) 16777216)&&(inR s.eD.Y (-16777216) 16777216))))||(!(inR s.eG 1 32)))||(!(inR s.eA 0 1048576)))=true then(6)else(0)
theorem B9f(s:cM):cA_ 85 [.agg s.enc] [] (sI (A5v s)) []:=by
 refine en1 hm A6 Tryz.func85 rfl rfl ?_;have:=C4j
 have:=A5v.eq_1 s;exact E7
def B7(w:Api.World):Int:=let v1:=(A5v w.cM);if(v1 != 0)=true then(17)else(if((((decide (32<(w.cC.length:Int)))||(decide (32<(w.cD.length:Int))))||(decide (8192<(w.cB.length:Int))))||(decide (8192<(w.cT.length:Int))))=true then(11)else(if((!(inR w.dK 1 1099511627776))||(!(inR w.eJ 0 1099511627776)))=true then(6)else(let v4:=(Z4 w);if v4=false then(14)else(let v5:=(A2i w);if v5=false then(15)else(let v6:=(A5i w);if v6=false then(16)else(0))))))
theorem B7i(w:Api.World)(hw:C5w w):cA_ 47 [.agg w.enc] [] (sI (B7 w)) []:=by
 refine en1 hm A6 Tryz.func47 rfl rfl ?_;have:=B9f
 have:=C4j
 have:=C5t
 have:=C5u
 have:=C2s
 have:=B7.eq_1 w;exact E7
theorem H8(w:Api.World)(hw:Wsm w):cA_ 47 [.agg w.enc] [] (sI (B7 w)) []:=B7i w hw.to0
theorem C7w(l:List Row)(hl:l.length<=1048576):cA_ 440 [A4 14 Row.enc dF_ l] [] (.sl 1 0 l.length l.length) [(1, .arr 14 (B0 Row.enc dF_ l))]:=by
 by_cases hn:l= []
 ·subst hn;refine D5.nil_split (g:=I9 Row.enc dF_ ([]:List Row)) [] [] ?_ (λa c=> ?_)
  ·refine I6 hm A6 Tryz.func440 rfl rfl (st_ ?_);refine B8 [.fA] [] [1] ?_;simp only[go_sem,go_sem_proc]
  ·refine I6 hm A6 Tryz.func440 rfl rfl (st_ ?_);refine⟨by simp[maxLen],?_⟩;refine B8 [.cA] [(1,96)] [] (st_ ?_);exact⟨rfl,rfl,λi hi=>absurd hi p_⟩
 ·have hpos:0<l.length:=qu.2 hn
  refine I6 hm A6 Tryz.func440 rfl rfl (st_ ?_);refine⟨hpos,⟨o_,by simp only[maxLen];omega⟩,?_⟩;refine B8 [.cA] [(1,96)] [] ?_;simp only[go_sem,go_sem_proc]
theorem A9s(l:List cG)(hl:l.length<=1048576):cA_ 439 [A4 5 cG.enc dF_ l] [] (.sl 1 0 l.length l.length) [(1, .arr 5 (B0 cG.enc dF_ l))]:=by
 by_cases hn:l= []
 ·subst hn;refine D5.nil_split (g:=I9 cG.enc dF_ ([]:List cG)) [] [] ?_ (λa c=> ?_)
  ·refine I6 hm A6 Tryz.func439 rfl rfl (st_ ?_);refine B8 [.fA] [] [1] ?_;simp only[go_sem,go_sem_proc]
  ·refine I6 hm A6 Tryz.func439 rfl rfl (st_ ?_);refine⟨by simp[maxLen],?_⟩;refine B8 [.cA] [(1,96)] [] (st_ ?_);exact⟨rfl,rfl,λi hi=>absurd hi p_⟩
 ·have hpos:0<l.length:=qu.2 hn
  refine I6 hm A6 Tryz.func439 rfl rfl (st_ ?_);refine⟨hpos,⟨o_,by simp only[maxLen];omega⟩,?_⟩;refine B8 [.cA] [(1,96)] [] ?_;simp only[go_sem,go_sem_proc]
theorem C1l(l:List cY)(hl:l.length<=1048576):cA_ 552 [A4 10 cY.enc dF_ l] [] (.sl 1 0 l.length l.length) [(1, .arr 10 (B0 cY.enc dF_ l))]:=by
 by_cases hn:l= []
 ·subst hn;refine D5.nil_split (g:=I9 cY.enc dF_ ([]:List cY)) [] [] ?_ (λa c=> ?_)
  ·refine I6 hm A6 Tryz.func552 rfl rfl (st_ ?_);refine B8 [.fA] [] [1] ?_;simp only[go_sem,go_sem_proc]
  ·refine I6 hm A6 Tryz.func552 rfl rfl (st_ ?_);refine⟨by simp[maxLen],?_⟩;refine B8 [.cA] [(1,96)] [] (st_ ?_);exact⟨rfl,rfl,λi hi=>absurd hi p_⟩
 ·have hpos:0<l.length:=qu.2 hn
  refine I6 hm A6 Tryz.func552 rfl rfl (st_ ?_);refine⟨hpos,⟨o_,by simp only[maxLen];omega⟩,?_⟩;refine B8 [.cA] [(1,96)] [] ?_;simp only[go_sem,go_sem_proc]
def A13(ps:List cI)(i1:Nat)(s1:Int×Int×Int×Int):Int×Int×Int×Int:=let v2:=(L8 ((ps.drop 1).getD i1 dF_));let v3:=(B8n (⟨s1.1,s1.2.1⟩:cI) v2);let v4:=(B8o (⟨s1.2.2.1,s1.2.2.2⟩:cI) v2);(v3.X,v3.Y,v4.X,v4.Y)
def A1e(ps:List cI):fL×Bool:=if((ps.length:Int)==0)=true then(((⟨(⟨0,0⟩:cI),(⟨0,0⟩:cI)⟩:fL),false))else(let v1:=(L8 (ps.getD 0 dF_));let s1:=itr (A13 ps) (ps.drop 1).length (v1.X,v1.Y,v1.X,v1.Y);((⟨(⟨s1.1,s1.2.1⟩:cI),(⟨s1.2.2.1,s1.2.2.2⟩:cI)⟩:fL),true))
theorem B1d(ps:List cI)(h0:ps.length<=1048576):cA_ 277 [A4 2 cI.enc dF_ ps] [] (.tup [.agg (A1e ps).1.enc,sB ((A1e ps).2)]) []:=by
 refine S3 40 [(2,some (some 4)),(3,none)] hm A6 Tryz.func277 rfl ?_;have:=λx1 x2 x3=>cx_ (C67 ⟨x1,x2⟩ x3)
 have:=λx1 x2 x3=>cx_ (C68 ⟨x1,x2⟩ x3)
 have:=D3u
 have:=C67
 have:=C68
 have:=A1e.eq_1 ps
 have:=λi_ s_=>A13.eq_1 ps i_ s_
 have:=λx_ Q_ σ_=> @lp_ Tryz.prog 40 [] x_ Q_ σ_ hm (λ_=>True) (λ_=>True) (ps.drop 1).length (λi_=> [(2, .cA, .ptr 48 0 0 1),(5, .cA, .ptr 96 0 0 1),(20, .cA,A4 2 cI.enc dF_ (ps.drop 1)),(21, .cA,sI ((ps.drop 1).length:Int)),(22, .cA,sI (i_:Int))]) (λi_=> [(48, .box [sI 0,sI 0,sI 0,sI 0]),(96, .box [sI ((itr (A13 ps) i_ ((L8 (ps.getD 0 dF_)).X,(L8 (ps.getD 0 dF_)).Y,(L8 (ps.getD 0 dF_)).X,(L8 (ps.getD 0 dF_)).Y)).1),sI ((itr (A13 ps) i_ ((L8 (ps.getD 0 dF_)).X,(L8 (ps.getD 0 dF_)).Y,(L8 (ps.getD 0 dF_)).X,(L8 (ps.getD 0 dF_)).Y)).2.1),sI ((itr (A13 ps) i_ ((L8 (ps.getD 0 dF_)).X,(L8 (ps.getD 0 dF_)).Y,(L8 (ps.getD 0 dF_)).X,(L8 (ps.getD 0 dF_)).Y)).2.2.1),sI ((itr (A13 ps) i_ ((L8 (ps.getD 0 dF_)).X,(L8 (ps.getD 0 dF_)).Y,(L8 (ps.getD 0 dF_)).X,(L8 (ps.getD 0 dF_)).Y)).2.2.2)])]) [] trivial (λ_ _=>trivial) g_ g_ g_;exact K2
def A29(a:cI)(b:cI)(c:cI)(d:cI):Bool:=let v1:=(A1e ([a,b]));let v2:=(A1e ([c,d]));let v3:=(ori a b c);let v4:=(ori a b d);let v5:=(ori c d a);let v6:=(ori c d b);let v7:=(A27 v1.1 v2.1);((!((decide (0<(IntKind.i64.wrap (v3*v4))))||(decide (0<(IntKind.i64.wrap (v5*v6))))))&&v7)
theorem B4g(a:cI)(b:cI)(c:cI)(d:cI):cA_ 405 [.agg a.enc, .agg b.enc, .agg c.enc, .agg d.enc] [] (sB (A29 a b c d)) []:=by
 refine en1 hm A6 Tryz.func405 rfl rfl (st_ ?_);refine A4d (B1d ([a,b]) (by((simp_all;done)))) rfl ?_ ?_
 ·(try simp only[S2,go_sem,go_sem_proc]);all_goals((with_reducible and_intros) <;> exact H1 (λ_ _=>rfl) rfl rfl rfl)
 generalize hv1:(A1e ([a,b]))=v1;refine st_ ?_;refine A4d (B1d ([c,d]) (by((simp_all;done)))) rfl ?_ ?_
 ·(try simp only[S2,go_sem,go_sem_proc]);all_goals((with_reducible and_intros) <;> exact H1 (λ_ _=>rfl) rfl rfl rfl)
 generalize hv2:(A1e ([c,d]))=v2;refine st_ ?_;refine A0 (A20 a b c) rfl ?_;generalize hv3:(ori a b c)=v3;refine st_ ?_;refine A0 (A20 a b d) rfl ?_;generalize hv4:(ori a b d)=v4;refine st_ ?_;refine A0 (A20 c d a) rfl ?_;generalize hv5:(ori c d a)=v5;refine st_ ?_;refine A0 (A20 c d b) rfl ?_;generalize hv6:(ori c d b)=v6;simp only[go_sem,go_sem_proc,D6];refine A0 (C0m v1.1 v2.1) rfl ?_;generalize hv7:(A27 v1.1 v2.1)=v7;simp only[go_sem,go_sem_proc,C7,D1];have hd:A29 a b c d=((!((decide (0<(IntKind.i64.wrap (v3*v4))))||(decide (0<(IntKind.i64.wrap (v5*v6))))))&&v7):=by(simp only[A29,hv1,hv2,hv3,hv4,hv5,hv6,hv7,qj];done)
 try rw[hd]
structure F1 where
 x:cI
 y:cI
 deriving DecidableEq,Inhabited
def F1.enc(x:F1):List AV:=[sI x.x.X,sI x.x.Y,sI x.y.X,sI x.y.Y]
def F1.zero:List AV:= [sI 0,sI 0,sI 0,sI 0]
attribute [go_sem] F1.enc F1.zero
@[go_sem] theorem E3m(x:F1):F1.mk x.x x.y=x:=rfl
def W5(v2:cI)(v3:cI)(v4:cI)(v11:cI×Int)(v12:cI×Int)(v13:cI×Int)(i1:Nat)(s1:Int×Int×Int×Int):Int×Int×Int×Int:=let v14:=(B3s (([(⟨v2,v11.1⟩:F1),(⟨v12.1,v3⟩:F1),(⟨v13.1,v4⟩:F1)]).getD i1 dF_).x (([(⟨v2,v11.1⟩:F1),(⟨v12.1,v3⟩:F1),(⟨v13.1,v4⟩:F1)]).getD i1 dF_).y);let v15:=(B3s (⟨s1.1,s1.2.1⟩:cI) (⟨s1.2.2.1,s1.2.2.2⟩:cI));if v14<v15 then(((([(⟨v2,v11.1⟩:F1),(⟨v12.1,v3⟩:F1),(⟨v13.1,v4⟩:F1)]).getD i1 dF_).x.X,(([(⟨v2,v11.1⟩:F1),(⟨v12.1,v3⟩:F1),(⟨v13.1,v4⟩:F1)]).getD i1 dF_).x.Y,(([(⟨v2,v11.1⟩:F1),(⟨v12.1,v3⟩:F1),(⟨v13.1,v4⟩:F1)]).getD i1 dF_).y.X,(([(⟨v2,v11.1⟩:F1),(⟨v12.1,v3⟩:F1),(⟨v13.1,v4⟩:F1)]).getD i1 dF_).y.Y))else((s1.1,s1.2.1,s1.2.2.1,s1.2.2.2))
def A0t(a:cI)(b:cI)(c:cI)(d:cI):cI×cI:=let v1:=(A5 a);let v2:=(A5 b);let v3:=(A5 c);let v4:=(A5 d);let v5:=(A29 v1 v2 v3 v4);if v5=true then(let v6:=(A4m v3 v4 v1);let v7:=(A4m v3 v4 v2);let v8:=(A8x v6 (IntKind.i64.wrap (v6+v7)));let v9:=(A7g v1 v2 v8);(v9,v9))else(let v10:=(B4 v3 v4 v1);let v11:=(B4 v3 v4 v2);let v12:=(B4 v1 v2 v3);let v13:=(B4 v1 v2 v4);let s1:=itr (W5 v2 v3 v4 v11 v12 v13) 3 (v1.X,v1.Y,v10.1.X,v10.1.Y);((⟨s1.1,s1.2.1⟩:cI),(⟨s1.2.2.1,s1.2.2.2⟩:cI)))
theorem B07(a:cI)(b:cI)(c:cI)(d:cI):cA_ 383 [.agg a.enc, .agg b.enc, .agg c.enc, .agg d.enc] [] (.tup [.agg (A0t a b c d).1.enc, .agg (A0t a b c d).2.enc]) []:=by
 refine S3 118 [(8,some (some 2)),(9,some (some 2))] hm A6 Tryz.func383 rfl ?_;have:=λx1 x2 x3 x4=>cx_ (Y7 ⟨x1,x2⟩ ⟨x3,x4⟩)
 have:=B6j
 have:=B4g
 have:=C1i
 have:=B68
 have:=B11
 have:=B1y
 have:=Y7
 have:=A0t.eq_1 a b c d
 have:=λi_ s_=>W5.eq_1 (A5 b) (A5 c) (A5 d) (B4 (A5 c) (A5 d) (A5 b)) (B4 (A5 a) (A5 b) (A5 c)) (B4 (A5 a) (A5 b) (A5 d)) i_ s_
 have:=λx_ Q_ σ_=> @lp_ Tryz.prog 118 [] x_ Q_ σ_ hm (λ_=>True) (λ_=>True) 3 (λi_=> [(8, .cA, .ptr 144 0 0 1),(9, .cA, .ptr 160 0 0 1),(21, .cA, .ptr 352 0 0 1),(95, .cA, .sl 1536 0 3 3),(96, .cA,sI 3),(97, .cA,sI (i_:Int))]) (λi_=> [(144, .box [sI 0,sI 0]),(160, .box [sI 0,sI 0]),(352, .box [sI ((itr (W5 (A5 b) (A5 c) (A5 d) (B4 (A5 c) (A5 d) (A5 b)) (B4 (A5 a) (A5 b) (A5 c)) (B4 (A5 a) (A5 b) (A5 d))) i_ ((A5 a).X,(A5 a).Y,(B4 (A5 c) (A5 d) (A5 a)).1.X,(B4 (A5 c) (A5 d) (A5 a)).1.Y)).1),sI ((itr (W5 (A5 b) (A5 c) (A5 d) (B4 (A5 c) (A5 d) (A5 b)) (B4 (A5 a) (A5 b) (A5 c)) (B4 (A5 a) (A5 b) (A5 d))) i_ ((A5 a).X,(A5 a).Y,(B4 (A5 c) (A5 d) (A5 a)).1.X,(B4 (A5 c) (A5 d) (A5 a)).1.Y)).2.1),sI ((itr (W5 (A5 b) (A5 c) (A5 d) (B4 (A5 c) (A5 d) (A5 b)) (B4 (A5 a) (A5 b) (A5 c)) (B4 (A5 a) (A5 b) (A5 d))) i_ ((A5 a).X,(A5 a).Y,(B4 (A5 c) (A5 d) (A5 a)).1.X,(B4 (A5 c) (A5 d) (A5 a)).1.Y)).2.2.1),sI ((itr (W5 (A5 b) (A5 c) (A5 d) (B4 (A5 c) (A5 d) (A5 b)) (B4 (A5 a) (A5 b) (A5 c)) (B4 (A5 a) (A5 b) (A5 d))) i_ ((A5 a).X,(A5 a).Y,(B4 (A5 c) (A5 d) (A5 a)).1.X,(B4 (A5 c) (A5 d) (A5 a)).1.Y)).2.2.2)]),(1536, .arr 4 (B0 F1.enc dF_ ([(⟨(A5 b),(B4 (A5 c) (A5 d) (A5 b)).1⟩:F1),(⟨(B4 (A5 a) (A5 b) (A5 c)).1,(A5 c)⟩:F1),(⟨(B4 (A5 a) (A5 b) (A5 d)).1,(A5 d)⟩:F1)])))]) [] trivial (λ_ _=>trivial) g_ g_ g_;exact K2
def A4v(a:cI)(b:cI)(c:cI)(d:cI):Int:=let v1:=(A29 a b c d);if v1=true then(0)else(let v2:=(A0t a b c d);let v3:=(B3s v2.1 v2.2);let v4:=(isq v3);(sat v4))
theorem B6i(a:cI)(b:cI)(c:cI)(d:cI):cA_ 273 [.agg a.enc, .agg b.enc, .agg c.enc, .agg d.enc] [] (sI (A4v a b c d)) []:=by
 refine en1 hm A6 Tryz.func273 rfl rfl ?_;have:=B4g
 have:=B07
 have:=Y7
 have:=B2d
 have:=L7
 have:=A4v.eq_1 a b c d;exact E7
def Z3(s:Shape)(p:cJ)(i1:Nat)(s1:(List cI)):(List cI):=let v2:=(Z9 p (s.cK.getD i1 dF_));(s1++ [v2])
def G8(s:Shape)(p:cJ):(List cI):=let v1:=(F9 s);if(v1 != 0)=true then(([]:List cI))else(let s1:=itr (Z3 s p) s.cK.length [];s1)
theorem A8v(s:Shape)(p:cJ)(h0:s.cK.length<=1048576):cA_ 270 [.agg s.enc, .agg p.enc] [] (A4 2 cI.enc dF_ (G8 s p)) []:=by
 refine en1 hm A6 Tryz.func270 rfl rfl ?_;have:=A11
 have:=A7u
 have:=G8.eq_1 s p
 have:=λi_ s_=>Z3.eq_1 s p i_ s_
 have:=λx_ Q_ σ_=> @lp_ Tryz.prog Tryz.f270.ntmps [] x_ Q_ σ_ hm (λ_=>True) (λi_=>((itr (Z3 s p) i_ [])).length<=0+1*i_) s.cK.length (λi_=> [(3, .cA, .ptr 64 0 0 1),(5,if i_=0 then .fA else .cA, .sl 1005 0 (itr (Z3 s p) i_ []).length (itr (Z3 s p) i_ []).length),(12, .cA,A4 2 cI.enc dF_ s.cK),(13, .cA,sI (s.cK.length:Int)),(14, .cA,sI (i_:Int))]) (λi_=> [(64, .box [sI p.dY.X,sI p.dY.Y,sI p.eT]),(1005, .arr 2 (B0 cI.enc dF_ (itr (Z3 s p) i_ [])))]) [1005] trivial (λi_ hI_=>A89 (λs:(List cI)=>(s).length) 1 (λi s=>by(unfold Z3;(repeat' split) <;> simp <;> omega)) i_ _) g_ g_ g_;exact A85
theorem E3u {α β:Type}(g:α->β)(d:α)(l:List α)(st:Nat->List β->List β)(h: ∀i s,st i s=s++ [g (l.getD i d)]): ∀n,n<=l.length->itr st n []=(l.take n).map g
 |0,_=>rfl
 |n+1,hn=>by rw[H7,h,E3u g d l st h n o_,K9 d (by omega:n<l.length),qN];rfl
theorem F11(s:Shape)(p:cJ):G8 s p=if F9 s=0 then s.cK.map (λv=>Z9 p v)else []:=by
 unfold G8;by_cases h:F9 s=0
 ·rw[zb (by simp[h]),zc h];have:=E3u (λv=>Z9 p v) dF_ s.cK (Z3 s p) (λi s'=>rfl) s.cK.length (ze _);rw[zn]at this;exact this
 ·rw[zc (by simp[h]),zb h]
theorem D68(s:Shape)(p:cJ):(G8 s p).length=(if F9 s=0 then s.cK.length else 0):=by rw[F11];split <;> simp
theorem B9k(s:Shape)(p:cJ):(G8 s p).length<=s.cK.length:=by rw[D68];split <;> omega
def B5b(s:Shape)(p:cJ):fL:=let v1:=(G8 s p);let v2:=(A1e v1);if v2.2=false then((⟨(⟨0,0⟩:cI),(⟨0,0⟩:cI)⟩:fL))else(let v3:=(O5 v2.1.fV (⟨s.eW,s.eW⟩:cI));let v4:=(A1o v2.1.fY (⟨s.eW,s.eW⟩:cI));(⟨v3,v4⟩:fL))
theorem D5z(s:Shape)(p:cJ)(h0:s.cK.length<=1048576):cA_ 169 [.agg s.enc, .agg p.enc] [] (.agg (B5b s p).enc) []:=by
 refine M3 32 [(4,some (some 4))] hm A6 Tryz.func169 rfl ?_;have:=λx1 x2 x3=>cx_ (L9 x1 ⟨x2,x3⟩)
 have:=λx1 x2 x3=>cx_ (A3j x1 ⟨x2,x3⟩)
 have:=B9k s p
 have:=A8v
 have:=B1d
 have:=L9
 have:=A3j
 have:=B5b.eq_1 s p;exact K2
def A5u(v:cI)(v1:(List cI))(i1:Nat)(s1:Unit):(Unit) ⊕ (Bool):=let v5:=(ori (v1.getD i1 dF_) (v1.getD ((IntKind.i64.wrap ((i1:Int)+1)).tmod (v1.length:Int)).toNat dF_) v);if v5<0 then(.inr false)else(.inl ())
def A47(s:Shape)(p:cJ)(v:cI):Bool:=let v1:=(G8 s p);if((v1.length:Int)==0)=true then(false)else(if((v1.length:Int)==1)=true then(let v2:=(O5 v (v1.getD 0 dF_));let v3:=(A97 v2);(decide (v3<=s.eW)))else(if((v1.length:Int)==2)=true then(let v4:=(A4v v v (v1.getD 0 dF_) (v1.getD 1 dF_));(decide (v4<=s.eW)))else((match I8 (A5u v v1) v1.length ()with | .inr r=>r | .inl s1=>true))))
theorem C2l(s:Shape)(p:cJ)(v:cI)(h0:s.cK.length<=1048576):cA_ 166 [.agg s.enc, .agg p.enc, .agg v.enc] [] (sB (A47 s p v)) []:=by
 refine en1 hm A6 Tryz.func166 rfl rfl ?_;have:=B9k s p
 have:=A8v
 have:=L9
 have:=W6
 have:=B6i
 have:=A20
 have:=A47.eq_1 s p v
 have:=λi_ s_=>A5u.eq_1 v (G8 s p) i_ s_
 have:=λx_ Q_ σ_=> @lp_ Tryz.prog Tryz.f166.ntmps [] x_ Q_ σ_ hm (IE (A5u v (G8 s p)) ()) (λ_=>True) (G8 s p).length (λi_=> [(5, .cA, .ptr 96 0 0 1),(7, .cA,A4 2 cI.enc dF_ (G8 s p)),(42, .cA,A4 2 cI.enc dF_ (G8 s p)),(43, .cA,sI ((G8 s p).length:Int)),(44, .cA,sI (i_:Int))]) (λi_=> [(96, .box [sI v.X,sI v.Y])]) [] rfl (λ_ _=>trivial) g_ g_ g_;exact K2
def A1n(s:Shape)(i1:Nat)(s1:Int):Int:=let v2:=(A97 (s.cK.getD i1 dF_));(if s1<v2 then v2 else s1)
def A08(s:Shape):Int:=let v1:=(F9 s);if(v1 != 0)=true then(0)else(let s1:=itr (A1n s) s.cK.length 0;let v3:=(D2 s1 s.eW);v3)
theorem C1j(s:Shape)(h0:s.cK.length<=1048576):cA_ 571 [.agg s.enc] [] (sI (A08 s)) []:=by
 refine en1 hm A6 Tryz.func571 rfl rfl ?_;have:=A11
 have:=W6
 have:=N2
 have:=A08.eq_1 s
 have:=λi_ s_=>A1n.eq_1 s i_ s_
 have:=λx_ Q_ σ_=> @lp_ Tryz.prog Tryz.f571.ntmps [] x_ Q_ σ_ hm (λ_=>True) (λ_=>True) s.cK.length (λi_=> [(1, .cA, .ptr 32 0 0 1),(3, .cA,sI (itr (A1n s) i_ 0)),(10, .cA,A4 2 cI.enc dF_ s.cK),(11, .cA,sI (s.cK.length:Int)),(12, .cA,sI (i_:Int))]) (λi_=> [(32, .box [sI s.cS,sI s.eW,A4 2 cI.enc dF_ s.cK])]) [] trivial (λ_ _=>trivial) g_ g_ g_;exact A85
end Go.Abs
end
