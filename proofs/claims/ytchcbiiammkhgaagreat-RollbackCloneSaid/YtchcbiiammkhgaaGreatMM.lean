/- A part of the proof: contracts of functions that the statement reaches. -/
import Derived.Test.YtchcbiiammkhgaaGreatML
set_option linter.unusedSimpArgs false
set_option linter.unusedVariables false
set_option linter.unnecessarySimpa false
set_option maxRecDepth 100000
set_option maxHeartbeats 2000000
noncomputable section
namespace Go.Abs
open Go.Proofs
open Api
theorem E8o(a b:dI):(V7 a b).1.cQ.length<=2:=by
 unfold V7;dsimp only;split
 ·exact zm _
 ·exact Nat.le_succ_of_le (D0l ..)
theorem E0l(a b:dI):(J8 a b).1.cQ.length<=2:=by
 unfold J8;dsimp only;generalize(if 0<(E0 a.core b.core).2 then T8 (O5 (b.core.getD 0 dF_) (Z1 a.core (b.core.getD 0 dF_))) (Q7 a.core (E0 a.core b.core).1)else(Q7 a.core (E0 a.core b.core).1,(E0 a.core b.core).2))=dl;split
 ·exact zm _
 ·exact Nat.le_succ_of_le (D0l ..)
theorem E3e(a b:dI)(i:Int):(clL a b i).length<=2:=qd (C8u a b i _) (C8v a b i)
theorem E92(a b:dI)(i:Int):(C8c a b i).1.cQ.length<=2:=by
 unfold C8c;split
 ·exact zm _
 ·exact E3e a b i
theorem D9y(m:cL)(ok:Bool)(h:m.cQ.length<=2):(X3 m ok).1.cQ.length<=2:=by
 unfold X3;split
 ·exact zm _
 ·exact h
theorem E7f(a b:dI):(N0 a b).1.cQ.length<=2:=by
 unfold N0;dsimp only;generalize E0 a.core b.core=p;generalize E0 b.core a.core=q;generalize(if p.2<q.2 then q.2 else p.2)=mx;split
 ·exact zm _
 split
 ·exact E92 ..
 split
 ·exact zm _
 ·refine D9y _ _ ?_;show(D9a _).length<=2;rw[show(D9a (clL b a q.1)).length=(clL b a q.1).length from U2 (λs:List cN=>s.length) (λi s=>by simp) _ _];exact E3e ..
theorem C9v(a:Shape)(ta:cJ)(b:Shape)(tb:cJ):(A0m a ta b tb).1.cQ.length<=2:=by
 unfold A0m;generalize L6 a ta=p;generalize L6 b tb=q;generalize F9 a=x;generalize F9 b=y;have h1:=E8o p q
 have h2:=E0l p q
 have h3:=E0l q p
 have h4:=E7f p q
 have h5:=D9y (J8 q p).1 (J8 q p).2 h3;dsimp only;split
 ·exact zm _
 split
 ·exact h1
 split
 ·exact h2
 split
 ·exact h5
 ·exact h4
def E51(w:Api.World)(k:cR):cL:=match A62 w.cB k w.cB.length with
 |some i=>(w.cB.getD i dF_).cL
 |none=>⟨⟨0,0⟩,[]⟩
def A7c(w:Api.World)(k:cR):Option cX:=
 if((I7 w k.cU k.dM).1.fM||(I7 w k.cV k.dJ).1.fM)=true then none
 else if(A0m (I7 w k.cU k.dM).1.Shape (I7 w k.cU k.dM).2.1 (I7 w k.cV k.dJ).1.Shape (I7 w k.cV k.dJ).2.1).2=false then none
 else some ⟨k,wsM (E51 w k) (A0m (I7 w k.cU k.dM).1.Shape (I7 w k.cU k.dM).2.1 (I7 w k.cV k.dJ).1.Shape (I7 w k.cV k.dJ).2.1).1⟩
def B4r(w:Api.World):List cX:=if B7 w=0 then(fpL w.cC w.cD).filterMap (A7c w)else []
def Wfw(w:Api.World):Prop:=w.cC.length<=60/\ ∀b∈w.cC,b.cH.length<=8
theorem E6o {w:Api.World}{k:cR}{c:cX}(h:A7c w k=some c):c.cL.cQ.length<=2:=by
 unfold A7c at h;split at h
 ·cases h
 split at h
 ·cases h
 injection h with h;subst h;show(wsM _ _).cQ.length<=2;rw[F5l];exact C9v ..
theorem C87(w:Api.World)(hf:Wfw w):(B4r w).length<=230400/\ ∀c∈B4r w,c.cL.cQ.length<=2:=by
 unfold B4r;split
 ·refine⟨qd (qC ..) (C8q _ _ hf.1 hf.2),λc hc=> ?_⟩;obtain⟨k,_,hk⟩:=xn.1 hc;exact E6o hk
 ·simp
theorem B25 {w:Api.World}(hw:Wsm w)(id n:Int):(I7 w id n).1.Shape.cK.length<=1048576:=by
 unfold I7;dsimp only;split
 ·exact zm _
 ·rename_i h;simp only[zy,zk,qy,Int.not_lt,Int.not_le]at h;have hl:=A3e w id;exact(hw.2.2.2.2.1 _ (B6 dF_ o_)).2 _ (B6 dF_ o_)
theorem F4a {w:Api.World}(hw:Wsm w)(k:cR):(E51 w k).cQ.length<=1048576:=by
 unfold E51;cases hf:A62 w.cB k w.cB.length with
 |none=>exact zm _
 |some i=>exact hw.2.2.2.2.2 _ (B6 dF_ (C6d hf).1)
theorem D12(w:Api.World)(hw:Wsm w)(hf:Wfw w):cA_ 96 [.agg w.enc] [] (A4 7 cX.enc dF_ (B4r w)) []:=by
 refine en1 hm A6 Tryz.func96 rfl rfl (st_ ?_);refine A0 (H8 w hw) rfl (st_ ?_);unfold B4r;by_cases hv:B7 w=0;rotate_left
 ·rw[zc (by simpa using hv),zb hv];exact G5 rfl
 rw[zb (by simpa using hv),zc hv];refine J5 ev_ K1 (B4a w.cB hw.2.2.1) (st_ ?_);have hFP:=B1t w.cC w.cD hf.1 hf.2 (λb hb f hfx=>(hw.2.2.2.2.1 b hb).2 f hfx) hw.2.1
 have hFl:=C8q w.cC w.cD hf.1 hf.2;generalize fpL w.cC w.cD=ks at hFP hFl⊢;refine A0 hFP rfl (st_ ?_);refine B1 hm (ι:= {i:Nat // i<=ks.length}) (λi=> [(1, .eP, .dE w.enc),(3, .cA, .mp 2),(4,mdA i.1, .sl 1 0 ((ks.take i.1).filterMap (A7c w)).length ((ks.take i.1).filterMap (A7c w)).length),(28, .cA,A4 4 cR.enc dF_ ks),(29, .cA,sI ks.length),(30, .cA,sI (i.1:Nat))]) (λi=> [(1, .arr 7 (B0 cX.enc dF_ ((ks.take i.1).filterMap (A7c w)))),(2, .mapS 4 (ibk w.cB w.cB.length))]) (λi=>ks.length-i.1) ⟨0,zm _⟩ ?_ ?_
 ·simp only[List.take_zero,List.filterMap_nil];refine A9 [(2,384)] [1] ?_;simp only[go_sem,go_sem_proc,A2m];exact eE_
 ·rintro⟨i,hi⟩;dsimp only;have hn:i<ks.length->(ks.take (i+1)).filterMap (A7c w)=(ks.take i).filterMap (A7c w)++(A7c w (ks.getD i dF_)).toList:=λh=>C14 h
  have hfin:ks.length<=i->(ks.take i).filterMap (A7c w)=ks.filterMap (A7c w):=λh=>by rw[show i=ks.length by omega,zn]
  have hln:=C6f (f:=A7c w) (l:=ks) i;generalize(ks.take i).filterMap (A7c w)=v at hn hfin hln⊢;refine st_ ?_;by_cases hlt:i<ks.length;rotate_left
  ·rw[zb o_,<-hfin o_];exact eE_
  rw[zc o_];refine⟨bE_,?_⟩;replace hn:=hn hlt;generalize ks.getD i dF_=k at hn⊢;refine A0 (B2q w k.cU k.dM hw.1) rfl (st_ ?_);refine A0 (B2q w k.cV k.dJ hw.1) rfl ?_;have ha:=B25 hw k.cU k.dM
  have hb:=B25 hw k.cV k.dJ
  have hom:=F4a hw k
  have hu:=A7c.eq_1 w k
  have hcl:=C9v (I7 w k.cU k.dM).1.Shape (I7 w k.cU k.dM).2.1 (I7 w k.cV k.dJ).1.Shape (I7 w k.cV k.dJ).2.1;generalize I7 w k.cU k.dM=A at hu ha hcl⊢;generalize I7 w k.cV k.dJ=B at hu hb hcl⊢;refine st_ ?_;by_cases hs:(A.1.fM||B.1.fM)=true
  ·rw[zc hs]at hu⊢;rw[hu]at hn;simp only[Option.toList,qF]at hn;refine A8 ⟨i+1,o_⟩ (by show ks.length-(i+1)<ks.length-i;omega) ?_;simp only[hn];refine A9 [] [] (st_ ?_);exact eE_
  rw[zb hs]at hu⊢;refine A0 (C7k A.1.Shape A.2.1 B.1.Shape B.2.1 ha hb) rfl ?_;generalize A0m A.1.Shape A.2.1 B.1.Shape B.2.1=C at hu hcl⊢;obtain⟨C1,C2⟩:=C;dsimp only at hu hcl;cases C2 with
  |false=>rw[zc rfl]at hu;rw[hu]at hn;simp only[Option.toList,qF]at hn;refine st_ ?_;refine A8 ⟨i+1,o_⟩ (by show ks.length-(i+1)<ks.length-i;omega) ?_;simp only[hn];refine A9 [] [] (st_ ?_);exact eE_
  |true=>
   rw[zb p_]at hu;rw[hu]at hn;simp only[Option.toList]at hn;have hat:=E7o w.cB k;unfold E51 at hn hom;cases hfc:A62 w.cB k w.cB.length with
   |none=>
    rw[hfc]at hat hn hom;simp only[Option.map_none]at hat
    dsimp only at hn hom;simp only[go_sem,go_sem_proc,hat];refine O6 (B4z ⟨⟨0,0⟩,[]⟩ C1 hom o_) ?_;simp only[S2,go_sem,go_sem_proc];refine⟨G5 rfl,bE_,?_⟩;refine A8 ⟨i+1,o_⟩ (by show ks.length-(i+1)<ks.length-i;omega) ?_;simp only[hn];refine A9 [] [] (st_ ?_);exact eE_
   |some q=>
    rw[hfc]at hat hn hom;have hq:=(C6d hfc).1;simp only[Option.map_some]at hat
    dsimp only at hn hom;simp only[go_sem,go_sem_proc,hat];refine⟨bE_,?_⟩;refine A0 (B4z (w.cB.getD q dF_).cL C1 hom o_) rfl (st_ ?_);refine⟨bE_,?_⟩;refine A8 ⟨i+1,o_⟩ (by show ks.length-(i+1)<ks.length-i;omega) ?_;simp only[hn];refine A9 [] [] (st_ ?_);exact eE_
def Q4(bs:List cG)(i:Int):cG:=if((decide (i<0))||(decide ((bs.length:Int)<=i)))=true then((⟨(⟨0,0⟩:cI),0,0,0⟩:cG))else((bs.getD i.toNat dF_))
theorem C0q(bs:List cG)(i:Int):cA_ 511 [A4 5 cG.enc dF_ bs,sI i] [] (.agg (Q4 bs i).enc) []:=by refine M3 18 [(4,some (some 5))] hm A6 Tryz.func511 rfl ?_;have:=Q4.eq_1 bs i;exact E7
def Z2(r:Row)(bs:List cG):Int:=let v1:=(Q4 bs r.A);let v2:=(Q4 bs r.B);let v3:=(O5 v2.dO v1.dO);let v4:=(Q1 r.dG v3);let v5:=(C6 v2.dA r.fO);let v6:=(D2 v4 v5);let v7:=(C6 v1.dA r.fP);let v8:=(sat (sat v6-sat v7));v8
theorem A7n(r:Row)(bs:List cG):cA_ 438 [.agg r.enc,A4 5 cG.enc dF_ bs] [] (sI (Z2 r bs)) []:=by
 refine en1 hm A6 Tryz.func438 rfl rfl ?_;have:=C0q
 have:=L9
 have:=A01
 have:=M2
 have:=N2
 have:=R7
 have:=Z2.eq_1 r bs;exact E7
def N6(a:Int)(i:Int):Int:=let v1:=(C6 a a);let v2:=(C6 v1 i);v2
theorem B9b(a:Int)(i:Int):cA_ 512 [sI a,sI i] [] (sI (N6 a i)) []:=by
 refine en1 hm A6 Tryz.func512 rfl rfl ?_;have:=M2
 have:=N6.eq_1 a i;exact E7
def A3t(r:Row)(v6:Int)(v7:Int)(i1:Nat)(s1:Int):Int:=let v8:=(D2 s1 (([v6,v7,r.dB]).getD i1 0));v8
def S8(r:Row)(bs:List cG):Int:=let v1:=(Q4 bs r.A);let v2:=(Q4 bs r.B);let v3:=(D2 v1.fK v2.fK);let v4:=(Q1 r.dG r.dG);let v5:=(C6 v3 v4);let v6:=(N6 r.fP v1.eR);let v7:=(N6 r.fO v2.eR);let s1:=itr (A3t r v6 v7) 3 v5;if s1<1 then(0)else(let v9:=(A0g 65536 s1);v9)
theorem N7(r:Row)(bs:List cG):cA_ 436 [.agg r.enc,A4 5 cG.enc dF_ bs] [] (sI (S8 r bs)) []:=by
 refine en1 hm A6 Tryz.func436 rfl rfl ?_;have:=C0q
 have:=N2
 have:=A01
 have:=M2
 have:=B9b
 have:=A7k
 have:=S8.eq_1 r bs
 have:=λi_ s_=>A3t.eq_1 r (N6 r.fP (Q4 bs r.A).eR) (N6 r.fO (Q4 bs r.B).eR) i_ s_
 have:=λx_ Q_ σ_=> @lp_ Tryz.prog Tryz.f436.ntmps [] x_ Q_ σ_ hm (λ_=>True) (λ_=>True) 3 (λi_=> [(7, .cA,sI (itr (A3t r (N6 r.fP (Q4 bs r.A).eR) (N6 r.fO (Q4 bs r.B).eR)) i_ (C6 (D2 (Q4 bs r.A).fK (Q4 bs r.B).fK) (Q1 r.dG r.dG)))),(41, .cA, .sl 672 0 3 3),(42, .cA,sI 3),(43, .cA,sI (i_:Int))]) (λi_=> [(672, .arr 1 (B0 C8 0 ([(N6 r.fP (Q4 bs r.A).eR),(N6 r.fO (Q4 bs r.B).eR),r.dB])))]) [] trivial (λ_ _=>trivial) g_ g_ g_;exact K2
def Q3(r:Row)(bs:List cG)(p:Int):(List cG):=let v1:=bs;if((decide (0<=r.A))&&(decide (r.A<(v1.length:Int))))=true then(let v2:=(C6 p (v1.getD r.A.toNat dF_).fK);let v3:=(Q2 r.dG v2);let v4:=(O5 (v1.getD r.A.toNat dF_).dO v3);let v5:=(C6 p r.fP);let v6:=(C6 v5 (v1.getD r.A.toNat dF_).eR);let v7:=(sat (sat (v1.getD r.A.toNat dF_).dA-sat v6));if((decide (0<=r.B))&&(decide (r.B<(v1.length:Int))))=true then(let v8:=(C6 p ((v1.set r.A.toNat (⟨v4,v7,(v1.getD r.A.toNat dF_).fK,(v1.getD r.A.toNat dF_).eR⟩:cG)).getD r.B.toNat dF_).fK);let v9:=(Q2 r.dG v8);let v10:=(A1o ((v1.set r.A.toNat (⟨v4,v7,(v1.getD r.A.toNat dF_).fK,(v1.getD r.A.toNat dF_).eR⟩:cG)).getD r.B.toNat dF_).dO v9);let v11:=(C6 p r.fO);let v12:=(C6 v11 ((v1.set r.A.toNat (⟨v4,v7,(v1.getD r.A.toNat dF_).fK,(v1.getD r.A.toNat dF_).eR⟩:cG)).getD r.B.toNat dF_).eR);let v13:=(D2 ((v1.set r.A.toNat (⟨v4,v7,(v1.getD r.A.toNat dF_).fK,(v1.getD r.A.toNat dF_).eR⟩:cG)).getD r.B.toNat dF_).dA v12);((v1.set r.A.toNat (⟨v4,v7,(v1.getD r.A.toNat dF_).fK,(v1.getD r.A.toNat dF_).eR⟩:cG)).set r.B.toNat (⟨v10,v13,((v1.set r.A.toNat (⟨v4,v7,(v1.getD r.A.toNat dF_).fK,(v1.getD r.A.toNat dF_).eR⟩:cG)).getD r.B.toNat dF_).fK,((v1.set r.A.toNat (⟨v4,v7,(v1.getD r.A.toNat dF_).fK,(v1.getD r.A.toNat dF_).eR⟩:cG)).getD r.B.toNat dF_).eR⟩:cG)))else((v1.set r.A.toNat (⟨v4,v7,(v1.getD r.A.toNat dF_).fK,(v1.getD r.A.toNat dF_).eR⟩:cG))))else(if((decide (0<=r.B))&&(decide (r.B<(v1.length:Int))))=true then(let v14:=(C6 p (v1.getD r.B.toNat dF_).fK);let v15:=(Q2 r.dG v14);let v16:=(A1o (v1.getD r.B.toNat dF_).dO v15);let v17:=(C6 p r.fO);let v18:=(C6 v17 (v1.getD r.B.toNat dF_).eR);let v19:=(D2 (v1.getD r.B.toNat dF_).dA v18);(v1.set r.B.toNat (⟨v16,v19,(v1.getD r.B.toNat dF_).fK,(v1.getD r.B.toNat dF_).eR⟩:cG)))else(v1))
theorem A5j(r:Row)(bs:List cG)(p:Int)(h0:bs.length<=1048576):cA_ 317 [.agg r.enc,A4 5 cG.enc dF_ bs,sI p] [] (.sl 1 0 (Q3 r bs p).length (Q3 r bs p).length) [(1, .arr 5 (B0 cG.enc dF_ (Q3 r bs p)))]:=by
 refine I6 hm A6 Tryz.func317 rfl rfl ?_;have:=A9s
 have:=M2
 have:=A51
 have:=L9
 have:=R7
 have:=A3j
 have:=N2
 have:=Q3.eq_1 r bs p;exact K2
def M0(j:cF)(a:cE)(b:cE):cI×cI:=let v1:=(Z9 b.cJ j.dL);if(j.cS != 5)=true then(let v2:=(Z9 a.cJ j.dP);(v2,v1))else((j.dP,v1))
theorem A3i(j:cF)(a:cE)(b:cE):cA_ 433 [.agg j.enc, .agg a.enc, .agg b.enc] [] (.tup [.agg (M0 j a b).1.enc, .agg (M0 j a b).2.enc]) []:=by
 refine S3 27 [(6,some (some 2)),(7,some (some 2))] hm A6 Tryz.func433 rfl ?_;have:=A7u
 have:=M0.eq_1 j a b;exact E7
def A0c(j:cF)(a:cE)(b:cE):Int:=if(j.cS==5)=true then(0)else(let v1:=(K7 a.cJ.eT);let v2:=(K7 j.cW);let v3:=(K7 (IntKind.i64.wrap (v1+v2)));let v4:=(A04 v3 b.cJ.eT);v4)
theorem A8b(j:cF)(a:cE)(b:cE):cA_ 426 [.agg j.enc, .agg a.enc, .agg b.enc] [] (sI (A0c j a b)) []:=by
 refine en1 hm A6 Tryz.func426 rfl rfl ?_;have:=A5d
 have:=B87
 have:=A0c.eq_1 j a b;exact E7
def Z8(j:cF)(a:cE):cI:=let v1:=(B1k a.cJ.eT);let v2:=(A8z v1 j.eN);v2
theorem B1e(j:cF)(a:cE):cA_ 428 [.agg j.enc, .agg a.enc] [] (.agg (Z8 j a).enc) []:=by
 refine M3 12 [(4,some (some 2))] hm A6 Tryz.func428 rfl ?_;have:=C1a
 have:=B7c
 have:=Z8.eq_1 j a;exact E7
def A3z(j:cF)(a:cE)(b:cE):Int:=let v1:=(M0 j a b);let v2:=(Z8 j a);let v3:=(O5 v1.2 v1.1);let v4:=(Q1 v2 v3);v4
theorem C5i(j:cF)(a:cE)(b:cE):cA_ 430 [.agg j.enc, .agg a.enc, .agg b.enc] [] (sI (A3z j a b)) []:=by
 refine en1 hm A6 Tryz.func430 rfl rfl ?_;have:=A3i
 have:=B1e
 have:=L9
 have:=A01
 have:=A3z.eq_1 j a b;exact E7
def A2l(j:cF)(a:cE)(b:cE):cI:=let v1:=(M0 j a b);let v2:=(O5 v1.2 v1.1);v2
theorem A84(j:cF)(a:cE)(b:cE):cA_ 418 [.agg j.enc, .agg a.enc, .agg b.enc] [] (.agg (A2l j a b).enc) []:=by
 refine M3 19 [(6,some (some 2))] hm A6 Tryz.func418 rfl ?_;have:=A3i
 have:=L9
 have:=A2l.eq_1 j a b;exact E7
def A4k(j:cF)(a:cE)(b:cE):Int:=let v1:=(A2l j a b);let v2:=(A97 v1);v2
theorem B1w(j:cF)(a:cE)(b:cE):cA_ 417 [.agg j.enc, .agg a.enc, .agg b.enc] [] (sI (A4k j a b)) []:=by
 refine en1 hm A6 Tryz.func417 rfl rfl ?_;have:=A84
 have:=W6
 have:=A4k.eq_1 j a b;exact E7
def A2g(j:cF)(a:cE)(b:cE):Int:=let v1:=(A4k j a b);if v1<j.dQ then(let v2:=(sat (sat v1-sat j.dQ));v2)else(if j.dS<v1 then(let v3:=(sat (sat v1-sat j.dS));v3)else(0))
theorem B6d(j:cF)(a:cE)(b:cE):cA_ 422 [.agg j.enc, .agg a.enc, .agg b.enc] [] (sI (A2g j a b)) []:=by
 refine en1 hm A6 Tryz.func422 rfl rfl ?_;have:=B1w
 have:=R7
 have:=A2g.eq_1 j a b;exact E7
def K3(e:Int)(dt:Int):Int:=let v1:=(A0g e dt);let v2:=(C6 13107 v1);let v3:=(Q9 v2 (-262144) 262144);v3
theorem V9(e:Int)(dt:Int):cA_ 421 [sI e,sI dt] [] (sI (K3 e dt)) []:=by
 refine en1 hm A6 Tryz.func421 rfl rfl ?_;have:=A7k
 have:=M2
 have:=A5a
 have:=K3.eq_1 e dt;exact E7
def A0b(j:cF)(a:cE)(b:cE)(ia:Int)(ib:Int)(n:cI)(s:List cG):Row:=let v1:=(M0 j a b);let v2:=(F0 a);let v3:=(O5 v1.1 v2);let v4:=(A07 v3 n);let v5:=(F0 b);let v6:=(O5 v1.2 v5);let v7:=(A07 v6 n);let v8:=(S8 (⟨ia,ib,n,v4,v7,0,0,(-536870911),536870911,j.dB,0,(-1),0⟩:Row) s);(⟨ia,ib,n,v4,v7,v8,0,(-536870911),536870911,j.dB,0,(-1),0⟩:Row)
theorem A3h(j:cF)(a:cE)(b:cE)(ia:Int)(ib:Int)(n:cI)(s:List cG)(ha: ∀f∈a.cH,f.Shape.cK.length<=1048576)(hb: ∀f∈b.cH,f.Shape.cK.length<=1048576):cA_ 420 [.agg j.enc, .agg a.enc, .agg b.enc,sI ia,sI ib, .agg n.enc,A4 5 cG.enc dF_ s] [] (.agg (A0b j a b ia ib n s).enc) []:=by
 refine M3 50 [(14,some (some 14))] hm A6 Tryz.func420 rfl ?_;have:=λx1 x2 x3 x4 x5 x6 x7 x8 x9 x10 x11 x12 x13 x14 x15=>cx_ (N7 ⟨x1,x2,⟨x3,x4⟩,x5,x6,x7,x8,x9,x10,x11,x12,x13,x14⟩ x15)
 have:=A3i
 have:=A2z
 have:=L9
 have:=A5z
 have:=N7
 have:=A0b.eq_1 j a b ia ib n s;exact E7
def A28(j:cF)(a:cE)(b:cE)(ia:Int)(ib:Int)(s:List cG)(dt:Int):(List Row):=let v1:=(A4k j a b);if((j.cS != 1)||((decide (j.dQ<v1))&&(decide (v1<j.dS))))=true then(([]:List Row))else(let v2:=(A2l j a b);let v3:=(A36 v2);if((v2.X==0)&&(v2.Y==0))=true then(let v4:=(A0b j a b ia ib (⟨65536,0⟩:cI) s);let v5:=(A2g j a b);let v6:=(K3 v5 dt);if j.dS<=j.dQ then([(⟨v4.A,v4.B,v4.dG,v4.fP,v4.fO,v4.eI,v6,v4.dQ,v4.dS,v4.dB,j.cP.I0,v4.eQ,v4.eK⟩:Row)])else(if v1<=j.dQ then([(⟨v4.A,v4.B,v4.dG,v4.fP,v4.fO,v4.eI,v6,0,v4.dS,v4.dB,j.cP.I0,v4.eQ,v4.eK⟩:Row)])else([(⟨v4.A,v4.B,v4.dG,v4.fP,v4.fO,v4.eI,v6,v4.dQ,0,v4.dB,j.cP.I0,v4.eQ,v4.eK⟩:Row)])))else(let v7:=(A0b j a b ia ib v3 s);let v8:=(A2g j a b);let v9:=(K3 v8 dt);if j.dS<=j.dQ then([(⟨v7.A,v7.B,v7.dG,v7.fP,v7.fO,v7.eI,v9,v7.dQ,v7.dS,v7.dB,j.cP.I0,v7.eQ,v7.eK⟩:Row)])else(if v1<=j.dQ then([(⟨v7.A,v7.B,v7.dG,v7.fP,v7.fO,v7.eI,v9,0,v7.dS,v7.dB,j.cP.I0,v7.eQ,v7.eK⟩:Row)])else([(⟨v7.A,v7.B,v7.dG,v7.fP,v7.fO,v7.eI,v9,v7.dQ,0,v7.dB,j.cP.I0,v7.eQ,v7.eK⟩:Row)]))))
theorem C34(j:cF)(a:cE)(b:cE)(ia:Int)(ib:Int)(s:List cG)(dt:Int)(ha: ∀f∈a.cH,f.Shape.cK.length<=1048576)(hb: ∀f∈b.cH,f.Shape.cK.length<=1048576):cA_ 302 [.agg j.enc, .agg a.enc, .agg b.enc,sI ia,sI ib,A4 5 cG.enc dF_ s,sI dt] [] (A4 14 Row.enc dF_ (A28 j a b ia ib s dt)) []:=by
 refine en1 hm A6 Tryz.func302 rfl rfl ?_;have:=λx1 x2 x3 x4 x5 x6 x7 x8 h0 h1=>cx_ (A3h x1 x2 x3 x4 x5 ⟨x6,x7⟩ x8 h0 h1)
 have:=B1w
 have:=A84
 have:=A50
 have:=A3h
 have:=B6d
 have:=V9
 have:=A28.eq_1 j a b ia ib s dt;exact K2
def S7(ia:Int)(ib:Int)(s:List cG)(o:Int):Row:=let v1:=(S8 (⟨ia,ib,(⟨0,0⟩:cI),65536,65536,0,0,(-536870911),536870911,o,0,(-1),0⟩:Row) s);(⟨ia,ib,(⟨0,0⟩:cI),65536,65536,v1,0,(-536870911),536870911,o,0,(-1),0⟩:Row)
theorem A8c(ia:Int)(ib:Int)(s:List cG)(o:Int):cA_ 423 [sI ia,sI ib,A4 5 cG.enc dF_ s,sI o] [] (.agg (S7 ia ib s o).enc) []:=by
 refine M3 19 [(8,some (some 14))] hm A6 Tryz.func423 rfl ?_;have:=λx1 x2 x3 x4 x5 x6 x7 x8 x9 x10 x11 x12 x13 x14 x15=>cx_ (N7 ⟨x1,x2,⟨x3,x4⟩,x5,x6,x7,x8,x9,x10,x11,x12,x13,x14⟩ x15)
 have:=N7
 have:=S7.eq_1 ia ib s o;exact E7
def X4(v:Int)(l:Int)(u:Int)(e:Bool)(i:Int)(dt:Int)(r:Row):(List Row):=if((!e)||((decide (l<v))&&(decide (v<u))))=true then(([]:List Row))else(if(l==u)=true then(let v1:=(sat (sat v-sat l));let v2:=(K3 v1 dt);[(⟨r.A,r.B,r.dG,r.fP,r.fO,r.eI,v2,r.dQ,r.dS,r.dB,i,r.eQ,r.eK⟩:Row)])else(if v<=l then(let v3:=(sat (sat v-sat l));let v4:=(K3 v3 dt);[(⟨r.A,r.B,r.dG,r.fP,r.fO,r.eI,v4,0,r.dS,r.dB,i,r.eQ,r.eK⟩:Row)])else(let v5:=(sat (sat v-sat u));let v6:=(K3 v5 dt);[(⟨r.A,r.B,r.dG,r.fP,r.fO,r.eI,v6,r.dQ,0,r.dB,i,r.eQ,r.eK⟩:Row)])))
theorem B4d(v:Int)(l:Int)(u:Int)(e:Bool)(i:Int)(dt:Int)(r:Row):cA_ 425 [sI v,sI l,sI u,sB e,sI i,sI dt, .agg r.enc] [] (A4 14 Row.enc dF_ (X4 v l u e i dt r)) []:=by
 refine en1 hm A6 Tryz.func425 rfl rfl ?_;have:=R7
 have:=V9
 have:=X4.eq_1 v l u e i dt r;exact K2
def R2(j:cF)(r:Row)(dt:Int):(List Row):=if j.dF=false then(([]:List Row))else(let v1:=(sat (sat 0-sat j.dN));let v2:=(C6 j.dR dt);let v3:=(sat (sat 0-sat v2));[(⟨r.A,r.B,r.dG,r.fP,r.fO,r.eI,v1,v3,v2,r.dB,j.cP.I2,r.eQ,r.eK⟩:Row)])
theorem B4e(j:cF)(r:Row)(dt:Int):cA_ 424 [.agg j.enc, .agg r.enc,sI dt] [] (.sl 1 0 (R2 j r dt).length (R2 j r dt).length) [(1, .arr 14 (B0 Row.enc dF_ (R2 j r dt)))]:=by
 refine I6 hm A6 Tryz.func424 rfl rfl ?_;have:=R7
 have:=M2
 have:=R2.eq_1 j r dt;exact K2
def X5(j:cF)(a:cE)(b:cE)(ia:Int)(ib:Int)(s:List cG)(dt:Int):(List Row):=let v1:=(M0 j a b);let v2:=(A0b j a b ia ib (⟨65536,0⟩:cI) s);let v3:=(A0b j a b ia ib (⟨0,65536⟩:cI) s);let v4:=(sat (sat v1.2.X-sat v1.1.X));let v5:=(K3 v4 dt);let v6:=(sat (sat v1.2.Y-sat v1.1.Y));let v7:=(K3 v6 dt);[(⟨v2.A,v2.B,v2.dG,v2.fP,v2.fO,v2.eI,v5,v2.dQ,v2.dS,v2.dB,j.cP.I0,v2.eQ,v2.eK⟩:Row),(⟨v3.A,v3.B,v3.dG,v3.fP,v3.fO,v3.eI,v7,v3.dQ,v3.dS,v3.dB,j.cP.I1,v3.eQ,v3.eK⟩:Row)]
theorem B4f(j:cF)(a:cE)(b:cE)(ia:Int)(ib:Int)(s:List cG)(dt:Int)(ha: ∀f∈a.cH,f.Shape.cK.length<=1048576)(hb: ∀f∈b.cH,f.Shape.cK.length<=1048576):cA_ 427 [.agg j.enc, .agg a.enc, .agg b.enc,sI ia,sI ib,A4 5 cG.enc dF_ s,sI dt] [] (A4 14 Row.enc dF_ (X5 j a b ia ib s dt)) []:=by
 refine en1 hm A6 Tryz.func427 rfl rfl ?_;have:=λx1 x2 x3 x4 x5 x6 x7 x8 h0 h1=>cx_ (A3h x1 x2 x3 x4 x5 ⟨x6,x7⟩ x8 h0 h1)
 have:=A3i
 have:=A3h
 have:=R7
 have:=V9
 have:=X5.eq_1 j a b ia ib s dt;exact K2
theorem C6p(v l u:Int)(e:Bool)(i dt:Int)(r:Row):(X4 v l u e i dt r).length<=1:=by
 unfold X4;simp only
 (repeat' split) <;> simp
theorem C6q(j:cF)(r:Row)(dt:Int):(R2 j r dt).length<=1:=by
 unfold R2;simp only
 (repeat' split) <;> simp
@[simp] theorem C6r(j:cF)(a b:cE)(ia ib:Int)(s:List cG)(dt:Int):(X5 j a b ia ib s dt).length=2:=by unfold X5;simp
def A6y(j:cF)(a:cE)(b:cE)(ia:Int)(ib:Int)(s:List cG)(dt:Int):(List Row):=if(j.cS != 2)=true then(([]:List Row))else(let v1:=(S7 ia ib s 0);let v2:=(R2 j v1 dt);let v3:=(A0c j a b);let v4:=(X4 v3 j.dQ j.dS j.dD j.cP.I3 dt v1);let v5:=(X5 j a b ia ib s dt);((v2++v4)++v5))
theorem D32(j:cF)(a:cE)(b:cE)(ia:Int)(ib:Int)(s:List cG)(dt:Int)(ha: ∀f∈a.cH,f.Shape.cK.length<=1048576)(hb: ∀f∈b.cH,f.Shape.cK.length<=1048576):cA_ 303 [.agg j.enc, .agg a.enc, .agg b.enc,sI ia,sI ib,A4 5 cG.enc dF_ s,sI dt] [] (A4 14 Row.enc dF_ (A6y j a b ia ib s dt)) []:=by
 refine en1 hm A6 Tryz.func303 rfl rfl ?_;have:=A8c
 have:=C6q j (S7 ia ib s 0) dt
 have:=B4e
 have:=A8b
 have:=C6p (A0c j a b) j.dQ j.dS j.dD j.cP.I3 dt (S7 ia ib s 0)
 have:=B4d
 have:=C6r j a b ia ib s dt
 have:=B4f
 have:=A6y.eq_1 j a b ia ib s dt;exact K2
def A54(j:cF)(a:cE)(b:cE)(ia:Int)(ib:Int)(n:cI)(o:Int)(s:List cG):Row:=let v1:=(M0 j a b);let v2:=(F0 a);let v3:=(O5 v1.1 v2);let v4:=(O5 v1.2 v1.1);let v5:=(A1o v3 v4);let v6:=(F0 b);let v7:=(O5 v1.2 v6);let v8:=(A07 v5 n);let v9:=(A07 v7 n);let v10:=(S8 (⟨ia,ib,n,v8,v9,0,0,(-536870911),536870911,o,0,(-1),0⟩:Row) s);(⟨ia,ib,n,v8,v9,v10,0,(-536870911),536870911,o,0,(-1),0⟩:Row)
theorem B41(j:cF)(a:cE)(b:cE)(ia:Int)(ib:Int)(n:cI)(o:Int)(s:List cG)(ha: ∀f∈a.cH,f.Shape.cK.length<=1048576)(hb: ∀f∈b.cH,f.Shape.cK.length<=1048576):cA_ 431 [.agg j.enc, .agg a.enc, .agg b.enc,sI ia,sI ib, .agg n.enc,sI o,A4 5 cG.enc dF_ s] [] (.agg (A54 j a b ia ib n o s).enc) []:=by
 refine M3 57 [(16,some (some 14))] hm A6 Tryz.func431 rfl ?_;have:=λx1 x2 x3 x4 x5 x6 x7 x8 x9 x10 x11 x12 x13 x14 x15=>cx_ (N7 ⟨x1,x2,⟨x3,x4⟩,x5,x6,x7,x8,x9,x10,x11,x12,x13,x14⟩ x15)
 have:=A3i
 have:=A2z
 have:=L9
 have:=A3j
 have:=A5z
 have:=N7
 have:=A54.eq_1 j a b ia ib n o s;exact E7
def A1j(j:cF)(a:cE)(b:cE)(ia:Int)(ib:Int)(n:cI)(s:List cG):Row:=let v1:=(A54 j a b ia ib n 0 s);v1
theorem C5l(j:cF)(a:cE)(b:cE)(ia:Int)(ib:Int)(n:cI)(s:List cG)(ha: ∀f∈a.cH,f.Shape.cK.length<=1048576)(hb: ∀f∈b.cH,f.Shape.cK.length<=1048576):cA_ 429 [.agg j.enc, .agg a.enc, .agg b.enc,sI ia,sI ib, .agg n.enc,A4 5 cG.enc dF_ s] [] (.agg (A1j j a b ia ib n s).enc) []:=by
 refine M3 23 [(14,some (some 14))] hm A6 Tryz.func429 rfl ?_;have:=B41
 have:=A1j.eq_1 j a b ia ib n s;exact E7
def A91(j:cF)(a:cE)(b:cE):Int:=let v1:=(M0 j a b);let v2:=(O5 v1.2 v1.1);let v3:=(Z8 j a);let v4:=(A1a v3);let v5:=(Q1 v2 v4);v5
theorem C7p(j:cF)(a:cE)(b:cE):cA_ 432 [.agg j.enc, .agg a.enc, .agg b.enc] [] (sI (A91 j a b)) []:=by
 refine en1 hm A6 Tryz.func432 rfl rfl ?_;have:=A3i
 have:=L9
 have:=B1e
 have:=C1o
 have:=A01
 have:=A91.eq_1 j a b;exact E7
def A5t(j:cF)(a:cE)(b:cE)(ia:Int)(ib:Int)(s:List cG)(dt:Int):(List Row):=if(j.cS != 3)=true then(([]:List Row))else(let v1:=(Z8 j a);let v2:=(A1j j a b ia ib v1 s);let v3:=(R2 j v2 dt);let v4:=(A3z j a b);let v5:=(X4 v4 j.dQ j.dS j.dD j.cP.I3 dt v2);let v6:=(S7 ia ib s j.dB);let v7:=(A0c j a b);let v8:=(K3 v7 dt);let v9:=(A1a v1);let v10:=(A54 j a b ia ib v9 j.dB s);let v11:=(A91 j a b);let v12:=(K3 v11 dt);((v3++v5)++ [(⟨v6.A,v6.B,v6.dG,v6.fP,v6.fO,v6.eI,v8,v6.dQ,v6.dS,v6.dB,j.cP.I1,v6.eQ,v6.eK⟩:Row),(⟨v10.A,v10.B,v10.dG,v10.fP,v10.fO,v10.eI,v12,v10.dQ,v10.dS,v10.dB,j.cP.I0,v10.eQ,v10.eK⟩:Row)]))
theorem D17(j:cF)(a:cE)(b:cE)(ia:Int)(ib:Int)(s:List cG)(dt:Int)(ha: ∀f∈a.cH,f.Shape.cK.length<=1048576)(hb: ∀f∈b.cH,f.Shape.cK.length<=1048576):cA_ 304 [.agg j.enc, .agg a.enc, .agg b.enc,sI ia,sI ib,A4 5 cG.enc dF_ s,sI dt] [] (A4 14 Row.enc dF_ (A5t j a b ia ib s dt)) []:=by
 refine en1 hm A6 Tryz.func304 rfl rfl ?_;have:=B1e
 have:=C5l
 have:=C6q j (A1j j a b ia ib (Z8 j a) s) dt
 have:=B4e
 have:=C5i
 have:=C6p (A3z j a b) j.dQ j.dS j.dD j.cP.I3 dt (A1j j a b ia ib (Z8 j a) s)
 have:=B4d
 have:=A8c
 have:=A8b
 have:=V9
 have:=C1o
 have:=B41
 have:=C7p
 have:=A5t.eq_1 j a b ia ib s dt;exact K2
def B1m(j:cF)(a:cE)(b:cE)(ia:Int)(ib:Int)(s:List cG)(dt:Int):(List Row):=if(j.cS != 4)=true then(([]:List Row))else(let v1:=(S7 ia ib s j.dB);let v2:=(A0c j a b);let v3:=(K3 v2 dt);let v4:=(X5 j a b ia ib s dt);([(⟨v1.A,v1.B,v1.dG,v1.fP,v1.fO,v1.eI,v3,v1.dQ,v1.dS,v1.dB,j.cP.I2,v1.eQ,v1.eK⟩:Row)]++v4))
theorem E2u(j:cF)(a:cE)(b:cE)(ia:Int)(ib:Int)(s:List cG)(dt:Int)(ha: ∀f∈a.cH,f.Shape.cK.length<=1048576)(hb: ∀f∈b.cH,f.Shape.cK.length<=1048576):cA_ 305 [.agg j.enc, .agg a.enc, .agg b.enc,sI ia,sI ib,A4 5 cG.enc dF_ s,sI dt] [] (A4 14 Row.enc dF_ (B1m j a b ia ib s dt)) []:=by
 refine en1 hm A6 Tryz.func305 rfl rfl ?_;have:=A8c
 have:=A8b
 have:=V9
 have:=C6r j a b ia ib s dt
 have:=B4f
 have:=B1m.eq_1 j a b ia ib s dt;exact K2
structure P0 where
 ia:Int
 ib:Int
 centerA:cI
 centerB:cI
 bodies:List cG
 deriving DecidableEq,Inhabited
def P0.enc(x:P0):List AV:=[sI x.ia,sI x.ib,sI x.centerA.X,sI x.centerA.Y,sI x.centerB.X,sI x.centerB.Y,A4 5 cG.enc dF_ x.bodies]
def P0.zero:List AV:= [sI 0,sI 0,sI 0,sI 0,sI 0,sI 0, .sc (.slice none 0 0)]
attribute [go_sem] P0.enc P0.zero
@[go_sem] theorem E5n(x:P0):P0.mk x.ia x.ib x.centerA x.centerB x.bodies=x:=rfl
def O7(a:cY)(b:cY):Int:=let v1:=(C6 a.eK b.eK);let v2:=(B8p v1);v2
theorem C1f(a:cY)(b:cY):cA_ 309 [.agg a.enc, .agg b.enc] [] (sI (O7 a b)) []:=by
 refine en1 hm A6 Tryz.func309 rfl rfl ?_;have:=M2
 have:=E00
 have:=O7.eq_1 a b;exact E7
def N1(a:cY)(b:cY):Int:=(if a.fC<b.fC then b.fC else a.fC)
theorem B7z(a:cY)(b:cY):cA_ 310 [.agg a.enc, .agg b.enc] [] (sI (N1 a b)) []:=by refine en1 hm A6 Tryz.func310 rfl rfl ?_;have:=N1.eq_1 a b;exact E7
def C9(b:cE)(i:Int):cY×Bool:=if((decide (i<0))||(decide ((b.cH.length:Int)<=i)))=true then(((⟨(⟨0,0,([]:List cI)⟩:Shape),0,0,0,false,0,0,0⟩:cY),false))else(((b.cH.getD i.toNat dF_),true))
theorem C2f(b:cE)(i:Int):cA_ 307 [.agg b.enc,sI i] [] (.tup [.agg (C9 b i).1.enc,sB ((C9 b i).2)]) []:=by refine S3 21 [(4,some (some 10)),(5,none)] hm A6 Tryz.func307 rfl ?_;have:=C9.eq_1 b i;exact K2
def A4j(p:P0)(q:cI)(d:cI):Row:=let v1:=(O5 q p.centerA);let v2:=(A07 v1 d);let v3:=(O5 q p.centerB);let v4:=(A07 v3 d);let v5:=(S8 (⟨p.ia,p.ib,d,v2,v4,0,0,0,0,0,0,(-1),0⟩:Row) p.bodies);(⟨p.ia,p.ib,d,v2,v4,v5,0,0,0,0,0,(-1),0⟩:Row)
theorem B1v(p:P0)(q:cI)(d:cI):cA_ 312 [.agg p.enc, .agg q.enc, .agg d.enc] [] (.agg (A4j p q d).enc) []:=by
 refine M3 32 [(6,some (some 14))] hm A6 Tryz.func312 rfl ?_;have:=λx1 x2 x3 x4 x5 x6 x7 x8 x9 x10 x11 x12 x13 x14 x15=>cx_ (N7 ⟨x1,x2,⟨x3,x4⟩,x5,x6,x7,x8,x9,x10,x11,x12,x13,x14⟩ x15)
 have:=L9
 have:=A5z
 have:=N7
 have:=A4j.eq_1 p q d;exact E7
def A6a(p:P0)(r:Row)(s:Int)(t:Int)(dt:Int):Int:=if 0<=s then(let v1:=(A0g s dt);let v2:=(Z2 r p.bodies);if v2<(-65536)then(let v3:=(C6 t v2);(if v3<v1 then v3 else v1))else(v1))else(let v4:=(D2 s 512);let v5:=(K3 v4 dt);let v6:=(Z2 r p.bodies);if v6<(-65536)then(let v7:=(C6 t v6);(if v7<(if v5<0 then v5 else 0)then v7 else(if v5<0 then v5 else 0)))else((if v5<0 then v5 else 0)))
theorem B06(p:P0)(r:Row)(s:Int)(t:Int)(dt:Int):cA_ 313 [.agg p.enc, .agg r.enc,sI s,sI t,sI dt] [] (sI (A6a p r s t dt)) []:=by
 refine en1 hm A6 Tryz.func313 rfl rfl ?_;have:=A7k
 have:=A7n
 have:=M2
 have:=N2
 have:=V9
 have:=A6a.eq_1 p r s t dt;exact K2
def S6(c:cX)(ia:Int)(ib:Int)(base:Int)(bs:List cG)(dt:Int)(v3:cI)(v4:cI)(v5:Int)(v6:Int)(v7:cI)(i1:Nat)(s1:(List Row)):(List Row):=let v8:=(A4j (⟨ia,ib,v3,v4,bs⟩:P0) (c.cL.cQ.getD i1 dF_).eU c.cL.dG);let v9:=(A6a (⟨ia,ib,v3,v4,bs⟩:P0) (⟨v8.A,v8.B,v8.dG,v8.fP,v8.fO,v8.eI,v8.fZ,v8.dQ,536870911,v8.dB,(c.cL.cQ.getD i1 dF_).eL,v8.eQ,v8.eK⟩:Row) (c.cL.cQ.getD i1 dF_).eZ v6 dt);let v10:=(A4j (⟨ia,ib,v3,v4,bs⟩:P0) (c.cL.cQ.getD i1 dF_).eU v7);(s1++ [(⟨v8.A,v8.B,v8.dG,v8.fP,v8.fO,v8.eI,v9,v8.dQ,536870911,v8.dB,(c.cL.cQ.getD i1 dF_).eL,v8.eQ,v8.eK⟩:Row),(⟨v10.A,v10.B,v10.dG,v10.fP,v10.fO,v10.eI,v10.fZ,v10.dQ,v10.dS,v10.dB,(c.cL.cQ.getD i1 dF_).eS,(IntKind.i64.wrap (base+(s1.length:Int))),v5⟩:Row)])
def A4t(c:cX)(a:cE)(b:cE)(ia:Int)(ib:Int)(base:Int)(bs:List cG)(dt:Int):(List Row):=let v1:=(C9 a c.dU.dM);let v2:=(C9 b c.dU.dJ);if((!v1.2)||(!v2.2))=true then(([]:List Row))else(let v3:=(F0 a);let v4:=(F0 b);let v5:=(O7 v1.1 v2.1);let v6:=(N1 v1.1 v2.1);let v7:=(A1a c.cL.dG);let s1:=itr (S6 c ia ib base bs dt v3 v4 v5 v6 v7) c.cL.cQ.length [];s1)
theorem C7e(c:cX)(a:cE)(b:cE)(ia:Int)(ib:Int)(base:Int)(bs:List cG)(dt:Int)(h0:c.cL.cQ.length<=1048576)(ha: ∀f∈a.cH,f.Shape.cK.length<=1048576)(hb: ∀f∈b.cH,f.Shape.cK.length<=1048576):cA_ 183 [.agg c.enc, .agg a.enc, .agg b.enc,sI ia,sI ib,sI base,A4 5 cG.enc dF_ bs,sI dt] [] (A4 14 Row.enc dF_ (A4t c a b ia ib base bs dt)) []:=by
 refine en1 hm A6 Tryz.func183 rfl rfl ?_;have:=λx1 x2 x3 x4 x5 x6 x7 x8 x9=>cx_ (B1v ⟨x1,x2,⟨x3,x4⟩,⟨x5,x6⟩,x7⟩ x8 x9)
 have:=λx1 x2 x3 x4 x5 x6 x7 x8 x9 x10 x11 x12 x13 x14 x15 x16 x17 x18 x19 x20 x21 x22 x23 x24=>cx_ (B06 ⟨x1,x2,⟨x3,x4⟩,⟨x5,x6⟩,x7⟩ ⟨x8,x9,⟨x10,x11⟩,x12,x13,x14,x15,x16,x17,x18,x19,x20,x21⟩ x22 x23 x24)
 have:=C2f
 have:=A2z
 have:=C1f
 have:=B7z
 have:=C1o
 have:=B1v
 have:=B06
 have:=A4t.eq_1 c a b ia ib base bs dt
 have:=λi_ s_=>S6.eq_1 c ia ib base bs dt (F0 a) (F0 b) (O7 (C9 a c.dU.dM).1 (C9 b c.dU.dJ).1) (N1 (C9 a c.dU.dM).1 (C9 b c.dU.dJ).1) (A1a c.cL.dG) i_ s_
 have:=λx_ Q_ σ_=> @lp_ Tryz.prog Tryz.f183.ntmps [] x_ Q_ σ_ hm (λ_=>True) (λi_=>((itr (S6 c ia ib base bs dt (F0 a) (F0 b) (O7 (C9 a c.dU.dM).1 (C9 b c.dU.dJ).1) (N1 (C9 a c.dU.dM).1 (C9 b c.dU.dJ).1) (A1a c.cL.dG)) i_ [])).length<=0+2*i_) c.cL.cQ.length (λi_=> [(5, .cA,sI base),(7, .cA,sI dt),(8, .cA, .ptr 144 0 0 1),(21, .cA, .ptr 352 0 0 1),(22, .cA,sI (O7 (C9 a c.dU.dM).1 (C9 b c.dU.dJ).1)),(23, .cA,sI (N1 (C9 a c.dU.dM).1 (C9 b c.dU.dJ).1)),(24, .cA, .ptr 400 0 0 1),(25,if i_=0 then .fA else .cA, .sl 1025 0 (itr (S6 c ia ib base bs dt (F0 a) (F0 b) (O7 (C9 a c.dU.dM).1 (C9 b c.dU.dJ).1) (N1 (C9 a c.dU.dM).1 (C9 b c.dU.dJ).1) (A1a c.cL.dG)) i_ []).length (itr (S6 c ia ib base bs dt (F0 a) (F0 b) (O7 (C9 a c.dU.dM).1 (C9 b c.dU.dJ).1) (N1 (C9 a c.dU.dM).1 (C9 b c.dU.dJ).1) (A1a c.cL.dG)) i_ []).length),(72, .cA,A4 6 cN.enc dF_ c.cL.cQ),(73, .cA,sI (c.cL.cQ.length:Int)),(74, .cA,sI (i_:Int))]) (λi_=> [(144, .box [sI c.dU.cU,sI c.dU.dM,sI c.dU.cV,sI c.dU.dJ,sI c.cL.dG.X,sI c.cL.dG.Y,A4 6 cN.enc dF_ c.cL.cQ]),(352, .box [sI ia,sI ib,sI ((F0 a).X),sI ((F0 a).Y),sI ((F0 b).X),sI ((F0 b).Y),A4 5 cG.enc dF_ bs]),(400, .box [sI ((A1a c.cL.dG).X),sI ((A1a c.cL.dG).Y)]),(1025, .arr 14 (B0 Row.enc dF_ (itr (S6 c ia ib base bs dt (F0 a) (F0 b) (O7 (C9 a c.dU.dM).1 (C9 b c.dU.dJ).1) (N1 (C9 a c.dU.dM).1 (C9 b c.dU.dJ).1) (A1a c.cL.dG)) i_ [])))]) [1025] trivial (λi_ hI_=>A89 (λs:(List Row)=>(s).length) 2 (λi s=>by(unfold S6;(repeat' split) <;> simp <;> omega)) i_ _) g_ g_ g_;exact K2
def A43(rs:List Row)(i:Int)(p:Int):Int:=if((decide (i<0))||(decide ((rs.length:Int)<=i)))=true then(p)else((rs.getD i.toNat dF_).fN)
theorem B27(rs:List Row)(i:Int)(p:Int):cA_ 193 [A4 14 Row.enc dF_ rs,sI i,sI p] [] (sI (A43 rs i p)) []:=by refine en1 hm A6 Tryz.func193 rfl rfl ?_;have:=A43.eq_1 rs i p;exact K2
theorem E7e(s:Shape)(p:cJ):A1u s=true->1<=(G8 s p).length/\(s.cS=1->(G8 s p).length=1)/\(s.cS=2->(G8 s p).length=2)/\(s.cS≠1->s.cS≠2->3<=(G8 s p).length)/\(G8 s p).length<=8:=by intro h;refine D0f s p ?_;unfold A1u at h;simpa using h
def A44(a:Shape)(ta:cJ)(b:Shape)(tb:cJ):Int:=let v1:=(A1u a);let v2:=(A1u b);if((!v1)||(!v2))=true then(536870911)else(let v3:=(G8 a ta);let v4:=(G8 b tb);let v5:=(A47 a ta (v4.getD 0 dF_));if((a.cS==3)&&v5)=true then(0)else(let v6:=(A47 b tb (v3.getD 0 dF_));if((b.cS==3)&&v6)=true then(0)else(let v7:=(A34 a.cS v3);let v8:=(A34 b.cS v4);let v9:=(A6u v7 v8);let v10:=(sat (sat v9-sat a.eW));let v11:=(sat (sat v10-sat b.eW));(if 0<v11 then v11 else 0))))
theorem B28(a:Shape)(ta:cJ)(b:Shape)(tb:cJ)(h0:a.cK.length<=1048576)(h1:b.cK.length<=1048576):cA_ 337 [.agg a.enc, .agg ta.enc, .agg b.enc, .agg tb.enc] [] (sI (A44 a ta b tb)) []:=by
 refine en1 hm A6 Tryz.func337 rfl rfl ?_;have:=E7e a ta
 have:=E7e b tb
 have:=B9c
 have:=B9k a ta
 have:=A8v
 have:=B9k b tb
 have:=C2l
 have:=D65 a.cS (G8 a ta)
 have:=D13
 have:=D65 b.cS (G8 b tb)
 have:=C7g
 have:=R7
 have:=A44.eq_1 a ta b tb;exact K2
def A6t(a:Shape)(ta:cJ)(b:Shape)(tb:cJ):Bool:=let v1:=(A1u a);let v2:=(A1u b);let v3:=(A44 a ta b tb);((v1&&v2)&&(v3==0))
theorem C7f(a:Shape)(ta:cJ)(b:Shape)(tb:cJ)(h0:a.cK.length<=1048576)(h1:b.cK.length<=1048576):cA_ 206 [.agg a.enc, .agg ta.enc, .agg b.enc, .agg tb.enc] [] (sB (A6t a ta b tb)) []:=by
 refine en1 hm A6 Tryz.func206 rfl rfl ?_;have:=B9c
 have:=B28
 have:=A6t.eq_1 a ta b tb;exact K2
def A4i(f:cY):cY:=let v1:=f.Shape.cK;(⟨(⟨f.Shape.cS,f.Shape.eW,v1⟩:Shape),f.fS,f.eK,f.fC,f.fM,f.fR,f.fX,f.fW⟩:cY)
theorem C1e(f:cY)(h0:f.Shape.cK.length<=1048576):cA_ 335 [.agg f.enc] [] (.agg (A4i f).enc) []:=by
 refine M3 10 [(2,some (some 10))] hm A6 Tryz.func335 rfl ?_;have:=B6k
 have:=A4i.eq_1 f;exact K2
def X6(w:Api.World)(id:Int):cJ:=let v1:=(H5 w id);(w.cC.getD v1.toNat dF_).cJ
theorem B4h(w:Api.World)(id:Int)(h0:w.cC.length<=1048576)(h1:0<=H5 w id):cA_ 207 [.agg w.enc,sI id] [] (.agg (X6 w id).enc) []:=by
 refine M3 13 [(4,some (some 3))] hm A6 Tryz.func207 rfl ?_;have:=A3e w id
 have:=T1
 have:=X6.eq_1 w id;exact K2
def N5(w:Api.World)(k:cR):cY×cY×Bool:=let v1:=(I7 w k.cU k.dM);let v2:=(I7 w k.cV k.dJ);if((!v1.2.2)||(!v2.2.2))=true then(((⟨(⟨0,0,([]:List cI)⟩:Shape),0,0,0,false,0,0,0⟩:cY),(⟨(⟨0,0,([]:List cI)⟩:Shape),0,0,0,false,0,0,0⟩:cY),false))else(let v3:=(A4i v1.1);let v4:=(A4i v2.1);(v3,v4,true))
theorem C7d(w:Api.World)(k:cR)(hw:Wsm w):cA_ 205 [.agg w.enc, .agg k.enc] [] (.tup [.agg (N5 w k).1.enc, .agg (N5 w k).2.1.enc,sB ((N5 w k).2.2)]) []:=by
 refine S3 45 [(4,some (some 10)),(5,some (some 10)),(6,none)] hm A6 Tryz.func205 rfl ?_;have:=B25 hw k.cU k.dM
 have:=B25 hw k.cV k.dJ
 have:=hw.1
 have:=B2q
 have:=C1e
 have:=N5.eq_1 w k;exact K2
def B5q(l:List cR):Nat->List (List Int×AV)
 |0=> []
 |n+1=>A66 (B5q l n) (A7j (l.getD n dF_)) (sB true)
theorem E07(l:List cR)(k:cR): ∀n,n<=l.length->A3f (B5q l n) (A7j k)=cond ((l.take n).contains k) (some (sB true)) none
 |0,_=>rfl
 |n+1,h=>by
  have ih:=E07 l k n o_;rw[K9 dF_ (by omega:n<l.length)];simp only[B5q,B51,ih,D96];rw[show((l.take n)++ [l.getD n dF_]).contains k=((l.take n).contains k||decide (k=l.getD n dF_))by
   by_cases he:k=l.getD n dF_
   ·rw[<-he];simp
   ·rw[zp he,zZ,qz];simp only[List.contains_iff_mem,zj,zu,he,zU]]
  by_cases he:k=l.getD n dF_
  ·simp[he]
  ·rw[zp he,zZ];simp
theorem C7s(l:List cR)(hl:l.length<=1048576):cA_ 210 [A4 4 cR.enc dF_ l] [] (.mp 1) [(1, .mapS 4 (B5q l l.length))]:=by
 refine I6 hm A6 Tryz.func210 rfl rfl (st_ ?_);refine B1 hm (ι:= {i:Nat // i<=l.length}) (λi=> [(3, .cA, .mp 1),(7, .cA,A4 4 cR.enc dF_ l),(8, .cA,sI l.length),(9, .cA,sI (i.1:Nat))]) (λi=> [(1, .mapS 4 (B5q l i.1))]) (λi=>l.length-i.1) ⟨0,zm _⟩ ?_ ?_
 ·refine A9 [(1,112)] [] (st_ ?_);exact eE_
 ·rintro⟨i,hi⟩;dsimp only;have hn:B5q l (i+1)=A66 (B5q l i) [(l.getD i dF_).cU,(l.getD i dF_).dM,(l.getD i dF_).cV,(l.getD i dF_).dJ] (sB true):=rfl
  have hfin:l.length<=i->B5q l i=B5q l l.length:=λh=>by rw[show i=l.length by omega]
  generalize B5q l i=es at hn hfin⊢;refine st_ ?_;by_cases hlt:i<l.length
  ·rw[zc o_];refine⟨bE_,?_⟩;refine A8 ⟨i+1,o_⟩ (by show l.length-(i+1)<l.length-i;omega) ?_;simp only[hn];refine A9 [] [] (st_ ?_);exact eE_
  ·rw[zb o_,<-hfin o_];refine B8 [.cA] [] [] (st_ ?_);exact eE_
def B3i(p:cR->Bool)(kind:Int)(k:cR):Option Api.Event:=if p k=true then none else some ⟨kind,k⟩
def adE(l:List cR)(p:cR->Bool)(kind:Int):List Api.Event:=l.filterMap (B3i p kind)
theorem C2k(l:List cR)(es:List (List Int×AV))(p:cR->Bool)(kind:Int)(hl:l.length<=1048576)(hes: ∀k,A3f es (A7j k)=cond (p k) (some (sB true)) none):
  cA_ 209 [A4 4 cR.enc dF_ l, .mp 2,sI kind] [(2, .mapS 4 es)] (.sl 1 0 (adE l p kind).length (adE l p kind).length) [(2, .mapS 4 es),(1, .arr 5 (B0 Api.Event.enc dF_ (adE l p kind)))]:=by
 refine I6 hm A6 Tryz.func209 rfl rfl (st_ ?_);refine B1 hm (ι:= {i:Nat // i<=l.length}) (λi=> [(1, .cA, .mp 2),(2, .cA,sI kind),(7,mdA i.1, .sl 1 0 ((l.take i.1).filterMap (B3i p kind)).length ((l.take i.1).filterMap (B3i p kind)).length),(10, .cA,A4 4 cR.enc dF_ l),(11, .cA,sI l.length),(12, .cA,sI (i.1:Nat))]) (λi=> [(2, .mapS 4 es),(1, .arr 5 (B0 Api.Event.enc dF_ ((l.take i.1).filterMap (B3i p kind))))]) (λi=>l.length-i.1) ⟨0,zm _⟩ ?_ ?_
 ·simp only[List.take_zero,List.filterMap_nil];refine A9 [] [1] (st_ ?_);exact eE_
 ·rintro⟨i,hi⟩;dsimp only;have hn:i<l.length->(l.take (i+1)).filterMap (B3i p kind)=(l.take i).filterMap (B3i p kind)++(B3i p kind (l.getD i dF_)).toList:=λh=>C14 h
  have hfin:l.length<=i->(l.take i).filterMap (B3i p kind)=adE l p kind:=λh=>by rw[show i=l.length by omega,zn];rfl
  have hln:=C6f (f:=B3i p kind) (l:=l) i;generalize(l.take i).filterMap (B3i p kind)=v at hn hfin hln⊢;by_cases hlt:i<l.length;rotate_left
  ·refine st_ ?_;rw[zb o_,<-hfin o_];refine B8 [.cA] [] [] (st_ ?_);exact eE_
  replace hn:=hn hlt;have hu:=B3i.eq_1 p kind (l.getD i dF_)
  have hg:=hes (l.getD i dF_);simp only[A7j]at hg;cases hp:p (l.getD i dF_)with
  |true=>rw[hp]at hg hu;rw[zc rfl]at hu;rw[hu]at hn;simp only[Option.toList,qF]at hn;simp only[cond_true]at hg;simp only[go_sem,go_sem_proc,hg];rw[zc o_];refine⟨bE_,?_⟩;refine A8 ⟨i+1,o_⟩ (by show l.length-(i+1)<l.length-i;omega) ?_;simp only[hn];refine A9 [] [] (st_ ?_);exact eE_
  |false=>rw[hp]at hg hu;rw[zb p_]at hu;rw[hu]at hn;simp only[Option.toList]at hn;simp only[cond_false]at hg;simp only[go_sem,go_sem_proc,hg,C89];rw[zc o_];refine⟨bE_,bE_,?_⟩;refine A8 ⟨i+1,o_⟩ (by show l.length-(i+1)<l.length-i;omega) ?_;simp only[hn];refine A9 [] [] (st_ ?_);exact eE_
def C4o(old cur:List cR):List Api.Event:=adE cur (λk=>old.contains k) 3++adE old (λk=>cur.contains k) 4
theorem B75(l:List cR)(p:cR->Bool)(kind:Int):(adE l p kind).length<=l.length:=qC ..
theorem E06(l:List cR)(k:cR):A3f (B5q l l.length) (A7j k)=cond (l.contains k) (some (sB true)) none:=by have:=E07 l k l.length (ze _);rwa[zn]at this
theorem D36(old cur:List cR)(ho:old.length<=1048576)(hc:cur.length<=1048576):cA_ 123 [A4 4 cR.enc dF_ old,A4 4 cR.enc dF_ cur] [] (A4 5 Api.Event.enc dF_ (C4o old cur)) []:=by
 have l1:=B75 cur (λk=>old.contains k) 3
 have l2:=B75 old (λk=>cur.contains k) 4;refine en1 hm A6 Tryz.func123 rfl rfl (st_ ?_);refine J5 ev_ K1 (C7s old ho) (st_ ?_);refine B5 [true,true,true] [(2,160),(1,176)] (C2k cur (B5q old old.length) (λk=>old.contains k) 3 hc (E06 old)) p_ p_ (by simp[J1]) g_ (st_ ?_);refine J5 ev_ K1 (C7s cur hc) (st_ ?_);refine B5 [true,true,true] [(2,224),(1,240)] (C2k old (B5q cur cur.length) (λk=>cur.contains k) 4 ho (E06 cur)) p_ p_ (by simp[J1]) g_ (st_ ?_);refine⟨bE_,?_⟩;unfold C4o;rw[zd];exact⟨rfl,D0 _⟩
theorem C6s {w:Api.World}{id n:Int}(h:(I7 w id n).2.2=true):0<=H5 w id:=by
 unfold I7 at h;dsimp only at h;split at h
 ·cases h
 ·rename_i hh;simp only[zy,zk,qy,Int.not_lt,Int.not_le]at hh;omega
theorem E1z {w:Api.World}(hw:Wsm w){k:cR}(h:(N5 w k).2.2=true):0<=H5 w k.cU/\0<=H5 w k.cV/\(N5 w k).1.Shape.cK.length<=1048576/\(N5 w k).2.1.Shape.cK.length<=1048576:=by
 have h1:=B25 hw k.cU k.dM
 have h2:=B25 hw k.cV k.dJ;unfold N5 at h⊢;dsimp only at h⊢;split at h
 ·cases h
 ·rename_i hh;rw[zb hh];simp only[zy,zQ,qy,qK]at hh;exact⟨C6s hh.1,C6s hh.2,h1,h2⟩
def B2b(w:Api.World)(k:cR):Option cR:=
 if(!(N5 w k).2.2||(!(N5 w k).1.fM&& !(N5 w k).2.1.fM))=true then none
 else if A6t (N5 w k).1.Shape (X6 w k.cU) (N5 w k).2.1.Shape (X6 w k.cV)=true then some k else none
def ovL(w:Api.World):List cR:=if B7 w=0 then(fpL w.cC w.cD).filterMap (B2b w)else []
theorem D5l(w:Api.World)(hf:Wfw w):(ovL w).length<=230400:=by
 unfold ovL;split
 ·exact qd (qC ..) (C8q _ _ hf.1 hf.2)
 ·simp
theorem C9m(w:Api.World)(hw:Wsm w)(hf:Wfw w):cA_ 121 [.agg w.enc] [] (A4 4 cR.enc dF_ (ovL w)) []:=by
 refine en1 hm A6 Tryz.func121 rfl rfl (st_ ?_);refine A0 (H8 w hw) rfl (st_ ?_);unfold ovL;by_cases hv:B7 w=0;rotate_left
 ·rw[zc (by simpa using hv),zb hv];exact G5 rfl
 rw[zb (by simpa using hv),zc hv];have hFP:=B1t w.cC w.cD hf.1 hf.2 (λb hb f hfx=>(hw.2.2.2.2.1 b hb).2 f hfx) hw.2.1
 have hFl:=C8q w.cC w.cD hf.1 hf.2;generalize fpL w.cC w.cD=ks at hFP hFl⊢;refine A0 hFP rfl (st_ ?_);refine B1 hm (ι:= {i:Nat // i<=ks.length}) (λi=> [(1, .eP, .dE w.enc),(3,mdA i.1, .sl 1 0 ((ks.take i.1).filterMap (B2b w)).length ((ks.take i.1).filterMap (B2b w)).length),(16, .cA,A4 4 cR.enc dF_ ks),(17, .cA,sI ks.length),(18, .cA,sI (i.1:Nat))]) (λi=> [(1, .arr 4 (B0 cR.enc dF_ ((ks.take i.1).filterMap (B2b w))))]) (λi=>ks.length-i.1) ⟨0,zm _⟩ ?_ ?_
 ·simp only[List.take_zero,List.filterMap_nil];refine A9 [] [1] ?_;simp only[go_sem,go_sem_proc,A2m]
 ·rintro⟨i,hi⟩;dsimp only;have hn:i<ks.length->(ks.take (i+1)).filterMap (B2b w)=(ks.take i).filterMap (B2b w)++(B2b w (ks.getD i dF_)).toList:=λh=>C14 h
  have hfin:ks.length<=i->(ks.take i).filterMap (B2b w)=ks.filterMap (B2b w):=λh=>by rw[show i=ks.length by omega,zn]
  have hln:=C6f (f:=B2b w) (l:=ks) i;generalize(ks.take i).filterMap (B2b w)=v at hn hfin hln⊢;refine st_ ?_;by_cases hlt:i<ks.length;rotate_left
  ·rw[zb o_,<-hfin o_];exact eE_
  rw[zc o_];refine⟨bE_,?_⟩;replace hn:=hn hlt;generalize ks.getD i dF_=k at hn⊢;have hu:=B2b.eq_1 w k
  have hok:=E1z hw (k:=k);refine A0 (C7d w k hw) rfl ?_;generalize N5 w k=A at hu hok⊢;refine st_ ?_;refine⟨λh=>⟨h,λh2=>by rw[h,h2];rfl⟩,?_⟩;by_cases hs:(!A.2.2||(!A.1.fM&& !A.2.1.fM))=true
  ·rw[zc hs]at hu⊢;rw[hu]at hn;simp only[Option.toList,qF]at hn;refine A8 ⟨i+1,o_⟩ (by show ks.length-(i+1)<ks.length-i;omega) ?_;simp only[hn];refine A9 [] [] (st_ ?_);exact eE_
  rw[zb hs]at hu⊢;have hok2:=hok (by simp only[zy,zQ,qy,qK]at hs;exact hs.1);refine A0 (B4h w k.cU hw.1 hok2.1) rfl (st_ ?_);refine A0 (B4h w k.cV hw.1 hok2.2.1) rfl (st_ ?_);refine A0 (C7f A.1.Shape (X6 w k.cU) A.2.1.Shape (X6 w k.cV) hok2.2.2.1 hok2.2.2.2) rfl ?_;generalize A6t A.1.Shape (X6 w k.cU) A.2.1.Shape (X6 w k.cV)=ov at hu⊢;cases ov with
  |false=>rw[zb p_]at hu;rw[hu]at hn;simp only[Option.toList,qF]at hn;refine st_ ?_;refine A8 ⟨i+1,o_⟩ (by show ks.length-(i+1)<ks.length-i;omega) ?_;simp only[hn];refine A9 [] [] (st_ ?_);exact eE_
  |true=>rw[zc rfl]at hu;rw[hu]at hn;simp only[Option.toList]at hn;refine st_ ?_;refine⟨bE_,?_⟩;refine A8 ⟨i+1,o_⟩ (by show ks.length-(i+1)<ks.length-i;omega) ?_;simp only[hn];refine A9 [] [] (st_ ?_);exact eE_
end Go.Abs
end
