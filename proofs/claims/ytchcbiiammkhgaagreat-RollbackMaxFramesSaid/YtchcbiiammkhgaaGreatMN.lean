/- A part of the proof: contracts of functions that the statement reaches. -/
import Derived.Test.YtchcbiiammkhgaaGreatMM
set_option linter.unusedSimpArgs false
set_option linter.unusedVariables false
set_option linter.unnecessarySimpa false
set_option maxRecDepth 100000
set_option maxHeartbeats 2000000
noncomputable section
namespace Go.Abs
open Go.Proofs
open Api
structure P0 where
 ia:Int
 ib:Int
 centerA:cI
 centerB:cI
 bodies:List cE
 deriving DecidableEq,Inhabited
def P0.enc(x:P0):List AV:=[sI x.ia,sI x.ib,sI x.centerA.X,sI x.centerA.Y,sI x.centerB.X,sI x.centerB.Y,A4 5 cE.enc dF_ x.bodies]
def P0.zero:List AV:= [sI 0,sI 0,sI 0,sI 0,sI 0,sI 0, .sc (.slice none 0 0)]
attribute [go_sem] P0.enc P0.zero
@[go_sem] theorem F3y(x:P0):P0.mk x.ia x.ib x.centerA x.centerB x.bodies=x:=rfl
def O8(a:dB)(b:dB):Int:=let v1:=(B7 a.eI b.eI);let v2:=(C0m v1);v2
theorem C36(a:dB)(b:dB):cA_ C26 [.agg a.enc, .agg b.enc] [] (sI (O8 a b)) []:=by
 refine en1 hm A6 Tryz.func309 rfl rfl ?_;have:=M2
 have:=E82
 have:=O8.eq_1 a b;exact E7
def N1(a:dB)(b:dB):Int:=(if a.fC<b.fC then b.fC else a.fC)
theorem B9o(a:dB)(b:dB):cA_ B84 [.agg a.enc, .agg b.enc] [] (sI (N1 a b)) []:=by refine en1 hm A6 Tryz.func310 rfl rfl ?_;have:=N1.eq_1 a b;exact E7
def C8(b:cF)(i:Int):dB×Bool:=if((decide (i<0))||(decide ((b.cK.length:Int)<=i)))=true then(((⟨(⟨0,0,([]:List cI)⟩:Shape),0,0,0,false,0,0,0⟩:dB),false))else(((b.cK.getD i.toNat dF_),true))
theorem C5k(b:cF)(i:Int):cA_ C4o [.agg b.enc,sI i] [] (.tup [.agg (C8 b i).1.enc,sB ((C8 b i).2)]) []:=by refine S1 21 [(4,some (some 10)),(5,none)] hm A6 Tryz.func307 rfl ?_;have:=C8.eq_1 b i;exact K1
def A4h(p:P0)(q:cI)(d:cI):Row:=let v1:=(O6 q p.centerA);let v2:=(A0x v1 d);let v3:=(O6 q p.centerB);let v4:=(A0x v3 d);let v5:=(S7 (⟨p.ia,p.ib,d,v2,v4,0,0,0,0,0,0,(-1),0⟩:Row) p.bodies);(⟨p.ia,p.ib,d,v2,v4,v5,0,0,0,0,0,(-1),0⟩:Row)
theorem B2f(p:P0)(q:cI)(d:cI):cA_ C27 [.agg p.enc, .agg q.enc, .agg d.enc] [] (.agg (A4h p q d).enc) []:=by
 refine M3 32 [(6,some (some 14))] hm A6 Tryz.func312 rfl ?_;have:=λx1 x2 x3 x4 x5 x6 x7 x8 x9 x10 x11 x12 x13 x14 x15=>cx_ (N8 ⟨x1,x2,⟨x3,x4⟩,x5,x6,x7,x8,x9,x10,x11,x12,x13,x14⟩ x15)
 have:=L7
 have:=A5v
 have:=N8
 have:=A4h.eq_1 p q d;exact E7
def A56(p:P0)(r:Row)(s:Int)(t:Int)(dt:Int):Int:=if 0<=s then(let v1:=(Z9 s dt);let v2:=(Y6 r p.bodies);if v2<(-65536)then(let v3:=(B7 t v2);(if v3<v1 then v3 else v1))else(v1))else(let v4:=(D1 s 512);let v5:=(K2 v4 dt);let v6:=(Y6 r p.bodies);if v6<(-65536)then(let v7:=(B7 t v6);(if v7<(if v5<0 then v5 else 0)then v7 else(if v5<0 then v5 else 0)))else((if v5<0 then v5 else 0)))
theorem B1h(p:P0)(r:Row)(s:Int)(t:Int)(dt:Int):cA_ C1i [.agg p.enc, .agg r.enc,sI s,sI t,sI dt] [] (sI (A56 p r s t dt)) []:=by
 refine en1 hm A6 Tryz.func313 rfl rfl ?_;have:=A7i
 have:=A7l
 have:=M2
 have:=N2
 have:=V4
 have:=A56.eq_1 p r s t dt;exact K1
def S5(c:cY)(ia:Int)(ib:Int)(base:Int)(bs:List cE)(dt:Int)(v3:cI)(v4:cI)(v5:Int)(v6:Int)(v7:cI)(i1:Nat)(s1:(List Row)):(List Row):=let v8:=(A4h (⟨ia,ib,v3,v4,bs⟩:P0) (c.cL.cP.getD i1 dF_).eY c.cL.dF);let v9:=(A56 (⟨ia,ib,v3,v4,bs⟩:P0) (⟨v8.A,v8.B,v8.dF,v8.fO,v8.fN,v8.eE,v8.fZ,v8.dN,536870911,v8.dD,(c.cL.cP.getD i1 dF_).eM,v8.eN,v8.eI⟩:Row) (c.cL.cP.getD i1 dF_).fA v6 dt);let v10:=(A4h (⟨ia,ib,v3,v4,bs⟩:P0) (c.cL.cP.getD i1 dF_).eY v7);(s1++ [(⟨v8.A,v8.B,v8.dF,v8.fO,v8.fN,v8.eE,v9,v8.dN,536870911,v8.dD,(c.cL.cP.getD i1 dF_).eM,v8.eN,v8.eI⟩:Row),(⟨v10.A,v10.B,v10.dF,v10.fO,v10.fN,v10.eE,v10.fZ,v10.dN,v10.dS,v10.dD,(c.cL.cP.getD i1 dF_).eW,(IntKind.i64.wrap (base+(s1.length:Int))),v5⟩:Row)])
def A4p(c:cY)(a:cF)(b:cF)(ia:Int)(ib:Int)(base:Int)(bs:List cE)(dt:Int):(List Row):=let v1:=(C8 a c.dQ.dM);let v2:=(C8 b c.dQ.dK);if((!v1.2)||(!v2.2))=true then(([]:List Row))else(let v3:=(F2 a);let v4:=(F2 b);let v5:=(O8 v1.1 v2.1);let v6:=(N1 v1.1 v2.1);let v7:=(A01 c.cL.dF);let s1:=itr (S5 c ia ib base bs dt v3 v4 v5 v6 v7) c.cL.cP.length [];s1)
theorem D2z(c:cY)(a:cF)(b:cF)(ia:Int)(ib:Int)(base:Int)(bs:List cE)(dt:Int)(h0:c.cL.cP.length<=1048576)(ha: ∀f∈a.cK,f.Shape.cJ.length<=1048576)(hb: ∀f∈b.cK,f.Shape.cJ.length<=1048576):cA_ D0n [.agg c.enc, .agg a.enc, .agg b.enc,sI ia,sI ib,sI base,A4 5 cE.enc dF_ bs,sI dt] [] (A4 14 Row.enc dF_ (A4p c a b ia ib base bs dt)) []:=by
 refine en1 hm A6 Tryz.func183 rfl rfl ?_;have:=λx1 x2 x3 x4 x5 x6 x7 x8 x9=>cx_ (B2f ⟨x1,x2,⟨x3,x4⟩,⟨x5,x6⟩,x7⟩ x8 x9)
 have:=λx1 x2 x3 x4 x5 x6 x7 x8 x9 x10 x11 x12 x13 x14 x15 x16 x17 x18 x19 x20 x21 x22 x23 x24=>cx_ (B1h ⟨x1,x2,⟨x3,x4⟩,⟨x5,x6⟩,x7⟩ ⟨x8,x9,⟨x10,x11⟩,x12,x13,x14,x15,x16,x17,x18,x19,x20,x21⟩ x22 x23 x24)
 have:=C5k
 have:=A2v
 have:=C36
 have:=B9o
 have:=C4f
 have:=B2f
 have:=B1h
 have:=A4p.eq_1 c a b ia ib base bs dt
 have:=λi_ s_=>S5.eq_1 c ia ib base bs dt (F2 a) (F2 b) (O8 (C8 a c.dQ.dM).1 (C8 b c.dQ.dK).1) (N1 (C8 a c.dQ.dM).1 (C8 b c.dQ.dK).1) (A01 c.cL.dF) i_ s_
 have:=λx_ Q_ σ_=> @lp_ Tryz.prog Tryz.f183.ntmps [] x_ Q_ σ_ hm (λ_=>True) (λi_=>((itr (S5 c ia ib base bs dt (F2 a) (F2 b) (O8 (C8 a c.dQ.dM).1 (C8 b c.dQ.dK).1) (N1 (C8 a c.dQ.dM).1 (C8 b c.dQ.dK).1) (A01 c.cL.dF)) i_ [])).length<=0+2*i_) c.cL.cP.length (λi_=> [(5, .cA,sI base),(7, .cA,sI dt),(8, .cA, .ptr 144 0 0 1),(21, .cA, .ptr 352 0 0 1),(22, .cA,sI (O8 (C8 a c.dQ.dM).1 (C8 b c.dQ.dK).1)),(23, .cA,sI (N1 (C8 a c.dQ.dM).1 (C8 b c.dQ.dK).1)),(24, .cA, .ptr 400 0 0 1),(25,if i_=0 then .eZ else .cA, .sl 1025 0 (itr (S5 c ia ib base bs dt (F2 a) (F2 b) (O8 (C8 a c.dQ.dM).1 (C8 b c.dQ.dK).1) (N1 (C8 a c.dQ.dM).1 (C8 b c.dQ.dK).1) (A01 c.cL.dF)) i_ []).length (itr (S5 c ia ib base bs dt (F2 a) (F2 b) (O8 (C8 a c.dQ.dM).1 (C8 b c.dQ.dK).1) (N1 (C8 a c.dQ.dM).1 (C8 b c.dQ.dK).1) (A01 c.cL.dF)) i_ []).length),(72, .cA,A4 6 cO.enc dF_ c.cL.cP),(73, .cA,sI (c.cL.cP.length:Int)),(74, .cA,sI (i_:Int))]) (λi_=> [(144, .box [sI c.dQ.cU,sI c.dQ.dM,sI c.dQ.cV,sI c.dQ.dK,sI c.cL.dF.X,sI c.cL.dF.Y,A4 6 cO.enc dF_ c.cL.cP]),(352, .box [sI ia,sI ib,sI ((F2 a).X),sI ((F2 a).Y),sI ((F2 b).X),sI ((F2 b).Y),A4 5 cE.enc dF_ bs]),(400, .box [sI ((A01 c.cL.dF).X),sI ((A01 c.cL.dF).Y)]),(1025, .arr 14 (A9 Row.enc dF_ (itr (S5 c ia ib base bs dt (F2 a) (F2 b) (O8 (C8 a c.dQ.dM).1 (C8 b c.dQ.dK).1) (N1 (C8 a c.dQ.dM).1 (C8 b c.dQ.dK).1) (A01 c.cL.dF)) i_ [])))]) [1025] trivial (λi_ hI_=>A87 (λs:(List Row)=>(s).length) 2 (λi s=>by(unfold S5;(repeat' split) <;> simp <;> omega)) i_ _) (by simp[go_sem]) (by simp[go_sem,D3]) (by simp[go_sem]);exact K1
def A4y(rs:List Row)(i:Int)(p:Int):Int:=if((decide (i<0))||(decide ((rs.length:Int)<=i)))=true then(p)else((rs.getD i.toNat dF_).fM)
theorem B3s(rs:List Row)(i:Int)(p:Int):cA_ C4p [A4 14 Row.enc dF_ rs,sI i,sI p] [] (sI (A4y rs i p)) []:=by refine en1 hm A6 Tryz.func193 rfl rfl ?_;have:=A4y.eq_1 rs i p;exact K1
theorem F5o(s:Shape)(p:cH):A1q s=true->1<=(G9 s p).length/\(s.cS=1->(G9 s p).length=1)/\(s.cS=2->(G9 s p).length=2)/\(s.cS≠1->s.cS≠2->3<=(G9 s p).length)/\(G9 s p).length<=8:=by intro h;refine D6k s p ?_;unfold A1q at h;simpa using h
def A4z(a:Shape)(ta:cH)(b:Shape)(tb:cH):Int:=let v1:=(A1q a);let v2:=(A1q b);if((!v1)||(!v2))=true then(536870911)else(let v3:=(G9 a ta);let v4:=(G9 b tb);let v5:=(A42 a ta (v4.getD 0 dF_));if((a.cS==3)&&v5)=true then(0)else(let v6:=(A42 b tb (v3.getD 0 dF_));if((b.cS==3)&&v6)=true then(0)else(let v7:=(A34 a.cS v3);let v8:=(A34 b.cS v4);let v9:=(A6t v7 v8);let v10:=(sat (sat v9-sat a.eV));let v11:=(sat (sat v10-sat b.eV));(if 0<v11 then v11 else 0))))
theorem B3t(a:Shape)(ta:cH)(b:Shape)(tb:cH)(h0:a.cJ.length<=1048576)(h1:b.cJ.length<=1048576):cA_ C4q [.agg a.enc, .agg ta.enc, .agg b.enc, .agg tb.enc] [] (sI (A4z a ta b tb)) []:=by
 refine en1 hm A6 Tryz.func337 rfl rfl ?_;have:=F5o a ta
 have:=F5o b tb
 have:=C07
 have:=C1e a ta
 have:=A8s
 have:=C1e b tb
 have:=C5p
 have:=E4o a.cS (G9 a ta)
 have:=D80
 have:=E4o b.cS (G9 b tb)
 have:=D21
 have:=R3
 have:=A4z.eq_1 a ta b tb;exact K1
def A6s(a:Shape)(ta:cH)(b:Shape)(tb:cH):Bool:=let v1:=(A1q a);let v2:=(A1q b);let v3:=(A4z a ta b tb);((v1&&v2)&&(v3==0))
theorem D20(a:Shape)(ta:cH)(b:Shape)(tb:cH)(h0:a.cJ.length<=1048576)(h1:b.cJ.length<=1048576):cA_ D0o [.agg a.enc, .agg ta.enc, .agg b.enc, .agg tb.enc] [] (sB (A6s a ta b tb)) []:=by
 refine en1 hm A6 Tryz.func206 rfl rfl ?_;have:=C07
 have:=B3t
 have:=A6s.eq_1 a ta b tb;exact K1
def A4g(f:dB):dB:=let v1:=f.Shape.cJ;(⟨(⟨f.Shape.cS,f.Shape.eV,v1⟩:Shape),f.fR,f.eI,f.fC,f.fL,f.fQ,f.fY,f.fV⟩:dB)
theorem C35(f:dB)(h0:f.Shape.cJ.length<=1048576):cA_ C25 [.agg f.enc] [] (.agg (A4g f).enc) []:=by
 refine M3 10 [(2,some (some 10))] hm A6 Tryz.func335 rfl ?_;have:=B7t
 have:=A4g.eq_1 f;exact K1
def X4(w:Api.World)(id:Int):cH:=let v1:=(H5 w id);(w.cC.getD v1.toNat dF_).cH
theorem B5a(w:Api.World)(id:Int)(h0:w.cC.length<=1048576)(h1:0<=H5 w id):cA_ C6h [.agg w.enc,sI id] [] (.agg (X4 w id).enc) []:=by
 refine M3 13 [(4,some (some 3))] hm A6 Tryz.func207 rfl ?_;have:=A3a w id
 have:=T0
 have:=X4.eq_1 w id;exact K1
def N6(w:Api.World)(k:cR):dB×dB×Bool:=let v1:=(I5 w k.cU k.dM);let v2:=(I5 w k.cV k.dK);if((!v1.2.2)||(!v2.2.2))=true then(((⟨(⟨0,0,([]:List cI)⟩:Shape),0,0,0,false,0,0,0⟩:dB),(⟨(⟨0,0,([]:List cI)⟩:Shape),0,0,0,false,0,0,0⟩:dB),false))else(let v3:=(A4g v1.1);let v4:=(A4g v2.1);(v3,v4,true))
theorem D2y(w:Api.World)(k:cR)(hw:Wsm w):cA_ D0m [.agg w.enc, .agg k.enc] [] (.tup [.agg (N6 w k).1.enc, .agg (N6 w k).2.1.enc,sB ((N6 w k).2.2)]) []:=by
 refine S1 45 [(4,some (some 10)),(5,some (some 10)),(6,none)] hm A6 Tryz.func205 rfl ?_;have:=B3r hw k.cU k.dM
 have:=B3r hw k.cV k.dK
 have:=hw.1
 have:=B28
 have:=C35
 have:=N6.eq_1 w k;exact K1
def B6q(l:List cR):Nat->List (List Int×AV)
 |0=> []
 |n+1=>A64 (B6q l n) (A7h (l.getD n dF_)) (sB true)
theorem E87(l:List cR)(k:cR): ∀n,n<=l.length->A3b (B6q l n) (A7h k)=cond ((l.take n).contains k) (some (sB true)) none
 |0,_=>rfl
 |n+1,h=>by
  have ih:=E87 l k n (by omega);rw[L5 dF_ (by omega:n<l.length)];simp only[B6q,B61,ih,E8b];rw[show((l.take n)++ [l.getD n dF_]).contains k=((l.take n).contains k||decide (k=l.getD n dF_))by
   by_cases he:k=l.getD n dF_
   ·rw[<-he];simp
   ·rw[decide_eq_false he,Bool.or_false,Bool.eq_iff_iff];simp only[List.contains_iff_mem,List.mem_append,List.mem_singleton,he,or_false]]
  by_cases he:k=l.getD n dF_
  ·simp[he]
  ·rw[decide_eq_false he,Bool.or_false];simp
theorem D3c(l:List cR)(hl:l.length<=1048576):cA_ E6o [A4 4 cR.enc dF_ l] [] (.mp 1) [(1, .mapS 4 (B6q l l.length))]:=by
 refine I7 hm A6 Tryz.func210 rfl rfl (st_ ?_);refine B1 hm (ι:= {i:Nat // i<=l.length}) (λi=> [(3, .cA, .mp 1),(7, .cA,A4 4 cR.enc dF_ l),(8, .cA,sI l.length),(9, .cA,sI (i.1:Nat))]) (λi=> [(1, .mapS 4 (B6q l i.1))]) (λi=>l.length-i.1) ⟨0,Nat.zero_le _⟩ ?_ ?_
 ·refine B0 [(1,112)] [] (st_ ?_);exact eE_
 ·rintro⟨i,hi⟩;dsimp only;have hn:B6q l (i+1)=A64 (B6q l i) [(l.getD i dF_).cU,(l.getD i dF_).dM,(l.getD i dF_).cV,(l.getD i dF_).dK] (sB true):=rfl
  have hfin:l.length<=i->B6q l i=B6q l l.length:=λh=>by rw[show i=l.length by omega]
  generalize B6q l i=es at hn hfin⊢;refine st_ ?_;by_cases hlt:i<l.length
  ·rw[if_pos (by omega)];refine⟨bE_,?_⟩;refine A8 ⟨i+1,by omega⟩ (by show l.length-(i+1)<l.length-i;omega) ?_;simp only[hn];refine B0 [] [] (st_ ?_);exact eE_
  ·rw[if_neg (by omega),<-hfin (by omega)];refine B6 [.cA] [] [] (st_ ?_);exact eE_
def B4b(p:cR->Bool)(kind:Int)(k:cR):Option Api.Event:=if p k=true then none else some ⟨kind,k⟩
def adE(l:List cR)(p:cR->Bool)(kind:Int):List Api.Event:=l.filterMap (B4b p kind)
theorem C5o(l:List cR)(es:List (List Int×AV))(p:cR->Bool)(kind:Int)(hl:l.length<=1048576)(hes: ∀k,A3b es (A7h k)=cond (p k) (some (sB true)) none):
  cA_ E15 [A4 4 cR.enc dF_ l, .mp 2,sI kind] [(2, .mapS 4 es)] (.sl 1 0 (adE l p kind).length (adE l p kind).length) [(2, .mapS 4 es),(1, .arr 5 (A9 Api.Event.enc dF_ (adE l p kind)))]:=by
 refine I7 hm A6 Tryz.func209 rfl rfl (st_ ?_);refine B1 hm (ι:= {i:Nat // i<=l.length}) (λi=> [(1, .cA, .mp 2),(2, .cA,sI kind),(7,mdA i.1, .sl 1 0 ((l.take i.1).filterMap (B4b p kind)).length ((l.take i.1).filterMap (B4b p kind)).length),(10, .cA,A4 4 cR.enc dF_ l),(11, .cA,sI l.length),(12, .cA,sI (i.1:Nat))]) (λi=> [(2, .mapS 4 es),(1, .arr 5 (A9 Api.Event.enc dF_ ((l.take i.1).filterMap (B4b p kind))))]) (λi=>l.length-i.1) ⟨0,Nat.zero_le _⟩ ?_ ?_
 ·simp only[List.take_zero,List.filterMap_nil];refine B0 [] [1] (st_ ?_);exact eE_
 ·rintro⟨i,hi⟩;dsimp only;have hn:i<l.length->(l.take (i+1)).filterMap (B4b p kind)=(l.take i).filterMap (B4b p kind)++(B4b p kind (l.getD i dF_)).toList:=λh=>C5a h
  have hfin:l.length<=i->(l.take i).filterMap (B4b p kind)=adE l p kind:=λh=>by rw[show i=l.length by omega,List.take_length];rfl
  have hln:=D12 (f:=B4b p kind) (l:=l) i;generalize(l.take i).filterMap (B4b p kind)=v at hn hfin hln⊢;by_cases hlt:i<l.length;rotate_left
  ·refine st_ ?_;rw[if_neg (by omega),<-hfin (by omega)];refine B6 [.cA] [] [] (st_ ?_);exact eE_
  replace hn:=hn hlt;have hu:=B4b.eq_1 p kind (l.getD i dF_)
  have hg:=hes (l.getD i dF_);simp only[A7h]at hg;cases hp:p (l.getD i dF_)with
  |true=>rw[hp]at hg hu;rw[if_pos rfl]at hu;rw[hu]at hn;simp only[Option.toList,List.append_nil]at hn;simp only[cond_true]at hg;simp only[go_sem,go_sem_proc,hg,Option.getD_some,Bool.not_true];rw[if_pos (by omega)];refine⟨bE_,?_⟩;refine A8 ⟨i+1,by omega⟩ (by show l.length-(i+1)<l.length-i;omega) ?_;simp only[hn];refine B0 [] [] (st_ ?_);exact eE_
  |false=>rw[hp]at hg hu;rw[if_neg (by simp)]at hu;rw[hu]at hn;simp only[Option.toList]at hn;simp only[cond_false]at hg;simp only[go_sem,go_sem_proc,hg,Option.getD_none,D4r,Bool.not_false];rw[if_pos (by omega)];refine⟨bE_,bE_,?_⟩;refine A8 ⟨i+1,by omega⟩ (by show l.length-(i+1)<l.length-i;omega) ?_;simp only[hn];refine B0 [] [] (st_ ?_);exact eE_
def C8c(old cur:List cR):List Api.Event:=adE cur (λk=>old.contains k) 3++adE old (λk=>cur.contains k) 4
theorem B9v(l:List cR)(p:cR->Bool)(kind:Int):(adE l p kind).length<=l.length:=List.length_filterMap_le ..
theorem E86(l:List cR)(k:cR):A3b (B6q l l.length) (A7h k)=cond (l.contains k) (some (sB true)) none:=by have:=E87 l k l.length (Nat.le_refl _);rwa[List.take_length]at this
theorem E1i(old cur:List cR)(ho:old.length<=1048576)(hc:cur.length<=1048576):cA_ D9t [A4 4 cR.enc dF_ old,A4 4 cR.enc dF_ cur] [] (A4 5 Api.Event.enc dF_ (C8c old cur)) []:=by
 have l1:=B9v cur (λk=>old.contains k) 3
 have l2:=B9v old (λk=>cur.contains k) 4;refine en1 hm A6 Tryz.func123 rfl rfl (st_ ?_);refine J2 ev_ K0 (D3c old ho) (st_ ?_);refine B5 [true,true,true] [(2,160),(1,176)] (C5o cur (B6q old old.length) (λk=>old.contains k) 3 hc (E86 old)) (by simp) (by simp) (by simp[D3]) (by simp[go_sem]) (st_ ?_);refine J2 ev_ K0 (D3c cur hc) (st_ ?_);refine B5 [true,true,true] [(2,224),(1,240)] (C5o old (B6q cur cur.length) (λk=>cur.contains k) 4 ho (E86 cur)) (by simp) (by simp) (by simp[D3]) (by simp[go_sem]) (st_ ?_);refine⟨bE_,?_⟩;unfold C8c;rw[List.length_append];exact⟨rfl,D0 _⟩
theorem D2d {w:Api.World}{id n:Int}(h:(I5 w id n).2.2=true):0<=H5 w id:=by
 unfold I5 at h;dsimp only at h;split at h
 ·cases h
 ·rename_i hh;simp only[Bool.or_eq_true,decide_eq_true_eq,not_or,Int.not_lt,Int.not_le]at hh;omega
theorem F0c {w:Api.World}(hw:Wsm w){k:cR}(h:(N6 w k).2.2=true):0<=H5 w k.cU/\0<=H5 w k.cV/\(N6 w k).1.Shape.cJ.length<=1048576/\(N6 w k).2.1.Shape.cJ.length<=1048576:=by
 have h1:=B3r hw k.cU k.dM
 have h2:=B3r hw k.cV k.dK;unfold N6 at h⊢;dsimp only at h⊢;split at h
 ·cases h
 ·rename_i hh;rw[if_neg hh];simp only[Bool.or_eq_true,Bool.not_eq_true',not_or,Bool.not_eq_false]at hh;exact⟨D2d hh.1,D2d hh.2,h1,h2⟩
def B2u(w:Api.World)(k:cR):Option cR:=
 if(!(N6 w k).2.2||(!(N6 w k).1.fL&& !(N6 w k).2.1.fL))=true then none
 else if A6s (N6 w k).1.Shape (X4 w k.cU) (N6 w k).2.1.Shape (X4 w k.cV)=true then some k else none
def ovL(w:Api.World):List cR:=if B9 w=0 then(fpL w.cC w.cD).filterMap (B2u w)else []
theorem E27(w:Api.World)(hf:Wfw w):(ovL w).length<=230400:=by
 unfold ovL;split
 ·exact Nat.le_trans (List.length_filterMap_le ..) (D38 _ _ hf.1 hf.2)
 ·simp
theorem D5v(w:Api.World)(hw:Wsm w)(hf:Wfw w):cA_ D49 [.agg w.enc] [] (A4 4 cR.enc dF_ (ovL w)) []:=by
 refine en1 hm A6 Tryz.func121 rfl rfl (st_ ?_);refine A0 (I6 w hw) rfl (st_ ?_);unfold ovL;by_cases hv:B9 w=0;rotate_left
 ·rw[if_pos (by simpa using hv),if_neg hv];exact G8 rfl
 rw[if_neg (by simpa using hv),if_pos hv];have hFP:=B2d w.cC w.cD hf.1 hf.2 (λb hb f hfx=>(hw.2.2.2.2.1 b hb).2 f hfx) hw.2.1
 have hFl:=D38 w.cC w.cD hf.1 hf.2;generalize fpL w.cC w.cD=ks at hFP hFl⊢;refine A0 hFP rfl (st_ ?_);refine B1 hm (ι:= {i:Nat // i<=ks.length}) (λi=> [(1, .eQ, .cW w.enc),(3,mdA i.1, .sl 1 0 ((ks.take i.1).filterMap (B2u w)).length ((ks.take i.1).filterMap (B2u w)).length),(16, .cA,A4 4 cR.enc dF_ ks),(17, .cA,sI ks.length),(18, .cA,sI (i.1:Nat))]) (λi=> [(1, .arr 4 (A9 cR.enc dF_ ((ks.take i.1).filterMap (B2u w))))]) (λi=>ks.length-i.1) ⟨0,Nat.zero_le _⟩ ?_ ?_
 ·simp only[List.take_zero,List.filterMap_nil];refine B0 [] [1] ?_;simp only[go_sem,go_sem_proc,A3e]
 ·rintro⟨i,hi⟩;dsimp only;have hn:i<ks.length->(ks.take (i+1)).filterMap (B2u w)=(ks.take i).filterMap (B2u w)++(B2u w (ks.getD i dF_)).toList:=λh=>C5a h
  have hfin:ks.length<=i->(ks.take i).filterMap (B2u w)=ks.filterMap (B2u w):=λh=>by rw[show i=ks.length by omega,List.take_length]
  have hln:=D12 (f:=B2u w) (l:=ks) i;generalize(ks.take i).filterMap (B2u w)=v at hn hfin hln⊢;refine st_ ?_;by_cases hlt:i<ks.length;rotate_left
  ·rw[if_neg (by omega),<-hfin (by omega)];exact eE_
  rw[if_pos (by omega)];refine⟨bE_,?_⟩;replace hn:=hn hlt;generalize ks.getD i dF_=k at hn⊢;have hu:=B2u.eq_1 w k
  have hok:=F0c hw (k:=k);refine A0 (D2y w k hw) rfl ?_;generalize N6 w k=A at hu hok⊢;refine st_ ?_;refine⟨λh=>⟨h,λh2=>by rw[h,h2];rfl⟩,?_⟩;by_cases hs:(!A.2.2||(!A.1.fL&& !A.2.1.fL))=true
  ·rw[if_pos hs]at hu⊢;rw[hu]at hn;simp only[Option.toList,List.append_nil]at hn;refine A8 ⟨i+1,by omega⟩ (by show ks.length-(i+1)<ks.length-i;omega) ?_;simp only[hn];refine B0 [] [] (st_ ?_);exact eE_
  rw[if_neg hs]at hu⊢;have hok2:=hok (by simp only[Bool.or_eq_true,Bool.not_eq_true',not_or,Bool.not_eq_false]at hs;exact hs.1);refine A0 (B5a w k.cU hw.1 hok2.1) rfl (st_ ?_);refine A0 (B5a w k.cV hw.1 hok2.2.1) rfl (st_ ?_);refine A0 (D20 A.1.Shape (X4 w k.cU) A.2.1.Shape (X4 w k.cV) hok2.2.2.1 hok2.2.2.2) rfl ?_;generalize A6s A.1.Shape (X4 w k.cU) A.2.1.Shape (X4 w k.cV)=ov at hu⊢;cases ov with
  |false=>rw[if_neg (by simp)]at hu;rw[hu]at hn;simp only[Option.toList,List.append_nil]at hn;refine st_ ?_;refine A8 ⟨i+1,by omega⟩ (by show ks.length-(i+1)<ks.length-i;omega) ?_;simp only[hn];refine B0 [] [] (st_ ?_);exact eE_
  |true=>rw[if_pos rfl]at hu;rw[hu]at hn;simp only[Option.toList]at hn;refine st_ ?_;refine⟨bE_,?_⟩;refine A8 ⟨i+1,by omega⟩ (by show ks.length-(i+1)<ks.length-i;omega) ?_;simp only[hn];refine B0 [] [] (st_ ?_);exact eE_
def zl_Joint:List AV:=([(.int .i64 0),(.int .i64 0),(.int .i64 0),(.int .i64 0),(.int .i64 0),(.int .i64 0),(.int .i64 0),(.int .i64 0),(.int .i64 0),(.int .i64 0),(.int .i64 0),(.bool false),(.int .i64 0),(.int .i64 0),(.bool false),(.int .i64 0),(.int .i64 0),(.int .i64 0),(.int .i64 0),(.bool false),(.int .i64 0),(.int .i64 0),(.int .i64 0),(.int .i64 0)]:List Value).map .sc
theorem C5s(s:Sq)(i:Nat)(hi:i<s.n)(hn:s.n<=1048576):cA_ C4z [.sl 1 0 s.n s.n,sI i,sI (i+1:Nat)] [(1, .arr 24 s)] (.sl 1 0 (s.n-1) s.n)
  [(1, .arr 24 ((s.over i ⟨s.n-(i+1),λk=>s.g (i+1+k)⟩).over (s.n-1) ⟨1,λ_=>zl_Joint⟩))]:=by
 obtain⟨zl,hzl⟩: ∃zl,zl=zl_Joint:=⟨_,rfl⟩;rw[<-hzl];have e1:((i:Int)-0).toNat=i:=by omega
 have e2:((s.n:Int)-((i+1:Nat):Int)).toNat=s.n-(i+1):=by omega
 have e3:i+(s.n-(i+1))=s.n-1:=by omega
 have e4:((s.n:Int)-((s.n-1:Nat):Int)).toNat=1:=by omega
 refine B0z hm A6 Tryz.func290 rfl rfl ?_;refine B2 [(0, .cA, .sl 1 0 s.n s.n),(1, .cA,sI i),(2, .cA,sI (i+1:Nat)),(6, .cA, .sc (.slice none 0 0))] [(1, .arr 24 s)] (C7 hm ?_) ?_
 ·refine st_ ?_;refine B0 [] [] ?_;simp only[go_sem,go_sem_proc]
 refine B2 [(0, .cA, .sl 1 0 s.n s.n),(1, .cA,sI i),(2, .cA,sI (i+1:Nat)),(6, .cA, .sc (.slice none 0 0))] [(1, .arr 24 s)] (C6q 5 ?_) ?_
 ·refine st_ ?_;refine And.intro (by(repeat' apply And.intro) <;> first |trivial |omega) ?_;refine B0 [] [] ?_;simp only[go_sem,go_sem_proc]
 refine B2 [(0, .cA, .sl 1 0 s.n s.n),(1, .cA,sI i),(2, .cA,sI (i+1:Nat)),(6, .cA, .sc (.slice none 0 0))] [(1, .arr 24 s)] (C7 hm ?_) ?_
 ·refine st_ ?_;rw[if_neg (by simp;omega)];refine B0 [] [] ?_;simp only[go_sem,go_sem_proc]
 refine B2 [(0, .cA, .sl 1 0 s.n s.n),(1, .cA,sI i),(2, .cA,sI (i+1:Nat)),(6, .cA, .sc (.slice none 0 0)),(7, .cA,sI s.n)] [(1, .arr 24 s)] (C7 hm ?_) ?_
 ·refine st_ ?_;refine B0 [] [] ?_;simp only[go_sem,go_sem_proc]
 refine B2 [(0, .cA, .sl 1 0 (s.n-1) s.n),(1, .cA,sI i),(2, .cA,sI (i+1:Nat)),(6, .cA, .sc (.slice none 0 0)),(7, .cA,sI s.n)] [(1, .arr 24 (s.over i ⟨s.n-(i+1),λk=>s.g (i+1+k)⟩))] (E6z 6 hm ?_) ?_
 ·refine st_ ?_;rw[e1,e2,e3];refine⟨⟨by omega,by omega,by omega⟩,⟨by omega,by omega,by omega⟩,⟨by omega,by omega,by unfold maxLen;omega⟩,?_⟩;refine B0 [] [] ?_;simp only[go_sem,go_sem_proc]
 refine B2 [(0, .cA, .sl 1 0 (s.n-1) s.n),(1, .cA,sI i),(2, .cA,sI (i+1:Nat)),(6, .cA, .sc (.slice none 0 0))] [(1, .arr 24 ((s.over i ⟨s.n-(i+1),λk=>s.g (i+1+k)⟩).over (s.n-1) ⟨1,λ_=>zl⟩))] (C6q 4 ?_) ?_
 ·refine st_ ?_;rw[e4];refine⟨⟨rfl,by omega,by omega,by omega⟩,rfl,?_⟩;refine B0 [] [] (st_ ?_);subst hzl;exact A20
 refine C7 hm (st_ ?_);refine B6 [.cA] [] [] ?_;simp only[go_sem,go_sem_proc]
def zl_Body:List AV:=([(.int .i64 0),(.int .i64 0),(.int .i64 0),(.int .i64 0),(.int .i64 0),(.int .i64 0),(.int .i64 0),(.int .i64 0),(.int .i64 0),(.int .i64 0),(.int .i64 0),(.int .i64 0),(.int .i64 0),(.int .i64 0),(.bool false),(.bool false),(.bool false),(.bool false),(.int .i64 0),(.slice none 0 0)]:List Value).map .sc
theorem C73(s:Sq)(i:Nat)(hi:i<s.n)(hn:s.n<=1048576):cA_ C6n [.sl 1 0 s.n s.n,sI i,sI (i+1:Nat)] [(1, .arr 20 s)] (.sl 1 0 (s.n-1) s.n)
  [(1, .arr 20 ((s.over i ⟨s.n-(i+1),λk=>s.g (i+1+k)⟩).over (s.n-1) ⟨1,λ_=>zl_Body⟩))]:=by
 obtain⟨zl,hzl⟩: ∃zl,zl=zl_Body:=⟨_,rfl⟩;rw[<-hzl];have e1:((i:Int)-0).toNat=i:=by omega
 have e2:((s.n:Int)-((i+1:Nat):Int)).toNat=s.n-(i+1):=by omega
 have e3:i+(s.n-(i+1))=s.n-1:=by omega
 have e4:((s.n:Int)-((s.n-1:Nat):Int)).toNat=1:=by omega
 refine B0z hm A6 Tryz.func284 rfl rfl ?_;refine B2 [(0, .cA, .sl 1 0 s.n s.n),(1, .cA,sI i),(2, .cA,sI (i+1:Nat)),(6, .cA, .sc (.slice none 0 0))] [(1, .arr 20 s)] (C7 hm ?_) ?_
 ·refine st_ ?_;refine B0 [] [] ?_;simp only[go_sem,go_sem_proc]
 refine B2 [(0, .cA, .sl 1 0 s.n s.n),(1, .cA,sI i),(2, .cA,sI (i+1:Nat)),(6, .cA, .sc (.slice none 0 0))] [(1, .arr 20 s)] (C6q 5 ?_) ?_
 ·refine st_ ?_;refine And.intro (by(repeat' apply And.intro) <;> first |trivial |omega) ?_;refine B0 [] [] ?_;simp only[go_sem,go_sem_proc]
 refine B2 [(0, .cA, .sl 1 0 s.n s.n),(1, .cA,sI i),(2, .cA,sI (i+1:Nat)),(6, .cA, .sc (.slice none 0 0))] [(1, .arr 20 s)] (C7 hm ?_) ?_
 ·refine st_ ?_;rw[if_neg (by simp;omega)];refine B0 [] [] ?_;simp only[go_sem,go_sem_proc]
 refine B2 [(0, .cA, .sl 1 0 s.n s.n),(1, .cA,sI i),(2, .cA,sI (i+1:Nat)),(6, .cA, .sc (.slice none 0 0)),(7, .cA,sI s.n)] [(1, .arr 20 s)] (C7 hm ?_) ?_
 ·refine st_ ?_;refine B0 [] [] ?_;simp only[go_sem,go_sem_proc]
 refine B2 [(0, .cA, .sl 1 0 (s.n-1) s.n),(1, .cA,sI i),(2, .cA,sI (i+1:Nat)),(6, .cA, .sc (.slice none 0 0)),(7, .cA,sI s.n)] [(1, .arr 20 (s.over i ⟨s.n-(i+1),λk=>s.g (i+1+k)⟩))] (E6z 6 hm ?_) ?_
 ·refine st_ ?_;rw[e1,e2,e3];refine⟨⟨by omega,by omega,by omega⟩,⟨by omega,by omega,by omega⟩,⟨by omega,by omega,by unfold maxLen;omega⟩,?_⟩;refine B0 [] [] ?_;simp only[go_sem,go_sem_proc]
 refine B2 [(0, .cA, .sl 1 0 (s.n-1) s.n),(1, .cA,sI i),(2, .cA,sI (i+1:Nat)),(6, .cA, .sc (.slice none 0 0))] [(1, .arr 20 ((s.over i ⟨s.n-(i+1),λk=>s.g (i+1+k)⟩).over (s.n-1) ⟨1,λ_=>zl⟩))] (C6q 4 ?_) ?_
 ·refine st_ ?_;rw[e4];refine⟨⟨rfl,by omega,by omega,by omega⟩,rfl,?_⟩;refine B0 [] [] (st_ ?_);subst hzl;exact A20
 refine C7 hm (st_ ?_);refine B6 [.cA] [] [] ?_;simp only[go_sem,go_sem_proc]
def A30 {α:Type}(d:α)(p:α->Bool)(j:Nat)(s:Nat×List α):Nat×List α:=if p (s.2.getD j d)then s else(s.1+1,s.2.set s.1 (s.2.getD j d))
def dfR {α:Type}(d:α)(p:α->Bool)(l:List α):Nat->Nat×List α
 |0=>(0,l)
 |j+1=>A30 d p j (dfR d p l j)
theorem B0y {α:Type}{d:α}{p:α->Bool}{l:List α}: ∀j,j<=l.length->(dfR d p l j).1<=j/\(dfR d p l j).2.length=l.length/\(∀k,j<=k->(dfR d p l j).2.getD k d=l.getD k d)/\(dfR d p l j).2.take (dfR d p l j).1=(l.take j).filter λx=> !p x
 |0,_=>⟨Nat.le_refl _,rfl,λ_ _=>rfl,by simp[dfR]⟩
 |j+1,hj=>by
  obtain⟨h1,h2,h3,h4⟩:=B0y (d:=d) (p:=p) (l:=l) j (by omega);have hg:=h3 j (Nat.le_refl _)
  have ht:l.take (j+1)=l.take j++ [l.getD j d]:=by rw[List.take_add_one];congr 1;simp[List.getD,List.getElem?_eq_getElem (show j<l.length by omega)]
  unfold dfR A30;rw[hg];by_cases hp:p (l.getD j d)=true
  ·rw[if_pos hp];refine⟨by omega,h2,λk hk=>h3 k (by omega),?_⟩;rw[ht,List.filter_append,h4,List.filter_cons,List.filter_nil,hp];simp
  ·rw[if_neg hp];refine⟨by show(dfR d p l j).1+1<=j+1;omega,by simpa using h2,λk hk=> ?_,?_⟩
   ·show((dfR d p l j).2.set (dfR d p l j).1 (l.getD j d)).getD k d=_;rw[<-h3 k (by omega)];simp only[List.getD,List.getElem?_set];rw[if_neg (by omega)]
   ·show((dfR d p l j).2.set (dfR d p l j).1 (l.getD j d)).take ((dfR d p l j).1+1)=_;rw[ht,List.filter_append,<-h4,List.take_add_one,List.take_set_of_le (Nat.le_refl _)];have hp':p (l.getD j d)=false:=by simpa using hp
    rw[List.filter_cons,List.filter_nil,hp'];simp[h2,show(dfR d p l j).1<l.length by omega]
theorem A44 {α:Type}{d:α}{p:α->Bool}{l:List α}: ∀j,j<=l.length->(∀k,k<j->p (l.getD k d)=false)->dfR d p l j=(j,l)
 |0,_,_=>rfl
 |j+1,hj,h=>by
  rw[dfR,A44 j (by omega) λk hk=>h k (by omega)];unfold A30;simp only[h j (by omega),Bool.false_eq_true,if_false,Prod.mk.injEq,true_and];have:l.getD j d=l[j]:=by simp[List.getD,List.getElem?_eq_getElem (show j<l.length by omega)]
  rw[this,List.set_getElem_self]
def dfQ {α:Type}(enc:α->List AV)(d:α)(p:α->Bool)(l:List α)(zl:List AV):Sq:=(A9 enc d (dfR d p l l.length).2).over (dfR d p l l.length).1 ⟨l.length-(dfR d p l l.length).1,λ_=>zl⟩
theorem G1q {α:Type}{d:α}{p:α->Bool}{l:List α}:(dfR d p l l.length).1=(l.filter λx=> !p x).length:=by obtain⟨h1,h2,h3,h4⟩:=B0y (d:=d) (p:=p) (l:=l) l.length (Nat.le_refl _);rw[List.take_length]at h4;rw[<-h4,List.length_take,h2];omega
theorem D1u {α:Type}{enc:α->List AV}{d:α}{p:α->Bool}{l:List α}{zl:List AV}{z:Nat}{g:Nat->List AV}{m:Nat}(hm:m=(dfR d p l l.length).1)(hg: ∀k,g k=(dfQ enc d p l zl).g k):M9 (.dsl z m g) (A4 z enc d (l.filter λx=> !p x)):=by
 subst hm;unfold A4;rw[U4];refine⟨rfl,G1q,λk hk=> ?_⟩;rw[hg];obtain⟨h1,h2,h3,h4⟩:=B0y (d:=d) (p:=p) (l:=l) l.length (Nat.le_refl _);rw[List.take_length]at h4;have e:(dfQ enc d p l zl).g k=enc ((dfR d p l l.length).2.getD k d):=by show(if _ then _ else _:List AV)=_;rw[if_neg (by omega)];rfl
 rw[e,I8,<-h4];have:((dfR d p l l.length).2.take (dfR d p l l.length).1).getD k d=(dfR d p l l.length).2.getD k d:=by simp only[List.getD,List.getElem?_take];rw[if_pos hk]
 rw[this];exact H9 _
theorem A2z {P:Program}{m:Nat->Option A7}{f:FuncId}{avs:List AV}{b:Bool}{Q:ContR}{r:AV}(hc:D5 P f avs [] r [])(ha:F0 avs= [])(hb:b=true)(hK: @Ri Q b ⟨some r,[]⟩): @A21 P m f avs b Q:=
 Z2 hc ⟨List.nodup_nil,λ_ h=>by cases h⟩ (λ_ h=>by cases h) (λa hav i hi=>by obtain⟨k,hk⟩:=List.getElem?_of_mem hav;have:=P6 hk i hi;rw[ha]at this;cases this) hb hK
theorem A8l: ∀(a b:List AV),F0 (a++b)=F0 a++F0 b
 | [],b=>rfl
 |x::a,b=>by rw[List.cons_append,F0,F0,A8l a b,List.append_assoc]
theorem B4n {α:Type}{d:α}{p:α->Bool}{l:List α}:(A3t d p l= -1/\ ∀j,j<l.length->p (l.getD j d)=false)\/ ∃i:Nat,i<l.length/\A3t d p l=i/\p (l.getD i d)=true/\ ∀j,j<i->p (l.getD j d)=false:=by
 by_cases h: ∀j,j<l.length->p (l.getD j d)=false
 ·exact .inl ⟨A2t h,h⟩
 ·right;have: ∃i,i<l.length/\p (l.getD i d)=true/\ ∀j,j<i->p (l.getD j d)=false:=by
   have hex: ∃i,i<l.length/\p (l.getD i d)=true:=by
    apply Classical.byContradiction;intro hn;refine h λj hj=> ?_;cases hp:p (l.getD j d)with
    |false=>rfl
    |true=>exact absurd ⟨j,hj,hp⟩ hn
   obtain⟨i,hi,hp⟩:=hex;induction i using Nat.strongRecOn with
   |ind i ih=>
    by_cases hs: ∀j,j<i->p (l.getD j d)=false
    ·exact⟨i,hi,hp,hs⟩
    ·have: ∃j,j<i/\p (l.getD j d)=true:=by
      apply Classical.byContradiction;intro hn;refine hs λj hj=> ?_;cases hpj:p (l.getD j d)with
      |false=>rfl
      |true=>exact absurd ⟨j,hj,hpj⟩ hn
     obtain⟨j,hj,hpj⟩:=this;exact ih j hj (by omega) hpj
  obtain⟨i,hi,hp,hs⟩:=this;exact⟨i,hi,A6g hi hs hp,hp,hs⟩
theorem C0n {α:Type}{enc:α->List AV}{d:α}{p:α->Bool}{l:List α}{zl:List AV}(h: ∀j,j<l.length->p (l.getD j d)=false):dfQ enc d p l zl=A9 enc d l:=by unfold dfQ;rw[A44 l.length (Nat.le_refl _) h];unfold Sq.over A9;congr 1;funext k;rw[if_neg (by simp only;omega)]
def F06:List AV:=([(.int .i64 0),(.int .i64 0),(.int .i64 0),(.int .i64 0)]:List Value).map .sc
theorem B5f(l:List cR)(f:FuncId)(first cap:List AV)(p:cR->Bool)(hl:l.length<=4194304)(h1:F0 first= [])(h2:F0 cap= [])
  (hp: ∀x∈l,cA_ f (first++ [.agg x.enc]++cap) [] (sB (p x)) []):
  cA_ A8v [.sl 1 0 l.length l.length, .fn (.func f) first cap] [(1, .arr 4 (A9 cR.enc dF_ l))] (sI (A3t dF_ p l)) [(1, .arr 4 (A9 cR.enc dF_ l))]:=by
 refine B0z hm A6 Tryz.func239 rfl rfl ?_;refine C7 hm (st_ ?_);refine B1 hm (ι:= {i:Nat // i<=l.length/\ ∀j,j<i->p (l.getD j dF_)=false}) (λi=> [(0, .cA, .sl 1 0 l.length l.length),(1, .cA, .fn (.func f) first cap),(7, .cA,sI l.length),(8, .cA,sI i.1)])
  (λi=> [(1, .arr 4 (A9 cR.enc dF_ l))]) (λi=>l.length-i.1) ⟨0,by omega,λj hj=>by omega⟩ ?_ ?_
 ·refine B0 [] [] (st_ ?_);exact⟨(AV.ren_id (.fn (.func f) first cap)).symm,λi hi=>by rw[h1,h2]at hi;cases hi⟩
 ·rintro⟨i,hi,hs⟩;refine st_ ?_;split
  ·rename_i hlt;have hlt:i<l.length:=by omega
   refine⟨⟨by omega,by omega⟩,?_⟩;have hx:=hp (l.getD i dF_) (B8 dF_ hlt);rw[List.append_assoc]at hx;refine A2z hx (by simp[A8l,h1,h2,F0,AV.ids]) rfl (st_ ?_);cases hpx:p (l.getD i dF_)with
   |true=>rw[if_pos rfl];refine B6 [.cA] [] [] (st_ ?_);exact(A6g hlt hs hpx).symm
   |false=>rw[if_neg (by simp)];refine A8 ⟨i+1,by omega,λj hj=>by rcases Nat.lt_succ_iff_lt_or_eq.1 hj with h |rfl;exact hs j h;exact hpx⟩ (by show l.length-(i+1)<l.length-i;omega) ?_;refine B0 [] [] (st_ ?_);exact⟨(AV.ren_id (.fn (.func f) first cap)).symm,(λi hi=>by rw[h1,h2]at hi;cases hi),(by rw[IntKind.wrap_i64];omega)⟩
  ·rename_i hge;refine B6 [.cA] [] [] (st_ ?_);exact(A2t λj hj=>hs j (by omega)).symm
theorem B7x(l:List cR)(f:FuncId)(first cap:List AV)(p:cR->Bool)(hl:l.length<=4194304)(h1:F0 first= [])(h2:F0 cap= [])
  (hp: ∀x∈l,cA_ f (first++ [.agg x.enc]++cap) [] (sB (p x)) []):
  cA_ B7e [.sl 1 0 l.length l.length, .fn (.func f) first cap] [(1, .arr 4 (A9 cR.enc dF_ l))] (.sl 1 0 (dfR dF_ p l l.length).1 l.length) [(1, .arr 4 (dfQ cR.enc dF_ p l F06))]:=by
 refine B0z hm A6 Tryz.func288 rfl rfl ?_;refine C7 hm (st_ ?_);refine Z2 (B5f l f first cap p hl h1 h2 hp) (by simp[okO]) (by simp[upd]) ?_ rfl ?_
 ·intro a ha i hi;simp only[List.mem_cons,List.not_mem_nil,or_false]at ha;rcases ha with rfl |rfl
  ·simp only[AV.ids,List.mem_singleton]at hi;subst hi;rfl
  ·simp only[AV.ids,h1,h2]at hi;cases hi
 refine st_ ?_;rcases B4n (d:=dF_) (p:=p) (l:=l)with⟨e,h0⟩ |⟨i0,hi0,e,hp0,hs0⟩
 ·rw[e,if_pos (by decide),C0n h0,A44 l.length (Nat.le_refl _) h0];refine B6 [.cA] [] [] ?_;simp only[go_sem,go_sem_proc]
 rw[e,if_neg (by simp)];refine B1 hm (ι:= {j:Nat // j<=l.length}) (λj=> [(0, .cA, .sl 1 0 l.length l.length),(1, .cA, .fn (.func f) first cap),(5, .cA,sI ((dfR dF_ p l j.1).1)),(6, .cA,sI j.1)])
  (λj=> [(1, .arr 4 (A9 cR.enc dF_ (dfR dF_ p l j.1).2))]) (λj=>l.length-j.1) ⟨i0+1,hi0⟩ ?_ ?_
 ·have e1:dfR dF_ p l (i0+1)=(i0,l):=by
   rw[dfR,A44 i0 (by omega) hs0];unfold A30;rw[if_pos hp0]
  rw[e1];refine B0 [] [] (st_ ?_);exact⟨(AV.ren_id (.fn (.func f) first cap)).symm,(λi hi=>by rw[h1,h2]at hi;cases hi),(by rw[IntKind.wrap_i64];omega)⟩
 ·rintro⟨j,hj⟩;obtain⟨g1,g2,g3,g4⟩:=B0y (d:=dF_) (p:=p) (l:=l) j hj;dsimp only;have hnext:=λhjl:j<l.length=>(show dfR dF_ p l (j+1)=A30 dF_ p j (dfR dF_ p l j)from rfl);generalize hst:dfR dF_ p l j=st at g1 g2 g3 g4 hnext⊢;obtain⟨i,m⟩:=st;dsimp only at g1 g2 g3 g4 hnext⊢;refine st_ ?_;split
  ·rename_i hlt;have hlt:j<l.length:=by omega
   have hgj:=g3 j (Nat.le_refl j)
   have hn:=hnext hlt;simp only[hgj];refine⟨⟨g2.symm,by omega,by omega⟩,g2.symm,?_⟩;have hx:=hp (l.getD j dF_) (B8 dF_ hlt);rw[List.append_assoc]at hx;refine A2z hx (by simp[A8l,h1,h2,F0,AV.ids]) rfl (st_ ?_);unfold A30 at hn;dsimp only at hn;rw[hgj]at hn;cases hpx:p (l.getD j dF_)with
   |true=>rw[hpx,if_pos rfl]at hn;rw[if_neg (by simp)];refine A8 ⟨j+1,hlt⟩ (by show l.length-(j+1)<l.length-j;omega) ?_;simp only[hn];refine B0 [] [] (st_ ?_);exact⟨(AV.ren_id (.fn (.func f) first cap)).symm,(λi hi=>by rw[h1,h2]at hi;cases hi),(by rw[IntKind.wrap_i64];omega)⟩
   |false=>rw[hpx,if_neg (by simp)]at hn;rw[if_pos rfl];refine⟨⟨g2.symm,by omega,by omega⟩,g2.symm,?_⟩;refine A8 ⟨j+1,hlt⟩ (by show l.length-(j+1)<l.length-j;omega) ?_;simp only[hn];rw[A65 (l.getD j dF_) (by omega) (by rw[<-hgj];rfl)];refine B0 [] [] (st_ ?_);exact⟨(AV.ren_id (.fn (.func f) first cap)).symm,(λi hi=>by rw[h1,h2]at hi;cases hi),(by rw[IntKind.wrap_i64];omega),(by rw[IntKind.wrap_i64];omega)⟩
  ·rename_i hge;obtain rfl:j=l.length:=by omega
   have e1:((l.length:Int)-(i:Int)).toNat=l.length-i:=by omega
   have e2:((i:Int)-0).toNat=i:=by omega
   rw[e1,e2];refine⟨⟨g2.symm,by omega,by omega,by omega⟩,g2.symm,⟨g2.symm,by omega,by omega,by omega⟩,?_⟩;unfold dfQ;rw[hst];refine B6 [.cA] [] [] (st_ ?_);exact A20
def E4s:List AV:=([(.int .i64 0),(.int .i64 0),(.int .i64 0),(.int .i64 0),(.int .i64 0),(.int .i64 0),(.int .i64 0),(.int .i64 0),(.int .i64 0),(.int .i64 0),(.int .i64 0),(.bool false),(.int .i64 0),(.int .i64 0),(.bool false),(.int .i64 0),(.int .i64 0),(.int .i64 0),(.int .i64 0),(.bool false),(.int .i64 0),(.int .i64 0),(.int .i64 0),(.int .i64 0)]:List Value).map .sc
theorem B6o(l:List cG)(f:FuncId)(first cap:List AV)(p:cG->Bool)(hl:l.length<=4194304)(h1:F0 first= [])(h2:F0 cap= [])
  (hp: ∀x∈l,cA_ f (first++ [.agg x.enc]++cap) [] (sB (p x)) []):
  cA_ A5n [.sl 1 0 l.length l.length, .fn (.func f) first cap] [(1, .arr 24 (A9 cG.enc dF_ l))] (sI (A3t dF_ p l)) [(1, .arr 24 (A9 cG.enc dF_ l))]:=by
 refine B0z hm A6 Tryz.func333 rfl rfl ?_;refine C7 hm (st_ ?_);refine B1 hm (ι:= {i:Nat // i<=l.length/\ ∀j,j<i->p (l.getD j dF_)=false}) (λi=> [(0, .cA, .sl 1 0 l.length l.length),(1, .cA, .fn (.func f) first cap),(7, .cA,sI l.length),(8, .cA,sI i.1)])
  (λi=> [(1, .arr 24 (A9 cG.enc dF_ l))]) (λi=>l.length-i.1) ⟨0,by omega,λj hj=>by omega⟩ ?_ ?_
 ·refine B0 [] [] (st_ ?_);exact⟨(AV.ren_id (.fn (.func f) first cap)).symm,λi hi=>by rw[h1,h2]at hi;cases hi⟩
 ·rintro⟨i,hi,hs⟩;refine st_ ?_;split
  ·rename_i hlt;have hlt:i<l.length:=by omega
   refine⟨⟨by omega,by omega⟩,?_⟩;have hx:=hp (l.getD i dF_) (B8 dF_ hlt);rw[List.append_assoc]at hx;refine A2z hx (by simp[A8l,h1,h2,F0,AV.ids]) rfl (st_ ?_);cases hpx:p (l.getD i dF_)with
   |true=>rw[if_pos rfl];refine B6 [.cA] [] [] (st_ ?_);exact(A6g hlt hs hpx).symm
   |false=>rw[if_neg (by simp)];refine A8 ⟨i+1,by omega,λj hj=>by rcases Nat.lt_succ_iff_lt_or_eq.1 hj with h |rfl;exact hs j h;exact hpx⟩ (by show l.length-(i+1)<l.length-i;omega) ?_;refine B0 [] [] (st_ ?_);exact⟨(AV.ren_id (.fn (.func f) first cap)).symm,(λi hi=>by rw[h1,h2]at hi;cases hi),(by rw[IntKind.wrap_i64];omega)⟩
  ·rename_i hge;refine B6 [.cA] [] [] (st_ ?_);exact(A2t λj hj=>hs j (by omega)).symm
theorem B9s(l:List cG)(f:FuncId)(first cap:List AV)(p:cG->Bool)(hl:l.length<=4194304)(h1:F0 first= [])(h2:F0 cap= [])
  (hp: ∀x∈l,cA_ f (first++ [.agg x.enc]++cap) [] (sB (p x)) []):
  cA_ A9q [.sl 1 0 l.length l.length, .fn (.func f) first cap] [(1, .arr 24 (A9 cG.enc dF_ l))] (.sl 1 0 (dfR dF_ p l l.length).1 l.length) [(1, .arr 24 (dfQ cG.enc dF_ p l E4s))]:=by
 refine B0z hm A6 Tryz.func202 rfl rfl ?_;refine C7 hm (st_ ?_);refine Z2 (B6o l f first cap p hl h1 h2 hp) (by simp[okO]) (by simp[upd]) ?_ rfl ?_
 ·intro a ha i hi;simp only[List.mem_cons,List.not_mem_nil,or_false]at ha;rcases ha with rfl |rfl
  ·simp only[AV.ids,List.mem_singleton]at hi;subst hi;rfl
  ·simp only[AV.ids,h1,h2]at hi;cases hi
 refine st_ ?_;rcases B4n (d:=dF_) (p:=p) (l:=l)with⟨e,h0⟩ |⟨i0,hi0,e,hp0,hs0⟩
 ·rw[e,if_pos (by decide),C0n h0,A44 l.length (Nat.le_refl _) h0];refine B6 [.cA] [] [] ?_;simp only[go_sem,go_sem_proc]
 rw[e,if_neg (by simp)];refine B1 hm (ι:= {j:Nat // j<=l.length}) (λj=> [(0, .cA, .sl 1 0 l.length l.length),(1, .cA, .fn (.func f) first cap),(5, .cA,sI ((dfR dF_ p l j.1).1)),(6, .cA,sI j.1)])
  (λj=> [(1, .arr 24 (A9 cG.enc dF_ (dfR dF_ p l j.1).2))]) (λj=>l.length-j.1) ⟨i0+1,hi0⟩ ?_ ?_
 ·have e1:dfR dF_ p l (i0+1)=(i0,l):=by
   rw[dfR,A44 i0 (by omega) hs0];unfold A30;rw[if_pos hp0]
  rw[e1];refine B0 [] [] (st_ ?_);exact⟨(AV.ren_id (.fn (.func f) first cap)).symm,(λi hi=>by rw[h1,h2]at hi;cases hi),(by rw[IntKind.wrap_i64];omega)⟩
 ·rintro⟨j,hj⟩;obtain⟨g1,g2,g3,g4⟩:=B0y (d:=dF_) (p:=p) (l:=l) j hj;dsimp only;have hnext:=λhjl:j<l.length=>(show dfR dF_ p l (j+1)=A30 dF_ p j (dfR dF_ p l j)from rfl);generalize hst:dfR dF_ p l j=st at g1 g2 g3 g4 hnext⊢;obtain⟨i,m⟩:=st;dsimp only at g1 g2 g3 g4 hnext⊢;refine st_ ?_;split
  ·rename_i hlt;have hlt:j<l.length:=by omega
   have hgj:=g3 j (Nat.le_refl j)
   have hn:=hnext hlt;simp only[hgj];refine⟨⟨g2.symm,by omega,by omega⟩,g2.symm,?_⟩;have hx:=hp (l.getD j dF_) (B8 dF_ hlt);rw[List.append_assoc]at hx;refine A2z hx (by simp[A8l,h1,h2,F0,AV.ids]) rfl (st_ ?_);unfold A30 at hn;dsimp only at hn;rw[hgj]at hn;cases hpx:p (l.getD j dF_)with
   |true=>rw[hpx,if_pos rfl]at hn;rw[if_neg (by simp)];refine A8 ⟨j+1,hlt⟩ (by show l.length-(j+1)<l.length-j;omega) ?_;simp only[hn];refine B0 [] [] (st_ ?_);exact⟨(AV.ren_id (.fn (.func f) first cap)).symm,(λi hi=>by rw[h1,h2]at hi;cases hi),(by rw[IntKind.wrap_i64];omega)⟩
   |false=>rw[hpx,if_neg (by simp)]at hn;rw[if_pos rfl];refine⟨⟨g2.symm,by omega,by omega⟩,g2.symm,?_⟩;refine A8 ⟨j+1,hlt⟩ (by show l.length-(j+1)<l.length-j;omega) ?_;simp only[hn];rw[A65 (l.getD j dF_) (by omega) (by rw[<-hgj];rfl)];refine B0 [] [] (st_ ?_);exact⟨(AV.ren_id (.fn (.func f) first cap)).symm,(λi hi=>by rw[h1,h2]at hi;cases hi),(by rw[IntKind.wrap_i64];omega),(by rw[IntKind.wrap_i64];omega)⟩
  ·rename_i hge;obtain rfl:j=l.length:=by omega
   have e1:((l.length:Int)-(i:Int)).toNat=l.length-i:=by omega
   have e2:((i:Int)-0).toNat=i:=by omega
   rw[e1,e2];refine⟨⟨g2.symm,by omega,by omega,by omega⟩,g2.symm,⟨g2.symm,by omega,by omega,by omega⟩,?_⟩;unfold dfQ;rw[hst];refine B6 [.cA] [] [] (st_ ?_);exact A20
def F04:List AV:=([(.int .i64 0),(.int .i64 0),(.int .i64 0),(.int .i64 0),(.int .i64 0),(.int .i64 0),(.slice none 0 0)]:List Value).map .sc
theorem B5d(l:List cY)(f:FuncId)(first cap:List AV)(p:cY->Bool)(hl:l.length<=4194304)(h1:F0 first= [])(h2:F0 cap= [])
  (hp: ∀x∈l,cA_ f (first++ [.agg x.enc]++cap) [] (sB (p x)) []):
  cA_ B8c [.sl 1 0 l.length l.length, .fn (.func f) first cap] [(1, .arr 7 (A9 cY.enc dF_ l))] (sI (A3t dF_ p l)) [(1, .arr 7 (A9 cY.enc dF_ l))]:=by
 refine B0z hm A6 Tryz.func411 rfl rfl ?_;refine C7 hm (st_ ?_);refine B1 hm (ι:= {i:Nat // i<=l.length/\ ∀j,j<i->p (l.getD j dF_)=false}) (λi=> [(0, .cA, .sl 1 0 l.length l.length),(1, .cA, .fn (.func f) first cap),(7, .cA,sI l.length),(8, .cA,sI i.1)])
  (λi=> [(1, .arr 7 (A9 cY.enc dF_ l))]) (λi=>l.length-i.1) ⟨0,by omega,λj hj=>by omega⟩ ?_ ?_
 ·refine B0 [] [] (st_ ?_);exact⟨(AV.ren_id (.fn (.func f) first cap)).symm,λi hi=>by rw[h1,h2]at hi;cases hi⟩
 ·rintro⟨i,hi,hs⟩;refine st_ ?_;split
  ·rename_i hlt;have hlt:i<l.length:=by omega
   refine⟨⟨by omega,by omega⟩,?_⟩;have hx:=hp (l.getD i dF_) (B8 dF_ hlt);rw[List.append_assoc]at hx;refine A2z hx (by simp[A8l,h1,h2,F0,AV.ids]) rfl (st_ ?_);cases hpx:p (l.getD i dF_)with
   |true=>rw[if_pos rfl];refine B6 [.cA] [] [] (st_ ?_);exact(A6g hlt hs hpx).symm
   |false=>rw[if_neg (by simp)];refine A8 ⟨i+1,by omega,λj hj=>by rcases Nat.lt_succ_iff_lt_or_eq.1 hj with h |rfl;exact hs j h;exact hpx⟩ (by show l.length-(i+1)<l.length-i;omega) ?_;refine B0 [] [] (st_ ?_);exact⟨(AV.ren_id (.fn (.func f) first cap)).symm,(λi hi=>by rw[h1,h2]at hi;cases hi),(by rw[IntKind.wrap_i64];omega)⟩
  ·rename_i hge;refine B6 [.cA] [] [] (st_ ?_);exact(A2t λj hj=>hs j (by omega)).symm
theorem B7v(l:List cY)(f:FuncId)(first cap:List AV)(p:cY->Bool)(hl:l.length<=4194304)(h1:F0 first= [])(h2:F0 cap= [])
  (hp: ∀x∈l,cA_ f (first++ [.agg x.enc]++cap) [] (sB (p x)) []):
  cA_ B7c [.sl 1 0 l.length l.length, .fn (.func f) first cap] [(1, .arr 7 (A9 cY.enc dF_ l))] (.sl 1 0 (dfR dF_ p l l.length).1 l.length) [(1, .arr 7 (dfQ cY.enc dF_ p l F04))]:=by
 refine B0z hm A6 Tryz.func286 rfl rfl ?_;refine C7 hm (st_ ?_);refine Z2 (B5d l f first cap p hl h1 h2 hp) (by simp[okO]) (by simp[upd]) ?_ rfl ?_
 ·intro a ha i hi;simp only[List.mem_cons,List.not_mem_nil,or_false]at ha;rcases ha with rfl |rfl
  ·simp only[AV.ids,List.mem_singleton]at hi;subst hi;rfl
  ·simp only[AV.ids,h1,h2]at hi;cases hi
 refine st_ ?_;rcases B4n (d:=dF_) (p:=p) (l:=l)with⟨e,h0⟩ |⟨i0,hi0,e,hp0,hs0⟩
 ·rw[e,if_pos (by decide),C0n h0,A44 l.length (Nat.le_refl _) h0];refine B6 [.cA] [] [] ?_;simp only[go_sem,go_sem_proc]
 rw[e,if_neg (by simp)];refine B1 hm (ι:= {j:Nat // j<=l.length}) (λj=> [(0, .cA, .sl 1 0 l.length l.length),(1, .cA, .fn (.func f) first cap),(5, .cA,sI ((dfR dF_ p l j.1).1)),(6, .cA,sI j.1)])
  (λj=> [(1, .arr 7 (A9 cY.enc dF_ (dfR dF_ p l j.1).2))]) (λj=>l.length-j.1) ⟨i0+1,hi0⟩ ?_ ?_
 ·have e1:dfR dF_ p l (i0+1)=(i0,l):=by
   rw[dfR,A44 i0 (by omega) hs0];unfold A30;rw[if_pos hp0]
  rw[e1];refine B0 [] [] (st_ ?_);exact⟨(AV.ren_id (.fn (.func f) first cap)).symm,(λi hi=>by rw[h1,h2]at hi;cases hi),(by rw[IntKind.wrap_i64];omega)⟩
 ·rintro⟨j,hj⟩;obtain⟨g1,g2,g3,g4⟩:=B0y (d:=dF_) (p:=p) (l:=l) j hj;dsimp only;have hnext:=λhjl:j<l.length=>(show dfR dF_ p l (j+1)=A30 dF_ p j (dfR dF_ p l j)from rfl);generalize hst:dfR dF_ p l j=st at g1 g2 g3 g4 hnext⊢;obtain⟨i,m⟩:=st;dsimp only at g1 g2 g3 g4 hnext⊢;refine st_ ?_;split
  ·rename_i hlt;have hlt:j<l.length:=by omega
   have hgj:=g3 j (Nat.le_refl j)
   have hn:=hnext hlt;simp only[hgj];refine⟨⟨g2.symm,by omega,by omega⟩,g2.symm,?_⟩;have hx:=hp (l.getD j dF_) (B8 dF_ hlt);rw[List.append_assoc]at hx;refine A2z hx (by simp[A8l,h1,h2,F0,AV.ids]) rfl (st_ ?_);unfold A30 at hn;dsimp only at hn;rw[hgj]at hn;cases hpx:p (l.getD j dF_)with
   |true=>rw[hpx,if_pos rfl]at hn;rw[if_neg (by simp)];refine A8 ⟨j+1,hlt⟩ (by show l.length-(j+1)<l.length-j;omega) ?_;simp only[hn];refine B0 [] [] (st_ ?_);exact⟨(AV.ren_id (.fn (.func f) first cap)).symm,(λi hi=>by rw[h1,h2]at hi;cases hi),(by rw[IntKind.wrap_i64];omega)⟩
   |false=>rw[hpx,if_neg (by simp)]at hn;rw[if_pos rfl];refine⟨⟨g2.symm,by omega,by omega⟩,g2.symm,?_⟩;refine A8 ⟨j+1,hlt⟩ (by show l.length-(j+1)<l.length-j;omega) ?_;simp only[hn];rw[A65 (l.getD j dF_) (by omega) (by rw[<-hgj];rfl)];refine B0 [] [] (st_ ?_);exact⟨(AV.ren_id (.fn (.func f) first cap)).symm,(λi hi=>by rw[h1,h2]at hi;cases hi),(by rw[IntKind.wrap_i64];omega),(by rw[IntKind.wrap_i64];omega)⟩
  ·rename_i hge;obtain rfl:j=l.length:=by omega
   have e1:((l.length:Int)-(i:Int)).toNat=l.length-i:=by omega
   have e2:((i:Int)-0).toNat=i:=by omega
   rw[e1,e2];refine⟨⟨g2.symm,by omega,by omega,by omega⟩,g2.symm,⟨g2.symm,by omega,by omega,by omega⟩,?_⟩;unfold dfQ;rw[hst];refine B6 [.cA] [] [] (st_ ?_);exact A20
def uf(k:Int):Bool×Bool×Bool:=if k=1\/k=2\/k=7 then(true,true,false)else if k=3\/k=8 then(true,false,true)else if k=4\/k=5 then(true,true,true)else if k=6\/k=10\/k=12 then(true,false,false)else(false,false,false)
theorem D23(k:Int):cA_ D0q [sI k] [] (.tup [sB ((uf k).1),sB ((uf k).2.1),sB ((uf k).2.2)]) []:=by
 by_cases h:k=1\/k=2\/k=3\/k=4\/k=5\/k=6\/k=7\/k=8\/k=10\/k=12
 ·rcases h with rfl |rfl |rfl |rfl |rfl |rfl |rfl |rfl |rfl |rfl
  all_goals
   refine enT hm A6 Tryz.func211 rfl rfl ?_;simp only[go_sem,go_sem_proc,Int.reduceBEq];exact⟨rfl,rfl,rfl⟩
 simp only[not_or]at h;obtain⟨h1,h2,h3,h4,h5,h6,h7,h8,h10,h12⟩:=h;have hu:uf k=(false,false,false):=by simp[uf, *]
 rw[hu];refine enT hm A6 Tryz.func211 rfl rfl (st_ ?_);simp only[beq_eq_false_iff_ne.2 h1,beq_eq_false_iff_ne.2 h2,beq_eq_false_iff_ne.2 h3,beq_eq_false_iff_ne.2 h4,beq_eq_false_iff_ne.2 h5,beq_eq_false_iff_ne.2 h6,beq_eq_false_iff_ne.2 h7,beq_eq_false_iff_ne.2 h8,beq_eq_false_iff_ne.2 h10,beq_eq_false_iff_ne.2 h12,h1,h2,h3,h4,h5,h6,h7,h8,h10,h12,if_false,Bool.false_eq_true,go_sem,go_sem_proc]
theorem A3n {α:Type}{z:Nat}{enc:α->List AV}{d:α}{l:List α}{i:Nat}{a:α}(hi:i<l.length)(c:List AV)(hc:c=enc a):M9 (.dsl z l.length ((A9 enc d l).set i c).g) (.dsl z l.length (I8 enc d (l.set i a))):=by subst hc;rw[A65 _ hi rfl];exact D0 _
def A7b(w:Api.World)(id:Int):Api.World:=if 0<=H5 w id/\(w.cC.getD (H5 w id).toNat dF_).cS=3 then {w with cC:=w.cC.set (H5 w id).toNat {(w.cC.getD (H5 w id).toNat dF_)with eU:=false,eJ:=0}}else w
theorem A39(w:Api.World)(id:Int)(hw:Wsm w):cA_ D7h [.agg w.enc,sI id] [] (.agg (A7b w id).enc) []:=by
 have hB:=hw.1
 have hlt:=A3a w id;refine M3 33 [(4,some (some 11))] hm A6 Tryz.func291 rfl (st_ ?_);refine J2 ev_ K0 (U3 w hw) (st_ ?_);refine B92 ev_ K0 (T0 w id hB) (by rfl) (st_ ?_);refine⟨λh=>⟨h,hlt.2⟩,?_⟩;by_cases hc:0<=H5 w id/\(w.cC.getD (H5 w id).toNat dF_).cS=3
 ·have hi:(H5 w id).toNat<w.cC.length:=by omega
  rw[if_pos (by rw[if_pos hc.1];simpa using hc.2)];refine⟨⟨hc.1,hlt.2⟩,⟨hc.1,hlt.2⟩,?_⟩;simp(disch:=omega) only[A7b,if_pos hc,A1u,List.length_set,true_and,and_true];exact⟨A3n hi _ rfl,D0 _,D0 _,D0 _⟩
 ·rw[if_neg (by intro h;apply hc;split at h <;> simp_all)];simp only[A7b,if_neg hc,true_and,and_true];exact⟨D0 _,D0 _,D0 _,D0 _⟩
theorem D3h(l m:List cI)(hl:l.length<=1048576):cA_ D1a [A4 2 cI.enc dF_ l,A4 2 cI.enc dF_ m] [] (sB (decide (l=m))) []:=by
 refine en1 hm A6 Tryz.func521 rfl rfl (sg_ ?_);split
 ·rename_i hne;exact(decide_eq_false (F8t λe=>by rw[e]at hne;simp at hne)).symm
 ·rename_i hne;have hlen:l.length=m.length:=by simp at hne;omega
  refine B1 hm (ι:= {i:Nat // i<=l.length/\l.take i=m.take i}) (λi=> [(0, .cA,A4 2 cI.enc dF_ l),(1, .cA,A4 2 cI.enc dF_ m),(12, .cA,sI l.length),(13, .cA,sI i.1)])
   (λi=> []) (λi=>l.length-i.1) ⟨0,by omega,rfl⟩ ?_ ?_
  ·refine B0 [] [] (sg_ ?_)
   try trivial
  ·rintro⟨i,hi,ht⟩;simp only[cI.beq,go_sem];split
   ·rename_i hlt;have hlt:i<l.length:=by omega
    have hltm:i<m.length:=by omega
    refine⟨ok_,ok_,?_⟩;by_cases he:l.getD i dF_=m.getD i dF_
    ·rw[if_neg (by rw[decide_eq_true he];simp)];refine A8 ⟨i+1,by omega,D6b dF_ ht hlt hltm he⟩ (by show l.length-(i+1)<l.length-i;omega) (E0 [] [] ?_);refine sg_ ?_;exact(by rw[IntKind.wrap_i64];omega)
    ·rw[if_pos (by rw[decide_eq_false he])];exact(decide_eq_false (G1y dF_ he)).symm
   ·rename_i hge;have hil:i=l.length:=by omega
    subst hil;exact(decide_eq_true (F13 hlen ht)).symm
theorem E5s(x y:Shape)(h:Shape.sm x):cA_ E44 [.agg x.enc, .agg y.enc] [] (sB (decide (x=y))) []:=by refine en1 hm A6 Tryz.func450 rfl rfl (sg_ ?_);refine A0 (D3h x.cJ y.cJ h) rfl (sg_ ?_);cases x;cases y;rw[Bool.eq_iff_iff];simp[and_assoc]
theorem C7r(x y:dB)(h:dB.sm x):cA_ C51 [.agg x.enc, .agg y.enc] [] (sB (decide (x=y))) []:=by
 refine en1 hm A6 Tryz.func338 rfl rfl (sg_ ?_);refine A0 (E5s x.Shape y.Shape h) rfl (sg_ ?_);cases x;cases y;rw[Bool.eq_iff_iff];simp
 grind
theorem C03(x y:cF)(h:cF.sm x):cA_ D0g [.agg x.enc, .agg y.enc] [] (sB (decide (x=y))) []:=by
 have hb:=h.1;refine en1 hm A6 Tryz.func213 rfl rfl (sg_ ?_);split
 ·rename_i hc;exact(decide_eq_false λe=>by subst e;simp at hc).symm
 ·rename_i hc;simp at hc;have hlen:x.cK.length=y.cK.length:=by omega
  refine B1 hm (ι:= {i:Nat // i<=x.cK.length/\x.cK.take i=y.cK.take i}) (λi=> [(2, .cA, .ptr 48 0 0 1),(3, .cA, .ptr 64 0 0 1),(21, .cA,A4 10 dB.enc dF_ x.cK),(22, .cA,sI x.cK.length),(23, .cA,sI i.1)])
   (λi=> [(48, .box x.enc),(64, .box y.enc)]) (λi=>x.cK.length-i.1) ⟨0,by omega,rfl⟩ ?_ ?_
  ·refine B0 [] [] (sg_ ?_)
   try trivial
  ·rintro⟨i,hi,ht⟩;refine sg_ ?_;by_cases hlt:i<x.cK.length
   ·have hltm:i<y.cK.length:=by omega
    rw[if_pos (by omega)];refine⟨ok_,ok_,?_⟩;refine A0 (C7r (x.cK.getD i dF_) (y.cK.getD i dF_) (h.2 _ (B8 _ hlt))) rfl (sg_ ?_);by_cases he:x.cK.getD i dF_=y.cK.getD i dF_
    ·rw[if_neg (by rw[decide_eq_true he];simp)];refine A8 ⟨i+1,by omega,D6b dF_ ht hlt hltm he⟩ (by show x.cK.length-(i+1)<x.cK.length-i;omega) (B0 [] [] ?_);refine sg_ ?_;exact(by rw[IntKind.wrap_i64];omega)
    ·rw[if_pos (decide_eq_false he)];exact(decide_eq_false λe=>he (by rw[e])).symm
   ·rw[if_neg (by omega)];have hil:i=x.cK.length:=by omega
    subst hil;have hp:=F13 hlen ht;clear hc hlen ht hi hlt hb h;obtain⟨x0,x1,⟨⟨x2,x3⟩,x4⟩,⟨x5,x6⟩,x7,⟨x8,x9⟩,x10,x11,x12,x13,x14,x15,x16,x17,x18,x19⟩:=x;obtain⟨y0,y1,⟨⟨y2,y3⟩,y4⟩,⟨y5,y6⟩,y7,⟨y8,y9⟩,y10,y11,y12,y13,y14,y15,y16,y17,y18,y19⟩:=y;simp only at hp;subst hp;rw[Bool.eq_iff_iff];simp
    grind
end Go.Abs
end
