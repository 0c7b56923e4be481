/- A part of the proof: contracts of functions that the statement reaches. -/
import Derived.Test.YtchcbiiammkhgaaGreatMI
set_option linter.unusedSimpArgs false
set_option linter.unusedVariables false
set_option linter.unnecessarySimpa false
set_option maxRecDepth 100000
set_option maxHeartbeats 2000000
noncomputable section
namespace Go.Abs
open Go.Proofs
open Api
theorem D3g(l:List Row)(hl:l.length<=1048576):cA_ D08 [A4 14 Row.enc dF_ l] [] (.sl 1 0 l.length l.length) [(1, .arr 14 (A9 Row.enc dF_ l))]:=by
 by_cases hn:l= []
 ·subst hn;refine D5.nil_split (g:=I8 Row.enc dF_ ([]:List Row)) [] [] ?_ (λa c=> ?_)
  ·refine I7 hm A6 Tryz.func440 rfl rfl (st_ ?_);refine B6 [.eZ] [] [1] ?_;simp only[go_sem,go_sem_proc]
  ·refine I7 hm A6 Tryz.func440 rfl rfl (st_ ?_);refine⟨by simp[maxLen],?_⟩;refine B6 [.cA] [(1,96)] [] (st_ ?_);exact⟨rfl,rfl,λi hi=>absurd hi (by simp)⟩
 ·have hpos:0<l.length:=List.length_pos_iff.2 hn
  refine I7 hm A6 Tryz.func440 rfl rfl (st_ ?_);refine⟨hpos,⟨by omega,by simp only[maxLen];omega⟩,?_⟩;refine B6 [.cA] [(1,96)] [] ?_;simp only[go_sem,go_sem_proc]
theorem A9u(l:List cE)(hl:l.length<=1048576):cA_ B88 [A4 5 cE.enc dF_ l] [] (.sl 1 0 l.length l.length) [(1, .arr 5 (A9 cE.enc dF_ l))]:=by
 by_cases hn:l= []
 ·subst hn;refine D5.nil_split (g:=I8 cE.enc dF_ ([]:List cE)) [] [] ?_ (λa c=> ?_)
  ·refine I7 hm A6 Tryz.func439 rfl rfl (st_ ?_);refine B6 [.eZ] [] [1] ?_;simp only[go_sem,go_sem_proc]
  ·refine I7 hm A6 Tryz.func439 rfl rfl (st_ ?_);refine⟨by simp[maxLen],?_⟩;refine B6 [.cA] [(1,96)] [] (st_ ?_);exact⟨rfl,rfl,λi hi=>absurd hi (by simp)⟩
 ·have hpos:0<l.length:=List.length_pos_iff.2 hn
  refine I7 hm A6 Tryz.func439 rfl rfl (st_ ?_);refine⟨hpos,⟨by omega,by simp only[maxLen];omega⟩,?_⟩;refine B6 [.cA] [(1,96)] [] ?_;simp only[go_sem,go_sem_proc]
theorem C4c(l:List dB)(hl:l.length<=1048576):cA_ C3g [A4 10 dB.enc dF_ l] [] (.sl 1 0 l.length l.length) [(1, .arr 10 (A9 dB.enc dF_ l))]:=by
 by_cases hn:l= []
 ·subst hn;refine D5.nil_split (g:=I8 dB.enc dF_ ([]:List dB)) [] [] ?_ (λa c=> ?_)
  ·refine I7 hm A6 Tryz.func552 rfl rfl (st_ ?_);refine B6 [.eZ] [] [1] ?_;simp only[go_sem,go_sem_proc]
  ·refine I7 hm A6 Tryz.func552 rfl rfl (st_ ?_);refine⟨by simp[maxLen],?_⟩;refine B6 [.cA] [(1,96)] [] (st_ ?_);exact⟨rfl,rfl,λi hi=>absurd hi (by simp)⟩
 ·have hpos:0<l.length:=List.length_pos_iff.2 hn
  refine I7 hm A6 Tryz.func552 rfl rfl (st_ ?_);refine⟨hpos,⟨by omega,by simp only[maxLen];omega⟩,?_⟩;refine B6 [.cA] [(1,96)] [] ?_;simp only[go_sem,go_sem_proc]
def A1y(ps:List cI)(i1:Nat)(s1:Int×Int×Int×Int):Int×Int×Int×Int:=let v2:=(L4 ((ps.drop 1).getD i1 dF_));let v3:=(C0k (⟨s1.1,s1.2.1⟩:cI) v2);let v4:=(C0l (⟨s1.2.2.1,s1.2.2.2⟩:cI) v2);(v3.X,v3.Y,v4.X,v4.Y)
def A04(ps:List cI):fK×Bool:=if((ps.length:Int)==0)=true then(((⟨(⟨0,0⟩:cI),(⟨0,0⟩:cI)⟩:fK),false))else(let v1:=(L4 (ps.getD 0 dF_));let s1:=itr (A1y ps) (ps.drop 1).length (v1.X,v1.Y,v1.X,v1.Y);((⟨(⟨s1.1,s1.2.1⟩:cI),(⟨s1.2.2.1,s1.2.2.2⟩:cI)⟩:fK),true))
theorem B1r(ps:List cI)(h0:ps.length<=1048576):cA_ D4s [A4 2 cI.enc dF_ ps] [] (.tup [.agg (A04 ps).1.enc,sB ((A04 ps).2)]) []:=by
 refine S1 40 [(2,some (some 4)),(3,none)] hm A6 Tryz.func277 rfl ?_;have:=λx1 x2 x3=>cx_ (D2s ⟨x1,x2⟩ x3)
 have:=λx1 x2 x3=>cx_ (D2t ⟨x1,x2⟩ x3)
 have:=E07
 have:=D2s
 have:=D2t
 have:=A04.eq_1 ps
 have:=λi_ s_=>A1y.eq_1 ps i_ s_
 have:=λx_ Q_ σ_=> @lp_ Tryz.prog 40 [] x_ Q_ σ_ hm (λ_=>True) (λ_=>True) (ps.drop 1).length (λi_=> [(2, .cA, .ptr 48 0 0 1),(5, .cA, .ptr 96 0 0 1),(20, .cA,A4 2 cI.enc dF_ (ps.drop 1)),(21, .cA,sI ((ps.drop 1).length:Int)),(22, .cA,sI (i_:Int))]) (λi_=> [(48, .box [sI 0,sI 0,sI 0,sI 0]),(96, .box [sI ((itr (A1y ps) i_ ((L4 (ps.getD 0 dF_)).X,(L4 (ps.getD 0 dF_)).Y,(L4 (ps.getD 0 dF_)).X,(L4 (ps.getD 0 dF_)).Y)).1),sI ((itr (A1y ps) i_ ((L4 (ps.getD 0 dF_)).X,(L4 (ps.getD 0 dF_)).Y,(L4 (ps.getD 0 dF_)).X,(L4 (ps.getD 0 dF_)).Y)).2.1),sI ((itr (A1y ps) i_ ((L4 (ps.getD 0 dF_)).X,(L4 (ps.getD 0 dF_)).Y,(L4 (ps.getD 0 dF_)).X,(L4 (ps.getD 0 dF_)).Y)).2.2.1),sI ((itr (A1y ps) i_ ((L4 (ps.getD 0 dF_)).X,(L4 (ps.getD 0 dF_)).Y,(L4 (ps.getD 0 dF_)).X,(L4 (ps.getD 0 dF_)).Y)).2.2.2)])]) [] trivial (λ_ _=>trivial) (by simp[go_sem]) (by simp[go_sem,D3]) (by simp[go_sem]);exact K1
def A25(a:cI)(b:cI)(c:cI)(d:cI):Bool:=let v1:=(A04 ([a,b]));let v2:=(A04 ([c,d]));let v3:=(ori a b c);let v4:=(ori a b d);let v5:=(ori c d a);let v6:=(ori c d b);let v7:=(A23 v1.1 v2.1);((!((decide (0<(IntKind.i64.wrap (v3*v4))))||(decide (0<(IntKind.i64.wrap (v5*v6))))))&&v7)
theorem B49(a:cI)(b:cI)(c:cI)(d:cI):cA_ C6g [.agg a.enc, .agg b.enc, .agg c.enc, .agg d.enc] [] (sB (A25 a b c d)) []:=by
 refine en1 hm A6 Tryz.func405 rfl rfl (st_ ?_);refine A5i (B1r ([a,b]) (by((simp_all;done)))) rfl ?_ ?_
 ·(try simp only[S3,go_sem,go_sem_proc]);all_goals((repeat' (with_reducible apply And.intro)) <;> exact H1 (λ_ _=>rfl) rfl rfl rfl)
 generalize hv1:(A04 ([a,b]))=v1;refine st_ ?_;refine A5i (B1r ([c,d]) (by((simp_all;done)))) rfl ?_ ?_
 ·(try simp only[S3,go_sem,go_sem_proc]);all_goals((repeat' (with_reducible apply And.intro)) <;> exact H1 (λ_ _=>rfl) rfl rfl rfl)
 generalize hv2:(A04 ([c,d]))=v2;refine st_ ?_;refine A0 (A2w a b c) rfl ?_;generalize hv3:(ori a b c)=v3;refine st_ ?_;refine A0 (A2w a b d) rfl ?_;generalize hv4:(ori a b d)=v4;refine st_ ?_;refine A0 (A2w c d a) rfl ?_;generalize hv5:(ori c d a)=v5;refine st_ ?_;refine A0 (A2w c d b) rfl ?_;generalize hv6:(ori c d b)=v6;simp only[go_sem,go_sem_proc,E8];refine A0 (C2t v1.1 v2.1) rfl ?_;generalize hv7:(A23 v1.1 v2.1)=v7;simp only[go_sem,go_sem_proc,C9,D7];have hd:A25 a b c d=((!((decide (0<(IntKind.i64.wrap (v3*v4))))||(decide (0<(IntKind.i64.wrap (v5*v6))))))&&v7):=by(simp only[A25,hv1,hv2,hv3,hv4,hv5,hv6,hv7,eq_self];done)
 try rw[hd]
structure F6 where
 x:cI
 y:cI
 deriving DecidableEq,Inhabited
def F6.enc(x:F6):List AV:=[sI x.x.X,sI x.x.Y,sI x.y.X,sI x.y.Y]
def F6.zero:List AV:= [sI 0,sI 0,sI 0,sI 0]
attribute [go_sem] F6.enc F6.zero
@[go_sem] theorem F1t(x:F6):F6.mk x.x x.y=x:=rfl
def V7(v2:cI)(v3:cI)(v4:cI)(v11:cI×Int)(v12:cI×Int)(v13:cI×Int)(i1:Nat)(s1:Int×Int×Int×Int):Int×Int×Int×Int:=let v14:=(B4k (([(⟨v2,v11.1⟩:F6),(⟨v12.1,v3⟩:F6),(⟨v13.1,v4⟩:F6)]).getD i1 dF_).x (([(⟨v2,v11.1⟩:F6),(⟨v12.1,v3⟩:F6),(⟨v13.1,v4⟩:F6)]).getD i1 dF_).y);let v15:=(B4k (⟨s1.1,s1.2.1⟩:cI) (⟨s1.2.2.1,s1.2.2.2⟩:cI));if v14<v15 then(((([(⟨v2,v11.1⟩:F6),(⟨v12.1,v3⟩:F6),(⟨v13.1,v4⟩:F6)]).getD i1 dF_).x.X,(([(⟨v2,v11.1⟩:F6),(⟨v12.1,v3⟩:F6),(⟨v13.1,v4⟩:F6)]).getD i1 dF_).x.Y,(([(⟨v2,v11.1⟩:F6),(⟨v12.1,v3⟩:F6),(⟨v13.1,v4⟩:F6)]).getD i1 dF_).y.X,(([(⟨v2,v11.1⟩:F6),(⟨v12.1,v3⟩:F6),(⟨v13.1,v4⟩:F6)]).getD i1 dF_).y.Y))else((s1.1,s1.2.1,s1.2.2.1,s1.2.2.2))
def A0j(a:cI)(b:cI)(c:cI)(d:cI):cI×cI:=let v1:=(A5 a);let v2:=(A5 b);let v3:=(A5 c);let v4:=(A5 d);let v5:=(A25 v1 v2 v3 v4);if v5=true then(let v6:=(A4k v3 v4 v1);let v7:=(A4k v3 v4 v2);let v8:=(A8w v6 (IntKind.i64.wrap (v6+v7)));let v9:=(A7e v1 v2 v8);(v9,v9))else(let v10:=(B4 v3 v4 v1);let v11:=(B4 v3 v4 v2);let v12:=(B4 v1 v2 v3);let v13:=(B4 v1 v2 v4);let s1:=itr (V7 v2 v3 v4 v11 v12 v13) 3 (v1.X,v1.Y,v10.1.X,v10.1.Y);((⟨s1.1,s1.2.1⟩:cI),(⟨s1.2.2.1,s1.2.2.2⟩:cI)))
theorem B1i(a:cI)(b:cI)(c:cI)(d:cI):cA_ C1l [.agg a.enc, .agg b.enc, .agg c.enc, .agg d.enc] [] (.tup [.agg (A0j a b c d).1.enc, .agg (A0j a b c d).2.enc]) []:=by
 refine S1 118 [(8,some (some 2)),(9,some (some 2))] hm A6 Tryz.func383 rfl ?_;have:=λx1 x2 x3 x4=>cx_ (Y2 ⟨x1,x2⟩ ⟨x3,x4⟩)
 have:=B7s
 have:=B49
 have:=C39
 have:=B8s
 have:=B2l
 have:=B2i
 have:=Y2
 have:=A0j.eq_1 a b c d
 have:=λi_ s_=>V7.eq_1 (A5 b) (A5 c) (A5 d) (B4 (A5 c) (A5 d) (A5 b)) (B4 (A5 a) (A5 b) (A5 c)) (B4 (A5 a) (A5 b) (A5 d)) i_ s_
 have:=λx_ Q_ σ_=> @lp_ Tryz.prog 118 [] x_ Q_ σ_ hm (λ_=>True) (λ_=>True) 3 (λi_=> [(8, .cA, .ptr 144 0 0 1),(9, .cA, .ptr 160 0 0 1),(21, .cA, .ptr 352 0 0 1),(95, .cA, .sl 1536 0 3 3),(96, .cA,sI 3),(97, .cA,sI (i_:Int))]) (λi_=> [(144, .box [sI 0,sI 0]),(160, .box [sI 0,sI 0]),(352, .box [sI ((itr (V7 (A5 b) (A5 c) (A5 d) (B4 (A5 c) (A5 d) (A5 b)) (B4 (A5 a) (A5 b) (A5 c)) (B4 (A5 a) (A5 b) (A5 d))) i_ ((A5 a).X,(A5 a).Y,(B4 (A5 c) (A5 d) (A5 a)).1.X,(B4 (A5 c) (A5 d) (A5 a)).1.Y)).1),sI ((itr (V7 (A5 b) (A5 c) (A5 d) (B4 (A5 c) (A5 d) (A5 b)) (B4 (A5 a) (A5 b) (A5 c)) (B4 (A5 a) (A5 b) (A5 d))) i_ ((A5 a).X,(A5 a).Y,(B4 (A5 c) (A5 d) (A5 a)).1.X,(B4 (A5 c) (A5 d) (A5 a)).1.Y)).2.1),sI ((itr (V7 (A5 b) (A5 c) (A5 d) (B4 (A5 c) (A5 d) (A5 b)) (B4 (A5 a) (A5 b) (A5 c)) (B4 (A5 a) (A5 b) (A5 d))) i_ ((A5 a).X,(A5 a).Y,(B4 (A5 c) (A5 d) (A5 a)).1.X,(B4 (A5 c) (A5 d) (A5 a)).1.Y)).2.2.1),sI ((itr (V7 (A5 b) (A5 c) (A5 d) (B4 (A5 c) (A5 d) (A5 b)) (B4 (A5 a) (A5 b) (A5 c)) (B4 (A5 a) (A5 b) (A5 d))) i_ ((A5 a).X,(A5 a).Y,(B4 (A5 c) (A5 d) (A5 a)).1.X,(B4 (A5 c) (A5 d) (A5 a)).1.Y)).2.2.2)]),(1536, .arr 4 (A9 F6.enc dF_ ([(⟨(A5 b),(B4 (A5 c) (A5 d) (A5 b)).1⟩:F6),(⟨(B4 (A5 a) (A5 b) (A5 c)).1,(A5 c)⟩:F6),(⟨(B4 (A5 a) (A5 b) (A5 d)).1,(A5 d)⟩:F6)])))]) [] trivial (λ_ _=>trivial) (by simp[go_sem]) (by simp[go_sem,D3]) (by simp[go_sem]);exact K1
def A4r(a:cI)(b:cI)(c:cI)(d:cI):Int:=let v1:=(A25 a b c d);if v1=true then(0)else(let v2:=(A0j a b c d);let v3:=(B4k v2.1 v2.2);let v4:=(isq v3);(sat v4))
theorem B7r(a:cI)(b:cI)(c:cI)(d:cI):cA_ D03 [.agg a.enc, .agg b.enc, .agg c.enc, .agg d.enc] [] (sI (A4r a b c d)) []:=by
 refine en1 hm A6 Tryz.func273 rfl rfl ?_;have:=B49
 have:=B1i
 have:=Y2
 have:=B2w
 have:=L3
 have:=A4r.eq_1 a b c d;exact E7
def Y8(s:Shape)(p:cH)(i1:Nat)(s1:(List cI)):(List cI):=let v2:=(Z4 p (s.cJ.getD i1 dF_));(s1++ [v2])
def G9(s:Shape)(p:cH):(List cI):=let v1:=(G5 s);if(v1 != 0)=true then(([]:List cI))else(let s1:=itr (Y8 s p) s.cJ.length [];s1)
theorem A8s(s:Shape)(p:cH)(h0:s.cJ.length<=1048576):cA_ D69 [.agg s.enc, .agg p.enc] [] (A4 2 cI.enc dF_ (G9 s p)) []:=by
 refine en1 hm A6 Tryz.func270 rfl rfl ?_;have:=A1x
 have:=A7s
 have:=G9.eq_1 s p
 have:=λi_ s_=>Y8.eq_1 s p i_ s_
 have:=λx_ Q_ σ_=> @lp_ Tryz.prog Tryz.f270.ntmps [] x_ Q_ σ_ hm (λ_=>True) (λi_=>((itr (Y8 s p) i_ [])).length<=0+1*i_) s.cJ.length (λi_=> [(3, .cA, .ptr 64 0 0 1),(5,if i_=0 then .eZ else .cA, .sl 1005 0 (itr (Y8 s p) i_ []).length (itr (Y8 s p) i_ []).length),(12, .cA,A4 2 cI.enc dF_ s.cJ),(13, .cA,sI (s.cJ.length:Int)),(14, .cA,sI (i_:Int))]) (λi_=> [(64, .box [sI p.dY.X,sI p.dY.Y,sI p.eR]),(1005, .arr 2 (A9 cI.enc dF_ (itr (Y8 s p) i_ [])))]) [1005] trivial (λi_ hI_=>A87 (λs:(List cI)=>(s).length) 1 (λi s=>by(unfold Y8;(repeat' split) <;> simp <;> omega)) i_ _) (by simp[go_sem]) (by simp[go_sem,D3]) (by simp[go_sem]);exact B2n
theorem F11 {α β:Type}(g:α->β)(d:α)(l:List α)(st:Nat->List β->List β)(h: ∀i s,st i s=s++ [g (l.getD i d)]): ∀n,n<=l.length->itr st n []=(l.take n).map g
 |0,_=>rfl
 |n+1,hn=>by rw[H6,h,F11 g d l st h n (by omega),L5 d (by omega:n<l.length),List.map_append];rfl
theorem F96(s:Shape)(p:cH):G9 s p=if G5 s=0 then s.cJ.map (λv=>Z4 p v)else []:=by
 unfold G9;by_cases h:G5 s=0
 ·rw[if_neg (by simp[h]),if_pos h];have:=F11 (λv=>Z4 p v) dF_ s.cJ (Y8 s p) (λi s'=>rfl) s.cJ.length (Nat.le_refl _);rw[List.take_length]at this;exact this
 ·rw[if_pos (by simp[h]),if_neg h]
theorem E4r(s:Shape)(p:cH):(G9 s p).length=(if G5 s=0 then s.cJ.length else 0):=by rw[F96];split <;> simp
theorem C1e(s:Shape)(p:cH):(G9 s p).length<=s.cJ.length:=by rw[E4r];split <;> omega
def B6b(s:Shape)(p:cH):fK:=let v1:=(G9 s p);let v2:=(A04 v1);if v2.2=false then((⟨(⟨0,0⟩:cI),(⟨0,0⟩:cI)⟩:fK))else(let v3:=(O6 v2.1.fU (⟨s.eV,s.eV⟩:cI));let v4:=(A1e v2.1.fX (⟨s.eV,s.eV⟩:cI));(⟨v3,v4⟩:fK))
theorem E3k(s:Shape)(p:cH)(h0:s.cJ.length<=1048576):cA_ E16 [.agg s.enc, .agg p.enc] [] (.agg (B6b s p).enc) []:=by
 refine M3 32 [(4,some (some 4))] hm A6 Tryz.func169 rfl ?_;have:=λx1 x2 x3=>cx_ (L7 x1 ⟨x2,x3⟩)
 have:=λx1 x2 x3=>cx_ (A3h x1 ⟨x2,x3⟩)
 have:=C1e s p
 have:=A8s
 have:=B1r
 have:=L7
 have:=A3h
 have:=B6b.eq_1 s p;exact K1
def A5p(v:cI)(v1:(List cI))(i1:Nat)(s1:Unit):(Unit) ⊕ (Bool):=let v5:=(ori (v1.getD i1 dF_) (v1.getD ((IntKind.i64.wrap ((i1:Int)+1)).tmod (v1.length:Int)).toNat dF_) v);if v5<0 then(.inr false)else(.inl ())
def A42(s:Shape)(p:cH)(v:cI):Bool:=let v1:=(G9 s p);if((v1.length:Int)==0)=true then(false)else(if((v1.length:Int)==1)=true then(let v2:=(O6 v (v1.getD 0 dF_));let v3:=(B0g v2);(decide (v3<=s.eV)))else(if((v1.length:Int)==2)=true then(let v4:=(A4r v v (v1.getD 0 dF_) (v1.getD 1 dF_));(decide (v4<=s.eV)))else((match J8 (A5p v v1) v1.length ()with | .inr r=>r | .inl s1=>true))))
theorem C5p(s:Shape)(p:cH)(v:cI)(h0:s.cJ.length<=1048576):cA_ C4w [.agg s.enc, .agg p.enc, .agg v.enc] [] (sB (A42 s p v)) []:=by
 refine en1 hm A6 Tryz.func166 rfl rfl ?_;have:=C1e s p
 have:=A8s
 have:=L7
 have:=V8
 have:=B7r
 have:=A2w
 have:=A42.eq_1 s p v
 have:=λi_ s_=>A5p.eq_1 v (G9 s p) i_ s_
 have:=λx_ Q_ σ_=> @lp_ Tryz.prog Tryz.f166.ntmps [] x_ Q_ σ_ hm (IE (A5p v (G9 s p)) ()) (λ_=>True) (G9 s p).length (λi_=> [(5, .cA, .ptr 96 0 0 1),(7, .cA,A4 2 cI.enc dF_ (G9 s p)),(42, .cA,A4 2 cI.enc dF_ (G9 s p)),(43, .cA,sI ((G9 s p).length:Int)),(44, .cA,sI (i_:Int))]) (λi_=> [(96, .box [sI v.X,sI v.Y])]) [] rfl (λ_ _=>trivial) (by simp[go_sem]) (by simp[go_sem,D3]) (by simp[go_sem]);exact K1
def A1d(s:Shape)(i1:Nat)(s1:Int):Int:=let v2:=(B0g (s.cJ.getD i1 dF_));(if s1<v2 then v2 else s1)
def A0z(s:Shape):Int:=let v1:=(G5 s);if(v1 != 0)=true then(0)else(let s1:=itr (A1d s) s.cJ.length 0;let v3:=(D1 s1 s.eV);v3)
theorem C4a(s:Shape)(h0:s.cJ.length<=1048576):cA_ C3e [.agg s.enc] [] (sI (A0z s)) []:=by
 refine en1 hm A6 Tryz.func571 rfl rfl ?_;have:=A1x
 have:=V8
 have:=N2
 have:=A0z.eq_1 s
 have:=λi_ s_=>A1d.eq_1 s i_ s_
 have:=λx_ Q_ σ_=> @lp_ Tryz.prog Tryz.f571.ntmps [] x_ Q_ σ_ hm (λ_=>True) (λ_=>True) s.cJ.length (λi_=> [(1, .cA, .ptr 32 0 0 1),(3, .cA,sI (itr (A1d s) i_ 0)),(10, .cA,A4 2 cI.enc dF_ s.cJ),(11, .cA,sI (s.cJ.length:Int)),(12, .cA,sI (i_:Int))]) (λi_=> [(32, .box [sI s.cS,sI s.eV,A4 2 cI.enc dF_ s.cJ])]) [] trivial (λ_ _=>trivial) (by simp[go_sem]) (by simp[go_sem,D3]) (by simp[go_sem]);exact B2n
theorem E4q(s:Shape):G5 s=0->(1<=s.cS/\s.cS<=3)/\(s.cS=1->s.cJ.length=1)/\(s.cS=2->s.cJ.length=2)/\(s.cS≠1->s.cS≠2->3<=s.cJ.length)/\s.cJ.length<=8:=by
 intro h;unfold G5 at h;split at h
 ·cases h
 ·rename_i h1;simp only at h;split at h
  ·cases h
  ·rename_i h2;clear h;unfold A0f at h2;simp only[Bool.or_eq_true,decide_eq_true_eq,not_or]at h1
   (repeat' split at h2) <;> simp only[Bool.and_eq_true,Bool.not_eq_false,decide_eq_true_eq,beq_iff_eq]at* <;> omega
def B4j(a:List cI)(i:Int):cI×Bool:=if(((decide ((a.length:Int)<2))||(decide (i<0)))||(decide ((a.length:Int)<=i)))=true then(((⟨0,0⟩:cI),false))else(let v1:=(O6 (a.getD ((IntKind.i64.wrap (i+1)).tmod (a.length:Int)).toNat dF_) (a.getD i.toNat dF_));(v1,true))
theorem E1h(a:List cI)(i:Int)(h0:a.length<=1048576):cA_ F2z [A4 2 cI.enc dF_ a,sI i] [] (.tup [.agg (B4j a i).1.enc,sB ((B4j a i).2)]) []:=by
 refine S1 33 [(4,some (some 2)),(5,none)] hm A6 Tryz.func490 rfl ?_;have:=L7
 have:=B4j.eq_1 a i;exact K1
def Q4(a:List cI)(i:Int):cI:=let v1:=(B4j a i);if v1.2=false then((⟨0,0⟩:cI))else(let v2:=(A35 (⟨v1.1.Y,(IntKind.i64.wrap (0-v1.1.X))⟩:cI));v2)
theorem A5u(a:List cI)(i:Int)(h0:a.length<=1048576):cA_ D66 [A4 2 cI.enc dF_ a,sI i] [] (.agg (Q4 a i).enc) []:=by
 refine M3 23 [(4,some (some 2))] hm A6 Tryz.func389 rfl ?_;have:=λx1 x2=>cx_ (A5w ⟨x1,x2⟩)
 have:=E1h
 have:=A5w
 have:=Q4.eq_1 a i;exact E7
def A50(a:List cI)(i:Int):cI:=let v1:=(B4j a i);if v1.2=false then((⟨0,0⟩:cI))else(let v2:=(A35 v1.1);v2)
theorem C96(a:List cI)(i:Int)(h0:a.length<=1048576):cA_ C9k [A4 2 cI.enc dF_ a,sI i] [] (.agg (A50 a i).enc) []:=by
 refine M3 18 [(4,some (some 2))] hm A6 Tryz.func541 rfl ?_;have:=E1h
 have:=A5w
 have:=A50.eq_1 a i;exact E7
def A9g(n:cI)(o:cI)(b:List cI)(i1:Nat)(s1:Int):Int:=let v1:=(O6 (b.getD i1 dF_) o);let v2:=(P8 n v1);if(((i1:Int)==0)||(decide (v2<s1)))=true then(v2)else(s1)
def B20(n:cI)(o:cI)(b:List cI):Int:=let s1:=itr (A9g n o b) b.length 0;s1
theorem D85(n:cI)(o:cI)(b:List cI)(h0:b.length<=1048576):cA_ D67 [.agg n.enc, .agg o.enc,A4 2 cI.enc dF_ b] [] (sI (B20 n o b)) []:=by
 refine en1 hm A6 Tryz.func489 rfl rfl ?_;have:=L7
 have:=A0r
 have:=B20.eq_1 n o b
 have:=λi_ s_=>A9g.eq_1 n o b i_ s_
 have:=λx_ Q_ σ_=> @lp_ Tryz.prog Tryz.f489.ntmps [] x_ Q_ σ_ hm (λ_=>True) (λ_=>True) b.length (λi_=> [(2, .cA,A4 2 cI.enc dF_ b),(3, .cA, .ptr 64 0 0 1),(4, .cA, .ptr 80 0 0 1),(7, .cA,sI (itr (A9g n o b) i_ 0)),(11, .cA,sI (b.length:Int)),(12, .cA,sI (i_:Int))]) (λi_=> [(64, .box [sI n.X,sI n.Y]),(80, .box [sI o.X,sI o.Y])]) [] trivial (λ_ _=>trivial) (by simp[go_sem]) (by simp[go_sem,D3]) (by simp[go_sem]);exact B2n
def R0(a:List cI)(b:List cI)(i1:Nat)(s1:Int×Int):Int×Int:=let v1:=(Q4 a (i1:Int));let v2:=(B20 v1 (a.getD i1 dF_) b);if((decide (s1.1<0))||(decide (s1.2<v2)))=true then(((i1:Int),v2))else((s1.1,s1.2))
def D9(a:List cI)(b:List cI):Int×Int:=if((decide ((a.length:Int)<2))||((b.length:Int)==0))=true then(((-1),0))else(let s1:=itr (R0 a b) a.length ((-1),0);(s1.1,s1.2))
theorem B51(a:List cI)(b:List cI)(h0:a.length<=1048576)(h1:b.length<=1048576):cA_ C9l [A4 2 cI.enc dF_ a,A4 2 cI.enc dF_ b] [] (.tup [sI ((D9 a b).1),sI ((D9 a b).2)]) []:=by
 refine enT hm A6 Tryz.func388 rfl rfl ?_;have:=A5u
 have:=D85
 have:=D9.eq_1 a b
 have:=λi_ s_=>R0.eq_1 a b i_ s_
 have:=λx_ Q_ σ_=> @lp_ Tryz.prog Tryz.f388.ntmps [] x_ Q_ σ_ hm (λ_=>True) (λ_=>True) a.length (λi_=> [(0, .cA,A4 2 cI.enc dF_ a),(1, .cA,A4 2 cI.enc dF_ b),(6, .cA,sI ((itr (R0 a b) i_ ((-1),0)).1)),(7, .cA,sI ((itr (R0 a b) i_ ((-1),0)).2)),(19, .cA,sI (a.length:Int)),(20, .cA,sI (i_:Int))]) (λi_=> []) [] trivial (λ_ _=>trivial) (by simp[go_sem]) (by simp[go_sem,D3]) (by simp[go_sem]);exact K1
def A41(b:List cI)(n:cI)(i1:Nat)(s1:Int×Int):Int×Int:=let v1:=(Q4 b (i1:Int));let v2:=(P8 v1 n);if((decide (s1.1<0))||(decide (v2<s1.2)))=true then(((i1:Int),v2))else((s1.1,s1.2))
def B0a(b:List cI)(n:cI):Int:=if(b.length:Int)<2 then((-1))else(let s1:=itr (A41 b n) b.length ((-1),0);s1.1)
theorem B7q(b:List cI)(n:cI)(h0:b.length<=1048576):cA_ D02 [A4 2 cI.enc dF_ b, .agg n.enc] [] (sI (B0a b n)) []:=by
 refine en1 hm A6 Tryz.func491 rfl rfl ?_;have:=A5u
 have:=A0r
 have:=B0a.eq_1 b n
 have:=λi_ s_=>A41.eq_1 b n i_ s_
 have:=λx_ Q_ σ_=> @lp_ Tryz.prog Tryz.f491.ntmps [] x_ Q_ σ_ hm (λ_=>True) (λ_=>True) b.length (λi_=> [(0, .cA,A4 2 cI.enc dF_ b),(3, .cA, .ptr 64 0 0 1),(5, .cA,sI ((itr (A41 b n) i_ ((-1),0)).1)),(6, .cA,sI ((itr (A41 b n) i_ ((-1),0)).2)),(13, .cA,sI (b.length:Int)),(14, .cA,sI (i_:Int))]) (λi_=> [(64, .box [sI n.X,sI n.Y])]) [] trivial (λ_ _=>trivial) (by simp[go_sem]) (by simp[go_sem,D3]) (by simp[go_sem]);exact K1
structure dV where
 eY:cI
 ID:Int
 deriving DecidableEq,Inhabited
def dV.enc(x:dV):List AV:=[sI x.eY.X,sI x.eY.Y,sI x.ID]
def dV.zero:List AV:= [sI 0,sI 0,sI 0]
attribute [go_sem] dV.enc dV.zero
@[go_sem] theorem G0h(x:dV):dV.mk x.eY x.ID=x:=rfl
def B0w(s:dV)(o:dV)(d:Int)(by_:Int):dV:=let v1:=(A8w d (IntKind.i64.wrap (d-by_)));let v2:=(A7e s.eY o.eY v1);(⟨v2,s.ID⟩:dV)
theorem E3i(s:dV)(o:dV)(d:Int)(by_:Int):cA_ E1z [.agg s.enc, .agg o.enc,sI d,sI by_] [] (.agg (B0w s o d by_).enc) []:=by
 refine M3 21 [(8,some (some 3))] hm A6 Tryz.func567 rfl ?_;have:=B8s
 have:=B2l
 have:=B0w.eq_1 s o d by_;exact E7
def A1o(l:List dV)(o:cI)(n:cI):(List dV):=if((l.length:Int) != 2)=true then(([]:List dV))else(let v1:=(O6 (l.getD 0 dF_).eY o);let v2:=(P8 n v1);let v3:=(O6 (l.getD 1 dF_).eY o);let v4:=(P8 n v3);if((decide (0<v2))&&(decide (0<v4)))=true then(([]:List dV))else(if 0<v2 then(let v5:=(B0w (l.getD 0 dF_) (l.getD 1 dF_) v2 v4);[v5,(l.getD 1 dF_)])else(if 0<v4 then(let v6:=(B0w (l.getD 1 dF_) (l.getD 0 dF_) v4 v2);[(l.getD 0 dF_),v6])else([(l.getD 0 dF_),(l.getD 1 dF_)]))))
theorem C04(l:List dV)(o:cI)(n:cI):cA_ D6q [A4 3 dV.enc dF_ l, .agg o.enc, .agg n.enc] [] (A4 3 dV.enc dF_ (A1o l o n)) []:=by
 refine en1 hm A6 Tryz.func542 rfl rfl ?_;have:=L7
 have:=A0r
 have:=E3i
 have:=A1o.eq_1 l o n;exact K1
theorem G1u(vs:List cI):(Q7 vs).1.length<=vs.length:=by have:=A87 (λs:(List K6)×Int=>s.1.length) 1 (f:=U6 vs) (λi s=>by unfold U6;simp) (vs.length-2) ([],0);unfold Q7;simp only[List.length_nil]at this⊢;omega
def A3p(a:List cI)(i:Int)(b:List cI)(k:Int):(List dV):=if((((((decide ((a.length:Int)<2))||(decide ((b.length:Int)<2)))||(decide (i<0)))||(decide (k<0)))||(decide ((a.length:Int)<=i)))||(decide ((b.length:Int)<=k)))=true then(([]:List dV))else(let v1:=(A50 a i);let v2:=(A1o ([(⟨(b.getD k.toNat dF_),0⟩:dV),(⟨(b.getD ((IntKind.i64.wrap (k+1)).tmod (b.length:Int)).toNat dF_),1⟩:dV)]) (a.getD ((IntKind.i64.wrap (i+1)).tmod (a.length:Int)).toNat dF_) v1);let v3:=(P9 v1 (-65536));let v4:=(A1o v2 (a.getD i.toNat dF_) v3);v4)
theorem C8z(a:List cI)(i:Int)(b:List cI)(k:Int)(h0:a.length<=1048576)(h1:b.length<=1048576):cA_ E4x [A4 2 cI.enc dF_ a,sI i,A4 2 cI.enc dF_ b,sI k] [] (A4 3 dV.enc dF_ (A3p a i b k)) []:=by
 refine en1 hm A6 Tryz.func492 rfl rfl ?_;simp only[go_sem,go_sem_proc,E8,C3];by_cases h1:((((((decide ((a.length:Int)<2))||(decide ((b.length:Int)<2)))||(decide (i<0)))||(decide (k<0)))||(decide ((a.length:Int)<=i)))||(decide ((b.length:Int)<=k)))=true
 ·rw[if_pos h1];have hd:A3p a i b k=([]:List dV):=by(simp only[A3p,h1,if_true,eq_self];done)
  try rw[hd]
  try simp only[go_sem,go_sem_proc]
  exact eO_
 ·rw[if_neg h1];refine A0 (C96 a i (by(assumption))) rfl ?_;generalize hv1:(A50 a i)=v1;refine st_ ?_
  (repeat(with_reducible refine And.intro ?_ ?_;exact bO_))
  refine O7 (C04 ([(⟨(b.getD k.toNat dF_),0⟩:dV),(⟨(b.getD ((IntKind.i64.wrap (k+1)).tmod (b.length:Int)).toNat dF_),1⟩:dV)]) (a.getD ((IntKind.i64.wrap (i+1)).tmod (a.length:Int)).toNat dF_) v1) ?_
  (try simp only[S3,go_sem,go_sem_proc])
  (repeat(with_reducible refine And.intro ?_ ?_;focus (exact H1 (λ_ _=>rfl) rfl rfl rfl)))
  generalize hv2:(A1o ([(⟨(b.getD k.toNat dF_),0⟩:dV),(⟨(b.getD ((IntKind.i64.wrap (k+1)).tmod (b.length:Int)).toNat dF_),1⟩:dV)]) (a.getD ((IntKind.i64.wrap (i+1)).tmod (a.length:Int)).toNat dF_) v1)=v2
  (repeat(with_reducible refine And.intro ?_ ?_;exact bO_))
  refine A0 (A5x v1 (-65536)) rfl ?_;generalize hv3:(P9 v1 (-65536))=v3;refine st_ ?_;refine A0 (C04 v2 (a.getD i.toNat dF_) v3) rfl ?_;generalize hv4:(A1o v2 (a.getD i.toNat dF_) v3)=v4;refine st_ ?_;have hd:A3p a i b k=v4:=by(simp only[A3p,h1,hv1,hv2,hv3,hv4,if_false,eq_self,Bool.false_eq_true];done)
  try rw[hd]
  try simp only[go_sem,go_sem_proc]
def A40(v2:(List K6)×Int)(i1:Nat)(s1:Int×Int):Int×Int:=((IntKind.i64.wrap (s1.1+(IntKind.i64.wrap ((IntKind.i64.wrap ((v2.1.getD i1 dF_).e.X+(v2.1.getD i1 dF_).f.X))*(v2.1.getD i1 dF_).cross)))),(IntKind.i64.wrap (s1.2+(IntKind.i64.wrap ((IntKind.i64.wrap ((v2.1.getD i1 dF_).e.Y+(v2.1.getD i1 dF_).f.Y))*(v2.1.getD i1 dF_).cross)))))
def K3(vs:List cI):cI:=let v1:=(M5 vs);if v1=false then((⟨0,0⟩:cI))else(let v2:=(Q7 vs);if(v2.2==0)=true then((vs.getD 0 dF_))else(let s1:=itr (A40 v2) v2.1.length (0,0);let v3:=(A37 s1.1 (IntKind.i64.wrap (3*v2.2)));let v4:=(A37 s1.2 (IntKind.i64.wrap (3*v2.2)));(⟨(IntKind.i64.wrap ((vs.getD 0 dF_).X+v3)),(IntKind.i64.wrap ((vs.getD 0 dF_).Y+v4))⟩:cI)))
theorem D29(vs:List cI)(h0:vs.length<=1048576):cA_ D0z [A4 2 cI.enc dF_ vs] [] (.agg (K3 vs).enc) []:=by
 refine M3 73 [(2,some (some 2))] hm A6 Tryz.func549 rfl ?_;have:=G1u vs
 have:=B9i vs
 have:=A69
 have:=C83
 have:=Q5
 have:=K3.eq_1 vs
 have:=λi_ s_=>A40.eq_1 (Q7 vs) i_ s_
 have:=λx_ Q_ σ_=> @lp_ Tryz.prog 73 [] x_ Q_ σ_ hm (λ_=>True) (λ_=>True) (Q7 vs).1.length (λi_=> [(0, .cA,A4 2 cI.enc dF_ vs),(2, .cA, .ptr 48 0 0 1),(4, .cA,sI ((Q7 vs).2)),(5, .cA,sI ((itr (A40 (Q7 vs)) i_ (0,0)).1)),(6, .cA,sI ((itr (A40 (Q7 vs)) i_ (0,0)).2)),(23, .cA,A4 5 K6.enc dF_ (Q7 vs).1),(24, .cA,sI ((Q7 vs).1.length:Int)),(25, .cA,sI (i_:Int))]) (λi_=> [(48, .box [sI 0,sI 0])]) [] trivial (λ_ _=>trivial) (by simp[go_sem]) (by simp[go_sem,D3]) (by simp[go_sem]);exact K1
structure dO where
 fT:Int
 fP:cI
 fS:Int
 deriving DecidableEq,Inhabited
def dO.enc(x:dO):List AV:=[sI x.fT,sI x.fP.X,sI x.fP.Y,sI x.fS]
def dO.zero:List AV:= [sI 0,sI 0,sI 0,sI 0]
attribute [go_sem] dO.enc dO.zero
@[go_sem] theorem G4q(x:dO):dO.mk x.fT x.fP x.fS=x:=rfl
def A9f(s:Shape)(d:Int):dO:=let v1:=(B7 s.eV s.eV);let v2:=(B7 205888 v1);let v3:=(B7 v2 d);let v4:=(A37 v1 2);let v5:=(B7 v3 v4);(⟨v3,(s.cJ.getD 0 dF_),v5⟩:dO)
theorem C94(s:Shape)(d:Int)(h1:1<=s.cJ.length):cA_ C9h [.agg s.enc,sI d] [] (.agg (A9f s d).enc) []:=by
 refine M3 26 [(4,some (some 4))] hm A6 Tryz.func513 rfl ?_;have:=M2
 have:=Q5
 have:=A9f.eq_1 s d;exact E7
def A8h(s:Shape)(d:Int):dO:=let v1:=(B7 s.eV s.eV);let v2:=(O6 (s.cJ.getD 1 dF_) (s.cJ.getD 0 dF_));let v3:=(B0g v2);let v4:=(B7 205888 v1);let v5:=(D1 s.eV s.eV);let v6:=(B7 v5 v3);let v7:=(D1 v4 v6);let v8:=(B7 v7 d);let v9:=(A37 v1 2);let v10:=(B7 v3 v3);let v11:=(A37 v10 12);let v12:=(D1 v9 v11);let v13:=(A7e (s.cJ.getD 0 dF_) (s.cJ.getD 1 dF_) 32768);let v14:=(B7 v8 v12);(⟨v8,v13,v14⟩:dO)
theorem C7w(s:Shape)(d:Int)(h1:2<=s.cJ.length):cA_ C6a [.agg s.enc,sI d] [] (.agg (A8h s d).enc) []:=by
 refine M3 59 [(4,some (some 4))] hm A6 Tryz.func514 rfl ?_;have:=M2
 have:=L7
 have:=V8
 have:=N2
 have:=Q5
 have:=B2l
 have:=A8h.eq_1 s d;exact E7
def A0i(s:Shape)(v3:cI)(i1:Nat)(s1:Int×Int×Int×Int):Int×Int×Int×Int:=let v5:=(O6 (s.cJ.getD i1 dF_) v3);let v6:=(A0x (⟨s1.2.2.1,s1.2.2.2⟩:cI) v5);let v7:=(P8 (⟨s1.2.2.1,s1.2.2.2⟩:cI) (⟨s1.2.2.1,s1.2.2.2⟩:cI));let v8:=(P8 (⟨s1.2.2.1,s1.2.2.2⟩:cI) v5);let v9:=(P8 v5 v5);((IntKind.i64.wrap (s1.1+(IntKind.i64.wrap (v6*(IntKind.i64.wrap ((IntKind.i64.wrap (v7+v8))+v9)))))),(IntKind.i64.wrap (s1.2.1+v6)),v5.X,v5.Y)
def A8i(s:Shape)(d:Int):dO:=let v1:=(A11 s.cJ);let v2:=(B7 v1 d);let v3:=(K3 s.cJ);let v4:=(O6 (s.cJ.getD (IntKind.i64.wrap ((s.cJ.length:Int)-1)).toNat dF_) v3);let s1:=itr (A0i s v3) s.cJ.length (0,0,v4.X,v4.Y);if s1.2.1<1 then((⟨v2,v3,0⟩:dO))else(let v10:=(A37 s1.1 s1.2.1);let v11:=(A37 v10 6);let v12:=(B7 v2 v11);(⟨v2,v3,v12⟩:dO))
theorem C7x(s:Shape)(d:Int)(h1:1<=s.cJ.length)(h0:s.cJ.length<=1048576):cA_ C6b [.agg s.enc,sI d] [] (.agg (A8i s d).enc) []:=by
 refine M3 79 [(4,some (some 4))] hm A6 Tryz.func515 rfl ?_;have:=λx1 x2 x3=>cx_ (A5v ⟨x1,x2⟩ x3)
 have:=λx1 x2 x3 x4=>cx_ (A0r ⟨x1,x2⟩ ⟨x3,x4⟩)
 have:=λx1 x2 x3=>cx_ (A0r ⟨x1,x2⟩ x3)
 have:=C5n
 have:=M2
 have:=D29
 have:=L7
 have:=A5v
 have:=A0r
 have:=Q5
 have:=A8i.eq_1 s d
 have:=λi_ s_=>A0i.eq_1 s (K3 s.cJ) i_ s_
 have:=λx_ Q_ σ_=> @lp_ Tryz.prog 79 [] x_ Q_ σ_ hm (λ_=>True) (λ_=>True) s.cJ.length (λi_=> [(4, .cA, .ptr 80 0 0 1),(5, .cA,sI (B7 (A11 s.cJ) d)),(6, .cA, .ptr 112 0 0 1),(7, .cA,sI ((itr (A0i s (K3 s.cJ)) i_ (0,0,(O6 (s.cJ.getD (IntKind.i64.wrap ((s.cJ.length:Int)-1)).toNat dF_) (K3 s.cJ)).X,(O6 (s.cJ.getD (IntKind.i64.wrap ((s.cJ.length:Int)-1)).toNat dF_) (K3 s.cJ)).Y)).1)),(8, .cA,sI ((itr (A0i s (K3 s.cJ)) i_ (0,0,(O6 (s.cJ.getD (IntKind.i64.wrap ((s.cJ.length:Int)-1)).toNat dF_) (K3 s.cJ)).X,(O6 (s.cJ.getD (IntKind.i64.wrap ((s.cJ.length:Int)-1)).toNat dF_) (K3 s.cJ)).Y)).2.1)),(9, .cA, .ptr 160 0 0 1),(33, .cA,A4 2 cI.enc dF_ s.cJ),(34, .cA,sI (s.cJ.length:Int)),(35, .cA,sI (i_:Int))]) (λi_=> [(80, .box [sI 0,sI 0,sI 0,sI 0]),(112, .box [sI ((K3 s.cJ).X),sI ((K3 s.cJ).Y)]),(160, .box [sI ((itr (A0i s (K3 s.cJ)) i_ (0,0,(O6 (s.cJ.getD (IntKind.i64.wrap ((s.cJ.length:Int)-1)).toNat dF_) (K3 s.cJ)).X,(O6 (s.cJ.getD (IntKind.i64.wrap ((s.cJ.length:Int)-1)).toNat dF_) (K3 s.cJ)).Y)).2.2.1),sI ((itr (A0i s (K3 s.cJ)) i_ (0,0,(O6 (s.cJ.getD (IntKind.i64.wrap ((s.cJ.length:Int)-1)).toNat dF_) (K3 s.cJ)).X,(O6 (s.cJ.getD (IntKind.i64.wrap ((s.cJ.length:Int)-1)).toNat dF_) (K3 s.cJ)).Y)).2.2.2)])]) [] trivial (λ_ _=>trivial) (by simp[go_sem]) (by simp[go_sem,D3]) (by simp[go_sem]);exact B2n
def A98(s:Shape)(d:Int):dO:=let v1:=(G5 s);if(((v1 != 0)||(decide (d<0)))||(decide (262144<d)))=true then((⟨0,(⟨0,0⟩:cI),0⟩:dO))else(if(s.cS==1)=true then(let v2:=(A9f s d);v2)else(if(s.cS==2)=true then(let v3:=(A8h s d);v3)else(let v4:=(A8i s d);v4)))
theorem D28(s:Shape)(d:Int)(h0:s.cJ.length<=1048576):cA_ D0y [.agg s.enc,sI d] [] (.agg (A98 s d).enc) []:=by
 refine M3 32 [(4,some (some 4))] hm A6 Tryz.func441 rfl ?_;have:=E4q s
 have:=A1x
 have:=C94
 have:=C7w
 have:=C7x
 have:=A98.eq_1 s d;exact K1
def A2s(p:dO):Bool:=(decide (p.fT<0))
theorem C5l(p:dO):cA_ B3e [.agg p.enc] [] (sB (A2s p)) []:=by refine en1 hm A6 Tryz.func517 rfl rfl ?_;have:=A2s.eq_1 p;exact E7
theorem B7z(l:List dO)(f:FuncId)(first cap:List AV)(O:List (Nat×A7))(p:dO->Bool)(hl:l.length<=4194304)(hO:okO O)
  (hids: ∀i∈(AV.fn (.func f) first cap).ids,(ofL O i).isSome)
  (hp: ∀x∈l,cA_ f (first++ [.agg x.enc]++cap) O (sB (p x)) O):
  cA_ B7f [A4 4 dO.enc dF_ l, .fn (.func f) first cap] O (sI (A3t dF_ p l)) O:=by
 have hren:(AV.fn (.func f) first cap).ren id= .fn (.func f) first cap:=AV.ren_id _
 have hargs: ∀x:dO,∀a∈first++ [.agg x.enc]++cap,∀i∈a.ids,(ofL O i).isSome:=λx a ha i hi=>by
  simp only[List.mem_append,List.mem_singleton]at ha;refine hids i ?_;simp only[AV.ids,List.mem_append];rcases ha with(ha |rfl) |ha
  ·obtain⟨k,hk⟩:=List.getElem?_of_mem ha;exact .inl (P6 hk i hi)
  ·simp[AV.ids,go_sem]at hi
  ·obtain⟨k,hk⟩:=List.getElem?_of_mem ha;exact .inr (P6 hk i hi)
 refine I7 hm A6 Tryz.func550 rfl rfl (st_ ?_);refine B1 hm (ι:= {i:Nat // i<=l.length/\ ∀j,j<i->p (l.getD j dF_)=false}) (λi=> [(0, .cA,A4 4 dO.enc dF_ l),(1, .cA, .fn (.func f) first cap),(7, .cA,sI l.length),(8, .cA,sI i.1)])
  (λi=>O) (λi=>l.length-i.1) ⟨0,by omega,λj hj=>by omega⟩ ?_ ?_
 ·refine X8 hO rfl (st_ ?_);exact⟨by rw[O5,O5],λi hi=>hids i hi⟩
 ·rintro⟨i,hi,hs⟩;refine st_ ?_;split
  ·rename_i hlt;have hlt:i<l.length:=by omega
   refine⟨(by(repeat' (with_reducible apply And.intro)) <;> omega),?_⟩;have hx:cA_ f (first++ .agg (l.getD i dF_).enc::cap) O (sB (p (l.getD i dF_))) O:=by have:=hp (l.getD i dF_) (B8 dF_ hlt);rwa[List.append_assoc]at this
   refine X9 hx hO rfl (λa ha=>hargs (l.getD i dF_) a (by rw[List.append_assoc];exact ha)) rfl (st_ ?_);cases hpx:p (l.getD i dF_)with
   |true=>rw[if_pos rfl];refine R9 [.cA] rfl rfl hO (V5 hO) (st_ ?_);exact(A6g hlt hs hpx).symm
   |false=>rw[if_neg (by simp)];refine A8 ⟨i+1,by omega,λj hj=>by rcases Nat.lt_succ_iff_lt_or_eq.1 hj with h |rfl;exact hs j h;exact hpx⟩ (by show l.length-(i+1)<l.length-i;omega) (X8 hO (V5 hO) ?_);refine st_ ?_;exact⟨by rw[O5,O5],λi hi=>hids i hi,(by rw[IntKind.wrap_i64];omega)⟩
  ·rename_i hge;refine R9 [.cA] rfl rfl hO rfl (st_ ?_);exact(A2t λj hj=>hs j (by omega)).symm
theorem B5c(l:List dO)(f:FuncId)(first cap:List AV)(O:List (Nat×A7))(p:dO->Bool)(hl:l.length<=4194304)(hO:okO O)
  (hids: ∀i∈(AV.fn (.func f) first cap).ids,(ofL O i).isSome)
  (hp: ∀x∈l,cA_ f (first++ [.agg x.enc]++cap) O (sB (p x)) O):
  cA_ B38 [A4 4 dO.enc dF_ l, .fn (.func f) first cap] O (sB (l.any p)) O:=by
 refine I7 hm A6 Tryz.func516 rfl rfl (st_ ?_);refine X9 (B7z l f first cap O p hl hO hids hp) hO rfl ?_ rfl ?_
 ·intro a ha;simp only[List.mem_cons,List.not_mem_nil,or_false]at ha;rcases ha with rfl |rfl
  ·intro i hi;simp[AV.ids]at hi
  ·exact hids
 ·refine st_ ?_;refine R9 [.cA] rfl rfl hO (V5 hO) (st_ ?_);exact C0s p l
def A2q(ps:List dO)(v5:Int)(v6:Int)(i2:Nat)(s2:Int):Int:=let v7:=(O6 (ps.getD i2 dF_).fP (⟨v5,v6⟩:cI));let v8:=(D1 s2 (ps.getD i2 dF_).fS);let v9:=(P8 v7 v7);let v10:=(B7 (ps.getD i2 dF_).fT v9);let v11:=(D1 v8 v10);v11
def A2r(ps:List dO)(i3:Nat)(s3:Int):Int:=let v12:=(O6 (ps.getD i3 dF_).fP (⟨0,0⟩:cI));let v13:=(D1 s3 (ps.getD i3 dF_).fS);let v14:=(P8 v12 v12);let v15:=(B7 (ps.getD i3 dF_).fT v14);let v16:=(D1 v13 v15);v16
def U9(ps:List dO)(i1:Nat)(s1:Int×Int×Int×Int):Int×Int×Int×Int:=let v2:=(D1 s1.2.2.2 (sat (ps.getD i1 dF_).fT));((IntKind.i64.wrap (s1.1+(sat (ps.getD i1 dF_).fT))),(IntKind.i64.wrap (s1.2.1+(IntKind.i64.wrap ((sat (ps.getD i1 dF_).fT)*(sat (ps.getD i1 dF_).fP.X))))),(IntKind.i64.wrap (s1.2.2.1+(IntKind.i64.wrap ((sat (ps.getD i1 dF_).fT)*(sat (ps.getD i1 dF_).fP.Y))))),v2)
def A0e(ps:List dO):dO:=if((decide (8<(ps.length:Int)))||(ps.any (λx=>(A2s x))))=true then((⟨0,(⟨0,0⟩:cI),0⟩:dO))else(let s1:=itr (U9 ps) ps.length (0,0,0,0);if 0<s1.1 then(let v5:=(A37 s1.2.1 s1.1);let v6:=(A37 s1.2.2.1 s1.1);let s2:=itr (A2q ps v5 v6) ps.length 0;(⟨s1.2.2.2,(⟨v5,v6⟩:cI),s2⟩:dO))else(let s3:=itr (A2r ps) ps.length 0;(⟨s1.2.2.2,(⟨0,0⟩:cI),s3⟩:dO)))
theorem D26(ps:List dO)(h0:ps.length<=1048576):cA_ D0w [A4 4 dO.enc dF_ ps] [] (.agg (A0e ps).enc) []:=by
 refine M3 91 [(2,some (some 4))] hm A6 Tryz.func442 rfl (st_ ?_);refine A0 (B5c ps B3e [] [] [] (λx=>(A2s x)) (by(omega)) D4j (by simp[AV.ids,F0]) (λx _=>C5l x)) rfl ?_;simp only[go_sem,go_sem_proc,E8];by_cases h1:((decide (8<(ps.length:Int)))||(ps.any (λx=>(A2s x))))=true
 ·rw[if_pos h1];have hd:A0e ps=(⟨0,(⟨0,0⟩:cI),0⟩:dO):=by(simp only[A0e,h1,if_true,eq_self];done)
  try rw[hd]
  try simp only[go_sem,go_sem_proc]
 ·rw[if_neg h1];refine B1 hm (ι:= {i:Nat // i<=ps.length}) (λi=> [(0, .cA,A4 4 dO.enc dF_ ps),(2, .cA, .ptr 48 0 0 1),(3, .cA, .ptr 64 0 0 1),(4, .cA,sI ((itr (U9 ps) i.1 (0,0,0,0)).1)),(5, .cA,sI ((itr (U9 ps) i.1 (0,0,0,0)).2.1)),(6, .cA,sI ((itr (U9 ps) i.1 (0,0,0,0)).2.2.1)),(21, .cA,A4 4 dO.enc dF_ ps),(22, .cA,sI (ps.length:Int)),(23, .cA,sI (i.1:Int))]) (λi=> [(48, .box [sI 0,sI 0,sI 0,sI 0]),(64, .box [sI ((itr (U9 ps) i.1 (0,0,0,0)).2.2.2),sI 0,sI 0,sI 0])]) (λi=>ps.length-i.1) ⟨0,by omega⟩ ?_ ?_
  ·refine B0 [] [] ?_;simp only[go_sem,go_sem_proc,J3]
  ·rintro⟨i1,hi1⟩;dsimp only;generalize hs1:itr (U9 ps) i1 (0,0,0,0)=s1;refine st_ ?_;by_cases h2:(i1:Int)<(ps.length:Int)
   ·rw[if_pos h2];have hlt1:i1<ps.length:=by omega
    (repeat(with_reducible refine And.intro ?_ ?_;exact bO_))
    refine A0 (L3 (ps.getD i1 dF_).fT) rfl (st_ ?_);refine A0 (N2 s1.2.2.2 (sat (ps.getD i1 dF_).fT)) rfl ?_;generalize hv2:(D1 s1.2.2.2 (sat (ps.getD i1 dF_).fT))=v2;refine st_ ?_;refine A0 (L3 (ps.getD i1 dF_).fP.X) rfl (st_ ?_);refine A0 (L3 (ps.getD i1 dF_).fP.Y) rfl (st_ ?_);have hn:itr (U9 ps) (i1+1) (0,0,0,0)=((IntKind.i64.wrap (s1.1+(sat (ps.getD i1 dF_).fT))),(IntKind.i64.wrap (s1.2.1+(IntKind.i64.wrap ((sat (ps.getD i1 dF_).fT)*(sat (ps.getD i1 dF_).fP.X))))),(IntKind.i64.wrap (s1.2.2.1+(IntKind.i64.wrap ((sat (ps.getD i1 dF_).fT)*(sat (ps.getD i1 dF_).fP.Y))))),v2):=by rw[H6,hs1];(simp only[U9,hv2,eq_self];done)
    refine A8 ⟨i1+1,by omega⟩ (by show ps.length-(i1+1)<ps.length-i1;omega) (B0 [] [] ?_);simp only[go_sem,go_sem_proc,hn];exact eO_
   ·rw[if_neg h2];have hge:i1=ps.length:=by omega
    subst hge;by_cases h3:0<s1.1
    ·rw[if_pos h3];refine A0 (Q5 s1.2.1 s1.1) rfl ?_;generalize hv5:(A37 s1.2.1 s1.1)=v5;refine st_ ?_;refine A0 (Q5 s1.2.2.1 s1.1) rfl ?_;generalize hv6:(A37 s1.2.2.1 s1.1)=v6;refine st_ ?_;refine B1 hm (ι:= {i:Nat // i<=ps.length}) (λi=> [(2, .cA, .ptr 48 0 0 1),(3, .cA, .ptr 64 0 0 1),(65, .cA,A4 4 dO.enc dF_ ps),(66, .cA,sI (ps.length:Int)),(67, .cA,sI (i.1:Int))]) (λi=> [(48, .box [sI 0,sI 0,sI 0,sI 0]),(64, .box [sI s1.2.2.2,sI v5,sI v6,sI (itr (A2q ps v5 v6) i.1 0)])]) (λi=>ps.length-i.1) ⟨0,by omega⟩ ?_ ?_
     ·refine B0 [] [] ?_;simp only[go_sem,go_sem_proc,J3]
     ·rintro⟨i2,hi2⟩;dsimp only;generalize hs2:itr (A2q ps v5 v6) i2 0=s2;refine st_ ?_;by_cases h4:(i2:Int)<(ps.length:Int)
      ·rw[if_pos h4];have hlt2:i2<ps.length:=by omega
       (repeat(with_reducible refine And.intro ?_ ?_;exact bO_))
       refine A0 (L7 (ps.getD i2 dF_).fP (⟨v5,v6⟩:cI)) rfl ?_;generalize hv7:(O6 (ps.getD i2 dF_).fP (⟨v5,v6⟩:cI))=v7;refine st_ ?_;refine A0 (N2 s2 (ps.getD i2 dF_).fS) rfl ?_;generalize hv8:(D1 s2 (ps.getD i2 dF_).fS)=v8;refine st_ ?_;refine A0 (A0r v7 v7) rfl ?_;generalize hv9:(P8 v7 v7)=v9;refine st_ ?_;refine A0 (M2 (ps.getD i2 dF_).fT v9) rfl ?_;generalize hv10:(B7 (ps.getD i2 dF_).fT v9)=v10;refine st_ ?_;refine A0 (N2 v8 v10) rfl ?_;generalize hv11:(D1 v8 v10)=v11;refine st_ ?_;have hn:itr (A2q ps v5 v6) (i2+1) 0=v11:=by rw[H6,hs2];(simp only[A2q,hv7,hv8,hv9,hv10,hv11,eq_self];done)
       refine A8 ⟨i2+1,by omega⟩ (by show ps.length-(i2+1)<ps.length-i2;omega) (B0 [] [] ?_);simp only[go_sem,go_sem_proc,hn];exact eO_
      ·rw[if_neg h4];have hge:i2=ps.length:=by omega
       subst hge;have hd:A0e ps=(⟨s1.2.2.2,(⟨v5,v6⟩:cI),s2⟩:dO):=by(simp only[A0e,h1,hs1,h3,hv5,hv6,hs2,if_true,if_false,eq_self,Bool.false_eq_true];done)
       try rw[hd]
       try simp only[go_sem,go_sem_proc]
    ·rw[if_neg h3];refine B1 hm (ι:= {i:Nat // i<=ps.length}) (λi=> [(2, .cA, .ptr 48 0 0 1),(3, .cA, .ptr 64 0 0 1),(65, .cA,A4 4 dO.enc dF_ ps),(66, .cA,sI (ps.length:Int)),(67, .cA,sI (i.1:Int))]) (λi=> [(48, .box [sI 0,sI 0,sI 0,sI 0]),(64, .box [sI s1.2.2.2,sI 0,sI 0,sI (itr (A2r ps) i.1 0)])]) (λi=>ps.length-i.1) ⟨0,by omega⟩ ?_ ?_
     ·refine B0 [] [] ?_;simp only[go_sem,go_sem_proc,J3]
     ·rintro⟨i3,hi3⟩;dsimp only;generalize hs3:itr (A2r ps) i3 0=s3;refine st_ ?_;by_cases h5:(i3:Int)<(ps.length:Int)
      ·rw[if_pos h5];have hlt3:i3<ps.length:=by omega
       (repeat(with_reducible refine And.intro ?_ ?_;exact bO_))
       refine A0 (L7 (ps.getD i3 dF_).fP (⟨0,0⟩:cI)) rfl ?_;generalize hv12:(O6 (ps.getD i3 dF_).fP (⟨0,0⟩:cI))=v12;refine st_ ?_;refine A0 (N2 s3 (ps.getD i3 dF_).fS) rfl ?_;generalize hv13:(D1 s3 (ps.getD i3 dF_).fS)=v13;refine st_ ?_;refine A0 (A0r v12 v12) rfl ?_;generalize hv14:(P8 v12 v12)=v14;refine st_ ?_;refine A0 (M2 (ps.getD i3 dF_).fT v14) rfl ?_;generalize hv15:(B7 (ps.getD i3 dF_).fT v14)=v15;refine st_ ?_;refine A0 (N2 v13 v15) rfl ?_;generalize hv16:(D1 v13 v15)=v16;refine st_ ?_;have hn:itr (A2r ps) (i3+1) 0=v16:=by rw[H6,hs3];(simp only[A2r,hv12,hv13,hv14,hv15,hv16,eq_self];done)
       refine A8 ⟨i3+1,by omega⟩ (by show ps.length-(i3+1)<ps.length-i3;omega) (B0 [] [] ?_);simp only[go_sem,go_sem_proc,hn];exact eO_
      ·rw[if_neg h5];have hge:i3=ps.length:=by omega
       subst hge;have hd:A0e ps=(⟨s1.2.2.2,(⟨0,0⟩:cI),s3⟩:dO):=by(simp only[A0e,h1,hs1,h3,hs3,if_false,eq_self,Bool.false_eq_true];done)
       try rw[hd]
       try simp only[go_sem,go_sem_proc]
def U5(fs:List dB)(i1:Nat)(s1:(List dO)):(List dO):=if(fs.getD i1 dF_).fL=false then(let v1:=(A98 (fs.getD i1 dF_).Shape (fs.getD i1 dF_).fR);(s1++ [v1]))else(s1)
def A7y(fs:List dB):dO:=if 4<(fs.length:Int)then((⟨0,(⟨0,0⟩:cI),0⟩:dO))else(let s1:=itr (U5 fs) fs.length [];let v2:=(A0e s1);v2)
theorem C5m(fs:List dB)(h0: ∀f∈fs,f.Shape.cJ.length<=1048576):cA_ C4u [A4 10 dB.enc dF_ fs] [] (.agg (A7y fs).enc) []:=by
 refine M3 30 [(2,some (some 4))] hm A6 Tryz.func320 rfl ?_;have:=D28
 have:=D26
 have:=A7y.eq_1 fs
 have:=λi_ s_=>U5.eq_1 fs i_ s_
 have:=λx_ Q_ σ_=> @lp_ Tryz.prog 30 [] x_ Q_ σ_ hm (λ_=>True) (λi_=>((itr (U5 fs) i_ [])).length<=0+1*i_) fs.length (λi_=> [(2, .cA, .ptr 48 0 0 1),(3,if i_=0 then .eZ else .cA, .sl 1003 0 (itr (U5 fs) i_ []).length (itr (U5 fs) i_ []).length),(10, .cA,A4 10 dB.enc dF_ fs),(11, .cA,sI (fs.length:Int)),(12, .cA,sI (i_:Int))]) (λi_=> [(48, .box [sI 0,sI 0,sI 0,sI 0]),(1003, .arr 4 (A9 dO.enc dF_ (itr (U5 fs) i_ [])))]) [1003] trivial (λi_ hI_=>A87 (λs:(List dO)=>(s).length) 1 (λi s=>by(unfold U5;(repeat' split) <;> simp <;> omega)) i_ _) (by simp[go_sem]) (by simp[go_sem,D3]) (by simp[go_sem]);exact K1
def A6q(b:cF):dO:=let v1:=(A7y b.cK);v1
theorem B4z(b:cF)(h0: ∀f∈b.cK,f.Shape.cJ.length<=1048576):cA_ D9h [.agg b.enc] [] (.agg (A6q b).enc) []:=by
 refine M3 6 [(2,some (some 4))] hm A6 Tryz.func194 rfl ?_;have:=C5m
 have:=A6q.eq_1 b;exact E7
def F2(b:cF):cI:=let v1:=(A6q b);let v2:=(Z4 b.cH v1.fP);v2
theorem A2v(b:cF)(h0: ∀f∈b.cK,f.Shape.cJ.length<=1048576):cA_ D0h [.agg b.enc] [] (.agg (F2 b).enc) []:=by
 refine M3 9 [(2,some (some 2))] hm A6 Tryz.func308 rfl ?_;have:=B4z
 have:=A7s
 have:=F2.eq_1 b;exact E7
def A6v(m:dO)(k:Int)(f:Bool):Int×Int:=if(k != 3)=true then((0,0))else(if 0<m.fT then(let v1:=(Z9 65536 m.fT);if((decide (0<m.fS))&&(!f))=true then(let v2:=(Z9 65536 m.fS);(v1,v2))else((v1,0)))else(if((decide (0<m.fS))&&(!f))=true then(let v3:=(Z9 65536 m.fS);(65536,v3))else((65536,0))))
theorem D27(m:dO)(k:Int)(f:Bool):cA_ D0x [.agg m.enc,sI k,sB f] [] (.tup [sI ((A6v m k f).1),sI ((A6v m k f).2)]) []:=by
 refine enT hm A6 Tryz.func301 rfl rfl ?_;have:=A7i
 have:=A6v.eq_1 m k f;exact E7
def A05(b:cF):cE:=let v1:=(A6q b);let v2:=(A6v v1 b.cS b.eC);(⟨b.dL,b.cZ,v2.1,v2.2⟩:cE)
theorem A7q(b:cF)(h0: ∀f∈b.cK,f.Shape.cJ.length<=1048576):cA_ D4u [.agg b.enc] [] (.agg (A05 b).enc) []:=by
 refine M3 22 [(2,some (some 5))] hm A6 Tryz.func180 rfl ?_;have:=B4z
 have:=D27
 have:=A05.eq_1 b;exact E7
def W6(b:cF):cF:=let v1:=(Q6 b.dL.X (-16777216) 16777216);let v2:=(Q6 b.dL.Y (-16777216) 16777216);let v3:=(Q6 b.cZ (-4194304) 4194304);(⟨b.ID,b.cS,b.cH,(⟨v1,v2⟩:cI),v3,b.fF,b.fH,b.eA,b.dX,b.eF,b.fG,b.eC,b.fD,b.eU,b.eJ,b.cK⟩:cF)
theorem A12(b:cF):cA_ C50 [.agg b.enc] [] (.agg (W6 b).enc) []:=by
 refine M3 20 [(2,some (some 20))] hm A6 Tryz.func110 rfl ?_;have:=A45
 have:=W6.eq_1 b;exact E7
def A96(b:cF):cF:=let v1:=(W6 b);(⟨v1.ID,v1.cS,v1.cH,v1.dL,v1.cZ,v1.fF,v1.fH,v1.eA,v1.dX,v1.eF,v1.fG,v1.eC,v1.fD,false,0,v1.cK⟩:cF)
theorem B41(b:cF):cA_ E6k [.agg b.enc] [] (.agg (A96 b).enc) []:=by
 refine M3 8 [(2,some (some 20))] hm A6 Tryz.func510 rfl ?_;have:=A12
 have:=A96.eq_1 b;exact E7
def A5y(b:cF)(p:cI)(i:cI):cF:=if(b.cS != 3)=true then(b)else(let v1:=(A05 b);let v2:=(F2 b);let v3:=(O6 p v2);let v4:=(P9 i v1.fJ);let v5:=(A1e b.dL v4);let v6:=(A0x v3 i);let v7:=(B7 v6 v1.eP);let v8:=(D1 b.cZ v7);let v9:=(A96 (⟨b.ID,b.cS,b.cH,v5,v8,b.fF,b.fH,b.eA,b.dX,b.eF,b.fG,b.eC,b.fD,b.eU,b.eJ,b.cK⟩:cF));v9)
theorem C9w(b:cF)(p:cI)(i:cI)(h0: ∀f∈b.cK,f.Shape.cJ.length<=1048576):cA_ C85 [.agg b.enc, .agg p.enc, .agg i.enc] [] (.agg (A5y b p i).enc) []:=by
 refine M3 39 [(6,some (some 20))] hm A6 Tryz.func413 rfl ?_;have:=λx1 x2 x3 x4 x5 x6 x7 x8 x9 x10 x11 x12 x13 x14 x15 x16 x17 x18 x19 x20=>cx_ (B41 ⟨x1,x2,⟨⟨x3,x4⟩,x5⟩,⟨x6,x7⟩,x8,⟨x9,x10⟩,x11,x12,x13,x14,x15,x16,x17,x18,x19,x20⟩)
 have:=A7q
 have:=A2v
 have:=L7
 have:=A5x
 have:=A3h
 have:=A5v
 have:=M2
 have:=N2
 have:=B41
 have:=A5y.eq_1 b p i;exact E7
def A2f(b:cF)(i:Int):cF:=if(b.cS != 3)=true then(b)else(let v1:=(A05 b);let v2:=(B7 i v1.eP);let v3:=(D1 b.cZ v2);let v4:=(A96 (⟨b.ID,b.cS,b.cH,b.dL,v3,b.fF,b.fH,b.eA,b.dX,b.eF,b.fG,b.eC,b.fD,b.eU,b.eJ,b.cK⟩:cF));v4)
theorem B8p(b:cF)(i:Int)(h0: ∀f∈b.cK,f.Shape.cJ.length<=1048576):cA_ B76 [.agg b.enc,sI i] [] (.agg (A2f b i).enc) []:=by
 refine M3 20 [(4,some (some 20))] hm A6 Tryz.func414 rfl ?_;have:=λx1 x2 x3 x4 x5 x6 x7 x8 x9 x10 x11 x12 x13 x14 x15 x16 x17 x18 x19 x20=>cx_ (B41 ⟨x1,x2,⟨⟨x3,x4⟩,x5⟩,⟨x6,x7⟩,x8,⟨x9,x10⟩,x11,x12,x13,x14,x15,x16,x17,x18,x19,x20⟩)
 have:=A7q
 have:=M2
 have:=N2
 have:=B41
 have:=A2f.eq_1 b i;exact E7
def X0(b:cF)(s:cM):cF:=if((b.cS != 3)||b.eU)=true then(b)else(let v1:=(A05 b);let v2:=(P9 s.eG b.eF);let v3:=(P9 v2 s.dZ);let v4:=(A1e b.dL v3);let v5:=(P9 b.fF v1.fJ);let v6:=(P9 v5 s.dZ);let v7:=(A1e v4 v6);let v8:=(B7 b.eA s.dZ);let v9:=(P9 v7 v8);let v10:=(O6 v7 v9);let v11:=(B7 b.fH v1.eP);let v12:=(B7 v11 s.dZ);let v13:=(D1 b.cZ v12);let v14:=(B7 b.dX s.dZ);let v15:=(B7 v13 v14);let v16:=(sat (sat v13-sat v15));if b.eC=true then(let v17:=(W6 (⟨b.ID,b.cS,b.cH,v10,0,b.fF,b.fH,b.eA,b.dX,b.eF,b.fG,b.eC,b.fD,b.eU,b.eJ,b.cK⟩:cF));v17)else(let v18:=(W6 (⟨b.ID,b.cS,b.cH,v10,v16,b.fF,b.fH,b.eA,b.dX,b.eF,b.fG,b.eC,b.fD,b.eU,b.eJ,b.cK⟩:cF));v18))
theorem C7u(b:cF)(s:cM)(h0: ∀f∈b.cK,f.Shape.cJ.length<=1048576):cA_ C56 [.agg b.enc, .agg s.enc] [] (.agg (X0 b s).enc) []:=by
 refine M3 73 [(4,some (some 20))] hm A6 Tryz.func179 rfl ?_;have:=λx1 x2 x3 x4 x5 x6 x7 x8 x9 x10 x11 x12 x13 x14 x15 x16 x17 x18 x19 x20=>cx_ (A12 ⟨x1,x2,⟨⟨x3,x4⟩,x5⟩,⟨x6,x7⟩,x8,⟨x9,x10⟩,x11,x12,x13,x14,x15,x16,x17,x18,x19,x20⟩)
 have:=A7q
 have:=A5x
 have:=A3h
 have:=M2
 have:=L7
 have:=N2
 have:=R3
 have:=A12
 have:=X0.eq_1 b s;exact E7
def A3y(c:Int)(v:Int):Int×Int:=let v1:=(Q6 c (-268435456) 268435456);if(v1 != c)=true then((v1,0))else((c,v))
theorem C91(c:Int)(v:Int):cA_ C9e [sI c,sI v] [] (.tup [sI ((A3y c v).1),sI ((A3y c v).2)]) []:=by
 refine enT hm A6 Tryz.func196 rfl rfl ?_;have:=A45
 have:=A3y.eq_1 c v;exact E7
def A0m(b:cF)(dt:Int):cF:=if((b.cS==1)||b.eU)=true then(b)else(let v1:=(A6q b);let v2:=(A7z b.cH v1.fP b.dL b.cZ dt);let v3:=(A3y v2.dY.X b.dL.X);let v4:=(A3y v2.dY.Y b.dL.Y);(⟨b.ID,b.cS,(⟨(⟨v3.1,v4.1⟩:cI),v2.eR⟩:cH),(⟨v3.2,v4.2⟩:cI),b.cZ,b.fF,b.fH,b.eA,b.dX,b.eF,b.fG,b.eC,b.fD,b.eU,b.eJ,b.cK⟩:cF))
theorem C7t(b:cF)(dt:Int)(h0: ∀f∈b.cK,f.Shape.cJ.length<=1048576):cA_ C55 [.agg b.enc,sI dt] [] (.agg (A0m b dt).enc) []:=by
 refine M3 69 [(4,some (some 20))] hm A6 Tryz.func116 rfl ?_;have:=B4z
 have:=C5u
 have:=C91
 have:=A0m.eq_1 b dt;exact E7
def I9(b:cF):cF:=(⟨b.ID,b.cS,b.cH,b.dL,b.cZ,(⟨0,0⟩:cI),0,b.eA,b.dX,b.eF,b.fG,b.eC,b.fD,b.eU,b.eJ,b.cK⟩:cF)
theorem C1t(b:cF):cA_ A54 [.agg b.enc] [] (.agg (I9 b).enc) []:=by refine M3 7 [(2,some (some 20))] hm A6 Tryz.func120 rfl ?_;have:=I9.eq_1 b;exact E7
end Go.Abs
end
