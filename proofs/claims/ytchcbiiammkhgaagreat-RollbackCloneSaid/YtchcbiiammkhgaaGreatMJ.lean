/- A part of the proof: contracts of functions that the statement reaches. -/
import Derived.Test.YtchcbiiammkhgaaGreatMI
set_option linter.unusedSimpArgs false
set_option linter.unusedVariables false
set_option linter.unnecessarySimpa false
set_option maxRecDepth 100000
set_option maxHeartbeats 2000000
noncomputable section
namespace Go.Abs
open Go.Proofs
open Api
theorem D67(s:Shape):F9 s=0->(1<=s.cS/\s.cS<=3)/\(s.cS=1->s.cK.length=1)/\(s.cS=2->s.cK.length=2)/\(s.cS≠1->s.cS≠2->3<=s.cK.length)/\s.cK.length<=8:=by
 intro h;unfold F9 at h;split at h
 ·cases h
 ·rename_i h1;simp only at h;split at h
  ·cases h
  ·rename_i h2;clear h;unfold A0o at h2;simp only[zy,zk,qy]at h1
   (repeat' split at h2) <;> simp only[zi,qK,zk,qc]at* <;> omega
def B3r(a:List cI)(i:Int):cI×Bool:=if(((decide ((a.length:Int)<2))||(decide (i<0)))||(decide ((a.length:Int)<=i)))=true then(((⟨0,0⟩:cI),false))else(let v1:=(O5 (a.getD ((IntKind.i64.wrap (i+1)).tmod (a.length:Int)).toNat dF_) (a.getD i.toNat dF_));(v1,true))
theorem D35(a:List cI)(i:Int)(h0:a.length<=1048576):cA_ 490 [A4 2 cI.enc dF_ a,sI i] [] (.tup [.agg (B3r a i).1.enc,sB ((B3r a i).2)]) []:=by
 refine S3 33 [(4,some (some 2)),(5,none)] hm A6 Tryz.func490 rfl ?_;have:=L9
 have:=B3r.eq_1 a i;exact K2
def Q7(a:List cI)(i:Int):cI:=let v1:=(B3r a i);if v1.2=false then((⟨0,0⟩:cI))else(let v2:=(A36 (⟨v1.1.Y,(IntKind.i64.wrap (0-v1.1.X))⟩:cI));v2)
theorem A5y(a:List cI)(i:Int)(h0:a.length<=1048576):cA_ 389 [A4 2 cI.enc dF_ a,sI i] [] (.agg (Q7 a i).enc) []:=by
 refine M3 23 [(4,some (some 2))] hm A6 Tryz.func389 rfl ?_;have:=λx1 x2=>cx_ (A50 ⟨x1,x2⟩)
 have:=D35
 have:=A50
 have:=Q7.eq_1 a i;exact E7
def A55(a:List cI)(i:Int):cI:=let v1:=(B3r a i);if v1.2=false then((⟨0,0⟩:cI))else(let v2:=(A36 v1.1);v2)
theorem C5m(a:List cI)(i:Int)(h0:a.length<=1048576):cA_ 541 [A4 2 cI.enc dF_ a,sI i] [] (.agg (A55 a i).enc) []:=by
 refine M3 18 [(4,some (some 2))] hm A6 Tryz.func541 rfl ?_;have:=D35
 have:=A50
 have:=A55.eq_1 a i;exact E7
def A9i(n:cI)(o:cI)(b:List cI)(i1:Nat)(s1:Int):Int:=let v1:=(O5 (b.getD i1 dF_) o);let v2:=(Q1 n v1);if(((i1:Int)==0)||(decide (v2<s1)))=true then(v2)else(s1)
def B2h(n:cI)(o:cI)(b:List cI):Int:=let s1:=itr (A9i n o b) b.length 0;s1
theorem D18(n:cI)(o:cI)(b:List cI)(h0:b.length<=1048576):cA_ 489 [.agg n.enc, .agg o.enc,A4 2 cI.enc dF_ b] [] (sI (B2h n o b)) []:=by
 refine en1 hm A6 Tryz.func489 rfl rfl ?_;have:=L9
 have:=A01
 have:=B2h.eq_1 n o b
 have:=λi_ s_=>A9i.eq_1 n o b i_ s_
 have:=λx_ Q_ σ_=> @lp_ Tryz.prog Tryz.f489.ntmps [] x_ Q_ σ_ hm (λ_=>True) (λ_=>True) b.length (λi_=> [(2, .cA,A4 2 cI.enc dF_ b),(3, .cA, .ptr 64 0 0 1),(4, .cA, .ptr 80 0 0 1),(7, .cA,sI (itr (A9i n o b) i_ 0)),(11, .cA,sI (b.length:Int)),(12, .cA,sI (i_:Int))]) (λi_=> [(64, .box [sI n.X,sI n.Y]),(80, .box [sI o.X,sI o.Y])]) [] trivial (λ_ _=>trivial) g_ g_ g_;exact A85
def R3(a:List cI)(b:List cI)(i1:Nat)(s1:Int×Int):Int×Int:=let v1:=(Q7 a (i1:Int));let v2:=(B2h v1 (a.getD i1 dF_) b);if((decide (s1.1<0))||(decide (s1.2<v2)))=true then(((i1:Int),v2))else((s1.1,s1.2))
def E0(a:List cI)(b:List cI):Int×Int:=if((decide ((a.length:Int)<2))||((b.length:Int)==0))=true then(((-1),0))else(let s1:=itr (R3 a b) a.length ((-1),0);(s1.1,s1.2))
theorem B42(a:List cI)(b:List cI)(h0:a.length<=1048576)(h1:b.length<=1048576):cA_ 388 [A4 2 cI.enc dF_ a,A4 2 cI.enc dF_ b] [] (.tup [sI ((E0 a b).1),sI ((E0 a b).2)]) []:=by
 refine enT hm A6 Tryz.func388 rfl rfl ?_;have:=A5y
 have:=D18
 have:=E0.eq_1 a b
 have:=λi_ s_=>R3.eq_1 a b i_ s_
 have:=λx_ Q_ σ_=> @lp_ Tryz.prog Tryz.f388.ntmps [] x_ Q_ σ_ hm (λ_=>True) (λ_=>True) a.length (λi_=> [(0, .cA,A4 2 cI.enc dF_ a),(1, .cA,A4 2 cI.enc dF_ b),(6, .cA,sI ((itr (R3 a b) i_ ((-1),0)).1)),(7, .cA,sI ((itr (R3 a b) i_ ((-1),0)).2)),(19, .cA,sI (a.length:Int)),(20, .cA,sI (i_:Int))]) (λi_=> []) [] trivial (λ_ _=>trivial) g_ g_ g_;exact K2
def A46(b:List cI)(n:cI)(i1:Nat)(s1:Int×Int):Int×Int:=let v1:=(Q7 b (i1:Int));let v2:=(Q1 v1 n);if((decide (s1.1<0))||(decide (v2<s1.2)))=true then(((i1:Int),v2))else((s1.1,s1.2))
def A92(b:List cI)(n:cI):Int:=if(b.length:Int)<2 then((-1))else(let s1:=itr (A46 b n) b.length ((-1),0);s1.1)
theorem B6h(b:List cI)(n:cI)(h0:b.length<=1048576):cA_ 491 [A4 2 cI.enc dF_ b, .agg n.enc] [] (sI (A92 b n)) []:=by
 refine en1 hm A6 Tryz.func491 rfl rfl ?_;have:=A5y
 have:=A01
 have:=A92.eq_1 b n
 have:=λi_ s_=>A46.eq_1 b n i_ s_
 have:=λx_ Q_ σ_=> @lp_ Tryz.prog Tryz.f491.ntmps [] x_ Q_ σ_ hm (λ_=>True) (λ_=>True) b.length (λi_=> [(0, .cA,A4 2 cI.enc dF_ b),(3, .cA, .ptr 64 0 0 1),(5, .cA,sI ((itr (A46 b n) i_ ((-1),0)).1)),(6, .cA,sI ((itr (A46 b n) i_ ((-1),0)).2)),(13, .cA,sI (b.length:Int)),(14, .cA,sI (i_:Int))]) (λi_=> [(64, .box [sI n.X,sI n.Y])]) [] trivial (λ_ _=>trivial) g_ g_ g_;exact K2
structure dW where
 eU:cI
 ID:Int
 deriving DecidableEq,Inhabited
def dW.enc(x:dW):List AV:=[sI x.eU.X,sI x.eU.Y,sI x.ID]
def dW.zero:List AV:= [sI 0,sI 0,sI 0]
attribute [go_sem] dW.enc dW.zero
@[go_sem] theorem F2b(x:dW):dW.mk x.eU x.ID=x:=rfl
def B0r(s:dW)(o:dW)(d:Int)(by_:Int):dW:=let v1:=(A8x d (IntKind.i64.wrap (d-by_)));let v2:=(A7g s.eU o.eU v1);(⟨v2,s.ID⟩:dW)
theorem D5x(s:dW)(o:dW)(d:Int)(by_:Int):cA_ 567 [.agg s.enc, .agg o.enc,sI d,sI by_] [] (.agg (B0r s o d by_).enc) []:=by
 refine M3 21 [(8,some (some 3))] hm A6 Tryz.func567 rfl ?_;have:=B68
 have:=B11
 have:=B0r.eq_1 s o d by_;exact E7
def A1s(l:List dW)(o:cI)(n:cI):(List dW):=if((l.length:Int) != 2)=true then(([]:List dW))else(let v1:=(O5 (l.getD 0 dF_).eU o);let v2:=(Q1 n v1);let v3:=(O5 (l.getD 1 dF_).eU o);let v4:=(Q1 n v3);if((decide (0<v2))&&(decide (0<v4)))=true then(([]:List dW))else(if 0<v2 then(let v5:=(B0r (l.getD 0 dF_) (l.getD 1 dF_) v2 v4);[v5,(l.getD 1 dF_)])else(if 0<v4 then(let v6:=(B0r (l.getD 1 dF_) (l.getD 0 dF_) v4 v2);[(l.getD 0 dF_),v6])else([(l.getD 0 dF_),(l.getD 1 dF_)]))))
theorem B89(l:List dW)(o:cI)(n:cI):cA_ 542 [A4 3 dW.enc dF_ l, .agg o.enc, .agg n.enc] [] (A4 3 dW.enc dF_ (A1s l o n)) []:=by
 refine en1 hm A6 Tryz.func542 rfl rfl ?_;have:=L9
 have:=A01
 have:=D5x
 have:=A1s.eq_1 l o n;exact K2
theorem F3m(vs:List cI):(R0 vs).1.length<=vs.length:=by have:=A89 (λs:(List K8)×Int=>s.1.length) 1 (f:=U8 vs) (λi s=>by unfold U8;simp) (vs.length-2) ([],0);unfold R0;simp only[List.length_nil]at this⊢;omega
def A3q(a:List cI)(i:Int)(b:List cI)(k:Int):(List dW):=if((((((decide ((a.length:Int)<2))||(decide ((b.length:Int)<2)))||(decide (i<0)))||(decide (k<0)))||(decide ((a.length:Int)<=i)))||(decide ((b.length:Int)<=k)))=true then(([]:List dW))else(let v1:=(A55 a i);let v2:=(A1s ([(⟨(b.getD k.toNat dF_),0⟩:dW),(⟨(b.getD ((IntKind.i64.wrap (k+1)).tmod (b.length:Int)).toNat dF_),1⟩:dW)]) (a.getD ((IntKind.i64.wrap (i+1)).tmod (a.length:Int)).toNat dF_) v1);let v3:=(Q2 v1 (-65536));let v4:=(A1s v2 (a.getD i.toNat dF_) v3);v4)
theorem C46(a:List cI)(i:Int)(b:List cI)(k:Int)(h0:a.length<=1048576)(h1:b.length<=1048576):cA_ 492 [A4 2 cI.enc dF_ a,sI i,A4 2 cI.enc dF_ b,sI k] [] (A4 3 dW.enc dF_ (A3q a i b k)) []:=by
 refine en1 hm A6 Tryz.func492 rfl rfl ?_;simp only[go_sem,go_sem_proc,D6,C0];by_cases h1:((((((decide ((a.length:Int)<2))||(decide ((b.length:Int)<2)))||(decide (i<0)))||(decide (k<0)))||(decide ((a.length:Int)<=i)))||(decide ((b.length:Int)<=k)))=true
 ·rw[zc h1];have hd:A3q a i b k=([]:List dW):=by(simp only[A3q,h1,zL,qj];done)
  try rw[hd]
  try simp only[go_sem,go_sem_proc]
  exact eO_
 ·rw[zb h1];refine A0 (C5m a i (by(assumption))) rfl ?_;generalize hv1:(A55 a i)=v1;refine st_ ?_
  (repeat(with_reducible refine And.intro ?_ ?_;exact bO_))
  refine O6 (B89 ([(⟨(b.getD k.toNat dF_),0⟩:dW),(⟨(b.getD ((IntKind.i64.wrap (k+1)).tmod (b.length:Int)).toNat dF_),1⟩:dW)]) (a.getD ((IntKind.i64.wrap (i+1)).tmod (a.length:Int)).toNat dF_) v1) ?_
  (try simp only[S2,go_sem,go_sem_proc])
  (repeat(with_reducible refine And.intro ?_ ?_;focus (exact H1 (λ_ _=>rfl) rfl rfl rfl)))
  generalize hv2:(A1s ([(⟨(b.getD k.toNat dF_),0⟩:dW),(⟨(b.getD ((IntKind.i64.wrap (k+1)).tmod (b.length:Int)).toNat dF_),1⟩:dW)]) (a.getD ((IntKind.i64.wrap (i+1)).tmod (a.length:Int)).toNat dF_) v1)=v2
  (repeat(with_reducible refine And.intro ?_ ?_;exact bO_))
  refine A0 (A51 v1 (-65536)) rfl ?_;generalize hv3:(Q2 v1 (-65536))=v3;refine st_ ?_;refine A0 (B89 v2 (a.getD i.toNat dF_) v3) rfl ?_;generalize hv4:(A1s v2 (a.getD i.toNat dF_) v3)=v4;refine st_ ?_;have hd:A3q a i b k=v4:=by(simp only[A3q,h1,hv1,hv2,hv3,hv4,zJ,qj,zf];done)
  try rw[hd]
  try simp only[go_sem,go_sem_proc]
def A45(v2:(List K8)×Int)(i1:Nat)(s1:Int×Int):Int×Int:=((IntKind.i64.wrap (s1.1+(IntKind.i64.wrap ((IntKind.i64.wrap ((v2.1.getD i1 dF_).e.X+(v2.1.getD i1 dF_).f.X))*(v2.1.getD i1 dF_).cross)))),(IntKind.i64.wrap (s1.2+(IntKind.i64.wrap ((IntKind.i64.wrap ((v2.1.getD i1 dF_).e.Y+(v2.1.getD i1 dF_).f.Y))*(v2.1.getD i1 dF_).cross)))))
def K4(vs:List cI):cI:=let v1:=(M5 vs);if v1=false then((⟨0,0⟩:cI))else(let v2:=(R0 vs);if(v2.2==0)=true then((vs.getD 0 dF_))else(let s1:=itr (A45 v2) v2.1.length (0,0);let v3:=(A38 s1.1 (IntKind.i64.wrap (3*v2.2)));let v4:=(A38 s1.2 (IntKind.i64.wrap (3*v2.2)));(⟨(IntKind.i64.wrap ((vs.getD 0 dF_).X+v3)),(IntKind.i64.wrap ((vs.getD 0 dF_).Y+v4))⟩:cI)))
theorem C7o(vs:List cI)(h0:vs.length<=1048576):cA_ 549 [A4 2 cI.enc dF_ vs] [] (.agg (K4 vs).enc) []:=by
 refine M3 73 [(2,some (some 2))] hm A6 Tryz.func549 rfl ?_;have:=F3m vs
 have:=B7t vs
 have:=A7b
 have:=C5a
 have:=Q8
 have:=K4.eq_1 vs
 have:=λi_ s_=>A45.eq_1 (R0 vs) i_ s_
 have:=λx_ Q_ σ_=> @lp_ Tryz.prog 73 [] x_ Q_ σ_ hm (λ_=>True) (λ_=>True) (R0 vs).1.length (λi_=> [(0, .cA,A4 2 cI.enc dF_ vs),(2, .cA, .ptr 48 0 0 1),(4, .cA,sI ((R0 vs).2)),(5, .cA,sI ((itr (A45 (R0 vs)) i_ (0,0)).1)),(6, .cA,sI ((itr (A45 (R0 vs)) i_ (0,0)).2)),(23, .cA,A4 5 K8.enc dF_ (R0 vs).1),(24, .cA,sI ((R0 vs).1.length:Int)),(25, .cA,sI (i_:Int))]) (λi_=> [(48, .box [sI 0,sI 0])]) [] trivial (λ_ _=>trivial) g_ g_ g_;exact K2
structure dV where
 fU:Int
 fQ:cI
 fT:Int
 deriving DecidableEq,Inhabited
def dV.enc(x:dV):List AV:=[sI x.fU,sI x.fQ.X,sI x.fQ.Y,sI x.fT]
def dV.zero:List AV:= [sI 0,sI 0,sI 0,sI 0]
attribute [go_sem] dV.enc dV.zero
@[go_sem] theorem F6i(x:dV):dV.mk x.fU x.fQ x.fT=x:=rfl
def A9h(s:Shape)(d:Int):dV:=let v1:=(C6 s.eW s.eW);let v2:=(C6 205888 v1);let v3:=(C6 v2 d);let v4:=(A38 v1 2);let v5:=(C6 v3 v4);(⟨v3,(s.cK.getD 0 dF_),v5⟩:dV)
theorem C5k(s:Shape)(d:Int)(h1:1<=s.cK.length):cA_ 513 [.agg s.enc,sI d] [] (.agg (A9h s d).enc) []:=by
 refine M3 26 [(4,some (some 4))] hm A6 Tryz.func513 rfl ?_;have:=M2
 have:=Q8
 have:=A9h.eq_1 s d;exact E7
def A8k(s:Shape)(d:Int):dV:=let v1:=(C6 s.eW s.eW);let v2:=(O5 (s.cK.getD 1 dF_) (s.cK.getD 0 dF_));let v3:=(A97 v2);let v4:=(C6 205888 v1);let v5:=(D2 s.eW s.eW);let v6:=(C6 v5 v3);let v7:=(D2 v4 v6);let v8:=(C6 v7 d);let v9:=(A38 v1 2);let v10:=(C6 v3 v3);let v11:=(A38 v10 12);let v12:=(D2 v9 v11);let v13:=(A7g (s.cK.getD 0 dF_) (s.cK.getD 1 dF_) 32768);let v14:=(C6 v8 v12);(⟨v8,v13,v14⟩:dV)
theorem C38(s:Shape)(d:Int)(h1:2<=s.cK.length):cA_ 514 [.agg s.enc,sI d] [] (.agg (A8k s d).enc) []:=by
 refine M3 59 [(4,some (some 4))] hm A6 Tryz.func514 rfl ?_;have:=M2
 have:=L9
 have:=W6
 have:=N2
 have:=Q8
 have:=B11
 have:=A8k.eq_1 s d;exact E7
def A0s(s:Shape)(v3:cI)(i1:Nat)(s1:Int×Int×Int×Int):Int×Int×Int×Int:=let v5:=(O5 (s.cK.getD i1 dF_) v3);let v6:=(A07 (⟨s1.2.2.1,s1.2.2.2⟩:cI) v5);let v7:=(Q1 (⟨s1.2.2.1,s1.2.2.2⟩:cI) (⟨s1.2.2.1,s1.2.2.2⟩:cI));let v8:=(Q1 (⟨s1.2.2.1,s1.2.2.2⟩:cI) v5);let v9:=(Q1 v5 v5);((IntKind.i64.wrap (s1.1+(IntKind.i64.wrap (v6*(IntKind.i64.wrap ((IntKind.i64.wrap (v7+v8))+v9)))))),(IntKind.i64.wrap (s1.2.1+v6)),v5.X,v5.Y)
def A8l(s:Shape)(d:Int):dV:=let v1:=(A16 s.cK);let v2:=(C6 v1 d);let v3:=(K4 s.cK);let v4:=(O5 (s.cK.getD (IntKind.i64.wrap ((s.cK.length:Int)-1)).toNat dF_) v3);let s1:=itr (A0s s v3) s.cK.length (0,0,v4.X,v4.Y);if s1.2.1<1 then((⟨v2,v3,0⟩:dV))else(let v10:=(A38 s1.1 s1.2.1);let v11:=(A38 v10 6);let v12:=(C6 v2 v11);(⟨v2,v3,v12⟩:dV))
theorem C39(s:Shape)(d:Int)(h1:1<=s.cK.length)(h0:s.cK.length<=1048576):cA_ 515 [.agg s.enc,sI d] [] (.agg (A8l s d).enc) []:=by
 refine M3 79 [(4,some (some 4))] hm A6 Tryz.func515 rfl ?_;have:=λx1 x2 x3=>cx_ (A5z ⟨x1,x2⟩ x3)
 have:=λx1 x2 x3 x4=>cx_ (A01 ⟨x1,x2⟩ ⟨x3,x4⟩)
 have:=λx1 x2 x3=>cx_ (A01 ⟨x1,x2⟩ x3)
 have:=C2i
 have:=M2
 have:=C7o
 have:=L9
 have:=A5z
 have:=A01
 have:=Q8
 have:=A8l.eq_1 s d
 have:=λi_ s_=>A0s.eq_1 s (K4 s.cK) i_ s_
 have:=λx_ Q_ σ_=> @lp_ Tryz.prog 79 [] x_ Q_ σ_ hm (λ_=>True) (λ_=>True) s.cK.length (λi_=> [(4, .cA, .ptr 80 0 0 1),(5, .cA,sI (C6 (A16 s.cK) d)),(6, .cA, .ptr 112 0 0 1),(7, .cA,sI ((itr (A0s s (K4 s.cK)) i_ (0,0,(O5 (s.cK.getD (IntKind.i64.wrap ((s.cK.length:Int)-1)).toNat dF_) (K4 s.cK)).X,(O5 (s.cK.getD (IntKind.i64.wrap ((s.cK.length:Int)-1)).toNat dF_) (K4 s.cK)).Y)).1)),(8, .cA,sI ((itr (A0s s (K4 s.cK)) i_ (0,0,(O5 (s.cK.getD (IntKind.i64.wrap ((s.cK.length:Int)-1)).toNat dF_) (K4 s.cK)).X,(O5 (s.cK.getD (IntKind.i64.wrap ((s.cK.length:Int)-1)).toNat dF_) (K4 s.cK)).Y)).2.1)),(9, .cA, .ptr 160 0 0 1),(33, .cA,A4 2 cI.enc dF_ s.cK),(34, .cA,sI (s.cK.length:Int)),(35, .cA,sI (i_:Int))]) (λi_=> [(80, .box [sI 0,sI 0,sI 0,sI 0]),(112, .box [sI ((K4 s.cK).X),sI ((K4 s.cK).Y)]),(160, .box [sI ((itr (A0s s (K4 s.cK)) i_ (0,0,(O5 (s.cK.getD (IntKind.i64.wrap ((s.cK.length:Int)-1)).toNat dF_) (K4 s.cK)).X,(O5 (s.cK.getD (IntKind.i64.wrap ((s.cK.length:Int)-1)).toNat dF_) (K4 s.cK)).Y)).2.2.1),sI ((itr (A0s s (K4 s.cK)) i_ (0,0,(O5 (s.cK.getD (IntKind.i64.wrap ((s.cK.length:Int)-1)).toNat dF_) (K4 s.cK)).X,(O5 (s.cK.getD (IntKind.i64.wrap ((s.cK.length:Int)-1)).toNat dF_) (K4 s.cK)).Y)).2.2.2)])]) [] trivial (λ_ _=>trivial) g_ g_ g_;exact A85
def A90(s:Shape)(d:Int):dV:=let v1:=(F9 s);if(((v1 != 0)||(decide (d<0)))||(decide (262144<d)))=true then((⟨0,(⟨0,0⟩:cI),0⟩:dV))else(if(s.cS==1)=true then(let v2:=(A9h s d);v2)else(if(s.cS==2)=true then(let v3:=(A8k s d);v3)else(let v4:=(A8l s d);v4)))
theorem C7n(s:Shape)(d:Int)(h0:s.cK.length<=1048576):cA_ 441 [.agg s.enc,sI d] [] (.agg (A90 s d).enc) []:=by
 refine M3 32 [(4,some (some 4))] hm A6 Tryz.func441 rfl ?_;have:=D67 s
 have:=A11
 have:=C5k
 have:=C38
 have:=C39
 have:=A90.eq_1 s d;exact K2
def A2w(p:dV):Bool:=(decide (p.fU<0))
theorem C2g(p:dV):cA_ 517 [.agg p.enc] [] (sB (A2w p)) []:=by refine en1 hm A6 Tryz.func517 rfl rfl ?_;have:=A2w.eq_1 p;exact E7
theorem B6q(l:List dV)(f:FuncId)(first cap:List AV)(O:List (Nat×A7))(p:dV->Bool)(hl:l.length<=4194304)(hO:okO O)
  (hids: ∀i∈(AV.fn (.func f) first cap).ids,(ofL O i).isSome)
  (hp: ∀x∈l,cA_ f (first++ [.agg x.enc]++cap) O (sB (p x)) O):
  cA_ 550 [A4 4 dV.enc dF_ l, .fn (.func f) first cap] O (sI (A3u dF_ p l)) O:=by
 have hren:(AV.fn (.func f) first cap).ren id= .fn (.func f) first cap:=AV.ren_id _
 have hargs: ∀x:dV,∀a∈first++ [.agg x.enc]++cap,∀i∈a.ids,(ofL O i).isSome:=λx a ha i hi=>by
  simp only[zj,zu]at ha;refine hids i ?_;simp only[AV.ids,zj];rcases ha with(ha |rfl) |ha
  ·obtain⟨k,hk⟩:=zA ha;exact .inl (P7 hk i hi)
  ·simp[go_sem]at hi
  ·obtain⟨k,hk⟩:=zA ha;exact .inr (P7 hk i hi)
 refine I6 hm A6 Tryz.func550 rfl rfl (st_ ?_);refine B1 hm (ι:= {i:Nat // i<=l.length/\ ∀j,j<i->p (l.getD j dF_)=false}) (λi=> [(0, .cA,A4 4 dV.enc dF_ l),(1, .cA, .fn (.func f) first cap),(7, .cA,sI l.length),(8, .cA,sI i.1)])
  (λi=>O) (λi=>l.length-i.1) ⟨0,o_,λj hj=>by omega⟩ ?_ ?_
 ·refine Y3 hO rfl (st_ ?_);exact⟨by rw[O3,O3],λi hi=>hids i hi⟩
 ·rintro⟨i,hi,hs⟩;refine st_ ?_;split
  ·rename_i hlt;have hlt:i<l.length:=o_
   refine⟨o_,?_⟩;have hx:cA_ f (first++ .agg (l.getD i dF_).enc::cap) O (sB (p (l.getD i dF_))) O:=by have:=hp (l.getD i dF_) (B6 dF_ hlt);rwa[zx]at this
   refine Y4 hx hO rfl (λa ha=>hargs (l.getD i dF_) a (by rw[zx];exact ha)) rfl (st_ ?_);cases hpx:p (l.getD i dF_)with
   |true=>rw[zc rfl];refine S1 [.cA] rfl rfl hO (W0 hO) (st_ ?_);exact(A6k hlt hs hpx).symm
   |false=>rw[zb p_];refine A8 ⟨i+1,o_,λj hj=>by rcases zF.1 hj with h |rfl;exact hs j h;exact hpx⟩ (by show l.length-(i+1)<l.length-i;omega) (Y3 hO (W0 hO) ?_);refine st_ ?_;exact⟨by rw[O3,O3],λi hi=>hids i hi,wo_⟩
  ·rename_i hge;refine S1 [.cA] rfl rfl hO rfl (st_ ?_);exact(A2x λj hj=>hs j o_).symm
theorem B4j(l:List dV)(f:FuncId)(first cap:List AV)(O:List (Nat×A7))(p:dV->Bool)(hl:l.length<=4194304)(hO:okO O)
  (hids: ∀i∈(AV.fn (.func f) first cap).ids,(ofL O i).isSome)
  (hp: ∀x∈l,cA_ f (first++ [.agg x.enc]++cap) O (sB (p x)) O):
  cA_ 516 [A4 4 dV.enc dF_ l, .fn (.func f) first cap] O (sB (l.any p)) O:=by
 refine I6 hm A6 Tryz.func516 rfl rfl (st_ ?_);refine Y4 (B6q l f first cap O p hl hO hids hp) hO rfl ?_ rfl ?_
 ·intro a ha;simp only[zo,zr,zU]at ha;rcases ha with rfl |rfl
  ·intro i hi;simp[AV.ids]at hi
  ·exact hids
 ·refine st_ ?_;refine S1 [.cA] rfl rfl hO (W0 hO) (st_ ?_);exact B8v p l
def A2u(ps:List dV)(v5:Int)(v6:Int)(i2:Nat)(s2:Int):Int:=let v7:=(O5 (ps.getD i2 dF_).fQ (⟨v5,v6⟩:cI));let v8:=(D2 s2 (ps.getD i2 dF_).fT);let v9:=(Q1 v7 v7);let v10:=(C6 (ps.getD i2 dF_).fU v9);let v11:=(D2 v8 v10);v11
def A2v(ps:List dV)(i3:Nat)(s3:Int):Int:=let v12:=(O5 (ps.getD i3 dF_).fQ (⟨0,0⟩:cI));let v13:=(D2 s3 (ps.getD i3 dF_).fT);let v14:=(Q1 v12 v12);let v15:=(C6 (ps.getD i3 dF_).fU v14);let v16:=(D2 v13 v15);v16
def V1(ps:List dV)(i1:Nat)(s1:Int×Int×Int×Int):Int×Int×Int×Int:=let v2:=(D2 s1.2.2.2 (sat (ps.getD i1 dF_).fU));((IntKind.i64.wrap (s1.1+(sat (ps.getD i1 dF_).fU))),(IntKind.i64.wrap (s1.2.1+(IntKind.i64.wrap ((sat (ps.getD i1 dF_).fU)*(sat (ps.getD i1 dF_).fQ.X))))),(IntKind.i64.wrap (s1.2.2.1+(IntKind.i64.wrap ((sat (ps.getD i1 dF_).fU)*(sat (ps.getD i1 dF_).fQ.Y))))),v2)
def A0n(ps:List dV):dV:=if((decide (8<(ps.length:Int)))||(ps.any (λx=>(A2w x))))=true then((⟨0,(⟨0,0⟩:cI),0⟩:dV))else(let s1:=itr (V1 ps) ps.length (0,0,0,0);if 0<s1.1 then(let v5:=(A38 s1.2.1 s1.1);let v6:=(A38 s1.2.2.1 s1.1);let s2:=itr (A2u ps v5 v6) ps.length 0;(⟨s1.2.2.2,(⟨v5,v6⟩:cI),s2⟩:dV))else(let s3:=itr (A2v ps) ps.length 0;(⟨s1.2.2.2,(⟨0,0⟩:cI),s3⟩:dV)))
theorem C7l(ps:List dV)(h0:ps.length<=1048576):cA_ 442 [A4 4 dV.enc dF_ ps] [] (.agg (A0n ps).enc) []:=by
 refine M3 91 [(2,some (some 4))] hm A6 Tryz.func442 rfl (st_ ?_);refine A0 (B4j ps 517 [] [] [] (λx=>(A2w x)) (by(omega)) C81 (by simp[AV.ids,F6]) (λx _=>C2g x)) rfl ?_;simp only[go_sem,go_sem_proc,D6];by_cases h1:((decide (8<(ps.length:Int)))||(ps.any (λx=>(A2w x))))=true
 ·rw[zc h1];have hd:A0n ps=(⟨0,(⟨0,0⟩:cI),0⟩:dV):=by(simp only[A0n,h1,zL,qj];done)
  try rw[hd]
  try simp only[go_sem,go_sem_proc]
 ·rw[zb h1];refine B1 hm (ι:= {i:Nat // i<=ps.length}) (λi=> [(0, .cA,A4 4 dV.enc dF_ ps),(2, .cA, .ptr 48 0 0 1),(3, .cA, .ptr 64 0 0 1),(4, .cA,sI ((itr (V1 ps) i.1 (0,0,0,0)).1)),(5, .cA,sI ((itr (V1 ps) i.1 (0,0,0,0)).2.1)),(6, .cA,sI ((itr (V1 ps) i.1 (0,0,0,0)).2.2.1)),(21, .cA,A4 4 dV.enc dF_ ps),(22, .cA,sI (ps.length:Int)),(23, .cA,sI (i.1:Int))]) (λi=> [(48, .box [sI 0,sI 0,sI 0,sI 0]),(64, .box [sI ((itr (V1 ps) i.1 (0,0,0,0)).2.2.2),sI 0,sI 0,sI 0])]) (λi=>ps.length-i.1) ⟨0,o_⟩ ?_ ?_
  ·refine A9 [] [] ?_;simp only[go_sem,go_sem_proc,G9]
  ·rintro⟨i1,hi1⟩;dsimp only;generalize hs1:itr (V1 ps) i1 (0,0,0,0)=s1;refine st_ ?_;by_cases h2:(i1:Int)<(ps.length:Int)
   ·rw[zc h2];have hlt1:i1<ps.length:=o_
    (repeat(with_reducible refine And.intro ?_ ?_;exact bO_))
    refine A0 (L7 (ps.getD i1 dF_).fU) rfl (st_ ?_);refine A0 (N2 s1.2.2.2 (sat (ps.getD i1 dF_).fU)) rfl ?_;generalize hv2:(D2 s1.2.2.2 (sat (ps.getD i1 dF_).fU))=v2;refine st_ ?_;refine A0 (L7 (ps.getD i1 dF_).fQ.X) rfl (st_ ?_);refine A0 (L7 (ps.getD i1 dF_).fQ.Y) rfl (st_ ?_);have hn:itr (V1 ps) (i1+1) (0,0,0,0)=((IntKind.i64.wrap (s1.1+(sat (ps.getD i1 dF_).fU))),(IntKind.i64.wrap (s1.2.1+(IntKind.i64.wrap ((sat (ps.getD i1 dF_).fU)*(sat (ps.getD i1 dF_).fQ.X))))),(IntKind.i64.wrap (s1.2.2.1+(IntKind.i64.wrap ((sat (ps.getD i1 dF_).fU)*(sat (ps.getD i1 dF_).fQ.Y))))),v2):=by rw[H7,hs1];(simp only[V1,hv2,qj];done)
    refine A8 ⟨i1+1,o_⟩ (by show ps.length-(i1+1)<ps.length-i1;omega) (A9 [] [] ?_);simp only[go_sem,go_sem_proc,hn];exact eO_
   ·rw[zb h2];have hge:i1=ps.length:=o_
    subst hge;by_cases h3:0<s1.1
    ·rw[zc h3];refine A0 (Q8 s1.2.1 s1.1) rfl ?_;generalize hv5:(A38 s1.2.1 s1.1)=v5;refine st_ ?_;refine A0 (Q8 s1.2.2.1 s1.1) rfl ?_;generalize hv6:(A38 s1.2.2.1 s1.1)=v6;refine st_ ?_;refine B1 hm (ι:= {i:Nat // i<=ps.length}) (λi=> [(2, .cA, .ptr 48 0 0 1),(3, .cA, .ptr 64 0 0 1),(65, .cA,A4 4 dV.enc dF_ ps),(66, .cA,sI (ps.length:Int)),(67, .cA,sI (i.1:Int))]) (λi=> [(48, .box [sI 0,sI 0,sI 0,sI 0]),(64, .box [sI s1.2.2.2,sI v5,sI v6,sI (itr (A2u ps v5 v6) i.1 0)])]) (λi=>ps.length-i.1) ⟨0,o_⟩ ?_ ?_
     ·refine A9 [] [] ?_;simp only[go_sem,go_sem_proc,G9]
     ·rintro⟨i2,hi2⟩;dsimp only;generalize hs2:itr (A2u ps v5 v6) i2 0=s2;refine st_ ?_;by_cases h4:(i2:Int)<(ps.length:Int)
      ·rw[zc h4];have hlt2:i2<ps.length:=o_
       (repeat(with_reducible refine And.intro ?_ ?_;exact bO_))
       refine A0 (L9 (ps.getD i2 dF_).fQ (⟨v5,v6⟩:cI)) rfl ?_;generalize hv7:(O5 (ps.getD i2 dF_).fQ (⟨v5,v6⟩:cI))=v7;refine st_ ?_;refine A0 (N2 s2 (ps.getD i2 dF_).fT) rfl ?_;generalize hv8:(D2 s2 (ps.getD i2 dF_).fT)=v8;refine st_ ?_;refine A0 (A01 v7 v7) rfl ?_;generalize hv9:(Q1 v7 v7)=v9;refine st_ ?_;refine A0 (M2 (ps.getD i2 dF_).fU v9) rfl ?_;generalize hv10:(C6 (ps.getD i2 dF_).fU v9)=v10;refine st_ ?_;refine A0 (N2 v8 v10) rfl ?_;generalize hv11:(D2 v8 v10)=v11;refine st_ ?_;have hn:itr (A2u ps v5 v6) (i2+1) 0=v11:=by rw[H7,hs2];(simp only[A2u,hv7,hv8,hv9,hv10,hv11,qj];done)
       refine A8 ⟨i2+1,o_⟩ (by show ps.length-(i2+1)<ps.length-i2;omega) (A9 [] [] ?_);simp only[go_sem,go_sem_proc,hn];exact eO_
      ·rw[zb h4];have hge:i2=ps.length:=o_
       subst hge;have hd:A0n ps=(⟨s1.2.2.2,(⟨v5,v6⟩:cI),s2⟩:dV):=by(simp only[A0n,h1,hs1,h3,hv5,hv6,hs2,zL,zJ,qj,zf];done)
       try rw[hd]
       try simp only[go_sem,go_sem_proc]
    ·rw[zb h3];refine B1 hm (ι:= {i:Nat // i<=ps.length}) (λi=> [(2, .cA, .ptr 48 0 0 1),(3, .cA, .ptr 64 0 0 1),(65, .cA,A4 4 dV.enc dF_ ps),(66, .cA,sI (ps.length:Int)),(67, .cA,sI (i.1:Int))]) (λi=> [(48, .box [sI 0,sI 0,sI 0,sI 0]),(64, .box [sI s1.2.2.2,sI 0,sI 0,sI (itr (A2v ps) i.1 0)])]) (λi=>ps.length-i.1) ⟨0,o_⟩ ?_ ?_
     ·refine A9 [] [] ?_;simp only[go_sem,go_sem_proc,G9]
     ·rintro⟨i3,hi3⟩;dsimp only;generalize hs3:itr (A2v ps) i3 0=s3;refine st_ ?_;by_cases h5:(i3:Int)<(ps.length:Int)
      ·rw[zc h5];have hlt3:i3<ps.length:=o_
       (repeat(with_reducible refine And.intro ?_ ?_;exact bO_))
       refine A0 (L9 (ps.getD i3 dF_).fQ (⟨0,0⟩:cI)) rfl ?_;generalize hv12:(O5 (ps.getD i3 dF_).fQ (⟨0,0⟩:cI))=v12;refine st_ ?_;refine A0 (N2 s3 (ps.getD i3 dF_).fT) rfl ?_;generalize hv13:(D2 s3 (ps.getD i3 dF_).fT)=v13;refine st_ ?_;refine A0 (A01 v12 v12) rfl ?_;generalize hv14:(Q1 v12 v12)=v14;refine st_ ?_;refine A0 (M2 (ps.getD i3 dF_).fU v14) rfl ?_;generalize hv15:(C6 (ps.getD i3 dF_).fU v14)=v15;refine st_ ?_;refine A0 (N2 v13 v15) rfl ?_;generalize hv16:(D2 v13 v15)=v16;refine st_ ?_;have hn:itr (A2v ps) (i3+1) 0=v16:=by rw[H7,hs3];(simp only[A2v,hv12,hv13,hv14,hv15,hv16,qj];done)
       refine A8 ⟨i3+1,o_⟩ (by show ps.length-(i3+1)<ps.length-i3;omega) (A9 [] [] ?_);simp only[go_sem,go_sem_proc,hn];exact eO_
      ·rw[zb h5];have hge:i3=ps.length:=o_
       subst hge;have hd:A0n ps=(⟨s1.2.2.2,(⟨0,0⟩:cI),s3⟩:dV):=by(simp only[A0n,h1,hs1,h3,hs3,zJ,qj,zf];done)
       try rw[hd]
       try simp only[go_sem,go_sem_proc]
def U7(fs:List cY)(i1:Nat)(s1:(List dV)):(List dV):=if(fs.getD i1 dF_).fM=false then(let v1:=(A90 (fs.getD i1 dF_).Shape (fs.getD i1 dF_).fS);(s1++ [v1]))else(s1)
def A71(fs:List cY):dV:=if 4<(fs.length:Int)then((⟨0,(⟨0,0⟩:cI),0⟩:dV))else(let s1:=itr (U7 fs) fs.length [];let v2:=(A0n s1);v2)
theorem C2h(fs:List cY)(h0: ∀f∈fs,f.Shape.cK.length<=1048576):cA_ 320 [A4 10 cY.enc dF_ fs] [] (.agg (A71 fs).enc) []:=by
 refine M3 30 [(2,some (some 4))] hm A6 Tryz.func320 rfl ?_;have:=C7n
 have:=C7l
 have:=A71.eq_1 fs
 have:=λi_ s_=>U7.eq_1 fs i_ s_
 have:=λx_ Q_ σ_=> @lp_ Tryz.prog 30 [] x_ Q_ σ_ hm (λ_=>True) (λi_=>((itr (U7 fs) i_ [])).length<=0+1*i_) fs.length (λi_=> [(2, .cA, .ptr 48 0 0 1),(3,if i_=0 then .fA else .cA, .sl 1003 0 (itr (U7 fs) i_ []).length (itr (U7 fs) i_ []).length),(10, .cA,A4 10 cY.enc dF_ fs),(11, .cA,sI (fs.length:Int)),(12, .cA,sI (i_:Int))]) (λi_=> [(48, .box [sI 0,sI 0,sI 0,sI 0]),(1003, .arr 4 (B0 dV.enc dF_ (itr (U7 fs) i_ [])))]) [1003] trivial (λi_ hI_=>A89 (λs:(List dV)=>(s).length) 1 (λi s=>by(unfold U7;(repeat' split) <;> simp <;> omega)) i_ _) g_ g_ g_;exact K2
def A6r(b:cE):dV:=let v1:=(A71 b.cH);v1
theorem B36(b:cE)(h0: ∀f∈b.cH,f.Shape.cK.length<=1048576):cA_ 194 [.agg b.enc] [] (.agg (A6r b).enc) []:=by
 refine M3 6 [(2,some (some 4))] hm A6 Tryz.func194 rfl ?_;have:=C2h
 have:=A6r.eq_1 b;exact E7
def F0(b:cE):cI:=let v1:=(A6r b);let v2:=(Z9 b.cJ v1.fQ);v2
theorem A2z(b:cE)(h0: ∀f∈b.cH,f.Shape.cK.length<=1048576):cA_ 308 [.agg b.enc] [] (.agg (F0 b).enc) []:=by
 refine M3 9 [(2,some (some 2))] hm A6 Tryz.func308 rfl ?_;have:=B36
 have:=A7u
 have:=F0.eq_1 b;exact E7
def A6w(m:dV)(k:Int)(f:Bool):Int×Int:=if(k != 3)=true then((0,0))else(if 0<m.fU then(let v1:=(A0g 65536 m.fU);if((decide (0<m.fT))&&(!f))=true then(let v2:=(A0g 65536 m.fT);(v1,v2))else((v1,0)))else(if((decide (0<m.fT))&&(!f))=true then(let v3:=(A0g 65536 m.fT);(65536,v3))else((65536,0))))
theorem C7m(m:dV)(k:Int)(f:Bool):cA_ 301 [.agg m.enc,sI k,sB f] [] (.tup [sI ((A6w m k f).1),sI ((A6w m k f).2)]) []:=by
 refine enT hm A6 Tryz.func301 rfl rfl ?_;have:=A7k
 have:=A6w.eq_1 m k f;exact E7
def A1f(b:cE):cG:=let v1:=(A6r b);let v2:=(A6w v1 b.cS b.eE);(⟨b.dO,b.dA,v2.1,v2.2⟩:cG)
theorem A7s(b:cE)(h0: ∀f∈b.cH,f.Shape.cK.length<=1048576):cA_ 180 [.agg b.enc] [] (.agg (A1f b).enc) []:=by
 refine M3 22 [(2,some (some 5))] hm A6 Tryz.func180 rfl ?_;have:=B36
 have:=C7m
 have:=A1f.eq_1 b;exact E7
def W8(b:cE):cE:=let v1:=(Q9 b.dO.X (-16777216) 16777216);let v2:=(Q9 b.dO.Y (-16777216) 16777216);let v3:=(Q9 b.dA (-4194304) 4194304);(⟨b.ID,b.cS,b.cJ,(⟨v1,v2⟩:cI),v3,b.fF,b.fG,b.eC,b.dX,b.eF,b.fH,b.eE,b.fD,b.eX,b.eM,b.cH⟩:cE)
theorem A18(b:cE):cA_ 110 [.agg b.enc] [] (.agg (W8 b).enc) []:=by
 refine M3 20 [(2,some (some 20))] hm A6 Tryz.func110 rfl ?_;have:=A5a
 have:=W8.eq_1 b;exact E7
def A9y(b:cE):cE:=let v1:=(W8 b);(⟨v1.ID,v1.cS,v1.cJ,v1.dO,v1.dA,v1.fF,v1.fG,v1.eC,v1.dX,v1.eF,v1.fH,v1.eE,v1.fD,false,0,v1.cH⟩:cE)
theorem B38(b:cE):cA_ 510 [.agg b.enc] [] (.agg (A9y b).enc) []:=by
 refine M3 8 [(2,some (some 20))] hm A6 Tryz.func510 rfl ?_;have:=A18
 have:=A9y.eq_1 b;exact E7
def A53(b:cE)(p:cI)(i:cI):cE:=if(b.cS != 3)=true then(b)else(let v1:=(A1f b);let v2:=(F0 b);let v3:=(O5 p v2);let v4:=(Q2 i v1.fK);let v5:=(A1o b.dO v4);let v6:=(A07 v3 i);let v7:=(C6 v6 v1.eR);let v8:=(D2 b.dA v7);let v9:=(A9y (⟨b.ID,b.cS,b.cJ,v5,v8,b.fF,b.fG,b.eC,b.dX,b.eF,b.fH,b.eE,b.fD,b.eX,b.eM,b.cH⟩:cE));v9)
theorem C5c(b:cE)(p:cI)(i:cI)(h0: ∀f∈b.cH,f.Shape.cK.length<=1048576):cA_ 413 [.agg b.enc, .agg p.enc, .agg i.enc] [] (.agg (A53 b p i).enc) []:=by
 refine M3 39 [(6,some (some 20))] hm A6 Tryz.func413 rfl ?_;have:=λx1 x2 x3 x4 x5 x6 x7 x8 x9 x10 x11 x12 x13 x14 x15 x16 x17 x18 x19 x20=>cx_ (B38 ⟨x1,x2,⟨⟨x3,x4⟩,x5⟩,⟨x6,x7⟩,x8,⟨x9,x10⟩,x11,x12,x13,x14,x15,x16,x17,x18,x19,x20⟩)
 have:=A7s
 have:=A2z
 have:=L9
 have:=A51
 have:=A3j
 have:=A5z
 have:=M2
 have:=N2
 have:=B38
 have:=A53.eq_1 b p i;exact E7
def A2k(b:cE)(i:Int):cE:=if(b.cS != 3)=true then(b)else(let v1:=(A1f b);let v2:=(C6 i v1.eR);let v3:=(D2 b.dA v2);let v4:=(A9y (⟨b.ID,b.cS,b.cJ,b.dO,v3,b.fF,b.fG,b.eC,b.dX,b.eF,b.fH,b.eE,b.fD,b.eX,b.eM,b.cH⟩:cE));v4)
theorem B65(b:cE)(i:Int)(h0: ∀f∈b.cH,f.Shape.cK.length<=1048576):cA_ 414 [.agg b.enc,sI i] [] (.agg (A2k b i).enc) []:=by
 refine M3 20 [(4,some (some 20))] hm A6 Tryz.func414 rfl ?_;have:=λx1 x2 x3 x4 x5 x6 x7 x8 x9 x10 x11 x12 x13 x14 x15 x16 x17 x18 x19 x20=>cx_ (B38 ⟨x1,x2,⟨⟨x3,x4⟩,x5⟩,⟨x6,x7⟩,x8,⟨x9,x10⟩,x11,x12,x13,x14,x15,x16,x17,x18,x19,x20⟩)
 have:=A7s
 have:=M2
 have:=N2
 have:=B38
 have:=A2k.eq_1 b i;exact E7
def X2(b:cE)(s:cM):cE:=if((b.cS != 3)||b.eX)=true then(b)else(let v1:=(A1f b);let v2:=(Q2 s.eD b.eF);let v3:=(Q2 v2 s.dZ);let v4:=(A1o b.dO v3);let v5:=(Q2 b.fF v1.fK);let v6:=(Q2 v5 s.dZ);let v7:=(A1o v4 v6);let v8:=(C6 b.eC s.dZ);let v9:=(Q2 v7 v8);let v10:=(O5 v7 v9);let v11:=(C6 b.fG v1.eR);let v12:=(C6 v11 s.dZ);let v13:=(D2 b.dA v12);let v14:=(C6 b.dX s.dZ);let v15:=(C6 v13 v14);let v16:=(sat (sat v13-sat v15));if b.eE=true then(let v17:=(W8 (⟨b.ID,b.cS,b.cJ,v10,0,b.fF,b.fG,b.eC,b.dX,b.eF,b.fH,b.eE,b.fD,b.eX,b.eM,b.cH⟩:cE));v17)else(let v18:=(W8 (⟨b.ID,b.cS,b.cJ,v10,v16,b.fF,b.fG,b.eC,b.dX,b.eF,b.fH,b.eE,b.fD,b.eX,b.eM,b.cH⟩:cE));v18))
theorem C36(b:cE)(s:cM)(h0: ∀f∈b.cH,f.Shape.cK.length<=1048576):cA_ 179 [.agg b.enc, .agg s.enc] [] (.agg (X2 b s).enc) []:=by
 refine M3 73 [(4,some (some 20))] hm A6 Tryz.func179 rfl ?_;have:=λx1 x2 x3 x4 x5 x6 x7 x8 x9 x10 x11 x12 x13 x14 x15 x16 x17 x18 x19 x20=>cx_ (A18 ⟨x1,x2,⟨⟨x3,x4⟩,x5⟩,⟨x6,x7⟩,x8,⟨x9,x10⟩,x11,x12,x13,x14,x15,x16,x17,x18,x19,x20⟩)
 have:=A7s
 have:=A51
 have:=A3j
 have:=M2
 have:=L9
 have:=N2
 have:=R7
 have:=A18
 have:=X2.eq_1 b s;exact E7
def A3y(c:Int)(v:Int):Int×Int:=let v1:=(Q9 c (-268435456) 268435456);if(v1 != c)=true then((v1,0))else((c,v))
theorem C5h(c:Int)(v:Int):cA_ 196 [sI c,sI v] [] (.tup [sI ((A3y c v).1),sI ((A3y c v).2)]) []:=by
 refine enT hm A6 Tryz.func196 rfl rfl ?_;have:=A5a
 have:=A3y.eq_1 c v;exact E7
def A0w(b:cE)(dt:Int):cE:=if((b.cS==1)||b.eX)=true then(b)else(let v1:=(A6r b);let v2:=(A72 b.cJ v1.fQ b.dO b.dA dt);let v3:=(A3y v2.dY.X b.dO.X);let v4:=(A3y v2.dY.Y b.dO.Y);(⟨b.ID,b.cS,(⟨(⟨v3.1,v4.1⟩:cI),v2.eT⟩:cJ),(⟨v3.2,v4.2⟩:cI),b.dA,b.fF,b.fG,b.eC,b.dX,b.eF,b.fH,b.eE,b.fD,b.eX,b.eM,b.cH⟩:cE))
theorem C35(b:cE)(dt:Int)(h0: ∀f∈b.cH,f.Shape.cK.length<=1048576):cA_ 116 [.agg b.enc,sI dt] [] (.agg (A0w b dt).enc) []:=by
 refine M3 69 [(4,some (some 20))] hm A6 Tryz.func116 rfl ?_;have:=B36
 have:=C2q
 have:=C5h
 have:=A0w.eq_1 b dt;exact E7
def J3(b:cE):cE:=(⟨b.ID,b.cS,b.cJ,b.dO,b.dA,(⟨0,0⟩:cI),0,b.eC,b.dX,b.eF,b.fH,b.eE,b.fD,b.eX,b.eM,b.cH⟩:cE)
theorem B9n(b:cE):cA_ 120 [.agg b.enc] [] (.agg (J3 b).enc) []:=by refine M3 7 [(2,some (some 20))] hm A6 Tryz.func120 rfl ?_;have:=J3.eq_1 b;exact E7
theorem D0f(s:Shape)(p:cJ)(h:F9 s=0):1<=(G8 s p).length/\(s.cS=1->(G8 s p).length=1)/\(s.cS=2->(G8 s p).length=2)/\(s.cS≠1->s.cS≠2->3<=(G8 s p).length)/\(G8 s p).length<=8:=by
 have:=D67 s h
 have:=D68 s p;rw[zc h]at this;rw[this];by_cases h1:s.cS=1 <;> by_cases h2:s.cS=2 <;> simp_all <;> omega
structure H9 where
 from_:cI
 to:cI
 deriving DecidableEq,Inhabited
def H9.enc(x:H9):List AV:=[sI x.from_.X,sI x.from_.Y,sI x.to.X,sI x.to.Y]
def H9.zero:List AV:= [sI 0,sI 0,sI 0,sI 0]
attribute [go_sem] H9.enc H9.zero
@[go_sem] theorem E9c(x:H9):H9.mk x.from_ x.to=x:=rfl
def U9(c:List cI)(i1:Nat)(s1:(List H9)):(List H9):=(s1++ [(⟨(c.getD i1 dF_),(c.getD ((IntKind.i64.wrap ((i1:Int)+1)).tmod (c.length:Int)).toNat dF_)⟩:H9)])
def A34(k:Int)(c:List cI):(List H9):=if(k==1)=true then([(⟨(c.getD 0 dF_),(c.getD 0 dF_)⟩:H9)])else(if(k==2)=true then([(⟨(c.getD 0 dF_),(c.getD 1 dF_)⟩:H9)])else(if(k==3)=true then(let s1:=itr (U9 c) c.length [];s1)else(([]:List H9))))
theorem D13(k:Int)(c:List cI)(h1:k=1->1<=c.length)(h2:k=2->2<=c.length)(h0:c.length<=1048576):cA_ 449 [sI k,A4 2 cI.enc dF_ c] [] (A4 4 H9.enc dF_ (A34 k c)) []:=by
 refine en1 hm A6 Tryz.func449 rfl rfl ?_;have:=A34.eq_1 k c
 have:=λi_ s_=>U9.eq_1 c i_ s_
 have:=λx_ Q_ σ_=> @lp_ Tryz.prog Tryz.f449.ntmps [] x_ Q_ σ_ hm (λ_=>True) (λi_=>((itr (U9 c) i_ [])).length<=0+1*i_) c.length (λi_=> [(1, .cA,A4 2 cI.enc dF_ c),(5,if i_=0 then .fA else .cA, .sl 1005 0 (itr (U9 c) i_ []).length (itr (U9 c) i_ []).length),(35, .cA,A4 2 cI.enc dF_ c),(36, .cA,sI (c.length:Int)),(37, .cA,sI (i_:Int))]) (λi_=> [(1005, .arr 4 (B0 H9.enc dF_ (itr (U9 c) i_ [])))]) [1005] trivial (λi_ hI_=>A89 (λs:(List H9)=>(s).length) 1 (λi s=>by(unfold U9;(repeat' split) <;> simp <;> omega)) i_ _) g_ g_ g_;exact K2
theorem D65(k:Int)(c:List cI):(A34 k c).length<=c.length+1:=by
 unfold A34;simp only
 (repeat' split) <;> first |(simp;done) |skip
 have:=A89 (λs:List H9=>s.length) 1 (f:=U9 c) (λi s=>by unfold U9;simp) c.length [];simp only[List.length_nil]at this;omega
def A2t(a:List H9)(b:List H9)(i1:Nat)(i2:Nat)(s2:Int):Int:=let v1:=(A4v (a.getD i1 dF_).from_ (a.getD i1 dF_).to (b.getD i2 dF_).from_ (b.getD i2 dF_).to);(if v1<s2 then v1 else s2)
def A2s(a:List H9)(b:List H9)(i1:Nat)(s1:Int):Int:=let s2:=itr (A2t a b i1) b.length s1;s2
def A6u(a:List H9)(b:List H9):Int:=let s1:=itr (A2s a b) a.length 536870911;s1
theorem C7g(a:List H9)(b:List H9)(h0:a.length<=1048576)(h1:b.length<=1048576):cA_ 448 [A4 4 H9.enc dF_ a,A4 4 H9.enc dF_ b] [] (sI (A6u a b)) []:=by
 refine en1 hm A6 Tryz.func448 rfl rfl (st_ ?_);refine B1 hm (ι:= {i:Nat // i<=a.length}) (λi=> [(1, .cA,A4 4 H9.enc dF_ b),(5, .cA,sI (itr (A2s a b) i.1 536870911)),(10, .cA,A4 4 H9.enc dF_ a),(11, .cA,sI (a.length:Int)),(12, .cA,sI (i.1:Int))]) (λi=> []) (λi=>a.length-i.1) ⟨0,o_⟩ ?_ ?_
 ·refine A9 [] [] ?_;simp only[go_sem,go_sem_proc,G9]
 ·rintro⟨i1,hi1⟩;dsimp only;generalize hs1:itr (A2s a b) i1 536870911=s1;refine st_ ?_;by_cases h1:(i1:Int)<(a.length:Int)
  ·rw[zc h1];have hlt1:i1<a.length:=o_
   (repeat(with_reducible refine And.intro ?_ ?_;exact bO_))
   refine B1 hm (ι:= {i:Nat // i<=b.length}) (λi=> [(1, .cA,A4 4 H9.enc dF_ b),(5, .cA,sI (itr (A2t a b i1) i.1 s1)),(7, .cA, .ptr 128 0 0 1),(10, .cA,A4 4 H9.enc dF_ a),(11, .cA,sI (a.length:Int)),(12, .cA,sI (i1:Int)),(16, .cA,A4 4 H9.enc dF_ b),(17, .cA,sI (b.length:Int)),(18, .cA,sI (i.1:Int))]) (λi=> [(128, .box [sI ((a.getD i1 dF_).from_.X),sI ((a.getD i1 dF_).from_.Y),sI ((a.getD i1 dF_).to.X),sI ((a.getD i1 dF_).to.Y)])]) (λi=>b.length-i.1) ⟨0,o_⟩ ?_ ?_
   ·refine A9 [] [] ?_;simp only[go_sem,go_sem_proc,G9]
   ·rintro⟨i2,hi2⟩;dsimp only;generalize hs2:itr (A2t a b i1) i2 s1=s2;refine st_ ?_;by_cases h2:(i2:Int)<(b.length:Int)
    ·rw[zc h2];have hlt2:i2<b.length:=o_
     (repeat(with_reducible refine And.intro ?_ ?_;exact bO_))
     refine A0 (B6i (a.getD i1 dF_).from_ (a.getD i1 dF_).to (b.getD i2 dF_).from_ (b.getD i2 dF_).to) rfl ?_;generalize hv1:(A4v (a.getD i1 dF_).from_ (a.getD i1 dF_).to (b.getD i2 dF_).from_ (b.getD i2 dF_).to)=v1;refine st_ ?_;have hn:itr (A2t a b i1) (i2+1) s1=(if v1<s2 then v1 else s2):=by rw[H7,hs2];(simp only[A2t,hv1,qj];done)
     refine A8 ⟨i2+1,o_⟩ (by show b.length-(i2+1)<b.length-i2;omega) (A9 [] [] ?_);simp only[go_sem,go_sem_proc,hn];exact eO_
    ·rw[zb h2];have hge:i2=b.length:=o_
     subst hge;have hn:itr (A2s a b) (i1+1) 536870911=s2:=by rw[H7,hs1];(simp only[A2s,hs2,qj];done)
     refine A8 ⟨i1+1,o_⟩ (by show a.length-(i1+1)<a.length-i1;omega) (A9 [] [] ?_);simp only[go_sem,go_sem_proc,hn];exact eO_
  ·rw[zb h1];have hge:i1=a.length:=o_
   subst hge;have hd:A6u a b=s1:=by(simp only[A6u,hs1,qj];done)
   try rw[hd]
def A1u(s:Shape):Bool:=let v1:=(F9 s);(v1==0)
theorem B9c(s:Shape)(h0:s.cK.length<=1048576):cA_ 336 [.agg s.enc] [] (sB (A1u s)) []:=by
 refine en1 hm A6 Tryz.func336 rfl rfl ?_;have:=A11
 have:=A1u.eq_1 s;exact E7
def L3(s:Shape)(t0:cJ)(t1:cJ):Int:=let v1:=(F9 s);if(v1 != 0)=true then(0)else(let v2:=(A04 t0.eT t1.eT);let v3:=(A08 s);let v4:=(C6 (if v2<(IntKind.i64.wrap (0-v2))then(IntKind.i64.wrap (0-v2))else v2) v3);let v5:=(O5 t1.dY t0.dY);let v6:=(A97 v5);let v7:=(D2 v6 v4);let v8:=(D2 v7 4);v8)
theorem C9p(s:Shape)(t0:cJ)(t1:cJ)(h0:s.cK.length<=1048576):cA_ 554 [.agg s.enc, .agg t0.enc, .agg t1.enc] [] (sI (L3 s t0 t1)) []:=by
 refine en1 hm A6 Tryz.func554 rfl rfl ?_;have:=A11
 have:=B87
 have:=C1j
 have:=M2
 have:=L9
 have:=W6
 have:=N2
 have:=L3.eq_1 s t0 t1;exact K2
def M1(x:Int):Int:=let v1:=(A38 x 2);v1
theorem A9q(x:Int):cA_ 386 [sI x] [] (sI (M1 x)) []:=by
 refine en1 hm A6 Tryz.func386 rfl rfl ?_;have:=Q8
 have:=M1.eq_1 x;exact E7
def T8(v:cI)(f:cI):cI×Int:=let v1:=(A97 v);if(v1==0)=true then((f,0))else(let v2:=(A36 v);(v2,v1))
theorem B4c(v:cI)(f:cI):cA_ 384 [.agg v.enc, .agg f.enc] [] (.tup [.agg (T8 v f).1.enc,sI ((T8 v f).2)]) []:=by
 refine S3 15 [(4,some (some 2)),(5,none)] hm A6 Tryz.func384 rfl ?_;have:=W6
 have:=A50
 have:=T8.eq_1 v f;exact K2
def A15(c:List cI)(p:cI)(i1:Nat)(s1:Int×Int):Int×Int:=let v2:=(B4 (c.getD (i1+1) dF_) (c.getD ((IntKind.i64.wrap (((i1+1:Nat):Int)+1)).tmod (c.length:Int)).toNat dF_) p);let v3:=(B3s v2.1 p);let v4:=(B3s (⟨s1.1,s1.2⟩:cI) p);if v3<v4 then((v2.1.X,v2.1.Y))else((s1.1,s1.2))
def Z1(c:List cI)(p:cI):cI:=let v1:=(B4 (c.getD 0 dF_) (c.getD 1 dF_) p);let s1:=itr (A15 c p) (c.length-1) (v1.1.X,v1.1.Y);(⟨s1.1,s1.2⟩:cI)
theorem B70(c:List cI)(p:cI)(h2:2<=c.length)(h0:c.length<=1048576):cA_ 390 [A4 2 cI.enc dF_ c, .agg p.enc] [] (.agg (Z1 c p).enc) []:=by
 refine M3 53 [(4,some (some 2))] hm A6 Tryz.func390 rfl ?_;have:=λx1 x2 x3=>cx_ (Y7 ⟨x1,x2⟩ x3)
 have:=B1y
 have:=Y7
 have:=Z1.eq_1 c p
 have:=λi_ s_=>A15.eq_1 c p i_ s_
 have:=λx_ Q_ σ_=> @lp_ Tryz.prog 53 [] x_ Q_ σ_ hm (λ_=>True) (λ_=>True) (c.length-1) (λi_=> [(0, .cA,A4 2 cI.enc dF_ c),(3, .cA, .ptr 64 0 0 1),(4, .cA, .ptr 80 0 0 1),(5, .cA, .ptr 96 0 0 1),(7, .cA,sI ((i_+1:Nat):Int))]) (λi_=> [(64, .box [sI p.X,sI p.Y]),(80, .box [sI 0,sI 0]),(96, .box [sI ((itr (A15 c p) i_ ((B4 (c.getD 0 dF_) (c.getD 1 dF_) p).1.X,(B4 (c.getD 0 dF_) (c.getD 1 dF_) p).1.Y)).1),sI ((itr (A15 c p) i_ ((B4 (c.getD 0 dF_) (c.getD 1 dF_) p).1.X,(B4 (c.getD 0 dF_) (c.getD 1 dF_) p).1.Y)).2)])]) [] trivial (λ_ _=>trivial) g_ g_ g_;exact K2
structure dI where
 core:List cI
 radius:Int
 kind:Int
 deriving DecidableEq,Inhabited
def dI.enc(x:dI):List AV:=[A4 2 cI.enc dF_ x.core,sI x.radius,sI x.kind]
def dI.zero:List AV:= [.sc (.slice none 0 0),sI 0,sI 0]
attribute [go_sem] dI.enc dI.zero
@[go_sem] theorem E6s(x:dI):dI.mk x.core x.radius x.kind=x:=rfl
def L6(s:Shape)(t:cJ):dI:=let v1:=(G8 s t);(⟨v1,s.eW,s.cS⟩:dI)
theorem D16(s:Shape)(t:cJ)(h0:s.cK.length<=1048576):cA_ 249 [.agg s.enc, .agg t.enc] [] (.agg (L6 s t).enc) []:=by
 refine M3 13 [(4,some (some 3))] hm A6 Tryz.func249 rfl ?_;have:=B9k s t
 have:=A8v
 have:=L6.eq_1 s t;exact E7
def A05(a:cY)(b:cY):Bool:=if((a.fW==b.fW)&&(a.fW != 0))=true then((decide (0<a.fW)))else((((IntKind.i64.wrap (((BitVec.ofInt 64 a.fR &&& BitVec.ofInt 64 b.fX).toNat:Nat):Int)) != 0)&&((IntKind.i64.wrap (((BitVec.ofInt 64 b.fR &&& BitVec.ofInt 64 a.fX).toNat:Nat):Int)) != 0)))
theorem A83(a:cY)(b:cY):cA_ 370 [.agg a.enc, .agg b.enc] [] (sB (A05 a b)) []:=by refine en1 hm A6 Tryz.func370 rfl rfl ?_;have:=A05.eq_1 a b;exact E7
def Y5(j:cF)(i:Int):Bool:=((i != 0)&&((j.cU==i)||(j.cV==i)))
theorem B9d(j:cF)(i:Int):cA_ 282 [.agg j.enc,sI i] [] (sB (Y5 j i)) []:=by refine en1 hm A6 Tryz.func282 rfl rfl ?_;have:=Y5.eq_1 j i;exact E7
def A70(j:cF):cF:=if((j.cP.I0==0)&&((j.cP.I1==0)&&((j.cP.I2==0)&&(j.cP.I3==0))))=true then(j)else((⟨j.ID,j.cS,j.cU,j.cV,j.dP,j.dL,j.eN,j.cW,j.dD,j.dQ,j.dS,j.dF,j.dN,j.dR,j.dB,j.dH,j.cZ,(⟨0,0,0,0⟩:Four)⟩:cF))
theorem B29(j:cF):cA_ 279 [.agg j.enc] [] (.agg (A70 j).enc) []:=by refine M3 11 [(2,some (some 24))] hm A6 Tryz.func279 rfl ?_;have:=A70.eq_1 j;exact K2
def A7e(n:cI)(l:List cN)(p:cI)(disp sep id:Int):List cN:=if sep<=1024 then l++ [⟨A1o p (Q2 n disp),sep,id,0,0⟩]else l
def bO(n:cI):List (Nat×A7):= [(1, .box [sI n.X,sI n.Y, .sc (.slice none 0 0)]),(2, .box n.enc),(3, .box [.ptr 1 0 0 1])]
def bL(n:cI)(l:List cN):List (Nat×A7):= [(1, .box [sI n.X,sI n.Y, .sl 4 0 l.length l.length]),(2, .box n.enc),(3, .box [.ptr 1 0 0 1]),(4, .arr 6 (B0 cN.enc dF_ l))]
attribute [go_sem] bO bL
theorem A7a(n:cI):cA_ 385 [.agg n.enc] [] (.tup [.ptr 1 0 0 1, .fn (.func 488) [] [.ptr 2 0 0 1, .ptr 3 0 0 1]]) (bO n):=by unfold bO;refine A3a hm A6 Tryz.func385 rfl rfl (st_ ?_);refine B8 [.cA, .cA] [(1,128),(2,32),(3,80)] [] ?_;simp only[go_sem,go_sem_proc]
theorem D8x {n p:cI}{disp sep id:Int}{l:List cN}(h:sep<=1024):A7e n l p disp sep id=l++ [⟨A1o p (Q2 n disp),sep,id,0,0⟩]:=by unfold A7e;rw[zc h]
theorem E23 {n p:cI}{disp sep id:Int}{l:List cN}(h: ¬sep<=1024):A7e n l p disp sep id=l:=by unfold A7e;rw[zb h]
theorem E0y(n p:cI)(disp sep id:Int):cA_ 488 [.agg p.enc,sI disp,sI sep,sI id, .ptr 2 0 0 1, .ptr 3 0 0 1] (bO n) (.tup []) (bL n (A7e n [] p disp sep id)):=by
 by_cases hs:sep<=1024
 ·rw[D8x hs];unfold bO bL;refine A3a hm A6 Tryz.func488 rfl rfl (st_ ?_);simp only[hs,go_sem,go_sem_proc];refine A0 (A51 n disp) rfl (st_ ?_);refine A0 (A3j p (Q2 n disp)) rfl (st_ ?_);refine⟨by simp[maxLen],?_⟩;refine B8 [] [(4,464)] [] (st_ ?_);exact B7x (λ_ _=>rfl) rfl rfl
 ·rw[E23 hs];unfold bO bL;refine A3a hm A6 Tryz.func488 rfl rfl (st_ ?_);simp only[hs,zP,go_sem,go_sem_proc];refine B8 [] [] [4] ?_;simp only[go_sem,go_sem_proc]
theorem E8r(n p:cI)(disp sep id:Int)(l:List cN)(hl:l.length<=1000):cA_ 488 [.agg p.enc,sI disp,sI sep,sI id, .ptr 2 0 0 1, .ptr 3 0 0 1] (bL n l) (.tup []) (bL n (A7e n l p disp sep id)):=by
 by_cases hs:sep<=1024
 ·rw[D8x hs];unfold bL;refine A3a hm A6 Tryz.func488 rfl rfl (st_ ?_);simp only[hs,go_sem,go_sem_proc];refine A0 (A51 n disp) rfl (st_ ?_);refine A0 (A3j p (Q2 n disp)) rfl (st_ ?_);refine⟨bE_,?_⟩;refine B8 [] [] [] ?_;simp only[zd,go_sem,go_sem_proc];exact A0q _ rfl rfl
 ·rw[E23 hs];unfold bL;refine A3a hm A6 Tryz.func488 rfl rfl (st_ ?_);simp only[hs,zP,go_sem,go_sem_proc];refine B8 [] [] [] ?_;simp only[go_sem,go_sem_proc]
theorem C0r(n:cI):cA_ 387 [.ptr 1 0 0 1] (bL n []) (.tup [.agg (⟨⟨0,0⟩,[]⟩:cL).enc,sB false]) (bL n []):=by unfold bL;refine C8j 14 [(2,some (some 3)),(3,none)] hm A6 Tryz.func387 rfl (st_ ?_);rw[zc (by decide)];refine B8 [.eP, .cA] [] [] (st_ ?_);exact G5 rfl
theorem C7h(n:cI)(l:List cN)(h:l≠ []):cA_ 387 [.ptr 1 0 0 1] (bL n l) (.tup [.agg (⟨n,l⟩:cL).enc,sB true]) [(1, .box [sI n.X,sI n.Y, .sl 4 0 l.length l.length]),(2, .box n.enc),(3, .box [.ptr 1 0 0 1]),(4, .frz 6 (B0 cN.enc dF_ l))]:=by
 have hn: ¬((l.length:Int)==0)=true:=by simpa using h
 unfold bL;refine C8j 14 [(2,some (some 3)),(3,none)] hm A6 Tryz.func387 rfl (st_ ?_);rw[zb hn];refine B8 [.eP, .cA] [] [] (st_ ?_);exact⟨rfl,rfl,λi hi=>I5 _⟩
def V7(a b:dI):cL×Bool:=
 let cp:=A0t (a.core.getD 0 dF_) (a.core.getD (IntKind.i64.wrap ((a.core.length:Int)-1)).toNat dF_) (b.core.getD 0 dF_) (b.core.getD (IntKind.i64.wrap ((b.core.length:Int)-1)).toNat dF_)
 let dl:=T8 (O5 cp.2 cp.1) ⟨0,65536⟩
 let sep:=sat (sat (sat (sat dl.2-sat a.radius))-sat b.radius)
 let L:=A7e dl.1 [] cp.1 (D2 a.radius (M1 sep)) sep 0
 if L= []then(⟨⟨0,0⟩,[]⟩,false)else(⟨dl.1,L⟩,true)
theorem B9p(a b:dI)(ha:1<=a.core.length)(hb:1<=b.core.length)(ha8:a.core.length<=1048576)(hb8:b.core.length<=1048576):cA_ 250 [.agg a.enc, .agg b.enc] [] (.tup [.agg (V7 a b).1.enc,sB ((V7 a b).2)]) []:=by
 refine S3 74 [(4,some (some 3)),(5,none)] hm A6 Tryz.func250 rfl ?_;have:=B07
 have:=L9
 have:=λx1 x2 x3=>cx_ (B4c x1 ⟨x2,x3⟩)
 have:=R7
 have:=N2
 have:=A9q
 have:=A7a
 (simp(maxSteps:=1000000) only[go_sem])
 repeat' (first |((with_reducible refine And.intro ?_ ?_);focus (exact K1)) |(with_reducible refine gd_ ?_;with_reducible refine A0 (by apply_assumption <;> first |exact K1 |(apply_assumption <;> first |assumption |exact K1)) rfl ?_;(simp(maxSteps:=1000000) only[go_sem])) |((with_reducible refine gD_ ?_);refine J5 ev_ K1 (by apply_assumption <;> first |exact K1 |(apply_assumption <;> first |assumption |exact K1)) ?_;(simp(maxSteps:=1000000) only[go_sem])))
 ·generalize hcp:A0t (a.core.getD 0 dF_) (a.core.getD (IntKind.i64.wrap ((a.core.length:Int)-1)).toNat dF_) (b.core.getD 0 dF_) (b.core.getD (IntKind.i64.wrap ((b.core.length:Int)-1)).toNat dF_)=cp;generalize hdl:T8 (O5 cp.2 cp.1) ⟨0,65536⟩=dl;generalize hsep:sat (sat (sat (sat dl.2-sat a.radius))-sat b.radius)=sep;have hd:V7 a b=if A7e dl.1 [] cp.1 (D2 a.radius (M1 sep)) sep 0= []then(⟨⟨0,0⟩,[]⟩,false)else(⟨dl.1,A7e dl.1 [] cp.1 (D2 a.radius (M1 sep)) sep 0⟩,true):=by
   unfold V7;simp only[hcp,hdl,hsep]
  rw[hd];refine B5 [false,false,false,false,true,true] [(1,944),(2,945),(3,946),(4,1120)] (E0y dl.1 cp.1 (D2 a.radius (M1 sep)) sep 0) (by simp[bO]) (by simp[bL]) g_ g_ ?_;generalize A7e dl.1 [] cp.1 (D2 a.radius (M1 sep)) sep 0=L;refine st_ ?_;by_cases hL:L= []
  ·subst hL;rw[zc rfl];refine B5 [true] [(1,944),(2,945),(3,946),(4,1120)] (C0r dl.1) (by simp[bL]) (by simp[bL]) g_ g_ ?_;simp only[go_sem,go_sem_proc]
  ·rw[zb hL];refine B5 [true] [(1,944),(2,945),(3,946),(4,1120)] (C7h dl.1 L hL) (by simp[bL]) p_ g_ g_ ?_;simp only[go_sem,go_sem_proc]
end Go.Abs
end
