/- A part of the proof: contracts of functions that the statement reaches. -/
import Derived.Test.YtchcbiiammkhgaaGreatMJ
set_option linter.unusedSimpArgs false
set_option linter.unusedVariables false
set_option linter.unnecessarySimpa false
set_option maxRecDepth 100000
set_option maxHeartbeats 2000000
noncomputable section
namespace Go.Abs
open Go.Proofs
open Api
theorem D6k(s:Shape)(p:cH)(h:G5 s=0):1<=(G9 s p).length/\(s.cS=1->(G9 s p).length=1)/\(s.cS=2->(G9 s p).length=2)/\(s.cS≠1->s.cS≠2->3<=(G9 s p).length)/\(G9 s p).length<=8:=by
 have:=E4q s h
 have:=E4r s p;rw[if_pos h]at this;rw[this];by_cases h1:s.cS=1 <;> by_cases h2:s.cS=2 <;> simp_all <;> omega
structure H7 where
 from_:cI
 to:cI
 deriving DecidableEq,Inhabited
def H7.enc(x:H7):List AV:=[sI x.from_.X,sI x.from_.Y,sI x.to.X,sI x.to.Y]
def H7.zero:List AV:= [sI 0,sI 0,sI 0,sI 0]
attribute [go_sem] H7.enc H7.zero
@[go_sem] theorem F7g(x:H7):H7.mk x.from_ x.to=x:=rfl
def U7(c:List cI)(i1:Nat)(s1:(List H7)):(List H7):=(s1++ [(⟨(c.getD i1 dF_),(c.getD ((IntKind.i64.wrap ((i1:Int)+1)).tmod (c.length:Int)).toNat dF_)⟩:H7)])
def A34(k:Int)(c:List cI):(List H7):=if(k==1)=true then([(⟨(c.getD 0 dF_),(c.getD 0 dF_)⟩:H7)])else(if(k==2)=true then([(⟨(c.getD 0 dF_),(c.getD 1 dF_)⟩:H7)])else(if(k==3)=true then(let s1:=itr (U7 c) c.length [];s1)else(([]:List H7))))
theorem D80(k:Int)(c:List cI)(h1:k=1->1<=c.length)(h2:k=2->2<=c.length)(h0:c.length<=1048576):cA_ D6u [sI k,A4 2 cI.enc dF_ c] [] (A4 4 H7.enc dF_ (A34 k c)) []:=by
 refine en1 hm A6 Tryz.func449 rfl rfl ?_;have:=A34.eq_1 k c
 have:=λi_ s_=>U7.eq_1 c i_ s_
 have:=λx_ Q_ σ_=> @lp_ Tryz.prog Tryz.f449.ntmps [] x_ Q_ σ_ hm (λ_=>True) (λi_=>((itr (U7 c) i_ [])).length<=0+1*i_) c.length (λi_=> [(1, .cA,A4 2 cI.enc dF_ c),(5,if i_=0 then .eZ else .cA, .sl 1005 0 (itr (U7 c) i_ []).length (itr (U7 c) i_ []).length),(35, .cA,A4 2 cI.enc dF_ c),(36, .cA,sI (c.length:Int)),(37, .cA,sI (i_:Int))]) (λi_=> [(1005, .arr 4 (A9 H7.enc dF_ (itr (U7 c) i_ [])))]) [1005] trivial (λi_ hI_=>A87 (λs:(List H7)=>(s).length) 1 (λi s=>by(unfold U7;(repeat' split) <;> simp <;> omega)) i_ _) (by simp[go_sem]) (by simp[go_sem,D3]) (by simp[go_sem]);exact K1
theorem E4o(k:Int)(c:List cI):(A34 k c).length<=c.length+1:=by
 unfold A34;simp only
 (repeat' split) <;> first |(simp;done) |skip
 have:=A87 (λs:List H7=>s.length) 1 (f:=U7 c) (λi s=>by unfold U7;simp) c.length [];simp only[List.length_nil]at this;omega
def A2p(a:List H7)(b:List H7)(i1:Nat)(i2:Nat)(s2:Int):Int:=let v1:=(A4r (a.getD i1 dF_).from_ (a.getD i1 dF_).to (b.getD i2 dF_).from_ (b.getD i2 dF_).to);(if v1<s2 then v1 else s2)
def A2o(a:List H7)(b:List H7)(i1:Nat)(s1:Int):Int:=let s2:=itr (A2p a b i1) b.length s1;s2
def A6t(a:List H7)(b:List H7):Int:=let s1:=itr (A2o a b) a.length 536870911;s1
theorem D21(a:List H7)(b:List H7)(h0:a.length<=1048576)(h1:b.length<=1048576):cA_ D0p [A4 4 H7.enc dF_ a,A4 4 H7.enc dF_ b] [] (sI (A6t a b)) []:=by
 refine en1 hm A6 Tryz.func448 rfl rfl (st_ ?_);refine B1 hm (ι:= {i:Nat // i<=a.length}) (λi=> [(1, .cA,A4 4 H7.enc dF_ b),(5, .cA,sI (itr (A2o a b) i.1 536870911)),(10, .cA,A4 4 H7.enc dF_ a),(11, .cA,sI (a.length:Int)),(12, .cA,sI (i.1:Int))]) (λi=> []) (λi=>a.length-i.1) ⟨0,by omega⟩ ?_ ?_
 ·refine B0 [] [] ?_;simp only[go_sem,go_sem_proc,J3]
 ·rintro⟨i1,hi1⟩;dsimp only;generalize hs1:itr (A2o a b) i1 536870911=s1;refine st_ ?_;by_cases h1:(i1:Int)<(a.length:Int)
  ·rw[if_pos h1];have hlt1:i1<a.length:=by omega
   (repeat(with_reducible refine And.intro ?_ ?_;exact bO_))
   refine B1 hm (ι:= {i:Nat // i<=b.length}) (λi=> [(1, .cA,A4 4 H7.enc dF_ b),(5, .cA,sI (itr (A2p a b i1) i.1 s1)),(7, .cA, .ptr 128 0 0 1),(10, .cA,A4 4 H7.enc dF_ a),(11, .cA,sI (a.length:Int)),(12, .cA,sI (i1:Int)),(16, .cA,A4 4 H7.enc dF_ b),(17, .cA,sI (b.length:Int)),(18, .cA,sI (i.1:Int))]) (λi=> [(128, .box [sI ((a.getD i1 dF_).from_.X),sI ((a.getD i1 dF_).from_.Y),sI ((a.getD i1 dF_).to.X),sI ((a.getD i1 dF_).to.Y)])]) (λi=>b.length-i.1) ⟨0,by omega⟩ ?_ ?_
   ·refine B0 [] [] ?_;simp only[go_sem,go_sem_proc,J3]
   ·rintro⟨i2,hi2⟩;dsimp only;generalize hs2:itr (A2p a b i1) i2 s1=s2;refine st_ ?_;by_cases h2:(i2:Int)<(b.length:Int)
    ·rw[if_pos h2];have hlt2:i2<b.length:=by omega
     (repeat(with_reducible refine And.intro ?_ ?_;exact bO_))
     refine A0 (B7r (a.getD i1 dF_).from_ (a.getD i1 dF_).to (b.getD i2 dF_).from_ (b.getD i2 dF_).to) rfl ?_;generalize hv1:(A4r (a.getD i1 dF_).from_ (a.getD i1 dF_).to (b.getD i2 dF_).from_ (b.getD i2 dF_).to)=v1;refine st_ ?_;have hn:itr (A2p a b i1) (i2+1) s1=(if v1<s2 then v1 else s2):=by rw[H6,hs2];(simp only[A2p,hv1,eq_self];done)
     refine A8 ⟨i2+1,by omega⟩ (by show b.length-(i2+1)<b.length-i2;omega) (B0 [] [] ?_);simp only[go_sem,go_sem_proc,hn];exact eO_
    ·rw[if_neg h2];have hge:i2=b.length:=by omega
     subst hge;have hn:itr (A2o a b) (i1+1) 536870911=s2:=by rw[H6,hs1];(simp only[A2o,hs2,eq_self];done)
     refine A8 ⟨i1+1,by omega⟩ (by show a.length-(i1+1)<a.length-i1;omega) (B0 [] [] ?_);simp only[go_sem,go_sem_proc,hn];exact eO_
  ·rw[if_neg h1];have hge:i1=a.length:=by omega
   subst hge;have hd:A6t a b=s1:=by(simp only[A6t,hs1,eq_self];done)
   try rw[hd]
def A1q(s:Shape):Bool:=let v1:=(G5 s);(v1==0)
theorem C07(s:Shape)(h0:s.cJ.length<=1048576):cA_ D6v [.agg s.enc] [] (sB (A1q s)) []:=by
 refine en1 hm A6 Tryz.func336 rfl rfl ?_;have:=A1x
 have:=A1q.eq_1 s;exact E7
def K9(s:Shape)(t0:cH)(t1:cH):Int:=let v1:=(G5 s);if(v1 != 0)=true then(0)else(let v2:=(A0u t0.eR t1.eR);let v3:=(A0z s);let v4:=(B7 (if v2<(IntKind.i64.wrap (0-v2))then(IntKind.i64.wrap (0-v2))else v2) v3);let v5:=(O6 t1.dY t0.dY);let v6:=(B0g v5);let v7:=(D1 v6 v4);let v8:=(D1 v7 4);v8)
theorem D5y(s:Shape)(t0:cH)(t1:cH)(h0:s.cJ.length<=1048576):cA_ D5d [.agg s.enc, .agg t0.enc, .agg t1.enc] [] (sI (K9 s t0 t1)) []:=by
 refine en1 hm A6 Tryz.func554 rfl rfl ?_;have:=A1x
 have:=C02
 have:=C4a
 have:=M2
 have:=L7
 have:=V8
 have:=N2
 have:=K9.eq_1 s t0 t1;exact K1
def M0(x:Int):Int:=let v1:=(A37 x 2);v1
theorem A9s(x:Int):cA_ D9q [sI x] [] (sI (M0 x)) []:=by
 refine en1 hm A6 Tryz.func386 rfl rfl ?_;have:=Q5
 have:=M0.eq_1 x;exact E7
def T7(v:cI)(f:cI):cI×Int:=let v1:=(B0g v);if(v1==0)=true then((f,0))else(let v2:=(A35 v);(v2,v1))
theorem B45(v:cI)(f:cI):cA_ C59 [.agg v.enc, .agg f.enc] [] (.tup [.agg (T7 v f).1.enc,sI ((T7 v f).2)]) []:=by
 refine S1 15 [(4,some (some 2)),(5,none)] hm A6 Tryz.func384 rfl ?_;have:=V8
 have:=A5w
 have:=T7.eq_1 v f;exact K1
def A10(c:List cI)(p:cI)(i1:Nat)(s1:Int×Int):Int×Int:=let v2:=(B4 (c.getD (i1+1) dF_) (c.getD ((IntKind.i64.wrap (((i1+1:Nat):Int)+1)).tmod (c.length:Int)).toNat dF_) p);let v3:=(B4k v2.1 p);let v4:=(B4k (⟨s1.1,s1.2⟩:cI) p);if v3<v4 then((v2.1.X,v2.1.Y))else((s1.1,s1.2))
def Y4(c:List cI)(p:cI):cI:=let v1:=(B4 (c.getD 0 dF_) (c.getD 1 dF_) p);let s1:=itr (A10 c p) (c.length-1) (v1.1.X,v1.1.Y);(⟨s1.1,s1.2⟩:cI)
theorem B9q(c:List cI)(p:cI)(h2:2<=c.length)(h0:c.length<=1048576):cA_ B86 [A4 2 cI.enc dF_ c, .agg p.enc] [] (.agg (Y4 c p).enc) []:=by
 refine M3 53 [(4,some (some 2))] hm A6 Tryz.func390 rfl ?_;have:=λx1 x2 x3=>cx_ (Y2 ⟨x1,x2⟩ x3)
 have:=B2i
 have:=Y2
 have:=Y4.eq_1 c p
 have:=λi_ s_=>A10.eq_1 c p i_ s_
 have:=λx_ Q_ σ_=> @lp_ Tryz.prog 53 [] x_ Q_ σ_ hm (λ_=>True) (λ_=>True) (c.length-1) (λi_=> [(0, .cA,A4 2 cI.enc dF_ c),(3, .cA, .ptr 64 0 0 1),(4, .cA, .ptr 80 0 0 1),(5, .cA, .ptr 96 0 0 1),(7, .cA,sI ((i_+1:Nat):Int))]) (λi_=> [(64, .box [sI p.X,sI p.Y]),(80, .box [sI 0,sI 0]),(96, .box [sI ((itr (A10 c p) i_ ((B4 (c.getD 0 dF_) (c.getD 1 dF_) p).1.X,(B4 (c.getD 0 dF_) (c.getD 1 dF_) p).1.Y)).1),sI ((itr (A10 c p) i_ ((B4 (c.getD 0 dF_) (c.getD 1 dF_) p).1.X,(B4 (c.getD 0 dF_) (c.getD 1 dF_) p).1.Y)).2)])]) [] trivial (λ_ _=>trivial) (by simp[go_sem]) (by simp[go_sem,D3]) (by simp[go_sem]);exact K1
structure dG where
 core:List cI
 radius:Int
 kind:Int
 deriving DecidableEq,Inhabited
def dG.enc(x:dG):List AV:=[A4 2 cI.enc dF_ x.core,sI x.radius,sI x.kind]
def dG.zero:List AV:= [.sc (.slice none 0 0),sI 0,sI 0]
attribute [go_sem] dG.enc dG.zero
@[go_sem] theorem F40(x:dG):dG.mk x.core x.radius x.kind=x:=rfl
def L2(s:Shape)(t:cH):dG:=let v1:=(G9 s t);(⟨v1,s.eV,s.cS⟩:dG)
theorem D83(s:Shape)(t:cH)(h0:s.cJ.length<=1048576):cA_ D64 [.agg s.enc, .agg t.enc] [] (.agg (L2 s t).enc) []:=by
 refine M3 13 [(4,some (some 3))] hm A6 Tryz.func249 rfl ?_;have:=C1e s t
 have:=A8s
 have:=L2.eq_1 s t;exact E7
def A0v(a:dB)(b:dB):Bool:=if((a.fV==b.fV)&&(a.fV != 0))=true then((decide (0<a.fV)))else((((IntKind.i64.wrap (((BitVec.ofInt 64 a.fQ &&& BitVec.ofInt 64 b.fY).toNat:Nat):Int)) != 0)&&((IntKind.i64.wrap (((BitVec.ofInt 64 b.fQ &&& BitVec.ofInt 64 a.fY).toNat:Nat):Int)) != 0)))
theorem A82(a:dB)(b:dB):cA_ B77 [.agg a.enc, .agg b.enc] [] (sB (A0v a b)) []:=by refine en1 hm A6 Tryz.func370 rfl rfl ?_;have:=A0v.eq_1 a b;exact E7
def Y0(j:cG)(i:Int):Bool:=((i != 0)&&((j.cU==i)||(j.cV==i)))
theorem C08(j:cG)(i:Int):cA_ D62 [.agg j.enc,sI i] [] (sB (Y0 j i)) []:=by refine en1 hm A6 Tryz.func282 rfl rfl ?_;have:=Y0.eq_1 j i;exact E7
def A7x(j:cG):cG:=if((j.cQ.I0==0)&&((j.cQ.I1==0)&&((j.cQ.I2==0)&&(j.cQ.I3==0))))=true then(j)else((⟨j.ID,j.cS,j.cU,j.cV,j.dW,j.dR,j.eS,j.cX,j.dE,j.dN,j.dS,j.dH,j.dP,j.dU,j.dD,j.dI,j.dC,(⟨0,0,0,0⟩:Four)⟩:cG))
theorem B3u(j:cG):cA_ C4t [.agg j.enc] [] (.agg (A7x j).enc) []:=by refine M3 11 [(2,some (some 24))] hm A6 Tryz.func279 rfl ?_;have:=A7x.eq_1 j;exact K1
def A7c(n:cI)(l:List cO)(p:cI)(disp sep id:Int):List cO:=if sep<=1024 then l++ [⟨A1e p (P9 n disp),sep,id,0,0⟩]else l
def bO(n:cI):List (Nat×A7):= [(1, .box [sI n.X,sI n.Y, .sc (.slice none 0 0)]),(2, .box n.enc),(3, .box [.ptr 1 0 0 1])]
def bL(n:cI)(l:List cO):List (Nat×A7):= [(1, .box [sI n.X,sI n.Y, .sl 4 0 l.length l.length]),(2, .box n.enc),(3, .box [.ptr 1 0 0 1]),(4, .arr 6 (A9 cO.enc dF_ l))]
attribute [go_sem] bO bL
theorem A68(n:cI):cA_ D0u [.agg n.enc] [] (.tup [.ptr 1 0 0 1, .fn (.func A2k) [] [.ptr 2 0 0 1, .ptr 3 0 0 1]]) (bO n):=by unfold bO;refine A26 hm A6 Tryz.func385 rfl rfl (st_ ?_);refine B6 [.cA, .cA] [(1,128),(2,32),(3,80)] [] ?_;simp only[go_sem,go_sem_proc]
theorem E64 {n p:cI}{disp sep id:Int}{l:List cO}(h:sep<=1024):A7c n l p disp sep id=l++ [⟨A1e p (P9 n disp),sep,id,0,0⟩]:=by unfold A7c;rw[if_pos h]
theorem F1a {n p:cI}{disp sep id:Int}{l:List cO}(h: ¬sep<=1024):A7c n l p disp sep id=l:=by unfold A7c;rw[if_neg h]
theorem E80(n p:cI)(disp sep id:Int):cA_ A2k [.agg p.enc,sI disp,sI sep,sI id, .ptr 2 0 0 1, .ptr 3 0 0 1] (bO n) (.tup []) (bL n (A7c n [] p disp sep id)):=by
 by_cases hs:sep<=1024
 ·rw[E64 hs];unfold bO bL;refine A26 hm A6 Tryz.func488 rfl rfl (st_ ?_);simp only[hs,go_sem,go_sem_proc];refine A0 (A5x n disp) rfl (st_ ?_);refine A0 (A3h p (P9 n disp)) rfl (st_ ?_);refine⟨by simp[maxLen],?_⟩;refine B6 [] [(4,464)] [] (st_ ?_);exact B9m (λ_ _=>rfl) rfl rfl
 ·rw[F1a hs];unfold bO bL;refine A26 hm A6 Tryz.func488 rfl rfl (st_ ?_);simp only[hs,decide_false,go_sem,go_sem_proc];refine B6 [] [] [4] ?_;simp only[go_sem,go_sem_proc]
theorem F6y(n p:cI)(disp sep id:Int)(l:List cO)(hl:l.length<=1000):cA_ A2k [.agg p.enc,sI disp,sI sep,sI id, .ptr 2 0 0 1, .ptr 3 0 0 1] (bL n l) (.tup []) (bL n (A7c n l p disp sep id)):=by
 by_cases hs:sep<=1024
 ·rw[E64 hs];unfold bL;refine A26 hm A6 Tryz.func488 rfl rfl (st_ ?_);simp only[hs,go_sem,go_sem_proc];refine A0 (A5x n disp) rfl (st_ ?_);refine A0 (A3h p (P9 n disp)) rfl (st_ ?_);refine⟨⟨by omega,by simp only[maxLen];omega⟩,?_⟩;refine B6 [] [] [] ?_;simp only[List.length_append,List.length_cons,List.length_nil,go_sem,go_sem_proc];exact A1g _ rfl rfl
 ·rw[F1a hs];unfold bL;refine A26 hm A6 Tryz.func488 rfl rfl (st_ ?_);simp only[hs,decide_false,go_sem,go_sem_proc];refine B6 [] [] [] ?_;simp only[go_sem,go_sem_proc]
theorem C2y(n:cI):cA_ B1k [.ptr 1 0 0 1] (bL n []) (.tup [.agg (⟨⟨0,0⟩,[]⟩:cL).enc,sB false]) (bL n []):=by unfold bL;refine D31 14 [(2,some (some 3)),(3,none)] hm A6 Tryz.func387 rfl (st_ ?_);rw[if_pos (by decide)];refine B6 [.eQ, .cA] [] [] (st_ ?_);exact G8 rfl
theorem D22(n:cI)(l:List cO)(h:l≠ []):cA_ B1k [.ptr 1 0 0 1] (bL n l) (.tup [.agg (⟨n,l⟩:cL).enc,sB true]) [(1, .box [sI n.X,sI n.Y, .sl 4 0 l.length l.length]),(2, .box n.enc),(3, .box [.ptr 1 0 0 1]),(4, .frz 6 (A9 cO.enc dF_ l))]:=by
 have hn: ¬((l.length:Int)==0)=true:=by simpa using h
 unfold bL;refine D31 14 [(2,some (some 3)),(3,none)] hm A6 Tryz.func387 rfl (st_ ?_);rw[if_neg hn];refine B6 [.eQ, .cA] [] [] (st_ ?_);exact⟨rfl,rfl,λi hi=>H9 _⟩
def V2(a b:dG):cL×Bool:=
 let cp:=A0j (a.core.getD 0 dF_) (a.core.getD (IntKind.i64.wrap ((a.core.length:Int)-1)).toNat dF_) (b.core.getD 0 dF_) (b.core.getD (IntKind.i64.wrap ((b.core.length:Int)-1)).toNat dF_)
 let dl:=T7 (O6 cp.2 cp.1) ⟨0,65536⟩
 let sep:=sat (sat (sat (sat dl.2-sat a.radius))-sat b.radius)
 let L:=A7c dl.1 [] cp.1 (D1 a.radius (M0 sep)) sep 0
 if L= []then(⟨⟨0,0⟩,[]⟩,false)else(⟨dl.1,L⟩,true)
theorem C1v(a b:dG)(ha:1<=a.core.length)(hb:1<=b.core.length)(ha8:a.core.length<=1048576)(hb8:b.core.length<=1048576):cA_ C1k [.agg a.enc, .agg b.enc] [] (.tup [.agg (V2 a b).1.enc,sB ((V2 a b).2)]) []:=by
 refine S1 74 [(4,some (some 3)),(5,none)] hm A6 Tryz.func250 rfl ?_;have:=B1i
 have:=L7
 have:=λx1 x2 x3=>cx_ (B45 x1 ⟨x2,x3⟩)
 have:=R3
 have:=N2
 have:=A9s
 have:=A68
 (simp(maxSteps:=1000000) only[go_sem])
 repeat' (first |((with_reducible refine And.intro ?_ ?_);focus (exact K0)) |(with_reducible refine gd_ ?_;with_reducible refine A0 (by apply_assumption <;> first |exact K0 |(apply_assumption <;> first |assumption |exact K0)) rfl ?_;(simp(maxSteps:=1000000) only[go_sem])) |((with_reducible refine gD_ ?_);refine J2 ev_ K0 (by apply_assumption <;> first |exact K0 |(apply_assumption <;> first |assumption |exact K0)) ?_;(simp(maxSteps:=1000000) only[go_sem])))
 ·generalize hcp:A0j (a.core.getD 0 dF_) (a.core.getD (IntKind.i64.wrap ((a.core.length:Int)-1)).toNat dF_) (b.core.getD 0 dF_) (b.core.getD (IntKind.i64.wrap ((b.core.length:Int)-1)).toNat dF_)=cp;generalize hdl:T7 (O6 cp.2 cp.1) ⟨0,65536⟩=dl;generalize hsep:sat (sat (sat (sat dl.2-sat a.radius))-sat b.radius)=sep;have hd:V2 a b=if A7c dl.1 [] cp.1 (D1 a.radius (M0 sep)) sep 0= []then(⟨⟨0,0⟩,[]⟩,false)else(⟨dl.1,A7c dl.1 [] cp.1 (D1 a.radius (M0 sep)) sep 0⟩,true):=by
   unfold V2;simp only[hcp,hdl,hsep]
  rw[hd];refine B5 [false,false,false,false,true,true] [(1,944),(2,945),(3,946),(4,1120)] (E80 dl.1 cp.1 (D1 a.radius (M0 sep)) sep 0) (by simp[bO]) (by simp[bL]) (by simp[bL,go_sem,D3]) (by simp[bO,bL,go_sem]) ?_;generalize A7c dl.1 [] cp.1 (D1 a.radius (M0 sep)) sep 0=L;refine st_ ?_;by_cases hL:L= []
  ·subst hL;rw[if_pos rfl];refine B5 [true] [(1,944),(2,945),(3,946),(4,1120)] (C2y dl.1) (by simp[bL]) (by simp[bL]) (by simp[bL,go_sem,D3]) (by simp[bL,go_sem]) ?_;simp only[List.length_nil,go_sem,go_sem_proc]
  ·rw[if_neg hL];refine B5 [true] [(1,944),(2,945),(3,946),(4,1120)] (D22 dl.1 L hL) (by simp[bL]) (by simp) (by simp[go_sem,D3]) (by simp[bL,go_sem]) ?_;simp only[go_sem,go_sem_proc]
def J7(a b:dG):cL×Bool:=
 let c:=b.core.getD 0 dF_
 let ig:=D9 a.core b.core
 let n0:=Q4 a.core ig.1
 let dl:=if 0<ig.2 then T7 (O6 c (Y4 a.core c)) n0 else(n0,ig.2)
 let L:=A7c dl.1 [] c (IntKind.i64.wrap (0-M0 (D1 dl.2 b.radius))) (sat (sat dl.2-sat b.radius)) 0
 if L= []then(⟨⟨0,0⟩,[]⟩,false)else(⟨dl.1,L⟩,true)
theorem G0l(a b:dG)(dl:cI×Int)(h:(if 0<(D9 a.core b.core).2 then T7 (O6 (b.core.getD 0 dF_) (Y4 a.core (b.core.getD 0 dF_))) (Q4 a.core (D9 a.core b.core).1)else(Q4 a.core (D9 a.core b.core).1,(D9 a.core b.core).2))=dl):
  J7 a b=if A7c dl.1 [] (b.core.getD 0 dF_) (IntKind.i64.wrap (0-M0 (D1 dl.2 b.radius))) (sat (sat dl.2-sat b.radius)) 0= []then(⟨⟨0,0⟩,[]⟩,false)else(⟨dl.1,A7c dl.1 [] (b.core.getD 0 dF_) (IntKind.i64.wrap (0-M0 (D1 dl.2 b.radius))) (sat (sat dl.2-sat b.radius)) 0⟩,true):=by
 subst h;rfl
theorem B32(a b:dG)(ha:2<=a.core.length)(hb:1<=b.core.length)(ha8:a.core.length<=1048576)(hb8:b.core.length<=1048576):cA_ B30 [.agg a.enc, .agg b.enc] [] (.tup [.agg (J7 a b).1.enc,sB ((J7 a b).2)]) []:=by
 refine S1 63 [(4,some (some 3)),(5,none)] hm A6 Tryz.func251 rfl ?_;have:=B51
 have:=A5u
 have:=L7
 have:=B9q
 have:=B45
 have:=R3
 have:=N2
 have:=A9s
 have:=A68
 (simp(maxSteps:=1000000) only[go_sem,C9,E8,C3,D7];try(simp(disch:=(first |omega |(simp only[List.length_set];omega) |(apply_assumption;done))) only[A29,A1u,A1f,X5,N5,A28,Q3,A27,U2,A9v];try simp(maxSteps:=1000000) only[go_sem,C9,E8,C3,D7]))
 repeat' (first
  |((with_reducible refine And.intro ?_ ?_);focus (first |exact K0 |exact ie_ |exact G5a |(first |with_reducible rfl |trivial |omega |(rw[IntKind.wrap_i64];omega) |exact D0 _ |exact G8 rfl |exact A32 rfl |exact A1g _ rfl rfl |exact A2y _ (by first |omega |(simp only[List.length_set];omega)) rfl rfl |exact B9m (λ_ _=>rfl) rfl rfl |exact E0y |exact C0o (λ_=>rfl) |(simp only[List.length_tail];omega) |(simp only[List.length_tail,List.length_drop]at*;rw[IntKind.wrap_i64];omega) |exact A8j)))
  |((with_reducible refine it_ (λhc_=> ?_) (λhc_=> ?_)) <;> (have hd_:=hc_;try simp only[beq_iff_eq,bne_iff_ne,ne_eq,Bool.or_eq_true,Bool.and_eq_true,decide_eq_true_eq,not_or,Bool.not_eq_true',decide_eq_false_iff_not,Bool.not_eq_true,bne_eq_false_iff_eq,Decidable.not_not]at hd_))
  |(with_reducible refine gd_ ?_;with_reducible refine A0 (by apply_assumption <;> first |exact K0 |(apply_assumption <;> first |assumption |exact K0)) rfl ?_;(simp(maxSteps:=1000000) only[go_sem,C9,E8,C3,D7];try(simp(disch:=(first |omega |(simp only[List.length_set];omega) |(apply_assumption;done))) only[A29,A1u,A1f,X5,N5,A28,Q3,A27,U2,A9v];try simp(maxSteps:=1000000) only[go_sem,C9,E8,C3,D7])))
  |((with_reducible refine gD_ ?_);refine B92 ev_ K0 (by apply_assumption <;> first |exact K0 |(apply_assumption <;> first |assumption |exact K0)) (by rfl) ?_;(simp(maxSteps:=1000000) only[go_sem,C9,E8,C3,D7];try(simp(disch:=(first |omega |(simp only[List.length_set];omega) |(apply_assumption;done))) only[A29,A1u,A1f,X5,N5,A28,Q3,A27,U2,A9v];try simp(maxSteps:=1000000) only[go_sem,C9,E8,C3,D7])))
  |((with_reducible refine gD_ ?_);refine D50 ev_ K0 (by apply_assumption <;> first |exact K0 |(apply_assumption <;> first |assumption |exact K0)) (by rfl) nd_ ?_;(simp(maxSteps:=1000000) only[go_sem,C9,E8,C3,D7];try(simp(disch:=(first |omega |(simp only[List.length_set];omega) |(apply_assumption;done))) only[A29,A1u,A1f,X5,N5,A28,Q3,A27,U2,A9v];try simp(maxSteps:=1000000) only[go_sem,C9,E8,C3,D7])))
  |((with_reducible refine gD_ ?_);refine J2 ev_ K0 (by apply_assumption <;> first |exact K0 |(apply_assumption <;> first |assumption |exact K0)) ?_;(simp(maxSteps:=1000000) only[go_sem,C9,E8,C3,D7];try(simp(disch:=(first |omega |(simp only[List.length_set];omega) |(apply_assumption;done))) only[A29,A1u,A1f,X5,N5,A28,Q3,A27,U2,A9v];try simp(maxSteps:=1000000) only[go_sem,C9,E8,C3,D7])))
  |(with_reducible refine gw_ ?_;apply_assumption)
  |((with_reducible refine hb_ ?_);intros;simp only[go_sem,C9,E8,C3,D7,J3,A2j])
  |((with_reducible refine gk_ ?_);refine E1s ev_ ev_ ev_ ns_ ns_ ns_ ?_;(simp(maxSteps:=1000000) only[go_sem,C9,E8,C3,D7];try(simp(disch:=(first |omega |(simp only[List.length_set];omega) |(apply_assumption;done))) only[A29,A1u,A1f,X5,N5,A28,Q3,A27,U2,A9v];try simp(maxSteps:=1000000) only[go_sem,C9,E8,C3,D7])))
  |((with_reducible refine gr_ ?_);(try simp only[*,if_true,if_false,eq_self,Bool.false_eq_true,Bool.true_eq_false,not_true_eq_false,not_false_eq_true,reduceCtorEq,J3,R8,A1k,A1l,Bool.and_true,Bool.true_and,Bool.and_false,Bool.false_and,Bool.or_true,Bool.true_or,Bool.or_false,Bool.false_or,Bool.not_true,Bool.not_false,decide_true,decide_false,beq_iff_eq,bne_iff_ne,ne_eq,Bool.or_eq_true,Bool.and_eq_true,decide_eq_true_eq,not_or,Bool.not_eq_true',decide_eq_false_iff_not,Bool.not_eq_true,bne_eq_false_iff_eq,Decidable.not_not,or_self,or_false,false_or,or_true,true_or,and_self,and_false,false_and]);refine D2o ev_ ev_ ev_ ev_ rfl rfl ns_ ns_ ns_ ?_;(simp(maxSteps:=1000000) only[go_sem,C9,E8,C3,D7];try(simp(disch:=(first |omega |(simp only[List.length_set];omega) |(apply_assumption;done))) only[A29,A1u,A1f,X5,N5,A28,Q3,A27,U2,A9v];try simp(maxSteps:=1000000) only[go_sem,C9,E8,C3,D7])))
  |fail)
 ·rw[G0l a b _ (if_pos (by assumption))];generalize T7 (O6 (b.core.getD 0 dF_) (Y4 a.core (b.core.getD 0 dF_))) (Q4 a.core (D9 a.core b.core).1)=dl;refine B5 [false,false,false,false,true,true] [(1,704),(2,705),(3,706),(4,944)] (E80 dl.1 (b.core.getD 0 dF_) (IntKind.i64.wrap (0-M0 (D1 dl.2 b.radius))) (sat (sat dl.2-sat b.radius)) 0) (by simp[bO]) (by simp[bL]) (by simp[bL,go_sem,D3]) (by simp[bO,bL,go_sem]) ?_;generalize A7c dl.1 [] (b.core.getD 0 dF_) (IntKind.i64.wrap (0-M0 (D1 dl.2 b.radius))) (sat (sat dl.2-sat b.radius)) 0=L;refine st_ ?_;by_cases hL:L= []
  ·subst hL;rw[if_pos rfl];refine B5 [true] [(1,704),(2,705),(3,706),(4,944)] (C2y dl.1) (by simp[bL]) (by simp[bL]) (by simp[bL,go_sem,D3]) (by simp[bL,go_sem]) ?_;simp only[List.length_nil,go_sem,go_sem_proc]
  ·rw[if_neg hL];refine B5 [true] [(1,704),(2,705),(3,706),(4,944)] (D22 dl.1 L hL) (by simp[bL]) (by simp) (by simp[go_sem,D3]) (by simp[bL,go_sem]) ?_;simp only[go_sem,go_sem_proc]
 ·have he:=G0l a b (Q4 a.core (D9 a.core b.core).1,(D9 a.core b.core).2) (if_neg (by assumption))
  dsimp only at he;rw[he];generalize Q4 a.core (D9 a.core b.core).1=n0;generalize(D9 a.core b.core).2=g;refine B5 [false,false,false,false,true,true] [(1,704),(2,705),(3,706),(4,944)] (E80 n0 (b.core.getD 0 dF_) (IntKind.i64.wrap (0-M0 (D1 g b.radius))) (sat (sat g-sat b.radius)) 0) (by simp[bO]) (by simp[bL]) (by simp[bL,go_sem,D3]) (by simp[bO,bL,go_sem]) ?_;generalize A7c n0 [] (b.core.getD 0 dF_) (IntKind.i64.wrap (0-M0 (D1 g b.radius))) (sat (sat g-sat b.radius)) 0=L;refine st_ ?_;by_cases hL:L= []
  ·subst hL;rw[if_pos rfl];refine B5 [true] [(1,704),(2,705),(3,706),(4,944)] (C2y n0) (by simp[bL]) (by simp[bL]) (by simp[bL,go_sem,D3]) (by simp[bL,go_sem]) ?_;simp only[List.length_nil,go_sem,go_sem_proc]
  ·rw[if_neg hL];refine B5 [true] [(1,704),(2,705),(3,706),(4,944)] (D22 n0 L hL) (by simp[bL]) (by simp) (by simp[go_sem,D3]) (by simp[bL,go_sem]) ?_;simp only[go_sem,go_sem_proc]
theorem F61(n:cI)(l:List cO)(h:l≠ []):cA_ B1k [.ptr 1 0 0 1] (bL n l) (.tup [.agg [sI n.X,sI n.Y, .sl 4 0 l.length l.length],sB true]) (bL n l):=by
 have hn: ¬((l.length:Int)==0)=true:=by simpa using h
 unfold bL;refine D31 14 [(2,some (some 3)),(3,none)] hm A6 Tryz.func387 rfl (st_ ?_);rw[if_neg hn];refine B6 [.cA, .cA] [] [] ?_;simp only[go_sem,go_sem_proc]
abbrev clN(a:dG)(i:Int):cI:=Q4 a.core i
abbrev clJ(a b:dG)(i:Int):Int:=B0a b.core (clN a i)
abbrev clV(a b:dG)(i:Int):List dV:=A3p a.core i b.core (clJ a b i)
abbrev clD(a:dG)(i:Int)(v:dV):Int:=sat (sat (P8 (clN a i) (O6 v.eY (a.core.getD i.toNat dF_)))-sat a.radius)
def clS(a b:dG)(i:Int)(k:Nat)(l:List cO):List cO:=
 let v:=(clV a b i).getD k dF_
 A7c (clN a i) l v.eY (IntKind.i64.wrap (0-M0 (D1 (clD a i v) b.radius))) (sat (sat (clD a i v)-sat b.radius)) (IntKind.i64.wrap (IntKind.i64.wrap (IntKind.i64.wrap (64*i)+IntKind.i64.wrap (8*clJ a b i))+v.ID))
def clL(a b:dG)(i:Int):List cO:=itr (clS a b i) (clV a b i).length []
theorem F8v(l:List dV)(o n:cI):(A1o l o n).length<=2:=by
 unfold A1o;simp only
 (repeat' split) <;> simp
theorem F38(a:List cI)(i:Int)(b:List cI)(k:Int):(A3p a i b k).length<=2:=by
 unfold A3p;simp only
 (repeat' split) <;> first |(simp;done) |exact F8v _ _ _
theorem D4d(a b:dG)(i:Int):(clV a b i).length<=2:=F38 _ _ _ _
theorem D4c(a b:dG)(i:Int)(k:Nat):(itr (clS a b i) k []).length<=k:=by have:=A87 (λl:List cO=>l.length) 1 (f:=clS a b i) (λj l=>by unfold clS A7c;simp only;split <;> simp) k [];simp only[List.length_nil]at this;omega
theorem C2v(a b:dG)(i:Int)(hi:0<=i/\i<a.core.length)(ha8:a.core.length<=1048576)(hb8:b.core.length<=1048576)(hL:0<(clL a b i).length):cA_ B1d [.agg a.enc, .agg b.enc,sI i] [] (.tup [.agg [sI ((clN a i).X),sI ((clN a i).Y), .sl 1 0 (clL a b i).length (clL a b i).length],sB true]) [(1, .arr 6 (A9 cO.enc dF_ (clL a b i)))]:=by
 refine D31 80 [(6,some (some 3)),(7,none)] hm A6 Tryz.func392 rfl ?_;have:=A5u
 have:=B7q
 have:=A68
 have:=C8z
 (simp(maxSteps:=1000000) only[go_sem])
 repeat' (first |(with_reducible refine gd_ ?_;with_reducible refine A0 (by apply_assumption <;> exact K0) rfl ?_;(simp(maxSteps:=1000000) only[go_sem])) |((with_reducible refine gD_ ?_);refine J2 ev_ K0 (by apply_assumption <;> first |exact K0 |(apply_assumption <;> first |assumption |exact K0)) ?_;(simp(maxSteps:=1000000) only[go_sem])))
 have hv:=D4d a b i;refine B1 hm (ι:= {k:Nat // k<=(clV a b i).length}) (λk=> [(2, .cA,sI i),(3, .cA, .ptr 64 0 0 1),(4, .cA, .ptr 80 0 0 1),(6, .cA, .ptr 112 0 0 1),(7, .cA,sB false),(8, .cA, .ptr 144 0 0 1),(9, .cA,sI (clJ a b i)),(10, .cA, .ptr 416 0 0 1),(11, .cA, .fn (.func A2k) [] [.ptr 417 0 0 1, .ptr 418 0 0 1]),(34, .cA,A4 3 dV.enc dF_ (clV a b i)),(35, .cA,sI ((clV a b i).length:Int)),(36, .cA,sI (k.1:Int))])
  (λk=> [(64, .box a.enc),(80, .box b.enc),(112, .box [sI 0,sI 0, .sc (.slice none 0 0)]),(144, .box (clN a i).enc),(416, .box [sI ((clN a i).X),sI ((clN a i).Y), .sl 1000 0 (itr (clS a b i) k.1 []).length (itr (clS a b i) k.1 []).length]),(417, .box (clN a i).enc),(418, .box [.ptr 416 0 0 1]),(1000, .arr 6 (A9 cO.enc dF_ (itr (clS a b i) k.1 [])))]) (λk=>(clV a b i).length-k.1) ⟨0,by omega⟩ ?_ ?_
 ·refine B0 [] [1000] ?_;simp only[J3,List.length_nil,go_sem,go_sem_proc]
 ·rintro⟨k,hk⟩;have hl:=D4c a b i k
  have:=L7
  have:=A0r
  have:=R3
  have:=N2
  have:=A9s;dsimp only
  (simp(maxSteps:=1000000) only[go_sem])
  repeat' (first |((with_reducible refine And.intro ?_ ?_);focus (exact K0)) |((with_reducible refine it_ (λhc_=> ?_) (λhc_=> ?_)) <;> (have hd_:=hc_)) |(with_reducible refine gd_ ?_;with_reducible refine A0 (by apply_assumption <;> first |exact K0 |(apply_assumption <;> first |assumption |exact K0)) rfl ?_;(simp(maxSteps:=1000000) only[go_sem])))
  ·have hk1:k<(clV a b i).length:=by omega
   refine B5 [false,false,false,false,true,true] [(1,416),(2,417),(3,418),(4,1000)] (F6y (clN a i) ((clV a b i).getD k dF_).eY (IntKind.i64.wrap (0-M0 (D1 (clD a i ((clV a b i).getD k dF_)) b.radius))) (sat (sat (clD a i ((clV a b i).getD k dF_))-sat b.radius)) (IntKind.i64.wrap (IntKind.i64.wrap (IntKind.i64.wrap (64*i)+IntKind.i64.wrap (8*clJ a b i))+((clV a b i).getD k dF_).ID)) (itr (clS a b i) k []) (by omega)) (by simp[bL]) (by simp[bL]) (by simp[bL,go_sem,D3]) (by simp[bL,go_sem]) ?_;rw[show A7c (clN a i) (itr (clS a b i) k []) ((clV a b i).getD k dF_).eY (IntKind.i64.wrap (0-M0 (D1 (clD a i ((clV a b i).getD k dF_)) b.radius))) (sat (sat (clD a i ((clV a b i).getD k dF_))-sat b.radius)) (IntKind.i64.wrap (IntKind.i64.wrap (IntKind.i64.wrap (64*i)+IntKind.i64.wrap (8*clJ a b i))+((clV a b i).getD k dF_).ID))=itr (clS a b i) (k+1) []from rfl];refine st_ ?_;refine A8 ⟨k+1,by omega⟩ (by show(clV a b i).length-(k+1)<(clV a b i).length-k;omega) (B0 [] [] ?_);refine st_ ?_;exact(by rw[IntKind.wrap_i64];omega)
  ·obtain rfl:k=(clV a b i).length:=by omega
   have hne:itr (clS a b i) (clV a b i).length []≠ []:=λe=>by unfold clL at hL;rw[e]at hL;simp at hL
   refine B5 [true] [(1,416),(2,417),(3,418),(4,1000)] (F61 (clN a i) (itr (clS a b i) (clV a b i).length []) hne) (by simp[bL]) (by simp[bL]) (by simp[bL,go_sem,D3]) (by simp[bL,go_sem]) (st_ ?_);refine B6 [.cA, .cA] [(1,1000)] [] ?_;simp only[clL,go_sem,go_sem_proc]
theorem C2u(a b:dG)(i:Int)(hi:0<=i/\i<a.core.length)(ha8:a.core.length<=1048576)(hb8:b.core.length<=1048576)(hL:(clL a b i).length=0):cA_ B1d [.agg a.enc, .agg b.enc,sI i] [] (.tup [.agg (⟨⟨0,0⟩,[]⟩:cL).enc,sB false]) []:=by
 refine S1 80 [(6,some (some 3)),(7,none)] hm A6 Tryz.func392 rfl ?_;have:=A5u
 have:=B7q
 have:=A68
 have:=C8z
 (simp(maxSteps:=1000000) only[go_sem])
 repeat' (first |(with_reducible refine gd_ ?_;with_reducible refine A0 (by apply_assumption <;> exact K0) rfl ?_;(simp(maxSteps:=1000000) only[go_sem])) |((with_reducible refine gD_ ?_);refine J2 ev_ K0 (by apply_assumption <;> first |exact K0 |(apply_assumption <;> first |assumption |exact K0)) ?_;(simp(maxSteps:=1000000) only[go_sem])))
 have hv:=D4d a b i;refine B1 hm (ι:= {k:Nat // k<=(clV a b i).length}) (λk=> [(2, .cA,sI i),(3, .cA, .ptr 64 0 0 1),(4, .cA, .ptr 80 0 0 1),(6, .cA, .ptr 112 0 0 1),(7, .cA,sB false),(8, .cA, .ptr 144 0 0 1),(9, .cA,sI (clJ a b i)),(10, .cA, .ptr 416 0 0 1),(11, .cA, .fn (.func A2k) [] [.ptr 417 0 0 1, .ptr 418 0 0 1]),(34, .cA,A4 3 dV.enc dF_ (clV a b i)),(35, .cA,sI ((clV a b i).length:Int)),(36, .cA,sI (k.1:Int))])
  (λk=> [(64, .box a.enc),(80, .box b.enc),(112, .box [sI 0,sI 0, .sc (.slice none 0 0)]),(144, .box (clN a i).enc),(416, .box [sI ((clN a i).X),sI ((clN a i).Y), .sl 1000 0 (itr (clS a b i) k.1 []).length (itr (clS a b i) k.1 []).length]),(417, .box (clN a i).enc),(418, .box [.ptr 416 0 0 1]),(1000, .arr 6 (A9 cO.enc dF_ (itr (clS a b i) k.1 [])))]) (λk=>(clV a b i).length-k.1) ⟨0,by omega⟩ ?_ ?_
 ·refine B0 [] [1000] ?_;simp only[J3,List.length_nil,go_sem,go_sem_proc]
 ·rintro⟨k,hk⟩;have hl:=D4c a b i k
  have:=L7
  have:=A0r
  have:=R3
  have:=N2
  have:=A9s;dsimp only
  (simp(maxSteps:=1000000) only[go_sem])
  repeat' (first |((with_reducible refine And.intro ?_ ?_);focus (exact K0)) |((with_reducible refine it_ (λhc_=> ?_) (λhc_=> ?_)) <;> (have hd_:=hc_)) |(with_reducible refine gd_ ?_;with_reducible refine A0 (by apply_assumption <;> first |exact K0 |(apply_assumption <;> first |assumption |exact K0)) rfl ?_;(simp(maxSteps:=1000000) only[go_sem])))
  ·have hk1:k<(clV a b i).length:=by omega
   refine B5 [false,false,false,false,true,true] [(1,416),(2,417),(3,418),(4,1000)] (F6y (clN a i) ((clV a b i).getD k dF_).eY (IntKind.i64.wrap (0-M0 (D1 (clD a i ((clV a b i).getD k dF_)) b.radius))) (sat (sat (clD a i ((clV a b i).getD k dF_))-sat b.radius)) (IntKind.i64.wrap (IntKind.i64.wrap (IntKind.i64.wrap (64*i)+IntKind.i64.wrap (8*clJ a b i))+((clV a b i).getD k dF_).ID)) (itr (clS a b i) k []) (by omega)) (by simp[bL]) (by simp[bL]) (by simp[bL,go_sem,D3]) (by simp[bL,go_sem]) ?_;rw[show A7c (clN a i) (itr (clS a b i) k []) ((clV a b i).getD k dF_).eY (IntKind.i64.wrap (0-M0 (D1 (clD a i ((clV a b i).getD k dF_)) b.radius))) (sat (sat (clD a i ((clV a b i).getD k dF_))-sat b.radius)) (IntKind.i64.wrap (IntKind.i64.wrap (IntKind.i64.wrap (64*i)+IntKind.i64.wrap (8*clJ a b i))+((clV a b i).getD k dF_).ID))=itr (clS a b i) (k+1) []from rfl];refine st_ ?_;refine A8 ⟨k+1,by omega⟩ (by show(clV a b i).length-(k+1)<(clV a b i).length-k;omega) (B0 [] [] ?_);refine st_ ?_;exact(by rw[IntKind.wrap_i64];omega)
  ·obtain rfl:k=(clV a b i).length:=by omega
   have he:itr (clS a b i) (clV a b i).length []= []:=List.eq_nil_of_length_eq_zero hL;simp only[he,List.length_nil];have hf:=C2y (clN a i);refine B5 [true] [(1,416),(2,417),(3,418),(4,1000)] hf (by simp[bL]) (by simp[bL]) (by simp[bL,go_sem,D3]) (by simp[bL,go_sem]) ?_;simp only[List.length_nil,go_sem,go_sem_proc]
def B4i(m:cL):cL:=(⟨(⟨(IntKind.i64.wrap (0-m.dF.X)),(IntKind.i64.wrap (0-m.dF.Y))⟩:cI),m.cP⟩:cL)
theorem E1d(m:cL)(h0:m.cP.length<=1048576):cA_ D9p [.agg m.enc] [] (.agg (B4i m).enc) []:=by
 refine M3 16 [(2,some (some 3))] hm A6 Tryz.func391 rfl ?_;have:=B3a
 have:=B4i.eq_1 m;exact K1
def X1(m:cL)(ok:Bool):cL×Bool:=if ok=false then(((⟨(⟨0,0⟩:cI),([]:List cO)⟩:cL),false))else(let v1:=(B4i m);(v1,true))
theorem B0i(m:cL)(ok:Bool)(h0:m.cP.length<=1048576):cA_ D0v [.agg m.enc,sB ok] [] (.tup [.agg (X1 m ok).1.enc,sB ((X1 m ok).2)]) []:=by
 refine S1 11 [(4,some (some 3)),(5,none)] hm A6 Tryz.func252 rfl ?_;have:=E1d
 have:=X1.eq_1 m ok;exact K1
theorem E4a(a b:List cI): ∀n,(n=0->(itr (R0 a b) n (-1,0)).1= -1)/\(0<n->0<=(itr (R0 a b) n (-1,0)).1/\(itr (R0 a b) n (-1,0)).1<n)
 |0=>⟨λ_=>rfl,λh=>absurd h (by omega)⟩
 |n+1=>by
  have ih:=E4a a b n;refine⟨λh=>absurd h (by omega),λ_=> ?_⟩;rw[H6];generalize itr (R0 a b) n (-1,0)=s at*;unfold R0;simp only;split
  ·constructor <;> simp <;> omega
  ·rename_i h;simp only[Bool.or_eq_true,decide_eq_true_eq,not_or]at h;rcases Nat.eq_zero_or_pos n with h0 |h0
   ·have:=ih.1 h0;omega
   ·have:=ih.2 h0;constructor <;> simp <;> omega
theorem D2e(a b:List cI)(ha:2<=a.length)(hb:1<=b.length):0<=(D9 a b).1/\(D9 a b).1<a.length:=by unfold D9;rw[if_neg (by simp only[Bool.or_eq_true,decide_eq_true_eq,beq_iff_eq,not_or];omega)];exact(E4a a b a.length).2 (by omega)
def D3v(a b:dG)(i:Int):cL×Bool:=if(clL a b i).length=0 then(⟨⟨0,0⟩,[]⟩,false)else(⟨clN a i,clL a b i⟩,true)
def B4e(p:cO):cO:=⟨p.eY,p.fA,IntKind.i64.wrap (p.ID+4096),p.eM,p.eW⟩
def E7h(l:List cO):List cO:=itr (λi s=>s.set i (B4e (s.getD i dF_))) l.length l
def N0(a b:dG):cL×Bool:=
 let ig:=D9 a.core b.core
 let kh:=D9 b.core a.core
 if 1024<sat (sat (sat (sat (if ig.2<kh.2 then kh.2 else ig.2)-sat a.radius))-sat b.radius)then(⟨⟨0,0⟩,[]⟩,false)
 else if kh.2<=D1 ig.2 64 then D3v a b ig.1
 else if(clL b a kh.1).length=0 then(⟨⟨0,0⟩,[]⟩,false)else X1 ⟨clN b kh.1,E7h (clL b a kh.1)⟩ true
theorem C1u(a b:dG)(ha:2<=a.core.length)(hb:2<=b.core.length)(ha8:a.core.length<=1048576)(hb8:b.core.length<=1048576):cA_ C1j [.agg a.enc, .agg b.enc] [] (.tup [.agg (N0 a b).1.enc,sB ((N0 a b).2)]) []:=by
 refine S1 78 [(4,some (some 3)),(5,none)] hm A6 Tryz.func253 rfl ?_;have:=B51
 have:=R3
 have:=N2
 (simp(maxSteps:=1000000) only[go_sem])
 repeat' (first |((with_reducible refine it_ (λhc_=> ?_) (λhc_=> ?_)) <;> (have hd_:=hc_)) |(with_reducible refine gd_ ?_;with_reducible refine A0 (by apply_assumption <;> exact K0) rfl ?_;(simp(maxSteps:=1000000) only[go_sem])))
 ·have e:N0 a b=(⟨⟨0,0⟩,[]⟩,false):=by
   unfold N0;simp only;rw[if_pos (by assumption)]
  rw[e];exact⟨⟨rfl,rfl,G8 rfl⟩,rfl⟩
 ·have e:N0 a b=D3v a b (D9 a.core b.core).1:=by
   unfold N0;simp only;rw[if_neg (by assumption),if_pos (by assumption)]
  have hr:=D2e a.core b.core ha (by omega);rw[e];generalize(D9 a.core b.core).1=i at*;by_cases hL:(clL a b i).length=0
  ·rw[show D3v a b i=(⟨⟨0,0⟩,[]⟩,false)from if_pos hL];refine A0 (C2u a b i hr ha8 hb8 hL) rfl ?_;simp only[List.length_nil,go_sem,go_sem_proc]
  ·rw[show D3v a b i=(⟨clN a i,clL a b i⟩,true)from if_neg hL];refine B5 [false,false,false] [(1,768)] (C2v a b i hr ha8 hb8 (by omega)) (by simp) (by simp) (by simp) (by simp) ?_;simp only[go_sem,go_sem_proc]
 ·have hr:=D2e b.core a.core hb (by omega)
  have e:N0 a b=if(clL b a (D9 b.core a.core).1).length=0 then(⟨⟨0,0⟩,[]⟩,false)else X1 ⟨clN b (D9 b.core a.core).1,E7h (clL b a (D9 b.core a.core).1)⟩ true:=by unfold N0;simp only;rw[if_neg (by assumption),if_neg (by assumption)]
  rw[e];generalize(D9 b.core a.core).1=k at*;by_cases hL:(clL b a k).length=0
  ·rw[if_pos hL];refine A0 (C2u b a k hr hb8 ha8 hL) rfl ?_;simp only[List.length_nil,go_sem,go_sem_proc];refine B1 hm (ι:=Unit) (λ_=> [(4, .cA, .ptr 80 0 0 1),(5, .cA,sB false),(10, .cA, .ptr 176 0 0 1),(11, .cA,sB false),(59, .cA,sI 0),(60, .cA,sI 0)]) (λ_=> [(80, .box [sI 0,sI 0, .sc (.slice none 0 0)]),(176, .box [sI 0,sI 0, .dsl 6 0 (I8 cO.enc dF_ [])])]) (λ_=>0) () ?_ ?_
   ·refine B0 [] [] ?_;simp only[go_sem,go_sem_proc]
   ·intro _;refine st_ ?_;rw[if_neg (by decide)];refine A0 (B0i ⟨⟨0,0⟩,[]⟩ false (by simp)) rfl ?_;rw[show X1 ⟨⟨0,0⟩,[]⟩ false=(⟨⟨0,0⟩,[]⟩,false)from rfl];simp only[List.length_nil,go_sem,go_sem_proc]
  ·rw[if_neg hL];refine B5 [false,false,false] [(1,880)] (C2v b a k hr hb8 ha8 (by omega)) (by simp) (by simp) (by simp) (by simp) (st_ ?_);unfold E7h;generalize hl:clL b a k=l at*;have hB: ∀j,(itr (λi (s:List cO)=>s.set i (B4e (s.getD i dF_))) j l).length=l.length:=λj=>U1 (λs:List cO=>s.length) (λi s=>by simp) j l;refine B1 hm (ι:= {j:Nat // j<=l.length}) (λj=> [(4, .cA, .ptr 80 0 0 1),(5, .cA,sB false),(10, .cA, .ptr 176 0 0 1),(11, .cA,sB true),(59, .cA,sI (l.length:Int)),(60, .cA,sI (j.1:Int))])
    (λj=> [(80, .box [sI 0,sI 0, .sc (.slice none 0 0)]),(176, .box [sI ((clN b k).X),sI ((clN b k).Y), .sl 880 0 (itr (λi (s:List cO)=>s.set i (B4e (s.getD i dF_))) j.1 l).length (itr (λi (s:List cO)=>s.set i (B4e (s.getD i dF_))) j.1 l).length]),(880, .arr 6 (A9 cO.enc dF_ (itr (λi (s:List cO)=>s.set i (B4e (s.getD i dF_))) j.1 l)))]) (λj=>l.length-j.1) ⟨0,by omega⟩ ?_ ?_
   ·refine B0 [] [] ?_;simp only[J3,go_sem,go_sem_proc]
   ·rintro⟨j,hj⟩;have hBj:=hB j
    have hn1:itr (λi (s:List cO)=>s.set i (B4e (s.getD i dF_))) (j+1) l=(itr (λi (s:List cO)=>s.set i (B4e (s.getD i dF_))) j l).set j (B4e ((itr (λi (s:List cO)=>s.set i (B4e (s.getD i dF_))) j l).getD j dF_)):=rfl
    have hl8:l.length<=2:=by rw[<-hl];exact Nat.le_trans (D4c b a k _) (D4d b a k)
    dsimp only
    (simp(maxSteps:=1000000) only[go_sem];try(simp(disch:=(omega)) only[N5];try simp(maxSteps:=1000000) only[go_sem]))
    repeat' (first |((with_reducible refine And.intro ?_ ?_);focus (exact K0)) |((with_reducible refine it_ (λhc_=> ?_) (λhc_=> ?_)) <;> (have hd_:=hc_)))
    ·refine A8 ⟨j+1,by omega⟩ (by show l.length-(j+1)<l.length-j;omega) (B0 [] [] ?_);simp only[hn1,List.length_set,go_sem,go_sem_proc];refine⟨?_,?_⟩ <;> first |(rw[IntKind.wrap_i64];omega) |exact A32 rfl
    ·obtain rfl:j=l.length:=by omega
     refine J2 (cs:= [.agg (⟨clN b k,itr (λi (s:List cO)=>s.set i (B4e (s.getD i dF_))) l.length l⟩:cL).enc,sB true]) (by simp only[C67,hBj,go_sem,go_sem_proc];rfl) trivial (B0i ⟨clN b k,itr (λi (s:List cO)=>s.set i (B4e (s.getD i dF_))) l.length l⟩ true (by rw[hBj];omega)) ?_;simp only[go_sem,go_sem_proc]
theorem E4f(s:Shape)(t:cH):G5 s=0->1<=(L2 s t).core.length/\((L2 s t).kind=1->(L2 s t).core.length=1)/\((L2 s t).kind=2->(L2 s t).core.length=2)/\((L2 s t).kind≠1->(L2 s t).kind≠2->3<=(L2 s t).core.length)/\(L2 s t).core.length<=8:=λh=>D6k s t h
theorem D7l(n p:cI)(d s i:Int):(A7c n [] p d s i).length<=1:=by unfold A7c;split <;> simp
theorem F6t(a b:dG):(J7 a b).1.cP.length<=1:=by
 unfold J7;simp only
 (repeat' split) <;> first |exact Nat.zero_le _ |exact D7l _ _ _ _ _
def A0d(a:Shape)(ta:cH)(b:Shape)(tb:cH):cL×Bool:=let v1:=(G5 a);let v2:=(G5 b);if((v1 != 0)||(v2 != 0))=true then(((⟨(⟨0,0⟩:cI),([]:List cO)⟩:cL),false))else(let v3:=(L2 a ta);let v4:=(L2 b tb);if((v3.kind != 3)&&(v4.kind != 3))=true then(let v5:=(V2 v3 v4);(v5.1,v5.2))else(if(v4.kind==1)=true then(let v6:=(J7 v3 v4);(v6.1,v6.2))else(if(v3.kind==1)=true then(let v7:=(J7 v4 v3);let v8:=(X1 v7.1 v7.2);(v8.1,v8.2))else(let v9:=(N0 v3 v4);(v9.1,v9.2)))))
theorem D25(a:Shape)(ta:cH)(b:Shape)(tb:cH)(h0:a.cJ.length<=1048576)(h1:b.cJ.length<=1048576):cA_ D0t [.agg a.enc, .agg ta.enc, .agg b.enc, .agg tb.enc] [] (.tup [.agg (A0d a ta b tb).1.enc,sB ((A0d a ta b tb).2)]) []:=by
 refine S1 67 [(8,some (some 3)),(9,none)] hm A6 Tryz.func155 rfl ?_;have:=E4f a ta
 have:=E4f b tb
 have:=A1x
 have:=D83
 have:=C1v
 have:=F6t (L2 a ta) (L2 b tb)
 have:=B32
 have:=F6t (L2 b tb) (L2 a ta)
 have:=B0i
 have:=C1u
 have:=A0d.eq_1 a ta b tb;exact K1
def B4l(w:Api.World)(id:Int):Int:=A3t dF_ (λj:cG=>j.ID==id) w.cD
theorem C76(id:Int)(b:cG):cA_ B39 [.agg b.enc, .ptr 1 0 0 1] [(1, .box [sI id])] (sB (b.ID==id)) [(1, .box [sI id])]:=by refine I7 hm A6 Tryz.func412 rfl rfl (st_ ?_);refine B6 [.cA] [] [] ?_;simp only[go_sem,go_sem_proc]
theorem A7t(w:Api.World)(id:Int)(hw:w.cD.length<=1048576):cA_ D5h [.agg w.enc,sI id] [] (sI (B4l w id)) []:=by refine I7 hm A6 Tryz.func289 rfl rfl (st_ ?_);refine B5 [true,true] [(1,64)] (B0j w.cD B39 [] [.ptr 1 0 0 1] [(1, .box [sI id])] (λb=>b.ID==id) (by omega) (F6g id) (by simp[go_sem,AV.ids]) (λb _=>C76 id b)) (by simp) (by simp) (by simp) (by simp[go_sem]) (st_ ?_);refine B6 [.cA] [] [] (st_ ?_);rfl
def D1s(a b:Int)(j:cG):Bool:= !j.dC&&((a==j.cU&&b==j.cV)||(a==j.cV&&b==j.cU))
theorem G13(a b:Int):okO [(1, .box [sI a,sI b])]:=by refine⟨by simp[go_sem],?_⟩;simp[go_sem,F0,AV.ids]
theorem B9n(a b:Int)(j:cG):cA_ A9n [.agg j.enc, .ptr 1 0 0 1] [(1, .box [sI a,sI b])] (sB (D1s a b j)) [(1, .box [sI a,sI b])]:=by
 refine I7 hm A6 Tryz.func470 rfl rfl (st_ ?_);cases hc:j.dC with
 |true=>simp only[Bool.not_true,go_sem,go_sem_proc];refine B6 [.cA] [] [] (st_ ?_);simp[D1s,hc]
 |false=>simp only[Bool.not_false,go_sem,go_sem_proc];refine B6 [.cA] [] [] (st_ ?_);simp[D1s,hc]
theorem B2c(l:List cG)(a b:Int)(hl:l.length<=1048576):cA_ C21 [A4 24 cG.enc dF_ l,sI a,sI b] [] (sB (l.any (D1s a b))) []:=by refine I7 hm A6 Tryz.func371 rfl rfl (st_ ?_);refine B5 [true,true] [(1,128)] (B7u l A9n [] [.ptr 1 0 0 1] [(1, .box [sI a,sI b])] (D1s a b) (by omega) (G13 a b) (by simp[go_sem,AV.ids]) (λj _=>B9n a b j)) (by simp) (by simp) (by simp) (by simp[go_sem]) (st_ ?_);refine B6 [.cA] [] [] ?_;simp only[go_sem,go_sem_proc]
end Go.Abs
end
noncomputable section
namespace Go.Abs
open Go.Proofs
open Api
end Go.Abs
namespace Go.Api
open Go.Abs
structure Input where
 cS:Int
 ID:Int
 cI:cI
 Value:Int
 cF:cF
 cG:cG
 deriving DecidableEq,Inhabited
def Input.enc(x:Input):List AV:=[sI x.cS,sI x.ID,sI x.cI.X,sI x.cI.Y,sI x.Value,sI x.cF.ID,sI x.cF.cS,sI x.cF.cH.dY.X,sI x.cF.cH.dY.Y,sI x.cF.cH.eR,sI x.cF.dL.X,sI x.cF.dL.Y,sI x.cF.cZ,sI x.cF.fF.X,sI x.cF.fF.Y,sI x.cF.fH,sI x.cF.eA,sI x.cF.dX,sI x.cF.eF,sB x.cF.fG,sB x.cF.eC,sB x.cF.fD,sB x.cF.eU,sI x.cF.eJ,A4 10 dB.enc dF_ x.cF.cK,sI x.cG.ID,sI x.cG.cS,sI x.cG.cU,sI x.cG.cV,sI x.cG.dW.X,sI x.cG.dW.Y,sI x.cG.dR.X,sI x.cG.dR.Y,sI x.cG.eS.X,sI x.cG.eS.Y,sI x.cG.cX,sB x.cG.dE,sI x.cG.dN,sI x.cG.dS,sB x.cG.dH,sI x.cG.dP,sI x.cG.dU,sI x.cG.dD,sI x.cG.dI,sB x.cG.dC,sI x.cG.cQ.I0,sI x.cG.cQ.I1,sI x.cG.cQ.I2,sI x.cG.cQ.I3]
def Input.zero:List AV:= [sI 0,sI 0,sI 0,sI 0,sI 0,sI 0,sI 0,sI 0,sI 0,sI 0,sI 0,sI 0,sI 0,sI 0,sI 0,sI 0,sI 0,sI 0,sI 0,sB false,sB false,sB false,sB false,sI 0, .sc (.slice none 0 0),sI 0,sI 0,sI 0,sI 0,sI 0,sI 0,sI 0,sI 0,sI 0,sI 0,sI 0,sB false,sI 0,sI 0,sB false,sI 0,sI 0,sI 0,sI 0,sB false,sI 0,sI 0,sI 0,sI 0]
attribute [go_sem] Input.enc Input.zero
@[go_sem] theorem G7d(x:Input):Input.mk x.cS x.ID x.cI x.Value x.cF x.cG=x:=rfl
structure B0s where
 cS:Int
 gC:cI
 To:cI
 fY:Int
 Input:Input
 deriving DecidableEq,Inhabited
def B0s.enc(x:B0s):List AV:=[sI x.cS,sI x.gC.X,sI x.gC.Y,sI x.To.X,sI x.To.Y,sI x.fY,sI x.Input.cS,sI x.Input.ID,sI x.Input.cI.X,sI x.Input.cI.Y,sI x.Input.Value,sI x.Input.cF.ID,sI x.Input.cF.cS,sI x.Input.cF.cH.dY.X,sI x.Input.cF.cH.dY.Y,sI x.Input.cF.cH.eR,sI x.Input.cF.dL.X,sI x.Input.cF.dL.Y,sI x.Input.cF.cZ,sI x.Input.cF.fF.X,sI x.Input.cF.fF.Y,sI x.Input.cF.fH,sI x.Input.cF.eA,sI x.Input.cF.dX,sI x.Input.cF.eF,sB x.Input.cF.fG,sB x.Input.cF.eC,sB x.Input.cF.fD,sB x.Input.cF.eU,sI x.Input.cF.eJ,A4 10 dB.enc dF_ x.Input.cF.cK,sI x.Input.cG.ID,sI x.Input.cG.cS,sI x.Input.cG.cU,sI x.Input.cG.cV,sI x.Input.cG.dW.X,sI x.Input.cG.dW.Y,sI x.Input.cG.dR.X,sI x.Input.cG.dR.Y,sI x.Input.cG.eS.X,sI x.Input.cG.eS.Y,sI x.Input.cG.cX,sB x.Input.cG.dE,sI x.Input.cG.dN,sI x.Input.cG.dS,sB x.Input.cG.dH,sI x.Input.cG.dP,sI x.Input.cG.dU,sI x.Input.cG.dD,sI x.Input.cG.dI,sB x.Input.cG.dC,sI x.Input.cG.cQ.I0,sI x.Input.cG.cQ.I1,sI x.Input.cG.cQ.I2,sI x.Input.cG.cQ.I3]
def B0s.zero:List AV:= [sI 0,sI 0,sI 0,sI 0,sI 0,sI 0,sI 0,sI 0,sI 0,sI 0,sI 0,sI 0,sI 0,sI 0,sI 0,sI 0,sI 0,sI 0,sI 0,sI 0,sI 0,sI 0,sI 0,sI 0,sI 0,sB false,sB false,sB false,sB false,sI 0, .sc (.slice none 0 0),sI 0,sI 0,sI 0,sI 0,sI 0,sI 0,sI 0,sI 0,sI 0,sI 0,sI 0,sB false,sI 0,sI 0,sB false,sI 0,sI 0,sI 0,sI 0,sB false,sI 0,sI 0,sI 0,sI 0]
attribute [go_sem] B0s.enc B0s.zero
@[go_sem] theorem G6i(x:B0s):B0s.mk x.cS x.gC x.To x.fY x.Input=x:=rfl
end Go.Api
namespace Go.Abs
open Go.Proofs Api
end Go.Abs
end
noncomputable section
namespace Go.Abs
open Go.Proofs
open Api
structure H8 where
 body:Int
 fixture:Int
 deriving DecidableEq,Inhabited
def H8.enc(x:H8):List AV:=[sI x.body,sI x.fixture]
def H8.zero:List AV:= [sI 0,sI 0]
attribute [go_sem] H8.enc H8.zero
@[go_sem] theorem E5y(x:H8):H8.mk x.body x.fixture=x:=rfl
structure cN where
 ID:Int
 eT:fK
 deriving DecidableEq,Inhabited
def cN.enc(x:cN):List AV:=[sI x.ID,sI x.eT.fU.X,sI x.eT.fU.Y,sI x.eT.fX.X,sI x.eT.fX.Y]
def cN.zero:List AV:= [sI 0,sI 0,sI 0,sI 0,sI 0]
attribute [go_sem] cN.enc cN.zero
@[go_sem] theorem G3w(x:cN):cN.mk x.ID x.eT=x:=rfl
structure fI where
 cF:Int
 dB:Int
 eT:fK
 deriving DecidableEq,Inhabited
def fI.enc(x:fI):List AV:=[sI x.cF,sI x.dB,sI x.eT.fU.X,sI x.eT.fU.Y,sI x.eT.fX.X,sI x.eT.fX.Y]
def fI.zero:List AV:= [sI 0,sI 0,sI 0,sI 0,sI 0,sI 0]
attribute [go_sem] fI.enc fI.zero
@[go_sem] theorem F3w(x:fI):fI.mk x.cF x.dB x.eT=x:=rfl
structure eX where
 bodies:List cF
 joints:List cG
 refs:List H8
 entries:List cN
 deriving DecidableEq,Inhabited
def eX.enc(x:eX):List AV:=[A4 20 cF.enc dF_ x.bodies,A4 24 cG.enc dF_ x.joints,A4 2 H8.enc dF_ x.refs,A4 5 cN.enc dF_ x.entries]
def eX.zero:List AV:= [.sc (.slice none 0 0), .sc (.slice none 0 0), .sc (.slice none 0 0), .sc (.slice none 0 0)]
attribute [go_sem] eX.enc eX.zero
@[go_sem] theorem F3x(x:eX):eX.mk x.bodies x.joints x.refs x.entries=x:=rfl
def A2n(b:cF)(i:Int):fI:=let v1:=(B6b (b.cK.getD i.toNat dF_).Shape b.cH);let v2:=(B8h v1 1024);(⟨b.ID,i,v2⟩:fI)
theorem D2u(b:cF)(i:Int)(hi:0<=i/\i<b.cK.length)(h0: ∀f∈b.cK,f.Shape.cJ.length<=1048576):cA_ D0i [.agg b.enc,sI i] [] (.agg (A2n b i).enc) []:=by
 refine M3 19 [(4,some (some 6))] hm A6 Tryz.func365 rfl ?_;have:=h0 _ (B8 (l:=b.cK) (i:=i.toNat) dF_ (by omega))
 have:=E3k
 have:=E5j
 have:=A2n.eq_1 b i;exact K1
def A4f(s:eX)(x:H8)(y:H8):cR:=if(s.bodies.getD y.body.toNat dF_).ID<(s.bodies.getD x.body.toNat dF_).ID then((⟨(s.bodies.getD y.body.toNat dF_).ID,y.fixture,(s.bodies.getD x.body.toNat dF_).ID,x.fixture⟩:cR))else((⟨(s.bodies.getD x.body.toNat dF_).ID,x.fixture,(s.bodies.getD y.body.toNat dF_).ID,y.fixture⟩:cR))
theorem C33(s:eX)(x:H8)(y:H8)(hx:0<=x.body/\x.body<s.bodies.length)(hy:0<=y.body/\y.body<s.bodies.length):cA_ C24 [.agg s.enc, .agg x.enc, .agg y.enc] [] (.agg (A4f s x y).enc) []:=by refine M3 40 [(6,some (some 4))] hm A6 Tryz.func245 rfl ?_;have:=A4f.eq_1 s x y;exact K1
def A0w(s:eX)(x:H8)(y:H8):Bool:=let v1:=(A0v ((s.bodies.getD x.body.toNat dF_).cK.getD x.fixture.toNat dF_) ((s.bodies.getD y.body.toNat dF_).cK.getD y.fixture.toNat dF_));let v2:=(s.joints.any (D1s (s.bodies.getD x.body.toNat dF_).ID (s.bodies.getD y.body.toNat dF_).ID));((((((s.bodies.getD x.body.toNat dF_).cS==3)||((s.bodies.getD y.body.toNat dF_).cS==3))&&(x.body != y.body))&&v1)&&(!v2))
theorem B8r(s:eX)(x:H8)(y:H8)(hx:0<=x.body/\x.body<s.bodies.length)(hy:0<=y.body/\y.body<s.bodies.length)(hxf:0<=x.fixture/\x.fixture<(s.bodies.getD x.body.toNat dF_).cK.length)(hyf:0<=y.fixture/\y.fixture<(s.bodies.getD y.body.toNat dF_).cK.length)(h0:s.joints.length<=1048576):cA_ B78 [.agg s.enc, .agg x.enc, .agg y.enc] [] (sB (A0w s x y)) []:=by
 refine en1 hm A6 Tryz.func244 rfl rfl ?_;have:=A82
 have:=B2c
 have:=A0w.eq_1 s x y;exact K1
def I5(w:Api.World)(id:Int)(n:Int):dB×cH×Bool:=let v1:=(H5 w id);if(((decide (v1<0))||(decide (n<0)))||(decide (((w.cC.getD v1.toNat dF_).cK.length:Int)<=n)))=true then(((⟨(⟨0,0,([]:List cI)⟩:Shape),0,0,0,false,0,0,0⟩:dB),(⟨(⟨0,0⟩:cI),0⟩:cH),false))else((((w.cC.getD v1.toNat dF_).cK.getD n.toNat dF_),(w.cC.getD v1.toNat dF_).cH,true))
theorem B28(w:Api.World)(id:Int)(n:Int)(h0:w.cC.length<=1048576):cA_ D6t [.agg w.enc,sI id,sI n] [] (.tup [.agg (I5 w id n).1.enc, .agg (I5 w id n).2.1.enc,sB ((I5 w id n).2.2)]) []:=by
 refine S1 47 [(6,some (some 10)),(7,some (some 3)),(8,none)] hm A6 Tryz.func154 rfl ?_;have:=A3a w id
 have:=T0
 have:=I5.eq_1 w id n;exact K1
def A3x(n:Int):Bool:=((decide ((-536870911)<=n))&&(decide (n<=536870911)))
theorem C90(n:Int):cA_ C9d [sI n] [] (sB (A3x n)) []:=by refine en1 hm A6 Tryz.func212 rfl rfl ?_;have:=A3x.eq_1 n;exact E7
def A16(b:cF)(x:Api.Input):Int:=if(x.cS==4)=true then(let v1:=(A7n (⟨x.cI,x.Value⟩:cH));if v1=false then(6)else(0))else(if(x.cS==5)=true then(if(b.cS==1)=true then(10)else(0))else(if(b.cS != 3)=true then(10)else(0)))
theorem B8z(b:cF)(x:Api.Input):cA_ D44 [.agg b.enc, .agg x.enc] [] (sI (A16 b x)) []:=by
 refine en1 hm A6 Tryz.func292 rfl rfl ?_;have:=λx1 x2 x3=>cx_ (B1u ⟨⟨x1,x2⟩,x3⟩)
 have:=B1u
 have:=A16.eq_1 b x;exact K1
def M8(l:List Int)(n:Int)(i1:Nat)(s1:Int):(Int) ⊕ (Bool):=if((decide ((l.getD i1 0)<=s1))||(decide (n<=(l.getD i1 0))))=true then(.inr false)else(.inl (l.getD i1 0))
def S9(l:List Int)(n:Int):Bool:=(match J8 (M8 l n) l.length (-1)with | .inr r=>r | .inl s1=>true)
theorem A38(l:List Int)(n:Int)(h0:l.length<=1048576):cA_ D7c [A4 1 C6 0 l,sI n] [] (sB (S9 l n)) []:=by
 refine en1 hm A6 Tryz.func177 rfl rfl ?_;have:=S9.eq_1 l n
 have:=λi_ s_=>M8.eq_1 l n i_ s_
 have:=λx_ Q_ σ_=> @lp_ Tryz.prog Tryz.f177.ntmps [] x_ Q_ σ_ hm (IE (M8 l n) (-1)) (λ_=>True) l.length (λi_=> [(1, .cA,sI n),(5, .cA,sI (stE (M8 l n) i_ (-1))),(8, .cA,A4 1 C6 0 l),(9, .cA,sI (l.length:Int)),(10, .cA,sI (i_:Int))]) (λi_=> []) [] rfl (λ_ _=>trivial) (by simp[go_sem]) (by simp[go_sem,D3]) (by simp[go_sem]);exact K1
def A4q(j:cG):Int:=if(j.cS==1)=true then((if(sat j.cQ.I0)<(IntKind.i64.wrap (0-(sat j.cQ.I0)))then(IntKind.i64.wrap (0-(sat j.cQ.I0)))else(sat j.cQ.I0)))else(let v2:=(B0g (⟨(sat j.cQ.I0),j.cQ.I1⟩:cI));v2)
theorem B7p(j:cG):cA_ B68 [.agg j.enc] [] (sI (A4q j)) []:=by
 refine en1 hm A6 Tryz.func334 rfl rfl ?_;have:=λx1 x2=>cx_ (V8 ⟨x1,x2⟩)
 have:=L3
 have:=V8
 have:=A4q.eq_1 j;exact E7
def A6u(j:cG)(d:Int):Bool:=let v1:=(A4q j);let v2:=(B7 j.dI d);((decide (0<j.dI))&&(decide (v2<v1)))
theorem D24(j:cG)(d:Int):cA_ D0s [.agg j.enc,sI d] [] (sB (A6u j d)) []:=by
 refine en1 hm A6 Tryz.func204 rfl rfl ?_;have:=B7p
 have:=M2
 have:=A6u.eq_1 j d;exact E7
def A6c(a0:Int)(a1:Int)(a2:Int):Int:=if(a0==a2)=true then(a1)else(a0)
theorem C84(a0:Int)(a1:Int)(a2:Int):cA_ E47 [sI a0,sI a1,sI a2] [] (sI (A6c a0 a1 a2)) []:=by refine en1 hm A6 Tryz.func283 rfl rfl ?_;have:=A6c.eq_1 a0 a1 a2;exact E7
end Go.Abs
end
