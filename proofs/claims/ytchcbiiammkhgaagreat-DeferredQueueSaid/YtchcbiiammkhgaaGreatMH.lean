/- A part of the proof: contracts of functions that the statement reaches. -/
import Derived.Test.YtchcbiiammkhgaaGreatMG
set_option linter.unusedSimpArgs false
set_option linter.unusedVariables false
set_option linter.unnecessarySimpa false
set_option maxRecDepth 100000
set_option maxHeartbeats 2000000
noncomputable section
namespace Go.Abs
open Go.Proofs
open Api
theorem D1t:okO []:=⟨by simp,by simp⟩
def A0x(x:Int):Bool:=(x != x)
theorem C0z(x:Int):A1 Tryz.prog D5x [sI x] [] (sB (A0x x)) []:=by refine en1 hm A4 Tryz.func319 rfl rfl ?_;have:=A0x.eq_1 x;exact C9
def H1(x:Int)(y:Int):Int:=let v1:=(A0x x);let v2:=(A0x y);if v1=true then(if v2=true then(0)else((-1)))else(if v2=true then(1)else(if x<y then((-1))else(if y<x then(1)else(0))))
theorem A0n(x:Int)(y:Int):A1 Tryz.prog D2c [sI x,sI y] [] (sI (H1 x y)) []:=by
 refine en1 hm A4 Tryz.func375 rfl rfl ?_;have:=C0z
 have:=H1.eq_1 x y;exact C9
def A2y(l:List Int)(i1:Nat)(s1:Unit):(Unit) ⊕ (Int):=if((l.getD i1 0) != 0)=true then(.inr (l.getD i1 0))else(.inl ())
def X3(l:List Int):Int:=(match D3 (A2y l) l.length ()with | .inr r=>r | .inl s1=>0)
theorem B86(l:List Int)(hl:l.length<=1048576):A1 Tryz.prog E3l [A2 1 B9 0 l] [] (sI (X3 l)) []:=by
 refine en1 hm A4 Tryz.func374 rfl rfl ?_;have:=X3.eq_1 l
 have:=λi_ s_=>A2y.eq_1 l i_ s_
 have:=λx_ Q_ σ_=> @lp_ Tryz.prog Tryz.f374.ntmps [] x_ Q_ σ_ hm (IE (A2y l) ()) (λ_=>True) l.length (λi_=> [(3, .share,sI 0),(6, .share,A2 1 B9 0 l),(7, .share,sI (l.length:Int)),(8, .share,sI (i_:Int))]) (λi_=> []) [] rfl (λ_ _=>trivial) (by simp[go_sem]) (by simp[go_sem,A6]) (by simp[go_sem]);exact A4t
def Z4(a:PairKey)(b:PairKey):Int:=let v1:=(H1 a.BodyA b.BodyA);let v2:=(H1 a.FixtureA b.FixtureA);let v3:=(H1 a.BodyB b.BodyB);let v4:=(H1 a.FixtureB b.FixtureB);let v5:=(X3 ([v1,v2,v3,v4]));v5
theorem B3v(a:PairKey)(b:PairKey):A1 Tryz.prog B30 [.agg a.enc, .agg b.enc] [] (sI (Z4 a b)) []:=by
 refine en1 hm A4 Tryz.func247 rfl rfl ?_;simp only[go_sem];refine A0 (A0n a.BodyA b.BodyA) rfl ?_;generalize hv1:(H1 a.BodyA b.BodyA)=v1;simp only[go_sem];refine A0 (A0n a.FixtureA b.FixtureA) rfl ?_;generalize hv2:(H1 a.FixtureA b.FixtureA)=v2;simp only[go_sem];refine A0 (A0n a.BodyB b.BodyB) rfl ?_;generalize hv3:(H1 a.BodyB b.BodyB)=v3;simp only[go_sem];refine A0 (A0n a.FixtureB b.FixtureB) rfl ?_;generalize hv4:(H1 a.FixtureB b.FixtureB)=v4;simp only[go_sem];refine A5d (B86 ([v1,v2,v3,v4]) (by((simp_all;done)))) rfl ?_ ?_
 ·(try simp only[A02,go_sem]);all_goals((repeat' (with_reducible apply And.intro)) <;> exact A2h (λ_ _=>rfl) rfl rfl rfl)
 generalize hv5:(X3 ([v1,v2,v3,v4]))=v5;simp only[go_sem];have hd:Z4 a b=v5:=by(unfold Z4;exact hd_)
 try rw[hd]
def A4u(a:PairKey)(b:PairKey):Bool:=let v1:=(Z4 a b);(decide (v1<0))
theorem B7q(a:PairKey)(b:PairKey):A1 Tryz.prog D2g [.agg a.enc, .agg b.enc] [] (sB (A4u a b)) []:=by
 refine en1 hm A4 Tryz.func238 rfl rfl ?_;have:=B3v
 have:=A4u.eq_1 a b;exact C9
def K3(l:List PairKey)(i1:Nat)(s1:Int×Int×Int×Int):(Int×Int×Int×Int) ⊕ (Bool):=let v1:=(A38 (l.getD i1 default));let v2:=(A4u (⟨s1.1,s1.2.1,s1.2.2.1,s1.2.2.2⟩:PairKey) (l.getD i1 default));if((!v1)||((decide (0<(i1:Int)))&&((((l.getD i1 default).BodyA==s1.1)&&(((l.getD i1 default).FixtureA==s1.2.1)&&(((l.getD i1 default).BodyB==s1.2.2.1)&&((l.getD i1 default).FixtureB==s1.2.2.2))))||(!v2))))=true then(.inr false)else(.inl ((l.getD i1 default).BodyA,(l.getD i1 default).FixtureA,(l.getD i1 default).BodyB,(l.getD i1 default).FixtureB))
def N3(l:List PairKey):Bool:=(match D3 (K3 l) l.length (0,0,0,0)with | .inr r=>r | .inl s1=>true)
theorem B1o(l:List PairKey)(hl:l.length<=1048576):A1 Tryz.prog C2i [A2 4 PairKey.enc default l] [] (sB (N3 l)) []:=by
 refine en1 hm A4 Tryz.func145 rfl rfl ?_;have:=λx1 x2 x3 x4 x5=>cx_ (B7q ⟨x1,x2,x3,x4⟩ x5)
 have:=D0i
 have:=B7q
 have:=N3.eq_1 l
 have:=λi_ s_=>K3.eq_1 l i_ s_
 have:=λx_ Q_ σ_=> @lp_ Tryz.prog Tryz.f145.ntmps [] x_ Q_ σ_ hm (IE (K3 l) (0,0,0,0)) (λ_=>True) l.length (λi_=> [(3, .share, .ptr 64 0 0 1),(7, .share,A2 4 PairKey.enc default l),(8, .share,sI (l.length:Int)),(9, .share,sI (i_:Int))]) (λi_=> [(64, .box [sI ((stE (K3 l) i_ (0,0,0,0)).1),sI ((stE (K3 l) i_ (0,0,0,0)).2.1),sI ((stE (K3 l) i_ (0,0,0,0)).2.2.1),sI ((stE (K3 l) i_ (0,0,0,0)).2.2.2)])]) [] rfl (λ_ _=>trivial) (by simp[go_sem]) (by simp[go_sem,A6]) (by simp[go_sem]);exact A4t
def A2j(l:List PairKey)(i1:Nat)(s1:Unit):(Unit) ⊕ (Bool):=let v1:=(A5b (l.getD (IntKind.i64.wrap ((i1:Int)-1)).toNat default) (l.getD i1 default));if((((((decide ((l.getD i1 default).BodyB<=(l.getD i1 default).BodyA))||(decide ((l.getD i1 default).FixtureA<0)))||(decide (3<(l.getD i1 default).FixtureA)))||(decide ((l.getD i1 default).FixtureB<0)))||(decide (3<(l.getD i1 default).FixtureB)))||((decide (0<(i1:Int)))&&(!v1)))=true then(.inr false)else(.inl ())
def T3(l:List PairKey):Bool:=(match D3 (A2j l) l.length ()with | .inr r=>r | .inl s1=>true)
theorem C0y(l:List PairKey)(hl:l.length<=1048576):A1 Tryz.prog D75 [A2 4 PairKey.enc default l] [] (sB (T3 l)) []:=by
 refine en1 hm A4 Tryz.func82 rfl rfl ?_;have:=F0v
 have:=T3.eq_1 l
 have:=λi_ s_=>A2j.eq_1 l i_ s_
 have:=λx_ Q_ σ_=> @lp_ Tryz.prog Tryz.f82.ntmps [] x_ Q_ σ_ hm (IE (A2j l) ()) (λ_=>True) l.length (λi_=> [(0, .share,A2 4 PairKey.enc default l),(3, .share,sI (i_:Int))]) (λi_=> []) [] rfl (λ_ _=>trivial) (by simp[go_sem]) (by simp[go_sem,A6]) (by simp[go_sem]);exact A4t
def A1s(v:Vec):Bool:=let v1:=(A34 v.X);let v2:=(A34 v.Y);(v1||v2)
theorem C63(v:Vec):A1 Tryz.prog B46 [.agg v.enc] [] (sB (A1s v)) []:=by
 refine en1 hm A4 Tryz.func378 rfl rfl ?_;have:=C9h
 have:=A1s.eq_1 v;exact C9
def E7(s:Shape):Int:=if((decide (s.Kind<1))||(decide (3<s.Kind)))=true then(10)else(let v1:=(Y7 s);if v1=false then(11)else(if(s.Vertices.any (λx=>(A1s x)))=true then(6)else(if((s.Kind==3)&&(s.Radius != 0))=true then(if((s.Kind==3)&&(s.Radius != 0))=true then(6)else(let v2:=(L9 (s.Vertices.getD 1 default) (s.Vertices.getD 0 default));let v3:=(A32 v2);if((s.Kind==2)&&(decide (v3<4096)))=true then(12)else(let v4:=(J0 s.Vertices);let v5:=(A0e s.Vertices);let v6:=(X7 s.Vertices);if((s.Kind==3)&&(((!v4)||(decide (v5<4096)))||(decide (v6<256))))=true then(12)else(0))))else(if((s.Kind != 3)&&((decide (s.Radius<2048))||(decide (524288<s.Radius))))=true then(6)else(let v7:=(L9 (s.Vertices.getD 1 default) (s.Vertices.getD 0 default));let v8:=(A32 v7);if((s.Kind==2)&&(decide (v8<4096)))=true then(12)else(let v9:=(J0 s.Vertices);let v10:=(A0e s.Vertices);let v11:=(X7 s.Vertices);if((s.Kind==3)&&(((!v9)||(decide (v10<4096)))||(decide (v11<256))))=true then(12)else(0)))))))
theorem A07(s:Shape)(hn:s.Vertices.length<=1048576):A1 Tryz.prog D40 [.agg s.enc] [] (sI (E7 s)) []:=by
 refine en1 hm A4 Tryz.func248 rfl rfl ?_;have:=G1r s
 have:=C9g
 have:=(B8e s.Vertices B46 [] [] [] (λx=>(A1s x)) (by(omega)) D1t (by simp[AV.ids,F4]) (λx _=>C63 x))
 have:=K2
 have:=U6
 have:=B72 s.Vertices
 have:=A6i
 have:=C1v
 have:=C22
 have:=E7.eq_1 s;exact C9
def A67(s:Shape)(i1:Nat)(s1:Unit):(Unit) ⊕ (Int):=if((!(inR (s.Vertices.getD i1 default).X (-1048576) 1048576))||(!(inR (s.Vertices.getD i1 default).Y (-1048576) 1048576)))=true then(.inr 6)else(.inl ())
def A7u(s:Shape):Int:=if((decide (s.Kind<1))||(decide (3<s.Kind)))=true then(10)else(let v1:=(A06 s);if v1=false then(11)else((match D3 (A67 s) s.Vertices.length ()with | .inr r=>r | .inl s1=>if(((s.Kind==3)&&(s.Radius != 0))||((s.Kind != 3)&&((decide (s.Radius<2048))||(decide (524288<s.Radius)))))=true then(6)else(let v4:=(L9 (s.Vertices.getD 1 default) (s.Vertices.getD 0 default));let v5:=(A32 v4);if((s.Kind==2)&&(decide (v5<4096)))=true then(12)else(let v6:=(N0 s.Vertices);let v7:=(A4d s.Vertices);let v8:=(A6a s.Vertices);if((s.Kind==3)&&(((!v6)||(decide (v7<4096)))||(decide (v8<256))))=true then(12)else(0))))))
theorem D81(s:Shape)(hn:s.Vertices.length<=1048576):A1 Tryz.prog D85 [.agg s.enc] [] (sI (A7u s)) []:=by
 refine en1 hm A4 Tryz.func221 rfl rfl ?_;have:=G07 s
 have:=C8v
 have:=E5d
 have:=E04
 have:=B9u
 have:=B5n
 have:=C71
 have:=F08
 have:=A7u.eq_1 s
 have:=λi_ s_=>A67.eq_1 s i_ s_
 have:=λx_ Q_ σ_=> @lp_ Tryz.prog Tryz.f221.ntmps [] x_ Q_ σ_ hm (IE (A67 s) ()) (λ_=>True) s.Vertices.length (λi_=> [(1, .share, .ptr 32 0 0 1),(3, .share,sI (i_:Int))]) (λi_=> [(32, .box [sI s.Kind,sI s.Radius,A2 2 Vec.enc default s.Vertices])]) [] rfl (λ_ _=>trivial) (by simp[go_sem]) (by simp[go_sem,A6]) (by simp[go_sem]);exact A4t
def A1w(f:Fixture):Int:=let v1:=(E7 f.Shape);if(v1 != 0)=true then(v1)else(if((!(((inR f.Density 0 262144)&&(inR f.Friction 0 131072))&&(inR f.Restitution 0 65536)))||(!(((inR f.Category 0 65535)&&(inR f.Mask 0 65535))&&(inR f.Group (-32) 32))))=true then(6)else(0))
theorem C2e(f:Fixture)(hn:f.Shape.Vertices.length<=1048576):A1 Tryz.prog C2g [.agg f.enc] [] (sI (A1w f)) []:=by
 refine en1 hm A4 Tryz.func227 rfl rfl ?_;have:=A07
 have:=B7e
 have:=A1w.eq_1 f;exact C9
def A2f(f:Fixture):Int:=let v1:=(A7u f.Shape);if(v1 != 0)=true then(v1)else(if((((((!(inR f.Density 0 262144))||(!(inR f.Friction 0 131072)))||(!(inR f.Restitution 0 65536)))||(!(inR f.Category 0 65535)))||(!(inR f.Mask 0 65535)))||(!(inR f.Group (-32) 32)))=true then(6)else(0))
theorem C37(f:Fixture)(hn:f.Shape.Vertices.length<=1048576):A1 Tryz.prog C26 [.agg f.enc] [] (sI (A2f f)) []:=by
 refine en1 hm A4 Tryz.func133 rfl rfl ?_;have:=D81
 have:=E5z
 have:=A2f.eq_1 f;exact C9
def A2s(n:Int):Bool:=(!(inR n (-536870911) 536870911))
theorem C40(n:Int):A1 Tryz.prog B3n [sI n] [] (sB (A2s n)) []:=by
 refine en1 hm A4 Tryz.func364 rfl rfl ?_;have:=C5c
 have:=A2s.eq_1 n;exact C9
def A0p(l:List Int):Bool:=(!(l.any (λx=>(A2s x))))
theorem B7p(l:List Int)(hl:l.length<=1048576):A1 Tryz.prog D2y [A2 1 B9 0 l] [] (sB (A0p l)) []:=by
 refine en1 hm A4 Tryz.func234 rfl rfl ?_;have:=(A43 l B3n [] [] [] (λx=>(A2s x)) (by(omega)) D1t (by simp[AV.ids,F4]) (λx _=>C40 x))
 have:=A0p.eq_1 l;exact C9
def J9(p:ContactPoint):Bool:=if(decide (p.NormalImpulse<0))=false then(let v1:=(A0p ([p.Point.X,p.Point.Y,p.Separation,p.ID,p.NormalImpulse,p.TangentImpulse]));((decide (p.NormalImpulse<0))||(!v1)))else(true)
theorem B84(p:ContactPoint):A1 Tryz.prog A9x [.agg p.enc] [] (sB (J9 p)) []:=by
 refine en1 hm A4 Tryz.func236 rfl rfl ?_;simp only[go_sem];by_cases h1:(decide (p.NormalImpulse<0))=false
 ·rw[if_pos h1]
  (repeat(with_reducible refine And.intro ?_ ?_;exact aI_))
  refine A5d (B7p ([p.Point.X,p.Point.Y,p.Separation,p.ID,p.NormalImpulse,p.TangentImpulse]) (by((simp_all;done)))) rfl ?_ ?_
  ·(try simp only[A02,go_sem]);all_goals((repeat' (with_reducible apply And.intro)) <;> exact A2h (λ_ _=>rfl) rfl rfl rfl)
  generalize hv1:(A0p ([p.Point.X,p.Point.Y,p.Separation,p.ID,p.NormalImpulse,p.TangentImpulse]))=v1;simp only[go_sem,D2];have hd:J9 p=((decide (p.NormalImpulse<0))||(!v1)):=by(unfold J9;exact hd_)
  try rw[hd]
 ·rw[if_neg h1]
  (repeat(with_reducible refine And.intro ?_ ?_;exact aI_))
  have hd:J9 p=true:=by(unfold J9;exact hd_)
  try rw[hd]
def G8(m:Manifold):Bool:=if(((decide ((m.Points.length:Int)<1))||(decide (2<(m.Points.length:Int))))||(((m.Points.length:Int)==2)&&((m.Points.getD 0 default).ID==(m.Points.getD 1 default).ID)))=false then(let v1:=(A0p ([m.Normal.X,m.Normal.Y]));if((((decide ((m.Points.length:Int)<1))||(decide (2<(m.Points.length:Int))))||(((m.Points.length:Int)==2)&&((m.Points.getD 0 default).ID==(m.Points.getD 1 default).ID)))||(!v1))=true then(false)else((!(m.Points.any (λx=>(J9 x))))))else(false)
theorem C3n(m:Manifold)(hl:m.Points.length<=1048576):A1 Tryz.prog C31 [.agg m.enc] [] (sB (G8 m)) []:=by
 refine en1 hm A4 Tryz.func144 rfl rfl ?_;simp only[go_sem,C0,D2,B3]
 (repeat(with_reducible refine And.intro ?_ ?_;exact aI_))
 by_cases h1:(((decide ((m.Points.length:Int)<1))||(decide (2<(m.Points.length:Int))))||(((m.Points.length:Int)==2)&&((m.Points.getD 0 default).ID==(m.Points.getD 1 default).ID)))=false
 ·rw[if_pos h1]
  (repeat(with_reducible refine And.intro ?_ ?_;exact aI_))
  refine A5d (B7p ([m.Normal.X,m.Normal.Y]) (by((simp_all;done)))) rfl ?_ ?_
  ·(try simp only[A02,go_sem]);all_goals((repeat' (with_reducible apply And.intro)) <;> exact A2h (λ_ _=>rfl) rfl rfl rfl)
  generalize hv1:(A0p ([m.Normal.X,m.Normal.Y]))=v1;simp only[go_sem,D2,B3];by_cases h2:((((decide ((m.Points.length:Int)<1))||(decide (2<(m.Points.length:Int))))||(((m.Points.length:Int)==2)&&((m.Points.getD 0 default).ID==(m.Points.getD 1 default).ID)))||(!v1))=true
  ·rw[if_pos h2];have hd:G8 m=false:=by(unfold G8;exact hd_)
   try rw[hd]
  ·rw[if_neg h2];refine A0 (B04 m.Points A9x [] [] [] (λx=>(J9 x)) (by(omega)) D1t (by simp[AV.ids,F4]) (λx _=>B84 x)) rfl ?_;simp only[go_sem];have hd:G8 m=(!(m.Points.any (λx=>(J9 x)))):=by(unfold G8;exact hd_)
   try rw[hd]
 ·rw[if_neg h1];have hd:G8 m=false:=by(unfold G8;exact hd_)
  try rw[hd]
  try simp only[go_sem]
  exact A3c
def A2t(m:Manifold)(i1:Nat)(s1:Unit):(Unit) ⊕ (Bool):=let v4:=(A2r (m.Points.getD i1 default).Point);let v5:=(A2r (⟨(m.Points.getD i1 default).Separation,(m.Points.getD i1 default).ID⟩:Vec));if((((!(inR (m.Points.getD i1 default).NormalImpulse 0 536870911))||(!(inR (m.Points.getD i1 default).TangentImpulse (-536870911) 536870911)))||(!v4))||(!v5))=true then(.inr false)else(.inl ())
def A1p(m:Manifold):Bool:=let v1:=(A2r m.Normal);if((((decide ((m.Points.length:Int)<1))||(decide (2<(m.Points.length:Int))))||(((m.Points.length:Int)==2)&&((m.Points.getD 0 default).ID==(m.Points.getD 1 default).ID)))||(!v1))=true then(false)else((match D3 (A2t m) m.Points.length ()with | .inr r=>r | .inl s1=>true))
theorem D2a(m:Manifold)(hl:m.Points.length<=1048576):A1 Tryz.prog D2i [.agg m.enc] [] (sB (A1p m)) []:=by
 refine en1 hm A4 Tryz.func84 rfl rfl ?_;have:=λx1 x2=>cx_ (C0w ⟨x1,x2⟩)
 have:=C0w
 have:=C4o
 have:=A1p.eq_1 m
 have:=λi_ s_=>A2t.eq_1 m i_ s_
 have:=λx_ Q_ σ_=> @lp_ Tryz.prog Tryz.f84.ntmps [] x_ Q_ σ_ hm (IE (A2t m) ()) (λ_=>True) m.Points.length (λi_=> [(1, .share, .ptr 32 0 0 1),(3, .share,sI (m.Points.length:Int)),(4, .share,sI (i_:Int))]) (λi_=> [(32, .box [sI m.Normal.X,sI m.Normal.Y,A2 6 ContactPoint.enc default m.Points])]) [] rfl (λ_ _=>trivial) (by simp[go_sem]) (by simp[go_sem,A6]) (by simp[go_sem]);exact A4t
def A12(l:List Contact)(i1:Nat)(s1:(List PairKey)):(List PairKey):=(s1++ [(l.getD i1 default).Key])
def A3u(l:List Contact):(List PairKey):=let s1:=itr (A12 l) l.length [];s1
theorem F1k(l:List Contact)(hl:l.length<=1048576):A1 Tryz.prog F0h [A2 7 Contact.enc default l] [] (A2 4 PairKey.enc default (A3u l)) []:=by
 refine en1 hm A4 Tryz.func81 rfl rfl ?_;have:=A3u.eq_1 l
 have:=λi_ s_=>A12.eq_1 l i_ s_
 have:=λx_ Q_ σ_=> @lp_ Tryz.prog Tryz.f81.ntmps [] x_ Q_ σ_ hm (λ_=>True) (λi_=>((itr (A12 l) i_ [])).length<=0+1*i_) l.length (λi_=> [(0, .share,A2 7 Contact.enc default l),(3,if i_=0 then .adopt else .share, .sl 1003 0 (itr (A12 l) i_ []).length (itr (A12 l) i_ []).length),(4, .share,sI (i_:Int))]) (λi_=> [(1003, .arr 4 (A8 PairKey.enc default (itr (A12 l) i_ [])))]) [1003] trivial (λi_ hI_=>A7i (λs:(List PairKey)=>(s).length) 1 (λi s=>by(unfold A12;(repeat' split) <;> simp <;> omega)) i_ _) (by simp[go_sem]) (by simp[go_sem,A6]) (by simp[go_sem]);exact A4t
theorem G0f(l:List Contact):A3u l=l.map λc=>c.Key:=by
 unfold A3u;simp only;rw[F27 (f:=A12 l) (g:=λs c=>s++ [c.Key]) (l:=l) default (λi s _=>rfl)];have: ∀(l:List Contact) (acc:List PairKey),l.foldl (λs c=>s++ [c.Key]) acc=acc++l.map λc=>c.Key:=by
  intro l;induction l with
  |nil=>simp
  |cons a l ih=>intro acc;simp[ih]
 rw[this];rfl
theorem F45(l:List Contact):(A3u l).length=l.length:=by rw[G0f];simp
theorem B5d(w:Api.World)(id:Int)(hw:w.Bodies.length<=1048576):A1 Tryz.prog E0b [.agg w.enc,sI id] [] (sI (H6 w id)) []:=by
 refine en1 hm A4 Tryz.func80 rfl rfl ?_;simp only[go_sem];refine A9 hm (ι:= {i:Nat // i<=w.Bodies.length/\ ∀j,j<i->((w.Bodies.getD j default).ID==id)=false}) (λi=> [(1, .share,sI id),(2, .share, .ptr 48 0 0 1),(5, .share,sI i.1)])
  (λi=> [(48, .box w.enc)]) (λi=>w.Bodies.length-i.1) ⟨0,by omega,λj hj=>by omega⟩ ?_ ?_
 ·refine D6 [] [] ?_;simp only[go_sem]
 ·rintro⟨i,hi,hs⟩;simp only[go_sem];split
  ·rename_i hlt;have hlt:i<w.Bodies.length:=by omega
   refine⟨ok_,?_⟩;cases hx:((w.Bodies.getD i default).ID==id)with
   |true=>rw[if_pos rfl];exact(A82 hlt hs hx).symm
   |false=>rw[if_neg (by simp)];refine A7 ⟨i+1,by omega,λj hj=>by rcases Nat.lt_succ_iff_lt_or_eq.1 hj with h |rfl;exact hs j h;exact hx⟩ (by show w.Bodies.length-(i+1)<w.Bodies.length-i;omega) (D6 [] [] ?_);simp only[go_sem];exact(by rw[IntKind.wrap_i64];omega)
  ·rename_i hge;exact(A4b λj hj=>hs j (by omega)).symm
theorem A2q(w:Api.World)(id:Int): -1<=H6 w id/\H6 w id<(w.Bodies.length:Int):=E8d
def A1u(w:Api.World)(j:Joint):Bool:=let v1:=(H6 w j.BodyB);let v2:=(H6 w j.BodyA);((decide (0<=v1))&&((j.Kind==5)||(decide (0<=v2))))
theorem C6w(w:Api.World)(j:Joint)(hl:w.Bodies.length<=1048576):A1 Tryz.prog C7t [.agg w.enc, .agg j.enc] [] (sB (A1u w j)) []:=by
 refine en1 hm A4 Tryz.func142 rfl rfl ?_;have:=A2q w j.BodyB
 have:=A16
 have:=A2q w j.BodyA
 have:=A1u.eq_1 w j;exact C9
def A4k(w:Api.World)(k:PairKey):Bool:=let v1:=(H6 w k.BodyA);let v2:=(H6 w k.BodyB);((((decide (0<=v1))&&(decide (0<=v2)))&&(decide (k.FixtureA<((w.Bodies.getD v1.toNat default).Fixtures.length:Int))))&&(decide (k.FixtureB<((w.Bodies.getD v2.toNat default).Fixtures.length:Int))))
theorem C3c(w:Api.World)(k:PairKey)(hl:w.Bodies.length<=1048576):A1 Tryz.prog C25 [.agg w.enc, .agg k.enc] [] (sB (A4k w k)) []:=by
 refine en1 hm A4 Tryz.func149 rfl rfl ?_;have:=A2q w k.BodyA
 have:=A16
 have:=A2q w k.BodyB
 have:=A4k.eq_1 w k;exact C9
def A08(w:Api.World)(id:Int)(n:Int):Bool:=let v1:=(H6 w id);(((decide (0<=v1))&&(decide (0<=n)))&&(decide (n<((w.Bodies.getD v1.toNat default).Fixtures.length:Int))))
theorem E4k(w:Api.World)(id:Int)(n:Int)(hl:w.Bodies.length<=1048576):A1 Tryz.prog E4n [.agg w.enc,sI id,sI n] [] (sB (A08 w id n)) []:=by
 refine en1 hm A4 Tryz.func138 rfl rfl ?_;have:=A2q w id
 have:=B5d
 have:=A08.eq_1 w id n;exact C9
def B09(w:Api.World)(l:List PairKey)(i1:Nat)(s1:Unit):(Unit) ⊕ (Bool):=let v1:=(A08 w (l.getD i1 default).BodyA (l.getD i1 default).FixtureA);let v2:=(A08 w (l.getD i1 default).BodyB (l.getD i1 default).FixtureB);if((!v1)||(!v2))=true then(.inr false)else(.inl ())
def A19(w:Api.World)(l:List PairKey):Bool:=(match D3 (B09 w l) l.length ()with | .inr r=>r | .inl s1=>true)
theorem C3x(w:Api.World)(l:List PairKey)(hl:w.Bodies.length<=1048576)(hk:l.length<=1048576):A1 Tryz.prog D9m [.agg w.enc,A2 4 PairKey.enc default l] [] (sB (A19 w l)) []:=by
 refine en1 hm A4 Tryz.func83 rfl rfl ?_;have:=E4k
 have:=A19.eq_1 w l
 have:=λi_ s_=>B09.eq_1 w l i_ s_
 have:=λx_ Q_ σ_=> @lp_ Tryz.prog Tryz.f83.ntmps [] x_ Q_ σ_ hm (IE (B09 w l) ()) (λ_=>True) l.length (λi_=> [(1, .share,A2 4 PairKey.enc default l),(2, .share, .ptr 48 0 0 1),(5, .share,sI (i_:Int))]) (λi_=> [(48, .box [sI w.Settings.TimeStep,sI w.Settings.Gravity.X,sI w.Settings.Gravity.Y,sI w.Settings.Iterations,sI w.Settings.SleepSteps,A2 20 Body.enc default w.Bodies,A2 24 Joint.enc default w.Joints,A2 7 Contact.enc default w.Contacts,A2 4 PairKey.enc default w.Overlaps,sI w.NextID,sI w.Frame])]) [] rfl (λ_ _=>trivial) (by simp[go_sem]) (by simp[go_sem,A6]) (by simp[go_sem]);exact A4t
def A4h(w:Api.World)(j:Joint):Bool:=let v1:=(H6 w j.BodyA);let v2:=(H6 w j.BodyB);(((j.BodyA==0)||(decide (0<=v1)))&&((j.BodyB==0)||(decide (0<=v2))))
theorem D6j(w:Api.World)(j:Joint)(hl:w.Bodies.length<=1048576):A1 Tryz.prog D68 [.agg w.enc, .agg j.enc] [] (sB (A4h w j)) []:=by
 refine en1 hm A4 Tryz.func79 rfl rfl ?_;have:=A2q w j.BodyA
 have:=B5d
 have:=A2q w j.BodyB
 have:=A4h.eq_1 w j;exact C9
def A35(b:Body)(i1:Nat)(s1:Unit):(Unit) ⊕ (Int):=let v2:=(A1w (b.Fixtures.getD i1 default));if(v2 != 0)=true then(.inr 13)else(.inl ())
def A4i(b:Body):Int:=if(((b.Kind != 1)&&(b.Kind != 2))&&(b.Kind != 3))=true then(10)else(let v1:=(A7j b);if v1=false then(6)else(if 4<(b.Fixtures.length:Int)then(11)else((match D3 (A35 b) b.Fixtures.length ()with | .inr r=>r | .inl s1=>let v3:=(A69 b);if v3=false then(14)else(0)))))
theorem D69(b:Body)(hb:Body.sm b):A1 Tryz.prog D74 [.agg b.enc] [] (sI (A4i b)) []:=by
 refine en1 hm A4 Tryz.func140 rfl rfl ?_;have:=hb.1
 have:=λi (h:i<b.Fixtures.length)=>hb.2 _ (B6 default h)
 have:=D8q
 have:=C2e
 have:=D2h
 have:=A4i.eq_1 b
 have:=λi_ s_=>A35.eq_1 b i_ s_
 have:=λx_ Q_ σ_=> @lp_ Tryz.prog Tryz.f140.ntmps [] x_ Q_ σ_ hm (IE (A35 b) ()) (λ_=>True) b.Fixtures.length (λi_=> [(1, .share, .ptr 32 0 0 1),(26, .share,A2 10 Fixture.enc default b.Fixtures),(27, .share,sI (b.Fixtures.length:Int)),(28, .share,sI (i_:Int))]) (λi_=> [(32, .box [sI b.ID,sI b.Kind,sI b.Transform.Position.X,sI b.Transform.Position.Y,sI b.Transform.Angle,sI b.Velocity.X,sI b.Velocity.Y,sI b.AngularVelocity,sI b.Force.X,sI b.Force.Y,sI b.Torque,sI b.LinearDamping,sI b.AngularDamping,sI b.GravityScale,sB b.Bullet,sB b.FixedRotation,sB b.NoSleep,sB b.Asleep,sI b.IdleSteps,A2 10 Fixture.enc default b.Fixtures])]) [] rfl (λ_ _=>trivial) (by simp[go_sem]) (by simp[go_sem,A6]) (by simp[go_sem]);exact A4t
def A25(b:Body)(i1:Nat)(s1:Unit):(Unit) ⊕ (Int):=let v2:=(A2f (b.Fixtures.getD i1 default));if(v2 != 0)=true then(.inr 13)else(.inl ())
def A0h(b:Body):Int:=if(((b.Kind != 1)&&(b.Kind != 2))&&(b.Kind != 3))=true then(10)else(let v1:=(A5y b);if v1=false then(6)else(if 4<(b.Fixtures.length:Int)then(11)else((match D3 (A25 b) b.Fixtures.length ()with | .inr r=>r | .inl s1=>if((((b.Kind==1)&&(((!((b.Velocity.X==0)&&(b.Velocity.Y==0)))||(b.AngularVelocity != 0))||((!((b.Force.X==0)&&(b.Force.Y==0)))||(b.Torque != 0))))||((b.Kind != 3)&&(b.Asleep||b.Bullet)))||(b.Asleep&&((!((b.Velocity.X==0)&&(b.Velocity.Y==0)))||(b.AngularVelocity != 0))))=true then(14)else(0)))))
theorem D9h(b:Body)(hb:Body.sm b):A1 Tryz.prog E0a [.agg b.enc] [] (sI (A0h b)) []:=by
 refine en1 hm A4 Tryz.func77 rfl rfl ?_;have:=hb.1
 have:=λi (h:i<b.Fixtures.length)=>hb.2 _ (B6 default h)
 have:=E1z
 have:=C37
 have:=A0h.eq_1 b
 have:=λi_ s_=>A25.eq_1 b i_ s_
 have:=λx_ Q_ σ_=> @lp_ Tryz.prog Tryz.f77.ntmps [] x_ Q_ σ_ hm (IE (A25 b) ()) (λ_=>True) b.Fixtures.length (λi_=> [(1, .share, .ptr 32 0 0 1),(3, .share,sI (i_:Int))]) (λi_=> [(32, .box [sI b.ID,sI b.Kind,sI b.Transform.Position.X,sI b.Transform.Position.Y,sI b.Transform.Angle,sI b.Velocity.X,sI b.Velocity.Y,sI b.AngularVelocity,sI b.Force.X,sI b.Force.Y,sI b.Torque,sI b.LinearDamping,sI b.AngularDamping,sI b.GravityScale,sB b.Bullet,sB b.FixedRotation,sB b.NoSleep,sB b.Asleep,sI b.IdleSteps,A2 10 Fixture.enc default b.Fixtures])]) [] rfl (λ_ _=>trivial) (by simp[go_sem]) (by simp[go_sem,A6]) (by simp[go_sem]);exact A4t
def O9(j:Joint)(i1:Nat)(s1:Unit):(Unit) ⊕ (Bool):=if(inR ([j.Impulses.I0,j.Impulses.I1,j.Impulses.I2,j.Impulses.I3].getD i1 0) (-536870911) 536870911)=false then(.inr false)else(.inl ())
def O8(j:Joint)(i2:Nat)(s2:Unit):(Unit) ⊕ (Bool):=if(inR ([j.Impulses.I0,j.Impulses.I1,j.Impulses.I2,j.Impulses.I3].getD i2 0) (-536870911) 536870911)=false then(.inr false)else(.inl ())
def L0(j:Joint):Bool:=if(j.Kind==5)=true then(let v1:=(O5 j.Kind);(match D3 (O9 j) 4 ()with | .inr r=>r | .inl s1=>let v4:=(N5 j.AnchorA 268435456);let v5:=(N5 j.AnchorB 1048576);(((((((((((inR j.ID 1 1099511627776)&&v4)&&v5)&&(inR j.ReferenceAngle (-205888) 205887))&&(inR j.Lower v1.1 v1.2))&&(inR j.Upper v1.1 v1.2))&&(decide (j.Lower<=j.Upper)))&&(inR j.MotorSpeed (-16777216) 16777216))&&(inR j.MaxForce 0 536870911))&&(inR j.Softness 0 536870911))&&(inR j.BreakForce 0 536870911))))else(let v13:=(O5 j.Kind);(match D3 (O8 j) 4 ()with | .inr r=>r | .inl s2=>let v16:=(N5 j.AnchorA 1048576);let v17:=(N5 j.AnchorB 1048576);(((((((((((inR j.ID 1 1099511627776)&&v16)&&v17)&&(inR j.ReferenceAngle (-205888) 205887))&&(inR j.Lower v13.1 v13.2))&&(inR j.Upper v13.1 v13.2))&&(decide (j.Lower<=j.Upper)))&&(inR j.MotorSpeed (-16777216) 16777216))&&(inR j.MaxForce 0 536870911))&&(inR j.Softness 0 536870911))&&(inR j.BreakForce 0 536870911))))
theorem C2m(j:Joint):A1 Tryz.prog C2k [.agg j.enc] [] (sB (L0 j)) []:=by
 refine en1 hm A4 Tryz.func229 rfl rfl ?_;simp only[go_sem];by_cases h1:(j.Kind==5)=true
 ·rw[if_pos h1];refine A0 (B6j j.Kind) rfl ?_;generalize hv1:(O5 j.Kind)=v1;simp only[go_sem];refine A9 hm (ι:= {p:Nat×Unit // p.1<=4/\D3 (O9 j) p.1 ()= .inl p.2}) (λi=> [(1, .share, .ptr 32 0 0 1),(3, .share,sI 268435456),(4, .share,sI v1.1),(5, .share,sI v1.2),(18, .share, .agg [sI j.Impulses.I0,sI j.Impulses.I1,sI j.Impulses.I2,sI j.Impulses.I3]),(19, .share,sI (i.1.1:Int))]) (λi=> [(32, .box [sI j.ID,sI j.Kind,sI j.BodyA,sI j.BodyB,sI j.AnchorA.X,sI j.AnchorA.Y,sI j.AnchorB.X,sI j.AnchorB.Y,sI j.Axis.X,sI j.Axis.Y,sI j.ReferenceAngle,sB j.EnableLimit,sI j.Lower,sI j.Upper,sB j.EnableMotor,sI j.MotorSpeed,sI j.MaxForce,sI j.Softness,sI j.BreakForce,sB j.CollideConnected,sI j.Impulses.I0,sI j.Impulses.I1,sI j.Impulses.I2,sI j.Impulses.I3])]) (λi=>4-i.1.1) ⟨(0,()),by omega,rfl⟩ ?_ ?_
  ·refine D6 [] [] ?_;simp only[go_sem]
  ·rintro⟨⟨i1,s1⟩,hi1,hs1⟩;replace hi1:i1<=4:=hi1;replace hs1:D3 (O9 j) i1 ()= .inl s1:=hs1;simp only[go_sem];by_cases h2:(i1:Int)<4
   ·rw[if_pos h2];have hlt1:i1<4:=by omega
    (repeat(with_reducible refine And.intro ?_ ?_;exact aI_))
    rw[F7d (show i1<4 by omega)];refine A0 (I8 ([j.Impulses.I0,j.Impulses.I1,j.Impulses.I2,j.Impulses.I3].getD i1 0) (-536870911) 536870911) rfl ?_;simp only[go_sem];by_cases h3:(inR ([j.Impulses.I0,j.Impulses.I1,j.Impulses.I2,j.Impulses.I3].getD i1 0) (-536870911) 536870911)=false
    ·rw[if_pos h3];have e1:D3 (O9 j) (i1+1) ()= .inr false:=N1 hs1 (by(unfold O9;exact hd_));replace e1:=Y4 e1 (show i1+1<=4 by omega);have hd:L0 j=false:=by(unfold L0;exact hd_)
     try rw[hd]
    ·rw[if_neg h3];have hn:D3 (O9 j) (i1+1) ()= .inl ():=N1 hs1 (by(unfold O9;exact hd_));refine A7 ⟨(i1+1,()),by omega,hn⟩ (by show 4-(i1+1)<4-i1;omega) (D6 [] [] ?_);simp only[go_sem];exact A3c
   ·rw[if_neg h2];have hge:i1=4:=by omega
    subst hge;refine A0 (I8 j.ID 1 1099511627776) rfl ?_;simp only[go_sem];refine A0 (A42 j.AnchorA 268435456) rfl ?_;generalize hv4:(N5 j.AnchorA 268435456)=v4;simp only[go_sem,C0,B3];refine A0 (A42 j.AnchorB 1048576) rfl ?_;generalize hv5:(N5 j.AnchorB 1048576)=v5;simp only[go_sem,C0,B3];refine A0 (I8 j.ReferenceAngle (-205888) 205887) rfl ?_;simp only[go_sem,C0,B3];refine A0 (I8 j.Lower v1.1 v1.2) rfl ?_;simp only[go_sem,C0,B3];refine A0 (I8 j.Upper v1.1 v1.2) rfl ?_;simp only[go_sem,C0,B3];refine A0 (I8 j.MotorSpeed (-16777216) 16777216) rfl ?_;simp only[go_sem,C0,B3];refine A0 (I8 j.MaxForce 0 536870911) rfl ?_;simp only[go_sem,C0,B3];refine A0 (I8 j.Softness 0 536870911) rfl ?_;simp only[go_sem,C0,B3];refine A0 (I8 j.BreakForce 0 536870911) rfl ?_;simp only[go_sem,C0,B3];have hd:L0 j=(((((((((((inR j.ID 1 1099511627776)&&v4)&&v5)&&(inR j.ReferenceAngle (-205888) 205887))&&(inR j.Lower v1.1 v1.2))&&(inR j.Upper v1.1 v1.2))&&(decide (j.Lower<=j.Upper)))&&(inR j.MotorSpeed (-16777216) 16777216))&&(inR j.MaxForce 0 536870911))&&(inR j.Softness 0 536870911))&&(inR j.BreakForce 0 536870911)):=by(unfold L0;exact hd_)
    try rw[hd]
 ·rw[if_neg h1];refine A0 (B6j j.Kind) rfl ?_;generalize hv13:(O5 j.Kind)=v13;simp only[go_sem];refine A9 hm (ι:= {p:Nat×Unit // p.1<=4/\D3 (O8 j) p.1 ()= .inl p.2}) (λi=> [(1, .share, .ptr 32 0 0 1),(3, .share,sI 1048576),(4, .share,sI v13.1),(5, .share,sI v13.2),(18, .share, .agg [sI j.Impulses.I0,sI j.Impulses.I1,sI j.Impulses.I2,sI j.Impulses.I3]),(19, .share,sI (i.1.1:Int))]) (λi=> [(32, .box [sI j.ID,sI j.Kind,sI j.BodyA,sI j.BodyB,sI j.AnchorA.X,sI j.AnchorA.Y,sI j.AnchorB.X,sI j.AnchorB.Y,sI j.Axis.X,sI j.Axis.Y,sI j.ReferenceAngle,sB j.EnableLimit,sI j.Lower,sI j.Upper,sB j.EnableMotor,sI j.MotorSpeed,sI j.MaxForce,sI j.Softness,sI j.BreakForce,sB j.CollideConnected,sI j.Impulses.I0,sI j.Impulses.I1,sI j.Impulses.I2,sI j.Impulses.I3])]) (λi=>4-i.1.1) ⟨(0,()),by omega,rfl⟩ ?_ ?_
  ·refine D6 [] [] ?_;simp only[go_sem]
  ·rintro⟨⟨i2,s2⟩,hi2,hs2⟩;replace hi2:i2<=4:=hi2;replace hs2:D3 (O8 j) i2 ()= .inl s2:=hs2;simp only[go_sem];by_cases h4:(i2:Int)<4
   ·rw[if_pos h4];have hlt2:i2<4:=by omega
    (repeat(with_reducible refine And.intro ?_ ?_;exact aI_))
    rw[F7d (show i2<4 by omega)];refine A0 (I8 ([j.Impulses.I0,j.Impulses.I1,j.Impulses.I2,j.Impulses.I3].getD i2 0) (-536870911) 536870911) rfl ?_;simp only[go_sem];by_cases h5:(inR ([j.Impulses.I0,j.Impulses.I1,j.Impulses.I2,j.Impulses.I3].getD i2 0) (-536870911) 536870911)=false
    ·rw[if_pos h5];have e2:D3 (O8 j) (i2+1) ()= .inr false:=N1 hs2 (by(unfold O8;exact hd_));replace e2:=Y4 e2 (show i2+1<=4 by omega);have hd:L0 j=false:=by(unfold L0;exact hd_)
     try rw[hd]
    ·rw[if_neg h5];have hn:D3 (O8 j) (i2+1) ()= .inl ():=N1 hs2 (by(unfold O8;exact hd_));refine A7 ⟨(i2+1,()),by omega,hn⟩ (by show 4-(i2+1)<4-i2;omega) (D6 [] [] ?_);simp only[go_sem];exact A3c
   ·rw[if_neg h4];have hge:i2=4:=by omega
    subst hge;refine A0 (I8 j.ID 1 1099511627776) rfl ?_;simp only[go_sem];refine A0 (A42 j.AnchorA 1048576) rfl ?_;generalize hv16:(N5 j.AnchorA 1048576)=v16;simp only[go_sem,C0,B3];refine A0 (A42 j.AnchorB 1048576) rfl ?_;generalize hv17:(N5 j.AnchorB 1048576)=v17;simp only[go_sem,C0,B3];refine A0 (I8 j.ReferenceAngle (-205888) 205887) rfl ?_;simp only[go_sem,C0,B3];refine A0 (I8 j.Lower v13.1 v13.2) rfl ?_;simp only[go_sem,C0,B3];refine A0 (I8 j.Upper v13.1 v13.2) rfl ?_;simp only[go_sem,C0,B3];refine A0 (I8 j.MotorSpeed (-16777216) 16777216) rfl ?_;simp only[go_sem,C0,B3];refine A0 (I8 j.MaxForce 0 536870911) rfl ?_;simp only[go_sem,C0,B3];refine A0 (I8 j.Softness 0 536870911) rfl ?_;simp only[go_sem,C0,B3];refine A0 (I8 j.BreakForce 0 536870911) rfl ?_;simp only[go_sem,C0,B3];have hd:L0 j=(((((((((((inR j.ID 1 1099511627776)&&v16)&&v17)&&(inR j.ReferenceAngle (-205888) 205887))&&(inR j.Lower v13.1 v13.2))&&(inR j.Upper v13.1 v13.2))&&(decide (j.Lower<=j.Upper)))&&(inR j.MotorSpeed (-16777216) 16777216))&&(inR j.MaxForce 0 536870911))&&(inR j.Softness 0 536870911))&&(inR j.BreakForce 0 536870911)):=by(unfold L0;exact hd_)
    try rw[hd]
def N6(j:Joint)(i1:Nat)(s1:Unit):(Unit) ⊕ (Bool):=if(inR ([j.Impulses.I0,j.Impulses.I1,j.Impulses.I2,j.Impulses.I3].getD i1 0) (-536870911) 536870911)=false then(.inr false)else(.inl ())
def Q0(j:Joint)(i2:Nat)(s2:Unit):(Unit) ⊕ (Bool):=if(inR ([j.Impulses.I0,j.Impulses.I1,j.Impulses.I2,j.Impulses.I3].getD i2 0) (-536870911) 536870911)=false then(.inr false)else(.inl ())
def K1(j:Joint):Bool:=if(j.Kind==5)=true then((match D3 (N6 j) 4 ()with | .inr r=>r | .inl s1=>let v3:=(X4 j.AnchorA 268435456);let v4:=(X4 j.AnchorB 1048576);let v6:=(A0r j);if(((((!(inR j.ID 1 1099511627776))||(!v3))||(!v4))||(!(inR j.ReferenceAngle (-205888) 205887)))||(!v6))=true then(false)else(((((inR j.MotorSpeed (-16777216) 16777216)&&(inR j.MaxForce 0 536870911))&&(inR j.Softness 0 536870911))&&(inR j.BreakForce 0 536870911)))))else((match D3 (Q0 j) 4 ()with | .inr r=>r | .inl s2=>let v13:=(X4 j.AnchorA 1048576);let v14:=(X4 j.AnchorB 1048576);let v16:=(A0r j);if(((((!(inR j.ID 1 1099511627776))||(!v13))||(!v14))||(!(inR j.ReferenceAngle (-205888) 205887)))||(!v16))=true then(false)else(((((inR j.MotorSpeed (-16777216) 16777216)&&(inR j.MaxForce 0 536870911))&&(inR j.Softness 0 536870911))&&(inR j.BreakForce 0 536870911)))))
theorem D22(j:Joint):A1 Tryz.prog D2w [.agg j.enc] [] (sB (K1 j)) []:=by
 refine en1 hm A4 Tryz.func134 rfl rfl ?_;simp only[go_sem];by_cases h1:(j.Kind==5)=true
 ·rw[if_pos h1];refine A9 hm (ι:= {p:Nat×Unit // p.1<=4/\D3 (N6 j) p.1 ()= .inl p.2}) (λi=> [(1, .share, .ptr 32 0 0 1),(3, .share,sI 268435456),(4, .share,sI (i.1.1:Int))]) (λi=> [(32, .box [sI j.ID,sI j.Kind,sI j.BodyA,sI j.BodyB,sI j.AnchorA.X,sI j.AnchorA.Y,sI j.AnchorB.X,sI j.AnchorB.Y,sI j.Axis.X,sI j.Axis.Y,sI j.ReferenceAngle,sB j.EnableLimit,sI j.Lower,sI j.Upper,sB j.EnableMotor,sI j.MotorSpeed,sI j.MaxForce,sI j.Softness,sI j.BreakForce,sB j.CollideConnected,sI j.Impulses.I0,sI j.Impulses.I1,sI j.Impulses.I2,sI j.Impulses.I3])]) (λi=>4-i.1.1) ⟨(0,()),by omega,rfl⟩ ?_ ?_
  ·refine D6 [] [] ?_;simp only[go_sem]
  ·rintro⟨⟨i1,s1⟩,hi1,hs1⟩;replace hi1:i1<=4:=hi1;replace hs1:D3 (N6 j) i1 ()= .inl s1:=hs1;simp only[go_sem];by_cases h2:(i1:Int)<4
   ·rw[if_pos h2];have hlt1:i1<4:=by omega
    (repeat(with_reducible refine And.intro ?_ ?_;exact aI_))
    simp only[F7j (show i1<4 by omega),go_sem];refine A0 (O3 ([j.Impulses.I0,j.Impulses.I1,j.Impulses.I2,j.Impulses.I3].getD i1 0) (-536870911) 536870911) rfl ?_;simp only[go_sem];by_cases h3:(inR ([j.Impulses.I0,j.Impulses.I1,j.Impulses.I2,j.Impulses.I3].getD i1 0) (-536870911) 536870911)=false
    ·rw[if_pos h3];have e1:D3 (N6 j) (i1+1) ()= .inr false:=N1 hs1 (by(unfold N6;exact hd_));replace e1:=Y4 e1 (show i1+1<=4 by omega);have hd:K1 j=false:=by(unfold K1;exact hd_)
     try rw[hd]
    ·rw[if_neg h3];have hn:D3 (N6 j) (i1+1) ()= .inl ():=N1 hs1 (by(unfold N6;exact hd_));refine A7 ⟨(i1+1,()),by omega,hn⟩ (by show 4-(i1+1)<4-i1;omega) (D6 [] [] ?_);simp only[go_sem];exact A3c
   ·rw[if_neg h2];have hge:i1=4:=by omega
    subst hge;refine A0 (O3 j.ID 1 1099511627776) rfl ?_;simp only[go_sem];refine A0 (B0r j.AnchorA 268435456) rfl ?_;generalize hv3:(X4 j.AnchorA 268435456)=v3;simp only[go_sem,D2,D8];refine A0 (B0r j.AnchorB 1048576) rfl ?_;generalize hv4:(X4 j.AnchorB 1048576)=v4;simp only[go_sem,D2,B3];refine A0 (O3 j.ReferenceAngle (-205888) 205887) rfl ?_;simp only[go_sem,D2,B3];refine A0 (B7r j) rfl ?_;generalize hv6:(A0r j)=v6;simp only[go_sem,D2,B3];by_cases h4:(((((!(inR j.ID 1 1099511627776))||(!v3))||(!v4))||(!(inR j.ReferenceAngle (-205888) 205887)))||(!v6))=true
    ·rw[if_pos h4];have hd:K1 j=false:=by(unfold K1;exact hd_)
     try rw[hd]
    ·rw[if_neg h4];refine A0 (O3 j.MotorSpeed (-16777216) 16777216) rfl ?_;simp only[go_sem];refine A0 (O3 j.MaxForce 0 536870911) rfl ?_;simp only[go_sem,C0,B3];refine A0 (O3 j.Softness 0 536870911) rfl ?_;simp only[go_sem,C0,B3];refine A0 (O3 j.BreakForce 0 536870911) rfl ?_;simp only[go_sem,C0,B3];have hd:K1 j=((((inR j.MotorSpeed (-16777216) 16777216)&&(inR j.MaxForce 0 536870911))&&(inR j.Softness 0 536870911))&&(inR j.BreakForce 0 536870911)):=by(unfold K1;exact hd_)
     try rw[hd]
 ·rw[if_neg h1];refine A9 hm (ι:= {p:Nat×Unit // p.1<=4/\D3 (Q0 j) p.1 ()= .inl p.2}) (λi=> [(1, .share, .ptr 32 0 0 1),(3, .share,sI 1048576),(4, .share,sI (i.1.1:Int))]) (λi=> [(32, .box [sI j.ID,sI j.Kind,sI j.BodyA,sI j.BodyB,sI j.AnchorA.X,sI j.AnchorA.Y,sI j.AnchorB.X,sI j.AnchorB.Y,sI j.Axis.X,sI j.Axis.Y,sI j.ReferenceAngle,sB j.EnableLimit,sI j.Lower,sI j.Upper,sB j.EnableMotor,sI j.MotorSpeed,sI j.MaxForce,sI j.Softness,sI j.BreakForce,sB j.CollideConnected,sI j.Impulses.I0,sI j.Impulses.I1,sI j.Impulses.I2,sI j.Impulses.I3])]) (λi=>4-i.1.1) ⟨(0,()),by omega,rfl⟩ ?_ ?_
  ·refine D6 [] [] ?_;simp only[go_sem]
  ·rintro⟨⟨i2,s2⟩,hi2,hs2⟩;replace hi2:i2<=4:=hi2;replace hs2:D3 (Q0 j) i2 ()= .inl s2:=hs2;simp only[go_sem];by_cases h5:(i2:Int)<4
   ·rw[if_pos h5];have hlt2:i2<4:=by omega
    (repeat(with_reducible refine And.intro ?_ ?_;exact aI_))
    simp only[F7j (show i2<4 by omega),go_sem];refine A0 (O3 ([j.Impulses.I0,j.Impulses.I1,j.Impulses.I2,j.Impulses.I3].getD i2 0) (-536870911) 536870911) rfl ?_;simp only[go_sem];by_cases h6:(inR ([j.Impulses.I0,j.Impulses.I1,j.Impulses.I2,j.Impulses.I3].getD i2 0) (-536870911) 536870911)=false
    ·rw[if_pos h6];have e2:D3 (Q0 j) (i2+1) ()= .inr false:=N1 hs2 (by(unfold Q0;exact hd_));replace e2:=Y4 e2 (show i2+1<=4 by omega);have hd:K1 j=false:=by(unfold K1;exact hd_)
     try rw[hd]
    ·rw[if_neg h6];have hn:D3 (Q0 j) (i2+1) ()= .inl ():=N1 hs2 (by(unfold Q0;exact hd_));refine A7 ⟨(i2+1,()),by omega,hn⟩ (by show 4-(i2+1)<4-i2;omega) (D6 [] [] ?_);simp only[go_sem];exact A3c
   ·rw[if_neg h5];have hge:i2=4:=by omega
    subst hge;refine A0 (O3 j.ID 1 1099511627776) rfl ?_;simp only[go_sem];refine A0 (B0r j.AnchorA 1048576) rfl ?_;generalize hv13:(X4 j.AnchorA 1048576)=v13;simp only[go_sem,D2,D8];refine A0 (B0r j.AnchorB 1048576) rfl ?_;generalize hv14:(X4 j.AnchorB 1048576)=v14;simp only[go_sem,D2,B3];refine A0 (O3 j.ReferenceAngle (-205888) 205887) rfl ?_;simp only[go_sem,D2,B3];refine A0 (B7r j) rfl ?_;generalize hv16:(A0r j)=v16;simp only[go_sem,D2,B3];by_cases h7:(((((!(inR j.ID 1 1099511627776))||(!v13))||(!v14))||(!(inR j.ReferenceAngle (-205888) 205887)))||(!v16))=true
    ·rw[if_pos h7];have hd:K1 j=false:=by(unfold K1;exact hd_)
     try rw[hd]
    ·rw[if_neg h7];refine A0 (O3 j.MotorSpeed (-16777216) 16777216) rfl ?_;simp only[go_sem];refine A0 (O3 j.MaxForce 0 536870911) rfl ?_;simp only[go_sem,C0,B3];refine A0 (O3 j.Softness 0 536870911) rfl ?_;simp only[go_sem,C0,B3];refine A0 (O3 j.BreakForce 0 536870911) rfl ?_;simp only[go_sem,C0,B3];have hd:K1 j=((((inR j.MotorSpeed (-16777216) 16777216)&&(inR j.MaxForce 0 536870911))&&(inR j.Softness 0 536870911))&&(inR j.BreakForce 0 536870911)):=by(unfold K1;exact hd_)
     try rw[hd]
def A3p(j:Joint):Int:=if((decide (j.Kind<1))||(decide (5<j.Kind)))=true then(10)else(let v1:=(L0 j);if v1=false then(6)else(let v2:=(A5q j);if v2=false then(14)else(let v3:=(A45 j);if v3=true then(15)else(0))))
theorem D4u(j:Joint):A1 Tryz.prog D5r [.agg j.enc] [] (sI (A3p j)) []:=by
 refine en1 hm A4 Tryz.func141 rfl rfl ?_;have:=C2m
 have:=C7q
 have:=C55
 have:=A3p.eq_1 j;exact C9
def X9(j:Joint):Int:=if((decide (j.Kind<1))||(decide (5<j.Kind)))=true then(10)else(let v1:=(K1 j);if v1=false then(6)else(if(((!(inR j.BodyB 1 1099511627776))||((j.Kind==5)&&(j.BodyA != 0)))||((j.Kind != 5)&&((!(inR j.BodyA 1 1099511627776))||(j.BodyA==j.BodyB))))=true then(14)else(let v4:=(A32 j.Axis);if(((j.Kind==3)&&(!(inR v4 65520 65552)))||((j.Kind != 3)&&(!((j.Axis.X==0)&&(j.Axis.Y==0)))))=true then(15)else(if(((((j.Kind==1)||((j.Kind==4)||(j.Kind==5)))&&j.EnableMotor)||(((j.Kind==4)||(j.Kind==5))&&j.EnableLimit))||((j.Kind==1)&&(!j.EnableLimit)))=true then(15)else(0)))))
theorem D8x(j:Joint):A1 Tryz.prog D9i [.agg j.enc] [] (sI (X9 j)) []:=by
 refine en1 hm A4 Tryz.func78 rfl rfl ?_;have:=D22
 have:=O3
 have:=B9u
 have:=X9.eq_1 j;exact C9
def P8(w:Api.World)(i1:Nat)(s1:Int):(Int) ⊕ (Bool):=let v1:=(A4i (w.Bodies.getD i1 default));if(((v1 != 0)||(decide (w.NextID<=(w.Bodies.getD i1 default).ID)))||(decide ((w.Bodies.getD i1 default).ID<=s1)))=true then(.inr false)else(.inl (w.Bodies.getD i1 default).ID)
def W7(w:Api.World):Bool:=(match D3 (P8 w) w.Bodies.length 0 with | .inr r=>r | .inl s1=>true)
theorem C66(w:Api.World)(hw:Wsm w):A1 Tryz.prog C7n [.agg w.enc] [] (sB (W7 w)) []:=by
 have hw1:=hw.1;refine en1 hm A4 Tryz.func87 rfl rfl ?_;simp only[go_sem];refine A9 hm (ι:= {p:Nat×Int // p.1<=w.Bodies.length/\D3 (P8 w) p.1 0= .inl p.2}) (λi=> [(1, .share, .ptr 32 0 0 1),(3, .share,sI i.1.2),(7, .share,A2 20 Body.enc default w.Bodies),(8, .share,sI (w.Bodies.length:Int)),(9, .share,sI (i.1.1:Int))]) (λi=> [(32, .box [sI w.Settings.TimeStep,sI w.Settings.Gravity.X,sI w.Settings.Gravity.Y,sI w.Settings.Iterations,sI w.Settings.SleepSteps,A2 20 Body.enc default w.Bodies,A2 24 Joint.enc default w.Joints,A2 7 Contact.enc default w.Contacts,A2 4 PairKey.enc default w.Overlaps,sI w.NextID,sI w.Frame])]) (λi=>w.Bodies.length-i.1.1) ⟨(0,0),by omega,rfl⟩ ?_ ?_
 ·refine D6 [] [] ?_;simp only[go_sem]
 ·rintro⟨⟨i1,s1⟩,hi1,hs1⟩;replace hi1:i1<=w.Bodies.length:=hi1;replace hs1:D3 (P8 w) i1 0= .inl s1:=hs1;simp only[go_sem];by_cases h1:(i1:Int)<(w.Bodies.length:Int)
  ·rw[if_pos h1];have hlt1:i1<w.Bodies.length:=by omega
   (repeat(with_reducible refine And.intro ?_ ?_;exact aI_))
   refine A0 (D69 (w.Bodies.getD i1 default) (by(exact hw.2.2.2.2.1 _ (B6 _ (by omega))))) rfl ?_;generalize hv1:(A4i (w.Bodies.getD i1 default))=v1;simp only[go_sem,D2,B3];by_cases h2:(((v1 != 0)||(decide (w.NextID<=(w.Bodies.getD i1 default).ID)))||(decide ((w.Bodies.getD i1 default).ID<=s1)))=true
   ·rw[if_pos h2];have e1:D3 (P8 w) (i1+1) 0= .inr false:=N1 hs1 (by(unfold P8;exact hd_));replace e1:=Y4 e1 (show i1+1<=w.Bodies.length by omega);have hd:W7 w=false:=by(unfold W7;exact hd_)
    try rw[hd]
   ·rw[if_neg h2];have hn:D3 (P8 w) (i1+1) 0= .inl (w.Bodies.getD i1 default).ID:=N1 hs1 (by(unfold P8;exact hd_));refine A7 ⟨(i1+1,(w.Bodies.getD i1 default).ID),by omega,hn⟩ (by show w.Bodies.length-(i1+1)<w.Bodies.length-i1;omega) (D6 [] [] ?_);simp only[go_sem];exact A3c
  ·rw[if_neg h1];have hge:i1=w.Bodies.length:=by omega
   subst hge;have hd:W7 w=true:=by(unfold W7;exact hd_)
   try rw[hd]
def T0(w:Api.World)(i1:Nat)(s1:Int):(Int) ⊕ (Bool):=let v1:=(A0h (w.Bodies.getD i1 default));if(((v1 != 0)||(decide (w.NextID<=(w.Bodies.getD i1 default).ID)))||((decide (0<(i1:Int)))&&(decide ((w.Bodies.getD i1 default).ID<=s1))))=true then(.inr false)else(.inl (w.Bodies.getD i1 default).ID)
def A0m(w:Api.World):Bool:=(match D3 (T0 w) w.Bodies.length 0 with | .inr r=>r | .inl s1=>true)
theorem D28(w:Api.World)(hw:Wsm w):A1 Tryz.prog D26 [.agg w.enc] [] (sB (A0m w)) []:=by
 have hw1:=hw.1;refine en1 hm A4 Tryz.func42 rfl rfl ?_;simp only[go_sem];refine A9 hm (ι:= {p:Nat×Int // p.1<=w.Bodies.length/\D3 (T0 w) p.1 0= .inl p.2}) (λi=> [(1, .share, .ptr 32 0 0 1),(3, .share,sI i.1.2),(4, .share,sI (i.1.1:Int))]) (λi=> [(32, .box [sI w.Settings.TimeStep,sI w.Settings.Gravity.X,sI w.Settings.Gravity.Y,sI w.Settings.Iterations,sI w.Settings.SleepSteps,A2 20 Body.enc default w.Bodies,A2 24 Joint.enc default w.Joints,A2 7 Contact.enc default w.Contacts,A2 4 PairKey.enc default w.Overlaps,sI w.NextID,sI w.Frame])]) (λi=>w.Bodies.length-i.1.1) ⟨(0,0),by omega,rfl⟩ ?_ ?_
 ·refine D6 [] [] ?_;simp only[go_sem]
 ·rintro⟨⟨i1,s1⟩,hi1,hs1⟩;replace hi1:i1<=w.Bodies.length:=hi1;replace hs1:D3 (T0 w) i1 0= .inl s1:=hs1;simp only[go_sem];by_cases h1:(i1:Int)<(w.Bodies.length:Int)
  ·rw[if_pos h1];have hlt1:i1<w.Bodies.length:=by omega
   (repeat(with_reducible refine And.intro ?_ ?_;exact aI_))
   refine A0 (D9h (w.Bodies.getD i1 default) (by(exact hw.2.2.2.2.1 _ (B6 _ (by omega))))) rfl ?_;generalize hv1:(A0h (w.Bodies.getD i1 default))=v1;simp only[go_sem,C0,D2,B3]
   (repeat(with_reducible refine And.intro ?_ ?_;exact aI_))
   by_cases h2:(((v1 != 0)||(decide (w.NextID<=(w.Bodies.getD i1 default).ID)))||((decide (0<(i1:Int)))&&(decide ((w.Bodies.getD i1 default).ID<=s1))))=true
   ·rw[if_pos h2];have e1:D3 (T0 w) (i1+1) 0= .inr false:=N1 hs1 (by(unfold T0;exact hd_));replace e1:=Y4 e1 (show i1+1<=w.Bodies.length by omega);have hd:A0m w=false:=by(unfold A0m;exact hd_)
    try rw[hd]
   ·rw[if_neg h2];have hn:D3 (T0 w) (i1+1) 0= .inl (w.Bodies.getD i1 default).ID:=N1 hs1 (by(unfold T0;exact hd_));refine A7 ⟨(i1+1,(w.Bodies.getD i1 default).ID),by omega,hn⟩ (by show w.Bodies.length-(i1+1)<w.Bodies.length-i1;omega) (D6 [] [] ?_);simp only[go_sem];exact A3c
  ·rw[if_neg h1];have hge:i1=w.Bodies.length:=by omega
   subst hge;have hd:A0m w=true:=by(unfold A0m;exact hd_)
   try rw[hd]
def Q2(w:Api.World)(i1:Nat)(s1:Int):(Int) ⊕ (Bool):=let v1:=(A3p (w.Joints.getD i1 default));let v2:=(A1u w (w.Joints.getD i1 default));let v3:=(H6 w (w.Joints.getD i1 default).ID);if(((((v1 != 0)||(decide (w.NextID<=(w.Joints.getD i1 default).ID)))||(decide ((w.Joints.getD i1 default).ID<=s1)))||(!v2))||(decide (0<=v3)))=true then(.inr false)else(.inl (w.Joints.getD i1 default).ID)
def W6(w:Api.World):Bool:=(match D3 (Q2 w) w.Joints.length 0 with | .inr r=>r | .inl s1=>true)
theorem C69(w:Api.World)(hw:Wsm w):A1 Tryz.prog C68 [.agg w.enc] [] (sB (W6 w)) []:=by
 have hw2:=hw.2.1;have hw1:=hw.1;refine en1 hm A4 Tryz.func88 rfl rfl ?_;simp only[go_sem];refine A9 hm (ι:= {p:Nat×Int // p.1<=w.Joints.length/\D3 (Q2 w) p.1 0= .inl p.2}) (λi=> [(1, .share, .ptr 32 0 0 1),(3, .share,sI i.1.2),(7, .share,A2 24 Joint.enc default w.Joints),(8, .share,sI (w.Joints.length:Int)),(9, .share,sI (i.1.1:Int))]) (λi=> [(32, .box [sI w.Settings.TimeStep,sI w.Settings.Gravity.X,sI w.Settings.Gravity.Y,sI w.Settings.Iterations,sI w.Settings.SleepSteps,A2 20 Body.enc default w.Bodies,A2 24 Joint.enc default w.Joints,A2 7 Contact.enc default w.Contacts,A2 4 PairKey.enc default w.Overlaps,sI w.NextID,sI w.Frame])]) (λi=>w.Joints.length-i.1.1) ⟨(0,0),by omega,rfl⟩ ?_ ?_
 ·refine D6 [] [] ?_;simp only[go_sem]
 ·rintro⟨⟨i1,s1⟩,hi1,hs1⟩;replace hi1:i1<=w.Joints.length:=hi1;replace hs1:D3 (Q2 w) i1 0= .inl s1:=hs1;simp only[go_sem];by_cases h1:(i1:Int)<(w.Joints.length:Int)
  ·rw[if_pos h1];have hlt1:i1<w.Joints.length:=by omega
   (repeat(with_reducible refine And.intro ?_ ?_;exact aI_))
   refine A0 (D4u (w.Joints.getD i1 default)) rfl ?_;generalize hv1:(A3p (w.Joints.getD i1 default))=v1;simp only[go_sem,D2,B3];refine A0 (C6w w (w.Joints.getD i1 default) (by(exact hw.1))) rfl ?_;generalize hv2:(A1u w (w.Joints.getD i1 default))=v2;simp only[go_sem,D2,B3];have p2:=A2q w (w.Joints.getD i1 default).ID;refine A0 (A16 w (w.Joints.getD i1 default).ID (by(exact hw.1))) rfl ?_;generalize hv3:(H6 w (w.Joints.getD i1 default).ID)=v3 at*;simp only[go_sem,D2,B3];by_cases h3:(((((v1 != 0)||(decide (w.NextID<=(w.Joints.getD i1 default).ID)))||(decide ((w.Joints.getD i1 default).ID<=s1)))||(!v2))||(decide (0<=v3)))=true
   ·rw[if_pos h3];have e1:D3 (Q2 w) (i1+1) 0= .inr false:=N1 hs1 (by(unfold Q2;exact hd_));replace e1:=Y4 e1 (show i1+1<=w.Joints.length by omega);have hd:W6 w=false:=by(unfold W6;exact hd_)
    try rw[hd]
   ·rw[if_neg h3];have hn:D3 (Q2 w) (i1+1) 0= .inl (w.Joints.getD i1 default).ID:=N1 hs1 (by(unfold Q2;exact hd_));refine A7 ⟨(i1+1,(w.Joints.getD i1 default).ID),by omega,hn⟩ (by show w.Joints.length-(i1+1)<w.Joints.length-i1;omega) (D6 [] [] ?_);simp only[go_sem];exact A3c
  ·rw[if_neg h1];have hge:i1=w.Joints.length:=by omega
   subst hge;have hd:W6 w=true:=by(unfold W6;exact hd_)
   try rw[hd]
def S9(w:Api.World)(i1:Nat)(s1:Int):(Int) ⊕ (Bool):=let v1:=(X9 (w.Joints.getD i1 default));let v2:=(A4h w (w.Joints.getD i1 default));let v3:=(H6 w (w.Joints.getD i1 default).ID);if(((((v1 != 0)||(decide (w.NextID<=(w.Joints.getD i1 default).ID)))||((decide (0<(i1:Int)))&&(decide ((w.Joints.getD i1 default).ID<=s1))))||(!v2))||(decide (0<=v3)))=true then(.inr false)else(.inl (w.Joints.getD i1 default).ID)
def A0k(w:Api.World):Bool:=(match D3 (S9 w) w.Joints.length 0 with | .inr r=>r | .inl s1=>true)
theorem D27(w:Api.World)(hw:Wsm w):A1 Tryz.prog D2d [.agg w.enc] [] (sB (A0k w)) []:=by
 have hw2:=hw.2.1;have hw1:=hw.1;refine en1 hm A4 Tryz.func43 rfl rfl ?_;simp only[go_sem];refine A9 hm (ι:= {p:Nat×Int // p.1<=w.Joints.length/\D3 (S9 w) p.1 0= .inl p.2}) (λi=> [(1, .share, .ptr 32 0 0 1),(3, .share,sI i.1.2),(4, .share,sI (i.1.1:Int))]) (λi=> [(32, .box [sI w.Settings.TimeStep,sI w.Settings.Gravity.X,sI w.Settings.Gravity.Y,sI w.Settings.Iterations,sI w.Settings.SleepSteps,A2 20 Body.enc default w.Bodies,A2 24 Joint.enc default w.Joints,A2 7 Contact.enc default w.Contacts,A2 4 PairKey.enc default w.Overlaps,sI w.NextID,sI w.Frame])]) (λi=>w.Joints.length-i.1.1) ⟨(0,0),by omega,rfl⟩ ?_ ?_
 ·refine D6 [] [] ?_;simp only[go_sem]
 ·rintro⟨⟨i1,s1⟩,hi1,hs1⟩;replace hi1:i1<=w.Joints.length:=hi1;replace hs1:D3 (S9 w) i1 0= .inl s1:=hs1;simp only[go_sem];by_cases h1:(i1:Int)<(w.Joints.length:Int)
  ·rw[if_pos h1];have hlt1:i1<w.Joints.length:=by omega
   (repeat(with_reducible refine And.intro ?_ ?_;exact aI_))
   refine A0 (D8x (w.Joints.getD i1 default)) rfl ?_;generalize hv1:(X9 (w.Joints.getD i1 default))=v1;simp only[go_sem,C0,D2,B3]
   (repeat(with_reducible refine And.intro ?_ ?_;exact aI_))
   refine A0 (D6j w (w.Joints.getD i1 default) (by(exact hw.1))) rfl ?_;generalize hv2:(A4h w (w.Joints.getD i1 default))=v2;simp only[go_sem,D2,B3];have p2:=A2q w (w.Joints.getD i1 default).ID;refine A0 (B5d w (w.Joints.getD i1 default).ID (by(exact hw.1))) rfl ?_;generalize hv3:(H6 w (w.Joints.getD i1 default).ID)=v3 at*;simp only[go_sem,D2,B3];by_cases h3:(((((v1 != 0)||(decide (w.NextID<=(w.Joints.getD i1 default).ID)))||((decide (0<(i1:Int)))&&(decide ((w.Joints.getD i1 default).ID<=s1))))||(!v2))||(decide (0<=v3)))=true
   ·rw[if_pos h3];have e1:D3 (S9 w) (i1+1) 0= .inr false:=N1 hs1 (by(unfold S9;exact hd_));replace e1:=Y4 e1 (show i1+1<=w.Joints.length by omega);have hd:A0k w=false:=by(unfold A0k;exact hd_)
    try rw[hd]
   ·rw[if_neg h3];have hn:D3 (S9 w) (i1+1) 0= .inl (w.Joints.getD i1 default).ID:=N1 hs1 (by(unfold S9;exact hd_));refine A7 ⟨(i1+1,(w.Joints.getD i1 default).ID),by omega,hn⟩ (by show w.Joints.length-(i1+1)<w.Joints.length-i1;omega) (D6 [] [] ?_);simp only[go_sem];exact A3c
  ·rw[if_neg h1];have hge:i1=w.Joints.length:=by omega
   subst hge;have hd:A0k w=true:=by(unfold A0k;exact hd_)
   try rw[hd]
def D1v(l:List PairKey):List AV:= [A2 4 PairKey.enc default l]
attribute [go_sem] D1v
theorem C98(n:Nat)(h0:0<n)(hn:n<=4194304):A1 Tryz.prog B28 [.sc (.slice none 0 0),sI n] [] (.sl 1 0 0 n) [(1, .arr 4 ⟨n,λ_=>PairKey.zero⟩)]:=by
 have w1:IntKind.i64.wrap (0-0)=0:=rfl
 have w2:IntKind.i64.wrap ((n:Int)-0)=n:=by rw[IntKind.wrap_i64];omega
 refine H8 hm A4 Tryz.func240 rfl rfl ?_;simp only[go_sem];rw[if_neg (by omega)];simp only[w1,w2];rw[if_pos (by omega)];refine⟨ok_,?_⟩;refine⟨by omega,?_⟩;simp only[Int.toNat_natCast];refine C6 [.share] [(1,368)] [] rfl rfl (by simp) (by simp) (by simp) ?_;simp only[go_sem];simp
theorem C3e(n:Nat)(hn:n<=4194304):A1 Tryz.prog B28 [.sc (.slice none 0 0),sI n] [] (.sl 1 0 0 0) [(1, .arr 4 (A8 PairKey.enc default []))]:=by
 rcases Nat.eq_zero_or_pos n with rfl |h0
 ·have w1:IntKind.i64.wrap (0-0)=0:=rfl
  refine H8 hm A4 Tryz.func240 rfl rfl ?_;simp only[go_sem];rw[if_neg (by omega)];simp only[w1];rw[if_neg (by decide)];refine C6 [.adopt] [] [1] rfl rfl (by simp) (by simp[A6]) (by simp) ?_;simp only[go_sem]
 ·exact(C98 n h0 hn).shrink rfl _
def A7e(L:List (List PairKey))(k:Nat):Nat:=((L.take k).flatten).length
theorem D6g {L:List (List PairKey)}{k:Nat}(h:k<L.length):A7e L (k+1)=A7e L k+(L.getD k default).length:=by unfold A7e;rw[K9 default h];simp
theorem C4r(L:List (List PairKey))(k:Nat):A7e L k<=L.flatten.length:=by
 unfold A7e;have:L.flatten=(L.take k).flatten++(L.drop k).flatten:=by rw[<-List.flatten_append,List.take_append_drop]
 rw[this,List.length_append];omega
theorem B93(L:List (List PairKey))(hL:L.flatten.length<=4194304)(hl:L.length<=1000):A1 Tryz.prog B92 [A2 1 D1v default L] [] (A2 4 PairKey.enc default L.flatten) []:=by
 refine en1 hm A4 Tryz.func147 rfl rfl ?_;simp only[go_sem];refine A9 hm (ι:= {i:Nat // i<=L.length}) (λi=> [(0, .share,A2 1 D1v default L),(3, .share,sI (A7e L i.1)),(9, .share,A2 1 D1v default L),(10, .share,sI L.length),(11, .share,sI i.1)])
  (λi=> []) (λi=>L.length-i.1) ⟨0,by omega⟩ ?_ ?_
 ·refine D6 [] [] ?_;simp only[go_sem];simp[A7e]
 ·rintro⟨i,hi⟩;have hs:=C4r L i;simp only[go_sem];by_cases hlt:(i:Int)<L.length
  ·rw[if_pos hlt];have hlt:i<L.length:=by omega
   have hs2:=C4r L (i+1)
   have he:=D6g hlt;refine⟨ok_,?_⟩;have hw:IntKind.i64.wrap ((A7e L i:Int)+((L.getD i default).length:Int))=(A7e L (i+1):Int):=by rw[IntKind.wrap_i64,he];omega
   rw[hw,if_neg (by omega)];refine A7 ⟨i+1,by omega⟩ (by show L.length-(i+1)<L.length-i;omega) (D6 [] [] ?_);simp only[go_sem];exact(by rw[IntKind.wrap_i64];omega)
  ·rw[if_neg hlt];obtain rfl:i=L.length:=by omega
   have hfull:A7e L L.length=L.flatten.length:=by unfold A7e;rw[List.take_length]
   refine E3 [true,true] [(1,7)] (C3e (A7e L L.length) (by omega)) (by simp) (by simp) (by simp) (by simp) ?_;simp only[go_sem];refine A9 hm (ι:= {i:Nat // i<=L.length}) (λi=> [(6, .share, .sl 7 0 (A7e L i.1) (A7e L i.1)),(25, .share,A2 1 D1v default L),(26, .share,sI L.length),(27, .share,sI i.1)])
    (λi=> [(7, .arr 4 (A8 PairKey.enc default (L.take i.1).flatten))]) (λi=>L.length-i.1) ⟨0,by omega⟩ ?_ ?_
   ·refine D6 [] [] ?_;simp only[go_sem];simp[A7e,List.take_zero,go_sem]
   ·rintro⟨i,hi⟩;have hs:=C4r L i;simp only[go_sem];by_cases hlt:(i:Int)<L.length
    ·rw[if_pos hlt];have hlt:i<L.length:=by omega
     have hs2:=C4r L (i+1)
     have he:=D6g hlt
     have hm0:(L.take i).flatten.length=A7e L i:=rfl;refine⟨ok_,?_⟩;refine⟨⟨by omega,by omega,by omega,by simp only[maxLen];omega⟩,?_⟩;refine A7 ⟨i+1,by omega⟩ (by show L.length-(i+1)<L.length-i;omega) (D6 [] [] ?_);simp only[go_sem]
     all_goals((repeat' (with_reducible apply And.intro)) <;> first |(rw[IntKind.wrap_i64];omega) |exact he.symm |exact A4f (by rw[K9 default hlt];simp))
    ·rw[if_neg hlt];obtain rfl:i=L.length:=by omega
     simp only[go_sem,List.take_length];exact⟨hfull,by rw[hfull];exact I7 _⟩
theorem E9y {α:Type}{l:List α}{p:α->Bool}{i:Nat}(d:α)(h:(l.take i).all p=true)(hi:i<l.length)(hp:p (l.getD i d)=true):(l.take (i+1)).all p=true:=by rw[K9 d hi,List.all_append,h];simpa using hp
theorem E7j {α:Type}{l:List α}{p:α->Bool}{i:Nat}(d:α)(hi:i<l.length)(hp:p (l.getD i d)=false):l.all p=false:=by rw[List.all_eq_false];exact⟨_,B6 d hi,by rw[hp];simp⟩
theorem F19 {α:Type}{l:List α}{p:α->Bool}(h:(l.take l.length).all p=true):l.all p=true:=by rwa[List.take_length]at h
def A9v(w:Api.World)(k:PairKey):Bool:= !(A4k w k)
theorem B8s(w:Api.World)(k:PairKey)(hw:w.Bodies.length<=1048576):A1 Tryz.prog A9u [.agg k.enc, .ptr 32 0 0 1] [(32, .box w.enc)] (sB (A9v w k)) [(32, .box w.enc)]:=by refine H8 hm A4 Tryz.func148 rfl rfl ?_;simp only[go_sem];refine A0 (C3c w k hw) rfl ?_;simp only[go_sem];refine C6 [.share] [] [] rfl rfl (by simp[go_sem]) (by simp[A6,go_sem]) (by simp[go_sem]) ?_;simp only[go_sem,A9v]
def A5m(w:Api.World):List PairKey:=w.Contacts.map λc=>c.Key
def A8e(w:Api.World):Bool:=w.Contacts.all (λc=>G8 c.Manifold)&&N3 (A5m w)&&N3 w.Overlaps&& !((A5m w++w.Overlaps).any (A9v w))
theorem G3l(w:Api.World):okO [(32, .box w.enc)]:=by refine⟨by simp[go_sem],?_⟩;simp[go_sem,F4,AV.ids]
theorem C3i(w:Api.World)(hw:Wsm w):A1 Tryz.prog C3g [.agg w.enc] [] (sB (A8e w)) []:=by
 obtain⟨w1,w2,w3,w4,w5,w6⟩:=hw;refine en1 hm A4 Tryz.func89 rfl rfl ?_;simp only[go_sem];refine A9 hm (ι:= {i:Nat // i<=w.Contacts.length/\(w.Contacts.take i).all (λc=>G8 c.Manifold)=true}) (λi=> [(1, .share, .ptr 32 0 0 1),(3,if i.1=0 then .adopt else .share, .sl 7 0 i.1 i.1),(7, .share,A2 7 Contact.enc default w.Contacts),(8, .share,sI w.Contacts.length),(9, .share,sI i.1)])
  (λi=> [(32, .box w.enc),(7, .arr 4 (A8 PairKey.enc default ((w.Contacts.take i.1).map λc=>c.Key)))]) (λi=>w.Contacts.length-i.1) ⟨0,by omega,rfl⟩ ?_ ?_
 ·refine D6 [] [7] ?_;simp only[go_sem,List.take_zero,List.map_nil]
 ·rintro⟨i,hi,ht⟩;simp only[go_sem];by_cases hlt:(i:Int)<w.Contacts.length
  ·rw[if_pos hlt];have hlt:i<w.Contacts.length:=by omega
   have hmm:=B6 default hlt;refine⟨ok_,?_⟩;refine A0 (C3n (w.Contacts.getD i default).Manifold (w6 _ hmm)) rfl ?_;simp only[go_sem];cases hv:G8 (w.Contacts.getD i default).Manifold with
   |false=>rw[if_pos rfl];unfold A8e;have:=E7j (p:=λc:Contact=>G8 c.Manifold) default hlt hv;rw[this];rfl
   |true=>
    rw[if_neg (by simp)];have hlen:(List.map (λc:Contact=>c.Key) (List.take i w.Contacts)).length=i:=by simp;omega
    refine⟨⟨by omega,by omega,by simp only[maxLen];omega⟩,?_⟩;refine A7 ⟨i+1,by omega,E9y default ht hlt hv⟩ (by show w.Contacts.length-(i+1)<w.Contacts.length-i;omega) (D6 [] [] ?_);simp only[go_sem];refine⟨by omega,(by rw[IntKind.wrap_i64];omega),A1y (w.Contacts.getD i default).Key rfl ?_⟩;rw[K9 default hlt,List.map_append];rfl
  ·rw[if_neg hlt];obtain rfl:i=w.Contacts.length:=by omega
   have hall:=F19 ht
   have hk:(List.map (λc:Contact=>c.Key) (List.take w.Contacts.length w.Contacts))=A5m w:=by rw[List.take_length];rfl
   have hkl:(A5m w).length=w.Contacts.length:=by simp[A5m]
   simp only[hk];refine A5d (B1o (A5m w) (by omega)) rfl ?_ ?_
   ·simp only[A02,go_sem,hkl]
   simp only[go_sem];refine A0 (B1o w.Overlaps w4) rfl ?_;simp only[go_sem,D2,D8,hk,hkl];have hok:A8e w=(N3 (A5m w)&&N3 w.Overlaps&& !((A5m w++w.Overlaps).any (A9v w))):=by unfold A8e;rw[hall,Bool.true_and]
   rw[hok];cases N3 (A5m w)with
   |false=>rfl
   |true=>
    cases N3 w.Overlaps with
    |false=>rfl
    |true=>
     rw[if_neg (by simp)];have hC:=B93 [A5m w,w.Overlaps] (by simp;omega) (by simp)
     have hflat: [A5m w,w.Overlaps].flatten=A5m w++w.Overlaps:=by simp
     rw[hflat]at hC;refine A5c hC ?_;simp only[A02,go_sem];refine⟨A2h (λ_ _=>rfl) (by simp[D1v,A2,hkl]) rfl rfl,?_⟩;refine E3 [true,true] [] (B4w (A5m w++w.Overlaps) A9u [] [.ptr 32 0 0 1] [(32, .box w.enc)] (A9v w) (by rw[List.length_append];omega) (G3l w) (by simp[go_sem,AV.ids]) (λk _=>B8s w k w1)) (by simp) (by simp) (by simp) (by simp[go_sem]) ?_;simp only[go_sem]
def Q3(w:Api.World)(i1:Nat)(s1:Unit):(Unit) ⊕ (Bool):=let v6:=(A1p (w.Contacts.getD i1 default).Manifold);if v6=false then(.inr false)else(.inl ())
def R5(w:Api.World):Bool:=let v1:=(A3u w.Contacts);let v2:=(T3 v1);let v3:=(T3 w.Overlaps);let v4:=(A19 w v1);let v5:=(A19 w w.Overlaps);if((((!v2)||(!v3))||(!v4))||(!v5))=true then(false)else((match D3 (Q3 w) w.Contacts.length ()with | .inr r=>r | .inl s1=>true))
theorem C7i(w:Api.World)(hw:Wsm w):A1 Tryz.prog C64 [.agg w.enc] [] (sB (R5 w)) []:=by
 have hw1:=hw.1;have hw3:=hw.2.2.1;have hw4:=hw.2.2.2.1;refine en1 hm A4 Tryz.func44 rfl rfl ?_;simp only[go_sem];have p1:=F45 w.Contacts;refine A0 (F1k w.Contacts (by(exact hw.2.2.1))) rfl ?_;generalize hv1:(A3u w.Contacts)=v1 at*;simp only[go_sem];refine A0 (C0y v1 (by(omega))) rfl ?_;generalize hv2:(T3 v1)=v2;simp only[go_sem];refine A0 (C0y w.Overlaps (by(exact hw.2.2.2.1))) rfl ?_;generalize hv3:(T3 w.Overlaps)=v3;simp only[go_sem,D2,D8];refine A0 (C3x w v1 (by(exact hw.1)) (by(omega))) rfl ?_;generalize hv4:(A19 w v1)=v4;simp only[go_sem,D2,B3];refine A0 (C3x w w.Overlaps (by(exact hw.1)) (by(exact hw.2.2.2.1))) rfl ?_;generalize hv5:(A19 w w.Overlaps)=v5;simp only[go_sem,D2,B3];by_cases h2:((((!v2)||(!v3))||(!v4))||(!v5))=true
 ·rw[if_pos h2];have hd:R5 w=false:=by(unfold R5;exact hd_)
  try rw[hd]
 ·rw[if_neg h2];refine A9 hm (ι:= {p:Nat×Unit // p.1<=w.Contacts.length/\D3 (Q3 w) p.1 ()= .inl p.2}) (λi=> [(1, .share, .ptr 32 0 0 1),(4, .share,sI (i.1.1:Int))]) (λi=> [(32, .box [sI w.Settings.TimeStep,sI w.Settings.Gravity.X,sI w.Settings.Gravity.Y,sI w.Settings.Iterations,sI w.Settings.SleepSteps,A2 20 Body.enc default w.Bodies,A2 24 Joint.enc default w.Joints,A2 7 Contact.enc default w.Contacts,A2 4 PairKey.enc default w.Overlaps,sI w.NextID,sI w.Frame])]) (λi=>w.Contacts.length-i.1.1) ⟨(0,()),by omega,rfl⟩ ?_ ?_
  ·refine D6 [] [] ?_;simp only[go_sem]
  ·rintro⟨⟨i1,s1⟩,hi1,hs1⟩;replace hi1:i1<=w.Contacts.length:=hi1;replace hs1:D3 (Q3 w) i1 ()= .inl s1:=hs1;simp only[go_sem];by_cases h3:(i1:Int)<(w.Contacts.length:Int)
   ·rw[if_pos h3];have hlt1:i1<w.Contacts.length:=by omega
    (repeat(with_reducible refine And.intro ?_ ?_;exact aI_))
    refine A0 (D2a (w.Contacts.getD i1 default).Manifold (by(exact hw.2.2.2.2.2 _ (B6 _ (by omega))))) rfl ?_;generalize hv6:(A1p (w.Contacts.getD i1 default).Manifold)=v6;simp only[go_sem];by_cases h4:v6=false
    ·rw[if_pos h4];have e1:D3 (Q3 w) (i1+1) ()= .inr false:=N1 hs1 (by(unfold Q3;exact hd_));replace e1:=Y4 e1 (show i1+1<=w.Contacts.length by omega);have hd:R5 w=false:=by(unfold R5;exact hd_)
     try rw[hd]
    ·rw[if_neg h4];have hn:D3 (Q3 w) (i1+1) ()= .inl ():=N1 hs1 (by(unfold Q3;exact hd_));refine A7 ⟨(i1+1,()),by omega,hn⟩ (by show w.Contacts.length-(i1+1)<w.Contacts.length-i1;omega) (D6 [] [] ?_);simp only[go_sem];exact A3c
   ·rw[if_neg h3];have hge:i1=w.Contacts.length:=by omega
    subst hge;have hd:R5 w=true:=by(unfold R5;exact hd_)
    try rw[hd]
def A09(s:Settings):Int:=if((((!(inR s.TimeStep 64 8192))||(!((inR s.Gravity.X (-16777216) 16777216)&&(inR s.Gravity.Y (-16777216) 16777216))))||(!(inR s.Iterations 1 32)))||(!(inR s.SleepSteps 0 1048576)))=true then(6)else(0)
theorem B81(s:Settings):A1 Tryz.prog B9e [.agg s.enc] [] (sI (A09 s)) []:=by
 refine en1 hm A4 Tryz.func85 rfl rfl ?_;have:=C5c
 have:=A09.eq_1 s;exact C9
def A1v(s:Settings):Int:=if(((((!(inR s.TimeStep 64 8192))||(!(inR s.Gravity.X (-16777216) 16777216)))||(!(inR s.Gravity.Y (-16777216) 16777216)))||(!(inR s.Iterations 1 32)))||(!(inR s.SleepSteps 0 1048576)))=true then(6)else(0)
theorem C1p(s:Settings):A1 Tryz.prog C2o [.agg s.enc] [] (sI (A1v s)) []:=by
 refine en1 hm A4 Tryz.func40 rfl rfl ?_;have:=C4o
 have:=A1v.eq_1 s;exact C9
def F1(w:Api.World):Int:=let v1:=(A09 w.Settings);if(v1 != 0)=true then(17)else(if((((decide (32<(w.Bodies.length:Int)))||(decide (32<(w.Joints.length:Int))))||(decide (8192<(w.Contacts.length:Int))))||(decide (8192<(w.Overlaps.length:Int))))=true then(11)else(if((!(inR w.NextID 1 1099511627776))||(!(inR w.Frame 0 1099511627776)))=true then(6)else(let v4:=(W7 w);if v4=false then(14)else(let v5:=(W6 w);if v5=false then(15)else(let v6:=(A8e w);if v6=false then(16)else(0))))))
theorem R8(w:Api.World)(hw:Wsm w):A1 Tryz.prog D5p [.agg w.enc] [] (sI (F1 w)) []:=by
 refine en1 hm A4 Tryz.func47 rfl rfl ?_;have:=B81
 have:=C5c
 have:=C66
 have:=C69
 have:=C3i
 have:=F1.eq_1 w;exact C9
def A7k(w:Api.World):Int:=let v1:=(A1v w.Settings);if(v1 != 0)=true then(17)else(if((((decide (32<(w.Bodies.length:Int)))||(decide (32<(w.Joints.length:Int))))||(decide (8192<(w.Contacts.length:Int))))||(decide (8192<(w.Overlaps.length:Int))))=true then(11)else(if((!(inR w.NextID 1 1099511627776))||(!(inR w.Frame 0 1099511627776)))=true then(6)else(let v4:=(A0m w);if v4=false then(14)else(let v5:=(A0k w);if v5=false then(15)else(let v6:=(R5 w);if v6=false then(16)else(0))))))
theorem B5b(w:Api.World)(hw:Wsm w):A1 Tryz.prog D8u [.agg w.enc] [] (sI (A7k w)) []:=by
 refine en1 hm A4 Tryz.func9 rfl rfl ?_;have:=C1p
 have:=C4o
 have:=D28
 have:=D27
 have:=C7i
 have:=A7k.eq_1 w;exact C9
theorem C9l(l:List Row)(hl:l.length<=1048576):A1 Tryz.prog C9u [A2 14 Row.enc default l] [] (.sl 1 0 l.length l.length) [(1, .arr 14 (A8 Row.enc default l))]:=by
 by_cases hn:l= []
 ·subst hn;refine A1.nil_split (g:=L7 Row.enc default ([]:List Row)) [] [] ?_ (λa c=> ?_)
  ·refine H8 hm A4 Tryz.func440 rfl rfl ?_;simp only[go_sem,go_sem_proc];refine C6 [.adopt] [] [1] rfl rfl (by simp) (by simp) (by simp) ?_;simp only[go_sem,go_sem_proc]
  ·refine H8 hm A4 Tryz.func440 rfl rfl ?_;simp only[go_sem,go_sem_proc];refine⟨by simp[maxLen],?_⟩;refine C6 [.share] [(1,96)] [] rfl rfl (by simp) (by simp) (by simp) ?_;simp only[go_sem,go_sem_proc];exact⟨rfl,rfl,λi hi=>absurd hi (by simp)⟩
 ·have hpos:0<l.length:=List.length_pos_iff.2 hn
  refine H8 hm A4 Tryz.func440 rfl rfl ?_;simp only[go_sem,go_sem_proc];refine⟨hpos,⟨by omega,by simp only[maxLen];omega⟩,?_⟩;refine C6 [.share] [(1,96)] [] rfl rfl (by simp) (by simp) (by simp) ?_;simp only[go_sem,go_sem_proc]
theorem A9h(l:List SolverBody)(hl:l.length<=1048576):A1 Tryz.prog B74 [A2 5 SolverBody.enc default l] [] (.sl 1 0 l.length l.length) [(1, .arr 5 (A8 SolverBody.enc default l))]:=by
 by_cases hn:l= []
 ·subst hn;refine A1.nil_split (g:=L7 SolverBody.enc default ([]:List SolverBody)) [] [] ?_ (λa c=> ?_)
  ·refine H8 hm A4 Tryz.func439 rfl rfl ?_;simp only[go_sem,go_sem_proc];refine C6 [.adopt] [] [1] rfl rfl (by simp) (by simp) (by simp) ?_;simp only[go_sem,go_sem_proc]
  ·refine H8 hm A4 Tryz.func439 rfl rfl ?_;simp only[go_sem,go_sem_proc];refine⟨by simp[maxLen],?_⟩;refine C6 [.share] [(1,96)] [] rfl rfl (by simp) (by simp) (by simp) ?_;simp only[go_sem,go_sem_proc];exact⟨rfl,rfl,λi hi=>absurd hi (by simp)⟩
 ·have hpos:0<l.length:=List.length_pos_iff.2 hn
  refine H8 hm A4 Tryz.func439 rfl rfl ?_;simp only[go_sem,go_sem_proc];refine⟨hpos,⟨by omega,by simp only[maxLen];omega⟩,?_⟩;refine C6 [.share] [(1,96)] [] rfl rfl (by simp) (by simp) (by simp) ?_;simp only[go_sem,go_sem_proc]
theorem C1t(l:List Fixture)(hl:l.length<=1048576):A1 Tryz.prog C08 [A2 10 Fixture.enc default l] [] (.sl 1 0 l.length l.length) [(1, .arr 10 (A8 Fixture.enc default l))]:=by
 by_cases hn:l= []
 ·subst hn;refine A1.nil_split (g:=L7 Fixture.enc default ([]:List Fixture)) [] [] ?_ (λa c=> ?_)
  ·refine H8 hm A4 Tryz.func552 rfl rfl ?_;simp only[go_sem,go_sem_proc];refine C6 [.adopt] [] [1] rfl rfl (by simp) (by simp) (by simp) ?_;simp only[go_sem,go_sem_proc]
  ·refine H8 hm A4 Tryz.func552 rfl rfl ?_;simp only[go_sem,go_sem_proc];refine⟨by simp[maxLen],?_⟩;refine C6 [.share] [(1,96)] [] rfl rfl (by simp) (by simp) (by simp) ?_;simp only[go_sem,go_sem_proc];exact⟨rfl,rfl,λi hi=>absurd hi (by simp)⟩
 ·have hpos:0<l.length:=List.length_pos_iff.2 hn
  refine H8 hm A4 Tryz.func552 rfl rfl ?_;simp only[go_sem,go_sem_proc];refine⟨hpos,⟨by omega,by simp only[maxLen];omega⟩,?_⟩;refine C6 [.share] [(1,96)] [] rfl rfl (by simp) (by simp) (by simp) ?_;simp only[go_sem,go_sem_proc]
def A1i(ps:List Vec)(i1:Nat)(s1:Int×Int×Int×Int):Int×Int×Int×Int:=let v2:=(J8 ((ps.drop 1).getD i1 default));let v3:=(B8x (⟨s1.1,s1.2.1⟩:Vec) v2);let v4:=(B9t (⟨s1.2.2.1,s1.2.2.2⟩:Vec) v2);(v3.X,v3.Y,v4.X,v4.Y)
def A0s(ps:List Vec):AABB×Bool:=if((ps.length:Int)==0)=true then(((⟨(⟨0,0⟩:Vec),(⟨0,0⟩:Vec)⟩:AABB),false))else(let v1:=(J8 (ps.getD 0 default));let s1:=itr (A1i ps) (ps.drop 1).length (v1.X,v1.Y,v1.X,v1.Y);((⟨(⟨s1.1,s1.2.1⟩:Vec),(⟨s1.2.2.1,s1.2.2.2⟩:Vec)⟩:AABB),true))
theorem B1a(ps:List Vec)(h0:ps.length<=1048576):A1 Tryz.prog D2s [A2 2 Vec.enc default ps] [] (.tup [.agg (A0s ps).1.enc,sB ((A0s ps).2)]) []:=by
 refine A62 40 [(2,some (some 4)),(3,none)] hm A4 Tryz.func277 rfl ?_;have:=λx1 x2 x3=>cx_ (C9z ⟨x1,x2⟩ x3)
 have:=λx1 x2 x3=>cx_ (C9x ⟨x1,x2⟩ x3)
 have:=D61
 have:=C9z
 have:=C9x
 have:=A0s.eq_1 ps
 have:=λi_ s_=>A1i.eq_1 ps i_ s_
 have:=λx_ Q_ σ_=> @lp_ Tryz.prog 40 [] x_ Q_ σ_ hm (λ_=>True) (λ_=>True) (ps.drop 1).length (λi_=> [(2, .share, .ptr 48 0 0 1),(5, .share, .ptr 96 0 0 1),(20, .share,A2 2 Vec.enc default (ps.drop 1)),(21, .share,sI ((ps.drop 1).length:Int)),(22, .share,sI (i_:Int))]) (λi_=> [(48, .box [sI 0,sI 0,sI 0,sI 0]),(96, .box [sI ((itr (A1i ps) i_ ((J8 (ps.getD 0 default)).X,(J8 (ps.getD 0 default)).Y,(J8 (ps.getD 0 default)).X,(J8 (ps.getD 0 default)).Y)).1),sI ((itr (A1i ps) i_ ((J8 (ps.getD 0 default)).X,(J8 (ps.getD 0 default)).Y,(J8 (ps.getD 0 default)).X,(J8 (ps.getD 0 default)).Y)).2.1),sI ((itr (A1i ps) i_ ((J8 (ps.getD 0 default)).X,(J8 (ps.getD 0 default)).Y,(J8 (ps.getD 0 default)).X,(J8 (ps.getD 0 default)).Y)).2.2.1),sI ((itr (A1i ps) i_ ((J8 (ps.getD 0 default)).X,(J8 (ps.getD 0 default)).Y,(J8 (ps.getD 0 default)).X,(J8 (ps.getD 0 default)).Y)).2.2.2)])]) [] trivial (λ_ _=>trivial) (by simp[go_sem]) (by simp[go_sem,A6]) (by simp[go_sem]);exact J1
def A2u(a:Vec)(b:Vec)(c:Vec)(d:Vec):Bool:=let v1:=(A0s ([a,b]));let v2:=(A0s ([c,d]));let v3:=(ori a b c);let v4:=(ori a b d);let v5:=(ori c d a);let v6:=(ori c d b);let v7:=(A23 v1.1 v2.1);((!((decide (0<(IntKind.i64.wrap (v3*v4))))||(decide (0<(IntKind.i64.wrap (v5*v6))))))&&v7)
theorem B4m(a:Vec)(b:Vec)(c:Vec)(d:Vec):A1 Tryz.prog C6g [.agg a.enc, .agg b.enc, .agg c.enc, .agg d.enc] [] (sB (A2u a b c d)) []:=by
 refine en1 hm A4 Tryz.func405 rfl rfl ?_;simp only[go_sem,go_sem_proc];refine A5d (B1a ([a,b]) (by((simp_all;done)))) rfl ?_ ?_
 ·(try simp only[A02,go_sem,go_sem_proc]);all_goals((repeat' (with_reducible apply And.intro)) <;> exact A2h (λ_ _=>rfl) rfl rfl rfl)
 generalize hv1:(A0s ([a,b]))=v1;simp only[go_sem,go_sem_proc];refine A5d (B1a ([c,d]) (by((simp_all;done)))) rfl ?_ ?_
 ·(try simp only[A02,go_sem,go_sem_proc]);all_goals((repeat' (with_reducible apply And.intro)) <;> exact A2h (λ_ _=>rfl) rfl rfl rfl)
 generalize hv2:(A0s ([c,d]))=v2;simp only[go_sem,go_sem_proc];refine A0 (A2c a b c) rfl ?_;generalize hv3:(ori a b c)=v3;simp only[go_sem,go_sem_proc];refine A0 (A2c a b d) rfl ?_;generalize hv4:(ori a b d)=v4;simp only[go_sem,go_sem_proc];refine A0 (A2c c d a) rfl ?_;generalize hv5:(ori c d a)=v5;simp only[go_sem,go_sem_proc];refine A0 (A2c c d b) rfl ?_;generalize hv6:(ori c d b)=v6;simp only[go_sem,go_sem_proc,D2];refine A0 (C0p v1.1 v2.1) rfl ?_;generalize hv7:(A23 v1.1 v2.1)=v7;simp only[go_sem,go_sem_proc,C0,D8];have hd:A2u a b c d=((!((decide (0<(IntKind.i64.wrap (v3*v4))))||(decide (0<(IntKind.i64.wrap (v5*v6))))))&&v7):=by(simp only[A2u,hv1,hv2,hv3,hv4,hv5,hv6,hv7,eq_self];done)
 try rw[hd]
structure D7 where
 x:Vec
 y:Vec
 deriving DecidableEq,Inhabited
def D7.enc(x:D7):List AV:=[sI x.x.X,sI x.x.Y,sI x.y.X,sI x.y.Y]
def D7.zero:List AV:= [sI 0,sI 0,sI 0,sI 0]
attribute [go_sem] D7.enc D7.zero
@[go_sem] theorem E9d(x:D7):D7.mk x.x x.y=x:=rfl
def U7(v2:Vec)(v3:Vec)(v4:Vec)(v11:Vec×Int)(v12:Vec×Int)(v13:Vec×Int)(i1:Nat)(s1:Int×Int×Int×Int):Int×Int×Int×Int:=let v14:=(A9q (([(⟨v2,v11.1⟩:D7),(⟨v12.1,v3⟩:D7),(⟨v13.1,v4⟩:D7)]).getD i1 default).x (([(⟨v2,v11.1⟩:D7),(⟨v12.1,v3⟩:D7),(⟨v13.1,v4⟩:D7)]).getD i1 default).y);let v15:=(A9q (⟨s1.1,s1.2.1⟩:Vec) (⟨s1.2.2.1,s1.2.2.2⟩:Vec));if v14<v15 then(((([(⟨v2,v11.1⟩:D7),(⟨v12.1,v3⟩:D7),(⟨v13.1,v4⟩:D7)]).getD i1 default).x.X,(([(⟨v2,v11.1⟩:D7),(⟨v12.1,v3⟩:D7),(⟨v13.1,v4⟩:D7)]).getD i1 default).x.Y,(([(⟨v2,v11.1⟩:D7),(⟨v12.1,v3⟩:D7),(⟨v13.1,v4⟩:D7)]).getD i1 default).y.X,(([(⟨v2,v11.1⟩:D7),(⟨v12.1,v3⟩:D7),(⟨v13.1,v4⟩:D7)]).getD i1 default).y.Y))else((s1.1,s1.2.1,s1.2.2.1,s1.2.2.2))
def Y9(a:Vec)(b:Vec)(c:Vec)(d:Vec):Vec×Vec:=let v1:=(A3 a);let v2:=(A3 b);let v3:=(A3 c);let v4:=(A3 d);let v5:=(A2u v1 v2 v3 v4);if v5=true then(let v6:=(A3z v3 v4 v1);let v7:=(A3z v3 v4 v2);let v8:=(A8q v6 (IntKind.i64.wrap (v6+v7)));let v9:=(A6x v1 v2 v8);(v9,v9))else(let v10:=(B1 v3 v4 v1);let v11:=(B1 v3 v4 v2);let v12:=(B1 v1 v2 v3);let v13:=(B1 v1 v2 v4);let s1:=itr (U7 v2 v3 v4 v11 v12 v13) 3 (v1.X,v1.Y,v10.1.X,v10.1.Y);((⟨s1.1,s1.2.1⟩:Vec),(⟨s1.2.2.1,s1.2.2.2⟩:Vec)))
theorem B0x(a:Vec)(b:Vec)(c:Vec)(d:Vec):A1 Tryz.prog B99 [.agg a.enc, .agg b.enc, .agg c.enc, .agg d.enc] [] (.tup [.agg (Y9 a b c d).1.enc, .agg (Y9 a b c d).2.enc]) []:=by
 refine A62 118 [(8,some (some 2)),(9,some (some 2))] hm A4 Tryz.func383 rfl ?_;have:=λx1 x2 x3 x4=>cx_ (V8 ⟨x1,x2⟩ ⟨x3,x4⟩)
 have:=B6i
 have:=B4m
 have:=C2a
 have:=B7c
 have:=B1t
 have:=B1x
 have:=V8
 have:=Y9.eq_1 a b c d
 have:=λi_ s_=>U7.eq_1 (A3 b) (A3 c) (A3 d) (B1 (A3 c) (A3 d) (A3 b)) (B1 (A3 a) (A3 b) (A3 c)) (B1 (A3 a) (A3 b) (A3 d)) i_ s_
 have:=λx_ Q_ σ_=> @lp_ Tryz.prog 118 [] x_ Q_ σ_ hm (λ_=>True) (λ_=>True) 3 (λi_=> [(8, .share, .ptr 144 0 0 1),(9, .share, .ptr 160 0 0 1),(21, .share, .ptr 352 0 0 1),(95, .share, .sl 1536 0 3 3),(96, .share,sI 3),(97, .share,sI (i_:Int))]) (λi_=> [(144, .box [sI 0,sI 0]),(160, .box [sI 0,sI 0]),(352, .box [sI ((itr (U7 (A3 b) (A3 c) (A3 d) (B1 (A3 c) (A3 d) (A3 b)) (B1 (A3 a) (A3 b) (A3 c)) (B1 (A3 a) (A3 b) (A3 d))) i_ ((A3 a).X,(A3 a).Y,(B1 (A3 c) (A3 d) (A3 a)).1.X,(B1 (A3 c) (A3 d) (A3 a)).1.Y)).1),sI ((itr (U7 (A3 b) (A3 c) (A3 d) (B1 (A3 c) (A3 d) (A3 b)) (B1 (A3 a) (A3 b) (A3 c)) (B1 (A3 a) (A3 b) (A3 d))) i_ ((A3 a).X,(A3 a).Y,(B1 (A3 c) (A3 d) (A3 a)).1.X,(B1 (A3 c) (A3 d) (A3 a)).1.Y)).2.1),sI ((itr (U7 (A3 b) (A3 c) (A3 d) (B1 (A3 c) (A3 d) (A3 b)) (B1 (A3 a) (A3 b) (A3 c)) (B1 (A3 a) (A3 b) (A3 d))) i_ ((A3 a).X,(A3 a).Y,(B1 (A3 c) (A3 d) (A3 a)).1.X,(B1 (A3 c) (A3 d) (A3 a)).1.Y)).2.2.1),sI ((itr (U7 (A3 b) (A3 c) (A3 d) (B1 (A3 c) (A3 d) (A3 b)) (B1 (A3 a) (A3 b) (A3 c)) (B1 (A3 a) (A3 b) (A3 d))) i_ ((A3 a).X,(A3 a).Y,(B1 (A3 c) (A3 d) (A3 a)).1.X,(B1 (A3 c) (A3 d) (A3 a)).1.Y)).2.2.2)]),(1536, .arr 4 (A8 D7.enc default ([(⟨(A3 b),(B1 (A3 c) (A3 d) (A3 b)).1⟩:D7),(⟨(B1 (A3 a) (A3 b) (A3 c)).1,(A3 c)⟩:D7),(⟨(B1 (A3 a) (A3 b) (A3 d)).1,(A3 d)⟩:D7)])))]) [] trivial (λ_ _=>trivial) (by simp[go_sem]) (by simp[go_sem,A6]) (by simp[go_sem]);exact J1
def A4c(a:Vec)(b:Vec)(c:Vec)(d:Vec):Int:=let v1:=(A2u a b c d);if v1=true then(0)else(let v2:=(Y9 a b c d);let v3:=(A9q v2.1 v2.2);let v4:=(isq v3);(sat v4))
theorem B56(a:Vec)(b:Vec)(c:Vec)(d:Vec):A1 Tryz.prog D0l [.agg a.enc, .agg b.enc, .agg c.enc, .agg d.enc] [] (sI (A4c a b c d)) []:=by
 refine en1 hm A4 Tryz.func273 rfl rfl ?_;have:=B4m
 have:=B0x
 have:=V8
 have:=B2d
 have:=J7
 have:=A4c.eq_1 a b c d;exact C9
def W5(s:Shape)(p:Transform)(i1:Nat)(s1:(List Vec)):(List Vec):=let v2:=(X0 p (s.Vertices.getD i1 default));(s1++ [v2])
def E8(s:Shape)(p:Transform):(List Vec):=let v1:=(E7 s);if(v1 != 0)=true then(([]:List Vec))else(let s1:=itr (W5 s p) s.Vertices.length [];s1)
theorem A79(s:Shape)(p:Transform)(h0:s.Vertices.length<=1048576):A1 Tryz.prog D3z [.agg s.enc, .agg p.enc] [] (A2 2 Vec.enc default (E8 s p)) []:=by
 refine en1 hm A4 Tryz.func270 rfl rfl ?_;have:=A07
 have:=A7a
 have:=E8.eq_1 s p
 have:=λi_ s_=>W5.eq_1 s p i_ s_
 have:=λx_ Q_ σ_=> @lp_ Tryz.prog Tryz.f270.ntmps [] x_ Q_ σ_ hm (λ_=>True) (λi_=>((itr (W5 s p) i_ [])).length<=0+1*i_) s.Vertices.length (λi_=> [(3, .share, .ptr 64 0 0 1),(5,if i_=0 then .adopt else .share, .sl 1005 0 (itr (W5 s p) i_ []).length (itr (W5 s p) i_ []).length),(12, .share,A2 2 Vec.enc default s.Vertices),(13, .share,sI (s.Vertices.length:Int)),(14, .share,sI (i_:Int))]) (λi_=> [(64, .box [sI p.Position.X,sI p.Position.Y,sI p.Angle]),(1005, .arr 2 (A8 Vec.enc default (itr (W5 s p) i_ [])))]) [1005] trivial (λi_ hI_=>A7i (λs:(List Vec)=>(s).length) 1 (λi s=>by(unfold W5;(repeat' split) <;> simp <;> omega)) i_ _) (by simp[go_sem]) (by simp[go_sem,A6]) (by simp[go_sem]);exact A4t
theorem E87 {α β:Type}(g:α->β)(d:α)(l:List α)(st:Nat->List β->List β)(h: ∀i s,st i s=s++ [g (l.getD i d)]): ∀n,n<=l.length->itr st n []=(l.take n).map g
 |0,_=>rfl
 |n+1,hn=>by rw[E4,h,E87 g d l st h n (by omega),K9 d (by omega:n<l.length),List.map_append];rfl
theorem F6a(s:Shape)(p:Transform):E8 s p=if E7 s=0 then s.Vertices.map (λv=>X0 p v)else []:=by
 unfold E8;by_cases h:E7 s=0
 ·rw[if_neg (by simp[h]),if_pos h];have:=E87 (λv=>X0 p v) default s.Vertices (W5 s p) (λi s'=>rfl) s.Vertices.length (Nat.le_refl _);rw[List.take_length]at this;exact this
 ·rw[if_pos (by simp[h]),if_neg h]
theorem E0g(s:Shape)(p:Transform):(E8 s p).length=(if E7 s=0 then s.Vertices.length else 0):=by rw[F6a];split <;> simp
theorem B9a(s:Shape)(p:Transform):(E8 s p).length<=s.Vertices.length:=by rw[E0g];split <;> omega
def B5j(s:Shape)(p:Transform):AABB:=let v1:=(E8 s p);let v2:=(A0s v1);if v2.2=false then((⟨(⟨0,0⟩:Vec),(⟨0,0⟩:Vec)⟩:AABB))else(let v3:=(L9 v2.1.Min (⟨s.Radius,s.Radius⟩:Vec));let v4:=(A11 v2.1.Max (⟨s.Radius,s.Radius⟩:Vec));(⟨v3,v4⟩:AABB))
theorem D8p(s:Shape)(p:Transform)(h0:s.Vertices.length<=1048576):A1 Tryz.prog D8t [.agg s.enc, .agg p.enc] [] (.agg (B5j s p).enc) []:=by
 refine L5 32 [(4,some (some 4))] hm A4 Tryz.func169 rfl ?_;have:=λx1 x2 x3=>cx_ (K2 x1 ⟨x2,x3⟩)
 have:=λx1 x2 x3=>cx_ (A47 x1 ⟨x2,x3⟩)
 have:=B9a s p
 have:=A79
 have:=B1a
 have:=K2
 have:=A47
 have:=B5j.eq_1 s p;exact J1
def A5k(v:Vec)(v1:(List Vec))(i1:Nat)(s1:Unit):(Unit) ⊕ (Bool):=let v5:=(ori (v1.getD i1 default) (v1.getD ((IntKind.i64.wrap ((i1:Int)+1)).tmod (v1.length:Int)).toNat default) v);if v5<0 then(.inr false)else(.inl ())
def X5(s:Shape)(p:Transform)(v:Vec):Bool:=let v1:=(E8 s p);if((v1.length:Int)==0)=true then(false)else(if((v1.length:Int)==1)=true then(let v2:=(L9 v (v1.getD 0 default));let v3:=(A32 v2);(decide (v3<=s.Radius)))else(if((v1.length:Int)==2)=true then(let v4:=(A4c v v (v1.getD 0 default) (v1.getD 1 default));(decide (v4<=s.Radius)))else((match D3 (A5k v v1) v1.length ()with | .inr r=>r | .inl s1=>true))))
theorem B3e(s:Shape)(p:Transform)(v:Vec)(h0:s.Vertices.length<=1048576):A1 Tryz.prog C27 [.agg s.enc, .agg p.enc, .agg v.enc] [] (sB (X5 s p v)) []:=by
 refine en1 hm A4 Tryz.func166 rfl rfl ?_;have:=B9a s p
 have:=A79
 have:=K2
 have:=U6
 have:=B56
 have:=A2c
 have:=X5.eq_1 s p v
 have:=λi_ s_=>A5k.eq_1 v (E8 s p) i_ s_
 have:=λx_ Q_ σ_=> @lp_ Tryz.prog Tryz.f166.ntmps [] x_ Q_ σ_ hm (IE (A5k v (E8 s p)) ()) (λ_=>True) (E8 s p).length (λi_=> [(5, .share, .ptr 96 0 0 1),(7, .share,A2 2 Vec.enc default (E8 s p)),(42, .share,A2 2 Vec.enc default (E8 s p)),(43, .share,sI ((E8 s p).length:Int)),(44, .share,sI (i_:Int))]) (λi_=> [(96, .box [sI v.X,sI v.Y])]) [] rfl (λ_ _=>trivial) (by simp[go_sem]) (by simp[go_sem,A6]) (by simp[go_sem]);exact J1
def A0z(s:Shape)(i1:Nat)(s1:Int):Int:=let v2:=(A32 (s.Vertices.getD i1 default));(if s1<v2 then v2 else s1)
def A0d(s:Shape):Int:=let v1:=(E7 s);if(v1 != 0)=true then(0)else(let s1:=itr (A0z s) s.Vertices.length 0;let v3:=(C5 s1 s.Radius);v3)
theorem C1c(s:Shape)(h0:s.Vertices.length<=1048576):A1 Tryz.prog C2d [.agg s.enc] [] (sI (A0d s)) []:=by
 refine en1 hm A4 Tryz.func571 rfl rfl ?_;have:=A07
 have:=U6
 have:=M8
 have:=A0d.eq_1 s
 have:=λi_ s_=>A0z.eq_1 s i_ s_
 have:=λx_ Q_ σ_=> @lp_ Tryz.prog Tryz.f571.ntmps [] x_ Q_ σ_ hm (λ_=>True) (λ_=>True) s.Vertices.length (λi_=> [(1, .share, .ptr 32 0 0 1),(3, .share,sI (itr (A0z s) i_ 0)),(10, .share,A2 2 Vec.enc default s.Vertices),(11, .share,sI (s.Vertices.length:Int)),(12, .share,sI (i_:Int))]) (λi_=> [(32, .box [sI s.Kind,sI s.Radius,A2 2 Vec.enc default s.Vertices])]) [] trivial (λ_ _=>trivial) (by simp[go_sem]) (by simp[go_sem,A6]) (by simp[go_sem]);exact A4t
theorem E0l(s:Shape):E7 s=0->(1<=s.Kind/\s.Kind<=3)/\(s.Kind=1->s.Vertices.length=1)/\(s.Kind=2->s.Vertices.length=2)/\(s.Kind≠1->s.Kind≠2->3<=s.Vertices.length)/\s.Vertices.length<=8:=by
 intro h;unfold E7 at h;split at h
 ·cases h
 ·rename_i h1;simp only at h;split at h
  ·cases h
  ·rename_i h2;clear h;unfold Y7 at h2;simp only[Bool.or_eq_true,decide_eq_true_eq,not_or]at h1
   (repeat' split at h2) <;> simp only[Bool.and_eq_true,Bool.not_eq_false,decide_eq_true_eq,beq_iff_eq]at* <;> omega
def B4h(a:List Vec)(i:Int):Vec×Bool:=if(((decide ((a.length:Int)<2))||(decide (i<0)))||(decide ((a.length:Int)<=i)))=true then(((⟨0,0⟩:Vec),false))else(let v1:=(L9 (a.getD ((IntKind.i64.wrap (i+1)).tmod (a.length:Int)).toNat default) (a.getD i.toNat default));(v1,true))
theorem D7u(a:List Vec)(i:Int)(h0:a.length<=1048576):A1 Tryz.prog F0g [A2 2 Vec.enc default a,sI i] [] (.tup [.agg (B4h a i).1.enc,sB ((B4h a i).2)]) []:=by
 refine A62 33 [(4,some (some 2)),(5,none)] hm A4 Tryz.func490 rfl ?_;have:=K2
 have:=B4h.eq_1 a i;exact J1
def P4(a:List Vec)(i:Int):Vec:=let v1:=(B4h a i);if v1.2=false then((⟨0,0⟩:Vec))else(let v2:=(A3k (⟨v1.1.Y,(IntKind.i64.wrap (0-v1.1.X))⟩:Vec));v2)
theorem A5i(a:List Vec)(i:Int)(h0:a.length<=1048576):A1 Tryz.prog D3v [A2 2 Vec.enc default a,sI i] [] (.agg (P4 a i).enc) []:=by
 refine L5 23 [(4,some (some 2))] hm A4 Tryz.func389 rfl ?_;have:=λx1 x2=>cx_ (A5h ⟨x1,x2⟩)
 have:=D7u
 have:=A5h
 have:=P4.eq_1 a i;exact C9
def A5o(a:List Vec)(i:Int):Vec:=let v1:=(B4h a i);if v1.2=false then((⟨0,0⟩:Vec))else(let v2:=(A3k v1.1);v2)
theorem C7b(a:List Vec)(i:Int)(h0:a.length<=1048576):A1 Tryz.prog C7p [A2 2 Vec.enc default a,sI i] [] (.agg (A5o a i).enc) []:=by
 refine L5 18 [(4,some (some 2))] hm A4 Tryz.func541 rfl ?_;have:=D7u
 have:=A5h
 have:=A5o.eq_1 a i;exact C9
def A9a(n:Vec)(o:Vec)(b:List Vec)(i1:Nat)(s1:Int):Int:=let v1:=(L9 (b.getD i1 default) o);let v2:=(O7 n v1);if(((i1:Int)==0)||(decide (v2<s1)))=true then(v2)else(s1)
def B2t(n:Vec)(o:Vec)(b:List Vec):Int:=let s1:=itr (A9a n o b) b.length 0;s1
theorem D5n(n:Vec)(o:Vec)(b:List Vec)(h0:b.length<=1048576):A1 Tryz.prog D5a [.agg n.enc, .agg o.enc,A2 2 Vec.enc default b] [] (sI (B2t n o b)) []:=by
 refine en1 hm A4 Tryz.func489 rfl rfl ?_;have:=K2
 have:=Z3
 have:=B2t.eq_1 n o b
 have:=λi_ s_=>A9a.eq_1 n o b i_ s_
 have:=λx_ Q_ σ_=> @lp_ Tryz.prog Tryz.f489.ntmps [] x_ Q_ σ_ hm (λ_=>True) (λ_=>True) b.length (λi_=> [(2, .share,A2 2 Vec.enc default b),(3, .share, .ptr 64 0 0 1),(4, .share, .ptr 80 0 0 1),(7, .share,sI (itr (A9a n o b) i_ 0)),(11, .share,sI (b.length:Int)),(12, .share,sI (i_:Int))]) (λi_=> [(64, .box [sI n.X,sI n.Y]),(80, .box [sI o.X,sI o.Y])]) [] trivial (λ_ _=>trivial) (by simp[go_sem]) (by simp[go_sem,A6]) (by simp[go_sem]);exact A4t
def Q1(a:List Vec)(b:List Vec)(i1:Nat)(s1:Int×Int):Int×Int:=let v1:=(P4 a (i1:Int));let v2:=(B2t v1 (a.getD i1 default) b);if((decide (s1.1<0))||(decide (s1.2<v2)))=true then(((i1:Int),v2))else((s1.1,s1.2))
def D0(a:List Vec)(b:List Vec):Int×Int:=if((decide ((a.length:Int)<2))||((b.length:Int)==0))=true then(((-1),0))else(let s1:=itr (Q1 a b) a.length ((-1),0);(s1.1,s1.2))
theorem B45(a:List Vec)(b:List Vec)(h0:a.length<=1048576)(h1:b.length<=1048576):A1 Tryz.prog C7e [A2 2 Vec.enc default a,A2 2 Vec.enc default b] [] (.tup [sI ((D0 a b).1),sI ((D0 a b).2)]) []:=by
 refine enT hm A4 Tryz.func388 rfl rfl ?_;have:=A5i
 have:=D5n
 have:=D0.eq_1 a b
 have:=λi_ s_=>Q1.eq_1 a b i_ s_
 have:=λx_ Q_ σ_=> @lp_ Tryz.prog Tryz.f388.ntmps [] x_ Q_ σ_ hm (λ_=>True) (λ_=>True) a.length (λi_=> [(0, .share,A2 2 Vec.enc default a),(1, .share,A2 2 Vec.enc default b),(6, .share,sI ((itr (Q1 a b) i_ ((-1),0)).1)),(7, .share,sI ((itr (Q1 a b) i_ ((-1),0)).2)),(19, .share,sI (a.length:Int)),(20, .share,sI (i_:Int))]) (λi_=> []) [] trivial (λ_ _=>trivial) (by simp[go_sem]) (by simp[go_sem,A6]) (by simp[go_sem]);exact J1
def A4o(b:List Vec)(n:Vec)(i1:Nat)(s1:Int×Int):Int×Int:=let v1:=(P4 b (i1:Int));let v2:=(O7 v1 n);if((decide (s1.1<0))||(decide (v2<s1.2)))=true then(((i1:Int),v2))else((s1.1,s1.2))
def A97(b:List Vec)(n:Vec):Int:=if(b.length:Int)<2 then((-1))else(let s1:=itr (A4o b n) b.length ((-1),0);s1.1)
theorem B6g(b:List Vec)(n:Vec)(h0:b.length<=1048576):A1 Tryz.prog C9s [A2 2 Vec.enc default b, .agg n.enc] [] (sI (A97 b n)) []:=by
 refine en1 hm A4 Tryz.func491 rfl rfl ?_;have:=A5i
 have:=Z3
 have:=A97.eq_1 b n
 have:=λi_ s_=>A4o.eq_1 b n i_ s_
 have:=λx_ Q_ σ_=> @lp_ Tryz.prog Tryz.f491.ntmps [] x_ Q_ σ_ hm (λ_=>True) (λ_=>True) b.length (λi_=> [(0, .share,A2 2 Vec.enc default b),(3, .share, .ptr 64 0 0 1),(5, .share,sI ((itr (A4o b n) i_ ((-1),0)).1)),(6, .share,sI ((itr (A4o b n) i_ ((-1),0)).2)),(13, .share,sI (b.length:Int)),(14, .share,sI (i_:Int))]) (λi_=> [(64, .box [sI n.X,sI n.Y])]) [] trivial (λ_ _=>trivial) (by simp[go_sem]) (by simp[go_sem,A6]) (by simp[go_sem]);exact J1
structure clip_Vertex where
 Point:Vec
 ID:Int
 deriving DecidableEq,Inhabited
def clip_Vertex.enc(x:clip_Vertex):List AV:=[sI x.Point.X,sI x.Point.Y,sI x.ID]
def clip_Vertex.zero:List AV:= [sI 0,sI 0,sI 0]
attribute [go_sem] clip_Vertex.enc clip_Vertex.zero
@[go_sem] theorem F68(x:clip_Vertex):clip_Vertex.mk x.Point x.ID=x:=rfl
def B0s(s:clip_Vertex)(o:clip_Vertex)(d:Int)(by_:Int):clip_Vertex:=let v1:=(A8q d (IntKind.i64.wrap (d-by_)));let v2:=(A6x s.Point o.Point v1);(⟨v2,s.ID⟩:clip_Vertex)
theorem D9f(s:clip_Vertex)(o:clip_Vertex)(d:Int)(by_:Int):A1 Tryz.prog D9x [.agg s.enc, .agg o.enc,sI d,sI by_] [] (.agg (B0s s o d by_).enc) []:=by
 refine L5 21 [(8,some (some 3))] hm A4 Tryz.func567 rfl ?_;have:=B7c
 have:=B1t
 have:=B0s.eq_1 s o d by_;exact C9
def A1b(l:List clip_Vertex)(o:Vec)(n:Vec):(List clip_Vertex):=if((l.length:Int) != 2)=true then(([]:List clip_Vertex))else(let v1:=(L9 (l.getD 0 default).Point o);let v2:=(O7 n v1);let v3:=(L9 (l.getD 1 default).Point o);let v4:=(O7 n v3);if((decide (0<v2))&&(decide (0<v4)))=true then(([]:List clip_Vertex))else(if 0<v2 then(let v5:=(B0s (l.getD 0 default) (l.getD 1 default) v2 v4);[v5,(l.getD 1 default)])else(if 0<v4 then(let v6:=(B0s (l.getD 1 default) (l.getD 0 default) v4 v2);[(l.getD 0 default),v6])else([(l.getD 0 default),(l.getD 1 default)]))))
theorem B88(l:List clip_Vertex)(o:Vec)(n:Vec):A1 Tryz.prog D5s [A2 3 clip_Vertex.enc default l, .agg o.enc, .agg n.enc] [] (A2 3 clip_Vertex.enc default (A1b l o n)) []:=by
 refine en1 hm A4 Tryz.func542 rfl rfl ?_;have:=K2
 have:=Z3
 have:=D9f
 have:=A1b.eq_1 l o n;exact J1
theorem F7s(vs:List Vec):(N9 vs).1.length<=vs.length:=by have:=A7i (λs:(List I6)×Int=>s.1.length) 1 (f:=P6 vs) (λi s=>by unfold P6;simp) (vs.length-2) ([],0);unfold N9;simp only[List.length_nil]at this⊢;omega
def A3a(a:List Vec)(i:Int)(b:List Vec)(k:Int):(List clip_Vertex):=if((((((decide ((a.length:Int)<2))||(decide ((b.length:Int)<2)))||(decide (i<0)))||(decide (k<0)))||(decide ((a.length:Int)<=i)))||(decide ((b.length:Int)<=k)))=true then(([]:List clip_Vertex))else(let v1:=(A5o a i);let v2:=(A1b ([(⟨(b.getD k.toNat default),0⟩:clip_Vertex),(⟨(b.getD ((IntKind.i64.wrap (k+1)).tmod (b.length:Int)).toNat default),1⟩:clip_Vertex)]) (a.getD ((IntKind.i64.wrap (i+1)).tmod (a.length:Int)).toNat default) v1);let v3:=(R0 v1 (-65536));let v4:=(A1b v2 (a.getD i.toNat default) v3);v4)
theorem C6r(a:List Vec)(i:Int)(b:List Vec)(k:Int)(h0:a.length<=1048576)(h1:b.length<=1048576):A1 Tryz.prog E12 [A2 2 Vec.enc default a,sI i,A2 2 Vec.enc default b,sI k] [] (A2 3 clip_Vertex.enc default (A3a a i b k)) []:=by
 refine en1 hm A4 Tryz.func492 rfl rfl ?_;simp only[go_sem,go_sem_proc,D2,B3];by_cases h1:((((((decide ((a.length:Int)<2))||(decide ((b.length:Int)<2)))||(decide (i<0)))||(decide (k<0)))||(decide ((a.length:Int)<=i)))||(decide ((b.length:Int)<=k)))=true
 ·rw[if_pos h1];have hd:A3a a i b k=([]:List clip_Vertex):=by(simp only[A3a,h1,if_true,eq_self];done)
  try rw[hd]
  try simp only[go_sem,go_sem_proc]
  exact eO_
 ·rw[if_neg h1];refine A0 (C7b a i (by(assumption))) rfl ?_;generalize hv1:(A5o a i)=v1;simp only[go_sem,go_sem_proc]
  (repeat(with_reducible refine And.intro ?_ ?_;exact bO_))
  refine A5c (B88 ([(⟨(b.getD k.toNat default),0⟩:clip_Vertex),(⟨(b.getD ((IntKind.i64.wrap (k+1)).tmod (b.length:Int)).toNat default),1⟩:clip_Vertex)]) (a.getD ((IntKind.i64.wrap (i+1)).tmod (a.length:Int)).toNat default) v1) ?_
  (try simp only[A02,go_sem,go_sem_proc])
  (repeat(with_reducible refine And.intro ?_ ?_;focus (exact A2h (λ_ _=>rfl) rfl rfl rfl)))
  generalize hv2:(A1b ([(⟨(b.getD k.toNat default),0⟩:clip_Vertex),(⟨(b.getD ((IntKind.i64.wrap (k+1)).tmod (b.length:Int)).toNat default),1⟩:clip_Vertex)]) (a.getD ((IntKind.i64.wrap (i+1)).tmod (a.length:Int)).toNat default) v1)=v2
  (repeat(with_reducible refine And.intro ?_ ?_;exact bO_))
  refine A0 (A7y v1 (-65536)) rfl ?_;generalize hv3:(R0 v1 (-65536))=v3;simp only[go_sem,go_sem_proc];refine A0 (B88 v2 (a.getD i.toNat default) v3) rfl ?_;generalize hv4:(A1b v2 (a.getD i.toNat default) v3)=v4;simp only[go_sem,go_sem_proc];have hd:A3a a i b k=v4:=by(simp only[A3a,h1,hv1,hv2,hv3,hv4,if_false,eq_self,Bool.false_eq_true];done)
  try rw[hd]
  try simp only[go_sem,go_sem_proc]
def A4l(v2:(List I6)×Int)(i1:Nat)(s1:Int×Int):Int×Int:=((IntKind.i64.wrap (s1.1+(IntKind.i64.wrap ((IntKind.i64.wrap ((v2.1.getD i1 default).e.X+(v2.1.getD i1 default).f.X))*(v2.1.getD i1 default).cross)))),(IntKind.i64.wrap (s1.2+(IntKind.i64.wrap ((IntKind.i64.wrap ((v2.1.getD i1 default).e.Y+(v2.1.getD i1 default).f.Y))*(v2.1.getD i1 default).cross)))))
def I4(vs:List Vec):Vec:=let v1:=(J0 vs);if v1=false then((⟨0,0⟩:Vec))else(let v2:=(N9 vs);if(v2.2==0)=true then((vs.getD 0 default))else(let s1:=itr (A4l v2) v2.1.length (0,0);let v3:=(A1g s1.1 (IntKind.i64.wrap (3*v2.2)));let v4:=(A1g s1.2 (IntKind.i64.wrap (3*v2.2)));(⟨(IntKind.i64.wrap ((vs.getD 0 default).X+v3)),(IntKind.i64.wrap ((vs.getD 0 default).Y+v4))⟩:Vec)))
theorem C99(vs:List Vec)(h0:vs.length<=1048576):A1 Tryz.prog D0t [A2 2 Vec.enc default vs] [] (.agg (I4 vs).enc) []:=by
 refine L5 73 [(2,some (some 2))] hm A4 Tryz.func549 rfl ?_;have:=F7s vs
 have:=B72 vs
 have:=A6i
 have:=C6o
 have:=P5
 have:=I4.eq_1 vs
 have:=λi_ s_=>A4l.eq_1 (N9 vs) i_ s_
 have:=λx_ Q_ σ_=> @lp_ Tryz.prog 73 [] x_ Q_ σ_ hm (λ_=>True) (λ_=>True) (N9 vs).1.length (λi_=> [(0, .share,A2 2 Vec.enc default vs),(2, .share, .ptr 48 0 0 1),(4, .share,sI ((N9 vs).2)),(5, .share,sI ((itr (A4l (N9 vs)) i_ (0,0)).1)),(6, .share,sI ((itr (A4l (N9 vs)) i_ (0,0)).2)),(23, .share,A2 5 I6.enc default (N9 vs).1),(24, .share,sI ((N9 vs).1.length:Int)),(25, .share,sI (i_:Int))]) (λi_=> [(48, .box [sI 0,sI 0])]) [] trivial (λ_ _=>trivial) (by simp[go_sem]) (by simp[go_sem,A6]) (by simp[go_sem]);exact J1
structure MassData where
 Mass:Int
 Center:Vec
 Inertia:Int
 deriving DecidableEq,Inhabited
def MassData.enc(x:MassData):List AV:=[sI x.Mass,sI x.Center.X,sI x.Center.Y,sI x.Inertia]
def MassData.zero:List AV:= [sI 0,sI 0,sI 0,sI 0]
attribute [go_sem] MassData.enc MassData.zero
@[go_sem] theorem G15(x:MassData):MassData.mk x.Mass x.Center x.Inertia=x:=rfl
def A9c(s:Shape)(d:Int):MassData:=let v1:=(B4 s.Radius s.Radius);let v2:=(B4 205888 v1);let v3:=(B4 v2 d);let v4:=(A1g v1 2);let v5:=(B4 v3 v4);(⟨v3,(s.Vertices.getD 0 default),v5⟩:MassData)
theorem C7d(s:Shape)(d:Int)(h1:1<=s.Vertices.length):A1 Tryz.prog C61 [.agg s.enc,sI d] [] (.agg (A9c s d).enc) []:=by
 refine L5 26 [(4,some (some 4))] hm A4 Tryz.func513 rfl ?_;have:=L8
 have:=P5
 have:=A9c.eq_1 s d;exact C9
def A8b(s:Shape)(d:Int):MassData:=let v1:=(B4 s.Radius s.Radius);let v2:=(L9 (s.Vertices.getD 1 default) (s.Vertices.getD 0 default));let v3:=(A32 v2);let v4:=(B4 205888 v1);let v5:=(C5 s.Radius s.Radius);let v6:=(B4 v5 v3);let v7:=(C5 v4 v6);let v8:=(B4 v7 d);let v9:=(A1g v1 2);let v10:=(B4 v3 v3);let v11:=(A1g v10 12);let v12:=(C5 v9 v11);let v13:=(A6x (s.Vertices.getD 0 default) (s.Vertices.getD 1 default) 32768);let v14:=(B4 v8 v12);(⟨v8,v13,v14⟩:MassData)
theorem C5j(s:Shape)(d:Int)(h1:2<=s.Vertices.length):A1 Tryz.prog C4n [.agg s.enc,sI d] [] (.agg (A8b s d).enc) []:=by
 refine L5 59 [(4,some (some 4))] hm A4 Tryz.func514 rfl ?_;have:=L8
 have:=K2
 have:=U6
 have:=M8
 have:=P5
 have:=B1t
 have:=A8b.eq_1 s d;exact C9
def Z0(s:Shape)(v3:Vec)(i1:Nat)(s1:Int×Int×Int×Int):Int×Int×Int×Int:=let v5:=(L9 (s.Vertices.getD i1 default) v3);let v6:=(A1c (⟨s1.2.2.1,s1.2.2.2⟩:Vec) v5);let v7:=(O7 (⟨s1.2.2.1,s1.2.2.2⟩:Vec) (⟨s1.2.2.1,s1.2.2.2⟩:Vec));let v8:=(O7 (⟨s1.2.2.1,s1.2.2.2⟩:Vec) v5);let v9:=(O7 v5 v5);((IntKind.i64.wrap (s1.1+(IntKind.i64.wrap (v6*(IntKind.i64.wrap ((IntKind.i64.wrap (v7+v8))+v9)))))),(IntKind.i64.wrap (s1.2.1+v6)),v5.X,v5.Y)
def A78(s:Shape)(d:Int):MassData:=let v1:=(X7 s.Vertices);let v2:=(B4 v1 d);let v3:=(I4 s.Vertices);let v4:=(L9 (s.Vertices.getD (IntKind.i64.wrap ((s.Vertices.length:Int)-1)).toNat default) v3);let s1:=itr (Z0 s v3) s.Vertices.length (0,0,v4.X,v4.Y);if s1.2.1<1 then((⟨v2,v3,0⟩:MassData))else(let v10:=(A1g s1.1 s1.2.1);let v11:=(A1g v10 6);let v12:=(B4 v2 v11);(⟨v2,v3,v12⟩:MassData))
theorem C44(s:Shape)(d:Int)(h1:1<=s.Vertices.length)(h0:s.Vertices.length<=1048576):A1 Tryz.prog C47 [.agg s.enc,sI d] [] (.agg (A78 s d).enc) []:=by
 refine L5 79 [(4,some (some 4))] hm A4 Tryz.func515 rfl ?_;have:=λx1 x2 x3=>cx_ (A71 ⟨x1,x2⟩ x3)
 have:=λx1 x2 x3 x4=>cx_ (Z3 ⟨x1,x2⟩ ⟨x3,x4⟩)
 have:=λx1 x2 x3=>cx_ (Z3 ⟨x1,x2⟩ x3)
 have:=C22
 have:=L8
 have:=C99
 have:=K2
 have:=A71
 have:=Z3
 have:=P5
 have:=A78.eq_1 s d
 have:=λi_ s_=>Z0.eq_1 s (I4 s.Vertices) i_ s_
 have:=λx_ Q_ σ_=> @lp_ Tryz.prog 79 [] x_ Q_ σ_ hm (λ_=>True) (λ_=>True) s.Vertices.length (λi_=> [(4, .share, .ptr 80 0 0 1),(5, .share,sI (B4 (X7 s.Vertices) d)),(6, .share, .ptr 112 0 0 1),(7, .share,sI ((itr (Z0 s (I4 s.Vertices)) i_ (0,0,(L9 (s.Vertices.getD (IntKind.i64.wrap ((s.Vertices.length:Int)-1)).toNat default) (I4 s.Vertices)).X,(L9 (s.Vertices.getD (IntKind.i64.wrap ((s.Vertices.length:Int)-1)).toNat default) (I4 s.Vertices)).Y)).1)),(8, .share,sI ((itr (Z0 s (I4 s.Vertices)) i_ (0,0,(L9 (s.Vertices.getD (IntKind.i64.wrap ((s.Vertices.length:Int)-1)).toNat default) (I4 s.Vertices)).X,(L9 (s.Vertices.getD (IntKind.i64.wrap ((s.Vertices.length:Int)-1)).toNat default) (I4 s.Vertices)).Y)).2.1)),(9, .share, .ptr 160 0 0 1),(33, .share,A2 2 Vec.enc default s.Vertices),(34, .share,sI (s.Vertices.length:Int)),(35, .share,sI (i_:Int))]) (λi_=> [(80, .box [sI 0,sI 0,sI 0,sI 0]),(112, .box [sI ((I4 s.Vertices).X),sI ((I4 s.Vertices).Y)]),(160, .box [sI ((itr (Z0 s (I4 s.Vertices)) i_ (0,0,(L9 (s.Vertices.getD (IntKind.i64.wrap ((s.Vertices.length:Int)-1)).toNat default) (I4 s.Vertices)).X,(L9 (s.Vertices.getD (IntKind.i64.wrap ((s.Vertices.length:Int)-1)).toNat default) (I4 s.Vertices)).Y)).2.2.1),sI ((itr (Z0 s (I4 s.Vertices)) i_ (0,0,(L9 (s.Vertices.getD (IntKind.i64.wrap ((s.Vertices.length:Int)-1)).toNat default) (I4 s.Vertices)).X,(L9 (s.Vertices.getD (IntKind.i64.wrap ((s.Vertices.length:Int)-1)).toNat default) (I4 s.Vertices)).Y)).2.2.2)])]) [] trivial (λ_ _=>trivial) (by simp[go_sem]) (by simp[go_sem,A6]) (by simp[go_sem]);exact A4t
def A96(s:Shape)(d:Int):MassData:=let v1:=(E7 s);if(((v1 != 0)||(decide (d<0)))||(decide (262144<d)))=true then((⟨0,(⟨0,0⟩:Vec),0⟩:MassData))else(if(s.Kind==1)=true then(let v2:=(A9c s d);v2)else(if(s.Kind==2)=true then(let v3:=(A8b s d);v3)else(let v4:=(A78 s d);v4)))
theorem C8y(s:Shape)(d:Int)(h0:s.Vertices.length<=1048576):A1 Tryz.prog C7z [.agg s.enc,sI d] [] (.agg (A96 s d).enc) []:=by
 refine L5 32 [(4,some (some 4))] hm A4 Tryz.func441 rfl ?_;have:=E0l s
 have:=A07
 have:=C7d
 have:=C5j
 have:=C44
 have:=A96.eq_1 s d;exact J1
def A18(p:MassData):Bool:=(decide (p.Mass<0))
theorem C32(p:MassData):A1 Tryz.prog B26 [.agg p.enc] [] (sB (A18 p)) []:=by refine en1 hm A4 Tryz.func517 rfl rfl ?_;have:=A18.eq_1 p;exact C9
theorem B6t(l:List MassData)(f:FuncId)(first cap:List AV)(O:List (Nat×A5))(p:MassData->Bool)(hl:l.length<=4194304)(hO:okO O)
  (hids: ∀i∈(AV.fn (.func f) first cap).ids,(ofL O i).isSome)
  (hp: ∀x∈l,A1 Tryz.prog f (first++ [.agg x.enc]++cap) O (sB (p x)) O):
  A1 Tryz.prog B6c [A2 4 MassData.enc default l, .fn (.func f) first cap] O (sI (A41 default p l)) O:=by
 have hren:(AV.fn (.func f) first cap).ren id= .fn (.func f) first cap:=AV.ren_id _
 have hargs: ∀x:MassData,∀a∈first++ [.agg x.enc]++cap,∀i∈a.ids,(ofL O i).isSome:=λx a ha i hi=>by
  simp only[List.mem_append,List.mem_singleton]at ha;refine hids i ?_;simp only[AV.ids,List.mem_append];rcases ha with(ha |rfl) |ha
  ·obtain⟨k,hk⟩:=List.getElem?_of_mem ha;exact .inl (N2 hk i hi)
  ·simp[AV.ids,go_sem]at hi
  ·obtain⟨k,hk⟩:=List.getElem?_of_mem ha;exact .inr (N2 hk i hi)
 refine H8 hm A4 Tryz.func550 rfl rfl ?_;simp only[go_sem,go_sem_proc];refine A9 hm (ι:= {i:Nat // i<=l.length/\ ∀j,j<i->p (l.getD j default)=false}) (λi=> [(0, .share,A2 4 MassData.enc default l),(1, .share, .fn (.func f) first cap),(7, .share,sI l.length),(8, .share,sI i.1)])
  (λi=>O) (λi=>l.length-i.1) ⟨0,by omega,λj hj=>by omega⟩ ?_ ?_
 ·refine V4 hO rfl ?_;simp only[go_sem,go_sem_proc];exact⟨by rw[M9,M9],λi hi=>hids i hi⟩
 ·rintro⟨i,hi,hs⟩;simp only[go_sem,go_sem_proc];split
  ·rename_i hlt;have hlt:i<l.length:=by omega
   refine⟨(by(repeat' (with_reducible apply And.intro)) <;> omega),?_⟩;have hx:A1 Tryz.prog f (first++ .agg (l.getD i default).enc::cap) O (sB (p (l.getD i default))) O:=by have:=hp (l.getD i default) (B6 default hlt);rwa[List.append_assoc]at this
   refine V7 hx hO rfl (λa ha=>hargs (l.getD i default) a (by rw[List.append_assoc];exact ha)) rfl ?_;simp only[go_sem,go_sem_proc];cases hpx:p (l.getD i default)with
   |true=>rw[if_pos rfl];refine Q9 [.share] rfl rfl hO (U3 hO) ?_;simp only[go_sem,go_sem_proc];exact(A82 hlt hs hpx).symm
   |false=>rw[if_neg (by simp)];refine A7 ⟨i+1,by omega,λj hj=>by rcases Nat.lt_succ_iff_lt_or_eq.1 hj with h |rfl;exact hs j h;exact hpx⟩ (by show l.length-(i+1)<l.length-i;omega) (V4 hO (U3 hO) ?_);simp only[go_sem,go_sem_proc];exact⟨by rw[M9,M9],λi hi=>hids i hi,(by rw[IntKind.wrap_i64];omega)⟩
  ·rename_i hge;refine Q9 [.share] rfl rfl hO rfl ?_;simp only[go_sem,go_sem_proc];exact(A4b λj hj=>hs j (by omega)).symm
theorem B34(l:List MassData)(f:FuncId)(first cap:List AV)(O:List (Nat×A5))(p:MassData->Bool)(hl:l.length<=4194304)(hO:okO O)
  (hids: ∀i∈(AV.fn (.func f) first cap).ids,(ofL O i).isSome)
  (hp: ∀x∈l,A1 Tryz.prog f (first++ [.agg x.enc]++cap) O (sB (p x)) O):
  A1 Tryz.prog B4j [A2 4 MassData.enc default l, .fn (.func f) first cap] O (sB (l.any p)) O:=by
 refine H8 hm A4 Tryz.func516 rfl rfl ?_;simp only[go_sem,go_sem_proc];refine V7 (B6t l f first cap O p hl hO hids hp) hO rfl ?_ rfl ?_
 ·intro a ha;simp only[List.mem_cons,List.not_mem_nil,or_false]at ha;rcases ha with rfl |rfl
  ·intro i hi;simp[AV.ids]at hi
  ·exact hids
 ·simp only[go_sem,go_sem_proc];refine Q9 [.share] rfl rfl hO (U3 hO) ?_;simp only[go_sem,go_sem_proc];exact B9n p l
def A2e(ps:List MassData)(v5:Int)(v6:Int)(i2:Nat)(s2:Int):Int:=let v7:=(L9 (ps.getD i2 default).Center (⟨v5,v6⟩:Vec));let v8:=(C5 s2 (ps.getD i2 default).Inertia);let v9:=(O7 v7 v7);let v10:=(B4 (ps.getD i2 default).Mass v9);let v11:=(C5 v8 v10);v11
def A2b(ps:List MassData)(i3:Nat)(s3:Int):Int:=let v12:=(L9 (ps.getD i3 default).Center (⟨0,0⟩:Vec));let v13:=(C5 s3 (ps.getD i3 default).Inertia);let v14:=(O7 v12 v12);let v15:=(B4 (ps.getD i3 default).Mass v14);let v16:=(C5 v13 v15);v16
def T9(ps:List MassData)(i1:Nat)(s1:Int×Int×Int×Int):Int×Int×Int×Int:=let v2:=(C5 s1.2.2.2 (sat (ps.getD i1 default).Mass));((IntKind.i64.wrap (s1.1+(sat (ps.getD i1 default).Mass))),(IntKind.i64.wrap (s1.2.1+(IntKind.i64.wrap ((sat (ps.getD i1 default).Mass)*(sat (ps.getD i1 default).Center.X))))),(IntKind.i64.wrap (s1.2.2.1+(IntKind.i64.wrap ((sat (ps.getD i1 default).Mass)*(sat (ps.getD i1 default).Center.Y))))),v2)
def Y8(ps:List MassData):MassData:=if((decide (8<(ps.length:Int)))||(ps.any (λx=>(A18 x))))=true then((⟨0,(⟨0,0⟩:Vec),0⟩:MassData))else(let s1:=itr (T9 ps) ps.length (0,0,0,0);if 0<s1.1 then(let v5:=(A1g s1.2.1 s1.1);let v6:=(A1g s1.2.2.1 s1.1);let s2:=itr (A2e ps v5 v6) ps.length 0;(⟨s1.2.2.2,(⟨v5,v6⟩:Vec),s2⟩:MassData))else(let s3:=itr (A2b ps) ps.length 0;(⟨s1.2.2.2,(⟨0,0⟩:Vec),s3⟩:MassData)))
theorem D0d(ps:List MassData)(h0:ps.length<=1048576):A1 Tryz.prog C8j [A2 4 MassData.enc default ps] [] (.agg (Y8 ps).enc) []:=by
 refine L5 91 [(2,some (some 4))] hm A4 Tryz.func442 rfl ?_;simp only[go_sem,go_sem_proc];refine A0 (B34 ps B26 [] [] [] (λx=>(A18 x)) (by(omega)) D1t (by simp[AV.ids,F4]) (λx _=>C32 x)) rfl ?_;simp only[go_sem,go_sem_proc,D2];by_cases h1:((decide (8<(ps.length:Int)))||(ps.any (λx=>(A18 x))))=true
 ·rw[if_pos h1];have hd:Y8 ps=(⟨0,(⟨0,0⟩:Vec),0⟩:MassData):=by(simp only[Y8,h1,if_true,eq_self];done)
  try rw[hd]
  try simp only[go_sem,go_sem_proc]
 ·rw[if_neg h1];refine A9 hm (ι:= {i:Nat // i<=ps.length}) (λi=> [(0, .share,A2 4 MassData.enc default ps),(2, .share, .ptr 48 0 0 1),(3, .share, .ptr 64 0 0 1),(4, .share,sI ((itr (T9 ps) i.1 (0,0,0,0)).1)),(5, .share,sI ((itr (T9 ps) i.1 (0,0,0,0)).2.1)),(6, .share,sI ((itr (T9 ps) i.1 (0,0,0,0)).2.2.1)),(21, .share,A2 4 MassData.enc default ps),(22, .share,sI (ps.length:Int)),(23, .share,sI (i.1:Int))]) (λi=> [(48, .box [sI 0,sI 0,sI 0,sI 0]),(64, .box [sI ((itr (T9 ps) i.1 (0,0,0,0)).2.2.2),sI 0,sI 0,sI 0])]) (λi=>ps.length-i.1) ⟨0,by omega⟩ ?_ ?_
  ·refine B5 [] [] (by simp[go_sem]) (by simp[A6,go_sem]) (by simp[go_sem]) ?_;simp only[go_sem,go_sem_proc,H5]
  ·rintro⟨i1,hi1⟩;dsimp only;generalize hs1:itr (T9 ps) i1 (0,0,0,0)=s1;simp only[go_sem,go_sem_proc];by_cases h2:(i1:Int)<(ps.length:Int)
   ·rw[if_pos h2];have hlt1:i1<ps.length:=by omega
    (repeat(with_reducible refine And.intro ?_ ?_;exact bO_))
    refine A0 (J7 (ps.getD i1 default).Mass) rfl ?_;simp only[go_sem,go_sem_proc];refine A0 (M8 s1.2.2.2 (sat (ps.getD i1 default).Mass)) rfl ?_;generalize hv2:(C5 s1.2.2.2 (sat (ps.getD i1 default).Mass))=v2;simp only[go_sem,go_sem_proc];refine A0 (J7 (ps.getD i1 default).Center.X) rfl ?_;simp only[go_sem,go_sem_proc];refine A0 (J7 (ps.getD i1 default).Center.Y) rfl ?_;simp only[go_sem,go_sem_proc];have hn:itr (T9 ps) (i1+1) (0,0,0,0)=((IntKind.i64.wrap (s1.1+(sat (ps.getD i1 default).Mass))),(IntKind.i64.wrap (s1.2.1+(IntKind.i64.wrap ((sat (ps.getD i1 default).Mass)*(sat (ps.getD i1 default).Center.X))))),(IntKind.i64.wrap (s1.2.2.1+(IntKind.i64.wrap ((sat (ps.getD i1 default).Mass)*(sat (ps.getD i1 default).Center.Y))))),v2):=by rw[E4,hs1];(simp only[T9,hv2,eq_self];done)
    refine A7 ⟨i1+1,by omega⟩ (by show ps.length-(i1+1)<ps.length-i1;omega) (B5 [] [] (by simp[go_sem]) (by simp[A6,go_sem]) (by simp[go_sem]) ?_);simp only[go_sem,go_sem_proc,hn];exact eO_
   ·rw[if_neg h2];have hge:i1=ps.length:=by omega
    subst hge;by_cases h3:0<s1.1
    ·rw[if_pos h3];refine A0 (P5 s1.2.1 s1.1) rfl ?_;generalize hv5:(A1g s1.2.1 s1.1)=v5;simp only[go_sem,go_sem_proc];refine A0 (P5 s1.2.2.1 s1.1) rfl ?_;generalize hv6:(A1g s1.2.2.1 s1.1)=v6;simp only[go_sem,go_sem_proc];refine A9 hm (ι:= {i:Nat // i<=ps.length}) (λi=> [(2, .share, .ptr 48 0 0 1),(3, .share, .ptr 64 0 0 1),(65, .share,A2 4 MassData.enc default ps),(66, .share,sI (ps.length:Int)),(67, .share,sI (i.1:Int))]) (λi=> [(48, .box [sI 0,sI 0,sI 0,sI 0]),(64, .box [sI s1.2.2.2,sI v5,sI v6,sI (itr (A2e ps v5 v6) i.1 0)])]) (λi=>ps.length-i.1) ⟨0,by omega⟩ ?_ ?_
     ·refine B5 [] [] (by simp[go_sem]) (by simp[A6,go_sem]) (by simp[go_sem]) ?_;simp only[go_sem,go_sem_proc,H5]
     ·rintro⟨i2,hi2⟩;dsimp only;generalize hs2:itr (A2e ps v5 v6) i2 0=s2;simp only[go_sem,go_sem_proc];by_cases h4:(i2:Int)<(ps.length:Int)
      ·rw[if_pos h4];have hlt2:i2<ps.length:=by omega
       (repeat(with_reducible refine And.intro ?_ ?_;exact bO_))
       refine A0 (K2 (ps.getD i2 default).Center (⟨v5,v6⟩:Vec)) rfl ?_;generalize hv7:(L9 (ps.getD i2 default).Center (⟨v5,v6⟩:Vec))=v7;simp only[go_sem,go_sem_proc];refine A0 (M8 s2 (ps.getD i2 default).Inertia) rfl ?_;generalize hv8:(C5 s2 (ps.getD i2 default).Inertia)=v8;simp only[go_sem,go_sem_proc];refine A0 (Z3 v7 v7) rfl ?_;generalize hv9:(O7 v7 v7)=v9;simp only[go_sem,go_sem_proc];refine A0 (L8 (ps.getD i2 default).Mass v9) rfl ?_;generalize hv10:(B4 (ps.getD i2 default).Mass v9)=v10;simp only[go_sem,go_sem_proc];refine A0 (M8 v8 v10) rfl ?_;generalize hv11:(C5 v8 v10)=v11;simp only[go_sem,go_sem_proc];have hn:itr (A2e ps v5 v6) (i2+1) 0=v11:=by rw[E4,hs2];(simp only[A2e,hv7,hv8,hv9,hv10,hv11,eq_self];done)
       refine A7 ⟨i2+1,by omega⟩ (by show ps.length-(i2+1)<ps.length-i2;omega) (B5 [] [] (by simp[go_sem]) (by simp[A6,go_sem]) (by simp[go_sem]) ?_);simp only[go_sem,go_sem_proc,hn];exact eO_
      ·rw[if_neg h4];have hge:i2=ps.length:=by omega
       subst hge;have hd:Y8 ps=(⟨s1.2.2.2,(⟨v5,v6⟩:Vec),s2⟩:MassData):=by(simp only[Y8,h1,hs1,h3,hv5,hv6,hs2,if_true,if_false,eq_self,Bool.false_eq_true];done)
       try rw[hd]
       try simp only[go_sem,go_sem_proc]
    ·rw[if_neg h3];refine A9 hm (ι:= {i:Nat // i<=ps.length}) (λi=> [(2, .share, .ptr 48 0 0 1),(3, .share, .ptr 64 0 0 1),(65, .share,A2 4 MassData.enc default ps),(66, .share,sI (ps.length:Int)),(67, .share,sI (i.1:Int))]) (λi=> [(48, .box [sI 0,sI 0,sI 0,sI 0]),(64, .box [sI s1.2.2.2,sI 0,sI 0,sI (itr (A2b ps) i.1 0)])]) (λi=>ps.length-i.1) ⟨0,by omega⟩ ?_ ?_
     ·refine B5 [] [] (by simp[go_sem]) (by simp[A6,go_sem]) (by simp[go_sem]) ?_;simp only[go_sem,go_sem_proc,H5]
     ·rintro⟨i3,hi3⟩;dsimp only;generalize hs3:itr (A2b ps) i3 0=s3;simp only[go_sem,go_sem_proc];by_cases h5:(i3:Int)<(ps.length:Int)
      ·rw[if_pos h5];have hlt3:i3<ps.length:=by omega
       (repeat(with_reducible refine And.intro ?_ ?_;exact bO_))
       refine A0 (K2 (ps.getD i3 default).Center (⟨0,0⟩:Vec)) rfl ?_;generalize hv12:(L9 (ps.getD i3 default).Center (⟨0,0⟩:Vec))=v12;simp only[go_sem,go_sem_proc];refine A0 (M8 s3 (ps.getD i3 default).Inertia) rfl ?_;generalize hv13:(C5 s3 (ps.getD i3 default).Inertia)=v13;simp only[go_sem,go_sem_proc];refine A0 (Z3 v12 v12) rfl ?_;generalize hv14:(O7 v12 v12)=v14;simp only[go_sem,go_sem_proc];refine A0 (L8 (ps.getD i3 default).Mass v14) rfl ?_;generalize hv15:(B4 (ps.getD i3 default).Mass v14)=v15;simp only[go_sem,go_sem_proc];refine A0 (M8 v13 v15) rfl ?_;generalize hv16:(C5 v13 v15)=v16;simp only[go_sem,go_sem_proc];have hn:itr (A2b ps) (i3+1) 0=v16:=by rw[E4,hs3];(simp only[A2b,hv12,hv13,hv14,hv15,hv16,eq_self];done)
       refine A7 ⟨i3+1,by omega⟩ (by show ps.length-(i3+1)<ps.length-i3;omega) (B5 [] [] (by simp[go_sem]) (by simp[A6,go_sem]) (by simp[go_sem]) ?_);simp only[go_sem,go_sem_proc,hn];exact eO_
      ·rw[if_neg h5];have hge:i3=ps.length:=by omega
       subst hge;have hd:Y8 ps=(⟨s1.2.2.2,(⟨0,0⟩:Vec),s3⟩:MassData):=by(simp only[Y8,h1,hs1,h3,hs3,if_false,eq_self,Bool.false_eq_true];done)
       try rw[hd]
       try simp only[go_sem,go_sem_proc]
def T6(fs:List Fixture)(i1:Nat)(s1:(List MassData)):(List MassData):=if(fs.getD i1 default).Sensor=false then(let v1:=(A96 (fs.getD i1 default).Shape (fs.getD i1 default).Density);(s1++ [v1]))else(s1)
def A7l(fs:List Fixture):MassData:=if 4<(fs.length:Int)then((⟨0,(⟨0,0⟩:Vec),0⟩:MassData))else(let s1:=itr (T6 fs) fs.length [];let v2:=(Y8 s1);v2)
theorem C29(fs:List Fixture)(h0: ∀f∈fs,f.Shape.Vertices.length<=1048576):A1 Tryz.prog C3o [A2 10 Fixture.enc default fs] [] (.agg (A7l fs).enc) []:=by
 refine L5 30 [(2,some (some 4))] hm A4 Tryz.func320 rfl ?_;have:=C8y
 have:=D0d
 have:=A7l.eq_1 fs
 have:=λi_ s_=>T6.eq_1 fs i_ s_
 have:=λx_ Q_ σ_=> @lp_ Tryz.prog 30 [] x_ Q_ σ_ hm (λ_=>True) (λi_=>((itr (T6 fs) i_ [])).length<=0+1*i_) fs.length (λi_=> [(2, .share, .ptr 48 0 0 1),(3,if i_=0 then .adopt else .share, .sl 1003 0 (itr (T6 fs) i_ []).length (itr (T6 fs) i_ []).length),(10, .share,A2 10 Fixture.enc default fs),(11, .share,sI (fs.length:Int)),(12, .share,sI (i_:Int))]) (λi_=> [(48, .box [sI 0,sI 0,sI 0,sI 0]),(1003, .arr 4 (A8 MassData.enc default (itr (T6 fs) i_ [])))]) [1003] trivial (λi_ hI_=>A7i (λs:(List MassData)=>(s).length) 1 (λi s=>by(unfold T6;(repeat' split) <;> simp <;> omega)) i_ _) (by simp[go_sem]) (by simp[go_sem,A6]) (by simp[go_sem]);exact J1
def A6o(b:Body):MassData:=let v1:=(A7l b.Fixtures);v1
theorem B4b(b:Body)(h0: ∀f∈b.Fixtures,f.Shape.Vertices.length<=1048576):A1 Tryz.prog D52 [.agg b.enc] [] (.agg (A6o b).enc) []:=by
 refine L5 6 [(2,some (some 4))] hm A4 Tryz.func194 rfl ?_;have:=C29
 have:=A6o.eq_1 b;exact C9
def E5(b:Body):Vec:=let v1:=(A6o b);let v2:=(X0 b.Transform v1.Center);v2
theorem A6s(b:Body)(h0: ∀f∈b.Fixtures,f.Shape.Vertices.length<=1048576):A1 Tryz.prog D0k [.agg b.enc] [] (.agg (E5 b).enc) []:=by
 refine L5 9 [(2,some (some 2))] hm A4 Tryz.func308 rfl ?_;have:=B4b
 have:=A7a
 have:=E5.eq_1 b;exact C9
def A58(m:MassData)(k:Int)(f:Bool):Int×Int:=if(k != 3)=true then((0,0))else(if 0<m.Mass then(let v1:=(Y1 65536 m.Mass);if((decide (0<m.Inertia))&&(!f))=true then(let v2:=(Y1 65536 m.Inertia);(v1,v2))else((v1,0)))else(if((decide (0<m.Inertia))&&(!f))=true then(let v3:=(Y1 65536 m.Inertia);(65536,v3))else((65536,0))))
theorem C78(m:MassData)(k:Int)(f:Bool):A1 Tryz.prog D02 [.agg m.enc,sI k,sB f] [] (.tup [sI ((A58 m k f).1),sI ((A58 m k f).2)]) []:=by
 refine enT hm A4 Tryz.func301 rfl rfl ?_;have:=A6w
 have:=A58.eq_1 m k f;exact C9
def A24(b:Body):SolverBody:=let v1:=(A6o b);let v2:=(A58 v1 b.Kind b.FixedRotation);(⟨b.Velocity,b.AngularVelocity,v2.1,v2.2⟩:SolverBody)
theorem B7o(b:Body)(h0: ∀f∈b.Fixtures,f.Shape.Vertices.length<=1048576):A1 Tryz.prog D2v [.agg b.enc] [] (.agg (A24 b).enc) []:=by
 refine L5 22 [(2,some (some 5))] hm A4 Tryz.func180 rfl ?_;have:=B4b
 have:=C78
 have:=A24.eq_1 b;exact C9
def A2n(b:Body):Body:=let v1:=(P7 b.Velocity.X (-16777216) 16777216);let v2:=(P7 b.Velocity.Y (-16777216) 16777216);let v3:=(P7 b.AngularVelocity (-4194304) 4194304);(⟨b.ID,b.Kind,b.Transform,(⟨v1,v2⟩:Vec),v3,b.Force,b.Torque,b.LinearDamping,b.AngularDamping,b.GravityScale,b.Bullet,b.FixedRotation,b.NoSleep,b.Asleep,b.IdleSteps,b.Fixtures⟩:Body)
theorem A8j(b:Body):A1 Tryz.prog C5q [.agg b.enc] [] (.agg (A2n b).enc) []:=by
 refine L5 20 [(2,some (some 20))] hm A4 Tryz.func110 rfl ?_;have:=A4p
 have:=A2n.eq_1 b;exact C9
def V5(b:Body)(s:Settings):Body:=if((b.Kind != 3)||b.Asleep)=true then(b)else(let v1:=(A24 b);let v2:=(R0 s.Gravity b.GravityScale);let v3:=(R0 v2 s.TimeStep);let v4:=(A11 b.Velocity v3);let v5:=(R0 b.Force v1.InvMass);let v6:=(R0 v5 s.TimeStep);let v7:=(A11 v4 v6);let v8:=(B4 b.LinearDamping s.TimeStep);let v9:=(R0 v7 v8);let v10:=(L9 v7 v9);let v11:=(B4 b.Torque v1.InvInertia);let v12:=(B4 v11 s.TimeStep);let v13:=(C5 b.AngularVelocity v12);let v14:=(B4 b.AngularDamping s.TimeStep);let v15:=(B4 v13 v14);let v16:=(sat (sat v13-sat v15));if b.FixedRotation=true then(let v17:=(A2n (⟨b.ID,b.Kind,b.Transform,v10,0,b.Force,b.Torque,b.LinearDamping,b.AngularDamping,b.GravityScale,b.Bullet,b.FixedRotation,b.NoSleep,b.Asleep,b.IdleSteps,b.Fixtures⟩:Body));v17)else(let v18:=(A2n (⟨b.ID,b.Kind,b.Transform,v10,v16,b.Force,b.Torque,b.LinearDamping,b.AngularDamping,b.GravityScale,b.Bullet,b.FixedRotation,b.NoSleep,b.Asleep,b.IdleSteps,b.Fixtures⟩:Body));v18))
theorem C6e(b:Body)(s:Settings)(h0: ∀f∈b.Fixtures,f.Shape.Vertices.length<=1048576):A1 Tryz.prog C45 [.agg b.enc, .agg s.enc] [] (.agg (V5 b s).enc) []:=by
 refine L5 73 [(4,some (some 20))] hm A4 Tryz.func179 rfl ?_;have:=λx1 x2 x3 x4 x5 x6 x7 x8 x9 x10 x11 x12 x13 x14 x15 x16 x17 x18 x19 x20=>cx_ (A8j ⟨x1,x2,⟨⟨x3,x4⟩,x5⟩,⟨x6,x7⟩,x8,⟨x9,x10⟩,x11,x12,x13,x14,x15,x16,x17,x18,x19,x20⟩)
 have:=B7o
 have:=A7y
 have:=A47
 have:=L8
 have:=K2
 have:=M8
 have:=Q5
 have:=A8j
 have:=V5.eq_1 b s;exact C9
def A3f(c:Int)(v:Int):Int×Int:=let v1:=(P7 c (-268435456) 268435456);if(v1 != c)=true then((v1,0))else((c,v))
theorem C7o(c:Int)(v:Int):A1 Tryz.prog C7h [sI c,sI v] [] (.tup [sI ((A3f c v).1),sI ((A3f c v).2)]) []:=by
 refine enT hm A4 Tryz.func196 rfl rfl ?_;have:=A4p
 have:=A3f.eq_1 c v;exact C9
def Z8(b:Body)(dt:Int):Body:=if((b.Kind==1)||b.Asleep)=true then(b)else(let v1:=(A6o b);let v2:=(A7n b.Transform v1.Center b.Velocity b.AngularVelocity dt);let v3:=(A3f v2.Position.X b.Velocity.X);let v4:=(A3f v2.Position.Y b.Velocity.Y);(⟨b.ID,b.Kind,(⟨(⟨v3.1,v4.1⟩:Vec),v2.Angle⟩:Transform),(⟨v3.2,v4.2⟩:Vec),b.AngularVelocity,b.Force,b.Torque,b.LinearDamping,b.AngularDamping,b.GravityScale,b.Bullet,b.FixedRotation,b.NoSleep,b.Asleep,b.IdleSteps,b.Fixtures⟩:Body))
theorem C5t(b:Body)(dt:Int)(h0: ∀f∈b.Fixtures,f.Shape.Vertices.length<=1048576):A1 Tryz.prog C58 [.agg b.enc,sI dt] [] (.agg (Z8 b dt).enc) []:=by
 refine L5 69 [(4,some (some 20))] hm A4 Tryz.func116 rfl ?_;have:=B4b
 have:=C3d
 have:=C7o
 have:=Z8.eq_1 b dt;exact C9
def H2(b:Body):Body:=(⟨b.ID,b.Kind,b.Transform,b.Velocity,b.AngularVelocity,(⟨0,0⟩:Vec),0,b.LinearDamping,b.AngularDamping,b.GravityScale,b.Bullet,b.FixedRotation,b.NoSleep,b.Asleep,b.IdleSteps,b.Fixtures⟩:Body)
theorem B9w(b:Body):A1 Tryz.prog A5w [.agg b.enc] [] (.agg (H2 b).enc) []:=by refine L5 7 [(2,some (some 20))] hm A4 Tryz.func120 rfl ?_;have:=H2.eq_1 b;exact C9
theorem D3o(s:Shape)(p:Transform)(h:E7 s=0):1<=(E8 s p).length/\(s.Kind=1->(E8 s p).length=1)/\(s.Kind=2->(E8 s p).length=2)/\(s.Kind≠1->s.Kind≠2->3<=(E8 s p).length)/\(E8 s p).length<=8:=by
 have:=E0l s h
 have:=E0g s p;rw[if_pos h]at this;rw[this];by_cases h1:s.Kind=1 <;> by_cases h2:s.Kind=2 <;> simp_all <;> omega
structure F6 where
 from_:Vec
 to:Vec
 deriving DecidableEq,Inhabited
def F6.enc(x:F6):List AV:=[sI x.from_.X,sI x.from_.Y,sI x.to.X,sI x.to.Y]
def F6.zero:List AV:= [sI 0,sI 0,sI 0,sI 0]
attribute [go_sem] F6.enc F6.zero
@[go_sem] theorem F4o(x:F6):F6.mk x.from_ x.to=x:=rfl
def T7(c:List Vec)(i1:Nat)(s1:(List F6)):(List F6):=(s1++ [(⟨(c.getD i1 default),(c.getD ((IntKind.i64.wrap ((i1:Int)+1)).tmod (c.length:Int)).toNat default)⟩:F6)])
def A3i(k:Int)(c:List Vec):(List F6):=if(k==1)=true then([(⟨(c.getD 0 default),(c.getD 0 default)⟩:F6)])else(if(k==2)=true then([(⟨(c.getD 0 default),(c.getD 1 default)⟩:F6)])else(if(k==3)=true then(let s1:=itr (T7 c) c.length [];s1)else(([]:List F6))))
theorem D47(k:Int)(c:List Vec)(h1:k=1->1<=c.length)(h2:k=2->2<=c.length)(h0:c.length<=1048576):A1 Tryz.prog D43 [sI k,A2 2 Vec.enc default c] [] (A2 4 F6.enc default (A3i k c)) []:=by
 refine en1 hm A4 Tryz.func449 rfl rfl ?_;have:=A3i.eq_1 k c
 have:=λi_ s_=>T7.eq_1 c i_ s_
 have:=λx_ Q_ σ_=> @lp_ Tryz.prog Tryz.f449.ntmps [] x_ Q_ σ_ hm (λ_=>True) (λi_=>((itr (T7 c) i_ [])).length<=0+1*i_) c.length (λi_=> [(1, .share,A2 2 Vec.enc default c),(5,if i_=0 then .adopt else .share, .sl 1005 0 (itr (T7 c) i_ []).length (itr (T7 c) i_ []).length),(35, .share,A2 2 Vec.enc default c),(36, .share,sI (c.length:Int)),(37, .share,sI (i_:Int))]) (λi_=> [(1005, .arr 4 (A8 F6.enc default (itr (T7 c) i_ [])))]) [1005] trivial (λi_ hI_=>A7i (λs:(List F6)=>(s).length) 1 (λi s=>by(unfold T7;(repeat' split) <;> simp <;> omega)) i_ _) (by simp[go_sem]) (by simp[go_sem,A6]) (by simp[go_sem]);exact J1
theorem E0e(k:Int)(c:List Vec):(A3i k c).length<=c.length+1:=by
 unfold A3i;simp only
 (repeat' split) <;> first |(simp;done) |skip
 have:=A7i (λs:List F6=>s.length) 1 (f:=T7 c) (λi s=>by unfold T7;simp) c.length [];simp only[List.length_nil]at this;omega
def A17(a:List F6)(b:List F6)(i1:Nat)(i2:Nat)(s2:Int):Int:=let v1:=(A4c (a.getD i1 default).from_ (a.getD i1 default).to (b.getD i2 default).from_ (b.getD i2 default).to);(if v1<s2 then v1 else s2)
def A2i(a:List F6)(b:List F6)(i1:Nat)(s1:Int):Int:=let s2:=itr (A17 a b i1) b.length s1;s2
def A6l(a:List F6)(b:List F6):Int:=let s1:=itr (A2i a b) a.length 536870911;s1
theorem C8t(a:List F6)(b:List F6)(h0:a.length<=1048576)(h1:b.length<=1048576):A1 Tryz.prog D0j [A2 4 F6.enc default a,A2 4 F6.enc default b] [] (sI (A6l a b)) []:=by
 refine en1 hm A4 Tryz.func448 rfl rfl ?_;simp only[go_sem,go_sem_proc];refine A9 hm (ι:= {i:Nat // i<=a.length}) (λi=> [(1, .share,A2 4 F6.enc default b),(5, .share,sI (itr (A2i a b) i.1 536870911)),(10, .share,A2 4 F6.enc default a),(11, .share,sI (a.length:Int)),(12, .share,sI (i.1:Int))]) (λi=> []) (λi=>a.length-i.1) ⟨0,by omega⟩ ?_ ?_
 ·refine B5 [] [] (by simp[go_sem]) (by simp[A6,go_sem]) (by simp[go_sem]) ?_;simp only[go_sem,go_sem_proc,H5]
 ·rintro⟨i1,hi1⟩;dsimp only;generalize hs1:itr (A2i a b) i1 536870911=s1;simp only[go_sem,go_sem_proc];by_cases h1:(i1:Int)<(a.length:Int)
  ·rw[if_pos h1];have hlt1:i1<a.length:=by omega
   (repeat(with_reducible refine And.intro ?_ ?_;exact bO_))
   refine A9 hm (ι:= {i:Nat // i<=b.length}) (λi=> [(1, .share,A2 4 F6.enc default b),(5, .share,sI (itr (A17 a b i1) i.1 s1)),(7, .share, .ptr 128 0 0 1),(10, .share,A2 4 F6.enc default a),(11, .share,sI (a.length:Int)),(12, .share,sI (i1:Int)),(16, .share,A2 4 F6.enc default b),(17, .share,sI (b.length:Int)),(18, .share,sI (i.1:Int))]) (λi=> [(128, .box [sI ((a.getD i1 default).from_.X),sI ((a.getD i1 default).from_.Y),sI ((a.getD i1 default).to.X),sI ((a.getD i1 default).to.Y)])]) (λi=>b.length-i.1) ⟨0,by omega⟩ ?_ ?_
   ·refine B5 [] [] (by simp[go_sem]) (by simp[A6,go_sem]) (by simp[go_sem]) ?_;simp only[go_sem,go_sem_proc,H5]
   ·rintro⟨i2,hi2⟩;dsimp only;generalize hs2:itr (A17 a b i1) i2 s1=s2;simp only[go_sem,go_sem_proc];by_cases h2:(i2:Int)<(b.length:Int)
    ·rw[if_pos h2];have hlt2:i2<b.length:=by omega
     (repeat(with_reducible refine And.intro ?_ ?_;exact bO_))
     refine A0 (B56 (a.getD i1 default).from_ (a.getD i1 default).to (b.getD i2 default).from_ (b.getD i2 default).to) rfl ?_;generalize hv1:(A4c (a.getD i1 default).from_ (a.getD i1 default).to (b.getD i2 default).from_ (b.getD i2 default).to)=v1;simp only[go_sem,go_sem_proc];have hn:itr (A17 a b i1) (i2+1) s1=(if v1<s2 then v1 else s2):=by rw[E4,hs2];(simp only[A17,hv1,eq_self];done)
     refine A7 ⟨i2+1,by omega⟩ (by show b.length-(i2+1)<b.length-i2;omega) (B5 [] [] (by simp[go_sem]) (by simp[A6,go_sem]) (by simp[go_sem]) ?_);simp only[go_sem,go_sem_proc,hn];exact eO_
    ·rw[if_neg h2];have hge:i2=b.length:=by omega
     subst hge;have hn:itr (A2i a b) (i1+1) 536870911=s2:=by rw[E4,hs1];(simp only[A2i,hs2,eq_self];done)
     refine A7 ⟨i1+1,by omega⟩ (by show a.length-(i1+1)<a.length-i1;omega) (B5 [] [] (by simp[go_sem]) (by simp[A6,go_sem]) (by simp[go_sem]) ?_);simp only[go_sem,go_sem_proc,hn];exact eO_
  ·rw[if_neg h1];have hge:i1=a.length:=by omega
   subst hge;have hd:A6l a b=s1:=by(simp only[A6l,hs1,eq_self];done)
   try rw[hd]
def A03(s:Shape):Bool:=let v1:=(E7 s);(v1==0)
theorem B89(s:Shape)(h0:s.Vertices.length<=1048576):A1 Tryz.prog D5j [.agg s.enc] [] (sB (A03 s)) []:=by
 refine en1 hm A4 Tryz.func336 rfl rfl ?_;have:=A07
 have:=A03.eq_1 s;exact C9
def J2(s:Shape)(t0:Transform)(t1:Transform):Int:=let v1:=(E7 s);if(v1 != 0)=true then(0)else(let v2:=(A0b t0.Angle t1.Angle);let v3:=(A0d s);let v4:=(B4 (if v2<(IntKind.i64.wrap (0-v2))then(IntKind.i64.wrap (0-v2))else v2) v3);let v5:=(L9 t1.Position t0.Position);let v6:=(A32 v5);let v7:=(C5 v6 v4);let v8:=(C5 v7 4);v8)
theorem D2q(s:Shape)(t0:Transform)(t1:Transform)(h0:s.Vertices.length<=1048576):A1 Tryz.prog D2b [.agg s.enc, .agg t0.enc, .agg t1.enc] [] (sI (J2 s t0 t1)) []:=by
 refine en1 hm A4 Tryz.func554 rfl rfl ?_;have:=A07
 have:=B8t
 have:=C1c
 have:=L8
 have:=K2
 have:=U6
 have:=M8
 have:=J2.eq_1 s t0 t1;exact J1
def K5(x:Int):Int:=let v1:=(A1g x 2);v1
theorem A9j(x:Int):A1 Tryz.prog D76 [sI x] [] (sI (K5 x)) []:=by
 refine en1 hm A4 Tryz.func386 rfl rfl ?_;have:=P5
 have:=K5.eq_1 x;exact C9
def S8(v:Vec)(f:Vec):Vec×Int:=let v1:=(A32 v);if(v1==0)=true then((f,0))else(let v2:=(A3k v);(v2,v1))
theorem B38(v:Vec)(f:Vec):A1 Tryz.prog C6f [.agg v.enc, .agg f.enc] [] (.tup [.agg (S8 v f).1.enc,sI ((S8 v f).2)]) []:=by
 refine A62 15 [(4,some (some 2)),(5,none)] hm A4 Tryz.func384 rfl ?_;have:=U6
 have:=A5h
 have:=S8.eq_1 v f;exact J1
def A1f(c:List Vec)(p:Vec)(i1:Nat)(s1:Int×Int):Int×Int:=let v2:=(B1 (c.getD (i1+1) default) (c.getD ((IntKind.i64.wrap (((i1+1:Nat):Int)+1)).tmod (c.length:Int)).toNat default) p);let v3:=(A9q v2.1 p);let v4:=(A9q (⟨s1.1,s1.2⟩:Vec) p);if v3<v4 then((v2.1.X,v2.1.Y))else((s1.1,s1.2))
def W0(c:List Vec)(p:Vec):Vec:=let v1:=(B1 (c.getD 0 default) (c.getD 1 default) p);let s1:=itr (A1f c p) (c.length-1) (v1.1.X,v1.1.Y);(⟨s1.1,s1.2⟩:Vec)
theorem B7w(c:List Vec)(p:Vec)(h2:2<=c.length)(h0:c.length<=1048576):A1 Tryz.prog B7z [A2 2 Vec.enc default c, .agg p.enc] [] (.agg (W0 c p).enc) []:=by
 refine L5 53 [(4,some (some 2))] hm A4 Tryz.func390 rfl ?_;have:=λx1 x2 x3=>cx_ (V8 ⟨x1,x2⟩ x3)
 have:=B1x
 have:=V8
 have:=W0.eq_1 c p
 have:=λi_ s_=>A1f.eq_1 c p i_ s_
 have:=λx_ Q_ σ_=> @lp_ Tryz.prog 53 [] x_ Q_ σ_ hm (λ_=>True) (λ_=>True) (c.length-1) (λi_=> [(0, .share,A2 2 Vec.enc default c),(3, .share, .ptr 64 0 0 1),(4, .share, .ptr 80 0 0 1),(5, .share, .ptr 96 0 0 1),(7, .share,sI ((i_+1:Nat):Int))]) (λi_=> [(64, .box [sI p.X,sI p.Y]),(80, .box [sI 0,sI 0]),(96, .box [sI ((itr (A1f c p) i_ ((B1 (c.getD 0 default) (c.getD 1 default) p).1.X,(B1 (c.getD 0 default) (c.getD 1 default) p).1.Y)).1),sI ((itr (A1f c p) i_ ((B1 (c.getD 0 default) (c.getD 1 default) p).1.X,(B1 (c.getD 0 default) (c.getD 1 default) p).1.Y)).2)])]) [] trivial (λ_ _=>trivial) (by simp[go_sem]) (by simp[go_sem,A6]) (by simp[go_sem]);exact J1
structure manifold_placed where
 core:List Vec
 radius:Int
 kind:Int
 deriving DecidableEq,Inhabited
def manifold_placed.enc(x:manifold_placed):List AV:=[A2 2 Vec.enc default x.core,sI x.radius,sI x.kind]
def manifold_placed.zero:List AV:= [.sc (.slice none 0 0),sI 0,sI 0]
attribute [go_sem] manifold_placed.enc manifold_placed.zero
@[go_sem] theorem F1z(x:manifold_placed):manifold_placed.mk x.core x.radius x.kind=x:=rfl
def J6(s:Shape)(t:Transform):manifold_placed:=let v1:=(E8 s t);(⟨v1,s.Radius,s.Kind⟩:manifold_placed)
theorem D4s(s:Shape)(t:Transform)(h0:s.Vertices.length<=1048576):A1 Tryz.prog D48 [.agg s.enc, .agg t.enc] [] (.agg (J6 s t).enc) []:=by
 refine L5 13 [(4,some (some 3))] hm A4 Tryz.func249 rfl ?_;have:=B9a s t
 have:=A79
 have:=J6.eq_1 s t;exact C9
def A0a(a:Fixture)(b:Fixture):Bool:=if((a.Group==b.Group)&&(a.Group != 0))=true then((decide (0<a.Group)))else((((IntKind.i64.wrap (((BitVec.ofInt 64 a.Category &&& BitVec.ofInt 64 b.Mask).toNat:Nat):Int)) != 0)&&((IntKind.i64.wrap (((BitVec.ofInt 64 b.Category &&& BitVec.ofInt 64 a.Mask).toNat:Nat):Int)) != 0)))
theorem A8v(a:Fixture)(b:Fixture):A1 Tryz.prog B7h [.agg a.enc, .agg b.enc] [] (sB (A0a a b)) []:=by refine en1 hm A4 Tryz.func370 rfl rfl ?_;have:=A0a.eq_1 a b;exact C9
def A64(n:Vec)(l:List ContactPoint)(p:Vec)(disp sep id:Int):List ContactPoint:=if sep<=1024 then l++ [⟨A11 p (R0 n disp),sep,id,0,0⟩]else l
def bO(n:Vec):List (Nat×A5):= [(1, .box [sI n.X,sI n.Y, .sc (.slice none 0 0)]),(2, .box n.enc),(3, .box [.ptr 1 0 0 1])]
def bL(n:Vec)(l:List ContactPoint):List (Nat×A5):= [(1, .box [sI n.X,sI n.Y, .sl 4 0 l.length l.length]),(2, .box n.enc),(3, .box [.ptr 1 0 0 1]),(4, .arr 6 (A8 ContactPoint.enc default l))]
attribute [go_sem] bO bL
theorem A6t(n:Vec):A1 Tryz.prog C89 [.agg n.enc] [] (.tup [.ptr 1 0 0 1, .fn (.func A2d) [] [.ptr 2 0 0 1, .ptr 3 0 0 1]]) (bO n):=by unfold bO;refine A7p hm A4 Tryz.func385 rfl rfl ?_;simp only[go_sem,go_sem_proc];refine C6 [.share, .share] [(1,128),(2,32),(3,80)] [] rfl rfl (by simp[go_sem]) (by simp[A6,go_sem]) (by simp[go_sem]) ?_;simp only[go_sem,go_sem_proc]
theorem E4i {n p:Vec}{disp sep id:Int}{l:List ContactPoint}(h:sep<=1024):A64 n l p disp sep id=l++ [⟨A11 p (R0 n disp),sep,id,0,0⟩]:=by unfold A64;rw[if_pos h]
theorem E8c {n p:Vec}{disp sep id:Int}{l:List ContactPoint}(h: ¬sep<=1024):A64 n l p disp sep id=l:=by unfold A64;rw[if_neg h]
theorem E3j(n p:Vec)(disp sep id:Int):A1 Tryz.prog A2d [.agg p.enc,sI disp,sI sep,sI id, .ptr 2 0 0 1, .ptr 3 0 0 1] (bO n) (.tup []) (bL n (A64 n [] p disp sep id)):=by
 by_cases hs:sep<=1024
 ·rw[E4i hs];unfold bO bL;refine A7p hm A4 Tryz.func488 rfl rfl ?_;simp only[go_sem,go_sem_proc];simp only[hs,go_sem,go_sem_proc];refine A0 (A7y n disp) rfl ?_;simp only[go_sem,go_sem_proc];refine A0 (A47 p (R0 n disp)) rfl ?_;simp only[go_sem,go_sem_proc];refine⟨by simp[maxLen],?_⟩;refine C6 [] [(4,464)] [] rfl rfl (by simp[go_sem]) (by simp[A6,go_sem]) (by simp[go_sem,A6]) ?_;simp only[go_sem,go_sem_proc];exact C0o (λ_ _=>rfl) rfl rfl
 ·rw[E8c hs];unfold bO bL;refine A7p hm A4 Tryz.func488 rfl rfl ?_;simp only[go_sem,go_sem_proc];simp only[hs,decide_false,go_sem,go_sem_proc];refine C6 [] [] [4] rfl rfl (by simp[go_sem]) (by simp[A6,go_sem]) (by simp[go_sem,A6]) ?_;simp only[go_sem,go_sem_proc]
theorem F2a(n p:Vec)(disp sep id:Int)(l:List ContactPoint)(hl:l.length<=1000):A1 Tryz.prog A2d [.agg p.enc,sI disp,sI sep,sI id, .ptr 2 0 0 1, .ptr 3 0 0 1] (bL n l) (.tup []) (bL n (A64 n l p disp sep id)):=by
 by_cases hs:sep<=1024
 ·rw[E4i hs];unfold bL;refine A7p hm A4 Tryz.func488 rfl rfl ?_;simp only[go_sem,go_sem_proc];simp only[hs,go_sem,go_sem_proc];refine A0 (A7y n disp) rfl ?_;simp only[go_sem,go_sem_proc];refine A0 (A47 p (R0 n disp)) rfl ?_;simp only[go_sem,go_sem_proc];refine⟨⟨by omega,by simp only[maxLen];omega⟩,?_⟩;refine C6 [] [] [] rfl rfl (by simp[go_sem]) (by simp[A6,go_sem]) (by simp[go_sem,A6]) ?_;simp only[List.length_append,List.length_cons,List.length_nil,go_sem,go_sem_proc];exact A1y _ rfl rfl
 ·rw[E8c hs];unfold bL;refine A7p hm A4 Tryz.func488 rfl rfl ?_;simp only[go_sem,go_sem_proc];simp only[hs,decide_false,go_sem,go_sem_proc];refine C6 [] [] [] rfl rfl (by simp[go_sem]) (by simp[A6,go_sem]) (by simp[go_sem,A6]) ?_;simp only[go_sem,go_sem_proc]
theorem C0u(n:Vec):A1 Tryz.prog B08 [.ptr 1 0 0 1] (bL n []) (.tup [.agg (⟨⟨0,0⟩,[]⟩:Manifold).enc,sB false]) (bL n []):=by unfold bL;refine C0i 14 [(2,some (some 3)),(3,none)] hm A4 Tryz.func387 rfl ?_;simp only[go_sem,go_sem_proc];rw[if_pos (by decide)];refine C6 [.thaw, .share] [] [] rfl rfl (by simp[go_sem]) (by simp[A6,go_sem]) (by simp[go_sem,A6]) ?_;simp only[go_sem,go_sem_proc];exact Q8 rfl
theorem C8f(n:Vec)(l:List ContactPoint)(h:l≠ []):A1 Tryz.prog B08 [.ptr 1 0 0 1] (bL n l) (.tup [.agg (⟨n,l⟩:Manifold).enc,sB true]) [(1, .box [sI n.X,sI n.Y, .sl 4 0 l.length l.length]),(2, .box n.enc),(3, .box [.ptr 1 0 0 1]),(4, .frz 6 (A8 ContactPoint.enc default l))]:=by
 have hn: ¬((l.length:Int)==0)=true:=by simpa using h
 unfold bL;refine C0i 14 [(2,some (some 3)),(3,none)] hm A4 Tryz.func387 rfl ?_;simp only[go_sem,go_sem_proc];rw[if_neg hn];refine C6 [.thaw, .share] [] [] rfl rfl (by simp[go_sem]) (by simp[A6,go_sem]) (by simp[go_sem,A6]) ?_;simp only[go_sem,go_sem_proc];exact⟨rfl,rfl,λi hi=>L3 _⟩
def U2(a b:manifold_placed):Manifold×Bool:=
 let cp:=Y9 (a.core.getD 0 default) (a.core.getD (IntKind.i64.wrap ((a.core.length:Int)-1)).toNat default) (b.core.getD 0 default) (b.core.getD (IntKind.i64.wrap ((b.core.length:Int)-1)).toNat default)
 let dl:=S8 (L9 cp.2 cp.1) ⟨0,65536⟩
 let sep:=sat (sat (sat (sat dl.2-sat a.radius))-sat b.radius)
 let L:=A64 dl.1 [] cp.1 (C5 a.radius (K5 sep)) sep 0
 if L= []then(⟨⟨0,0⟩,[]⟩,false)else(⟨dl.1,L⟩,true)
theorem B90(a b:manifold_placed)(ha:1<=a.core.length)(hb:1<=b.core.length)(ha8:a.core.length<=1048576)(hb8:b.core.length<=1048576):A1 Tryz.prog C0b [.agg a.enc, .agg b.enc] [] (.tup [.agg (U2 a b).1.enc,sB ((U2 a b).2)]) []:=by
 refine A62 74 [(4,some (some 3)),(5,none)] hm A4 Tryz.func250 rfl ?_;have:=B0x
 have:=K2
 have:=λx1 x2 x3=>cx_ (B38 x1 ⟨x2,x3⟩)
 have:=Q5
 have:=M8
 have:=A9j
 have:=A6t
 (simp(maxSteps:=1000000) only[go_sem])
 repeat' (first |((with_reducible refine And.intro ?_ ?_);focus (exact K8)) |(with_reducible refine gd_ ?_;with_reducible refine A0 (by apply_assumption <;> first |exact K8 |(apply_assumption <;> first |assumption |exact K8)) rfl ?_;(simp(maxSteps:=1000000) only[go_sem])) |((with_reducible refine gD_ ?_);refine K0 ev_ K8 (by apply_assumption <;> first |exact K8 |(apply_assumption <;> first |assumption |exact K8)) ?_;(simp(maxSteps:=1000000) only[go_sem])))
 ·generalize hcp:Y9 (a.core.getD 0 default) (a.core.getD (IntKind.i64.wrap ((a.core.length:Int)-1)).toNat default) (b.core.getD 0 default) (b.core.getD (IntKind.i64.wrap ((b.core.length:Int)-1)).toNat default)=cp;generalize hdl:S8 (L9 cp.2 cp.1) ⟨0,65536⟩=dl;generalize hsep:sat (sat (sat (sat dl.2-sat a.radius))-sat b.radius)=sep;have hd:U2 a b=if A64 dl.1 [] cp.1 (C5 a.radius (K5 sep)) sep 0= []then(⟨⟨0,0⟩,[]⟩,false)else(⟨dl.1,A64 dl.1 [] cp.1 (C5 a.radius (K5 sep)) sep 0⟩,true):=by
   unfold U2;simp only[hcp,hdl,hsep]
  rw[hd];refine E3 [false,false,false,false,true,true] [(1,944),(2,945),(3,946),(4,1120)] (E3j dl.1 cp.1 (C5 a.radius (K5 sep)) sep 0) (by simp[bO]) (by simp[bL]) (by simp[bL,go_sem,A6]) (by simp[bO,bL,go_sem]) ?_;generalize A64 dl.1 [] cp.1 (C5 a.radius (K5 sep)) sep 0=L;simp only[go_sem,go_sem_proc];by_cases hL:L= []
  ·subst hL;rw[if_pos rfl];refine E3 [true] [(1,944),(2,945),(3,946),(4,1120)] (C0u dl.1) (by simp[bL]) (by simp[bL]) (by simp[bL,go_sem,A6]) (by simp[bL,go_sem]) ?_;simp only[List.length_nil,go_sem,go_sem_proc]
  ·rw[if_neg hL];refine E3 [true] [(1,944),(2,945),(3,946),(4,1120)] (C8f dl.1 L hL) (by simp[bL]) (by simp) (by simp[go_sem,A6]) (by simp[bL,go_sem]) ?_;simp only[go_sem,go_sem_proc]
def H4(a b:manifold_placed):Manifold×Bool:=
 let c:=b.core.getD 0 default
 let ig:=D0 a.core b.core
 let n0:=P4 a.core ig.1
 let dl:=if 0<ig.2 then S8 (L9 c (W0 a.core c)) n0 else(n0,ig.2)
 let L:=A64 dl.1 [] c (IntKind.i64.wrap (0-K5 (C5 dl.2 b.radius))) (sat (sat dl.2-sat b.radius)) 0
 if L= []then(⟨⟨0,0⟩,[]⟩,false)else(⟨dl.1,L⟩,true)
theorem F7c(a b:manifold_placed)(dl:Vec×Int)(h:(if 0<(D0 a.core b.core).2 then S8 (L9 (b.core.getD 0 default) (W0 a.core (b.core.getD 0 default))) (P4 a.core (D0 a.core b.core).1)else(P4 a.core (D0 a.core b.core).1,(D0 a.core b.core).2))=dl):
  H4 a b=if A64 dl.1 [] (b.core.getD 0 default) (IntKind.i64.wrap (0-K5 (C5 dl.2 b.radius))) (sat (sat dl.2-sat b.radius)) 0= []then(⟨⟨0,0⟩,[]⟩,false)else(⟨dl.1,A64 dl.1 [] (b.core.getD 0 default) (IntKind.i64.wrap (0-K5 (C5 dl.2 b.radius))) (sat (sat dl.2-sat b.radius)) 0⟩,true):=by
 subst h;rfl
theorem B3j(a b:manifold_placed)(ha:2<=a.core.length)(hb:1<=b.core.length)(ha8:a.core.length<=1048576)(hb8:b.core.length<=1048576):A1 Tryz.prog B3h [.agg a.enc, .agg b.enc] [] (.tup [.agg (H4 a b).1.enc,sB ((H4 a b).2)]) []:=by
 refine A62 63 [(4,some (some 3)),(5,none)] hm A4 Tryz.func251 rfl ?_;have:=B45
 have:=A5i
 have:=K2
 have:=B7w
 have:=B38
 have:=Q5
 have:=M8
 have:=A9j
 have:=A6t
 (simp(maxSteps:=1000000) only[go_sem])
 repeat' (first |((with_reducible refine And.intro ?_ ?_);focus (exact K8)) |((with_reducible refine it_ (λhc_=> ?_) (λhc_=> ?_)) <;> (have hd_:=hc_)) |(with_reducible refine gd_ ?_;with_reducible refine A0 (by apply_assumption <;> exact K8) rfl ?_;(simp(maxSteps:=1000000) only[go_sem])) |((with_reducible refine gD_ ?_);refine K0 ev_ K8 (by apply_assumption <;> first |exact K8 |(apply_assumption <;> first |assumption |exact K8)) ?_;(simp(maxSteps:=1000000) only[go_sem])))
 ·rw[F7c a b _ (if_pos (by assumption))];generalize S8 (L9 (b.core.getD 0 default) (W0 a.core (b.core.getD 0 default))) (P4 a.core (D0 a.core b.core).1)=dl;refine E3 [false,false,false,false,true,true] [(1,704),(2,705),(3,706),(4,944)] (E3j dl.1 (b.core.getD 0 default) (IntKind.i64.wrap (0-K5 (C5 dl.2 b.radius))) (sat (sat dl.2-sat b.radius)) 0) (by simp[bO]) (by simp[bL]) (by simp[bL,go_sem,A6]) (by simp[bO,bL,go_sem]) ?_;generalize A64 dl.1 [] (b.core.getD 0 default) (IntKind.i64.wrap (0-K5 (C5 dl.2 b.radius))) (sat (sat dl.2-sat b.radius)) 0=L;simp only[go_sem,go_sem_proc];by_cases hL:L= []
  ·subst hL;rw[if_pos rfl];refine E3 [true] [(1,704),(2,705),(3,706),(4,944)] (C0u dl.1) (by simp[bL]) (by simp[bL]) (by simp[bL,go_sem,A6]) (by simp[bL,go_sem]) ?_;simp only[List.length_nil,go_sem,go_sem_proc]
  ·rw[if_neg hL];refine E3 [true] [(1,704),(2,705),(3,706),(4,944)] (C8f dl.1 L hL) (by simp[bL]) (by simp) (by simp[go_sem,A6]) (by simp[bL,go_sem]) ?_;simp only[go_sem,go_sem_proc]
 ·have he:=F7c a b (P4 a.core (D0 a.core b.core).1,(D0 a.core b.core).2) (if_neg (by assumption))
  dsimp only at he;rw[he];generalize P4 a.core (D0 a.core b.core).1=n0;generalize(D0 a.core b.core).2=g;refine E3 [false,false,false,false,true,true] [(1,704),(2,705),(3,706),(4,944)] (E3j n0 (b.core.getD 0 default) (IntKind.i64.wrap (0-K5 (C5 g b.radius))) (sat (sat g-sat b.radius)) 0) (by simp[bO]) (by simp[bL]) (by simp[bL,go_sem,A6]) (by simp[bO,bL,go_sem]) ?_;generalize A64 n0 [] (b.core.getD 0 default) (IntKind.i64.wrap (0-K5 (C5 g b.radius))) (sat (sat g-sat b.radius)) 0=L;simp only[go_sem,go_sem_proc];by_cases hL:L= []
  ·subst hL;rw[if_pos rfl];refine E3 [true] [(1,704),(2,705),(3,706),(4,944)] (C0u n0) (by simp[bL]) (by simp[bL]) (by simp[bL,go_sem,A6]) (by simp[bL,go_sem]) ?_;simp only[List.length_nil,go_sem,go_sem_proc]
  ·rw[if_neg hL];refine E3 [true] [(1,704),(2,705),(3,706),(4,944)] (C8f n0 L hL) (by simp[bL]) (by simp) (by simp[go_sem,A6]) (by simp[bL,go_sem]) ?_;simp only[go_sem,go_sem_proc]
theorem F3k(n:Vec)(l:List ContactPoint)(h:l≠ []):A1 Tryz.prog B08 [.ptr 1 0 0 1] (bL n l) (.tup [.agg [sI n.X,sI n.Y, .sl 4 0 l.length l.length],sB true]) (bL n l):=by
 have hn: ¬((l.length:Int)==0)=true:=by simpa using h
 unfold bL;refine C0i 14 [(2,some (some 3)),(3,none)] hm A4 Tryz.func387 rfl ?_;simp only[go_sem,go_sem_proc];rw[if_neg hn];refine C6 [.share, .share] [] [] rfl rfl (by simp[go_sem]) (by simp[A6,go_sem]) (by simp[go_sem,A6]) ?_;simp only[go_sem,go_sem_proc]
abbrev clN(a:manifold_placed)(i:Int):Vec:=P4 a.core i
abbrev clJ(a b:manifold_placed)(i:Int):Int:=A97 b.core (clN a i)
abbrev clV(a b:manifold_placed)(i:Int):List clip_Vertex:=A3a a.core i b.core (clJ a b i)
abbrev clD(a:manifold_placed)(i:Int)(v:clip_Vertex):Int:=sat (sat (O7 (clN a i) (L9 v.Point (a.core.getD i.toNat default)))-sat a.radius)
def clS(a b:manifold_placed)(i:Int)(k:Nat)(l:List ContactPoint):List ContactPoint:=
 let v:=(clV a b i).getD k default
 A64 (clN a i) l v.Point (IntKind.i64.wrap (0-K5 (C5 (clD a i v) b.radius))) (sat (sat (clD a i v)-sat b.radius)) (IntKind.i64.wrap (IntKind.i64.wrap (IntKind.i64.wrap (64*i)+IntKind.i64.wrap (8*clJ a b i))+v.ID))
def clL(a b:manifold_placed)(i:Int):List ContactPoint:=itr (clS a b i) (clV a b i).length []
theorem F5b(l:List clip_Vertex)(o n:Vec):(A1b l o n).length<=2:=by
 unfold A1b;simp only
 (repeat' split) <;> simp
theorem F0m(a:List Vec)(i:Int)(b:List Vec)(k:Int):(A3a a i b k).length<=2:=by
 unfold A3a;simp only
 (repeat' split) <;> first |(simp;done) |exact F5b _ _ _
theorem D1a(a b:manifold_placed)(i:Int):(clV a b i).length<=2:=F0m _ _ _ _
theorem D1m(a b:manifold_placed)(i:Int)(k:Nat):(itr (clS a b i) k []).length<=k:=by have:=A7i (λl:List ContactPoint=>l.length) 1 (f:=clS a b i) (λj l=>by unfold clS A64;simp only;split <;> simp) k [];simp only[List.length_nil]at this;omega
theorem C0m(a b:manifold_placed)(i:Int)(hi:0<=i/\i<a.core.length)(ha8:a.core.length<=1048576)(hb8:b.core.length<=1048576)(hL:0<(clL a b i).length):A1 Tryz.prog B00 [.agg a.enc, .agg b.enc,sI i] [] (.tup [.agg [sI ((clN a i).X),sI ((clN a i).Y), .sl 1 0 (clL a b i).length (clL a b i).length],sB true]) [(1, .arr 6 (A8 ContactPoint.enc default (clL a b i)))]:=by
 refine C0i 80 [(6,some (some 3)),(7,none)] hm A4 Tryz.func392 rfl ?_;have:=A5i
 have:=B6g
 have:=A6t
 have:=C6r
 (simp(maxSteps:=1000000) only[go_sem])
 repeat' (first |(with_reducible refine gd_ ?_;with_reducible refine A0 (by apply_assumption <;> exact K8) rfl ?_;(simp(maxSteps:=1000000) only[go_sem])) |((with_reducible refine gD_ ?_);refine K0 ev_ K8 (by apply_assumption <;> first |exact K8 |(apply_assumption <;> first |assumption |exact K8)) ?_;(simp(maxSteps:=1000000) only[go_sem])))
 have hv:=D1a a b i;refine A9 hm (ι:= {k:Nat // k<=(clV a b i).length}) (λk=> [(2, .share,sI i),(3, .share, .ptr 64 0 0 1),(4, .share, .ptr 80 0 0 1),(6, .share, .ptr 112 0 0 1),(7, .share,sB false),(8, .share, .ptr 144 0 0 1),(9, .share,sI (clJ a b i)),(10, .share, .ptr 416 0 0 1),(11, .share, .fn (.func A2d) [] [.ptr 417 0 0 1, .ptr 418 0 0 1]),(34, .share,A2 3 clip_Vertex.enc default (clV a b i)),(35, .share,sI ((clV a b i).length:Int)),(36, .share,sI (k.1:Int))])
  (λk=> [(64, .box a.enc),(80, .box b.enc),(112, .box [sI 0,sI 0, .sc (.slice none 0 0)]),(144, .box (clN a i).enc),(416, .box [sI ((clN a i).X),sI ((clN a i).Y), .sl 1000 0 (itr (clS a b i) k.1 []).length (itr (clS a b i) k.1 []).length]),(417, .box (clN a i).enc),(418, .box [.ptr 416 0 0 1]),(1000, .arr 6 (A8 ContactPoint.enc default (itr (clS a b i) k.1 [])))]) (λk=>(clV a b i).length-k.1) ⟨0,by omega⟩ ?_ ?_
 ·refine B5 [] [1000] (by simp[go_sem]) (by simp[A6,go_sem]) (by simp[go_sem]) ?_;simp only[H5,List.length_nil,go_sem,go_sem_proc]
 ·rintro⟨k,hk⟩;have hl:=D1m a b i k
  have:=K2
  have:=Z3
  have:=Q5
  have:=M8
  have:=A9j;dsimp only
  (simp(maxSteps:=1000000) only[go_sem])
  repeat' (first |((with_reducible refine And.intro ?_ ?_);focus (exact K8)) |((with_reducible refine it_ (λhc_=> ?_) (λhc_=> ?_)) <;> (have hd_:=hc_)) |(with_reducible refine gd_ ?_;with_reducible refine A0 (by apply_assumption <;> first |exact K8 |(apply_assumption <;> first |assumption |exact K8)) rfl ?_;(simp(maxSteps:=1000000) only[go_sem])))
  ·have hk1:k<(clV a b i).length:=by omega
   refine E3 [false,false,false,false,true,true] [(1,416),(2,417),(3,418),(4,1000)] (F2a (clN a i) ((clV a b i).getD k default).Point (IntKind.i64.wrap (0-K5 (C5 (clD a i ((clV a b i).getD k default)) b.radius))) (sat (sat (clD a i ((clV a b i).getD k default))-sat b.radius)) (IntKind.i64.wrap (IntKind.i64.wrap (IntKind.i64.wrap (64*i)+IntKind.i64.wrap (8*clJ a b i))+((clV a b i).getD k default).ID)) (itr (clS a b i) k []) (by omega)) (by simp[bL]) (by simp[bL]) (by simp[bL,go_sem,A6]) (by simp[bL,go_sem]) ?_;rw[show A64 (clN a i) (itr (clS a b i) k []) ((clV a b i).getD k default).Point (IntKind.i64.wrap (0-K5 (C5 (clD a i ((clV a b i).getD k default)) b.radius))) (sat (sat (clD a i ((clV a b i).getD k default))-sat b.radius)) (IntKind.i64.wrap (IntKind.i64.wrap (IntKind.i64.wrap (64*i)+IntKind.i64.wrap (8*clJ a b i))+((clV a b i).getD k default).ID))=itr (clS a b i) (k+1) []from rfl];simp only[go_sem,go_sem_proc];refine A7 ⟨k+1,by omega⟩ (by show(clV a b i).length-(k+1)<(clV a b i).length-k;omega) (B5 [] [] (by simp[go_sem]) (by simp[A6,go_sem]) (by simp[go_sem]) ?_);simp only[go_sem,go_sem_proc];exact(by rw[IntKind.wrap_i64];omega)
  ·obtain rfl:k=(clV a b i).length:=by omega
   have hne:itr (clS a b i) (clV a b i).length []≠ []:=λe=>by unfold clL at hL;rw[e]at hL;simp at hL
   refine E3 [true] [(1,416),(2,417),(3,418),(4,1000)] (F3k (clN a i) (itr (clS a b i) (clV a b i).length []) hne) (by simp[bL]) (by simp[bL]) (by simp[bL,go_sem,A6]) (by simp[bL,go_sem]) ?_;simp only[go_sem,go_sem_proc];refine C6 [.share, .share] [(1,1000)] [] rfl rfl (by simp[go_sem]) (by simp[A6,go_sem]) (by simp[go_sem,A6]) ?_;simp only[clL,go_sem,go_sem_proc]
theorem C0e(a b:manifold_placed)(i:Int)(hi:0<=i/\i<a.core.length)(ha8:a.core.length<=1048576)(hb8:b.core.length<=1048576)(hL:(clL a b i).length=0):A1 Tryz.prog B00 [.agg a.enc, .agg b.enc,sI i] [] (.tup [.agg (⟨⟨0,0⟩,[]⟩:Manifold).enc,sB false]) []:=by
 refine A62 80 [(6,some (some 3)),(7,none)] hm A4 Tryz.func392 rfl ?_;have:=A5i
 have:=B6g
 have:=A6t
 have:=C6r
 (simp(maxSteps:=1000000) only[go_sem])
 repeat' (first |(with_reducible refine gd_ ?_;with_reducible refine A0 (by apply_assumption <;> exact K8) rfl ?_;(simp(maxSteps:=1000000) only[go_sem])) |((with_reducible refine gD_ ?_);refine K0 ev_ K8 (by apply_assumption <;> first |exact K8 |(apply_assumption <;> first |assumption |exact K8)) ?_;(simp(maxSteps:=1000000) only[go_sem])))
 have hv:=D1a a b i;refine A9 hm (ι:= {k:Nat // k<=(clV a b i).length}) (λk=> [(2, .share,sI i),(3, .share, .ptr 64 0 0 1),(4, .share, .ptr 80 0 0 1),(6, .share, .ptr 112 0 0 1),(7, .share,sB false),(8, .share, .ptr 144 0 0 1),(9, .share,sI (clJ a b i)),(10, .share, .ptr 416 0 0 1),(11, .share, .fn (.func A2d) [] [.ptr 417 0 0 1, .ptr 418 0 0 1]),(34, .share,A2 3 clip_Vertex.enc default (clV a b i)),(35, .share,sI ((clV a b i).length:Int)),(36, .share,sI (k.1:Int))])
  (λk=> [(64, .box a.enc),(80, .box b.enc),(112, .box [sI 0,sI 0, .sc (.slice none 0 0)]),(144, .box (clN a i).enc),(416, .box [sI ((clN a i).X),sI ((clN a i).Y), .sl 1000 0 (itr (clS a b i) k.1 []).length (itr (clS a b i) k.1 []).length]),(417, .box (clN a i).enc),(418, .box [.ptr 416 0 0 1]),(1000, .arr 6 (A8 ContactPoint.enc default (itr (clS a b i) k.1 [])))]) (λk=>(clV a b i).length-k.1) ⟨0,by omega⟩ ?_ ?_
 ·refine B5 [] [1000] (by simp[go_sem]) (by simp[A6,go_sem]) (by simp[go_sem]) ?_;simp only[H5,List.length_nil,go_sem,go_sem_proc]
 ·rintro⟨k,hk⟩;have hl:=D1m a b i k
  have:=K2
  have:=Z3
  have:=Q5
  have:=M8
  have:=A9j;dsimp only
  (simp(maxSteps:=1000000) only[go_sem])
  repeat' (first |((with_reducible refine And.intro ?_ ?_);focus (exact K8)) |((with_reducible refine it_ (λhc_=> ?_) (λhc_=> ?_)) <;> (have hd_:=hc_)) |(with_reducible refine gd_ ?_;with_reducible refine A0 (by apply_assumption <;> first |exact K8 |(apply_assumption <;> first |assumption |exact K8)) rfl ?_;(simp(maxSteps:=1000000) only[go_sem])))
  ·have hk1:k<(clV a b i).length:=by omega
   refine E3 [false,false,false,false,true,true] [(1,416),(2,417),(3,418),(4,1000)] (F2a (clN a i) ((clV a b i).getD k default).Point (IntKind.i64.wrap (0-K5 (C5 (clD a i ((clV a b i).getD k default)) b.radius))) (sat (sat (clD a i ((clV a b i).getD k default))-sat b.radius)) (IntKind.i64.wrap (IntKind.i64.wrap (IntKind.i64.wrap (64*i)+IntKind.i64.wrap (8*clJ a b i))+((clV a b i).getD k default).ID)) (itr (clS a b i) k []) (by omega)) (by simp[bL]) (by simp[bL]) (by simp[bL,go_sem,A6]) (by simp[bL,go_sem]) ?_;rw[show A64 (clN a i) (itr (clS a b i) k []) ((clV a b i).getD k default).Point (IntKind.i64.wrap (0-K5 (C5 (clD a i ((clV a b i).getD k default)) b.radius))) (sat (sat (clD a i ((clV a b i).getD k default))-sat b.radius)) (IntKind.i64.wrap (IntKind.i64.wrap (IntKind.i64.wrap (64*i)+IntKind.i64.wrap (8*clJ a b i))+((clV a b i).getD k default).ID))=itr (clS a b i) (k+1) []from rfl];simp only[go_sem,go_sem_proc];refine A7 ⟨k+1,by omega⟩ (by show(clV a b i).length-(k+1)<(clV a b i).length-k;omega) (B5 [] [] (by simp[go_sem]) (by simp[A6,go_sem]) (by simp[go_sem]) ?_);simp only[go_sem,go_sem_proc];exact(by rw[IntKind.wrap_i64];omega)
  ·obtain rfl:k=(clV a b i).length:=by omega
   have he:itr (clS a b i) (clV a b i).length []= []:=List.eq_nil_of_length_eq_zero hL;simp only[he,List.length_nil];have hf:=C0u (clN a i);refine E3 [true] [(1,416),(2,417),(3,418),(4,1000)] hf (by simp[bL]) (by simp[bL]) (by simp[bL,go_sem,A6]) (by simp[bL,go_sem]) ?_;simp only[List.length_nil,go_sem,go_sem_proc]
end Go.Abs
end
