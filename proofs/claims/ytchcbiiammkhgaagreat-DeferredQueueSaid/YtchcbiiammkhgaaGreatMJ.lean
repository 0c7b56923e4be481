/- A part of the proof: contracts of functions that the statement reaches. -/
import Derived.Test.YtchcbiiammkhgaaGreatMI
set_option linter.unusedSimpArgs false
set_option linter.unusedVariables false
set_option linter.unnecessarySimpa false
set_option maxRecDepth 100000
set_option maxHeartbeats 2000000
noncomputable section
namespace Go.Abs
open Go.Proofs
open Api
theorem D1v:okO []:=⟨by simp,by simp⟩
def A00(x:Int):Bool:=(x != x)
theorem C03(x:Int):A1 Tryz.prog D55 [sI x] [] (sB (A00 x)) []:=by refine en1 hm A4 Tryz.func319 rfl rfl ?_;have:=A00.eq_1 x;exact D1
def H1(x:Int)(y:Int):Int:=let v1:=(A00 x);let v2:=(A00 y);if v1=true then(if v2=true then(0)else((-1)))else(if v2=true then(1)else(if x<y then((-1))else(if y<x then(1)else(0))))
theorem A0x(x:Int)(y:Int):A1 Tryz.prog D2b [sI x,sI y] [] (sI (H1 x y)) []:=by
 refine en1 hm A4 Tryz.func375 rfl rfl ?_;have:=C03
 have:=H1.eq_1 x y;exact D1
def A2t(l:List Int)(i1:Nat)(s1:Unit):(Unit) ⊕ (Int):=if((l.getD i1 0) != 0)=true then(.inr (l.getD i1 0))else(.inl ())
def X6(l:List Int):Int:=(match D4 (A2t l) l.length ()with | .inr r=>r | .inl s1=>0)
theorem B9n(l:List Int)(hl:l.length<=1048576):A1 Tryz.prog E3f [A2 1 B9 0 l] [] (sI (X6 l)) []:=by
 refine en1 hm A4 Tryz.func374 rfl rfl ?_;have:=X6.eq_1 l
 have:=λi_ s_=>A2t.eq_1 l i_ s_
 have:=λx_ Q_ σ_=> @lp_ Tryz.prog Tryz.f374.ntmps [] x_ Q_ σ_ hm (IE (A2t l) ()) (λ_=>True) l.length (λi_=> [(3, .share,sI 0),(6, .share,A2 1 B9 0 l),(7, .share,sI (l.length:Int)),(8, .share,sI (i_:Int))]) (λi_=> []) [] rfl (λ_ _=>trivial) (by simp[go_sem]) (by simp[go_sem,A6]) (by simp[go_sem]);exact A43
def Z6(a:PairKey)(b:PairKey):Int:=let v1:=(H1 a.BodyA b.BodyA);let v2:=(H1 a.FixtureA b.FixtureA);let v3:=(H1 a.BodyB b.BodyB);let v4:=(H1 a.FixtureB b.FixtureB);let v5:=(X6 ([v1,v2,v3,v4]));v5
theorem B4b(a:PairKey)(b:PairKey):A1 Tryz.prog B3m [.agg a.enc, .agg b.enc] [] (sI (Z6 a b)) []:=by
 refine en1 hm A4 Tryz.func247 rfl rfl ?_;simp only[go_sem];refine A0 (A0x a.BodyA b.BodyA) rfl ?_;generalize hv1:(H1 a.BodyA b.BodyA)=v1;simp only[go_sem];refine A0 (A0x a.FixtureA b.FixtureA) rfl ?_;generalize hv2:(H1 a.FixtureA b.FixtureA)=v2;simp only[go_sem];refine A0 (A0x a.BodyB b.BodyB) rfl ?_;generalize hv3:(H1 a.BodyB b.BodyB)=v3;simp only[go_sem];refine A0 (A0x a.FixtureB b.FixtureB) rfl ?_;generalize hv4:(H1 a.FixtureB b.FixtureB)=v4;simp only[go_sem];refine A5i (B9n ([v1,v2,v3,v4]) (by((simp_all;done)))) rfl ?_ ?_
 ·(try simp only[A07,go_sem]);all_goals((repeat' (with_reducible apply And.intro)) <;> exact A2e (λ_ _=>rfl) rfl rfl rfl)
 generalize hv5:(X6 ([v1,v2,v3,v4]))=v5;simp only[go_sem];have hd:Z6 a b=v5:=by(unfold Z6;exact hd_)
 try rw[hd]
def A40(a:PairKey)(b:PairKey):Bool:=let v1:=(Z6 a b);(decide (v1<0))
theorem B7o(a:PairKey)(b:PairKey):A1 Tryz.prog D19 [.agg a.enc, .agg b.enc] [] (sB (A40 a b)) []:=by
 refine en1 hm A4 Tryz.func238 rfl rfl ?_;have:=B4b
 have:=A40.eq_1 a b;exact D1
def K3(l:List PairKey)(i1:Nat)(s1:Int×Int×Int×Int):(Int×Int×Int×Int) ⊕ (Bool):=let v1:=(A4d (l.getD i1 default));let v2:=(A40 (⟨s1.1,s1.2.1,s1.2.2.1,s1.2.2.2⟩:PairKey) (l.getD i1 default));if((!v1)||((decide (0<(i1:Int)))&&((((l.getD i1 default).BodyA==s1.1)&&(((l.getD i1 default).FixtureA==s1.2.1)&&(((l.getD i1 default).BodyB==s1.2.2.1)&&((l.getD i1 default).FixtureB==s1.2.2.2))))||(!v2))))=true then(.inr false)else(.inl ((l.getD i1 default).BodyA,(l.getD i1 default).FixtureA,(l.getD i1 default).BodyB,(l.getD i1 default).FixtureB))
def N4(l:List PairKey):Bool:=(match D4 (K3 l) l.length (0,0,0,0)with | .inr r=>r | .inl s1=>true)
theorem B10(l:List PairKey)(hl:l.length<=1048576):A1 Tryz.prog C1c [A2 4 PairKey.enc default l] [] (sB (N4 l)) []:=by
 refine en1 hm A4 Tryz.func145 rfl rfl ?_;have:=λx1 x2 x3 x4 x5=>cx_ (B7o ⟨x1,x2,x3,x4⟩ x5)
 have:=C98
 have:=B7o
 have:=N4.eq_1 l
 have:=λi_ s_=>K3.eq_1 l i_ s_
 have:=λx_ Q_ σ_=> @lp_ Tryz.prog Tryz.f145.ntmps [] x_ Q_ σ_ hm (IE (K3 l) (0,0,0,0)) (λ_=>True) l.length (λi_=> [(3, .share, .ptr 64 0 0 1),(7, .share,A2 4 PairKey.enc default l),(8, .share,sI (l.length:Int)),(9, .share,sI (i_:Int))]) (λi_=> [(64, .box [sI ((stE (K3 l) i_ (0,0,0,0)).1),sI ((stE (K3 l) i_ (0,0,0,0)).2.1),sI ((stE (K3 l) i_ (0,0,0,0)).2.2.1),sI ((stE (K3 l) i_ (0,0,0,0)).2.2.2)])]) [] rfl (λ_ _=>trivial) (by simp[go_sem]) (by simp[go_sem,A6]) (by simp[go_sem]);exact A43
def A2l(l:List PairKey)(i1:Nat)(s1:Unit):(Unit) ⊕ (Bool):=let v1:=(A47 (l.getD (IntKind.i64.wrap ((i1:Int)-1)).toNat default) (l.getD i1 default));if((((((decide ((l.getD i1 default).BodyB<=(l.getD i1 default).BodyA))||(decide ((l.getD i1 default).FixtureA<0)))||(decide (3<(l.getD i1 default).FixtureA)))||(decide ((l.getD i1 default).FixtureB<0)))||(decide (3<(l.getD i1 default).FixtureB)))||((decide (0<(i1:Int)))&&(!v1)))=true then(.inr false)else(.inl ())
def T5(l:List PairKey):Bool:=(match D4 (A2l l) l.length ()with | .inr r=>r | .inl s1=>true)
theorem C07(l:List PairKey)(hl:l.length<=1048576):A1 Tryz.prog D6e [A2 4 PairKey.enc default l] [] (sB (T5 l)) []:=by
 refine en1 hm A4 Tryz.func82 rfl rfl ?_;have:=F1k
 have:=T5.eq_1 l
 have:=λi_ s_=>A2l.eq_1 l i_ s_
 have:=λx_ Q_ σ_=> @lp_ Tryz.prog Tryz.f82.ntmps [] x_ Q_ σ_ hm (IE (A2l l) ()) (λ_=>True) l.length (λi_=> [(0, .share,A2 4 PairKey.enc default l),(3, .share,sI (i_:Int))]) (λi_=> []) [] rfl (λ_ _=>trivial) (by simp[go_sem]) (by simp[go_sem,A6]) (by simp[go_sem]);exact A43
def A1y(v:Vec):Bool:=let v1:=(A4i v.X);let v2:=(A4i v.Y);(v1||v2)
theorem C7q(v:Vec):A1 Tryz.prog B4z [.agg v.enc] [] (sB (A1y v)) []:=by
 refine en1 hm A4 Tryz.func378 rfl rfl ?_;have:=D0t
 have:=A1y.eq_1 v;exact D1
def E7(s:Shape):Int:=if((decide (s.Kind<1))||(decide (3<s.Kind)))=true then(10)else(let v1:=(Z0 s);if v1=false then(11)else(if(s.Vertices.any (λx=>(A1y x)))=true then(6)else(if((s.Kind==3)&&(s.Radius != 0))=true then(if((s.Kind==3)&&(s.Radius != 0))=true then(6)else(let v2:=(M0 (s.Vertices.getD 1 default) (s.Vertices.getD 0 default));let v3:=(A4k v2);if((s.Kind==2)&&(decide (v3<4096)))=true then(12)else(let v4:=(I9 s.Vertices);let v5:=(A0h s.Vertices);let v6:=(X9 s.Vertices);if((s.Kind==3)&&(((!v4)||(decide (v5<4096)))||(decide (v6<256))))=true then(12)else(0))))else(if((s.Kind != 3)&&((decide (s.Radius<2048))||(decide (524288<s.Radius))))=true then(6)else(let v7:=(M0 (s.Vertices.getD 1 default) (s.Vertices.getD 0 default));let v8:=(A4k v7);if((s.Kind==2)&&(decide (v8<4096)))=true then(12)else(let v9:=(I9 s.Vertices);let v10:=(A0h s.Vertices);let v11:=(X9 s.Vertices);if((s.Kind==3)&&(((!v9)||(decide (v10<4096)))||(decide (v11<256))))=true then(12)else(0)))))))
theorem A1j(s:Shape)(hn:s.Vertices.length<=1048576):A1 Tryz.prog D4f [.agg s.enc] [] (sI (E7 s)) []:=by
 refine en1 hm A4 Tryz.func248 rfl rfl ?_;have:=G2u s
 have:=D0u
 have:=(B8g s.Vertices B4z [] [] [] (λx=>(A1y x)) (by(omega)) D1v (by simp[AV.ids,F4]) (λx _=>C7q x))
 have:=K6
 have:=V0
 have:=B78 s.Vertices
 have:=A6x
 have:=C2i
 have:=C3x
 have:=E7.eq_1 s;exact D1
def A7e(s:Shape)(i1:Nat)(s1:Unit):(Unit) ⊕ (Int):=if((!(inR (s.Vertices.getD i1 default).X (-1048576) 1048576))||(!(inR (s.Vertices.getD i1 default).Y (-1048576) 1048576)))=true then(.inr 6)else(.inl ())
def A7p(s:Shape):Int:=if((decide (s.Kind<1))||(decide (3<s.Kind)))=true then(10)else(let v1:=(A1b s);if v1=false then(11)else((match D4 (A7e s) s.Vertices.length ()with | .inr r=>r | .inl s1=>if(((s.Kind==3)&&(s.Radius != 0))||((s.Kind != 3)&&((decide (s.Radius<2048))||(decide (524288<s.Radius)))))=true then(6)else(let v4:=(M0 (s.Vertices.getD 1 default) (s.Vertices.getD 0 default));let v5:=(A4k v4);if((s.Kind==2)&&(decide (v5<4096)))=true then(12)else(let v6:=(N0 s.Vertices);let v7:=(A4g s.Vertices);let v8:=(A6k s.Vertices);if((s.Kind==3)&&(((!v6)||(decide (v7<4096)))||(decide (v8<256))))=true then(12)else(0))))))
theorem D96(s:Shape)(hn:s.Vertices.length<=1048576):A1 Tryz.prog D8o [.agg s.enc] [] (sI (A7p s)) []:=by
 refine en1 hm A4 Tryz.func221 rfl rfl ?_;have:=G2k s
 have:=D0p
 have:=E5q
 have:=E09
 have:=B9q
 have:=B5p
 have:=D0o
 have:=F1i
 have:=A7p.eq_1 s
 have:=λi_ s_=>A7e.eq_1 s i_ s_
 have:=λx_ Q_ σ_=> @lp_ Tryz.prog Tryz.f221.ntmps [] x_ Q_ σ_ hm (IE (A7e s) ()) (λ_=>True) s.Vertices.length (λi_=> [(1, .share, .ptr 32 0 0 1),(3, .share,sI (i_:Int))]) (λi_=> [(32, .box [sI s.Kind,sI s.Radius,A2 2 Vec.enc default s.Vertices])]) [] rfl (λ_ _=>trivial) (by simp[go_sem]) (by simp[go_sem,A6]) (by simp[go_sem]);exact A43
def A12(f:Fixture):Int:=let v1:=(E7 f.Shape);if(v1 != 0)=true then(v1)else(if((!(((inR f.Density 0 262144)&&(inR f.Friction 0 131072))&&(inR f.Restitution 0 65536)))||(!(((inR f.Category 0 65535)&&(inR f.Mask 0 65535))&&(inR f.Group (-32) 32))))=true then(6)else(0))
theorem C2c(f:Fixture)(hn:f.Shape.Vertices.length<=1048576):A1 Tryz.prog C09 [.agg f.enc] [] (sI (A12 f)) []:=by
 refine en1 hm A4 Tryz.func227 rfl rfl ?_;have:=A1j
 have:=B7e
 have:=A12.eq_1 f;exact D1
def A2m(f:Fixture):Int:=let v1:=(A7p f.Shape);if(v1 != 0)=true then(v1)else(if((((((!(inR f.Density 0 262144))||(!(inR f.Friction 0 131072)))||(!(inR f.Restitution 0 65536)))||(!(inR f.Category 0 65535)))||(!(inR f.Mask 0 65535)))||(!(inR f.Group (-32) 32)))=true then(6)else(0))
theorem C30(f:Fixture)(hn:f.Shape.Vertices.length<=1048576):A1 Tryz.prog C24 [.agg f.enc] [] (sI (A2m f)) []:=by
 refine en1 hm A4 Tryz.func133 rfl rfl ?_;have:=D96
 have:=E5r
 have:=A2m.eq_1 f;exact D1
def A2z(n:Int):Bool:=(!(inR n (-536870911) 536870911))
theorem C53(n:Int):A1 Tryz.prog B3q [sI n] [] (sB (A2z n)) []:=by
 refine en1 hm A4 Tryz.func364 rfl rfl ?_;have:=C52
 have:=A2z.eq_1 n;exact D1
def A0w(l:List Int):Bool:=(!(l.any (λx=>(A2z x))))
theorem B7t(l:List Int)(hl:l.length<=1048576):A1 Tryz.prog D2u [A2 1 B9 0 l] [] (sB (A0w l)) []:=by
 refine en1 hm A4 Tryz.func234 rfl rfl ?_;have:=(A5d l B3q [] [] [] (λx=>(A2z x)) (by(omega)) D1v (by simp[AV.ids,F4]) (λx _=>C53 x))
 have:=A0w.eq_1 l;exact D1
def K0(p:ContactPoint):Bool:=if(decide (p.NormalImpulse<0))=false then(let v1:=(A0w ([p.Point.X,p.Point.Y,p.Separation,p.ID,p.NormalImpulse,p.TangentImpulse]));((decide (p.NormalImpulse<0))||(!v1)))else(true)
theorem B9u(p:ContactPoint):A1 Tryz.prog A90 [.agg p.enc] [] (sB (K0 p)) []:=by
 refine en1 hm A4 Tryz.func236 rfl rfl ?_;simp only[go_sem];by_cases h1:(decide (p.NormalImpulse<0))=false
 ·rw[if_pos h1]
  (repeat(with_reducible refine And.intro ?_ ?_;exact aI_))
  refine A5i (B7t ([p.Point.X,p.Point.Y,p.Separation,p.ID,p.NormalImpulse,p.TangentImpulse]) (by((simp_all;done)))) rfl ?_ ?_
  ·(try simp only[A07,go_sem]);all_goals((repeat' (with_reducible apply And.intro)) <;> exact A2e (λ_ _=>rfl) rfl rfl rfl)
  generalize hv1:(A0w ([p.Point.X,p.Point.Y,p.Separation,p.ID,p.NormalImpulse,p.TangentImpulse]))=v1;simp only[go_sem,C3];have hd:K0 p=((decide (p.NormalImpulse<0))||(!v1)):=by(unfold K0;exact hd_)
  try rw[hd]
 ·rw[if_neg h1]
  (repeat(with_reducible refine And.intro ?_ ?_;exact aI_))
  have hd:K0 p=true:=by(unfold K0;exact hd_)
  try rw[hd]
def G8(m:Manifold):Bool:=if(((decide ((m.Points.length:Int)<1))||(decide (2<(m.Points.length:Int))))||(((m.Points.length:Int)==2)&&((m.Points.getD 0 default).ID==(m.Points.getD 1 default).ID)))=false then(let v1:=(A0w ([m.Normal.X,m.Normal.Y]));if((((decide ((m.Points.length:Int)<1))||(decide (2<(m.Points.length:Int))))||(((m.Points.length:Int)==2)&&((m.Points.getD 0 default).ID==(m.Points.getD 1 default).ID)))||(!v1))=true then(false)else((!(m.Points.any (λx=>(K0 x))))))else(false)
theorem C39(m:Manifold)(hl:m.Points.length<=1048576):A1 Tryz.prog C3d [.agg m.enc] [] (sB (G8 m)) []:=by
 refine en1 hm A4 Tryz.func144 rfl rfl ?_;simp only[go_sem,B4,C3,A9]
 (repeat(with_reducible refine And.intro ?_ ?_;exact aI_))
 by_cases h1:(((decide ((m.Points.length:Int)<1))||(decide (2<(m.Points.length:Int))))||(((m.Points.length:Int)==2)&&((m.Points.getD 0 default).ID==(m.Points.getD 1 default).ID)))=false
 ·rw[if_pos h1]
  (repeat(with_reducible refine And.intro ?_ ?_;exact aI_))
  refine A5i (B7t ([m.Normal.X,m.Normal.Y]) (by((simp_all;done)))) rfl ?_ ?_
  ·(try simp only[A07,go_sem]);all_goals((repeat' (with_reducible apply And.intro)) <;> exact A2e (λ_ _=>rfl) rfl rfl rfl)
  generalize hv1:(A0w ([m.Normal.X,m.Normal.Y]))=v1;simp only[go_sem,C3,A9];by_cases h2:((((decide ((m.Points.length:Int)<1))||(decide (2<(m.Points.length:Int))))||(((m.Points.length:Int)==2)&&((m.Points.getD 0 default).ID==(m.Points.getD 1 default).ID)))||(!v1))=true
  ·rw[if_pos h2];have hd:G8 m=false:=by(unfold G8;exact hd_)
   try rw[hd]
  ·rw[if_neg h2];refine A0 (B1f m.Points A90 [] [] [] (λx=>(K0 x)) (by(omega)) D1v (by simp[AV.ids,F4]) (λx _=>B9u x)) rfl ?_;simp only[go_sem];have hd:G8 m=(!(m.Points.any (λx=>(K0 x)))):=by(unfold G8;exact hd_)
   try rw[hd]
 ·rw[if_neg h1];have hd:G8 m=false:=by(unfold G8;exact hd_)
  try rw[hd]
  try simp only[go_sem]
  exact A23
def A2x(m:Manifold)(i1:Nat)(s1:Unit):(Unit) ⊕ (Bool):=let v4:=(A2w (m.Points.getD i1 default).Point);let v5:=(A2w (⟨(m.Points.getD i1 default).Separation,(m.Points.getD i1 default).ID⟩:Vec));if((((!(inR (m.Points.getD i1 default).NormalImpulse 0 536870911))||(!(inR (m.Points.getD i1 default).TangentImpulse (-536870911) 536870911)))||(!v4))||(!v5))=true then(.inr false)else(.inl ())
def A1t(m:Manifold):Bool:=let v1:=(A2w m.Normal);if((((decide ((m.Points.length:Int)<1))||(decide (2<(m.Points.length:Int))))||(((m.Points.length:Int)==2)&&((m.Points.getD 0 default).ID==(m.Points.getD 1 default).ID)))||(!v1))=true then(false)else((match D4 (A2x m) m.Points.length ()with | .inr r=>r | .inl s1=>true))
theorem D26(m:Manifold)(hl:m.Points.length<=1048576):A1 Tryz.prog D2l [.agg m.enc] [] (sB (A1t m)) []:=by
 refine en1 hm A4 Tryz.func84 rfl rfl ?_;have:=λx1 x2=>cx_ (C08 ⟨x1,x2⟩)
 have:=C08
 have:=C5w
 have:=A1t.eq_1 m
 have:=λi_ s_=>A2x.eq_1 m i_ s_
 have:=λx_ Q_ σ_=> @lp_ Tryz.prog Tryz.f84.ntmps [] x_ Q_ σ_ hm (IE (A2x m) ()) (λ_=>True) m.Points.length (λi_=> [(1, .share, .ptr 32 0 0 1),(3, .share,sI (m.Points.length:Int)),(4, .share,sI (i_:Int))]) (λi_=> [(32, .box [sI m.Normal.X,sI m.Normal.Y,A2 6 ContactPoint.enc default m.Points])]) [] rfl (λ_ _=>trivial) (by simp[go_sem]) (by simp[go_sem,A6]) (by simp[go_sem]);exact A43
def A17(l:List Contact)(i1:Nat)(s1:(List PairKey)):(List PairKey):=(s1++ [(l.getD i1 default).Key])
def A36(l:List Contact):(List PairKey):=let s1:=itr (A17 l) l.length [];s1
theorem F1l(l:List Contact)(hl:l.length<=1048576):A1 Tryz.prog E9s [A2 7 Contact.enc default l] [] (A2 4 PairKey.enc default (A36 l)) []:=by
 refine en1 hm A4 Tryz.func81 rfl rfl ?_;have:=A36.eq_1 l
 have:=λi_ s_=>A17.eq_1 l i_ s_
 have:=λx_ Q_ σ_=> @lp_ Tryz.prog Tryz.f81.ntmps [] x_ Q_ σ_ hm (λ_=>True) (λi_=>((itr (A17 l) i_ [])).length<=0+1*i_) l.length (λi_=> [(0, .share,A2 7 Contact.enc default l),(3,if i_=0 then .adopt else .share, .sl 1003 0 (itr (A17 l) i_ []).length (itr (A17 l) i_ []).length),(4, .share,sI (i_:Int))]) (λi_=> [(1003, .arr 4 (A8 PairKey.enc default (itr (A17 l) i_ [])))]) [1003] trivial (λi_ hI_=>A7w (λs:(List PairKey)=>(s).length) 1 (λi s=>by(unfold A17;(repeat' split) <;> simp <;> omega)) i_ _) (by simp[go_sem]) (by simp[go_sem,A6]) (by simp[go_sem]);exact A43
theorem F8s(l:List Contact):A36 l=l.map λc=>c.Key:=by
 unfold A36;simp only;rw[F23 (f:=A17 l) (g:=λs c=>s++ [c.Key]) (l:=l) default (λi s _=>rfl)];have: ∀(l:List Contact) (acc:List PairKey),l.foldl (λs c=>s++ [c.Key]) acc=acc++l.map λc=>c.Key:=by
  intro l;induction l with
  |nil=>simp
  |cons a l ih=>intro acc;simp[ih]
 rw[this];rfl
theorem F5q(l:List Contact):(A36 l).length=l.length:=by rw[F8s];simp
theorem B5q(w:Api.World)(id:Int)(hw:w.Bodies.length<=1048576):A1 Tryz.prog D8s [.agg w.enc,sI id] [] (sI (H7 w id)) []:=by
 refine en1 hm A4 Tryz.func80 rfl rfl ?_;simp only[go_sem];refine B0 hm (ι:= {i:Nat // i<=w.Bodies.length/\ ∀j,j<i->((w.Bodies.getD j default).ID==id)=false}) (λi=> [(1, .share,sI id),(2, .share, .ptr 48 0 0 1),(5, .share,sI i.1)])
  (λi=> [(48, .box w.enc)]) (λi=>w.Bodies.length-i.1) ⟨0,by omega,λj hj=>by omega⟩ ?_ ?_
 ·refine D7 [] [] ?_;simp only[go_sem]
 ·rintro⟨i,hi,hs⟩;simp only[go_sem];split
  ·rename_i hlt;have hlt:i<w.Bodies.length:=by omega
   refine⟨ok_,?_⟩;cases hx:((w.Bodies.getD i default).ID==id)with
   |true=>rw[if_pos rfl];exact(A86 hlt hs hx).symm
   |false=>rw[if_neg (by simp)];refine A7 ⟨i+1,by omega,λj hj=>by rcases Nat.lt_succ_iff_lt_or_eq.1 hj with h |rfl;exact hs j h;exact hx⟩ (by show w.Bodies.length-(i+1)<w.Bodies.length-i;omega) (D7 [] [] ?_);simp only[go_sem];exact(by rw[IntKind.wrap_i64];omega)
  ·rename_i hge;exact(A4j λj hj=>hs j (by omega)).symm
theorem A24(w:Api.World)(id:Int): -1<=H7 w id/\H7 w id<(w.Bodies.length:Int):=E8v
def A1z(w:Api.World)(j:Joint):Bool:=let v1:=(H7 w j.BodyB);let v2:=(H7 w j.BodyA);((decide (0<=v1))&&((j.Kind==5)||(decide (0<=v2))))
theorem C7u(w:Api.World)(j:Joint)(hl:w.Bodies.length<=1048576):A1 Tryz.prog C7f [.agg w.enc, .agg j.enc] [] (sB (A1z w j)) []:=by
 refine en1 hm A4 Tryz.func142 rfl rfl ?_;have:=A24 w j.BodyB
 have:=A2a
 have:=A24 w j.BodyA
 have:=A1z.eq_1 w j;exact D1
def A4v(w:Api.World)(k:PairKey):Bool:=let v1:=(H7 w k.BodyA);let v2:=(H7 w k.BodyB);((((decide (0<=v1))&&(decide (0<=v2)))&&(decide (k.FixtureA<((w.Bodies.getD v1.toNat default).Fixtures.length:Int))))&&(decide (k.FixtureB<((w.Bodies.getD v2.toNat default).Fixtures.length:Int))))
theorem C37(w:Api.World)(k:PairKey)(hl:w.Bodies.length<=1048576):A1 Tryz.prog C3b [.agg w.enc, .agg k.enc] [] (sB (A4v w k)) []:=by
 refine en1 hm A4 Tryz.func149 rfl rfl ?_;have:=A24 w k.BodyA
 have:=A2a
 have:=A24 w k.BodyB
 have:=A4v.eq_1 w k;exact D1
def A1c(w:Api.World)(id:Int)(n:Int):Bool:=let v1:=(H7 w id);(((decide (0<=v1))&&(decide (0<=n)))&&(decide (n<((w.Bodies.getD v1.toNat default).Fixtures.length:Int))))
theorem E5s(w:Api.World)(id:Int)(n:Int)(hl:w.Bodies.length<=1048576):A1 Tryz.prog E3k [.agg w.enc,sI id,sI n] [] (sB (A1c w id n)) []:=by
 refine en1 hm A4 Tryz.func138 rfl rfl ?_;have:=A24 w id
 have:=B5q
 have:=A1c.eq_1 w id n;exact D1
def B1a(w:Api.World)(l:List PairKey)(i1:Nat)(s1:Unit):(Unit) ⊕ (Bool):=let v1:=(A1c w (l.getD i1 default).BodyA (l.getD i1 default).FixtureA);let v2:=(A1c w (l.getD i1 default).BodyB (l.getD i1 default).FixtureB);if((!v1)||(!v2))=true then(.inr false)else(.inl ())
def A2n(w:Api.World)(l:List PairKey):Bool:=(match D4 (B1a w l) l.length ()with | .inr r=>r | .inl s1=>true)
theorem C31(w:Api.World)(l:List PairKey)(hl:w.Bodies.length<=1048576)(hk:l.length<=1048576):A1 Tryz.prog D8u [.agg w.enc,A2 4 PairKey.enc default l] [] (sB (A2n w l)) []:=by
 refine en1 hm A4 Tryz.func83 rfl rfl ?_;have:=E5s
 have:=A2n.eq_1 w l
 have:=λi_ s_=>B1a.eq_1 w l i_ s_
 have:=λx_ Q_ σ_=> @lp_ Tryz.prog Tryz.f83.ntmps [] x_ Q_ σ_ hm (IE (B1a w l) ()) (λ_=>True) l.length (λi_=> [(1, .share,A2 4 PairKey.enc default l),(2, .share, .ptr 48 0 0 1),(5, .share,sI (i_:Int))]) (λi_=> [(48, .box [sI w.Settings.TimeStep,sI w.Settings.Gravity.X,sI w.Settings.Gravity.Y,sI w.Settings.Iterations,sI w.Settings.SleepSteps,A2 20 Body.enc default w.Bodies,A2 24 Joint.enc default w.Joints,A2 7 Contact.enc default w.Contacts,A2 4 PairKey.enc default w.Overlaps,sI w.NextID,sI w.Frame])]) [] rfl (λ_ _=>trivial) (by simp[go_sem]) (by simp[go_sem,A6]) (by simp[go_sem]);exact A43
def A4s(w:Api.World)(j:Joint):Bool:=let v1:=(H7 w j.BodyA);let v2:=(H7 w j.BodyB);(((j.BodyA==0)||(decide (0<=v1)))&&((j.BodyB==0)||(decide (0<=v2))))
theorem D7y(w:Api.World)(j:Joint)(hl:w.Bodies.length<=1048576):A1 Tryz.prog D6f [.agg w.enc, .agg j.enc] [] (sB (A4s w j)) []:=by
 refine en1 hm A4 Tryz.func79 rfl rfl ?_;have:=A24 w j.BodyA
 have:=B5q
 have:=A24 w j.BodyB
 have:=A4s.eq_1 w j;exact D1
def A4c(b:Body)(i1:Nat)(s1:Unit):(Unit) ⊕ (Int):=let v2:=(A12 (b.Fixtures.getD i1 default));if(v2 != 0)=true then(.inr 13)else(.inl ())
def A4o(b:Body):Int:=if(((b.Kind != 1)&&(b.Kind != 2))&&(b.Kind != 3))=true then(10)else(let v1:=(A7n b);if v1=false then(6)else(if 4<(b.Fixtures.length:Int)then(11)else((match D4 (A4c b) b.Fixtures.length ()with | .inr r=>r | .inl s1=>let v3:=(A7d b);if v3=false then(14)else(0)))))
theorem D7t(b:Body)(hb:Body.sm b):A1 Tryz.prog D54 [.agg b.enc] [] (sI (A4o b)) []:=by
 refine en1 hm A4 Tryz.func140 rfl rfl ?_;have:=hb.1
 have:=λi (h:i<b.Fixtures.length)=>hb.2 _ (B7 default h)
 have:=D92
 have:=C2c
 have:=D2v
 have:=A4o.eq_1 b
 have:=λi_ s_=>A4c.eq_1 b i_ s_
 have:=λx_ Q_ σ_=> @lp_ Tryz.prog Tryz.f140.ntmps [] x_ Q_ σ_ hm (IE (A4c b) ()) (λ_=>True) b.Fixtures.length (λi_=> [(1, .share, .ptr 32 0 0 1),(26, .share,A2 10 Fixture.enc default b.Fixtures),(27, .share,sI (b.Fixtures.length:Int)),(28, .share,sI (i_:Int))]) (λi_=> [(32, .box [sI b.ID,sI b.Kind,sI b.Transform.Position.X,sI b.Transform.Position.Y,sI b.Transform.Angle,sI b.Velocity.X,sI b.Velocity.Y,sI b.AngularVelocity,sI b.Force.X,sI b.Force.Y,sI b.Torque,sI b.LinearDamping,sI b.AngularDamping,sI b.GravityScale,sB b.Bullet,sB b.FixedRotation,sB b.NoSleep,sB b.Asleep,sI b.IdleSteps,A2 10 Fixture.enc default b.Fixtures])]) [] rfl (λ_ _=>trivial) (by simp[go_sem]) (by simp[go_sem,A6]) (by simp[go_sem]);exact A43
def A3d(b:Body)(i1:Nat)(s1:Unit):(Unit) ⊕ (Int):=let v2:=(A2m (b.Fixtures.getD i1 default));if(v2 != 0)=true then(.inr 13)else(.inl ())
def A0i(b:Body):Int:=if(((b.Kind != 1)&&(b.Kind != 2))&&(b.Kind != 3))=true then(10)else(let v1:=(A52 b);if v1=false then(6)else(if 4<(b.Fixtures.length:Int)then(11)else((match D4 (A3d b) b.Fixtures.length ()with | .inr r=>r | .inl s1=>if((((b.Kind==1)&&(((!((b.Velocity.X==0)&&(b.Velocity.Y==0)))||(b.AngularVelocity != 0))||((!((b.Force.X==0)&&(b.Force.Y==0)))||(b.Torque != 0))))||((b.Kind != 3)&&(b.Asleep||b.Bullet)))||(b.Asleep&&((!((b.Velocity.X==0)&&(b.Velocity.Y==0)))||(b.AngularVelocity != 0))))=true then(14)else(0)))))
theorem D97(b:Body)(hb:Body.sm b):A1 Tryz.prog D8p [.agg b.enc] [] (sI (A0i b)) []:=by
 refine en1 hm A4 Tryz.func77 rfl rfl ?_;have:=hb.1
 have:=λi (h:i<b.Fixtures.length)=>hb.2 _ (B7 default h)
 have:=E2o
 have:=C30
 have:=A0i.eq_1 b
 have:=λi_ s_=>A3d.eq_1 b i_ s_
 have:=λx_ Q_ σ_=> @lp_ Tryz.prog Tryz.f77.ntmps [] x_ Q_ σ_ hm (IE (A3d b) ()) (λ_=>True) b.Fixtures.length (λi_=> [(1, .share, .ptr 32 0 0 1),(3, .share,sI (i_:Int))]) (λi_=> [(32, .box [sI b.ID,sI b.Kind,sI b.Transform.Position.X,sI b.Transform.Position.Y,sI b.Transform.Angle,sI b.Velocity.X,sI b.Velocity.Y,sI b.AngularVelocity,sI b.Force.X,sI b.Force.Y,sI b.Torque,sI b.LinearDamping,sI b.AngularDamping,sI b.GravityScale,sB b.Bullet,sB b.FixedRotation,sB b.NoSleep,sB b.Asleep,sI b.IdleSteps,A2 10 Fixture.enc default b.Fixtures])]) [] rfl (λ_ _=>trivial) (by simp[go_sem]) (by simp[go_sem,A6]) (by simp[go_sem]);exact A43
def P3(j:Joint)(i1:Nat)(s1:Unit):(Unit) ⊕ (Bool):=if(inR ([j.Impulses.I0,j.Impulses.I1,j.Impulses.I2,j.Impulses.I3].getD i1 0) (-536870911) 536870911)=false then(.inr false)else(.inl ())
def P4(j:Joint)(i2:Nat)(s2:Unit):(Unit) ⊕ (Bool):=if(inR ([j.Impulses.I0,j.Impulses.I1,j.Impulses.I2,j.Impulses.I3].getD i2 0) (-536870911) 536870911)=false then(.inr false)else(.inl ())
def L0(j:Joint):Bool:=if(j.Kind==5)=true then(let v1:=(O4 j.Kind);(match D4 (P3 j) 4 ()with | .inr r=>r | .inl s1=>let v4:=(N7 j.AnchorA 268435456);let v5:=(N7 j.AnchorB 1048576);(((((((((((inR j.ID 1 1099511627776)&&v4)&&v5)&&(inR j.ReferenceAngle (-205888) 205887))&&(inR j.Lower v1.1 v1.2))&&(inR j.Upper v1.1 v1.2))&&(decide (j.Lower<=j.Upper)))&&(inR j.MotorSpeed (-16777216) 16777216))&&(inR j.MaxForce 0 536870911))&&(inR j.Softness 0 536870911))&&(inR j.BreakForce 0 536870911))))else(let v13:=(O4 j.Kind);(match D4 (P4 j) 4 ()with | .inr r=>r | .inl s2=>let v16:=(N7 j.AnchorA 1048576);let v17:=(N7 j.AnchorB 1048576);(((((((((((inR j.ID 1 1099511627776)&&v16)&&v17)&&(inR j.ReferenceAngle (-205888) 205887))&&(inR j.Lower v13.1 v13.2))&&(inR j.Upper v13.1 v13.2))&&(decide (j.Lower<=j.Upper)))&&(inR j.MotorSpeed (-16777216) 16777216))&&(inR j.MaxForce 0 536870911))&&(inR j.Softness 0 536870911))&&(inR j.BreakForce 0 536870911))))
theorem C2h(j:Joint):A1 Tryz.prog C1j [.agg j.enc] [] (sB (L0 j)) []:=by
 refine en1 hm A4 Tryz.func229 rfl rfl ?_;simp only[go_sem];by_cases h1:(j.Kind==5)=true
 ·rw[if_pos h1];refine A0 (B6n j.Kind) rfl ?_;generalize hv1:(O4 j.Kind)=v1;simp only[go_sem];refine B0 hm (ι:= {p:Nat×Unit // p.1<=4/\D4 (P3 j) p.1 ()= .inl p.2}) (λi=> [(1, .share, .ptr 32 0 0 1),(3, .share,sI 268435456),(4, .share,sI v1.1),(5, .share,sI v1.2),(18, .share, .agg [sI j.Impulses.I0,sI j.Impulses.I1,sI j.Impulses.I2,sI j.Impulses.I3]),(19, .share,sI (i.1.1:Int))]) (λi=> [(32, .box [sI j.ID,sI j.Kind,sI j.BodyA,sI j.BodyB,sI j.AnchorA.X,sI j.AnchorA.Y,sI j.AnchorB.X,sI j.AnchorB.Y,sI j.Axis.X,sI j.Axis.Y,sI j.ReferenceAngle,sB j.EnableLimit,sI j.Lower,sI j.Upper,sB j.EnableMotor,sI j.MotorSpeed,sI j.MaxForce,sI j.Softness,sI j.BreakForce,sB j.CollideConnected,sI j.Impulses.I0,sI j.Impulses.I1,sI j.Impulses.I2,sI j.Impulses.I3])]) (λi=>4-i.1.1) ⟨(0,()),by omega,rfl⟩ ?_ ?_
  ·refine D7 [] [] ?_;simp only[go_sem]
  ·rintro⟨⟨i1,s1⟩,hi1,hs1⟩;replace hi1:i1<=4:=hi1;replace hs1:D4 (P3 j) i1 ()= .inl s1:=hs1;simp only[go_sem];by_cases h2:(i1:Int)<4
   ·rw[if_pos h2];have hlt1:i1<4:=by omega
    (repeat(with_reducible refine And.intro ?_ ?_;exact aI_))
    rw[F7g (show i1<4 by omega)];refine A0 (I8 ([j.Impulses.I0,j.Impulses.I1,j.Impulses.I2,j.Impulses.I3].getD i1 0) (-536870911) 536870911) rfl ?_;simp only[go_sem];by_cases h3:(inR ([j.Impulses.I0,j.Impulses.I1,j.Impulses.I2,j.Impulses.I3].getD i1 0) (-536870911) 536870911)=false
    ·rw[if_pos h3];have e1:D4 (P3 j) (i1+1) ()= .inr false:=N2 hs1 (by(unfold P3;exact hd_));replace e1:=Z2 e1 (show i1+1<=4 by omega);have hd:L0 j=false:=by(unfold L0;exact hd_)
     try rw[hd]
    ·rw[if_neg h3];have hn:D4 (P3 j) (i1+1) ()= .inl ():=N2 hs1 (by(unfold P3;exact hd_));refine A7 ⟨(i1+1,()),by omega,hn⟩ (by show 4-(i1+1)<4-i1;omega) (D7 [] [] ?_);simp only[go_sem];exact A23
   ·rw[if_neg h2];have hge:i1=4:=by omega
    subst hge;refine A0 (I8 j.ID 1 1099511627776) rfl ?_;simp only[go_sem];refine A0 (A5c j.AnchorA 268435456) rfl ?_;generalize hv4:(N7 j.AnchorA 268435456)=v4;simp only[go_sem,B4,A9];refine A0 (A5c j.AnchorB 1048576) rfl ?_;generalize hv5:(N7 j.AnchorB 1048576)=v5;simp only[go_sem,B4,A9];refine A0 (I8 j.ReferenceAngle (-205888) 205887) rfl ?_;simp only[go_sem,B4,A9];refine A0 (I8 j.Lower v1.1 v1.2) rfl ?_;simp only[go_sem,B4,A9];refine A0 (I8 j.Upper v1.1 v1.2) rfl ?_;simp only[go_sem,B4,A9];refine A0 (I8 j.MotorSpeed (-16777216) 16777216) rfl ?_;simp only[go_sem,B4,A9];refine A0 (I8 j.MaxForce 0 536870911) rfl ?_;simp only[go_sem,B4,A9];refine A0 (I8 j.Softness 0 536870911) rfl ?_;simp only[go_sem,B4,A9];refine A0 (I8 j.BreakForce 0 536870911) rfl ?_;simp only[go_sem,B4,A9];have hd:L0 j=(((((((((((inR j.ID 1 1099511627776)&&v4)&&v5)&&(inR j.ReferenceAngle (-205888) 205887))&&(inR j.Lower v1.1 v1.2))&&(inR j.Upper v1.1 v1.2))&&(decide (j.Lower<=j.Upper)))&&(inR j.MotorSpeed (-16777216) 16777216))&&(inR j.MaxForce 0 536870911))&&(inR j.Softness 0 536870911))&&(inR j.BreakForce 0 536870911)):=by(unfold L0;exact hd_)
    try rw[hd]
 ·rw[if_neg h1];refine A0 (B6n j.Kind) rfl ?_;generalize hv13:(O4 j.Kind)=v13;simp only[go_sem];refine B0 hm (ι:= {p:Nat×Unit // p.1<=4/\D4 (P4 j) p.1 ()= .inl p.2}) (λi=> [(1, .share, .ptr 32 0 0 1),(3, .share,sI 1048576),(4, .share,sI v13.1),(5, .share,sI v13.2),(18, .share, .agg [sI j.Impulses.I0,sI j.Impulses.I1,sI j.Impulses.I2,sI j.Impulses.I3]),(19, .share,sI (i.1.1:Int))]) (λi=> [(32, .box [sI j.ID,sI j.Kind,sI j.BodyA,sI j.BodyB,sI j.AnchorA.X,sI j.AnchorA.Y,sI j.AnchorB.X,sI j.AnchorB.Y,sI j.Axis.X,sI j.Axis.Y,sI j.ReferenceAngle,sB j.EnableLimit,sI j.Lower,sI j.Upper,sB j.EnableMotor,sI j.MotorSpeed,sI j.MaxForce,sI j.Softness,sI j.BreakForce,sB j.CollideConnected,sI j.Impulses.I0,sI j.Impulses.I1,sI j.Impulses.I2,sI j.Impulses.I3])]) (λi=>4-i.1.1) ⟨(0,()),by omega,rfl⟩ ?_ ?_
  ·refine D7 [] [] ?_;simp only[go_sem]
  ·rintro⟨⟨i2,s2⟩,hi2,hs2⟩;replace hi2:i2<=4:=hi2;replace hs2:D4 (P4 j) i2 ()= .inl s2:=hs2;simp only[go_sem];by_cases h4:(i2:Int)<4
   ·rw[if_pos h4];have hlt2:i2<4:=by omega
    (repeat(with_reducible refine And.intro ?_ ?_;exact aI_))
    rw[F7g (show i2<4 by omega)];refine A0 (I8 ([j.Impulses.I0,j.Impulses.I1,j.Impulses.I2,j.Impulses.I3].getD i2 0) (-536870911) 536870911) rfl ?_;simp only[go_sem];by_cases h5:(inR ([j.Impulses.I0,j.Impulses.I1,j.Impulses.I2,j.Impulses.I3].getD i2 0) (-536870911) 536870911)=false
    ·rw[if_pos h5];have e2:D4 (P4 j) (i2+1) ()= .inr false:=N2 hs2 (by(unfold P4;exact hd_));replace e2:=Z2 e2 (show i2+1<=4 by omega);have hd:L0 j=false:=by(unfold L0;exact hd_)
     try rw[hd]
    ·rw[if_neg h5];have hn:D4 (P4 j) (i2+1) ()= .inl ():=N2 hs2 (by(unfold P4;exact hd_));refine A7 ⟨(i2+1,()),by omega,hn⟩ (by show 4-(i2+1)<4-i2;omega) (D7 [] [] ?_);simp only[go_sem];exact A23
   ·rw[if_neg h4];have hge:i2=4:=by omega
    subst hge;refine A0 (I8 j.ID 1 1099511627776) rfl ?_;simp only[go_sem];refine A0 (A5c j.AnchorA 1048576) rfl ?_;generalize hv16:(N7 j.AnchorA 1048576)=v16;simp only[go_sem,B4,A9];refine A0 (A5c j.AnchorB 1048576) rfl ?_;generalize hv17:(N7 j.AnchorB 1048576)=v17;simp only[go_sem,B4,A9];refine A0 (I8 j.ReferenceAngle (-205888) 205887) rfl ?_;simp only[go_sem,B4,A9];refine A0 (I8 j.Lower v13.1 v13.2) rfl ?_;simp only[go_sem,B4,A9];refine A0 (I8 j.Upper v13.1 v13.2) rfl ?_;simp only[go_sem,B4,A9];refine A0 (I8 j.MotorSpeed (-16777216) 16777216) rfl ?_;simp only[go_sem,B4,A9];refine A0 (I8 j.MaxForce 0 536870911) rfl ?_;simp only[go_sem,B4,A9];refine A0 (I8 j.Softness 0 536870911) rfl ?_;simp only[go_sem,B4,A9];refine A0 (I8 j.BreakForce 0 536870911) rfl ?_;simp only[go_sem,B4,A9];have hd:L0 j=(((((((((((inR j.ID 1 1099511627776)&&v16)&&v17)&&(inR j.ReferenceAngle (-205888) 205887))&&(inR j.Lower v13.1 v13.2))&&(inR j.Upper v13.1 v13.2))&&(decide (j.Lower<=j.Upper)))&&(inR j.MotorSpeed (-16777216) 16777216))&&(inR j.MaxForce 0 536870911))&&(inR j.Softness 0 536870911))&&(inR j.BreakForce 0 536870911)):=by(unfold L0;exact hd_)
    try rw[hd]
def N8(j:Joint)(i1:Nat)(s1:Unit):(Unit) ⊕ (Bool):=if(inR ([j.Impulses.I0,j.Impulses.I1,j.Impulses.I2,j.Impulses.I3].getD i1 0) (-536870911) 536870911)=false then(.inr false)else(.inl ())
def Q1(j:Joint)(i2:Nat)(s2:Unit):(Unit) ⊕ (Bool):=if(inR ([j.Impulses.I0,j.Impulses.I1,j.Impulses.I2,j.Impulses.I3].getD i2 0) (-536870911) 536870911)=false then(.inr false)else(.inl ())
def K2(j:Joint):Bool:=if(j.Kind==5)=true then((match D4 (N8 j) 4 ()with | .inr r=>r | .inl s1=>let v3:=(Y2 j.AnchorA 268435456);let v4:=(Y2 j.AnchorB 1048576);let v6:=(A0r j);if(((((!(inR j.ID 1 1099511627776))||(!v3))||(!v4))||(!(inR j.ReferenceAngle (-205888) 205887)))||(!v6))=true then(false)else(((((inR j.MotorSpeed (-16777216) 16777216)&&(inR j.MaxForce 0 536870911))&&(inR j.Softness 0 536870911))&&(inR j.BreakForce 0 536870911)))))else((match D4 (Q1 j) 4 ()with | .inr r=>r | .inl s2=>let v13:=(Y2 j.AnchorA 1048576);let v14:=(Y2 j.AnchorB 1048576);let v16:=(A0r j);if(((((!(inR j.ID 1 1099511627776))||(!v13))||(!v14))||(!(inR j.ReferenceAngle (-205888) 205887)))||(!v16))=true then(false)else(((((inR j.MotorSpeed (-16777216) 16777216)&&(inR j.MaxForce 0 536870911))&&(inR j.Softness 0 536870911))&&(inR j.BreakForce 0 536870911)))))
theorem D23(j:Joint):A1 Tryz.prog D2i [.agg j.enc] [] (sB (K2 j)) []:=by
 refine en1 hm A4 Tryz.func134 rfl rfl ?_;simp only[go_sem];by_cases h1:(j.Kind==5)=true
 ·rw[if_pos h1];refine B0 hm (ι:= {p:Nat×Unit // p.1<=4/\D4 (N8 j) p.1 ()= .inl p.2}) (λi=> [(1, .share, .ptr 32 0 0 1),(3, .share,sI 268435456),(4, .share,sI (i.1.1:Int))]) (λi=> [(32, .box [sI j.ID,sI j.Kind,sI j.BodyA,sI j.BodyB,sI j.AnchorA.X,sI j.AnchorA.Y,sI j.AnchorB.X,sI j.AnchorB.Y,sI j.Axis.X,sI j.Axis.Y,sI j.ReferenceAngle,sB j.EnableLimit,sI j.Lower,sI j.Upper,sB j.EnableMotor,sI j.MotorSpeed,sI j.MaxForce,sI j.Softness,sI j.BreakForce,sB j.CollideConnected,sI j.Impulses.I0,sI j.Impulses.I1,sI j.Impulses.I2,sI j.Impulses.I3])]) (λi=>4-i.1.1) ⟨(0,()),by omega,rfl⟩ ?_ ?_
  ·refine D7 [] [] ?_;simp only[go_sem]
  ·rintro⟨⟨i1,s1⟩,hi1,hs1⟩;replace hi1:i1<=4:=hi1;replace hs1:D4 (N8 j) i1 ()= .inl s1:=hs1;simp only[go_sem];by_cases h2:(i1:Int)<4
   ·rw[if_pos h2];have hlt1:i1<4:=by omega
    (repeat(with_reducible refine And.intro ?_ ?_;exact aI_))
    simp only[F7d (show i1<4 by omega),go_sem];refine A0 (O6 ([j.Impulses.I0,j.Impulses.I1,j.Impulses.I2,j.Impulses.I3].getD i1 0) (-536870911) 536870911) rfl ?_;simp only[go_sem];by_cases h3:(inR ([j.Impulses.I0,j.Impulses.I1,j.Impulses.I2,j.Impulses.I3].getD i1 0) (-536870911) 536870911)=false
    ·rw[if_pos h3];have e1:D4 (N8 j) (i1+1) ()= .inr false:=N2 hs1 (by(unfold N8;exact hd_));replace e1:=Z2 e1 (show i1+1<=4 by omega);have hd:K2 j=false:=by(unfold K2;exact hd_)
     try rw[hd]
    ·rw[if_neg h3];have hn:D4 (N8 j) (i1+1) ()= .inl ():=N2 hs1 (by(unfold N8;exact hd_));refine A7 ⟨(i1+1,()),by omega,hn⟩ (by show 4-(i1+1)<4-i1;omega) (D7 [] [] ?_);simp only[go_sem];exact A23
   ·rw[if_neg h2];have hge:i1=4:=by omega
    subst hge;refine A0 (O6 j.ID 1 1099511627776) rfl ?_;simp only[go_sem];refine A0 (B0z j.AnchorA 268435456) rfl ?_;generalize hv3:(Y2 j.AnchorA 268435456)=v3;simp only[go_sem,C3,C5];refine A0 (B0z j.AnchorB 1048576) rfl ?_;generalize hv4:(Y2 j.AnchorB 1048576)=v4;simp only[go_sem,C3,A9];refine A0 (O6 j.ReferenceAngle (-205888) 205887) rfl ?_;simp only[go_sem,C3,A9];refine A0 (B7p j) rfl ?_;generalize hv6:(A0r j)=v6;simp only[go_sem,C3,A9];by_cases h4:(((((!(inR j.ID 1 1099511627776))||(!v3))||(!v4))||(!(inR j.ReferenceAngle (-205888) 205887)))||(!v6))=true
    ·rw[if_pos h4];have hd:K2 j=false:=by(unfold K2;exact hd_)
     try rw[hd]
    ·rw[if_neg h4];refine A0 (O6 j.MotorSpeed (-16777216) 16777216) rfl ?_;simp only[go_sem];refine A0 (O6 j.MaxForce 0 536870911) rfl ?_;simp only[go_sem,B4,A9];refine A0 (O6 j.Softness 0 536870911) rfl ?_;simp only[go_sem,B4,A9];refine A0 (O6 j.BreakForce 0 536870911) rfl ?_;simp only[go_sem,B4,A9];have hd:K2 j=((((inR j.MotorSpeed (-16777216) 16777216)&&(inR j.MaxForce 0 536870911))&&(inR j.Softness 0 536870911))&&(inR j.BreakForce 0 536870911)):=by(unfold K2;exact hd_)
     try rw[hd]
 ·rw[if_neg h1];refine B0 hm (ι:= {p:Nat×Unit // p.1<=4/\D4 (Q1 j) p.1 ()= .inl p.2}) (λi=> [(1, .share, .ptr 32 0 0 1),(3, .share,sI 1048576),(4, .share,sI (i.1.1:Int))]) (λi=> [(32, .box [sI j.ID,sI j.Kind,sI j.BodyA,sI j.BodyB,sI j.AnchorA.X,sI j.AnchorA.Y,sI j.AnchorB.X,sI j.AnchorB.Y,sI j.Axis.X,sI j.Axis.Y,sI j.ReferenceAngle,sB j.EnableLimit,sI j.Lower,sI j.Upper,sB j.EnableMotor,sI j.MotorSpeed,sI j.MaxForce,sI j.Softness,sI j.BreakForce,sB j.CollideConnected,sI j.Impulses.I0,sI j.Impulses.I1,sI j.Impulses.I2,sI j.Impulses.I3])]) (λi=>4-i.1.1) ⟨(0,()),by omega,rfl⟩ ?_ ?_
  ·refine D7 [] [] ?_;simp only[go_sem]
  ·rintro⟨⟨i2,s2⟩,hi2,hs2⟩;replace hi2:i2<=4:=hi2;replace hs2:D4 (Q1 j) i2 ()= .inl s2:=hs2;simp only[go_sem];by_cases h5:(i2:Int)<4
   ·rw[if_pos h5];have hlt2:i2<4:=by omega
    (repeat(with_reducible refine And.intro ?_ ?_;exact aI_))
    simp only[F7d (show i2<4 by omega),go_sem];refine A0 (O6 ([j.Impulses.I0,j.Impulses.I1,j.Impulses.I2,j.Impulses.I3].getD i2 0) (-536870911) 536870911) rfl ?_;simp only[go_sem];by_cases h6:(inR ([j.Impulses.I0,j.Impulses.I1,j.Impulses.I2,j.Impulses.I3].getD i2 0) (-536870911) 536870911)=false
    ·rw[if_pos h6];have e2:D4 (Q1 j) (i2+1) ()= .inr false:=N2 hs2 (by(unfold Q1;exact hd_));replace e2:=Z2 e2 (show i2+1<=4 by omega);have hd:K2 j=false:=by(unfold K2;exact hd_)
     try rw[hd]
    ·rw[if_neg h6];have hn:D4 (Q1 j) (i2+1) ()= .inl ():=N2 hs2 (by(unfold Q1;exact hd_));refine A7 ⟨(i2+1,()),by omega,hn⟩ (by show 4-(i2+1)<4-i2;omega) (D7 [] [] ?_);simp only[go_sem];exact A23
   ·rw[if_neg h5];have hge:i2=4:=by omega
    subst hge;refine A0 (O6 j.ID 1 1099511627776) rfl ?_;simp only[go_sem];refine A0 (B0z j.AnchorA 1048576) rfl ?_;generalize hv13:(Y2 j.AnchorA 1048576)=v13;simp only[go_sem,C3,C5];refine A0 (B0z j.AnchorB 1048576) rfl ?_;generalize hv14:(Y2 j.AnchorB 1048576)=v14;simp only[go_sem,C3,A9];refine A0 (O6 j.ReferenceAngle (-205888) 205887) rfl ?_;simp only[go_sem,C3,A9];refine A0 (B7p j) rfl ?_;generalize hv16:(A0r j)=v16;simp only[go_sem,C3,A9];by_cases h7:(((((!(inR j.ID 1 1099511627776))||(!v13))||(!v14))||(!(inR j.ReferenceAngle (-205888) 205887)))||(!v16))=true
    ·rw[if_pos h7];have hd:K2 j=false:=by(unfold K2;exact hd_)
     try rw[hd]
    ·rw[if_neg h7];refine A0 (O6 j.MotorSpeed (-16777216) 16777216) rfl ?_;simp only[go_sem];refine A0 (O6 j.MaxForce 0 536870911) rfl ?_;simp only[go_sem,B4,A9];refine A0 (O6 j.Softness 0 536870911) rfl ?_;simp only[go_sem,B4,A9];refine A0 (O6 j.BreakForce 0 536870911) rfl ?_;simp only[go_sem,B4,A9];have hd:K2 j=((((inR j.MotorSpeed (-16777216) 16777216)&&(inR j.MaxForce 0 536870911))&&(inR j.Softness 0 536870911))&&(inR j.BreakForce 0 536870911)):=by(unfold K2;exact hd_)
     try rw[hd]
def A3s(j:Joint):Int:=if((decide (j.Kind<1))||(decide (5<j.Kind)))=true then(10)else(let v1:=(L0 j);if v1=false then(6)else(let v2:=(A5r j);if v2=false then(14)else(let v3:=(A46 j);if v3=true then(15)else(0))))
theorem D5p(j:Joint):A1 Tryz.prog D39 [.agg j.enc] [] (sI (A3s j)) []:=by
 refine en1 hm A4 Tryz.func141 rfl rfl ?_;have:=C2h
 have:=C7l
 have:=C5s
 have:=A3s.eq_1 j;exact D1
def Y1(j:Joint):Int:=if((decide (j.Kind<1))||(decide (5<j.Kind)))=true then(10)else(let v1:=(K2 j);if v1=false then(6)else(if(((!(inR j.BodyB 1 1099511627776))||((j.Kind==5)&&(j.BodyA != 0)))||((j.Kind != 5)&&((!(inR j.BodyA 1 1099511627776))||(j.BodyA==j.BodyB))))=true then(14)else(let v4:=(A4k j.Axis);if(((j.Kind==3)&&(!(inR v4 65520 65552)))||((j.Kind != 3)&&(!((j.Axis.X==0)&&(j.Axis.Y==0)))))=true then(15)else(if(((((j.Kind==1)||((j.Kind==4)||(j.Kind==5)))&&j.EnableMotor)||(((j.Kind==4)||(j.Kind==5))&&j.EnableLimit))||((j.Kind==1)&&(!j.EnableLimit)))=true then(15)else(0)))))
theorem D98(j:Joint):A1 Tryz.prog D8q [.agg j.enc] [] (sI (Y1 j)) []:=by
 refine en1 hm A4 Tryz.func78 rfl rfl ?_;have:=D23
 have:=O6
 have:=B9q
 have:=Y1.eq_1 j;exact D1
def Q5(w:Api.World)(i1:Nat)(s1:Int):(Int) ⊕ (Bool):=let v1:=(A4o (w.Bodies.getD i1 default));if(((v1 != 0)||(decide (w.NextID<=(w.Bodies.getD i1 default).ID)))||(decide ((w.Bodies.getD i1 default).ID<=s1)))=true then(.inr false)else(.inl (w.Bodies.getD i1 default).ID)
def X0(w:Api.World):Bool:=(match D4 (Q5 w) w.Bodies.length 0 with | .inr r=>r | .inl s1=>true)
theorem C7v(w:Api.World)(hw:Wsm w):A1 Tryz.prog C7g [.agg w.enc] [] (sB (X0 w)) []:=by
 have hw1:=hw.1;refine en1 hm A4 Tryz.func87 rfl rfl ?_;simp only[go_sem];refine B0 hm (ι:= {p:Nat×Int // p.1<=w.Bodies.length/\D4 (Q5 w) p.1 0= .inl p.2}) (λi=> [(1, .share, .ptr 32 0 0 1),(3, .share,sI i.1.2),(7, .share,A2 20 Body.enc default w.Bodies),(8, .share,sI (w.Bodies.length:Int)),(9, .share,sI (i.1.1:Int))]) (λi=> [(32, .box [sI w.Settings.TimeStep,sI w.Settings.Gravity.X,sI w.Settings.Gravity.Y,sI w.Settings.Iterations,sI w.Settings.SleepSteps,A2 20 Body.enc default w.Bodies,A2 24 Joint.enc default w.Joints,A2 7 Contact.enc default w.Contacts,A2 4 PairKey.enc default w.Overlaps,sI w.NextID,sI w.Frame])]) (λi=>w.Bodies.length-i.1.1) ⟨(0,0),by omega,rfl⟩ ?_ ?_
 ·refine D7 [] [] ?_;simp only[go_sem]
 ·rintro⟨⟨i1,s1⟩,hi1,hs1⟩;replace hi1:i1<=w.Bodies.length:=hi1;replace hs1:D4 (Q5 w) i1 0= .inl s1:=hs1;simp only[go_sem];by_cases h1:(i1:Int)<(w.Bodies.length:Int)
  ·rw[if_pos h1];have hlt1:i1<w.Bodies.length:=by omega
   (repeat(with_reducible refine And.intro ?_ ?_;exact aI_))
   refine A0 (D7t (w.Bodies.getD i1 default) (by(exact hw.2.2.2.2.1 _ (B7 _ (by omega))))) rfl ?_;generalize hv1:(A4o (w.Bodies.getD i1 default))=v1;simp only[go_sem,C3,A9];by_cases h2:(((v1 != 0)||(decide (w.NextID<=(w.Bodies.getD i1 default).ID)))||(decide ((w.Bodies.getD i1 default).ID<=s1)))=true
   ·rw[if_pos h2];have e1:D4 (Q5 w) (i1+1) 0= .inr false:=N2 hs1 (by(unfold Q5;exact hd_));replace e1:=Z2 e1 (show i1+1<=w.Bodies.length by omega);have hd:X0 w=false:=by(unfold X0;exact hd_)
    try rw[hd]
   ·rw[if_neg h2];have hn:D4 (Q5 w) (i1+1) 0= .inl (w.Bodies.getD i1 default).ID:=N2 hs1 (by(unfold Q5;exact hd_));refine A7 ⟨(i1+1,(w.Bodies.getD i1 default).ID),by omega,hn⟩ (by show w.Bodies.length-(i1+1)<w.Bodies.length-i1;omega) (D7 [] [] ?_);simp only[go_sem];exact A23
  ·rw[if_neg h1];have hge:i1=w.Bodies.length:=by omega
   subst hge;have hd:X0 w=true:=by(unfold X0;exact hd_)
   try rw[hd]
def S9(w:Api.World)(i1:Nat)(s1:Int):(Int) ⊕ (Bool):=let v1:=(A0i (w.Bodies.getD i1 default));if(((v1 != 0)||(decide (w.NextID<=(w.Bodies.getD i1 default).ID)))||((decide (0<(i1:Int)))&&(decide ((w.Bodies.getD i1 default).ID<=s1))))=true then(.inr false)else(.inl (w.Bodies.getD i1 default).ID)
def A0s(w:Api.World):Bool:=(match D4 (S9 w) w.Bodies.length 0 with | .inr r=>r | .inl s1=>true)
theorem D24(w:Api.World)(hw:Wsm w):A1 Tryz.prog D2j [.agg w.enc] [] (sB (A0s w)) []:=by
 have hw1:=hw.1;refine en1 hm A4 Tryz.func42 rfl rfl ?_;simp only[go_sem];refine B0 hm (ι:= {p:Nat×Int // p.1<=w.Bodies.length/\D4 (S9 w) p.1 0= .inl p.2}) (λi=> [(1, .share, .ptr 32 0 0 1),(3, .share,sI i.1.2),(4, .share,sI (i.1.1:Int))]) (λi=> [(32, .box [sI w.Settings.TimeStep,sI w.Settings.Gravity.X,sI w.Settings.Gravity.Y,sI w.Settings.Iterations,sI w.Settings.SleepSteps,A2 20 Body.enc default w.Bodies,A2 24 Joint.enc default w.Joints,A2 7 Contact.enc default w.Contacts,A2 4 PairKey.enc default w.Overlaps,sI w.NextID,sI w.Frame])]) (λi=>w.Bodies.length-i.1.1) ⟨(0,0),by omega,rfl⟩ ?_ ?_
 ·refine D7 [] [] ?_;simp only[go_sem]
 ·rintro⟨⟨i1,s1⟩,hi1,hs1⟩;replace hi1:i1<=w.Bodies.length:=hi1;replace hs1:D4 (S9 w) i1 0= .inl s1:=hs1;simp only[go_sem];by_cases h1:(i1:Int)<(w.Bodies.length:Int)
  ·rw[if_pos h1];have hlt1:i1<w.Bodies.length:=by omega
   (repeat(with_reducible refine And.intro ?_ ?_;exact aI_))
   refine A0 (D97 (w.Bodies.getD i1 default) (by(exact hw.2.2.2.2.1 _ (B7 _ (by omega))))) rfl ?_;generalize hv1:(A0i (w.Bodies.getD i1 default))=v1;simp only[go_sem,B4,C3,A9]
   (repeat(with_reducible refine And.intro ?_ ?_;exact aI_))
   by_cases h2:(((v1 != 0)||(decide (w.NextID<=(w.Bodies.getD i1 default).ID)))||((decide (0<(i1:Int)))&&(decide ((w.Bodies.getD i1 default).ID<=s1))))=true
   ·rw[if_pos h2];have e1:D4 (S9 w) (i1+1) 0= .inr false:=N2 hs1 (by(unfold S9;exact hd_));replace e1:=Z2 e1 (show i1+1<=w.Bodies.length by omega);have hd:A0s w=false:=by(unfold A0s;exact hd_)
    try rw[hd]
   ·rw[if_neg h2];have hn:D4 (S9 w) (i1+1) 0= .inl (w.Bodies.getD i1 default).ID:=N2 hs1 (by(unfold S9;exact hd_));refine A7 ⟨(i1+1,(w.Bodies.getD i1 default).ID),by omega,hn⟩ (by show w.Bodies.length-(i1+1)<w.Bodies.length-i1;omega) (D7 [] [] ?_);simp only[go_sem];exact A23
  ·rw[if_neg h1];have hge:i1=w.Bodies.length:=by omega
   subst hge;have hd:A0s w=true:=by(unfold A0s;exact hd_)
   try rw[hd]
def Q6(w:Api.World)(i1:Nat)(s1:Int):(Int) ⊕ (Bool):=let v1:=(A3s (w.Joints.getD i1 default));let v2:=(A1z w (w.Joints.getD i1 default));let v3:=(H7 w (w.Joints.getD i1 default).ID);if(((((v1 != 0)||(decide (w.NextID<=(w.Joints.getD i1 default).ID)))||(decide ((w.Joints.getD i1 default).ID<=s1)))||(!v2))||(decide (0<=v3)))=true then(.inr false)else(.inl (w.Joints.getD i1 default).ID)
def X1(w:Api.World):Bool:=(match D4 (Q6 w) w.Joints.length 0 with | .inr r=>r | .inl s1=>true)
theorem C7w(w:Api.World)(hw:Wsm w):A1 Tryz.prog C7h [.agg w.enc] [] (sB (X1 w)) []:=by
 have hw2:=hw.2.1;have hw1:=hw.1;refine en1 hm A4 Tryz.func88 rfl rfl ?_;simp only[go_sem];refine B0 hm (ι:= {p:Nat×Int // p.1<=w.Joints.length/\D4 (Q6 w) p.1 0= .inl p.2}) (λi=> [(1, .share, .ptr 32 0 0 1),(3, .share,sI i.1.2),(7, .share,A2 24 Joint.enc default w.Joints),(8, .share,sI (w.Joints.length:Int)),(9, .share,sI (i.1.1:Int))]) (λi=> [(32, .box [sI w.Settings.TimeStep,sI w.Settings.Gravity.X,sI w.Settings.Gravity.Y,sI w.Settings.Iterations,sI w.Settings.SleepSteps,A2 20 Body.enc default w.Bodies,A2 24 Joint.enc default w.Joints,A2 7 Contact.enc default w.Contacts,A2 4 PairKey.enc default w.Overlaps,sI w.NextID,sI w.Frame])]) (λi=>w.Joints.length-i.1.1) ⟨(0,0),by omega,rfl⟩ ?_ ?_
 ·refine D7 [] [] ?_;simp only[go_sem]
 ·rintro⟨⟨i1,s1⟩,hi1,hs1⟩;replace hi1:i1<=w.Joints.length:=hi1;replace hs1:D4 (Q6 w) i1 0= .inl s1:=hs1;simp only[go_sem];by_cases h1:(i1:Int)<(w.Joints.length:Int)
  ·rw[if_pos h1];have hlt1:i1<w.Joints.length:=by omega
   (repeat(with_reducible refine And.intro ?_ ?_;exact aI_))
   refine A0 (D5p (w.Joints.getD i1 default)) rfl ?_;generalize hv1:(A3s (w.Joints.getD i1 default))=v1;simp only[go_sem,C3,A9];refine A0 (C7u w (w.Joints.getD i1 default) (by(exact hw.1))) rfl ?_;generalize hv2:(A1z w (w.Joints.getD i1 default))=v2;simp only[go_sem,C3,A9];have p2:=A24 w (w.Joints.getD i1 default).ID;refine A0 (A2a w (w.Joints.getD i1 default).ID (by(exact hw.1))) rfl ?_;generalize hv3:(H7 w (w.Joints.getD i1 default).ID)=v3 at*;simp only[go_sem,C3,A9];by_cases h3:(((((v1 != 0)||(decide (w.NextID<=(w.Joints.getD i1 default).ID)))||(decide ((w.Joints.getD i1 default).ID<=s1)))||(!v2))||(decide (0<=v3)))=true
   ·rw[if_pos h3];have e1:D4 (Q6 w) (i1+1) 0= .inr false:=N2 hs1 (by(unfold Q6;exact hd_));replace e1:=Z2 e1 (show i1+1<=w.Joints.length by omega);have hd:X1 w=false:=by(unfold X1;exact hd_)
    try rw[hd]
   ·rw[if_neg h3];have hn:D4 (Q6 w) (i1+1) 0= .inl (w.Joints.getD i1 default).ID:=N2 hs1 (by(unfold Q6;exact hd_));refine A7 ⟨(i1+1,(w.Joints.getD i1 default).ID),by omega,hn⟩ (by show w.Joints.length-(i1+1)<w.Joints.length-i1;omega) (D7 [] [] ?_);simp only[go_sem];exact A23
  ·rw[if_neg h1];have hge:i1=w.Joints.length:=by omega
   subst hge;have hd:X1 w=true:=by(unfold X1;exact hd_)
   try rw[hd]
def T0(w:Api.World)(i1:Nat)(s1:Int):(Int) ⊕ (Bool):=let v1:=(Y1 (w.Joints.getD i1 default));let v2:=(A4s w (w.Joints.getD i1 default));let v3:=(H7 w (w.Joints.getD i1 default).ID);if(((((v1 != 0)||(decide (w.NextID<=(w.Joints.getD i1 default).ID)))||((decide (0<(i1:Int)))&&(decide ((w.Joints.getD i1 default).ID<=s1))))||(!v2))||(decide (0<=v3)))=true then(.inr false)else(.inl (w.Joints.getD i1 default).ID)
def A0t(w:Api.World):Bool:=(match D4 (T0 w) w.Joints.length 0 with | .inr r=>r | .inl s1=>true)
theorem D25(w:Api.World)(hw:Wsm w):A1 Tryz.prog D2k [.agg w.enc] [] (sB (A0t w)) []:=by
 have hw2:=hw.2.1;have hw1:=hw.1;refine en1 hm A4 Tryz.func43 rfl rfl ?_;simp only[go_sem];refine B0 hm (ι:= {p:Nat×Int // p.1<=w.Joints.length/\D4 (T0 w) p.1 0= .inl p.2}) (λi=> [(1, .share, .ptr 32 0 0 1),(3, .share,sI i.1.2),(4, .share,sI (i.1.1:Int))]) (λi=> [(32, .box [sI w.Settings.TimeStep,sI w.Settings.Gravity.X,sI w.Settings.Gravity.Y,sI w.Settings.Iterations,sI w.Settings.SleepSteps,A2 20 Body.enc default w.Bodies,A2 24 Joint.enc default w.Joints,A2 7 Contact.enc default w.Contacts,A2 4 PairKey.enc default w.Overlaps,sI w.NextID,sI w.Frame])]) (λi=>w.Joints.length-i.1.1) ⟨(0,0),by omega,rfl⟩ ?_ ?_
 ·refine D7 [] [] ?_;simp only[go_sem]
 ·rintro⟨⟨i1,s1⟩,hi1,hs1⟩;replace hi1:i1<=w.Joints.length:=hi1;replace hs1:D4 (T0 w) i1 0= .inl s1:=hs1;simp only[go_sem];by_cases h1:(i1:Int)<(w.Joints.length:Int)
  ·rw[if_pos h1];have hlt1:i1<w.Joints.length:=by omega
   (repeat(with_reducible refine And.intro ?_ ?_;exact aI_))
   refine A0 (D98 (w.Joints.getD i1 default)) rfl ?_;generalize hv1:(Y1 (w.Joints.getD i1 default))=v1;simp only[go_sem,B4,C3,A9]
   (repeat(with_reducible refine And.intro ?_ ?_;exact aI_))
   refine A0 (D7y w (w.Joints.getD i1 default) (by(exact hw.1))) rfl ?_;generalize hv2:(A4s w (w.Joints.getD i1 default))=v2;simp only[go_sem,C3,A9];have p2:=A24 w (w.Joints.getD i1 default).ID;refine A0 (B5q w (w.Joints.getD i1 default).ID (by(exact hw.1))) rfl ?_;generalize hv3:(H7 w (w.Joints.getD i1 default).ID)=v3 at*;simp only[go_sem,C3,A9];by_cases h3:(((((v1 != 0)||(decide (w.NextID<=(w.Joints.getD i1 default).ID)))||((decide (0<(i1:Int)))&&(decide ((w.Joints.getD i1 default).ID<=s1))))||(!v2))||(decide (0<=v3)))=true
   ·rw[if_pos h3];have e1:D4 (T0 w) (i1+1) 0= .inr false:=N2 hs1 (by(unfold T0;exact hd_));replace e1:=Z2 e1 (show i1+1<=w.Joints.length by omega);have hd:A0t w=false:=by(unfold A0t;exact hd_)
    try rw[hd]
   ·rw[if_neg h3];have hn:D4 (T0 w) (i1+1) 0= .inl (w.Joints.getD i1 default).ID:=N2 hs1 (by(unfold T0;exact hd_));refine A7 ⟨(i1+1,(w.Joints.getD i1 default).ID),by omega,hn⟩ (by show w.Joints.length-(i1+1)<w.Joints.length-i1;omega) (D7 [] [] ?_);simp only[go_sem];exact A23
  ·rw[if_neg h1];have hge:i1=w.Joints.length:=by omega
   subst hge;have hd:A0t w=true:=by(unfold A0t;exact hd_)
   try rw[hd]
end Go.Abs
end
