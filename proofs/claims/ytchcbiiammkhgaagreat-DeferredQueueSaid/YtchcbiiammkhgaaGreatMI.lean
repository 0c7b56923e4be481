/- A part of the proof: contracts of functions that the statement reaches. -/
import Derived.Test.YtchcbiiammkhgaaGreatMH
set_option linter.unusedSimpArgs false
set_option linter.unusedVariables false
set_option linter.unnecessarySimpa false
set_option maxRecDepth 100000
set_option maxHeartbeats 2000000
noncomputable section
namespace Go.Abs
open Go.Proofs
open Api
def C7(a:Int)(b:Int):Int:=(sat (IntKind.i64.wrap ((sat a)+(sat b))))
theorem M9(a:Int)(b:Int):A1 Tryz.prog E6h [sI a,sI b] [] (sI (C7 a b)) []:=by
 refine en1 hm A4 Tryz.func299 rfl rfl ?_;have:=J7
 have:=C7.eq_1 a b;exact D1
def B5(a:Int)(b:Int):Int:=let v3:=(A1n (IntKind.i64.wrap ((sat a)*(sat b))) 65536);(sat v3)
theorem L8(a:Int)(b:Int):A1 Tryz.prog E6j [sI a,sI b] [] (sI (B5 a b)) []:=by
 refine en1 hm A4 Tryz.func298 rfl rfl ?_;have:=J7
 have:=P9
 have:=B5.eq_1 a b;exact D1
def Q0(x:Int)(low:Int)(high:Int):Int:=if((decide (high<low))||(decide (x<low)))=true then(low)else(if high<x then(high)else(x))
theorem A4x(x:Int)(low:Int)(high:Int):A1 Tryz.prog E1o [sI x,sI low,sI high] [] (sI (Q0 x low high)) []:=by refine en1 hm A4 Tryz.func186 rfl rfl ?_;have:=Q0.eq_1 x low high;exact D1
def Y6(a:Int)(b:Int):Int:=if((sat b)==0)=true then(let v3:=(Q0 (IntKind.i64.wrap ((sat a)*65536)) (-1) 1);(IntKind.i64.wrap (v3*536870911)))else(if(sat b)<0 then(let v4:=(A1n (IntKind.i64.wrap (0-(IntKind.i64.wrap ((sat a)*65536)))) (IntKind.i64.wrap (0-(sat b))));(sat v4))else(let v6:=(A1n (IntKind.i64.wrap ((sat a)*65536)) (sat b));(sat v6)))
theorem A68(a:Int)(b:Int):A1 Tryz.prog E6i [sI a,sI b] [] (sI (Y6 a b)) []:=by
 refine en1 hm A4 Tryz.func416 rfl rfl ?_;have:=J7
 have:=A4x
 have:=P9
 have:=Y6.eq_1 a b;exact D1
def A8v(n:Int)(d:Int):Int:=if(((decide (d<1))||(decide (4611686018427387904<d)))||(decide (n<1)))=true then(0)else(if d<=n then(65536)else(if d<70368744177664 then(let v1:=(A1n (IntKind.i64.wrap (n*65536)) d);v1)else(let v2:=(A1n d 65536);let v3:=(A1n n v2);(if 65536<v3 then 65536 else v3))))
theorem B7g(n:Int)(d:Int):A1 Tryz.prog E1q [sI n,sI d] [] (sI (A8v n d)) []:=by
 refine en1 hm A4 Tryz.func486 rfl rfl ?_;have:=P9
 have:=A8v.eq_1 n d;exact D1
def B88(x:Int):Int:=let v2:=(isq (IntKind.i64.wrap ((sat x)*65536)));v2
theorem E5p(x:Int):A1 Tryz.prog E3h [sI x] [] (sI (B88 x)) []:=by
 refine en1 hm A4 Tryz.func437 rfl rfl ?_;have:=J7
 have:=B2i
 have:=B88.eq_1 x;exact D1
def B3w(a:Int)(b:Int)(t:Int):Int:=let v1:=(sat (sat b-sat a));let v2:=(B5 v1 t);let v3:=(C7 a v2);v3
theorem E5o(a:Int)(b:Int)(t:Int):A1 Tryz.prog E3g [sI a,sI b,sI t] [] (sI (B3w a b t)) []:=by
 refine en1 hm A4 Tryz.func400 rfl rfl ?_;have:=Q9
 have:=L8
 have:=M9
 have:=B3w.eq_1 a b t;exact D1
def I6(a:Int):Int:=if 205888<=(a.tmod 411776)then((IntKind.i64.wrap ((a.tmod 411776)-411776)))else(if(a.tmod 411776)<(-205888)then((IntKind.i64.wrap ((a.tmod 411776)+411776)))else((a.tmod 411776)))
theorem A42(a:Int):A1 Tryz.prog D16 [sI a] [] (sI (I6 a)) []:=by refine en1 hm A4 Tryz.func443 rfl rfl ?_;have:=I6.eq_1 a;exact D1
def B50(x:Int):Int:=if x<0 then((IntKind.i64.wrap (0-x)))else(x)
theorem D3t(x:Int):A1 Tryz.prog E6g [sI x] [] (sI (B50 x)) []:=by refine en1 hm A4 Tryz.func518 rfl rfl ?_;have:=B50.eq_1 x;exact D1
def B5z(a:Int):Int:=let v1:=(I6 a);let v2:=(B50 v1);if 102944<v2 then(let v3:=(Y6 (IntKind.i64.wrap (205888-v2)) 102944);let v4:=(B5 v3 v3);let v5:=(B5 v4 4569);let v6:=(sat (sat 41906-sat v5));let v7:=(B5 v4 v6);let v8:=(sat (sat 102873-sat v7));let v9:=(B5 v3 v8);if v1<0 then((IntKind.i64.wrap (0-v9)))else(v9))else(let v10:=(Y6 v2 102944);let v11:=(B5 v10 v10);let v12:=(B5 v11 4569);let v13:=(sat (sat 41906-sat v12));let v14:=(B5 v11 v13);let v15:=(sat (sat 102873-sat v14));let v16:=(B5 v10 v15);if v1<0 then((IntKind.i64.wrap (0-v16)))else(v16))
theorem D3s(a:Int):A1 Tryz.prog E6f [sI a] [] (sI (B5z a)) []:=by
 refine en1 hm A4 Tryz.func445 rfl rfl ?_;have:=A42
 have:=D3t
 have:=A68
 have:=L8
 have:=Q9
 have:=B5z.eq_1 a;exact D1
def C13(a:Int):Int:=let v1:=(I6 a);let v2:=(B50 v1);let v3:=(B5z (IntKind.i64.wrap (102944-v2)));v3
theorem E7p(a:Int):A1 Tryz.prog E6d [sI a] [] (sI (C13 a)) []:=by
 refine en1 hm A4 Tryz.func444 rfl rfl ?_;have:=A42
 have:=D3t
 have:=D3s
 have:=C13.eq_1 a;exact D1
structure Rot where
 Cos:Int
 Sin:Int
 deriving DecidableEq,Inhabited
def Rot.enc(x:Rot):List AV:=[sI x.Cos,sI x.Sin]
def Rot.zero:List AV:= [sI 0,sI 0]
attribute [go_sem] Rot.enc Rot.zero
@[go_sem] theorem G4h(x:Rot):Rot.mk x.Cos x.Sin=x:=rfl
structure AABB where
 Min:Vec
 Max:Vec
 deriving DecidableEq,Inhabited
def AABB.enc(x:AABB):List AV:=[sI x.Min.X,sI x.Min.Y,sI x.Max.X,sI x.Max.Y]
def AABB.zero:List AV:= [sI 0,sI 0,sI 0,sI 0]
attribute [go_sem] AABB.enc AABB.zero
@[go_sem] theorem G34(x:AABB):AABB.mk x.Min x.Max=x:=rfl
def B1o(a:Int):Rot:=let v1:=(C13 a);let v2:=(B5z a);let v3:=(isq (IntKind.i64.wrap ((IntKind.i64.wrap (v1*v1))+(IntKind.i64.wrap (v2*v2)))));let v4:=(Y6 v1 v3);let v5:=(Y6 v2 v3);(⟨v4,v5⟩:Rot)
theorem C2b(a:Int):A1 Tryz.prog E6e [sI a] [] (.agg (B1o a).enc) []:=by
 refine L5 25 [(2,some (some 2))] hm A4 Tryz.func324 rfl ?_;have:=E7p
 have:=D3s
 have:=B2i
 have:=A68
 have:=B1o.eq_1 a;exact D1
def A0d(a:Int)(b:Int):Int:=let v1:=(I6 b);let v2:=(I6 a);let v3:=(I6 (IntKind.i64.wrap (v1-v2)));v3
theorem B9l(a:Int)(b:Int):A1 Tryz.prog E3d [sI a,sI b] [] (sI (A0d a b)) []:=by
 refine en1 hm A4 Tryz.func447 rfl rfl ?_;have:=A42
 have:=A0d.eq_1 a b;exact D1
def A5l(n:Int):Int:=let v1:=(A1n n 65536);(sat v1)
theorem B5t(n:Int):A1 Tryz.prog D80 [sI n] [] (sI (A5l n)) []:=by
 refine en1 hm A4 Tryz.func394 rfl rfl ?_;have:=P9
 have:=J7
 have:=A5l.eq_1 n;exact D1
def A18(a:Vec)(b:Vec):Vec:=let v1:=(C7 a.X b.X);let v2:=(C7 a.Y b.Y);(⟨v1,v2⟩:Vec)
theorem A5e(a:Vec)(b:Vec):A1 Tryz.prog E9v [.agg a.enc, .agg b.enc] [] (.agg (A18 a b).enc) []:=by
 refine L5 16 [(4,some (some 2))] hm A4 Tryz.func278 rfl ?_;have:=M9
 have:=A18.eq_1 a b;exact D1
def R0(v:Vec)(k:Int):Vec:=let v1:=(B5 v.X k);let v2:=(B5 v.Y k);(⟨v1,v2⟩:Vec)
theorem A76(v:Vec)(k:Int):A1 Tryz.prog E3p [.agg v.enc,sI k] [] (.agg (R0 v k).enc) []:=by
 refine L5 14 [(4,some (some 2))] hm A4 Tryz.func297 rfl ?_;have:=L8
 have:=R0.eq_1 v k;exact D1
def O8(a:Vec)(b:Vec):Int:=let v1:=(B4n a);let v2:=(B4n b);let v3:=(A5l (IntKind.i64.wrap ((IntKind.i64.wrap (v1.X*v2.X))+(IntKind.i64.wrap (v1.Y*v2.Y)))));v3
theorem A0a(a:Vec)(b:Vec):A1 Tryz.prog E9w [.agg a.enc, .agg b.enc] [] (sI (O8 a b)) []:=by
 refine en1 hm A4 Tryz.func254 rfl rfl ?_;have:=A03
 have:=B5t
 have:=O8.eq_1 a b;exact D1
def A1d(a:Vec)(b:Vec):Int:=let v1:=(B4n a);let v2:=(B4n b);let v3:=(A5l (IntKind.i64.wrap ((IntKind.i64.wrap (v1.X*v2.Y))-(IntKind.i64.wrap (v1.Y*v2.X)))));v3
theorem A75(a:Vec)(b:Vec):A1 Tryz.prog E3o [.agg a.enc, .agg b.enc] [] (sI (A1d a b)) []:=by
 refine en1 hm A4 Tryz.func435 rfl rfl ?_;have:=A03
 have:=B5t
 have:=A1d.eq_1 a b;exact D1
def A3t(v:Vec):Vec:=let v1:=(A4k v);if(v1==0)=true then((⟨0,0⟩:Vec))else(let v2:=(Y6 v.X v1);let v3:=(Y6 v.Y v1);(⟨v2,v3⟩:Vec))
theorem A5q(v:Vec):A1 Tryz.prog D4k [.agg v.enc] [] (.agg (A3t v).enc) []:=by
 refine L5 18 [(2,some (some 2))] hm A4 Tryz.func419 rfl ?_;have:=V0
 have:=A68
 have:=A3t.eq_1 v;exact D1
def A0l(v:Vec):Vec:=let v1:=(B4n v);(⟨(IntKind.i64.wrap (0-v1.Y)),v1.X⟩:Vec)
theorem C2q(v:Vec):A1 Tryz.prog E6w [.agg v.enc] [] (.agg (A0l v).enc) []:=by
 refine L5 11 [(2,some (some 2))] hm A4 Tryz.func311 rfl ?_;have:=A03
 have:=A0l.eq_1 v;exact D1
def A62(a:Vec)(b:Vec)(t:Int):Vec:=let v1:=(B3w a.X b.X t);let v2:=(B3w a.Y b.Y t);(⟨v1,v2⟩:Vec)
theorem B16(a:Vec)(b:Vec)(t:Int):A1 Tryz.prog E6v [.agg a.enc, .agg b.enc,sI t] [] (.agg (A62 a b t).enc) []:=by
 refine L5 20 [(6,some (some 2))] hm A4 Tryz.func264 rfl ?_;have:=E5o
 have:=A62.eq_1 a b t;exact D1
def A8y(r:Rot)(v:Vec):Vec:=let v3:=(B4n v);let v4:=(A5l (IntKind.i64.wrap ((IntKind.i64.wrap ((sat r.Cos)*v3.X))-(IntKind.i64.wrap ((sat r.Sin)*v3.Y)))));let v5:=(A5l (IntKind.i64.wrap ((IntKind.i64.wrap ((sat r.Sin)*v3.X))+(IntKind.i64.wrap ((sat r.Cos)*v3.Y)))));(⟨v4,v5⟩:Vec)
theorem B7j(r:Rot)(v:Vec):A1 Tryz.prog E12 [.agg r.enc, .agg v.enc] [] (.agg (A8y r v).enc) []:=by
 refine L5 36 [(4,some (some 2))] hm A4 Tryz.func323 rfl ?_;have:=J7
 have:=A03
 have:=B5t
 have:=A8y.eq_1 r v;exact D1
def X4(t:Transform)(v:Vec):Vec:=let v1:=(B1o t.Angle);let v2:=(A8y v1 v);let v3:=(A18 v2 t.Position);v3
theorem A7h(t:Transform)(v:Vec):A1 Tryz.prog D2r [.agg t.enc, .agg v.enc] [] (.agg (X4 t v).enc) []:=by
 refine L5 13 [(4,some (some 2))] hm A4 Tryz.func321 rfl ?_;have:=C2b
 have:=B7j
 have:=A5e
 have:=X4.eq_1 t v;exact D1
def A6m(a:Int)(d:Int):Int:=let v1:=(I6 a);let v2:=(I6 (IntKind.i64.wrap (v1+d)));v2
theorem B6z(a:Int)(d:Int):A1 Tryz.prog C80 [sI a,sI d] [] (sI (A6m a d)) []:=by
 refine en1 hm A4 Tryz.func322 rfl rfl ?_;have:=A42
 have:=A6m.eq_1 a d;exact D1
def A1p(a:Transform)(b:Transform)(t:Int):Transform:=let v1:=(A0d a.Angle b.Angle);let v2:=(B5 v1 t);let v3:=(A62 a.Position b.Position t);let v4:=(A6m a.Angle v2);(⟨v3,v4⟩:Transform)
theorem B07(a:Transform)(b:Transform)(t:Int):A1 Tryz.prog B97 [.agg a.enc, .agg b.enc,sI t] [] (.agg (A1p a b t).enc) []:=by
 refine L5 26 [(6,some (some 3))] hm A4 Tryz.func326 rfl ?_;have:=B9l
 have:=L8
 have:=B16
 have:=B6z
 have:=A1p.eq_1 a b t;exact D1
def A7r(t:Transform)(c:Vec)(v:Vec)(w:Int)(dt:Int):Transform:=let v1:=(X4 t c);let v2:=(R0 v dt);let v3:=(A18 v1 v2);let v4:=(B5 w dt);let v5:=(A6m t.Angle v4);let v6:=(B1o v5);let v7:=(A8y v6 c);let v8:=(M0 v3 v7);(⟨v8,v5⟩:Transform)
theorem C36(t:Transform)(c:Vec)(v:Vec)(w:Int)(dt:Int):A1 Tryz.prog C29 [.agg t.enc, .agg c.enc, .agg v.enc,sI w,sI dt] [] (.agg (A7r t c v w dt).enc) []:=by
 refine L5 34 [(10,some (some 3))] hm A4 Tryz.func195 rfl ?_;have:=A7h
 have:=A76
 have:=A5e
 have:=L8
 have:=B6z
 have:=C2b
 have:=B7j
 have:=K6
 have:=A7r.eq_1 t c v w dt;exact D1
def J9(v:Vec):Vec:=(⟨(sat v.X),(sat v.Y)⟩:Vec)
theorem D7s(v:Vec):A1 Tryz.prog D52 [.agg v.enc] [] (.agg (J9 v).enc) []:=by
 refine L5 10 [(2,some (some 2))] hm A4 Tryz.func408 rfl ?_;have:=J7
 have:=J9.eq_1 v;exact D1
def A8f(v:Vec):Bool:=(((sat v.X)==v.X)&&((sat v.Y)==v.Y))
theorem D5j(v:Vec):A1 Tryz.prog D3x [.agg v.enc] [] (sB (A8f v)) []:=by
 refine en1 hm A4 Tryz.func407 rfl rfl ?_;have:=J7
 have:=A8f.eq_1 v;exact D1
def B86(a:Vec)(b:Vec):Vec:=(⟨(if b.X<a.X then b.X else a.X),(if b.Y<a.Y then b.Y else a.Y)⟩:Vec)
theorem C95(a:Vec)(b:Vec):A1 Tryz.prog E3b [.agg a.enc, .agg b.enc] [] (.agg (B86 a b).enc) []:=by refine L5 16 [(4,some (some 2))] hm A4 Tryz.func409 rfl ?_;have:=B86.eq_1 a b;exact D1
def B87(a:Vec)(b:Vec):Vec:=(⟨(if a.X<b.X then b.X else a.X),(if a.Y<b.Y then b.Y else a.Y)⟩:Vec)
theorem C96(a:Vec)(b:Vec):A1 Tryz.prog E3c [.agg a.enc, .agg b.enc] [] (.agg (B87 a b).enc) []:=by refine L5 16 [(4,some (some 2))] hm A4 Tryz.func410 rfl ?_;have:=B87.eq_1 a b;exact D1
def A4b(b:AABB):Bool:=let v1:=(A8f b.Min);let v2:=(A8f b.Max);((((decide (b.Min.X<=b.Max.X))&&(decide (b.Min.Y<=b.Max.Y)))&&v1)&&v2)
theorem B39(b:AABB):A1 Tryz.prog E3a [.agg b.enc] [] (sB (A4b b)) []:=by
 refine en1 hm A4 Tryz.func275 rfl rfl ?_;have:=D5j
 have:=A4b.eq_1 b;exact D1
def B3v(a:AABB)(b:AABB):Bool:=((((decide (a.Min.X<=b.Max.X))&&(decide (b.Min.X<=a.Max.X)))&&(decide (a.Min.Y<=b.Max.Y)))&&(decide (b.Min.Y<=a.Max.Y)))
theorem D7r(a:AABB)(b:AABB):A1 Tryz.prog D51 [.agg a.enc, .agg b.enc] [] (sB (B3v a b)) []:=by refine en1 hm A4 Tryz.func276 rfl rfl ?_;have:=B3v.eq_1 a b;exact D1
def A2r(a:AABB)(b:AABB):Bool:=let v1:=(A4b a);let v2:=(A4b b);let v3:=(B3v a b);((v1&&v2)&&v3)
theorem C00(a:AABB)(b:AABB):A1 Tryz.prog D50 [.agg a.enc, .agg b.enc] [] (sB (A2r a b)) []:=by
 refine en1 hm A4 Tryz.func168 rfl rfl ?_;have:=B39
 have:=D7r
 have:=A2r.eq_1 a b;exact D1
def B69(b:AABB)(margin:Int):AABB:=let v1:=(A4b b);if v1=false then((⟨(⟨0,0⟩:Vec),(⟨0,0⟩:Vec)⟩:AABB))else(let v2:=(sat (sat b.Min.X-sat margin));let v3:=(sat (sat b.Min.Y-sat margin));let v4:=(C7 b.Max.X margin);let v5:=(C7 b.Max.Y margin);let v6:=(A4b (⟨(⟨v2,v3⟩:Vec),(⟨v4,v5⟩:Vec)⟩:AABB));if v6=false then((⟨(⟨0,0⟩:Vec),(⟨0,0⟩:Vec)⟩:AABB))else((⟨(⟨v2,v3⟩:Vec),(⟨v4,v5⟩:Vec)⟩:AABB)))
theorem E2g(b:AABB)(margin:Int):A1 Tryz.prog E1j [.agg b.enc,sI margin] [] (.agg (B69 b margin).enc) []:=by
 refine L5 38 [(4,some (some 4))] hm A4 Tryz.func464 rfl ?_;have:=λx1 x2 x3 x4=>cx_ (B39 ⟨⟨x1,x2⟩,⟨x3,x4⟩⟩)
 have:=B39
 have:=Q9
 have:=M9
 have:=B69.eq_1 b margin;exact D1
def A3(v:Vec):Vec:=(⟨(sat v.X),(sat v.Y)⟩:Vec)
theorem B6r(v:Vec):A1 Tryz.prog C8o [.agg v.enc] [] (.agg (A3 v).enc) []:=by
 refine L5 10 [(2,some (some 2))] hm A4 Tryz.func484 rfl ?_;have:=J7
 have:=A3.eq_1 v;exact D1
def A37(c:Vec)(d:Vec)(p:Vec):Int:=(if(IntKind.i64.wrap ((IntKind.i64.wrap ((IntKind.i64.wrap (d.X-c.X))*(IntKind.i64.wrap (p.Y-c.Y))))-(IntKind.i64.wrap ((IntKind.i64.wrap (d.Y-c.Y))*(IntKind.i64.wrap (p.X-c.X))))))<(IntKind.i64.wrap (0-(IntKind.i64.wrap ((IntKind.i64.wrap ((IntKind.i64.wrap (d.X-c.X))*(IntKind.i64.wrap (p.Y-c.Y))))-(IntKind.i64.wrap ((IntKind.i64.wrap (d.Y-c.Y))*(IntKind.i64.wrap (p.X-c.X))))))))then(IntKind.i64.wrap (0-(IntKind.i64.wrap ((IntKind.i64.wrap ((IntKind.i64.wrap (d.X-c.X))*(IntKind.i64.wrap (p.Y-c.Y))))-(IntKind.i64.wrap ((IntKind.i64.wrap (d.Y-c.Y))*(IntKind.i64.wrap (p.X-c.X))))))))else(IntKind.i64.wrap ((IntKind.i64.wrap ((IntKind.i64.wrap (d.X-c.X))*(IntKind.i64.wrap (p.Y-c.Y))))-(IntKind.i64.wrap ((IntKind.i64.wrap (d.Y-c.Y))*(IntKind.i64.wrap (p.X-c.X)))))))
theorem C2k(c:Vec)(d:Vec)(p:Vec):A1 Tryz.prog C1n [.agg c.enc, .agg d.enc, .agg p.enc] [] (sI (A37 c d p)) []:=by refine en1 hm A4 Tryz.func485 rfl rfl ?_;have:=A37.eq_1 c d p;exact D1
def B2(a:Vec)(b:Vec)(p:Vec):Vec×Int:=let v1:=(A3 a);let v2:=(A3 b);let v3:=(A3 p);let v4:=(A97 v1 v2);let v5:=(A8v (IntKind.i64.wrap ((IntKind.i64.wrap ((IntKind.i64.wrap (v3.X-v1.X))*(IntKind.i64.wrap (v2.X-v1.X))))+(IntKind.i64.wrap ((IntKind.i64.wrap (v3.Y-v1.Y))*(IntKind.i64.wrap (v2.Y-v1.Y)))))) v4);if(v5==0)=true then((v1,v5))else(if(v5==65536)=true then((v2,v5))else(let v6:=(A62 v1 v2 v5);(v6,v5)))
theorem B13(a:Vec)(b:Vec)(p:Vec):A1 Tryz.prog C1m [.agg a.enc, .agg b.enc, .agg p.enc] [] (.tup [.agg (B2 a b p).1.enc,sI ((B2 a b p).2)]) []:=by
 refine A63 56 [(6,some (some 2)),(7,none)] hm A4 Tryz.func487 rfl ?_;have:=B6r
 have:=W4
 have:=B7g
 have:=B16
 have:=B2.eq_1 a b p;exact D1
def A3n(x:Int):Bool:=((decide ((-268435456)<=x))&&(decide (x<=268435456)))
theorem C7s(x:Int):A1 Tryz.prog C7e [sI x] [] (sB (A3n x)) []:=by refine en1 hm A4 Tryz.func463 rfl rfl ?_;have:=A3n.eq_1 x;exact D1
def A0u(t:Transform):Bool:=let v1:=(A3n t.Position.X);let v2:=(A3n t.Position.Y);(((v1&&v2)&&(decide ((-205888)<=t.Angle)))&&(decide (t.Angle<205888)))
theorem D29(t:Transform):A1 Tryz.prog D2s [.agg t.enc] [] (sB (A0u t)) []:=by
 refine en1 hm A4 Tryz.func359 rfl rfl ?_;have:=C7s
 have:=A0u.eq_1 t;exact D1
def A8w(x:Int):Bool:=((decide (x<(-268435456)))||(decide (268435456<x)))
theorem C6u(x:Int):A1 Tryz.prog E1v [sI x] [] (sB (A8w x)) []:=by refine en1 hm A4 Tryz.func348 rfl rfl ?_;have:=A8w.eq_1 x;exact D1
theorem E7r(t:Transform):A1 Tryz.prog E6m [.agg t.enc] [] (sB (A0u t)) []:=by
 refine en1 hm A4 Tryz.func220 rfl rfl ?_;simp only[go_sem];refine A0 (C6u t.Position.X) rfl ?_;generalize hv1:(A8w t.Position.X)=v1;simp only[go_sem];refine A0 (C6u t.Position.Y) rfl ?_;generalize hv2:(A8w t.Position.Y)=v2;simp only[go_sem,B4,A9,C5];have hd:A0u t=((((!v1)&&(!v2))&&(decide ((-205888)<=t.Angle)))&&(decide (t.Angle<205888))):=by(subst hv2;subst hv1;simp only[A0u,A3n,A8w]at*;(rw[Bool.eq_iff_iff];simp only[Bool.and_eq_true,Bool.not_eq_true',decide_eq_true_eq,decide_eq_false_iff_not,Bool.or_eq_false_iff]at*;omega))
 try rw[hd]
def A5k(v:Vec)(limit:Int):Bool:=((inR v.X (IntKind.i64.wrap (0-limit)) limit)&&(inR v.Y (IntKind.i64.wrap (0-limit)) limit))
theorem D91(v:Vec)(limit:Int):A1 Tryz.prog D8f [.agg v.enc,sI limit] [] (sB (A5k v limit)) []:=by
 refine en1 hm A4 Tryz.func357 rfl rfl ?_;have:=B7e
 have:=A5k.eq_1 v limit;exact D1
def B2c(b:Body):Bool:=((!((b.Velocity.X==0)&&(b.Velocity.Y==0)))||(b.AngularVelocity != 0))
theorem E2h(b:Body):A1 Tryz.prog E1k [.agg b.enc] [] (sB (B2c b)) []:=by refine en1 hm A4 Tryz.func360 rfl rfl ?_;have:=B2c.eq_1 b;exact D1
def A7d(b:Body):Bool:=let v1:=(B2c b);if((b.Kind==1)&&(v1||((!((b.Force.X==0)&&(b.Force.Y==0)))||(b.Torque != 0))))=true then(false)else(if((b.Kind != 3)&&(b.Asleep||b.Bullet))=true then(false)else(((!b.Asleep)||(!v1))))
theorem D2v(b:Body):A1 Tryz.prog D18 [.agg b.enc] [] (sB (A7d b)) []:=by
 refine en1 hm A4 Tryz.func228 rfl rfl ?_;have:=E2h
 have:=A7d.eq_1 b;exact D1
def Z0(s:Shape):Bool:=if(s.Kind==1)=true then(((s.Vertices.length:Int)==1))else(if(s.Kind==2)=true then(((s.Vertices.length:Int)==2))else(((decide (3<=(s.Vertices.length:Int)))&&(decide ((s.Vertices.length:Int)<=8)))))
theorem D0u(s:Shape):A1 Tryz.prog C8q [.agg s.enc] [] (sB (Z0 s)) []:=by refine en1 hm A4 Tryz.func376 rfl rfl ?_;have:=Z0.eq_1 s;exact D1
theorem G2u(s:Shape):Z0 s=true->(s.Kind=1->s.Vertices.length=1)/\(s.Kind=2->s.Vertices.length=2)/\(s.Kind=3->3<=s.Vertices.length):=by
 intro h;unfold Z0 at h
 (repeat' split at h) <;> simp only[Bool.and_eq_true,decide_eq_true_eq,beq_iff_eq]at* <;> omega
def A1b(s:Shape):Bool:=if(s.Kind==3)=true then(((decide (3<=(s.Vertices.length:Int)))&&(decide ((s.Vertices.length:Int)<=8))))else(((s.Vertices.length:Int)==s.Kind))
theorem D0p(s:Shape):A1 Tryz.prog C8k [.agg s.enc] [] (sB (A1b s)) []:=by refine en1 hm A4 Tryz.func349 rfl rfl ?_;have:=A1b.eq_1 s;exact D1
theorem G2k(s:Shape):A1b s=true->(s.Kind=1->s.Vertices.length=1)/\(s.Kind=2->s.Vertices.length=2)/\(s.Kind=3->3<=s.Vertices.length):=by
 intro h;unfold A1b at h
 (repeat' split at h) <;> simp only[Bool.and_eq_true,decide_eq_true_eq,beq_iff_eq]at* <;> omega
def A4i(n:Int):Bool:=((decide (n<(-1048576)))||(decide (1048576<n)))
theorem D0t(n:Int):A1 Tryz.prog C8p [sI n] [] (sB (A4i n)) []:=by refine en1 hm A4 Tryz.func379 rfl rfl ?_;have:=A4i.eq_1 n;exact D1
def A1o(l:List Vec)(i1:Nat)(s1:Unit):(Unit) ⊕ (Bool):=let v1:=(A7x (l.getD i1 default));if v1=false then(.inr false)else(.inl ())
def A2v(l:List Vec):Bool:=(match D4 (A1o l) l.length ()with | .inr r=>r | .inl s1=>true)
theorem C5v(l:List Vec)(hl:l.length<=1048576):A1 Tryz.prog C4m [A2 2 Vec.enc default l] [] (sB (A2v l)) []:=by
 refine en1 hm A4 Tryz.func482 rfl rfl ?_;have:=D21
 have:=A2v.eq_1 l
 have:=λi_ s_=>A1o.eq_1 l i_ s_
 have:=λx_ Q_ σ_=> @lp_ Tryz.prog Tryz.f482.ntmps [] x_ Q_ σ_ hm (IE (A1o l) ()) (λ_=>True) l.length (λi_=> [(5, .share,A2 2 Vec.enc default l),(6, .share,sI (l.length:Int)),(7, .share,sI (i_:Int))]) (λi_=> []) [] rfl (λ_ _=>trivial) (by simp[go_sem]) (by simp[go_sem,A6]) (by simp[go_sem]);exact A43
def A4d(k:PairKey):Bool:=(((((decide (k.BodyA<k.BodyB))&&(decide (0<=k.FixtureA)))&&(decide (k.FixtureA<4)))&&(decide (0<=k.FixtureB)))&&(decide (k.FixtureB<4)))
theorem C98(k:PairKey):A1 Tryz.prog C70 [.agg k.enc] [] (sB (A4d k)) []:=by refine en1 hm A4 Tryz.func237 rfl rfl ?_;have:=A4d.eq_1 k;exact D1
def Y0(vs:List Vec)(i1:Nat)(i2:Nat)(s2:Unit):(Unit) ⊕ (Bool):=let v2:=(ori (vs.getD i1 default) (vs.getD ((IntKind.i64.wrap ((i1:Int)+1)).tmod (vs.length:Int)).toNat default) (vs.getD i2 default));if((((i2:Int) != (i1:Int))&&((i2:Int) != ((IntKind.i64.wrap ((i1:Int)+1)).tmod (vs.length:Int))))&&(v2 != 1))=true then(.inr false)else(.inl ())
def U2(vs:List Vec)(i1:Nat)(s1:Unit):(Unit) ⊕ (Bool):=(match D4 (Y0 vs i1) vs.length ()with | .inr r=> .inr r | .inl s2=> .inl ())
def I9(vs:List Vec):Bool:=let v1:=(A2v vs);if(((decide ((vs.length:Int)<3))||(decide (8<(vs.length:Int))))||(!v1))=true then(false)else((match D4 (U2 vs) vs.length ()with | .inr r=>r | .inl s1=>true))
theorem A6x(vs:List Vec)(hn:vs.length<=1048576):A1 Tryz.prog C8f [A2 2 Vec.enc default vs] [] (sB (I9 vs)) []:=by
 refine en1 hm A4 Tryz.func380 rfl rfl ?_;simp only[go_sem,C3];refine A0 (C5v vs (by(assumption))) rfl ?_;generalize hv1:(A2v vs)=v1;simp only[go_sem,C3,A9];by_cases h1:(((decide ((vs.length:Int)<3))||(decide (8<(vs.length:Int))))||(!v1))=true
 ·rw[if_pos h1];have hd:I9 vs=false:=by(unfold I9;exact hd_)
  try rw[hd]
 ·rw[if_neg h1];refine B0 hm (ι:= {p:Nat×Unit // p.1<=vs.length/\D4 (U2 vs) p.1 ()= .inl p.2}) (λi=> [(0, .share,A2 2 Vec.enc default vs),(3, .share,sI (vs.length:Int)),(22, .share,A2 2 Vec.enc default vs),(23, .share,sI (vs.length:Int)),(24, .share,sI (i.1.1:Int))]) (λi=> []) (λi=>vs.length-i.1.1) ⟨(0,()),by omega,rfl⟩ ?_ ?_
  ·refine D7 [] [] ?_;simp only[go_sem]
  ·rintro⟨⟨i1,s1⟩,hi1,hs1⟩;replace hi1:i1<=vs.length:=hi1;replace hs1:D4 (U2 vs) i1 ()= .inl s1:=hs1;simp only[go_sem];by_cases h2:(i1:Int)<(vs.length:Int)
   ·rw[if_pos h2];have hlt1:i1<vs.length:=by omega
    (repeat(with_reducible refine And.intro ?_ ?_;exact aI_))
    refine B0 hm (ι:= {p:Nat×Unit // p.1<=vs.length/\D4 (Y0 vs i1) p.1 ()= .inl p.2}) (λi=> [(0, .share,A2 2 Vec.enc default vs),(3, .share,sI (vs.length:Int)),(4, .share,sI (i1:Int)),(5, .share, .ptr 96 0 0 1),(6, .share,sI ((IntKind.i64.wrap ((i1:Int)+1)).tmod (vs.length:Int))),(22, .share,A2 2 Vec.enc default vs),(23, .share,sI (vs.length:Int)),(24, .share,sI (i1:Int)),(33, .share,A2 2 Vec.enc default vs),(34, .share,sI (vs.length:Int)),(35, .share,sI (i.1.1:Int))]) (λi=> [(96, .box [sI ((vs.getD i1 default).X),sI ((vs.getD i1 default).Y)])]) (λi=>vs.length-i.1.1) ⟨(0,()),by omega,rfl⟩ ?_ ?_
    ·refine D7 [] [] ?_;simp only[go_sem]
    ·rintro⟨⟨i2,s2⟩,hi2,hs2⟩;replace hi2:i2<=vs.length:=hi2;replace hs2:D4 (Y0 vs i1) i2 ()= .inl s2:=hs2;simp only[go_sem,B4,A9];by_cases h3:(i2:Int)<(vs.length:Int)
     ·rw[if_pos h3];have hlt2:i2<vs.length:=by omega
      (repeat(with_reducible refine And.intro ?_ ?_;exact aI_))
      refine A0 (A2p (vs.getD i1 default) (vs.getD ((IntKind.i64.wrap ((i1:Int)+1)).tmod (vs.length:Int)).toNat default) (vs.getD i2 default)) rfl ?_;generalize hv2:(ori (vs.getD i1 default) (vs.getD ((IntKind.i64.wrap ((i1:Int)+1)).tmod (vs.length:Int)).toNat default) (vs.getD i2 default))=v2;simp only[go_sem,B4,A9];by_cases h4:((((i2:Int) != (i1:Int))&&((i2:Int) != ((IntKind.i64.wrap ((i1:Int)+1)).tmod (vs.length:Int))))&&(v2 != 1))=true
      ·rw[if_pos h4];have e2:D4 (Y0 vs i1) (i2+1) ()= .inr false:=N2 hs2 (by(unfold Y0;exact hd_));replace e2:=Z2 e2 (show i2+1<=vs.length by omega);have e1:D4 (U2 vs) (i1+1) ()= .inr false:=N2 hs1 (by(unfold U2;exact hd_));replace e1:=Z2 e1 (show i1+1<=vs.length by omega);have hd:I9 vs=false:=by(unfold I9;exact hd_)
       try rw[hd]
      ·rw[if_neg h4];have hn:D4 (Y0 vs i1) (i2+1) ()= .inl ():=N2 hs2 (by(unfold Y0;exact hd_));refine A7 ⟨(i2+1,()),by omega,hn⟩ (by show vs.length-(i2+1)<vs.length-i2;omega) (D7 [] [] ?_);simp only[go_sem];exact A23
     ·rw[if_neg h3];have hge:i2=vs.length:=by omega
      subst hge;have hn:D4 (U2 vs) (i1+1) ()= .inl ():=N2 hs1 (by(unfold U2;exact hd_));refine A7 ⟨(i1+1,()),by omega,hn⟩ (by show vs.length-(i1+1)<vs.length-i1;omega) (D7 [] [] ?_);simp only[go_sem];exact A23
   ·rw[if_neg h2];have hge:i1=vs.length:=by omega
    subst hge;have hd:I9 vs=true:=by(unfold I9;exact hd_)
    try rw[hd]
theorem B78(vs:List Vec):I9 vs=true->3<=vs.length/\vs.length<=8:=by
 intro h;unfold I9 at h;simp only at h;split at h
 ·cases h
 ·rename_i hc;simp only[Bool.or_eq_true,decide_eq_true_eq,not_or]at hc;omega
def W7(vs:List Vec)(i1:Nat)(s1:Int):Int:=let v2:=(M0 (vs.getD ((IntKind.i64.wrap ((i1:Int)+1)).tmod (vs.length:Int)).toNat default) (vs.getD i1 default));let v3:=(A4k v2);(if v3<s1 then v3 else s1)
def A0h(vs:List Vec):Int:=let v1:=(I9 vs);if v1=false then(0)else(let s1:=itr (W7 vs) vs.length 536870911;s1)
theorem C2i(vs:List Vec)(hn:vs.length<=1048576):A1 Tryz.prog C1k [A2 2 Vec.enc default vs] [] (sI (A0h vs)) []:=by
 refine en1 hm A4 Tryz.func381 rfl rfl ?_;have:=B78 vs
 have:=A6x
 have:=K6
 have:=V0
 have:=A0h.eq_1 vs
 have:=λi_ s_=>W7.eq_1 vs i_ s_
 have:=λx_ Q_ σ_=> @lp_ Tryz.prog Tryz.f381.ntmps [] x_ Q_ σ_ hm (λ_=>True) (λ_=>True) vs.length (λi_=> [(0, .share,A2 2 Vec.enc default vs),(3, .share,sI (itr (W7 vs) i_ 536870911)),(9, .share,A2 2 Vec.enc default vs),(10, .share,sI (vs.length:Int)),(11, .share,sI (i_:Int))]) (λi_=> []) [] trivial (λ_ _=>trivial) (by simp[go_sem]) (by simp[go_sem,A6]) (by simp[go_sem]);exact A43
structure I7 where
 e:Vec
 f:Vec
 cross:Int
 deriving DecidableEq,Inhabited
def I7.enc(x:I7):List AV:=[sI x.e.X,sI x.e.Y,sI x.f.X,sI x.f.Y,sI x.cross]
def I7.zero:List AV:= [sI 0,sI 0,sI 0,sI 0,sI 0]
attribute [go_sem] I7.enc I7.zero
@[go_sem] theorem F0r(x:I7):I7.mk x.e x.f x.cross=x:=rfl
def P7(vs:List Vec)(i1:Nat)(s1:(List I7)×Int):(List I7)×Int:=let v1:=(A1n (IntKind.i64.wrap ((IntKind.i64.wrap ((IntKind.i64.wrap ((vs.getD (i1+1) default).X-(vs.getD 0 default).X))*(IntKind.i64.wrap ((vs.getD (IntKind.i64.wrap (((i1+1:Nat):Int)+1)).toNat default).Y-(vs.getD 0 default).Y))))-(IntKind.i64.wrap ((IntKind.i64.wrap ((vs.getD (i1+1) default).Y-(vs.getD 0 default).Y))*(IntKind.i64.wrap ((vs.getD (IntKind.i64.wrap (((i1+1:Nat):Int)+1)).toNat default).X-(vs.getD 0 default).X)))))) 65536);((s1.1++ [(⟨(⟨(IntKind.i64.wrap ((vs.getD (i1+1) default).X-(vs.getD 0 default).X)),(IntKind.i64.wrap ((vs.getD (i1+1) default).Y-(vs.getD 0 default).Y))⟩:Vec),(⟨(IntKind.i64.wrap ((vs.getD (IntKind.i64.wrap (((i1+1:Nat):Int)+1)).toNat default).X-(vs.getD 0 default).X)),(IntKind.i64.wrap ((vs.getD (IntKind.i64.wrap (((i1+1:Nat):Int)+1)).toNat default).Y-(vs.getD 0 default).Y))⟩:Vec),v1⟩:I7)]),(IntKind.i64.wrap (s1.2+v1)))
def O5(vs:List Vec):(List I7)×Int:=let s1:=itr (P7 vs) (vs.length-2) ([],0);(s1.1,s1.2)
theorem C6t(vs:List Vec)(hn:vs.length<=1048576)(h0:1<=vs.length):A1 Tryz.prog E1u [A2 2 Vec.enc default vs] [] (.tup [A2 5 I7.enc default (O5 vs).1,sI ((O5 vs).2)]) []:=by
 refine enT hm A4 Tryz.func483 rfl rfl ?_;simp only[go_sem]
 (repeat(with_reducible refine And.intro ?_ ?_;exact aI_))
 refine B0 hm (ι:= {i:Nat // i<=(vs.length-2)}) (λi=> [(0, .share,A2 2 Vec.enc default vs),(4,if i.1=0 then .adopt else .share, .sl 1004 0 (itr (P7 vs) i.1 ([],0)).1.length (itr (P7 vs) i.1 ([],0)).1.length),(5, .share,sI ((itr (P7 vs) i.1 ([],0)).2)),(6, .share, .ptr 112 0 0 1),(7, .share,sI ((i.1+1:Nat):Int))]) (λi=> [(1004, .arr 5 (A8 I7.enc default (itr (P7 vs) i.1 ([],0)).1)),(112, .box [sI ((vs.getD 0 default).X),sI ((vs.getD 0 default).Y)])]) (λi=>(vs.length-2)-i.1) ⟨0,by omega⟩ ?_ ?_
 ·refine D7 [] [1004] ?_;simp only[go_sem,H3];exact A23
 ·rintro⟨i1,hi1⟩;dsimp only;generalize hs1:itr (P7 vs) i1 ([],0)=s1;have hl1_0:(s1.1).length<=((([],0):(List I7)×Int).1).length+1*i1:=by rw[<-hs1];exact A7w (λs:(List I7)×Int=>(s.1).length) 1 (λi s=>by(unfold P7;(repeat' split) <;> simp <;> omega)) i1 _
  dsimp only[List.length_nil]at hl1_0;simp only[go_sem];by_cases h1:(IntKind.i64.wrap (((i1+1:Nat):Int)+1))<(vs.length:Int)
  ·rw[if_pos h1];have hlt1:i1<(vs.length-2):=by(simp only[IntKind.wrap_i64]at h1;omega)
   (repeat(with_reducible refine And.intro ?_ ?_;exact aI_))
   refine A0 (P9 (IntKind.i64.wrap ((IntKind.i64.wrap ((IntKind.i64.wrap ((vs.getD (i1+1) default).X-(vs.getD 0 default).X))*(IntKind.i64.wrap ((vs.getD (IntKind.i64.wrap (((i1+1:Nat):Int)+1)).toNat default).Y-(vs.getD 0 default).Y))))-(IntKind.i64.wrap ((IntKind.i64.wrap ((vs.getD (i1+1) default).Y-(vs.getD 0 default).Y))*(IntKind.i64.wrap ((vs.getD (IntKind.i64.wrap (((i1+1:Nat):Int)+1)).toNat default).X-(vs.getD 0 default).X)))))) 65536) rfl ?_;generalize hv1:(A1n (IntKind.i64.wrap ((IntKind.i64.wrap ((IntKind.i64.wrap ((vs.getD (i1+1) default).X-(vs.getD 0 default).X))*(IntKind.i64.wrap ((vs.getD (IntKind.i64.wrap (((i1+1:Nat):Int)+1)).toNat default).Y-(vs.getD 0 default).Y))))-(IntKind.i64.wrap ((IntKind.i64.wrap ((vs.getD (i1+1) default).Y-(vs.getD 0 default).Y))*(IntKind.i64.wrap ((vs.getD (IntKind.i64.wrap (((i1+1:Nat):Int)+1)).toNat default).X-(vs.getD 0 default).X)))))) 65536)=v1;simp only[go_sem]
   (repeat(with_reducible refine And.intro ?_ ?_;exact aI_))
   have hn:itr (P7 vs) (i1+1) ([],0)=((s1.1++ [(⟨(⟨(IntKind.i64.wrap ((vs.getD (i1+1) default).X-(vs.getD 0 default).X)),(IntKind.i64.wrap ((vs.getD (i1+1) default).Y-(vs.getD 0 default).Y))⟩:Vec),(⟨(IntKind.i64.wrap ((vs.getD (IntKind.i64.wrap (((i1+1:Nat):Int)+1)).toNat default).X-(vs.getD 0 default).X)),(IntKind.i64.wrap ((vs.getD (IntKind.i64.wrap (((i1+1:Nat):Int)+1)).toNat default).Y-(vs.getD 0 default).Y))⟩:Vec),v1⟩:I7)]),(IntKind.i64.wrap (s1.2+v1))):=by rw[E4,hs1];(unfold P7;exact hd_)
   refine A7 ⟨i1+1,by omega⟩ (by show(vs.length-2)-(i1+1)<(vs.length-2)-i1;omega) (D7 [] [] ?_);simp only[go_sem,hn]
   all_goals((repeat' (with_reducible apply And.intro)) <;> first |exact A1q ((⟨(⟨(IntKind.i64.wrap ((vs.getD (i1+1) default).X-(vs.getD 0 default).X)),(IntKind.i64.wrap ((vs.getD (i1+1) default).Y-(vs.getD 0 default).Y))⟩:Vec),(⟨(IntKind.i64.wrap ((vs.getD (IntKind.i64.wrap (((i1+1:Nat):Int)+1)).toNat default).X-(vs.getD 0 default).X)),(IntKind.i64.wrap ((vs.getD (IntKind.i64.wrap (((i1+1:Nat):Int)+1)).toNat default).Y-(vs.getD 0 default).Y))⟩:Vec),v1⟩:I7)) rfl rfl |exact A23)
  ·rw[if_neg h1];have hge:i1=(vs.length-2):=by(simp only[IntKind.wrap_i64]at h1;omega)
   subst hge;have hd:O5 vs=(s1.1,s1.2):=by(unfold O5;exact hd_)
   try rw[hd]
   try simp only[go_sem]
def X9(vs:List Vec):Int:=let v1:=(I9 vs);if v1=false then(0)else(let v2:=(O5 vs);let v3:=(A1n v2.2 2);v3)
theorem C3x(vs:List Vec)(hn:vs.length<=1048576):A1 Tryz.prog D8k [A2 2 Vec.enc default vs] [] (sI (X9 vs)) []:=by
 refine en1 hm A4 Tryz.func382 rfl rfl ?_;simp only[go_sem];have p1:=B78 vs;refine A0 (A6x vs (by(assumption))) rfl ?_;generalize hv1:(I9 vs)=v1 at*;simp only[go_sem];by_cases h2:v1=false
 ·rw[if_pos h2];have hd:X9 vs=0:=by(unfold X9;exact hd_)
  try rw[hd]
 ·rw[if_neg h2];refine A0 (C6t vs (by(assumption)) (by(exact J8))) rfl ?_;generalize hv2:(O5 vs)=v2;simp only[go_sem];refine A0 (P9 v2.2 2) rfl ?_;generalize hv3:(A1n v2.2 2)=v3;simp only[go_sem];have hd:X9 vs=v3:=by(unfold X9;exact hd_)
  try rw[hd]
def A1s(vs:List Vec)(i2:Nat)(i3:Nat)(s3:Unit):(Unit) ⊕ (Bool):=let v2:=(ori (vs.getD i2 default) (vs.getD ((IntKind.i64.wrap ((i2:Int)+1)).tmod (vs.length:Int)).toNat default) (vs.getD i3 default));if((((i3:Int) != (i2:Int))&&((i3:Int) != ((IntKind.i64.wrap ((i2:Int)+1)).tmod (vs.length:Int))))&&(v2 != 1))=true then(.inr false)else(.inl ())
def A0q(vs:List Vec)(i2:Nat)(s2:Unit):(Unit) ⊕ (Bool):=(match D4 (A1s vs i2) vs.length ()with | .inr r=> .inr r | .inl s3=> .inl ())
def A0p(vs:List Vec)(i1:Nat)(s1:Unit):(Unit) ⊕ (Bool):=let v1:=(A7x (vs.getD i1 default));if v1=false then(.inr false)else(.inl ())
def N0(vs:List Vec):Bool:=if((decide ((vs.length:Int)<3))||(decide (8<(vs.length:Int))))=true then(false)else((match D4 (A0p vs) vs.length ()with | .inr r=>r | .inl s1=>(match D4 (A0q vs) vs.length ()with | .inr r=>r | .inl s2=>true)))
theorem B5p(vs:List Vec)(hn:vs.length<=1048576):A1 Tryz.prog D8n [A2 2 Vec.enc default vs] [] (sB (N0 vs)) []:=by
 refine en1 hm A4 Tryz.func352 rfl rfl ?_;simp only[go_sem,C3];by_cases h1:((decide ((vs.length:Int)<3))||(decide (8<(vs.length:Int))))=true
 ·rw[if_pos h1];have hd:N0 vs=false:=by(unfold N0;exact hd_)
  try rw[hd]
 ·rw[if_neg h1];refine B0 hm (ι:= {p:Nat×Unit // p.1<=vs.length/\D4 (A0p vs) p.1 ()= .inl p.2}) (λi=> [(0, .share,A2 2 Vec.enc default vs),(3, .share,sI (vs.length:Int)),(4, .share,sI (i.1.1:Int))]) (λi=> []) (λi=>vs.length-i.1.1) ⟨(0,()),by omega,rfl⟩ ?_ ?_
  ·refine D7 [] [] ?_;simp only[go_sem]
  ·rintro⟨⟨i1,s1⟩,hi1,hs1⟩;replace hi1:i1<=vs.length:=hi1;replace hs1:D4 (A0p vs) i1 ()= .inl s1:=hs1;simp only[go_sem];by_cases h2:(i1:Int)<(vs.length:Int)
   ·rw[if_pos h2];have hlt1:i1<vs.length:=by omega
    (repeat(with_reducible refine And.intro ?_ ?_;exact aI_))
    refine A0 (E2n (vs.getD i1 default)) rfl ?_;generalize hv1:(A7x (vs.getD i1 default))=v1;simp only[go_sem];by_cases h3:v1=false
    ·rw[if_pos h3];have e1:D4 (A0p vs) (i1+1) ()= .inr false:=N2 hs1 (by(unfold A0p;exact hd_));replace e1:=Z2 e1 (show i1+1<=vs.length by omega);have hd:N0 vs=false:=by(unfold N0;exact hd_)
     try rw[hd]
    ·rw[if_neg h3];have hn:D4 (A0p vs) (i1+1) ()= .inl ():=N2 hs1 (by(unfold A0p;exact hd_));refine A7 ⟨(i1+1,()),by omega,hn⟩ (by show vs.length-(i1+1)<vs.length-i1;omega) (D7 [] [] ?_);simp only[go_sem];exact A23
   ·rw[if_neg h2];have hge:i1=vs.length:=by omega
    subst hge;refine B0 hm (ι:= {p:Nat×Unit // p.1<=vs.length/\D4 (A0q vs) p.1 ()= .inl p.2}) (λi=> [(0, .share,A2 2 Vec.enc default vs),(3, .share,sI (vs.length:Int)),(5, .share,sI (i.1.1:Int))]) (λi=> []) (λi=>vs.length-i.1.1) ⟨(0,()),by omega,rfl⟩ ?_ ?_
    ·refine D7 [] [] ?_;simp only[go_sem]
    ·rintro⟨⟨i2,s2⟩,hi2,hs2⟩;replace hi2:i2<=vs.length:=hi2;replace hs2:D4 (A0q vs) i2 ()= .inl s2:=hs2;simp only[go_sem];by_cases h4:(i2:Int)<(vs.length:Int)
     ·rw[if_pos h4];have hlt2:i2<vs.length:=by omega
      (repeat(with_reducible refine And.intro ?_ ?_;exact aI_))
      refine B0 hm (ι:= {p:Nat×Unit // p.1<=vs.length/\D4 (A1s vs i2) p.1 ()= .inl p.2}) (λi=> [(0, .share,A2 2 Vec.enc default vs),(3, .share,sI (vs.length:Int)),(5, .share,sI (i2:Int)),(6, .share,sI ((IntKind.i64.wrap ((i2:Int)+1)).tmod (vs.length:Int))),(7, .share,sI (i.1.1:Int))]) (λi=> []) (λi=>vs.length-i.1.1) ⟨(0,()),by omega,rfl⟩ ?_ ?_
      ·refine D7 [] [] ?_;simp only[go_sem]
      ·rintro⟨⟨i3,s3⟩,hi3,hs3⟩;replace hi3:i3<=vs.length:=hi3;replace hs3:D4 (A1s vs i2) i3 ()= .inl s3:=hs3;simp only[go_sem,B4,A9];by_cases h5:(i3:Int)<(vs.length:Int)
       ·rw[if_pos h5];have hlt3:i3<vs.length:=by omega
        (repeat(with_reducible refine And.intro ?_ ?_;exact aI_))
        refine A0 (D22 (vs.getD i2 default) (vs.getD ((IntKind.i64.wrap ((i2:Int)+1)).tmod (vs.length:Int)).toNat default) (vs.getD i3 default)) rfl ?_;generalize hv2:(ori (vs.getD i2 default) (vs.getD ((IntKind.i64.wrap ((i2:Int)+1)).tmod (vs.length:Int)).toNat default) (vs.getD i3 default))=v2;simp only[go_sem,B4,A9];by_cases h6:((((i3:Int) != (i2:Int))&&((i3:Int) != ((IntKind.i64.wrap ((i2:Int)+1)).tmod (vs.length:Int))))&&(v2 != 1))=true
        ·rw[if_pos h6];have e3:D4 (A1s vs i2) (i3+1) ()= .inr false:=N2 hs3 (by(unfold A1s;exact hd_));replace e3:=Z2 e3 (show i3+1<=vs.length by omega);have e2:D4 (A0q vs) (i2+1) ()= .inr false:=N2 hs2 (by(unfold A0q;exact hd_));replace e2:=Z2 e2 (show i2+1<=vs.length by omega);have hd:N0 vs=false:=by(unfold N0;exact hd_)
         try rw[hd]
        ·rw[if_neg h6];have hn:D4 (A1s vs i2) (i3+1) ()= .inl ():=N2 hs3 (by(unfold A1s;exact hd_));refine A7 ⟨(i3+1,()),by omega,hn⟩ (by show vs.length-(i3+1)<vs.length-i3;omega) (D7 [] [] ?_);simp only[go_sem];exact A23
       ·rw[if_neg h5];have hge:i3=vs.length:=by omega
        subst hge;have hn:D4 (A0q vs) (i2+1) ()= .inl ():=N2 hs2 (by(unfold A0q;exact hd_));refine A7 ⟨(i2+1,()),by omega,hn⟩ (by show vs.length-(i2+1)<vs.length-i2;omega) (D7 [] [] ?_);simp only[go_sem];exact A23
     ·rw[if_neg h4];have hge:i2=vs.length:=by omega
      subst hge;have hd:N0 vs=true:=by(unfold N0;exact hd_)
      try rw[hd]
def R6(vs:List Vec)(i1:Nat)(s1:Int):Int:=let v2:=(M0 (vs.getD ((IntKind.i64.wrap ((i1:Int)+1)).tmod (vs.length:Int)).toNat default) (vs.getD i1 default));let v3:=(A4k v2);if((decide (s1<0))||(decide (v3<s1)))=true then(v3)else(s1)
def A4g(vs:List Vec):Int:=let v1:=(N0 vs);if v1=false then(0)else(let s1:=itr (R6 vs) vs.length (-1);s1)
theorem D0o(vs:List Vec)(hn:vs.length<=1048576):A1 Tryz.prog C8j [A2 2 Vec.enc default vs] [] (sI (A4g vs)) []:=by
 refine en1 hm A4 Tryz.func353 rfl rfl ?_;have:=B5p
 have:=E09
 have:=B9q
 have:=A4g.eq_1 vs
 have:=λi_ s_=>R6.eq_1 vs i_ s_
 have:=λx_ Q_ σ_=> @lp_ Tryz.prog Tryz.f353.ntmps [] x_ Q_ σ_ hm (λ_=>True) (λ_=>True) vs.length (λi_=> [(0, .share,A2 2 Vec.enc default vs),(3, .share,sI (itr (R6 vs) i_ (-1))),(4, .share,sI (i_:Int))]) (λi_=> []) [] trivial (λ_ _=>trivial) (by simp[go_sem]) (by simp[go_sem,A6]) (by simp[go_sem]);exact A43
def B1p(vs:List Vec)(i:Int):Int:=let v1:=(A1n (IntKind.i64.wrap ((IntKind.i64.wrap ((IntKind.i64.wrap ((vs.getD i.toNat default).X-(vs.getD 0 default).X))*(IntKind.i64.wrap ((vs.getD (IntKind.i64.wrap (i+1)).toNat default).Y-(vs.getD 0 default).Y))))-(IntKind.i64.wrap ((IntKind.i64.wrap ((vs.getD i.toNat default).Y-(vs.getD 0 default).Y))*(IntKind.i64.wrap ((vs.getD (IntKind.i64.wrap (i+1)).toNat default).X-(vs.getD 0 default).X)))))) 65536);v1
theorem E7s(vs:List Vec)(i:Int)(hn:vs.length<=1048576)(h0:1<=i)(h1:i+1<(vs.length:Int)):A1 Tryz.prog E6n [A2 2 Vec.enc default vs,sI i] [] (sI (B1p vs i)) []:=by
 refine en1 hm A4 Tryz.func461 rfl rfl ?_;have:=C3z
 have:=B1p.eq_1 vs i;exact D1
def A4w(vs:List Vec)(i1:Nat)(s1:Int):Int:=let v2:=(B1p vs ((i1+1:Nat):Int));(IntKind.i64.wrap (s1+v2))
def A6k(vs:List Vec):Int:=let v1:=(N0 vs);if v1=false then(0)else(let s1:=itr (A4w vs) (vs.length-2) 0;let v3:=(A1n s1 2);v3)
theorem F1i(vs:List Vec)(hn:vs.length<=1048576):A1 Tryz.prog E9p [A2 2 Vec.enc default vs] [] (sI (A6k vs)) []:=by
 refine en1 hm A4 Tryz.func354 rfl rfl ?_;simp only[go_sem];refine A0 (B5p vs (by(assumption))) rfl ?_;generalize hv1:(N0 vs)=v1;simp only[go_sem];by_cases h1:v1=false
 ·rw[if_pos h1];have hd:A6k vs=0:=by(unfold A6k;exact hd_)
  try rw[hd]
 ·rw[if_neg h1];refine B0 hm (ι:= {i:Nat // i<=(vs.length-2)}) (λi=> [(0, .share,A2 2 Vec.enc default vs),(3, .share,sI (itr (A4w vs) i.1 0)),(4, .share,sI ((i.1+1:Nat):Int))]) (λi=> []) (λi=>(vs.length-2)-i.1) ⟨0,by omega⟩ ?_ ?_
  ·refine D7 [] [] ?_;simp only[go_sem,H3];exact A23
  ·rintro⟨i1,hi1⟩;dsimp only;generalize hs1:itr (A4w vs) i1 0=s1;simp only[go_sem];by_cases h2:(IntKind.i64.wrap (((i1+1:Nat):Int)+1))<(vs.length:Int)
   ·rw[if_pos h2];have hlt1:i1<(vs.length-2):=by(simp only[IntKind.wrap_i64]at h2;omega)
    refine A0 (E7s vs ((i1+1:Nat):Int) (by(assumption)) (by(omega)) (by(omega))) rfl ?_;generalize hv2:(B1p vs ((i1+1:Nat):Int))=v2;simp only[go_sem];have hn:itr (A4w vs) (i1+1) 0=(IntKind.i64.wrap (s1+v2)):=by rw[E4,hs1];(unfold A4w;exact hd_)
    refine A7 ⟨i1+1,by omega⟩ (by show(vs.length-2)-(i1+1)<(vs.length-2)-i1;omega) (D7 [] [] ?_);simp only[go_sem,hn];exact A23
   ·rw[if_neg h2];have hge:i1=(vs.length-2):=by(simp only[IntKind.wrap_i64]at h2;omega)
    subst hge;refine A0 (C3z s1 2) rfl ?_;generalize hv3:(A1n s1 2)=v3;simp only[go_sem];have hd:A6k vs=v3:=by(unfold A6k;exact hd_)
    try rw[hd]
def A7n(b:Body):Bool:=let v1:=(A5k b.Velocity 16777216);let v3:=(A5k b.Force 536870911);let v9:=(A0u b.Transform);(((((((inR b.ID 1 1099511627776)&&v9)&&(v1&&(inR b.AngularVelocity (-4194304) 4194304)))&&(v3&&(inR b.Torque (-536870911) 536870911)))&&((inR b.LinearDamping 0 65536)&&(inR b.AngularDamping 0 65536)))&&(inR b.GravityScale (-262144) 262144))&&(inR b.IdleSteps 0 1048576))
theorem D92(b:Body):A1 Tryz.prog D8g [.agg b.enc] [] (sB (A7n b)) []:=by
 refine en1 hm A4 Tryz.func226 rfl rfl ?_;have:=D91
 have:=B7e
 have:=D29
 have:=A7n.eq_1 b;exact D1
def A52(b:Body):Bool:=let v2:=(A0u b.Transform);if(((((!(inR b.ID 1 1099511627776))||(!v2))||(!(inR b.Velocity.X (-16777216) 16777216)))||(!(inR b.Velocity.Y (-16777216) 16777216)))||(!(inR b.AngularVelocity (-4194304) 4194304)))=true then(false)else(if(((!(inR b.Force.X (-536870911) 536870911))||(!(inR b.Force.Y (-536870911) 536870911)))||(!(inR b.Torque (-536870911) 536870911)))=true then(false)else(((((inR b.LinearDamping 0 65536)&&(inR b.AngularDamping 0 65536))&&(inR b.GravityScale (-262144) 262144))&&(inR b.IdleSteps 0 1048576))))
theorem E2o(b:Body):A1 Tryz.prog E1x [.agg b.enc] [] (sB (A52 b)) []:=by
 refine en1 hm A4 Tryz.func132 rfl rfl ?_;have:=E5r
 have:=E7r
 have:=A52.eq_1 b;exact D1
def O4(k:Int):Int×Int:=if(k==1)=true then((0,268435456))else(if(k==2)=true then(((-205888),205888))else(((-268435456),268435456)))
theorem B6n(k:Int):A1 Tryz.prog C76 [sI k] [] (.tup [sI ((O4 k).1),sI ((O4 k).2)]) []:=by refine enT hm A4 Tryz.func361 rfl rfl ?_;have:=O4.eq_1 k;exact D1
def N7(v:Vec)(limit:Int):Bool:=((inR v.X (IntKind.i64.wrap (0-limit)) limit)&&(inR v.Y (IntKind.i64.wrap (0-limit)) limit))
theorem A5c(v:Vec)(limit:Int):A1 Tryz.prog C4i [.agg v.enc,sI limit] [] (sB (N7 v limit)) []:=by
 refine en1 hm A4 Tryz.func363 rfl rfl ?_;have:=I8
 have:=N7.eq_1 v limit;exact D1
def A5r(j:Joint):Bool:=if(j.Kind==5)=true then(((j.BodyA==0)&&(inR j.BodyB 1 1099511627776)))else((((inR j.BodyA 1 1099511627776)&&(inR j.BodyB 1 1099511627776))&&(j.BodyA != j.BodyB)))
theorem C7l(j:Joint):A1 Tryz.prog C63 [.agg j.enc] [] (sB (A5r j)) []:=by
 refine en1 hm A4 Tryz.func230 rfl rfl ?_;have:=I8
 have:=A5r.eq_1 j;exact D1
def A46(j:Joint):Bool:=if(j.Kind==3)=true then(let v1:=(A4k j.Axis);(!(inR v1 65520 65552)))else(if(j.Kind==1)=true then((((!((j.Axis.X==0)&&(j.Axis.Y==0)))||j.EnableMotor)||(!j.EnableLimit)))else(if(j.Kind==4)=true then((((!((j.Axis.X==0)&&(j.Axis.Y==0)))||j.EnableMotor)||j.EnableLimit))else(if(j.Kind==5)=true then((((!((j.Axis.X==0)&&(j.Axis.Y==0)))||j.EnableMotor)||j.EnableLimit))else((!((j.Axis.X==0)&&(j.Axis.Y==0)))))))
theorem C5s(j:Joint):A1 Tryz.prog C4h [.agg j.enc] [] (sB (A46 j)) []:=by
 refine en1 hm A4 Tryz.func231 rfl rfl ?_;have:=V0
 have:=I8
 have:=A46.eq_1 j;exact D1
def Y2(v:Vec)(m:Int):Bool:=((inR v.X (IntKind.i64.wrap (0-m)) m)&&(inR v.Y (IntKind.i64.wrap (0-m)) m))
theorem B0z(v:Vec)(m:Int):A1 Tryz.prog D8r [.agg v.enc,sI m] [] (sB (Y2 v m)) []:=by
 refine en1 hm A4 Tryz.func222 rfl rfl ?_;have:=O6
 have:=Y2.eq_1 v m;exact D1
def A0r(j:Joint):Bool:=if(((!(inR j.Lower (-268435456) 268435456))||(!(inR j.Upper (-268435456) 268435456)))||(decide (j.Upper<j.Lower)))=true then(false)else(if(j.Kind==1)=true then((decide (0<=j.Lower)))else(((j.Kind != 2)||((decide ((-205888)<=j.Lower))&&(decide (j.Upper<=205888))))))
theorem B7p(j:Joint):A1 Tryz.prog D2h [.agg j.enc] [] (sB (A0r j)) []:=by
 refine en1 hm A4 Tryz.func223 rfl rfl ?_;have:=O6
 have:=A0r.eq_1 j;exact D1
def A47(a:PairKey)(b:PairKey):Bool:=if(a.BodyA != b.BodyA)=true then((decide (a.BodyA<b.BodyA)))else(if(a.FixtureA != b.FixtureA)=true then((decide (a.FixtureA<b.FixtureA)))else(if(a.BodyB != b.BodyB)=true then((decide (a.BodyB<b.BodyB)))else((decide (a.FixtureB<b.FixtureB)))))
theorem F1k(a:PairKey)(b:PairKey):A1 Tryz.prog E9r [.agg a.enc, .agg b.enc] [] (sB (A47 a b)) []:=by refine en1 hm A4 Tryz.func137 rfl rfl ?_;have:=A47.eq_1 a b;exact D1
def A2w(v:Vec):Bool:=((inR v.X (-536870911) 536870911)&&(inR v.Y (-536870911) 536870911))
theorem C08(v:Vec):A1 Tryz.prog D6g [.agg v.enc] [] (sB (A2w v)) []:=by
 refine en1 hm A4 Tryz.func139 rfl rfl ?_;have:=C5w
 have:=A2w.eq_1 v;exact D1
end Go.Abs
end
