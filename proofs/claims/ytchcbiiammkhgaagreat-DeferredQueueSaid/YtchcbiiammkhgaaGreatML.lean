/- A part of the proof: contracts of functions that the statement reaches. -/
import Derived.Test.YtchcbiiammkhgaaGreatMK
set_option linter.unusedSimpArgs false
set_option linter.unusedVariables false
set_option linter.unnecessarySimpa false
set_option maxRecDepth 100000
set_option maxHeartbeats 2000000
noncomputable section
namespace Go.Abs
open Go.Proofs
open Api
theorem E1h(s:Shape):E7 s=0->(1<=s.Kind/\s.Kind<=3)/\(s.Kind=1->s.Vertices.length=1)/\(s.Kind=2->s.Vertices.length=2)/\(s.Kind≠1->s.Kind≠2->3<=s.Vertices.length)/\s.Vertices.length<=8:=by
 intro h;unfold E7 at h;split at h
 ·cases h
 ·rename_i h1;simp only at h;split at h
  ·cases h
  ·rename_i h2;clear h;unfold Z0 at h2;simp only[Bool.or_eq_true,decide_eq_true_eq,not_or]at h1
   (repeat' split at h2) <;> simp only[Bool.and_eq_true,Bool.not_eq_false,decide_eq_true_eq,beq_iff_eq]at* <;> omega
def B3y(a:List Vec)(i:Int):Vec×Bool:=if(((decide ((a.length:Int)<2))||(decide (i<0)))||(decide ((a.length:Int)<=i)))=true then(((⟨0,0⟩:Vec),false))else(let v1:=(M0 (a.getD ((IntKind.i64.wrap (i+1)).tmod (a.length:Int)).toNat default) (a.getD i.toNat default));(v1,true))
theorem D73(a:List Vec)(i:Int)(h0:a.length<=1048576):A1 Tryz.prog E9u [A2 2 Vec.enc default a,sI i] [] (.tup [.agg (B3y a i).1.enc,sB ((B3y a i).2)]) []:=by
 refine A63 33 [(4,some (some 2)),(5,none)] hm A4 Tryz.func490 rfl ?_;have:=K6
 have:=B3y.eq_1 a i;exact J1
def P8(a:List Vec)(i:Int):Vec:=let v1:=(B3y a i);if v1.2=false then((⟨0,0⟩:Vec))else(let v2:=(A3t (⟨v1.1.Y,(IntKind.i64.wrap (0-v1.1.X))⟩:Vec));v2)
theorem A5p(a:List Vec)(i:Int)(h0:a.length<=1048576):A1 Tryz.prog D4d [A2 2 Vec.enc default a,sI i] [] (.agg (P8 a i).enc) []:=by
 refine L5 23 [(4,some (some 2))] hm A4 Tryz.func389 rfl ?_;have:=λx1 x2=>cx_ (A5q ⟨x1,x2⟩)
 have:=D73
 have:=A5q
 have:=P8.eq_1 a i;exact D1
def A5t(a:List Vec)(i:Int):Vec:=let v1:=(B3y a i);if v1.2=false then((⟨0,0⟩:Vec))else(let v2:=(A3t v1.1);v2)
theorem C7p(a:List Vec)(i:Int)(h0:a.length<=1048576):A1 Tryz.prog C69 [A2 2 Vec.enc default a,sI i] [] (.agg (A5t a i).enc) []:=by
 refine L5 18 [(4,some (some 2))] hm A4 Tryz.func541 rfl ?_;have:=D73
 have:=A5q
 have:=A5t.eq_1 a i;exact D1
def A9e(n:Vec)(o:Vec)(b:List Vec)(i1:Nat)(s1:Int):Int:=let v1:=(M0 (b.getD i1 default) o);let v2:=(O8 n v1);if(((i1:Int)==0)||(decide (v2<s1)))=true then(v2)else(s1)
def B2l(n:Vec)(o:Vec)(b:List Vec):Int:=let s1:=itr (A9e n o b) b.length 0;s1
theorem D5s(n:Vec)(o:Vec)(b:List Vec)(h0:b.length<=1048576):A1 Tryz.prog D4e [.agg n.enc, .agg o.enc,A2 2 Vec.enc default b] [] (sI (B2l n o b)) []:=by
 refine en1 hm A4 Tryz.func489 rfl rfl ?_;have:=K6
 have:=A0a
 have:=B2l.eq_1 n o b
 have:=λi_ s_=>A9e.eq_1 n o b i_ s_
 have:=λx_ Q_ σ_=> @lp_ Tryz.prog Tryz.f489.ntmps [] x_ Q_ σ_ hm (λ_=>True) (λ_=>True) b.length (λi_=> [(2, .share,A2 2 Vec.enc default b),(3, .share, .ptr 64 0 0 1),(4, .share, .ptr 80 0 0 1),(7, .share,sI (itr (A9e n o b) i_ 0)),(11, .share,sI (b.length:Int)),(12, .share,sI (i_:Int))]) (λi_=> [(64, .box [sI n.X,sI n.Y]),(80, .box [sI o.X,sI o.Y])]) [] trivial (λ_ _=>trivial) (by simp[go_sem]) (by simp[go_sem,A6]) (by simp[go_sem]);exact A43
def Q4(a:List Vec)(b:List Vec)(i1:Nat)(s1:Int×Int):Int×Int:=let v1:=(P8 a (i1:Int));let v2:=(B2l v1 (a.getD i1 default) b);if((decide (s1.1<0))||(decide (s1.2<v2)))=true then(((i1:Int),v2))else((s1.1,s1.2))
def D2(a:List Vec)(b:List Vec):Int×Int:=if((decide ((a.length:Int)<2))||((b.length:Int)==0))=true then(((-1),0))else(let s1:=itr (Q4 a b) a.length ((-1),0);(s1.1,s1.2))
theorem B48(a:List Vec)(b:List Vec)(h0:a.length<=1048576)(h1:b.length<=1048576):A1 Tryz.prog C7a [A2 2 Vec.enc default a,A2 2 Vec.enc default b] [] (.tup [sI ((D2 a b).1),sI ((D2 a b).2)]) []:=by
 refine enT hm A4 Tryz.func388 rfl rfl ?_;have:=A5p
 have:=D5s
 have:=D2.eq_1 a b
 have:=λi_ s_=>Q4.eq_1 a b i_ s_
 have:=λx_ Q_ σ_=> @lp_ Tryz.prog Tryz.f388.ntmps [] x_ Q_ σ_ hm (λ_=>True) (λ_=>True) a.length (λi_=> [(0, .share,A2 2 Vec.enc default a),(1, .share,A2 2 Vec.enc default b),(6, .share,sI ((itr (Q4 a b) i_ ((-1),0)).1)),(7, .share,sI ((itr (Q4 a b) i_ ((-1),0)).2)),(19, .share,sI (a.length:Int)),(20, .share,sI (i_:Int))]) (λi_=> []) [] trivial (λ_ _=>trivial) (by simp[go_sem]) (by simp[go_sem,A6]) (by simp[go_sem]);exact J1
def A4t(b:List Vec)(n:Vec)(i1:Nat)(s1:Int×Int):Int×Int:=let v1:=(P8 b (i1:Int));let v2:=(O8 v1 n);if((decide (s1.1<0))||(decide (v2<s1.2)))=true then(((i1:Int),v2))else((s1.1,s1.2))
def A96(b:List Vec)(n:Vec):Int:=if(b.length:Int)<2 then((-1))else(let s1:=itr (A4t b n) b.length ((-1),0);s1.1)
theorem B6p(b:List Vec)(n:Vec)(h0:b.length<=1048576):A1 Tryz.prog C8m [A2 2 Vec.enc default b, .agg n.enc] [] (sI (A96 b n)) []:=by
 refine en1 hm A4 Tryz.func491 rfl rfl ?_;have:=A5p
 have:=A0a
 have:=A96.eq_1 b n
 have:=λi_ s_=>A4t.eq_1 b n i_ s_
 have:=λx_ Q_ σ_=> @lp_ Tryz.prog Tryz.f491.ntmps [] x_ Q_ σ_ hm (λ_=>True) (λ_=>True) b.length (λi_=> [(0, .share,A2 2 Vec.enc default b),(3, .share, .ptr 64 0 0 1),(5, .share,sI ((itr (A4t b n) i_ ((-1),0)).1)),(6, .share,sI ((itr (A4t b n) i_ ((-1),0)).2)),(13, .share,sI (b.length:Int)),(14, .share,sI (i_:Int))]) (λi_=> [(64, .box [sI n.X,sI n.Y])]) [] trivial (λ_ _=>trivial) (by simp[go_sem]) (by simp[go_sem,A6]) (by simp[go_sem]);exact J1
structure clip_Vertex where
 Point:Vec
 ID:Int
 deriving DecidableEq,Inhabited
def clip_Vertex.enc(x:clip_Vertex):List AV:=[sI x.Point.X,sI x.Point.Y,sI x.ID]
def clip_Vertex.zero:List AV:= [sI 0,sI 0,sI 0]
attribute [go_sem] clip_Vertex.enc clip_Vertex.zero
@[go_sem] theorem F7f(x:clip_Vertex):clip_Vertex.mk x.Point x.ID=x:=rfl
def B0s(s:clip_Vertex)(o:clip_Vertex)(d:Int)(by_:Int):clip_Vertex:=let v1:=(A8v d (IntKind.i64.wrap (d-by_)));let v2:=(A62 s.Point o.Point v1);(⟨v2,s.ID⟩:clip_Vertex)
theorem D93(s:clip_Vertex)(o:clip_Vertex)(d:Int)(by_:Int):A1 Tryz.prog D8h [.agg s.enc, .agg o.enc,sI d,sI by_] [] (.agg (B0s s o d by_).enc) []:=by
 refine L5 21 [(8,some (some 3))] hm A4 Tryz.func567 rfl ?_;have:=B7g
 have:=B16
 have:=B0s.eq_1 s o d by_;exact D1
def A09(l:List clip_Vertex)(o:Vec)(n:Vec):(List clip_Vertex):=if((l.length:Int) != 2)=true then(([]:List clip_Vertex))else(let v1:=(M0 (l.getD 0 default).Point o);let v2:=(O8 n v1);let v3:=(M0 (l.getD 1 default).Point o);let v4:=(O8 n v3);if((decide (0<v2))&&(decide (0<v4)))=true then(([]:List clip_Vertex))else(if 0<v2 then(let v5:=(B0s (l.getD 0 default) (l.getD 1 default) v2 v4);[v5,(l.getD 1 default)])else(if 0<v4 then(let v6:=(B0s (l.getD 1 default) (l.getD 0 default) v4 v2);[(l.getD 0 default),v6])else([(l.getD 0 default),(l.getD 1 default)]))))
theorem B9m(l:List clip_Vertex)(o:Vec)(n:Vec):A1 Tryz.prog D3z [A2 3 clip_Vertex.enc default l, .agg o.enc, .agg n.enc] [] (A2 3 clip_Vertex.enc default (A09 l o n)) []:=by
 refine en1 hm A4 Tryz.func542 rfl rfl ?_;have:=K6
 have:=A0a
 have:=D93
 have:=A09.eq_1 l o n;exact J1
theorem F8p(vs:List Vec):(O5 vs).1.length<=vs.length:=by have:=A7w (λs:(List I7)×Int=>s.1.length) 1 (f:=P7 vs) (λi s=>by unfold P7;simp) (vs.length-2) ([],0);unfold O5;simp only[List.length_nil]at this⊢;omega
def A3h(a:List Vec)(i:Int)(b:List Vec)(k:Int):(List clip_Vertex):=if((((((decide ((a.length:Int)<2))||(decide ((b.length:Int)<2)))||(decide (i<0)))||(decide (k<0)))||(decide ((a.length:Int)<=i)))||(decide ((b.length:Int)<=k)))=true then(([]:List clip_Vertex))else(let v1:=(A5t a i);let v2:=(A09 ([(⟨(b.getD k.toNat default),0⟩:clip_Vertex),(⟨(b.getD ((IntKind.i64.wrap (k+1)).tmod (b.length:Int)).toNat default),1⟩:clip_Vertex)]) (a.getD ((IntKind.i64.wrap (i+1)).tmod (a.length:Int)).toNat default) v1);let v3:=(R0 v1 (-65536));let v4:=(A09 v2 (a.getD i.toNat default) v3);v4)
theorem C6r(a:List Vec)(i:Int)(b:List Vec)(k:Int)(h0:a.length<=1048576)(h1:b.length<=1048576):A1 Tryz.prog E1n [A2 2 Vec.enc default a,sI i,A2 2 Vec.enc default b,sI k] [] (A2 3 clip_Vertex.enc default (A3h a i b k)) []:=by
 refine en1 hm A4 Tryz.func492 rfl rfl ?_;simp only[go_sem,go_sem_proc,C3,A9];by_cases h1:((((((decide ((a.length:Int)<2))||(decide ((b.length:Int)<2)))||(decide (i<0)))||(decide (k<0)))||(decide ((a.length:Int)<=i)))||(decide ((b.length:Int)<=k)))=true
 ·rw[if_pos h1];have hd:A3h a i b k=([]:List clip_Vertex):=by(simp only[A3h,h1,if_true,eq_self];done)
  try rw[hd]
  try simp only[go_sem,go_sem_proc]
  exact eO_
 ·rw[if_neg h1];refine A0 (C7p a i (by(assumption))) rfl ?_;generalize hv1:(A5t a i)=v1;simp only[go_sem,go_sem_proc]
  (repeat(with_reducible refine And.intro ?_ ?_;exact bO_))
  refine A5j (B9m ([(⟨(b.getD k.toNat default),0⟩:clip_Vertex),(⟨(b.getD ((IntKind.i64.wrap (k+1)).tmod (b.length:Int)).toNat default),1⟩:clip_Vertex)]) (a.getD ((IntKind.i64.wrap (i+1)).tmod (a.length:Int)).toNat default) v1) ?_
  (try simp only[A07,go_sem,go_sem_proc])
  (repeat(with_reducible refine And.intro ?_ ?_;focus (exact A2e (λ_ _=>rfl) rfl rfl rfl)))
  generalize hv2:(A09 ([(⟨(b.getD k.toNat default),0⟩:clip_Vertex),(⟨(b.getD ((IntKind.i64.wrap (k+1)).tmod (b.length:Int)).toNat default),1⟩:clip_Vertex)]) (a.getD ((IntKind.i64.wrap (i+1)).tmod (a.length:Int)).toNat default) v1)=v2
  (repeat(with_reducible refine And.intro ?_ ?_;exact bO_))
  refine A0 (A76 v1 (-65536)) rfl ?_;generalize hv3:(R0 v1 (-65536))=v3;simp only[go_sem,go_sem_proc];refine A0 (B9m v2 (a.getD i.toNat default) v3) rfl ?_;generalize hv4:(A09 v2 (a.getD i.toNat default) v3)=v4;simp only[go_sem,go_sem_proc];have hd:A3h a i b k=v4:=by(simp only[A3h,h1,hv1,hv2,hv3,hv4,if_false,eq_self,Bool.false_eq_true];done)
  try rw[hd]
  try simp only[go_sem,go_sem_proc]
def A4r(v2:(List I7)×Int)(i1:Nat)(s1:Int×Int):Int×Int:=((IntKind.i64.wrap (s1.1+(IntKind.i64.wrap ((IntKind.i64.wrap ((v2.1.getD i1 default).e.X+(v2.1.getD i1 default).f.X))*(v2.1.getD i1 default).cross)))),(IntKind.i64.wrap (s1.2+(IntKind.i64.wrap ((IntKind.i64.wrap ((v2.1.getD i1 default).e.Y+(v2.1.getD i1 default).f.Y))*(v2.1.getD i1 default).cross)))))
def I5(vs:List Vec):Vec:=let v1:=(I9 vs);if v1=false then((⟨0,0⟩:Vec))else(let v2:=(O5 vs);if(v2.2==0)=true then((vs.getD 0 default))else(let s1:=itr (A4r v2) v2.1.length (0,0);let v3:=(A1n s1.1 (IntKind.i64.wrap (3*v2.2)));let v4:=(A1n s1.2 (IntKind.i64.wrap (3*v2.2)));(⟨(IntKind.i64.wrap ((vs.getD 0 default).X+v3)),(IntKind.i64.wrap ((vs.getD 0 default).Y+v4))⟩:Vec)))
theorem D0k(vs:List Vec)(h0:vs.length<=1048576):A1 Tryz.prog C8e [A2 2 Vec.enc default vs] [] (.agg (I5 vs).enc) []:=by
 refine L5 73 [(2,some (some 2))] hm A4 Tryz.func549 rfl ?_;have:=F8p vs
 have:=B78 vs
 have:=A6x
 have:=C6t
 have:=P9
 have:=I5.eq_1 vs
 have:=λi_ s_=>A4r.eq_1 (O5 vs) i_ s_
 have:=λx_ Q_ σ_=> @lp_ Tryz.prog 73 [] x_ Q_ σ_ hm (λ_=>True) (λ_=>True) (O5 vs).1.length (λi_=> [(0, .share,A2 2 Vec.enc default vs),(2, .share, .ptr 48 0 0 1),(4, .share,sI ((O5 vs).2)),(5, .share,sI ((itr (A4r (O5 vs)) i_ (0,0)).1)),(6, .share,sI ((itr (A4r (O5 vs)) i_ (0,0)).2)),(23, .share,A2 5 I7.enc default (O5 vs).1),(24, .share,sI ((O5 vs).1.length:Int)),(25, .share,sI (i_:Int))]) (λi_=> [(48, .box [sI 0,sI 0])]) [] trivial (λ_ _=>trivial) (by simp[go_sem]) (by simp[go_sem,A6]) (by simp[go_sem]);exact J1
structure MassData where
 Mass:Int
 Center:Vec
 Inertia:Int
 deriving DecidableEq,Inhabited
def MassData.enc(x:MassData):List AV:=[sI x.Mass,sI x.Center.X,sI x.Center.Y,sI x.Inertia]
def MassData.zero:List AV:= [sI 0,sI 0,sI 0,sI 0]
attribute [go_sem] MassData.enc MassData.zero
@[go_sem] theorem G1b(x:MassData):MassData.mk x.Mass x.Center x.Inertia=x:=rfl
def A9d(s:Shape)(d:Int):MassData:=let v1:=(B5 s.Radius s.Radius);let v2:=(B5 205888 v1);let v3:=(B5 v2 d);let v4:=(A1n v1 2);let v5:=(B5 v3 v4);(⟨v3,(s.Vertices.getD 0 default),v5⟩:MassData)
theorem C7m(s:Shape)(d:Int)(h1:1<=s.Vertices.length):A1 Tryz.prog C65 [.agg s.enc,sI d] [] (.agg (A9d s d).enc) []:=by
 refine L5 26 [(4,some (some 4))] hm A4 Tryz.func513 rfl ?_;have:=L8
 have:=P9
 have:=A9d.eq_1 s d;exact D1
def A8g(s:Shape)(d:Int):MassData:=let v1:=(B5 s.Radius s.Radius);let v2:=(M0 (s.Vertices.getD 1 default) (s.Vertices.getD 0 default));let v3:=(A4k v2);let v4:=(B5 205888 v1);let v5:=(C7 s.Radius s.Radius);let v6:=(B5 v5 v3);let v7:=(C7 v4 v6);let v8:=(B5 v7 d);let v9:=(A1n v1 2);let v10:=(B5 v3 v3);let v11:=(A1n v10 12);let v12:=(C7 v9 v11);let v13:=(A62 (s.Vertices.getD 0 default) (s.Vertices.getD 1 default) 32768);let v14:=(B5 v8 v12);(⟨v8,v13,v14⟩:MassData)
theorem C5t(s:Shape)(d:Int)(h1:2<=s.Vertices.length):A1 Tryz.prog C4k [.agg s.enc,sI d] [] (.agg (A8g s d).enc) []:=by
 refine L5 59 [(4,some (some 4))] hm A4 Tryz.func514 rfl ?_;have:=L8
 have:=K6
 have:=V0
 have:=M9
 have:=P9
 have:=B16
 have:=A8g.eq_1 s d;exact D1
def Z3(s:Shape)(v3:Vec)(i1:Nat)(s1:Int×Int×Int×Int):Int×Int×Int×Int:=let v5:=(M0 (s.Vertices.getD i1 default) v3);let v6:=(A1d (⟨s1.2.2.1,s1.2.2.2⟩:Vec) v5);let v7:=(O8 (⟨s1.2.2.1,s1.2.2.2⟩:Vec) (⟨s1.2.2.1,s1.2.2.2⟩:Vec));let v8:=(O8 (⟨s1.2.2.1,s1.2.2.2⟩:Vec) v5);let v9:=(O8 v5 v5);((IntKind.i64.wrap (s1.1+(IntKind.i64.wrap (v6*(IntKind.i64.wrap ((IntKind.i64.wrap (v7+v8))+v9)))))),(IntKind.i64.wrap (s1.2.1+v6)),v5.X,v5.Y)
def A8h(s:Shape)(d:Int):MassData:=let v1:=(X9 s.Vertices);let v2:=(B5 v1 d);let v3:=(I5 s.Vertices);let v4:=(M0 (s.Vertices.getD (IntKind.i64.wrap ((s.Vertices.length:Int)-1)).toNat default) v3);let s1:=itr (Z3 s v3) s.Vertices.length (0,0,v4.X,v4.Y);if s1.2.1<1 then((⟨v2,v3,0⟩:MassData))else(let v10:=(A1n s1.1 s1.2.1);let v11:=(A1n v10 6);let v12:=(B5 v2 v11);(⟨v2,v3,v12⟩:MassData))
theorem C5u(s:Shape)(d:Int)(h1:1<=s.Vertices.length)(h0:s.Vertices.length<=1048576):A1 Tryz.prog C4l [.agg s.enc,sI d] [] (.agg (A8h s d).enc) []:=by
 refine L5 79 [(4,some (some 4))] hm A4 Tryz.func515 rfl ?_;have:=λx1 x2 x3=>cx_ (A75 ⟨x1,x2⟩ x3)
 have:=λx1 x2 x3 x4=>cx_ (A0a ⟨x1,x2⟩ ⟨x3,x4⟩)
 have:=λx1 x2 x3=>cx_ (A0a ⟨x1,x2⟩ x3)
 have:=C3x
 have:=L8
 have:=D0k
 have:=K6
 have:=A75
 have:=A0a
 have:=P9
 have:=A8h.eq_1 s d
 have:=λi_ s_=>Z3.eq_1 s (I5 s.Vertices) i_ s_
 have:=λx_ Q_ σ_=> @lp_ Tryz.prog 79 [] x_ Q_ σ_ hm (λ_=>True) (λ_=>True) s.Vertices.length (λi_=> [(4, .share, .ptr 80 0 0 1),(5, .share,sI (B5 (X9 s.Vertices) d)),(6, .share, .ptr 112 0 0 1),(7, .share,sI ((itr (Z3 s (I5 s.Vertices)) i_ (0,0,(M0 (s.Vertices.getD (IntKind.i64.wrap ((s.Vertices.length:Int)-1)).toNat default) (I5 s.Vertices)).X,(M0 (s.Vertices.getD (IntKind.i64.wrap ((s.Vertices.length:Int)-1)).toNat default) (I5 s.Vertices)).Y)).1)),(8, .share,sI ((itr (Z3 s (I5 s.Vertices)) i_ (0,0,(M0 (s.Vertices.getD (IntKind.i64.wrap ((s.Vertices.length:Int)-1)).toNat default) (I5 s.Vertices)).X,(M0 (s.Vertices.getD (IntKind.i64.wrap ((s.Vertices.length:Int)-1)).toNat default) (I5 s.Vertices)).Y)).2.1)),(9, .share, .ptr 160 0 0 1),(33, .share,A2 2 Vec.enc default s.Vertices),(34, .share,sI (s.Vertices.length:Int)),(35, .share,sI (i_:Int))]) (λi_=> [(80, .box [sI 0,sI 0,sI 0,sI 0]),(112, .box [sI ((I5 s.Vertices).X),sI ((I5 s.Vertices).Y)]),(160, .box [sI ((itr (Z3 s (I5 s.Vertices)) i_ (0,0,(M0 (s.Vertices.getD (IntKind.i64.wrap ((s.Vertices.length:Int)-1)).toNat default) (I5 s.Vertices)).X,(M0 (s.Vertices.getD (IntKind.i64.wrap ((s.Vertices.length:Int)-1)).toNat default) (I5 s.Vertices)).Y)).2.2.1),sI ((itr (Z3 s (I5 s.Vertices)) i_ (0,0,(M0 (s.Vertices.getD (IntKind.i64.wrap ((s.Vertices.length:Int)-1)).toNat default) (I5 s.Vertices)).X,(M0 (s.Vertices.getD (IntKind.i64.wrap ((s.Vertices.length:Int)-1)).toNat default) (I5 s.Vertices)).Y)).2.2.2)])]) [] trivial (λ_ _=>trivial) (by simp[go_sem]) (by simp[go_sem,A6]) (by simp[go_sem]);exact A43
def A94(s:Shape)(d:Int):MassData:=let v1:=(E7 s);if(((v1 != 0)||(decide (d<0)))||(decide (262144<d)))=true then((⟨0,(⟨0,0⟩:Vec),0⟩:MassData))else(if(s.Kind==1)=true then(let v2:=(A9d s d);v2)else(if(s.Kind==2)=true then(let v3:=(A8g s d);v3)else(let v4:=(A8h s d);v4)))
theorem D0j(s:Shape)(d:Int)(h0:s.Vertices.length<=1048576):A1 Tryz.prog C8d [.agg s.enc,sI d] [] (.agg (A94 s d).enc) []:=by
 refine L5 32 [(4,some (some 4))] hm A4 Tryz.func441 rfl ?_;have:=E1h s
 have:=A1j
 have:=C7m
 have:=C5t
 have:=C5u
 have:=A94.eq_1 s d;exact J1
def A2k(p:MassData):Bool:=(decide (p.Mass<0))
theorem C3v(p:MassData):A1 Tryz.prog B2y [.agg p.enc] [] (sB (A2k p)) []:=by refine en1 hm A4 Tryz.func517 rfl rfl ?_;have:=A2k.eq_1 p;exact D1
theorem B6w(l:List MassData)(f:FuncId)(first cap:List AV)(O:List (Nat×A5))(p:MassData->Bool)(hl:l.length<=4194304)(hO:okO O)
  (hids: ∀i∈(AV.fn (.func f) first cap).ids,(ofL O i).isSome)
  (hp: ∀x∈l,A1 Tryz.prog f (first++ [.agg x.enc]++cap) O (sB (p x)) O):
  A1 Tryz.prog B6e [A2 4 MassData.enc default l, .fn (.func f) first cap] O (sI (A48 default p l)) O:=by
 have hren:(AV.fn (.func f) first cap).ren id= .fn (.func f) first cap:=AV.ren_id _
 have hargs: ∀x:MassData,∀a∈first++ [.agg x.enc]++cap,∀i∈a.ids,(ofL O i).isSome:=λx a ha i hi=>by
  simp only[List.mem_append,List.mem_singleton]at ha;refine hids i ?_;simp only[AV.ids,List.mem_append];rcases ha with(ha |rfl) |ha
  ·obtain⟨k,hk⟩:=List.getElem?_of_mem ha;exact .inl (N3 hk i hi)
  ·simp[AV.ids,go_sem]at hi
  ·obtain⟨k,hk⟩:=List.getElem?_of_mem ha;exact .inr (N3 hk i hi)
 refine H8 hm A4 Tryz.func550 rfl rfl ?_;simp only[go_sem,go_sem_proc];refine B0 hm (ι:= {i:Nat // i<=l.length/\ ∀j,j<i->p (l.getD j default)=false}) (λi=> [(0, .share,A2 4 MassData.enc default l),(1, .share, .fn (.func f) first cap),(7, .share,sI l.length),(8, .share,sI i.1)])
  (λi=>O) (λi=>l.length-i.1) ⟨0,by omega,λj hj=>by omega⟩ ?_ ?_
 ·refine V9 hO rfl ?_;simp only[go_sem,go_sem_proc];exact⟨by rw[N1,N1],λi hi=>hids i hi⟩
 ·rintro⟨i,hi,hs⟩;simp only[go_sem,go_sem_proc];split
  ·rename_i hlt;have hlt:i<l.length:=by omega
   refine⟨(by(repeat' (with_reducible apply And.intro)) <;> omega),?_⟩;have hx:A1 Tryz.prog f (first++ .agg (l.getD i default).enc::cap) O (sB (p (l.getD i default))) O:=by have:=hp (l.getD i default) (B7 default hlt);rwa[List.append_assoc]at this
   refine W0 hx hO rfl (λa ha=>hargs (l.getD i default) a (by rw[List.append_assoc];exact ha)) rfl ?_;simp only[go_sem,go_sem_proc];cases hpx:p (l.getD i default)with
   |true=>rw[if_pos rfl];refine R3 [.share] rfl rfl hO (U8 hO) ?_;simp only[go_sem,go_sem_proc];exact(A86 hlt hs hpx).symm
   |false=>rw[if_neg (by simp)];refine A7 ⟨i+1,by omega,λj hj=>by rcases Nat.lt_succ_iff_lt_or_eq.1 hj with h |rfl;exact hs j h;exact hpx⟩ (by show l.length-(i+1)<l.length-i;omega) (V9 hO (U8 hO) ?_);simp only[go_sem,go_sem_proc];exact⟨by rw[N1,N1],λi hi=>hids i hi,(by rw[IntKind.wrap_i64];omega)⟩
  ·rename_i hge;refine R3 [.share] rfl rfl hO rfl ?_;simp only[go_sem,go_sem_proc];exact(A4j λj hj=>hs j (by omega)).symm
theorem B4l(l:List MassData)(f:FuncId)(first cap:List AV)(O:List (Nat×A5))(p:MassData->Bool)(hl:l.length<=4194304)(hO:okO O)
  (hids: ∀i∈(AV.fn (.func f) first cap).ids,(ofL O i).isSome)
  (hp: ∀x∈l,A1 Tryz.prog f (first++ [.agg x.enc]++cap) O (sB (p x)) O):
  A1 Tryz.prog B3p [A2 4 MassData.enc default l, .fn (.func f) first cap] O (sB (l.any p)) O:=by
 refine H8 hm A4 Tryz.func516 rfl rfl ?_;simp only[go_sem,go_sem_proc];refine W0 (B6w l f first cap O p hl hO hids hp) hO rfl ?_ rfl ?_
 ·intro a ha;simp only[List.mem_cons,List.not_mem_nil,or_false]at ha;rcases ha with rfl |rfl
  ·intro i hi;simp[AV.ids]at hi
  ·exact hids
 ·simp only[go_sem,go_sem_proc];refine R3 [.share] rfl rfl hO (U8 hO) ?_;simp only[go_sem,go_sem_proc];exact B9c p l
def A2i(ps:List MassData)(v5:Int)(v6:Int)(i2:Nat)(s2:Int):Int:=let v7:=(M0 (ps.getD i2 default).Center (⟨v5,v6⟩:Vec));let v8:=(C7 s2 (ps.getD i2 default).Inertia);let v9:=(O8 v7 v7);let v10:=(B5 (ps.getD i2 default).Mass v9);let v11:=(C7 v8 v10);v11
def A2j(ps:List MassData)(i3:Nat)(s3:Int):Int:=let v12:=(M0 (ps.getD i3 default).Center (⟨0,0⟩:Vec));let v13:=(C7 s3 (ps.getD i3 default).Inertia);let v14:=(O8 v12 v12);let v15:=(B5 (ps.getD i3 default).Mass v14);let v16:=(C7 v13 v15);v16
def U1(ps:List MassData)(i1:Nat)(s1:Int×Int×Int×Int):Int×Int×Int×Int:=let v2:=(C7 s1.2.2.2 (sat (ps.getD i1 default).Mass));((IntKind.i64.wrap (s1.1+(sat (ps.getD i1 default).Mass))),(IntKind.i64.wrap (s1.2.1+(IntKind.i64.wrap ((sat (ps.getD i1 default).Mass)*(sat (ps.getD i1 default).Center.X))))),(IntKind.i64.wrap (s1.2.2.1+(IntKind.i64.wrap ((sat (ps.getD i1 default).Mass)*(sat (ps.getD i1 default).Center.Y))))),v2)
def Y9(ps:List MassData):MassData:=if((decide (8<(ps.length:Int)))||(ps.any (λx=>(A2k x))))=true then((⟨0,(⟨0,0⟩:Vec),0⟩:MassData))else(let s1:=itr (U1 ps) ps.length (0,0,0,0);if 0<s1.1 then(let v5:=(A1n s1.2.1 s1.1);let v6:=(A1n s1.2.2.1 s1.1);let s2:=itr (A2i ps v5 v6) ps.length 0;(⟨s1.2.2.2,(⟨v5,v6⟩:Vec),s2⟩:MassData))else(let s3:=itr (A2j ps) ps.length 0;(⟨s1.2.2.2,(⟨0,0⟩:Vec),s3⟩:MassData)))
theorem D0h(ps:List MassData)(h0:ps.length<=1048576):A1 Tryz.prog C8b [A2 4 MassData.enc default ps] [] (.agg (Y9 ps).enc) []:=by
 refine L5 91 [(2,some (some 4))] hm A4 Tryz.func442 rfl ?_;simp only[go_sem,go_sem_proc];refine A0 (B4l ps B2y [] [] [] (λx=>(A2k x)) (by(omega)) D1v (by simp[AV.ids,F4]) (λx _=>C3v x)) rfl ?_;simp only[go_sem,go_sem_proc,C3];by_cases h1:((decide (8<(ps.length:Int)))||(ps.any (λx=>(A2k x))))=true
 ·rw[if_pos h1];have hd:Y9 ps=(⟨0,(⟨0,0⟩:Vec),0⟩:MassData):=by(simp only[Y9,h1,if_true,eq_self];done)
  try rw[hd]
  try simp only[go_sem,go_sem_proc]
 ·rw[if_neg h1];refine B0 hm (ι:= {i:Nat // i<=ps.length}) (λi=> [(0, .share,A2 4 MassData.enc default ps),(2, .share, .ptr 48 0 0 1),(3, .share, .ptr 64 0 0 1),(4, .share,sI ((itr (U1 ps) i.1 (0,0,0,0)).1)),(5, .share,sI ((itr (U1 ps) i.1 (0,0,0,0)).2.1)),(6, .share,sI ((itr (U1 ps) i.1 (0,0,0,0)).2.2.1)),(21, .share,A2 4 MassData.enc default ps),(22, .share,sI (ps.length:Int)),(23, .share,sI (i.1:Int))]) (λi=> [(48, .box [sI 0,sI 0,sI 0,sI 0]),(64, .box [sI ((itr (U1 ps) i.1 (0,0,0,0)).2.2.2),sI 0,sI 0,sI 0])]) (λi=>ps.length-i.1) ⟨0,by omega⟩ ?_ ?_
  ·refine B6 [] [] (by simp[go_sem]) (by simp[A6,go_sem]) (by simp[go_sem]) ?_;simp only[go_sem,go_sem_proc,H3]
  ·rintro⟨i1,hi1⟩;dsimp only;generalize hs1:itr (U1 ps) i1 (0,0,0,0)=s1;simp only[go_sem,go_sem_proc];by_cases h2:(i1:Int)<(ps.length:Int)
   ·rw[if_pos h2];have hlt1:i1<ps.length:=by omega
    (repeat(with_reducible refine And.intro ?_ ?_;exact bO_))
    refine A0 (J7 (ps.getD i1 default).Mass) rfl ?_;simp only[go_sem,go_sem_proc];refine A0 (M9 s1.2.2.2 (sat (ps.getD i1 default).Mass)) rfl ?_;generalize hv2:(C7 s1.2.2.2 (sat (ps.getD i1 default).Mass))=v2;simp only[go_sem,go_sem_proc];refine A0 (J7 (ps.getD i1 default).Center.X) rfl ?_;simp only[go_sem,go_sem_proc];refine A0 (J7 (ps.getD i1 default).Center.Y) rfl ?_;simp only[go_sem,go_sem_proc];have hn:itr (U1 ps) (i1+1) (0,0,0,0)=((IntKind.i64.wrap (s1.1+(sat (ps.getD i1 default).Mass))),(IntKind.i64.wrap (s1.2.1+(IntKind.i64.wrap ((sat (ps.getD i1 default).Mass)*(sat (ps.getD i1 default).Center.X))))),(IntKind.i64.wrap (s1.2.2.1+(IntKind.i64.wrap ((sat (ps.getD i1 default).Mass)*(sat (ps.getD i1 default).Center.Y))))),v2):=by rw[E4,hs1];(simp only[U1,hv2,eq_self];done)
    refine A7 ⟨i1+1,by omega⟩ (by show ps.length-(i1+1)<ps.length-i1;omega) (B6 [] [] (by simp[go_sem]) (by simp[A6,go_sem]) (by simp[go_sem]) ?_);simp only[go_sem,go_sem_proc,hn];exact eO_
   ·rw[if_neg h2];have hge:i1=ps.length:=by omega
    subst hge;by_cases h3:0<s1.1
    ·rw[if_pos h3];refine A0 (P9 s1.2.1 s1.1) rfl ?_;generalize hv5:(A1n s1.2.1 s1.1)=v5;simp only[go_sem,go_sem_proc];refine A0 (P9 s1.2.2.1 s1.1) rfl ?_;generalize hv6:(A1n s1.2.2.1 s1.1)=v6;simp only[go_sem,go_sem_proc];refine B0 hm (ι:= {i:Nat // i<=ps.length}) (λi=> [(2, .share, .ptr 48 0 0 1),(3, .share, .ptr 64 0 0 1),(65, .share,A2 4 MassData.enc default ps),(66, .share,sI (ps.length:Int)),(67, .share,sI (i.1:Int))]) (λi=> [(48, .box [sI 0,sI 0,sI 0,sI 0]),(64, .box [sI s1.2.2.2,sI v5,sI v6,sI (itr (A2i ps v5 v6) i.1 0)])]) (λi=>ps.length-i.1) ⟨0,by omega⟩ ?_ ?_
     ·refine B6 [] [] (by simp[go_sem]) (by simp[A6,go_sem]) (by simp[go_sem]) ?_;simp only[go_sem,go_sem_proc,H3]
     ·rintro⟨i2,hi2⟩;dsimp only;generalize hs2:itr (A2i ps v5 v6) i2 0=s2;simp only[go_sem,go_sem_proc];by_cases h4:(i2:Int)<(ps.length:Int)
      ·rw[if_pos h4];have hlt2:i2<ps.length:=by omega
       (repeat(with_reducible refine And.intro ?_ ?_;exact bO_))
       refine A0 (K6 (ps.getD i2 default).Center (⟨v5,v6⟩:Vec)) rfl ?_;generalize hv7:(M0 (ps.getD i2 default).Center (⟨v5,v6⟩:Vec))=v7;simp only[go_sem,go_sem_proc];refine A0 (M9 s2 (ps.getD i2 default).Inertia) rfl ?_;generalize hv8:(C7 s2 (ps.getD i2 default).Inertia)=v8;simp only[go_sem,go_sem_proc];refine A0 (A0a v7 v7) rfl ?_;generalize hv9:(O8 v7 v7)=v9;simp only[go_sem,go_sem_proc];refine A0 (L8 (ps.getD i2 default).Mass v9) rfl ?_;generalize hv10:(B5 (ps.getD i2 default).Mass v9)=v10;simp only[go_sem,go_sem_proc];refine A0 (M9 v8 v10) rfl ?_;generalize hv11:(C7 v8 v10)=v11;simp only[go_sem,go_sem_proc];have hn:itr (A2i ps v5 v6) (i2+1) 0=v11:=by rw[E4,hs2];(simp only[A2i,hv7,hv8,hv9,hv10,hv11,eq_self];done)
       refine A7 ⟨i2+1,by omega⟩ (by show ps.length-(i2+1)<ps.length-i2;omega) (B6 [] [] (by simp[go_sem]) (by simp[A6,go_sem]) (by simp[go_sem]) ?_);simp only[go_sem,go_sem_proc,hn];exact eO_
      ·rw[if_neg h4];have hge:i2=ps.length:=by omega
       subst hge;have hd:Y9 ps=(⟨s1.2.2.2,(⟨v5,v6⟩:Vec),s2⟩:MassData):=by(simp only[Y9,h1,hs1,h3,hv5,hv6,hs2,if_true,if_false,eq_self,Bool.false_eq_true];done)
       try rw[hd]
       try simp only[go_sem,go_sem_proc]
    ·rw[if_neg h3];refine B0 hm (ι:= {i:Nat // i<=ps.length}) (λi=> [(2, .share, .ptr 48 0 0 1),(3, .share, .ptr 64 0 0 1),(65, .share,A2 4 MassData.enc default ps),(66, .share,sI (ps.length:Int)),(67, .share,sI (i.1:Int))]) (λi=> [(48, .box [sI 0,sI 0,sI 0,sI 0]),(64, .box [sI s1.2.2.2,sI 0,sI 0,sI (itr (A2j ps) i.1 0)])]) (λi=>ps.length-i.1) ⟨0,by omega⟩ ?_ ?_
     ·refine B6 [] [] (by simp[go_sem]) (by simp[A6,go_sem]) (by simp[go_sem]) ?_;simp only[go_sem,go_sem_proc,H3]
     ·rintro⟨i3,hi3⟩;dsimp only;generalize hs3:itr (A2j ps) i3 0=s3;simp only[go_sem,go_sem_proc];by_cases h5:(i3:Int)<(ps.length:Int)
      ·rw[if_pos h5];have hlt3:i3<ps.length:=by omega
       (repeat(with_reducible refine And.intro ?_ ?_;exact bO_))
       refine A0 (K6 (ps.getD i3 default).Center (⟨0,0⟩:Vec)) rfl ?_;generalize hv12:(M0 (ps.getD i3 default).Center (⟨0,0⟩:Vec))=v12;simp only[go_sem,go_sem_proc];refine A0 (M9 s3 (ps.getD i3 default).Inertia) rfl ?_;generalize hv13:(C7 s3 (ps.getD i3 default).Inertia)=v13;simp only[go_sem,go_sem_proc];refine A0 (A0a v12 v12) rfl ?_;generalize hv14:(O8 v12 v12)=v14;simp only[go_sem,go_sem_proc];refine A0 (L8 (ps.getD i3 default).Mass v14) rfl ?_;generalize hv15:(B5 (ps.getD i3 default).Mass v14)=v15;simp only[go_sem,go_sem_proc];refine A0 (M9 v13 v15) rfl ?_;generalize hv16:(C7 v13 v15)=v16;simp only[go_sem,go_sem_proc];have hn:itr (A2j ps) (i3+1) 0=v16:=by rw[E4,hs3];(simp only[A2j,hv12,hv13,hv14,hv15,hv16,eq_self];done)
       refine A7 ⟨i3+1,by omega⟩ (by show ps.length-(i3+1)<ps.length-i3;omega) (B6 [] [] (by simp[go_sem]) (by simp[A6,go_sem]) (by simp[go_sem]) ?_);simp only[go_sem,go_sem_proc,hn];exact eO_
      ·rw[if_neg h5];have hge:i3=ps.length:=by omega
       subst hge;have hd:Y9 ps=(⟨s1.2.2.2,(⟨0,0⟩:Vec),s3⟩:MassData):=by(simp only[Y9,h1,hs1,h3,hs3,if_false,eq_self,Bool.false_eq_true];done)
       try rw[hd]
       try simp only[go_sem,go_sem_proc]
def T9(fs:List Fixture)(i1:Nat)(s1:(List MassData)):(List MassData):=if(fs.getD i1 default).Sensor=false then(let v1:=(A94 (fs.getD i1 default).Shape (fs.getD i1 default).Density);(s1++ [v1]))else(s1)
def A7o(fs:List Fixture):MassData:=if 4<(fs.length:Int)then((⟨0,(⟨0,0⟩:Vec),0⟩:MassData))else(let s1:=itr (T9 fs) fs.length [];let v2:=(Y9 s1);v2)
theorem C3w(fs:List Fixture)(h0: ∀f∈fs,f.Shape.Vertices.length<=1048576):A1 Tryz.prog C22 [A2 10 Fixture.enc default fs] [] (.agg (A7o fs).enc) []:=by
 refine L5 30 [(2,some (some 4))] hm A4 Tryz.func320 rfl ?_;have:=D0j
 have:=D0h
 have:=A7o.eq_1 fs
 have:=λi_ s_=>T9.eq_1 fs i_ s_
 have:=λx_ Q_ σ_=> @lp_ Tryz.prog 30 [] x_ Q_ σ_ hm (λ_=>True) (λi_=>((itr (T9 fs) i_ [])).length<=0+1*i_) fs.length (λi_=> [(2, .share, .ptr 48 0 0 1),(3,if i_=0 then .adopt else .share, .sl 1003 0 (itr (T9 fs) i_ []).length (itr (T9 fs) i_ []).length),(10, .share,A2 10 Fixture.enc default fs),(11, .share,sI (fs.length:Int)),(12, .share,sI (i_:Int))]) (λi_=> [(48, .box [sI 0,sI 0,sI 0,sI 0]),(1003, .arr 4 (A8 MassData.enc default (itr (T9 fs) i_ [])))]) [1003] trivial (λi_ hI_=>A7w (λs:(List MassData)=>(s).length) 1 (λi s=>by(unfold T9;(repeat' split) <;> simp <;> omega)) i_ _) (by simp[go_sem]) (by simp[go_sem,A6]) (by simp[go_sem]);exact J1
def A6e(b:Body):MassData:=let v1:=(A7o b.Fixtures);v1
theorem B4a(b:Body)(h0: ∀f∈b.Fixtures,f.Shape.Vertices.length<=1048576):A1 Tryz.prog D53 [.agg b.enc] [] (.agg (A6e b).enc) []:=by
 refine L5 6 [(2,some (some 4))] hm A4 Tryz.func194 rfl ?_;have:=C3w
 have:=A6e.eq_1 b;exact D1
def E5(b:Body):Vec:=let v1:=(A6e b);let v2:=(X4 b.Transform v1.Center);v2
theorem A6u(b:Body)(h0: ∀f∈b.Fixtures,f.Shape.Vertices.length<=1048576):A1 Tryz.prog C7y [.agg b.enc] [] (.agg (E5 b).enc) []:=by
 refine L5 9 [(2,some (some 2))] hm A4 Tryz.func308 rfl ?_;have:=B4a
 have:=A7h
 have:=E5.eq_1 b;exact D1
def A6i(m:MassData)(k:Int)(f:Bool):Int×Int:=if(k != 3)=true then((0,0))else(if 0<m.Mass then(let v1:=(Y6 65536 m.Mass);if((decide (0<m.Inertia))&&(!f))=true then(let v2:=(Y6 65536 m.Inertia);(v1,v2))else((v1,0)))else(if((decide (0<m.Inertia))&&(!f))=true then(let v3:=(Y6 65536 m.Inertia);(65536,v3))else((65536,0))))
theorem D0i(m:MassData)(k:Int)(f:Bool):A1 Tryz.prog C8c [.agg m.enc,sI k,sB f] [] (.tup [sI ((A6i m k f).1),sI ((A6i m k f).2)]) []:=by
 refine enT hm A4 Tryz.func301 rfl rfl ?_;have:=A68
 have:=A6i.eq_1 m k f;exact D1
def A3c(b:Body):SolverBody:=let v1:=(A6e b);let v2:=(A6i v1 b.Kind b.FixedRotation);(⟨b.Velocity,b.AngularVelocity,v2.1,v2.2⟩:SolverBody)
theorem B7n(b:Body)(h0: ∀f∈b.Fixtures,f.Shape.Vertices.length<=1048576):A1 Tryz.prog D17 [.agg b.enc] [] (.agg (A3c b).enc) []:=by
 refine L5 22 [(2,some (some 5))] hm A4 Tryz.func180 rfl ?_;have:=B4a
 have:=D0i
 have:=A3c.eq_1 b;exact D1
def A2s(b:Body):Body:=let v1:=(Q0 b.Velocity.X (-16777216) 16777216);let v2:=(Q0 b.Velocity.Y (-16777216) 16777216);let v3:=(Q0 b.AngularVelocity (-4194304) 4194304);(⟨b.ID,b.Kind,b.Transform,(⟨v1,v2⟩:Vec),v3,b.Force,b.Torque,b.LinearDamping,b.AngularDamping,b.GravityScale,b.Bullet,b.FixedRotation,b.NoSleep,b.Asleep,b.IdleSteps,b.Fixtures⟩:Body)
theorem A8p(b:Body):A1 Tryz.prog C4c [.agg b.enc] [] (.agg (A2s b).enc) []:=by
 refine L5 20 [(2,some (some 20))] hm A4 Tryz.func110 rfl ?_;have:=A4x
 have:=A2s.eq_1 b;exact D1
def V1(b:Body)(s:Settings):Body:=if((b.Kind != 3)||b.Asleep)=true then(b)else(let v1:=(A3c b);let v2:=(R0 s.Gravity b.GravityScale);let v3:=(R0 v2 s.TimeStep);let v4:=(A18 b.Velocity v3);let v5:=(R0 b.Force v1.InvMass);let v6:=(R0 v5 s.TimeStep);let v7:=(A18 v4 v6);let v8:=(B5 b.LinearDamping s.TimeStep);let v9:=(R0 v7 v8);let v10:=(M0 v7 v9);let v11:=(B5 b.Torque v1.InvInertia);let v12:=(B5 v11 s.TimeStep);let v13:=(C7 b.AngularVelocity v12);let v14:=(B5 b.AngularDamping s.TimeStep);let v15:=(B5 v13 v14);let v16:=(sat (sat v13-sat v15));if b.FixedRotation=true then(let v17:=(A2s (⟨b.ID,b.Kind,b.Transform,v10,0,b.Force,b.Torque,b.LinearDamping,b.AngularDamping,b.GravityScale,b.Bullet,b.FixedRotation,b.NoSleep,b.Asleep,b.IdleSteps,b.Fixtures⟩:Body));v17)else(let v18:=(A2s (⟨b.ID,b.Kind,b.Transform,v10,v16,b.Force,b.Torque,b.LinearDamping,b.AngularDamping,b.GravityScale,b.Bullet,b.FixedRotation,b.NoSleep,b.Asleep,b.IdleSteps,b.Fixtures⟩:Body));v18))
theorem C5r(b:Body)(s:Settings)(h0: ∀f∈b.Fixtures,f.Shape.Vertices.length<=1048576):A1 Tryz.prog C4g [.agg b.enc, .agg s.enc] [] (.agg (V1 b s).enc) []:=by
 refine L5 73 [(4,some (some 20))] hm A4 Tryz.func179 rfl ?_;have:=λx1 x2 x3 x4 x5 x6 x7 x8 x9 x10 x11 x12 x13 x14 x15 x16 x17 x18 x19 x20=>cx_ (A8p ⟨x1,x2,⟨⟨x3,x4⟩,x5⟩,⟨x6,x7⟩,x8,⟨x9,x10⟩,x11,x12,x13,x14,x15,x16,x17,x18,x19,x20⟩)
 have:=B7n
 have:=A76
 have:=A5e
 have:=L8
 have:=K6
 have:=M9
 have:=Q9
 have:=A8p
 have:=V1.eq_1 b s;exact D1
def A3l(c:Int)(v:Int):Int×Int:=let v1:=(Q0 c (-268435456) 268435456);if(v1 != c)=true then((v1,0))else((c,v))
theorem C7j(c:Int)(v:Int):A1 Tryz.prog C61 [sI c,sI v] [] (.tup [sI ((A3l c v).1),sI ((A3l c v).2)]) []:=by
 refine enT hm A4 Tryz.func196 rfl rfl ?_;have:=A4x
 have:=A3l.eq_1 c v;exact D1
def Z7(b:Body)(dt:Int):Body:=if((b.Kind==1)||b.Asleep)=true then(b)else(let v1:=(A6e b);let v2:=(A7r b.Transform v1.Center b.Velocity b.AngularVelocity dt);let v3:=(A3l v2.Position.X b.Velocity.X);let v4:=(A3l v2.Position.Y b.Velocity.Y);(⟨b.ID,b.Kind,(⟨(⟨v3.1,v4.1⟩:Vec),v2.Angle⟩:Transform),(⟨v3.2,v4.2⟩:Vec),b.AngularVelocity,b.Force,b.Torque,b.LinearDamping,b.AngularDamping,b.GravityScale,b.Bullet,b.FixedRotation,b.NoSleep,b.Asleep,b.IdleSteps,b.Fixtures⟩:Body))
theorem C5q(b:Body)(dt:Int)(h0: ∀f∈b.Fixtures,f.Shape.Vertices.length<=1048576):A1 Tryz.prog C4f [.agg b.enc,sI dt] [] (.agg (Z7 b dt).enc) []:=by
 refine L5 69 [(4,some (some 20))] hm A4 Tryz.func116 rfl ?_;have:=B4a
 have:=C36
 have:=C7j
 have:=Z7.eq_1 b dt;exact D1
def H2(b:Body):Body:=(⟨b.ID,b.Kind,b.Transform,b.Velocity,b.AngularVelocity,(⟨0,0⟩:Vec),0,b.LinearDamping,b.AngularDamping,b.GravityScale,b.Bullet,b.FixedRotation,b.NoSleep,b.Asleep,b.IdleSteps,b.Fixtures⟩:Body)
theorem B98(b:Body):A1 Tryz.prog A5x [.agg b.enc] [] (.agg (H2 b).enc) []:=by refine L5 7 [(2,some (some 20))] hm A4 Tryz.func120 rfl ?_;have:=H2.eq_1 b;exact D1
theorem D3w(s:Shape)(p:Transform)(h:E7 s=0):1<=(E8 s p).length/\(s.Kind=1->(E8 s p).length=1)/\(s.Kind=2->(E8 s p).length=2)/\(s.Kind≠1->s.Kind≠2->3<=(E8 s p).length)/\(E8 s p).length<=8:=by
 have:=E1h s h
 have:=E1i s p;rw[if_pos h]at this;rw[this];by_cases h1:s.Kind=1 <;> by_cases h2:s.Kind=2 <;> simp_all <;> omega
structure F6 where
 from_:Vec
 to:Vec
 deriving DecidableEq,Inhabited
def F6.enc(x:F6):List AV:=[sI x.from_.X,sI x.from_.Y,sI x.to.X,sI x.to.Y]
def F6.zero:List AV:= [sI 0,sI 0,sI 0,sI 0]
attribute [go_sem] F6.enc F6.zero
@[go_sem] theorem F4o(x:F6):F6.mk x.from_ x.to=x:=rfl
def U0(c:List Vec)(i1:Nat)(s1:(List F6)):(List F6):=(s1++ [(⟨(c.getD i1 default),(c.getD ((IntKind.i64.wrap ((i1:Int)+1)).tmod (c.length:Int)).toNat default)⟩:F6)])
def A3r(k:Int)(c:List Vec):(List F6):=if(k==1)=true then([(⟨(c.getD 0 default),(c.getD 0 default)⟩:F6)])else(if(k==2)=true then([(⟨(c.getD 0 default),(c.getD 1 default)⟩:F6)])else(if(k==3)=true then(let s1:=itr (U0 c) c.length [];s1)else(([]:List F6))))
theorem D5n(k:Int)(c:List Vec)(h1:k=1->1<=c.length)(h2:k=2->2<=c.length)(h0:c.length<=1048576):A1 Tryz.prog D33 [sI k,A2 2 Vec.enc default c] [] (A2 4 F6.enc default (A3r k c)) []:=by
 refine en1 hm A4 Tryz.func449 rfl rfl ?_;have:=A3r.eq_1 k c
 have:=λi_ s_=>U0.eq_1 c i_ s_
 have:=λx_ Q_ σ_=> @lp_ Tryz.prog Tryz.f449.ntmps [] x_ Q_ σ_ hm (λ_=>True) (λi_=>((itr (U0 c) i_ [])).length<=0+1*i_) c.length (λi_=> [(1, .share,A2 2 Vec.enc default c),(5,if i_=0 then .adopt else .share, .sl 1005 0 (itr (U0 c) i_ []).length (itr (U0 c) i_ []).length),(35, .share,A2 2 Vec.enc default c),(36, .share,sI (c.length:Int)),(37, .share,sI (i_:Int))]) (λi_=> [(1005, .arr 4 (A8 F6.enc default (itr (U0 c) i_ [])))]) [1005] trivial (λi_ hI_=>A7w (λs:(List F6)=>(s).length) 1 (λi s=>by(unfold U0;(repeat' split) <;> simp <;> omega)) i_ _) (by simp[go_sem]) (by simp[go_sem,A6]) (by simp[go_sem]);exact J1
theorem E1f(k:Int)(c:List Vec):(A3r k c).length<=c.length+1:=by
 unfold A3r;simp only
 (repeat' split) <;> first |(simp;done) |skip
 have:=A7w (λs:List F6=>s.length) 1 (f:=U0 c) (λi s=>by unfold U0;simp) c.length [];simp only[List.length_nil]at this;omega
def A2h(a:List F6)(b:List F6)(i1:Nat)(i2:Nat)(s2:Int):Int:=let v1:=(A4h (a.getD i1 default).from_ (a.getD i1 default).to (b.getD i2 default).from_ (b.getD i2 default).to);(if v1<s2 then v1 else s2)
def A2g(a:List F6)(b:List F6)(i1:Nat)(s1:Int):Int:=let s2:=itr (A2h a b i1) b.length s1;s2
def A6g(a:List F6)(b:List F6):Int:=let s1:=itr (A2g a b) a.length 536870911;s1
theorem D0d(a:List F6)(b:List F6)(h0:a.length<=1048576)(h1:b.length<=1048576):A1 Tryz.prog C75 [A2 4 F6.enc default a,A2 4 F6.enc default b] [] (sI (A6g a b)) []:=by
 refine en1 hm A4 Tryz.func448 rfl rfl ?_;simp only[go_sem,go_sem_proc];refine B0 hm (ι:= {i:Nat // i<=a.length}) (λi=> [(1, .share,A2 4 F6.enc default b),(5, .share,sI (itr (A2g a b) i.1 536870911)),(10, .share,A2 4 F6.enc default a),(11, .share,sI (a.length:Int)),(12, .share,sI (i.1:Int))]) (λi=> []) (λi=>a.length-i.1) ⟨0,by omega⟩ ?_ ?_
 ·refine B6 [] [] (by simp[go_sem]) (by simp[A6,go_sem]) (by simp[go_sem]) ?_;simp only[go_sem,go_sem_proc,H3]
 ·rintro⟨i1,hi1⟩;dsimp only;generalize hs1:itr (A2g a b) i1 536870911=s1;simp only[go_sem,go_sem_proc];by_cases h1:(i1:Int)<(a.length:Int)
  ·rw[if_pos h1];have hlt1:i1<a.length:=by omega
   (repeat(with_reducible refine And.intro ?_ ?_;exact bO_))
   refine B0 hm (ι:= {i:Nat // i<=b.length}) (λi=> [(1, .share,A2 4 F6.enc default b),(5, .share,sI (itr (A2h a b i1) i.1 s1)),(7, .share, .ptr 128 0 0 1),(10, .share,A2 4 F6.enc default a),(11, .share,sI (a.length:Int)),(12, .share,sI (i1:Int)),(16, .share,A2 4 F6.enc default b),(17, .share,sI (b.length:Int)),(18, .share,sI (i.1:Int))]) (λi=> [(128, .box [sI ((a.getD i1 default).from_.X),sI ((a.getD i1 default).from_.Y),sI ((a.getD i1 default).to.X),sI ((a.getD i1 default).to.Y)])]) (λi=>b.length-i.1) ⟨0,by omega⟩ ?_ ?_
   ·refine B6 [] [] (by simp[go_sem]) (by simp[A6,go_sem]) (by simp[go_sem]) ?_;simp only[go_sem,go_sem_proc,H3]
   ·rintro⟨i2,hi2⟩;dsimp only;generalize hs2:itr (A2h a b i1) i2 s1=s2;simp only[go_sem,go_sem_proc];by_cases h2:(i2:Int)<(b.length:Int)
    ·rw[if_pos h2];have hlt2:i2<b.length:=by omega
     (repeat(with_reducible refine And.intro ?_ ?_;exact bO_))
     refine A0 (B6q (a.getD i1 default).from_ (a.getD i1 default).to (b.getD i2 default).from_ (b.getD i2 default).to) rfl ?_;generalize hv1:(A4h (a.getD i1 default).from_ (a.getD i1 default).to (b.getD i2 default).from_ (b.getD i2 default).to)=v1;simp only[go_sem,go_sem_proc];have hn:itr (A2h a b i1) (i2+1) s1=(if v1<s2 then v1 else s2):=by rw[E4,hs2];(simp only[A2h,hv1,eq_self];done)
     refine A7 ⟨i2+1,by omega⟩ (by show b.length-(i2+1)<b.length-i2;omega) (B6 [] [] (by simp[go_sem]) (by simp[A6,go_sem]) (by simp[go_sem]) ?_);simp only[go_sem,go_sem_proc,hn];exact eO_
    ·rw[if_neg h2];have hge:i2=b.length:=by omega
     subst hge;have hn:itr (A2g a b) (i1+1) 536870911=s2:=by rw[E4,hs1];(simp only[A2g,hs2,eq_self];done)
     refine A7 ⟨i1+1,by omega⟩ (by show a.length-(i1+1)<a.length-i1;omega) (B6 [] [] (by simp[go_sem]) (by simp[A6,go_sem]) (by simp[go_sem]) ?_);simp only[go_sem,go_sem_proc,hn];exact eO_
  ·rw[if_neg h1];have hge:i1=a.length:=by omega
   subst hge;have hd:A6g a b=s1:=by(simp only[A6g,hs1,eq_self];done)
   try rw[hd]
def A1a(s:Shape):Bool:=let v1:=(E7 s);(v1==0)
theorem B9p(s:Shape)(h0:s.Vertices.length<=1048576):A1 Tryz.prog D34 [.agg s.enc] [] (sB (A1a s)) []:=by
 refine en1 hm A4 Tryz.func336 rfl rfl ?_;have:=A1j
 have:=A1a.eq_1 s;exact D1
def J2(s:Shape)(t0:Transform)(t1:Transform):Int:=let v1:=(E7 s);if(v1 != 0)=true then(0)else(let v2:=(A0d t0.Angle t1.Angle);let v3:=(A0j s);let v4:=(B5 (if v2<(IntKind.i64.wrap (0-v2))then(IntKind.i64.wrap (0-v2))else v2) v3);let v5:=(M0 t1.Position t0.Position);let v6:=(A4k v5);let v7:=(C7 v6 v4);let v8:=(C7 v7 4);v8)
theorem D28(s:Shape)(t0:Transform)(t1:Transform)(h0:s.Vertices.length<=1048576):A1 Tryz.prog D2q [.agg s.enc, .agg t0.enc, .agg t1.enc] [] (sI (J2 s t0 t1)) []:=by
 refine en1 hm A4 Tryz.func554 rfl rfl ?_;have:=A1j
 have:=B9l
 have:=C2l
 have:=L8
 have:=K6
 have:=V0
 have:=M9
 have:=J2.eq_1 s t0 t1;exact J1
def K5(x:Int):Int:=let v1:=(A1n x 2);v1
theorem A9n(x:Int):A1 Tryz.prog D6a [sI x] [] (sI (K5 x)) []:=by
 refine en1 hm A4 Tryz.func386 rfl rfl ?_;have:=P9
 have:=K5.eq_1 x;exact D1
def S8(v:Vec)(f:Vec):Vec×Int:=let v1:=(A4k v);if(v1==0)=true then((f,0))else(let v2:=(A3t v);(v2,v1))
theorem B4d(v:Vec)(f:Vec):A1 Tryz.prog C4j [.agg v.enc, .agg f.enc] [] (.tup [.agg (S8 v f).1.enc,sI ((S8 v f).2)]) []:=by
 refine A63 15 [(4,some (some 2)),(5,none)] hm A4 Tryz.func384 rfl ?_;have:=V0
 have:=A5q
 have:=S8.eq_1 v f;exact J1
def A1m(c:List Vec)(p:Vec)(i1:Nat)(s1:Int×Int):Int×Int:=let v2:=(B2 (c.getD (i1+1) default) (c.getD ((IntKind.i64.wrap (((i1+1:Nat):Int)+1)).tmod (c.length:Int)).toNat default) p);let v3:=(A97 v2.1 p);let v4:=(A97 (⟨s1.1,s1.2⟩:Vec) p);if v3<v4 then((v2.1.X,v2.1.Y))else((s1.1,s1.2))
def W6(c:List Vec)(p:Vec):Vec:=let v1:=(B2 (c.getD 0 default) (c.getD 1 default) p);let s1:=itr (A1m c p) (c.length-1) (v1.1.X,v1.1.Y);(⟨s1.1,s1.2⟩:Vec)
theorem B8f(c:List Vec)(p:Vec)(h2:2<=c.length)(h0:c.length<=1048576):A1 Tryz.prog B7w [A2 2 Vec.enc default c, .agg p.enc] [] (.agg (W6 c p).enc) []:=by
 refine L5 53 [(4,some (some 2))] hm A4 Tryz.func390 rfl ?_;have:=λx1 x2 x3=>cx_ (W4 ⟨x1,x2⟩ x3)
 have:=B13
 have:=W4
 have:=W6.eq_1 c p
 have:=λi_ s_=>A1m.eq_1 c p i_ s_
 have:=λx_ Q_ σ_=> @lp_ Tryz.prog 53 [] x_ Q_ σ_ hm (λ_=>True) (λ_=>True) (c.length-1) (λi_=> [(0, .share,A2 2 Vec.enc default c),(3, .share, .ptr 64 0 0 1),(4, .share, .ptr 80 0 0 1),(5, .share, .ptr 96 0 0 1),(7, .share,sI ((i_+1:Nat):Int))]) (λi_=> [(64, .box [sI p.X,sI p.Y]),(80, .box [sI 0,sI 0]),(96, .box [sI ((itr (A1m c p) i_ ((B2 (c.getD 0 default) (c.getD 1 default) p).1.X,(B2 (c.getD 0 default) (c.getD 1 default) p).1.Y)).1),sI ((itr (A1m c p) i_ ((B2 (c.getD 0 default) (c.getD 1 default) p).1.X,(B2 (c.getD 0 default) (c.getD 1 default) p).1.Y)).2)])]) [] trivial (λ_ _=>trivial) (by simp[go_sem]) (by simp[go_sem,A6]) (by simp[go_sem]);exact J1
structure manifold_placed where
 core:List Vec
 radius:Int
 kind:Int
 deriving DecidableEq,Inhabited
def manifold_placed.enc(x:manifold_placed):List AV:=[A2 2 Vec.enc default x.core,sI x.radius,sI x.kind]
def manifold_placed.zero:List AV:= [.sc (.slice none 0 0),sI 0,sI 0]
attribute [go_sem] manifold_placed.enc manifold_placed.zero
@[go_sem] theorem F1z(x:manifold_placed):manifold_placed.mk x.core x.radius x.kind=x:=rfl
def J6(s:Shape)(t:Transform):manifold_placed:=let v1:=(E8 s t);(⟨v1,s.Radius,s.Kind⟩:manifold_placed)
theorem D5q(s:Shape)(t:Transform)(h0:s.Vertices.length<=1048576):A1 Tryz.prog D4a [.agg s.enc, .agg t.enc] [] (.agg (J6 s t).enc) []:=by
 refine L5 13 [(4,some (some 3))] hm A4 Tryz.func249 rfl ?_;have:=B9w s t
 have:=A8r
 have:=J6.eq_1 s t;exact D1
def A0e(a:Fixture)(b:Fixture):Bool:=if((a.Group==b.Group)&&(a.Group != 0))=true then((decide (0<a.Group)))else((((IntKind.i64.wrap (((BitVec.ofInt 64 a.Category &&& BitVec.ofInt 64 b.Mask).toNat:Nat):Int)) != 0)&&((IntKind.i64.wrap (((BitVec.ofInt 64 b.Category &&& BitVec.ofInt 64 a.Mask).toNat:Nat):Int)) != 0)))
theorem A82(a:Fixture)(b:Fixture):A1 Tryz.prog B63 [.agg a.enc, .agg b.enc] [] (sB (A0e a b)) []:=by refine en1 hm A4 Tryz.func370 rfl rfl ?_;have:=A0e.eq_1 a b;exact D1
def A60(n:Vec)(l:List ContactPoint)(p:Vec)(disp sep id:Int):List ContactPoint:=if sep<=1024 then l++ [⟨A18 p (R0 n disp),sep,id,0,0⟩]else l
def bO(n:Vec):List (Nat×A5):= [(1, .box [sI n.X,sI n.Y, .sc (.slice none 0 0)]),(2, .box n.enc),(3, .box [.ptr 1 0 0 1])]
def bL(n:Vec)(l:List ContactPoint):List (Nat×A5):= [(1, .box [sI n.X,sI n.Y, .sl 4 0 l.length l.length]),(2, .box n.enc),(3, .box [.ptr 1 0 0 1]),(4, .arr 6 (A8 ContactPoint.enc default l))]
attribute [go_sem] bO bL
theorem A6w(n:Vec):A1 Tryz.prog C79 [.agg n.enc] [] (.tup [.ptr 1 0 0 1, .fn (.func A2d) [] [.ptr 2 0 0 1, .ptr 3 0 0 1]]) (bO n):=by unfold bO;refine A7s hm A4 Tryz.func385 rfl rfl ?_;simp only[go_sem,go_sem_proc];refine C8 [.share, .share] [(1,128),(2,32),(3,80)] [] rfl rfl (by simp[go_sem]) (by simp[A6,go_sem]) (by simp[go_sem]) ?_;simp only[go_sem,go_sem_proc]
theorem E3z {n p:Vec}{disp sep id:Int}{l:List ContactPoint}(h:sep<=1024):A60 n l p disp sep id=l++ [⟨A18 p (R0 n disp),sep,id,0,0⟩]:=by unfold A60;rw[if_pos h]
theorem E79 {n p:Vec}{disp sep id:Int}{l:List ContactPoint}(h: ¬sep<=1024):A60 n l p disp sep id=l:=by unfold A60;rw[if_neg h]
theorem E5n(n p:Vec)(disp sep id:Int):A1 Tryz.prog A2d [.agg p.enc,sI disp,sI sep,sI id, .ptr 2 0 0 1, .ptr 3 0 0 1] (bO n) (.tup []) (bL n (A60 n [] p disp sep id)):=by
 by_cases hs:sep<=1024
 ·rw[E3z hs];unfold bO bL;refine A7s hm A4 Tryz.func488 rfl rfl ?_;simp only[go_sem,go_sem_proc];simp only[hs,go_sem,go_sem_proc];refine A0 (A76 n disp) rfl ?_;simp only[go_sem,go_sem_proc];refine A0 (A5e p (R0 n disp)) rfl ?_;simp only[go_sem,go_sem_proc];refine⟨by simp[maxLen],?_⟩;refine C8 [] [(4,464)] [] rfl rfl (by simp[go_sem]) (by simp[A6,go_sem]) (by simp[go_sem,A6]) ?_;simp only[go_sem,go_sem_proc];exact B8c (λ_ _=>rfl) rfl rfl
 ·rw[E79 hs];unfold bO bL;refine A7s hm A4 Tryz.func488 rfl rfl ?_;simp only[go_sem,go_sem_proc];simp only[hs,decide_false,go_sem,go_sem_proc];refine C8 [] [] [4] rfl rfl (by simp[go_sem]) (by simp[A6,go_sem]) (by simp[go_sem,A6]) ?_;simp only[go_sem,go_sem_proc]
theorem F32(n p:Vec)(disp sep id:Int)(l:List ContactPoint)(hl:l.length<=1000):A1 Tryz.prog A2d [.agg p.enc,sI disp,sI sep,sI id, .ptr 2 0 0 1, .ptr 3 0 0 1] (bL n l) (.tup []) (bL n (A60 n l p disp sep id)):=by
 by_cases hs:sep<=1024
 ·rw[E3z hs];unfold bL;refine A7s hm A4 Tryz.func488 rfl rfl ?_;simp only[go_sem,go_sem_proc];simp only[hs,go_sem,go_sem_proc];refine A0 (A76 n disp) rfl ?_;simp only[go_sem,go_sem_proc];refine A0 (A5e p (R0 n disp)) rfl ?_;simp only[go_sem,go_sem_proc];refine⟨⟨by omega,by simp only[maxLen];omega⟩,?_⟩;refine C8 [] [] [] rfl rfl (by simp[go_sem]) (by simp[A6,go_sem]) (by simp[go_sem,A6]) ?_;simp only[List.length_append,List.length_cons,List.length_nil,go_sem,go_sem_proc];exact A1q _ rfl rfl
 ·rw[E79 hs];unfold bL;refine A7s hm A4 Tryz.func488 rfl rfl ?_;simp only[go_sem,go_sem_proc];simp only[hs,decide_false,go_sem,go_sem_proc];refine C8 [] [] [] rfl rfl (by simp[go_sem]) (by simp[A6,go_sem]) (by simp[go_sem,A6]) ?_;simp only[go_sem,go_sem_proc]
theorem C05(n:Vec):A1 Tryz.prog B08 [.ptr 1 0 0 1] (bL n []) (.tup [.agg (⟨⟨0,0⟩,[]⟩:Manifold).enc,sB false]) (bL n []):=by unfold bL;refine C0q 14 [(2,some (some 3)),(3,none)] hm A4 Tryz.func387 rfl ?_;simp only[go_sem,go_sem_proc];rw[if_pos (by decide)];refine C8 [.thaw, .share] [] [] rfl rfl (by simp[go_sem]) (by simp[A6,go_sem]) (by simp[go_sem,A6]) ?_;simp only[go_sem,go_sem_proc];exact O9 rfl
theorem D0e(n:Vec)(l:List ContactPoint)(h:l≠ []):A1 Tryz.prog B08 [.ptr 1 0 0 1] (bL n l) (.tup [.agg (⟨n,l⟩:Manifold).enc,sB true]) [(1, .box [sI n.X,sI n.Y, .sl 4 0 l.length l.length]),(2, .box n.enc),(3, .box [.ptr 1 0 0 1]),(4, .frz 6 (A8 ContactPoint.enc default l))]:=by
 have hn: ¬((l.length:Int)==0)=true:=by simpa using h
 unfold bL;refine C0q 14 [(2,some (some 3)),(3,none)] hm A4 Tryz.func387 rfl ?_;simp only[go_sem,go_sem_proc];rw[if_neg hn];refine C8 [.thaw, .share] [] [] rfl rfl (by simp[go_sem]) (by simp[A6,go_sem]) (by simp[go_sem,A6]) ?_;simp only[go_sem,go_sem_proc];exact⟨rfl,rfl,λi hi=>L3 _⟩
def U5(a b:manifold_placed):Manifold×Bool:=
 let cp:=Z4 (a.core.getD 0 default) (a.core.getD (IntKind.i64.wrap ((a.core.length:Int)-1)).toNat default) (b.core.getD 0 default) (b.core.getD (IntKind.i64.wrap ((b.core.length:Int)-1)).toNat default)
 let dl:=S8 (M0 cp.2 cp.1) ⟨0,65536⟩
 let sep:=sat (sat (sat (sat dl.2-sat a.radius))-sat b.radius)
 let L:=A60 dl.1 [] cp.1 (C7 a.radius (K5 sep)) sep 0
 if L= []then(⟨⟨0,0⟩,[]⟩,false)else(⟨dl.1,L⟩,true)
theorem C0a(a b:manifold_placed)(ha:1<=a.core.length)(hb:1<=b.core.length)(ha8:a.core.length<=1048576)(hb8:b.core.length<=1048576):A1 Tryz.prog B91 [.agg a.enc, .agg b.enc] [] (.tup [.agg (U5 a b).1.enc,sB ((U5 a b).2)]) []:=by
 refine A63 74 [(4,some (some 3)),(5,none)] hm A4 Tryz.func250 rfl ?_;have:=B06
 have:=K6
 have:=λx1 x2 x3=>cx_ (B4d x1 ⟨x2,x3⟩)
 have:=Q9
 have:=M9
 have:=A9n
 have:=A6w
 (simp(maxSteps:=1000000) only[go_sem])
 repeat' (first |((with_reducible refine And.intro ?_ ?_);focus (exact J8)) |(with_reducible refine gd_ ?_;with_reducible refine A0 (by apply_assumption <;> first |exact J8 |(apply_assumption <;> first |assumption |exact J8)) rfl ?_;(simp(maxSteps:=1000000) only[go_sem])) |((with_reducible refine gD_ ?_);refine K1 ev_ J8 (by apply_assumption <;> first |exact J8 |(apply_assumption <;> first |assumption |exact J8)) ?_;(simp(maxSteps:=1000000) only[go_sem])))
 ·generalize hcp:Z4 (a.core.getD 0 default) (a.core.getD (IntKind.i64.wrap ((a.core.length:Int)-1)).toNat default) (b.core.getD 0 default) (b.core.getD (IntKind.i64.wrap ((b.core.length:Int)-1)).toNat default)=cp;generalize hdl:S8 (M0 cp.2 cp.1) ⟨0,65536⟩=dl;generalize hsep:sat (sat (sat (sat dl.2-sat a.radius))-sat b.radius)=sep;have hd:U5 a b=if A60 dl.1 [] cp.1 (C7 a.radius (K5 sep)) sep 0= []then(⟨⟨0,0⟩,[]⟩,false)else(⟨dl.1,A60 dl.1 [] cp.1 (C7 a.radius (K5 sep)) sep 0⟩,true):=by
   unfold U5;simp only[hcp,hdl,hsep]
  rw[hd];refine E3 [false,false,false,false,true,true] [(1,944),(2,945),(3,946),(4,1120)] (E5n dl.1 cp.1 (C7 a.radius (K5 sep)) sep 0) (by simp[bO]) (by simp[bL]) (by simp[bL,go_sem,A6]) (by simp[bO,bL,go_sem]) ?_;generalize A60 dl.1 [] cp.1 (C7 a.radius (K5 sep)) sep 0=L;simp only[go_sem,go_sem_proc];by_cases hL:L= []
  ·subst hL;rw[if_pos rfl];refine E3 [true] [(1,944),(2,945),(3,946),(4,1120)] (C05 dl.1) (by simp[bL]) (by simp[bL]) (by simp[bL,go_sem,A6]) (by simp[bL,go_sem]) ?_;simp only[List.length_nil,go_sem,go_sem_proc]
  ·rw[if_neg hL];refine E3 [true] [(1,944),(2,945),(3,946),(4,1120)] (D0e dl.1 L hL) (by simp[bL]) (by simp) (by simp[go_sem,A6]) (by simp[bL,go_sem]) ?_;simp only[go_sem,go_sem_proc]
end Go.Abs
end
