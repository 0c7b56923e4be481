/- A part of the proof: contracts of functions that the statement reaches. -/
import Derived.Test.YtchcbiiammkhgaaGreatMH
import Derived.Shelf.Sort.Plain
import Derived.Shelf.Slices.Turned
import Derived.Ground.Names2Prog
import Derived.Shelf.Slices.CompactI
import Derived.Shelf.Slices.In.SortNone
import Derived.Ground.SlsfProg
import Derived.Shelf.SlSortCmp.WholeK
import Derived.Shelf.SlSortCmp.NoneTotal
import Derived.Test.YtchcbiiammkhgaaGreatProg
import Derived.Shelf.SlGeneric
set_option linter.unusedSimpArgs false
set_option linter.unusedVariables false
set_option linter.unnecessarySimpa false
set_option maxRecDepth 100000
set_option maxHeartbeats 2000000
noncomputable section
namespace Go.Abs
open Go.Proofs
open Api
def B4o(m:Manifold):Manifold:=(⟨(⟨(IntKind.i64.wrap (0-m.Normal.X)),(IntKind.i64.wrap (0-m.Normal.Y))⟩:Vec),m.Points⟩:Manifold)
theorem D73(m:Manifold)(h0:m.Points.length<=1048576):A1 Tryz.prog D7q [.agg m.enc] [] (.agg (B4o m).enc) []:=by
 refine L5 16 [(2,some (some 3))] hm A4 Tryz.func391 rfl ?_;have:=B2i
 have:=B4o.eq_1 m;exact J1
def V1(m:Manifold)(ok:Bool):Manifold×Bool:=if ok=false then(((⟨(⟨0,0⟩:Vec),([]:List ContactPoint)⟩:Manifold),false))else(let v1:=(B4o m);(v1,true))
theorem A92(m:Manifold)(ok:Bool)(h0:m.Points.length<=1048576):A1 Tryz.prog D0p [.agg m.enc,sB ok] [] (.tup [.agg (V1 m ok).1.enc,sB ((V1 m ok).2)]) []:=by
 refine A62 11 [(4,some (some 3)),(5,none)] hm A4 Tryz.func252 rfl ?_;have:=D73
 have:=V1.eq_1 m ok;exact J1
theorem E0d(a b:List Vec): ∀n,(n=0->(itr (Q1 a b) n (-1,0)).1= -1)/\(0<n->0<=(itr (Q1 a b) n (-1,0)).1/\(itr (Q1 a b) n (-1,0)).1<n)
 |0=>⟨λ_=>rfl,λh=>absurd h (by omega)⟩
 |n+1=>by
  have ih:=E0d a b n;refine⟨λh=>absurd h (by omega),λ_=> ?_⟩;rw[E4];generalize itr (Q1 a b) n (-1,0)=s at*;unfold Q1;simp only;split
  ·constructor <;> simp <;> omega
  ·rename_i h;simp only[Bool.or_eq_true,decide_eq_true_eq,not_or]at h;rcases Nat.eq_zero_or_pos n with h0 |h0
   ·have:=ih.1 h0;omega
   ·have:=ih.2 h0;constructor <;> simp <;> omega
theorem C8x(a b:List Vec)(ha:2<=a.length)(hb:1<=b.length):0<=(D0 a b).1/\(D0 a b).1<a.length:=by unfold D0;rw[if_neg (by simp only[Bool.or_eq_true,decide_eq_true_eq,beq_iff_eq,not_or];omega)];exact(E0d a b a.length).2 (by omega)
def D10(a b:manifold_placed)(i:Int):Manifold×Bool:=if(clL a b i).length=0 then(⟨⟨0,0⟩,[]⟩,false)else(⟨clN a i,clL a b i⟩,true)
def B31(p:ContactPoint):ContactPoint:=⟨p.Point,p.Separation,IntKind.i64.wrap (p.ID+4096),p.NormalImpulse,p.TangentImpulse⟩
def E56(l:List ContactPoint):List ContactPoint:=itr (λi s=>s.set i (B31 (s.getD i default))) l.length l
def L4(a b:manifold_placed):Manifold×Bool:=
 let ig:=D0 a.core b.core
 let kh:=D0 b.core a.core
 if 1024<sat (sat (sat (sat (if ig.2<kh.2 then kh.2 else ig.2)-sat a.radius))-sat b.radius)then(⟨⟨0,0⟩,[]⟩,false)
 else if kh.2<=C5 ig.2 64 then D10 a b ig.1
 else if(clL b a kh.1).length=0 then(⟨⟨0,0⟩,[]⟩,false)else V1 ⟨clN b kh.1,E56 (clL b a kh.1)⟩ true
theorem B97(a b:manifold_placed)(ha:2<=a.core.length)(hb:2<=b.core.length)(ha8:a.core.length<=1048576)(hb8:b.core.length<=1048576):A1 Tryz.prog B9v [.agg a.enc, .agg b.enc] [] (.tup [.agg (L4 a b).1.enc,sB ((L4 a b).2)]) []:=by
 refine A62 78 [(4,some (some 3)),(5,none)] hm A4 Tryz.func253 rfl ?_;have:=B45
 have:=Q5
 have:=M8
 (simp(maxSteps:=1000000) only[go_sem])
 repeat' (first |((with_reducible refine it_ (λhc_=> ?_) (λhc_=> ?_)) <;> (have hd_:=hc_)) |(with_reducible refine gd_ ?_;with_reducible refine A0 (by apply_assumption <;> exact K8) rfl ?_;(simp(maxSteps:=1000000) only[go_sem])))
 ·have e:L4 a b=(⟨⟨0,0⟩,[]⟩,false):=by
   unfold L4;simp only;rw[if_pos (by assumption)]
  rw[e];exact⟨⟨rfl,rfl,Q8 rfl⟩,rfl⟩
 ·have e:L4 a b=D10 a b (D0 a.core b.core).1:=by
   unfold L4;simp only;rw[if_neg (by assumption),if_pos (by assumption)]
  have hr:=C8x a.core b.core ha (by omega);rw[e];generalize(D0 a.core b.core).1=i at*;by_cases hL:(clL a b i).length=0
  ·rw[show D10 a b i=(⟨⟨0,0⟩,[]⟩,false)from if_pos hL];refine A0 (C0e a b i hr ha8 hb8 hL) rfl ?_;simp only[List.length_nil,go_sem,go_sem_proc]
  ·rw[show D10 a b i=(⟨clN a i,clL a b i⟩,true)from if_neg hL];refine E3 [false,false,false] [(1,768)] (C0m a b i hr ha8 hb8 (by omega)) (by simp) (by simp) (by simp) (by simp) ?_;simp only[go_sem,go_sem_proc]
 ·have hr:=C8x b.core a.core hb (by omega)
  have e:L4 a b=if(clL b a (D0 b.core a.core).1).length=0 then(⟨⟨0,0⟩,[]⟩,false)else V1 ⟨clN b (D0 b.core a.core).1,E56 (clL b a (D0 b.core a.core).1)⟩ true:=by unfold L4;simp only;rw[if_neg (by assumption),if_neg (by assumption)]
  rw[e];generalize(D0 b.core a.core).1=k at*;by_cases hL:(clL b a k).length=0
  ·rw[if_pos hL];refine A0 (C0e b a k hr hb8 ha8 hL) rfl ?_;simp only[List.length_nil,go_sem,go_sem_proc];refine A9 hm (ι:=Unit) (λ_=> [(4, .share, .ptr 80 0 0 1),(5, .share,sB false),(10, .share, .ptr 176 0 0 1),(11, .share,sB false),(59, .share,sI 0),(60, .share,sI 0)]) (λ_=> [(80, .box [sI 0,sI 0, .sc (.slice none 0 0)]),(176, .box [sI 0,sI 0, .dsl 6 0 (L7 ContactPoint.enc default [])])]) (λ_=>0) () ?_ ?_
   ·refine B5 [] [] (by simp[go_sem]) (by simp[A6,go_sem]) (by simp[go_sem]) ?_;simp only[go_sem,go_sem_proc]
   ·intro _;simp only[go_sem,go_sem_proc];rw[if_neg (by decide)];refine A0 (A92 ⟨⟨0,0⟩,[]⟩ false (by simp)) rfl ?_;rw[show V1 ⟨⟨0,0⟩,[]⟩ false=(⟨⟨0,0⟩,[]⟩,false)from rfl];simp only[List.length_nil,go_sem,go_sem_proc]
  ·rw[if_neg hL];refine E3 [false,false,false] [(1,880)] (C0m b a k hr hb8 ha8 (by omega)) (by simp) (by simp) (by simp) (by simp) ?_;simp only[go_sem,go_sem_proc];unfold E56;generalize hl:clL b a k=l at*;have hB: ∀j,(itr (λi (s:List ContactPoint)=>s.set i (B31 (s.getD i default))) j l).length=l.length:=λj=>T1 (λs:List ContactPoint=>s.length) (λi s=>by simp) j l;refine A9 hm (ι:= {j:Nat // j<=l.length}) (λj=> [(4, .share, .ptr 80 0 0 1),(5, .share,sB false),(10, .share, .ptr 176 0 0 1),(11, .share,sB true),(59, .share,sI (l.length:Int)),(60, .share,sI (j.1:Int))])
    (λj=> [(80, .box [sI 0,sI 0, .sc (.slice none 0 0)]),(176, .box [sI ((clN b k).X),sI ((clN b k).Y), .sl 880 0 (itr (λi (s:List ContactPoint)=>s.set i (B31 (s.getD i default))) j.1 l).length (itr (λi (s:List ContactPoint)=>s.set i (B31 (s.getD i default))) j.1 l).length]),(880, .arr 6 (A8 ContactPoint.enc default (itr (λi (s:List ContactPoint)=>s.set i (B31 (s.getD i default))) j.1 l)))]) (λj=>l.length-j.1) ⟨0,by omega⟩ ?_ ?_
   ·refine B5 [] [] (by simp[go_sem]) (by simp[A6,go_sem]) (by simp[go_sem]) ?_;simp only[H5,go_sem,go_sem_proc]
   ·rintro⟨j,hj⟩;have hBj:=hB j
    have hn1:itr (λi (s:List ContactPoint)=>s.set i (B31 (s.getD i default))) (j+1) l=(itr (λi (s:List ContactPoint)=>s.set i (B31 (s.getD i default))) j l).set j (B31 ((itr (λi (s:List ContactPoint)=>s.set i (B31 (s.getD i default))) j l).getD j default)):=rfl
    have hl8:l.length<=2:=by rw[<-hl];exact Nat.le_trans (D1m b a k _) (D1a b a k)
    dsimp only
    (simp(maxSteps:=1000000) only[go_sem];try(simp(disch:=(omega)) only[A0q];try simp(maxSteps:=1000000) only[go_sem]))
    repeat' (first |((with_reducible refine And.intro ?_ ?_);focus (exact K8)) |((with_reducible refine it_ (λhc_=> ?_) (λhc_=> ?_)) <;> (have hd_:=hc_)))
    ·refine A7 ⟨j+1,by omega⟩ (by show l.length-(j+1)<l.length-j;omega) (B5 [] [] (by simp[go_sem]) (by simp[A6,go_sem]) (by simp[go_sem]) ?_);simp only[hn1,List.length_set,go_sem,go_sem_proc];refine⟨?_,?_⟩ <;> first |(rw[IntKind.wrap_i64];omega) |exact A4f rfl
    ·obtain rfl:j=l.length:=by omega
     refine K0 (cs:= [.agg (⟨clN b k,itr (λi (s:List ContactPoint)=>s.set i (B31 (s.getD i default))) l.length l⟩:Manifold).enc,sB true]) (by simp only[C4p,hBj,go_sem,go_sem_proc];rfl) trivial (A92 ⟨clN b k,itr (λi (s:List ContactPoint)=>s.set i (B31 (s.getD i default))) l.length l⟩ true (by rw[hBj];omega)) ?_;simp only[go_sem,go_sem_proc]
theorem E0c(s:Shape)(t:Transform):E7 s=0->1<=(J6 s t).core.length/\((J6 s t).kind=1->(J6 s t).core.length=1)/\((J6 s t).kind=2->(J6 s t).core.length=2)/\((J6 s t).kind≠1->(J6 s t).kind≠2->3<=(J6 s t).core.length)/\(J6 s t).core.length<=8:=λh=>D3o s t h
theorem D4z(n p:Vec)(d s i:Int):(A64 n [] p d s i).length<=1:=by unfold A64;split <;> simp
theorem F2k(a b:manifold_placed):(H4 a b).1.Points.length<=1:=by
 unfold H4;simp only
 (repeat' split) <;> first |exact Nat.zero_le _ |exact D4z _ _ _ _ _
def Y6(a:Shape)(ta:Transform)(b:Shape)(tb:Transform):Manifold×Bool:=let v1:=(E7 a);let v2:=(E7 b);if((v1 != 0)||(v2 != 0))=true then(((⟨(⟨0,0⟩:Vec),([]:List ContactPoint)⟩:Manifold),false))else(let v3:=(J6 a ta);let v4:=(J6 b tb);if((v3.kind != 3)&&(v4.kind != 3))=true then(let v5:=(U2 v3 v4);(v5.1,v5.2))else(if(v4.kind==1)=true then(let v6:=(H4 v3 v4);(v6.1,v6.2))else(if(v3.kind==1)=true then(let v7:=(H4 v4 v3);let v8:=(V1 v7.1 v7.2);(v8.1,v8.2))else(let v9:=(L4 v3 v4);(v9.1,v9.2)))))
theorem D0o(a:Shape)(ta:Transform)(b:Shape)(tb:Transform)(h0:a.Vertices.length<=1048576)(h1:b.Vertices.length<=1048576):A1 Tryz.prog D0u [.agg a.enc, .agg ta.enc, .agg b.enc, .agg tb.enc] [] (.tup [.agg (Y6 a ta b tb).1.enc,sB ((Y6 a ta b tb).2)]) []:=by
 refine A62 67 [(8,some (some 3)),(9,none)] hm A4 Tryz.func155 rfl ?_;have:=E0c a ta
 have:=E0c b tb
 have:=A07
 have:=D4s
 have:=B90
 have:=F2k (J6 a ta) (J6 b tb)
 have:=B3j
 have:=F2k (J6 b tb) (J6 a ta)
 have:=A92
 have:=B97
 have:=Y6.eq_1 a ta b tb;exact J1
def C94(a b:Int)(j:Joint):Bool:= !j.CollideConnected&&((a==j.BodyA&&b==j.BodyB)||(a==j.BodyB&&b==j.BodyA))
theorem F70(a b:Int):okO [(1, .box [sI a,sI b])]:=by refine⟨by simp[go_sem],?_⟩;simp[go_sem,F4,AV.ids]
theorem B79(a b:Int)(j:Joint):A1 Tryz.prog A9f [.agg j.enc, .ptr 1 0 0 1] [(1, .box [sI a,sI b])] (sB (C94 a b j)) [(1, .box [sI a,sI b])]:=by
 refine H8 hm A4 Tryz.func470 rfl rfl ?_;simp only[go_sem,go_sem_proc];cases hc:j.CollideConnected with
 |true=>simp only[Bool.not_true,go_sem,go_sem_proc];refine C6 [.share] [] [] rfl rfl (by simp[go_sem]) (by simp[A6,go_sem]) (by simp[go_sem]) ?_;simp only[go_sem,go_sem_proc];simp[C94,hc]
 |false=>simp only[Bool.not_false,go_sem,go_sem_proc];refine C6 [.share] [] [] rfl rfl (by simp[go_sem]) (by simp[A6,go_sem]) (by simp[go_sem]) ?_;simp only[go_sem,go_sem_proc];simp[C94,hc]
theorem B1g(l:List Joint)(a b:Int)(hl:l.length<=1048576):A1 Tryz.prog C2q [A2 24 Joint.enc default l,sI a,sI b] [] (sB (l.any (C94 a b))) []:=by refine H8 hm A4 Tryz.func371 rfl rfl ?_;simp only[go_sem,go_sem_proc];refine E3 [true,true] [(1,128)] (B6l l A9f [] [.ptr 1 0 0 1] [(1, .box [sI a,sI b])] (C94 a b) (by omega) (F70 a b) (by simp[go_sem,AV.ids]) (λj _=>B79 a b j)) (by simp) (by simp) (by simp) (by simp[go_sem]) ?_;simp only[go_sem,go_sem_proc];refine C6 [.share] [] [] rfl rfl (by simp[go_sem]) (by simp[A6,go_sem]) (by simp[go_sem]) ?_;simp only[go_sem,go_sem_proc]
end Go.Abs
end
noncomputable section
namespace Go.Abs
open Go.Proofs
open Api
end Go.Abs
namespace Go.Api
open Go.Abs
structure Input where
 Kind:Int
 ID:Int
 Vec:Vec
 Value:Int
 Body:Body
 Joint:Joint
 deriving DecidableEq,Inhabited
def Input.enc(x:Input):List AV:=[sI x.Kind,sI x.ID,sI x.Vec.X,sI x.Vec.Y,sI x.Value,sI x.Body.ID,sI x.Body.Kind,sI x.Body.Transform.Position.X,sI x.Body.Transform.Position.Y,sI x.Body.Transform.Angle,sI x.Body.Velocity.X,sI x.Body.Velocity.Y,sI x.Body.AngularVelocity,sI x.Body.Force.X,sI x.Body.Force.Y,sI x.Body.Torque,sI x.Body.LinearDamping,sI x.Body.AngularDamping,sI x.Body.GravityScale,sB x.Body.Bullet,sB x.Body.FixedRotation,sB x.Body.NoSleep,sB x.Body.Asleep,sI x.Body.IdleSteps,A2 10 Fixture.enc default x.Body.Fixtures,sI x.Joint.ID,sI x.Joint.Kind,sI x.Joint.BodyA,sI x.Joint.BodyB,sI x.Joint.AnchorA.X,sI x.Joint.AnchorA.Y,sI x.Joint.AnchorB.X,sI x.Joint.AnchorB.Y,sI x.Joint.Axis.X,sI x.Joint.Axis.Y,sI x.Joint.ReferenceAngle,sB x.Joint.EnableLimit,sI x.Joint.Lower,sI x.Joint.Upper,sB x.Joint.EnableMotor,sI x.Joint.MotorSpeed,sI x.Joint.MaxForce,sI x.Joint.Softness,sI x.Joint.BreakForce,sB x.Joint.CollideConnected,sI x.Joint.Impulses.I0,sI x.Joint.Impulses.I1,sI x.Joint.Impulses.I2,sI x.Joint.Impulses.I3]
def Input.zero:List AV:= [sI 0,sI 0,sI 0,sI 0,sI 0,sI 0,sI 0,sI 0,sI 0,sI 0,sI 0,sI 0,sI 0,sI 0,sI 0,sI 0,sI 0,sI 0,sI 0,sB false,sB false,sB false,sB false,sI 0, .sc (.slice none 0 0),sI 0,sI 0,sI 0,sI 0,sI 0,sI 0,sI 0,sI 0,sI 0,sI 0,sI 0,sB false,sI 0,sI 0,sB false,sI 0,sI 0,sI 0,sI 0,sB false,sI 0,sI 0,sI 0,sI 0]
attribute [go_sem] Input.enc Input.zero
@[go_sem] theorem G3v(x:Input):Input.mk x.Kind x.ID x.Vec x.Value x.Body x.Joint=x:=rfl
structure Request where
 Kind:Int
 From:Vec
 To:Vec
 Mask:Int
 Input:Input
 deriving DecidableEq,Inhabited
def Request.enc(x:Request):List AV:=[sI x.Kind,sI x.From.X,sI x.From.Y,sI x.To.X,sI x.To.Y,sI x.Mask,sI x.Input.Kind,sI x.Input.ID,sI x.Input.Vec.X,sI x.Input.Vec.Y,sI x.Input.Value,sI x.Input.Body.ID,sI x.Input.Body.Kind,sI x.Input.Body.Transform.Position.X,sI x.Input.Body.Transform.Position.Y,sI x.Input.Body.Transform.Angle,sI x.Input.Body.Velocity.X,sI x.Input.Body.Velocity.Y,sI x.Input.Body.AngularVelocity,sI x.Input.Body.Force.X,sI x.Input.Body.Force.Y,sI x.Input.Body.Torque,sI x.Input.Body.LinearDamping,sI x.Input.Body.AngularDamping,sI x.Input.Body.GravityScale,sB x.Input.Body.Bullet,sB x.Input.Body.FixedRotation,sB x.Input.Body.NoSleep,sB x.Input.Body.Asleep,sI x.Input.Body.IdleSteps,A2 10 Fixture.enc default x.Input.Body.Fixtures,sI x.Input.Joint.ID,sI x.Input.Joint.Kind,sI x.Input.Joint.BodyA,sI x.Input.Joint.BodyB,sI x.Input.Joint.AnchorA.X,sI x.Input.Joint.AnchorA.Y,sI x.Input.Joint.AnchorB.X,sI x.Input.Joint.AnchorB.Y,sI x.Input.Joint.Axis.X,sI x.Input.Joint.Axis.Y,sI x.Input.Joint.ReferenceAngle,sB x.Input.Joint.EnableLimit,sI x.Input.Joint.Lower,sI x.Input.Joint.Upper,sB x.Input.Joint.EnableMotor,sI x.Input.Joint.MotorSpeed,sI x.Input.Joint.MaxForce,sI x.Input.Joint.Softness,sI x.Input.Joint.BreakForce,sB x.Input.Joint.CollideConnected,sI x.Input.Joint.Impulses.I0,sI x.Input.Joint.Impulses.I1,sI x.Input.Joint.Impulses.I2,sI x.Input.Joint.Impulses.I3]
def Request.zero:List AV:= [sI 0,sI 0,sI 0,sI 0,sI 0,sI 0,sI 0,sI 0,sI 0,sI 0,sI 0,sI 0,sI 0,sI 0,sI 0,sI 0,sI 0,sI 0,sI 0,sI 0,sI 0,sI 0,sI 0,sI 0,sI 0,sB false,sB false,sB false,sB false,sI 0, .sc (.slice none 0 0),sI 0,sI 0,sI 0,sI 0,sI 0,sI 0,sI 0,sI 0,sI 0,sI 0,sI 0,sB false,sI 0,sI 0,sB false,sI 0,sI 0,sI 0,sI 0,sB false,sI 0,sI 0,sI 0,sI 0]
attribute [go_sem] Request.enc Request.zero
@[go_sem] theorem G2v(x:Request):Request.mk x.Kind x.From x.To x.Mask x.Input=x:=rfl
end Go.Api
namespace Go.Abs
open Go.Proofs Api
end Go.Abs
end
noncomputable section
namespace Go.Abs
open Go.Proofs
open Api
structure F9 where
 body:Int
 fixture:Int
 deriving DecidableEq,Inhabited
def F9.enc(x:F9):List AV:=[sI x.body,sI x.fixture]
def F9.zero:List AV:= [sI 0,sI 0]
attribute [go_sem] F9.enc F9.zero
@[go_sem] theorem E2t(x:F9):F9.mk x.body x.fixture=x:=rfl
structure sap_Entry where
 ID:Int
 Bounds:AABB
 deriving DecidableEq,Inhabited
def sap_Entry.enc(x:sap_Entry):List AV:=[sI x.ID,sI x.Bounds.Min.X,sI x.Bounds.Min.Y,sI x.Bounds.Max.X,sI x.Bounds.Max.Y]
def sap_Entry.zero:List AV:= [sI 0,sI 0,sI 0,sI 0,sI 0]
attribute [go_sem] sap_Entry.enc sap_Entry.zero
@[go_sem] theorem G0l(x:sap_Entry):sap_Entry.mk x.ID x.Bounds=x:=rfl
structure broadphase_Proxy where
 Body:Int
 Fixture:Int
 Bounds:AABB
 deriving DecidableEq,Inhabited
def broadphase_Proxy.enc(x:broadphase_Proxy):List AV:=[sI x.Body,sI x.Fixture,sI x.Bounds.Min.X,sI x.Bounds.Min.Y,sI x.Bounds.Max.X,sI x.Bounds.Max.Y]
def broadphase_Proxy.zero:List AV:= [sI 0,sI 0,sI 0,sI 0,sI 0,sI 0]
attribute [go_sem] broadphase_Proxy.enc broadphase_Proxy.zero
@[go_sem] theorem F0o(x:broadphase_Proxy):broadphase_Proxy.mk x.Body x.Fixture x.Bounds=x:=rfl
structure broadphase_scene where
 bodies:List Body
 joints:List Joint
 refs:List F9
 entries:List sap_Entry
 deriving DecidableEq,Inhabited
def broadphase_scene.enc(x:broadphase_scene):List AV:=[A2 20 Body.enc default x.bodies,A2 24 Joint.enc default x.joints,A2 2 F9.enc default x.refs,A2 5 sap_Entry.enc default x.entries]
def broadphase_scene.zero:List AV:= [.sc (.slice none 0 0), .sc (.slice none 0 0), .sc (.slice none 0 0), .sc (.slice none 0 0)]
attribute [go_sem] broadphase_scene.enc broadphase_scene.zero
@[go_sem] theorem F06(x:broadphase_scene):broadphase_scene.mk x.bodies x.joints x.refs x.entries=x:=rfl
def A2a(b:Body)(i:Int):broadphase_Proxy:=let v1:=(B5j (b.Fixtures.getD i.toNat default).Shape b.Transform);let v2:=(B7j v1 1024);(⟨b.ID,i,v2⟩:broadphase_Proxy)
theorem C9t(b:Body)(i:Int)(hi:0<=i/\i<b.Fixtures.length)(h0: ∀f∈b.Fixtures,f.Shape.Vertices.length<=1048576):A1 Tryz.prog C9e [.agg b.enc,sI i] [] (.agg (A2a b i).enc) []:=by
 refine L5 19 [(4,some (some 6))] hm A4 Tryz.func365 rfl ?_;have:=h0 _ (B6 (l:=b.Fixtures) (i:=i.toNat) default (by omega))
 have:=D8p
 have:=E1x
 have:=A2a.eq_1 b i;exact J1
def A31(s:broadphase_scene)(x:F9)(y:F9):PairKey:=if(s.bodies.getD y.body.toNat default).ID<(s.bodies.getD x.body.toNat default).ID then((⟨(s.bodies.getD y.body.toNat default).ID,y.fixture,(s.bodies.getD x.body.toNat default).ID,x.fixture⟩:PairKey))else((⟨(s.bodies.getD x.body.toNat default).ID,x.fixture,(s.bodies.getD y.body.toNat default).ID,y.fixture⟩:PairKey))
theorem C19(s:broadphase_scene)(x:F9)(y:F9)(hx:0<=x.body/\x.body<s.bodies.length)(hy:0<=y.body/\y.body<s.bodies.length):A1 Tryz.prog C18 [.agg s.enc, .agg x.enc, .agg y.enc] [] (.agg (A31 s x y).enc) []:=by refine L5 40 [(6,some (some 4))] hm A4 Tryz.func245 rfl ?_;have:=A31.eq_1 s x y;exact J1
def Z9(s:broadphase_scene)(x:F9)(y:F9):Bool:=let v1:=(A0a ((s.bodies.getD x.body.toNat default).Fixtures.getD x.fixture.toNat default) ((s.bodies.getD y.body.toNat default).Fixtures.getD y.fixture.toNat default));let v2:=(s.joints.any (C94 (s.bodies.getD x.body.toNat default).ID (s.bodies.getD y.body.toNat default).ID));((((((s.bodies.getD x.body.toNat default).Kind==3)||((s.bodies.getD y.body.toNat default).Kind==3))&&(x.body != y.body))&&v1)&&(!v2))
theorem B63(s:broadphase_scene)(x:F9)(y:F9)(hx:0<=x.body/\x.body<s.bodies.length)(hy:0<=y.body/\y.body<s.bodies.length)(hxf:0<=x.fixture/\x.fixture<(s.bodies.getD x.body.toNat default).Fixtures.length)(hyf:0<=y.fixture/\y.fixture<(s.bodies.getD y.body.toNat default).Fixtures.length)(h0:s.joints.length<=1048576):A1 Tryz.prog B69 [.agg s.enc, .agg x.enc, .agg y.enc] [] (sB (Z9 s x y)) []:=by
 refine en1 hm A4 Tryz.func244 rfl rfl ?_;have:=A8v
 have:=B1g
 have:=Z9.eq_1 s x y;exact J1
def G5(w:Api.World)(id:Int)(n:Int):Fixture×Transform×Bool:=let v1:=(H6 w id);if(((decide (v1<0))||(decide (n<0)))||(decide (((w.Bodies.getD v1.toNat default).Fixtures.length:Int)<=n)))=true then(((⟨(⟨0,0,([]:List Vec)⟩:Shape),0,0,0,false,0,0,0⟩:Fixture),(⟨(⟨0,0⟩:Vec),0⟩:Transform),false))else((((w.Bodies.getD v1.toNat default).Fixtures.getD n.toNat default),(w.Bodies.getD v1.toNat default).Transform,true))
theorem B2l(w:Api.World)(id:Int)(n:Int)(h0:w.Bodies.length<=1048576):A1 Tryz.prog D4g [.agg w.enc,sI id,sI n] [] (.tup [.agg (G5 w id n).1.enc, .agg (G5 w id n).2.1.enc,sB ((G5 w id n).2.2)]) []:=by
 refine A62 47 [(6,some (some 10)),(7,some (some 3)),(8,none)] hm A4 Tryz.func154 rfl ?_;have:=A2q w id
 have:=A16
 have:=G5.eq_1 w id n;exact J1
def L2(l:List Int)(n:Int)(i1:Nat)(s1:Int):(Int) ⊕ (Bool):=if((decide ((l.getD i1 0)<=s1))||(decide (n<=(l.getD i1 0))))=true then(.inr false)else(.inl (l.getD i1 0))
def R6(l:List Int)(n:Int):Bool:=(match D3 (L2 l n) l.length (-1)with | .inr r=>r | .inl s1=>true)
theorem A3j(l:List Int)(n:Int)(h0:l.length<=1048576):A1 Tryz.prog D3w [A2 1 B9 0 l,sI n] [] (sB (R6 l n)) []:=by
 refine en1 hm A4 Tryz.func177 rfl rfl ?_;have:=R6.eq_1 l n
 have:=λi_ s_=>L2.eq_1 l n i_ s_
 have:=λx_ Q_ σ_=> @lp_ Tryz.prog Tryz.f177.ntmps [] x_ Q_ σ_ hm (IE (L2 l n) (-1)) (λ_=>True) l.length (λi_=> [(1, .share,sI n),(5, .share,sI (stE (L2 l n) i_ (-1))),(8, .share,A2 1 B9 0 l),(9, .share,sI (l.length:Int)),(10, .share,sI (i_:Int))]) (λi_=> []) [] rfl (λ_ _=>trivial) (by simp[go_sem]) (by simp[go_sem,A6]) (by simp[go_sem]);exact J1
def A4e(j:Joint):Int:=if(j.Kind==1)=true then((if(sat j.Impulses.I0)<(IntKind.i64.wrap (0-(sat j.Impulses.I0)))then(IntKind.i64.wrap (0-(sat j.Impulses.I0)))else(sat j.Impulses.I0)))else(let v2:=(A32 (⟨(sat j.Impulses.I0),j.Impulses.I1⟩:Vec));v2)
theorem B6z(j:Joint):A1 Tryz.prog B6u [.agg j.enc] [] (sI (A4e j)) []:=by
 refine en1 hm A4 Tryz.func334 rfl rfl ?_;have:=λx1 x2=>cx_ (U6 ⟨x1,x2⟩)
 have:=J7
 have:=U6
 have:=A4e.eq_1 j;exact C9
def A6g(j:Joint)(d:Int):Bool:=let v1:=(A4e j);let v2:=(B4 j.BreakForce d);((decide (0<j.BreakForce))&&(decide (v2<v1)))
theorem D0y(j:Joint)(d:Int):A1 Tryz.prog C8l [.agg j.enc,sI d] [] (sB (A6g j d)) []:=by
 refine en1 hm A4 Tryz.func204 rfl rfl ?_;have:=B6z
 have:=L8
 have:=A6g.eq_1 j d;exact C9
def A57(f:Fixture)(m:Int):Bool:=((!f.Sensor)&&((IntKind.i64.wrap (((BitVec.ofInt 64 f.Category &&& BitVec.ofInt 64 m).toNat:Nat):Int)) != 0))
theorem C92(f:Fixture)(m:Int):A1 Tryz.prog D0f [.agg f.enc,sI m] [] (sB (A57 f m)) []:=by refine en1 hm A4 Tryz.func396 rfl rfl ?_;have:=A57.eq_1 f m;exact C9
theorem B52(k k':List Int)(v:AV): ∀es:List (List Int×AV),A21 (A6m es k v) k'=if k'==k then some v else A21 es k'
 | []=>rfl
 |(z,u)::r=>by
  have ih:=B52 k k' v r;simp only[A6m];cases hz:k==z with
  |true=>
   have e:k=z:=by simpa using hz
   subst e;simp only[if_true,A21];cases h:k'==k <;> simp
  |false=>
   simp only[Bool.false_eq_true,if_false,A21,ih];cases h:k'==z with
   |true=>
    have e:k'=z:=by simpa using h
    subst e;have:(k'==k)=false:=by
     cases h2:k'==k with
     |false=>rfl
     |true=>
      have e2:k'=k:=by simpa using h2
      subst e2;rw[h]at hz;cases hz
    simp[this]
   |false=>simp
def A6v(k:PairKey):List Int:= [k.BodyA,k.FixtureA,k.BodyB,k.FixtureB]
theorem F47 {a b:PairKey}(h:A6v a=A6v b):a=b:=by obtain⟨a1,a2,a3,a4⟩:=a;obtain⟨b1,b2,b3,b4⟩:=b;simp only[A6v,List.cons.injEq,and_true]at h;obtain⟨rfl,rfl,rfl,rfl⟩:=h;rfl
theorem E3q(a b:PairKey):(A6v a==A6v b)=decide (a=b):=by
 by_cases h:a=b
 ·subst h;simp
 ·rw[decide_eq_false h];cases h2:A6v a==A6v b with
  |false=>rfl
  |true=>exact absurd (F47 (by simpa using h2)) h
def A55(l:List Contact)(k:PairKey):Nat->Option Nat
 |0=>none
 |n+1=>match A55 l k n with
  |some i=>some i
  |none=>if(l.getD n default).Key=k then some n else none
theorem C9n {l:List Contact}{k:PairKey}: ∀ {n i:Nat},A55 l k n=some i->i<n/\(l.getD i default).Key=k
 |0,i,h=>by cases h
 |n+1,i,h=>by
  simp only[A55]at h;split at h
  ·rename_i j hj;injection h with h;subst h;have:=C9n hj;exact⟨by omega,this.2⟩
  ·split at h
   ·rename_i he;injection h with h;subst h;exact⟨by omega,he⟩
   ·cases h
def ibk(l:List Contact):Nat->List (List Int×AV)
 |0=> []
 |n+1=>if(A21 (ibk l n) (A6v (l.getD n default).Key)).isSome=true then ibk l n else A6m (ibk l n) (A6v (l.getD n default).Key) (sI (n:Nat))
theorem E9l(l:List Contact)(k:PairKey): ∀n,A21 (ibk l n) (A6v k)=(A55 l k n).map λi=> .sc (.int .i64 (i:Nat))
 |0=>rfl
 |n+1=>by
  have ih:=E9l l k n;simp only[ibk,A55];by_cases he:(l.getD n default).Key=k
  ·subst he;rw[ih];cases hf:A55 l (l.getD n default).Key n with
   |some i=>simp only[Option.map_some,Option.isSome_some,if_true,ih,hf]
   |none=>simp only[Option.map_none,Option.isSome_none,Bool.false_eq_true,if_false,B52,beq_self_eq_true,if_true,Option.map_some]
  ·have hne:(A6v k==A6v (l.getD n default).Key)=false:=by rw[E3q,decide_eq_false (λe=>he e.symm)]
   have hx:A21 (if(A21 (ibk l n) (A6v (l.getD n default).Key)).isSome=true then ibk l n else A6m (ibk l n) (A6v (l.getD n default).Key) (sI (n:Nat))) (A6v k)=A21 (ibk l n) (A6v k):=by
    split
    ·rfl
    ·rw[B52,hne];rfl
   rw[hx,ih,if_neg he];cases A55 l k n <;> rfl
end Go.Abs
end
noncomputable section
namespace Go.Abs
open Go.Proofs
open Api
end Go.Abs
namespace Go.Api
open Go.Abs
structure Event where
 Kind:Int
 Key:PairKey
 deriving DecidableEq,Inhabited
def Event.enc(x:Event):List AV:=[sI x.Kind,sI x.Key.BodyA,sI x.Key.FixtureA,sI x.Key.BodyB,sI x.Key.FixtureB]
def Event.zero:List AV:= [sI 0,sI 0,sI 0,sI 0,sI 0]
attribute [go_sem] Event.enc Event.zero
@[go_sem] theorem G3t(x:Event):Event.mk x.Kind x.Key=x:=rfl
end Go.Api
namespace Go.Abs
open Go.Proofs Api
attribute [go_sem] B5y
theorem B3m(l:List Contact)(hl:l.length<=1048576):A1 Tryz.prog C56 [A2 7 Contact.enc default l] [] (.mp 1) [(1, .mapS 4 (ibk l l.length))]:=by
 refine H8 hm A4 Tryz.func152 rfl rfl ?_;simp only[go_sem,go_sem_proc];refine A9 hm (ι:= {i:Nat // i<=l.length}) (λi=> [(3, .share, .mp 1),(9, .share,A2 7 Contact.enc default l),(10, .share,sI l.length),(11, .share,sI (i.1:Nat))]) (λi=> [(1, .mapS 4 (ibk l i.1))]) (λi=>l.length-i.1) ⟨0,Nat.zero_le _⟩ ?_ ?_
 ·refine B8 [(1,144)] [] ?_;simp only[go_sem,go_sem_proc];exact eE_
 ·rintro⟨i,hi⟩;dsimp only;have hn:ibk l (i+1)=if(A21 (ibk l i) [(l.getD i default).Key.BodyA,(l.getD i default).Key.FixtureA,(l.getD i default).Key.BodyB,(l.getD i default).Key.FixtureB]).isSome=true then ibk l i else A6m (ibk l i) [(l.getD i default).Key.BodyA,(l.getD i default).Key.FixtureA,(l.getD i default).Key.BodyB,(l.getD i default).Key.FixtureB] (sI (i:Nat)):=rfl
  have hfin:l.length<=i->ibk l i=ibk l l.length:=λh=>by rw[show i=l.length by omega]
  generalize ibk l i=es at hn hfin⊢;simp only[go_sem,go_sem_proc];by_cases hlt:i<l.length
  ·rw[if_pos (by omega)];refine⟨bE_,?_⟩;cases hf:A21 es [(l.getD i default).Key.BodyA,(l.getD i default).Key.FixtureA,(l.getD i default).Key.BodyB,(l.getD i default).Key.FixtureB]with
   |none=>rw[hf]at hn;simp only[Option.isSome_none,Bool.false_eq_true,if_false]at hn;simp only[go_sem,go_sem_proc];refine A7 ⟨i+1,by omega⟩ (by show l.length-(i+1)<l.length-i;omega) ?_;simp only[hn];refine B8 [] [] ?_;simp only[go_sem,go_sem_proc];exact eE_
   |some v=>rw[hf]at hn;simp only[Option.isSome_some,if_true]at hn;simp only[go_sem,go_sem_proc];refine A7 ⟨i+1,by omega⟩ (by show l.length-(i+1)<l.length-i;omega) ?_;simp only[hn];refine B8 [] [] ?_;simp only[go_sem,go_sem_proc];exact eE_
  ·rw[if_neg (by omega)];rw[<-hfin (by omega)];refine V3 [.share] [] [] ?_;simp only[go_sem,go_sem_proc];exact eE_
theorem C3q {α β:Type} [Inhabited α]{f:α->Option β}{l:List α}{i:Nat}(h:i<l.length):(l.take (i+1)).filterMap f=(l.take i).filterMap f++(f (l.getD i default)).toList:=by rw[K9 default h,List.filterMap_append];congr 1
theorem C9v {α β:Type}{f:α->Option β}{l:List α}(i:Nat):((l.take i).filterMap f).length<=l.length:=Nat.le_trans (List.length_filterMap_le ..) (by rw[List.length_take];omega)
theorem F34(l:List Contact)(k:PairKey):A21 (ibk l l.length) [k.BodyA,k.FixtureA,k.BodyB,k.FixtureB]=(A55 l k l.length).map λi=> .sc (.int .i64 (i:Nat)):=E9l l k l.length
def evF(b:List Contact)(kind:Int)(t:Contact):Option Api.Event:=if(A55 b t.Key b.length).isSome=true then none else some ⟨kind,t.Key⟩
def C54(a b:List Contact)(kind:Int):List Api.Event:=a.filterMap (evF b kind)
theorem B23(a b:List Contact)(kind:Int):(C54 a b kind).length<=a.length:=List.length_filterMap_le ..
theorem B47(a b:List Contact)(kind:Int)(ha:a.length<=1048576)(hb:b.length<=1048576):A1 Tryz.prog C62 [A2 7 Contact.enc default a,A2 7 Contact.enc default b,sI kind] [] (.sl 1 0 (C54 a b kind).length (C54 a b kind).length) [(1, .arr 5 (A8 Api.Event.enc default (C54 a b kind)))]:=by
 refine H8 hm A4 Tryz.func157 rfl rfl ?_;simp only[go_sem,go_sem_proc];refine K0 ev_ K8 (B3m b hb) ?_;simp only[go_sem,go_sem_proc];refine A9 hm (ι:= {i:Nat // i<=a.length}) (λi=> [(2, .share,sI kind),(7, .share, .mp 2),(8,mdA i.1, .sl 1 0 ((a.take i.1).filterMap (evF b kind)).length ((a.take i.1).filterMap (evF b kind)).length),(15, .share,A2 7 Contact.enc default a),(16, .share,sI a.length),(17, .share,sI (i.1:Nat))]) (λi=> [(1, .arr 5 (A8 Api.Event.enc default ((a.take i.1).filterMap (evF b kind)))),(2, .mapS 4 (ibk b b.length))]) (λi=>a.length-i.1) ⟨0,Nat.zero_le _⟩ ?_ ?_
 ·simp only[List.take_zero,List.filterMap_nil];refine B8 [(2,240)] [1] ?_;simp only[go_sem,go_sem_proc];exact eE_
 ·rintro⟨i,hi⟩;dsimp only;have hn:i<a.length->(a.take (i+1)).filterMap (evF b kind)=(a.take i).filterMap (evF b kind)++(evF b kind (a.getD i default)).toList:=λh=>C3q h
  have hfin:a.length<=i->(a.take i).filterMap (evF b kind)=C54 a b kind:=λh=>by rw[show i=a.length by omega,List.take_length];rfl
  have hlen:=C9v (f:=evF b kind) (l:=a) i;generalize(a.take i).filterMap (evF b kind)=v at hn hfin hlen⊢;simp only[go_sem,go_sem_proc];by_cases hlt:i<a.length
  ·rw[if_pos (by omega)];refine⟨bE_,?_⟩;replace hn:=hn hlt;rw[show evF b kind (a.getD i default)=if(A55 b (a.getD i default).Key b.length).isSome=true then none else some ⟨kind,(a.getD i default).Key⟩from rfl]at hn;rw[F34];cases hf:A55 b (a.getD i default).Key b.length with
   |none=>rw[hf]at hn;simp only[Option.isSome_none,Bool.false_eq_true,if_false,Option.toList]at hn;simp only[go_sem,go_sem_proc];refine⟨bE_,?_⟩;refine A7 ⟨i+1,by omega⟩ (by show a.length-(i+1)<a.length-i;omega) ?_;simp only[hn];refine B8 [] [] ?_;simp only[go_sem,go_sem_proc];exact eE_
   |some v=>rw[hf]at hn;simp only[Option.isSome_some,if_true,Option.toList,List.append_nil]at hn;simp only[go_sem,go_sem_proc];refine A7 ⟨i+1,by omega⟩ (by show a.length-(i+1)<a.length-i;omega) ?_;simp only[hn];refine B8 [] [] ?_;simp only[go_sem,go_sem_proc];exact eE_
  ·rw[if_neg (by omega)];rw[<-hfin (by omega)];refine V3 [.share] [] [] ?_;simp only[go_sem,go_sem_proc]
def B8g(old now:List Contact):List Api.Event:=C54 now old 1++C54 old now 2
theorem D4a(old now:List Contact)(ho:old.length<=1048576)(hn:now.length<=1048576):A1 Tryz.prog D5q [A2 7 Contact.enc default old,A2 7 Contact.enc default now] [] (.sl 1 0 (B8g old now).length (B8g old now).length) [(1, .arr 5 (A8 Api.Event.enc default (B8g old now)))]:=by
 have l1:=B23 now old 1
 have l2:=B23 old now 2;refine H8 hm A4 Tryz.func97 rfl rfl ?_;simp only[go_sem,go_sem_proc];refine K0 ev_ K8 (B47 now old 1 hn ho) ?_;simp only[go_sem,go_sem_proc];refine K0 ev_ K8 (B47 old now 2 ho hn) ?_;simp only[go_sem,go_sem_proc];refine⟨bE_,?_⟩;unfold B8g;refine V3 [.share] [(1,128)] [] ?_;simp only[go_sem,go_sem_proc];exact eE_
end Go.Abs
end
noncomputable section
namespace Go.Abs
open Go.Proofs
open Api
theorem B4c {O:List (Nat×A5)}(hn:(O.map (·.1)).Nodup){i:Nat}:(ofL O i).isSome↔i∈O.map (·.1):=by
 constructor
 ·intro h;obtain⟨o,ho⟩:=A85 h;exact List.mem_map_of_mem (f:=(·.1)) ho
 ·intro h;obtain⟨p,hp,rfl⟩:=List.mem_map.1 h;rw[B4d hn hp];rfl
theorem E6 {P:Program}{m:Nat->Option A5}{f:FuncId}{avs:List AV}{b:Bool}{Q:ContR}{O O':List (Nat×A5)}{r:AV}(hc:A1 P f avs O r O')(h:okO O)(h':okO O')(hk: ∀i∈O.map (·.1),i∈O'.map (·.1))(hm: ∀p∈O,m p.1=some p.2)
  (hf: ∀i∈O'.map (·.1),i∉O.map (·.1)->m i=none)(ha: ∀a∈avs,∀i∈a.ids,(ofL O i).isSome)(hb:b=true)(hK: @Ri Q b ⟨some r,O'⟩): @A4x P m f avs b Q:=by
 refine⟨⟨some r,O'⟩,λ_=> ?_,λ_=>hb,hK⟩;have:=T5.mk (P:=P) (m:=m) (avs.map λ_=>true) avs O r O' id [] false hc (B1k ha)
  (λi o hi=>by rw[B51];exact hm _ (A05 h.1 hi))
  (λi cs hi j hj=>h.2 _ (A05 h.1 hi) cs rfl j hj) (λi hi=>(B4c h'.1).2 (hk i ((B4c h.1).1 hi)))
  (λi hi=>by
    by_cases ho:i∈O.map (·.1)
    ·exact .inl ((B4c h.1).2 ho)
    ·exact .inr (hf i ((B4c h'.1).1 hi) ho)) (by simpa using h'.1) (λe=>by cases e)
 simpa[AV.ren_id,D1w]using this
theorem D2e(s:Manifold)(h:s.Points.length<=1048576):A1 Tryz.prog B8n [.agg s.enc] [] (.agg [sI s.Normal.X,sI s.Normal.Y, .sl 1 0 s.Points.length s.Points.length]) [(1, .arr 6 (A8 ContactPoint.enc default s.Points))]:=by refine D1u 8 [(2,some (some 3))] hm A4 Tryz.func95 rfl ?_;simp only[go_sem,go_sem_proc];refine K0 ev_ K8 (A74 s.Points h) ?_;simp only[go_sem,go_sem_proc];refine V3 [.share] [(1,96)] [] ?_;simp only[go_sem,go_sem_proc]
def wsO(q:Sq)(i:Nat):List (Nat×A5):= [(144, .box [.ptr 1 i 0 q.n]),(1, .arr 6 q)]
theorem D9e {q:Sq}{i:Nat}:okO (wsO q i):=by
 refine⟨by simp[wsO],λp hp cs e j hj=> ?_⟩;simp only[wsO,List.mem_cons,List.not_mem_nil,or_false]at hp;rcases hp with rfl |rfl
 ·simp only[A5.box.injEq]at e;subst e;simp[F4,AV.ids]at hj;subst hj;rfl
 ·cases e
theorem D8f(o c:ContactPoint)(q:Sq)(i:Nat)(hi:i<q.n)(hq:q.g i=c.enc):A1 Tryz.prog B1p [.agg o.enc, .ptr 144 0 0 1] (wsO q i) (sB (o.ID==c.ID)) (wsO q i):=by refine H8 hm A4 Tryz.func256 rfl rfl ?_;simp only[go_sem,go_sem_proc,wsO,hq];refine V3 [.share] [] [] ?_;simp only[go_sem,go_sem_proc]
def wsK(old:Manifold)(p:ContactPoint):Int:=A41 default (λo:ContactPoint=>o.ID==p.ID) old.Points
def wsP(old:Manifold)(al:Bool)(p:ContactPoint):ContactPoint:=if al=true/\0<=wsK old p then⟨p.Point,p.Separation,p.ID,(old.Points.getD (wsK old p).toNat default).NormalImpulse,(old.Points.getD (wsK old p).toNat default).TangentImpulse⟩else⟨p.Point,p.Separation,p.ID,0,0⟩
def wsS(old:Manifold)(al:Bool)(i:Nat)(s:List ContactPoint):List ContactPoint:=s.set i (wsP old al (s.getD i default))
def wsA(old now:Manifold):Bool:=decide (32768<=O7 old.Normal now.Normal)
def wsM(old now:Manifold):Manifold:=⟨now.Normal,itr (wsS old (wsA old now)) now.Points.length now.Points⟩
theorem E8b(old:Manifold)(al:Bool)(n:Nat)(l:List ContactPoint):(itr (wsS old al) n l).length=l.length:=T1 (λs:List ContactPoint=>s.length) (λi s=>by simp[wsS]) n l
theorem F9q(old now:Manifold):(wsM old now).Points.length=now.Points.length:=E8b ..
theorem B41(old now:Manifold)(ho:old.Points.length<=1048576)(hn:now.Points.length<=1048576):A1 Tryz.prog C7w [.agg old.enc, .agg now.enc] [] (.agg (wsM old now).enc) []:=by
 have hM:wsM old now=⟨now.Normal,itr (wsS old (wsA old now)) now.Points.length now.Points⟩:=rfl;rw[hM];have hal:wsA old now=decide (32768<=O7 old.Normal now.Normal):=rfl;refine L5 63 [(4,some (some 3))] hm A4 Tryz.func156 rfl ?_;simp only[go_sem,go_sem_proc];refine K0 ev_ K8 (D2e now hn) ?_;simp only[go_sem,go_sem_proc];refine A0 (Z3 old.Normal now.Normal) rfl ?_;simp only[go_sem,go_sem_proc];rw[show(decide (O7 old.Normal now.Normal>=32768))=wsA old now from rfl];generalize wsA old now=al;have hB:=E8b old al;refine A9 hm (ι:= {i:Nat // i<=now.Points.length}) (λi=> [(2, .share, .ptr 48 0 0 1),(4, .share, .ptr 80 0 0 1),(5, .share, .ptr 96 0 0 1),(6, .share,sB al),(20, .share,sI now.Points.length),(21, .share,sI (i.1:Nat))]) (λi=> [(48, .box old.enc),(80, .box [sI 0,sI 0, .sc (.slice none 0 0)]),(96, .box [sI now.Normal.X,sI now.Normal.Y, .sl 1 0 now.Points.length now.Points.length]),(1, .arr 6 (A8 ContactPoint.enc default (itr (wsS old al) i.1 now.Points)))]) (λi=>now.Points.length-i.1) ⟨0,Nat.zero_le _⟩ ?_ ?_
 ·simp only[H5];refine B8 [(1,192)] [] ?_;simp only[go_sem,go_sem_proc]
 ·rintro⟨i,hi⟩;dsimp only;have hl:=hB i now.Points
  have hn1:itr (wsS old al) (i+1) now.Points=wsS old al i (itr (wsS old al) i now.Points):=rfl
  have hfin:now.Points.length<=i->itr (wsS old al) i now.Points=itr (wsS old al) now.Points.length now.Points:=λh=>by rw[show i=now.Points.length by omega]
  generalize itr (wsS old al) i now.Points=v at hl hn1 hfin⊢;simp only[go_sem,go_sem_proc];by_cases hlt:i<now.Points.length;rotate_left
  ·rw[if_neg (by omega),<-hfin (by omega)];refine⟨hl.symm,?_⟩;rw[hl];exact I7 _
  rw[if_pos (by omega)];have hc:=A5r old.Points B1p [] [.ptr 144 0 0 1] (wsO ((A8 ContactPoint.enc default v).set i (⟨(v.getD i default).Point,(v.getD i default).Separation,(v.getD i default).ID,0,0⟩:ContactPoint).enc) i) (λo=>o.ID==(v.getD i default).ID) (by omega) D9e
   (by intro j hj;simp[AV.ids,F4]at hj;subst hj;exact rfl) (λo _=>D8f o ⟨(v.getD i default).Point,(v.getD i default).Separation,(v.getD i default).ID,0,0⟩ _ i (by show i<v.length;omega) (by simp only[go_sem,go_sem_proc]))
  have hk:=E8d (d:=default) (p:=λo:ContactPoint=>o.ID==(v.getD i default).ID) (l:=old.Points)
  have hP:wsS old al i v=v.set i (wsP old al (v.getD i default)):=rfl;unfold wsP wsK at hP;generalize A41 default (λo:ContactPoint=>o.ID==(v.getD i default).ID) old.Points=k at hc hk hP;refine⟨bE_,by omega,by omega,?_⟩;refine E6 hc D9e D9e (by simp[wsO]) (by simp[wsO,upd,hl,go_sem,go_sem_proc]) (by simp[wsO]) ?_ rfl ?_
  ·intro a ha j hj;simp only[List.mem_cons,List.not_mem_nil,or_false]at ha;rcases ha with rfl |rfl
   ·simp[AV.ids]at hj
   ·simp[AV.ids,F4]at hj;subst hj;exact rfl
  simp only[go_sem,go_sem_proc,wsO];by_cases h:(al&&decide (0<=k))=true
  ·rw[if_pos h];rw[if_pos (show al=true/\0<=k by simpa using h)]at hP;have h0:0<=k:=by simp at h;exact h.2
   refine⟨bE_,bE_,?_⟩;refine A7 ⟨i+1,by omega⟩ (by show now.Points.length-(i+1)<now.Points.length-i;omega) ?_;simp only[hn1,hP];refine B8 [] [] ?_;simp only[go_sem,go_sem_proc]
   (repeat' (with_reducible apply And.intro)) <;> first |exact A2k _ (by omega) rfl rfl |exact eE_
  ·rw[if_neg h];rw[if_neg (show ¬(al=true/\0<=k)by simpa using h)]at hP;refine A7 ⟨i+1,by omega⟩ (by show now.Points.length-(i+1)<now.Points.length-i;omega) ?_;simp only[hn1,hP];refine B8 [] [] ?_;simp only[go_sem,go_sem_proc]
   (repeat' (with_reducible apply And.intro)) <;> first |exact A2k _ (by omega) rfl rfl |exact eE_
def D9a(x:sap_Entry):Int:=x.Bounds.Min.X
def F5p(x:sap_Entry):Int:=x.Bounds.Max.X
def B5a(a b:sap_Entry):Bool:= !decide (F5p a<D9a b)
def nbI(a:sap_Entry)(l:List sap_Entry):List (sap_Entry×sap_Entry):=(l.takeWhile (B5a a)).map λb=>(a,b)
def nbP(l:List sap_Entry):Nat->List (sap_Entry×sap_Entry)
 |0=> []
 |i+1=>nbP l i++nbI (l.getD i default) (l.drop (i+1))
def C15(l:List sap_Entry):List (sap_Entry×sap_Entry):=nbP l l.length
def F0b(p:sap_Entry×sap_Entry):List AV:= [.agg p.1.enc, .agg p.2.enc]
theorem F3z(a:sap_Entry): ∀(m:List sap_Entry) (j:Nat),j<=m.length->(∀k,k<j->B5a a (m.getD k default)=true)->(j=m.length\/B5a a (m.getD j default)=false)->nbI a m=(m.take j).map λb=>(a,b)
 | [],j,hj,_,_=>by simp at hj;subst hj;rfl
 |b::m,0,_,_,h=>by
  rcases h with h |h
  ·simp at h
  ·simp only[List.getD_cons_zero]at h;simp[nbI,List.takeWhile,h]
 |b::m,j+1,hj,hk,h=>by have h0:=hk 0 (by omega);simp only[List.getD_cons_zero]at h0;have ih:=F3z a m j (by simpa using hj) (λk hk'=>by have:=hk (k+1) (by omega);simpa using this) (by rcases h with h |h;exact .inl (by simpa using h);exact .inr (by simpa using h));unfold nbI at ih⊢;rw[List.takeWhile_cons,if_pos h0,List.map_cons,ih,List.take_succ_cons,List.map_cons]
theorem F4s(l:List sap_Entry): ∀i,i<=l.length->(nbP l i).length<=(C15 l).length:=by
 have mono: ∀k i,(nbP l i).length<=(nbP l (i+k)).length:=by
  intro k;induction k with
  |zero=>intro i;exact Nat.le_refl _
  |succ k ih=>intro i;refine Nat.le_trans (ih i) ?_;rw[show i+(k+1)=(i+k)+1 by omega,nbP,List.length_append];omega
 intro i hi;have:=mono (l.length-i) i;rwa[show i+(l.length-i)=l.length by omega]at this
theorem E8p(a:sap_Entry): ∀(m:List sap_Entry) (j:Nat),j<m.length->(∀k,k<=j->B5a a (m.getD k default)=true)->j+1<=(m.takeWhile (B5a a)).length
 | [],j,hj,_=>by simp at hj
 |b::m,j,hj,hk=>by
  have h0:=hk 0 (by omega);simp only[List.getD_cons_zero]at h0;rw[List.takeWhile_cons,if_pos h0,List.length_cons];cases j with
  |zero=>omega
  |succ j=>have:=E8p a m j (by simpa using hj) (λk hk'=>by have:=hk (k+1) (by omega);simpa using this);omega
theorem F3o(l:List sap_Entry)(i j:Nat)(hi:i<l.length)(hj:j<(l.drop (i+1)).length)(hk: ∀k,k<=j->B5a (l.getD i default) ((l.drop (i+1)).getD k default)=true):
  (nbP l i++((l.drop (i+1)).take j).map λb=>(l.getD i default,b)).length<(C15 l).length:=by
 refine Nat.lt_of_lt_of_le ?_ (F4s l (i+1) hi);rw[nbP,List.length_append,List.length_append];have:=E8p (l.getD i default) (l.drop (i+1)) j hj hk;unfold nbI;rw[List.length_map,List.length_map];have h2:((l.drop (i+1)).take j).length=j:=by rw[List.length_take];omega
 omega
theorem F4x(l:List sap_Entry)(i:Nat){z:Nat}{g:Nat->List AV}{n:Nat}(hn:n=l.length-(i+1))(hg: ∀k,g k=sap_Entry.enc (l.getD (i+1+k) default)):M4 (.dsl z n g) (.dsl z (l.drop (i+1)).length (L7 sap_Entry.enc default (l.drop (i+1)))):=by subst hn;rw[A1z];refine⟨rfl,by rw[List.length_drop],λk hk=> ?_⟩;rw[hg];unfold L7;rw[show(l.drop (i+1)).getD k default=l.getD (i+1+k) default by simp[List.getD]];exact L3 _
theorem E3i(l:List sap_Entry)(hl:l.length<=1048576):F7i Tryz.prog A9s [.fptr [A2 5 sap_Entry.enc default l]] F0b (C15 l):=by
 rintro I hE hB us W G Φ hr hlt hJ hd;refine F4n (T:= [(0, .share, .fn (.yield I.l) [] []),(1, .share, .fptr [A2 5 sap_Entry.enc default l])]) Tryz.func465 (by kernel_rfl) (cs2 A4 rfl) (by kernel_rfl) (Nat.le_of_ble_eq_true (by kernel_rfl)) hr hlt hJ hd ?_ ?_
 ·intro t av ht;simp only[A1o]at ht;split at ht
  ·rename_i e;subst e;simpa using ht
  ·split at ht
   ·rename_i e;subst e;simpa using ht
   ·cases ht
 refine Yp.seq (Yp.plainN hm [(0, .share, .fn (.yield I.l) [] []),(1, .share, .fptr [A2 5 sap_Entry.enc default l]),(7, .share,A2 5 sap_Entry.enc default l),(8, .share,sI l.length),(9, .share,sI (0:Nat))] ?_ ?_)
 ·simp only[go_sem,go_sem_proc];refine B5 [] [] (by simp[go_sem]) (by simp[A6,go_sem]) (by simp[go_sem]) ?_;simp only[go_sem,go_sem_proc]
 refine Yp.block (Yp.loop (ι:= {i:Nat // i<=l.length}) (λi=> [(0, .share, .fn (.yield I.l) [] []),(1, .share, .fptr [A2 5 sap_Entry.enc default l]),(7, .share,A2 5 sap_Entry.enc default l),(8, .share,sI l.length),(9, .share,sI (i.1:Nat))]) (λi=>nbP l i.1) (λi=>l.length-i.1) ⟨0,Nat.zero_le _⟩ ?_);rintro⟨i,hi⟩;dsimp only;by_cases h:i<l.length
 ·refine Yp.seq (Yp.plainN hm [(0, .share, .fn (.yield I.l) [] []),(1, .share, .fptr [A2 5 sap_Entry.enc default l]),(7, .share,A2 5 sap_Entry.enc default l),(8, .share,sI l.length),(9, .share,sI (i:Nat)),(10, .share,sB true)] ?_ ?_)
  ·simp only[go_sem,go_sem_proc];refine B5 [] [] (by simp[go_sem]) (by simp[A6,go_sem]) (by simp[go_sem]) ?_;simp only[go_sem,go_sem_proc];simpa using h
  refine Yp.seq (Yp.cond (t:=true) rfl ?_);rw[if_pos rfl];refine Yp.skip hm ?_;refine Yp.seq (Yp.block (Yp.seq (Yp.plainN hm [(0, .share, .fn (.yield I.l) [] []),(1, .share, .fptr [A2 5 sap_Entry.enc default l]),(7, .share,A2 5 sap_Entry.enc default l),(8, .share,sI l.length),(9, .share,sI (i:Nat)),(3, .share,sI i),(4, .thaw, .fptr (l.getD i default).enc)] ?_ ?_)))
  ·simp only[go_sem,go_sem_proc];refine⟨⟨by omega,by omega⟩,?_⟩;refine B5 [] [] (by simp[go_sem]) (by simp[A6,go_sem]) (by simp[go_sem]) ?_;simp only[go_sem,go_sem_proc];exact⟨trivial,I7 _⟩
  refine Yp.seq (Yp.plainN hm [(0, .share, .fn (.yield I.l) [] []),(1, .share, .fptr [A2 5 sap_Entry.enc default l]),(7, .share,A2 5 sap_Entry.enc default l),(8, .share,sI l.length),(9, .share,sI (i:Nat)),(4, .thaw, .fptr (l.getD i default).enc),(17, .thaw,A2 5 sap_Entry.enc default (l.drop (i+1))),(18, .share,sI ((l.drop (i+1)).length)),(19, .share,sI (0:Nat))] ?_ ?_)
  ·simp only[go_sem,go_sem_proc];refine⟨⟨by rw[IntKind.wrap_i64];omega,by rw[IntKind.wrap_i64];omega⟩,?_⟩;refine B5 [] [] (by simp[go_sem]) (by simp[A6,go_sem]) (by simp[go_sem]) ?_;simp only[go_sem,go_sem_proc];have hw:IntKind.i64.wrap ((i:Int)+1)=(i:Int)+1:=by rw[IntKind.wrap_i64];omega
   have hw2:((i:Int)+1).toNat=i+1:=by omega
   rw[hw,hw2];exact⟨F4x l i (by omega) λk=>rfl,by rw[List.length_drop];omega⟩
  have tail: ∀T':H7,Y2 [] (A1x T' []) [(0, .share, .fn (.yield I.l) [] []),(1, .share, .fptr [A2 5 sap_Entry.enc default l]),(7, .share,A2 5 sap_Entry.enc default l),(8, .share,sI l.length),(9, .share,sI (i:Nat))] []->Yp I Tryz.f465.ntmps (.region false [⟨some 38, .bin .add (.t 9) (.k (sI 1)),none,[]⟩,⟨some 9, .mov (.t 38),none,[]⟩]) (F03 (λT' p'=> ∃i',(λi=>l.length-i.1) i'<l.length-i/\T'=(λi: {i:Nat // i<=l.length}=> [(0, .share, .fn (.yield I.l) [] []),(1, .share, .fptr [A2 5 sap_Entry.enc default l]),(7, .share,A2 5 sap_Entry.enc default l),(8, .share,sI l.length),(9, .share,sI (i.1:Nat))]) i'/\p'=(λi: {i:Nat // i<=l.length}=>nbP l i.1) i') (E5y 0 λo x p=>(o=Out.normal\/o=Out.ret)/\p=C15 l)) T' (nbP l (i+1)):=by
   intro T' hT';refine Yp.plain (Wp.weak hT' (Wp.of_W hm _ (show @Wi Tryz.prog _ [] _ (⟨λo τ=>o= .normal/\Y2 [] τ [(0, .share, .fn (.yield I.l) [] []),(1, .share, .fptr [A2 5 sap_Entry.enc default l]),(7, .share,A2 5 sap_Entry.enc default l),(8, .share,sI l.length),(9, .share,sI (i+1:Nat))] []⟩) _ from ?_))|>.mono λo τ ho=> ?_)
   ·simp only[go_sem,go_sem_proc];refine B5 [] [] (by simp[go_sem]) (by simp[A6,go_sem]) (by simp[go_sem]) ?_;simp only[go_sem,go_sem_proc];rw[IntKind.wrap_i64];omega
   ·obtain⟨rfl,ho⟩:=ho;exact⟨_,⟨⟨i+1,h⟩,by show l.length-(i+1)<l.length-i;omega,rfl,rfl⟩,ho⟩
  refine Yp.block (Yp.pre_eq (pre':=nbP l i++((l.drop (i+1)).take 0).map λb=>(l.getD i default,b)) (by simp) (Yp.loop (ι:= {j:Nat // j<=(l.drop (i+1)).length/\ ∀k,k<j->B5a (l.getD i default) ((l.drop (i+1)).getD k default)=true}) (λj=> [(0, .share, .fn (.yield I.l) [] []),(1, .share, .fptr [A2 5 sap_Entry.enc default l]),(7, .share,A2 5 sap_Entry.enc default l),(8, .share,sI l.length),(9, .share,sI (i:Nat)),(4, .thaw, .fptr (l.getD i default).enc),(17, .thaw,A2 5 sap_Entry.enc default (l.drop (i+1))),(18, .share,sI ((l.drop (i+1)).length)),(19, .share,sI (j.1:Nat))]) (λj=>nbP l i++((l.drop (i+1)).take j.1).map λb=>(l.getD i default,b)) (λj=>(l.drop (i+1)).length-j.1) ⟨0,Nat.zero_le _,λk hk=>by omega⟩ ?_));rintro⟨j,hj,hk⟩;dsimp only;have hdl:(l.drop (i+1)).length=l.length-(i+1):=List.length_drop
  have fin:(j=(l.drop (i+1)).length\/B5a (l.getD i default) ((l.drop (i+1)).getD j default)=false)->nbP l i++(((l.drop (i+1)).take j).map λb=>(l.getD i default,b))=nbP l (i+1):=λhe=>by rw[nbP,F3z (l.getD i default) (l.drop (i+1)) j hj hk he]
  by_cases h2:j<(l.drop (i+1)).length
  ·refine Yp.seq (Yp.plainN hm [(0, .share, .fn (.yield I.l) [] []),(1, .share, .fptr [A2 5 sap_Entry.enc default l]),(7, .share,A2 5 sap_Entry.enc default l),(8, .share,sI l.length),(9, .share,sI (i:Nat)),(4, .thaw, .fptr (l.getD i default).enc),(17, .thaw,A2 5 sap_Entry.enc default (l.drop (i+1))),(18, .share,sI ((l.drop (i+1)).length)),(19, .share,sI (j:Nat)),(20, .share,sB true)] ?_ ?_)
   ·simp only[go_sem,go_sem_proc];refine B5 [] [] (by simp[go_sem]) (by simp[A6,go_sem]) (by simp[go_sem]) ?_;simp only[go_sem,go_sem_proc];omega
   refine Yp.seq (Yp.cond (t:=true) rfl ?_);rw[if_pos rfl];refine Yp.skip hm ?_;refine Yp.seq (Yp.block (Yp.seq (Yp.plainN hm [(0, .share, .fn (.yield I.l) [] []),(1, .share, .fptr [A2 5 sap_Entry.enc default l]),(7, .share,A2 5 sap_Entry.enc default l),(8, .share,sI l.length),(9, .share,sI (i:Nat)),(4, .thaw, .fptr (l.getD i default).enc),(17, .thaw,A2 5 sap_Entry.enc default (l.drop (i+1))),(18, .share,sI ((l.drop (i+1)).length)),(19, .share,sI (j:Nat)),(6, .thaw, .fptr ((l.drop (i+1)).getD j default).enc)] ?_ ?_)))
   ·simp only[go_sem,go_sem_proc];refine⟨⟨by omega,by omega⟩,?_⟩;refine B5 [] [] (by simp[go_sem]) (by simp[A6,go_sem]) (by simp[go_sem]) ?_;simp only[go_sem,go_sem_proc]
    all_goals((repeat' (with_reducible apply And.intro)) <;> trivial)
   by_cases hb:B5a (l.getD i default) ((l.drop (i+1)).getD j default)=true
   ·have hb': ¬F5p (l.getD i default)<D9a ((l.drop (i+1)).getD j default):=by simpa[B5a]using hb
    refine Yp.seq (Yp.seq (Yp.plainN hm [(0, .share, .fn (.yield I.l) [] []),(1, .share, .fptr [A2 5 sap_Entry.enc default l]),(7, .share,A2 5 sap_Entry.enc default l),(8, .share,sI l.length),(9, .share,sI (i:Nat)),(4, .thaw, .fptr (l.getD i default).enc),(17, .thaw,A2 5 sap_Entry.enc default (l.drop (i+1))),(18, .share,sI ((l.drop (i+1)).length)),(19, .share,sI (j:Nat)),(6, .thaw, .fptr ((l.drop (i+1)).getD j default).enc),(31, .share,sB false)] ?_ ?_))
    ·simp only[go_sem,go_sem_proc];refine B5 [] [] (by simp[go_sem]) (by simp[A6,go_sem]) (by simp[go_sem]) ?_;simp only[go_sem,go_sem_proc];exact decide_eq_false hb'
    refine Yp.cond (t:=false) rfl ?_;rw[if_neg (by simp)];refine Yp.skip hm ?_;refine Yp.seq (Yp.yieldI (pr:= [_,_,_]) (po:= [_]) (d:=35) (x:= .t 32) (xs:= [.t 33, .t 34]) (l.getD i default,(l.drop (i+1)).getD j default) [(0, .share, .fn (.yield I.l) [] []),(1, .share, .fptr [A2 5 sap_Entry.enc default l]),(7, .share,A2 5 sap_Entry.enc default l),(8, .share,sI l.length),(9, .share,sI (i:Nat)),(4, .thaw, .fptr (l.getD i default).enc),(17, .thaw,A2 5 sap_Entry.enc default (l.drop (i+1))),(18, .share,sI ((l.drop (i+1)).length)),(19, .share,sI (j:Nat)),(36, .share,sB false)] ?_ ?_ ?_ ?_)
    ·rw[hB];exact F3o l i j h h2 λk hk'=>by
      rcases Nat.lt_or_ge k j with h3 |h3
      ·exact hk k h3
      ·obtain rfl:k=j:=by omega
       exact hb
    ·rw[hE];intro av hav;simp only[F0b,List.mem_cons,List.not_mem_nil,or_false]at hav;rcases hav with rfl |rfl <;> exact⟨rfl,rfl⟩
    ·simp only[go_sem,go_sem_proc,F3j];refine⟨by rw[hE];rfl,?_⟩;refine B5 [] [] (by simp[go_sem]) (by simp[A6,go_sem]) (by simp[go_sem]) ?_;simp only[go_sem,go_sem_proc]
    refine Yp.cond (t:=false) rfl ?_;rw[if_neg (by simp)];refine Yp.skip hm ?_;refine Yp.plainN hm [(0, .share, .fn (.yield I.l) [] []),(1, .share, .fptr [A2 5 sap_Entry.enc default l]),(7, .share,A2 5 sap_Entry.enc default l),(8, .share,sI l.length),(9, .share,sI (i:Nat)),(4, .thaw, .fptr (l.getD i default).enc),(17, .thaw,A2 5 sap_Entry.enc default (l.drop (i+1))),(18, .share,sI ((l.drop (i+1)).length)),(19, .share,sI (j+1:Nat))] ?_ ⟨⟨j+1,h2,λk hk'=>by
      rcases Nat.lt_or_ge k j with h3 |h3
      ·exact hk k h3
      ·obtain rfl:k=j:=by omega
       exact hb⟩,by show(l.drop (i+1)).length-(j+1)<(l.drop (i+1)).length-j;omega,rfl,?_⟩
    ·simp only[go_sem,go_sem_proc];refine B5 [] [] (by simp[go_sem]) (by simp[A6,go_sem]) (by simp[go_sem]) ?_;simp only[go_sem,go_sem_proc];rw[IntKind.wrap_i64];omega
    ·show _=nbP l i++((l.drop (i+1)).take (j+1)).map λb=>(l.getD i default,b);rw[K9 default h2,List.map_append,List.append_assoc];rfl
   ·have hb':F5p (l.getD i default)<D9a ((l.drop (i+1)).getD j default):=by simpa[B5a]using hb
    refine Yp.seq (Yp.seq (Yp.plainN hm [(0, .share, .fn (.yield I.l) [] []),(1, .share, .fptr [A2 5 sap_Entry.enc default l]),(7, .share,A2 5 sap_Entry.enc default l),(8, .share,sI l.length),(9, .share,sI (i:Nat)),(4, .thaw, .fptr (l.getD i default).enc),(17, .thaw,A2 5 sap_Entry.enc default (l.drop (i+1))),(18, .share,sI ((l.drop (i+1)).length)),(19, .share,sI (j:Nat)),(6, .thaw, .fptr ((l.drop (i+1)).getD j default).enc),(31, .share,sB true)] ?_ ?_))
    ·simp only[go_sem,go_sem_proc];refine B5 [] [] (by simp[go_sem]) (by simp[A6,go_sem]) (by simp[go_sem]) ?_;simp only[go_sem,go_sem_proc];exact hb'
    refine Yp.cond (t:=true) rfl ?_;rw[if_pos rfl];refine Yp.exit ?_;show Yp I _ _ _ _ _;rw[fin (.inr (by simpa using hb))];refine tail _ ?_;refine B5 [] [] (by simp[go_sem]) (by simp[A6,go_sem]) (by simp[go_sem]) ?_;simp only[go_sem,go_sem_proc]
  ·refine Yp.seq (Yp.plainN hm [(0, .share, .fn (.yield I.l) [] []),(1, .share, .fptr [A2 5 sap_Entry.enc default l]),(7, .share,A2 5 sap_Entry.enc default l),(8, .share,sI l.length),(9, .share,sI (i:Nat)),(4, .thaw, .fptr (l.getD i default).enc),(17, .thaw,A2 5 sap_Entry.enc default (l.drop (i+1))),(18, .share,sI ((l.drop (i+1)).length)),(19, .share,sI (j:Nat)),(20, .share,sB false)] ?_ ?_)
   ·simp only[go_sem,go_sem_proc];refine B5 [] [] (by simp[go_sem]) (by simp[A6,go_sem]) (by simp[go_sem]) ?_;simp only[go_sem,go_sem_proc]
    trace_state
    simpa using h2
   refine Yp.seq (Yp.cond (t:=false) rfl ?_);rw[if_neg (by simp)];refine Yp.exit ?_;show Yp I _ _ _ _ _;rw[fin (.inl (by omega))];refine tail _ ?_;refine B5 [] [] (by simp[go_sem]) (by simp[A6,go_sem]) (by simp[go_sem]) ?_;simp only[go_sem,go_sem_proc]
 ·refine Yp.seq (Yp.plainN hm [(0, .share, .fn (.yield I.l) [] []),(1, .share, .fptr [A2 5 sap_Entry.enc default l]),(7, .share,A2 5 sap_Entry.enc default l),(8, .share,sI l.length),(9, .share,sI (i:Nat)),(10, .share,sB false)] ?_ ?_)
  ·simp only[go_sem,go_sem_proc];refine B5 [] [] (by simp[go_sem]) (by simp[A6,go_sem]) (by simp[go_sem]) ?_;simp only[go_sem,go_sem_proc]
   trace_state
   simpa using h
  refine Yp.seq (Yp.cond (t:=false) rfl ?_);rw[if_neg (by simp)];refine Yp.exit ?_;obtain rfl:i=l.length:=by omega
  exact⟨.inl rfl,rfl⟩
end Go.Abs
end
noncomputable section
namespace Go.Proofs
open Go.Shelf
def Tryz.lays189_ren:Go.Shelf.Ren:=⟨λ|189=>268 |125=>373 |257=>402 |128=>479 |129=>480 |294=>502 |295=>503 |296=>504 |297=>505 |298=>506 |299=>507 |216=>188 |300=>508 |301=>509 |328=>546 |329=>536 |330=>537 |331=>547 |332=>548 |215=>319 |343=>569 |n=>n,λ|28=>43 |3=>3 |46=>290 |0=>0 |51=>500 |53=>151 |4=>4 |183=>512 |182=>511 |131=>205 |5=>5 |9=>9 |218=>562 |222=>566 |228=>588 |229=>303 |n=>n,λ|n=>n⟩
theorem Tryz.lays189:Go.Proofs.Lays.n189 Tryz.prog Tryz.lays189_ren:= {
 mixed:=by kernel_rfl
 f125:=Tryz.func373.trans (congrArg some (by kernel_rfl))
 f128:=Tryz.func479.trans (congrArg some (by kernel_rfl))
 f129:=Tryz.func480.trans (congrArg some (by kernel_rfl))
 f189:=Tryz.func268.trans (congrArg some (by kernel_rfl))
 f215:=Tryz.func319.trans (congrArg some (by kernel_rfl))
 f216:=Tryz.func188.trans (congrArg some (by kernel_rfl))
 f257:=Tryz.func402.trans (congrArg some (by kernel_rfl))
 f294:=Tryz.func502.trans (congrArg some (by kernel_rfl))
 f295:=Tryz.func503.trans (congrArg some (by kernel_rfl))
 f296:=Tryz.func504.trans (congrArg some (by kernel_rfl))
 f297:=Tryz.func505.trans (congrArg some (by kernel_rfl))
 f298:=Tryz.func506.trans (congrArg some (by kernel_rfl))
 f299:=Tryz.func507.trans (congrArg some (by kernel_rfl))
 f300:=Tryz.func508.trans (congrArg some (by kernel_rfl))
 f301:=Tryz.func509.trans (congrArg some (by kernel_rfl))
 f328:=Tryz.func546.trans (congrArg some (by kernel_rfl))
 f329:=Tryz.func536.trans (congrArg some (by kernel_rfl))
 f330:=Tryz.func537.trans (congrArg some (by kernel_rfl))
 f331:=Tryz.func547.trans (congrArg some (by kernel_rfl))
 f332:=Tryz.func548.trans (congrArg some (by kernel_rfl))
 f343:=Tryz.func569.trans (congrArg some (by kernel_rfl))
 t0:=Tryz.underlying0
 a0:=Tryz.isAgg0
 z0:=Tryz.sizeOf0
 v0:=Tryz.zeroValue0
 t3:=Tryz.underlying3
 a3:=Tryz.isAgg3
 z3:=Tryz.sizeOf3
 v3:=Tryz.zeroValue3
 t4:=Tryz.underlying4
 a4:=Tryz.isAgg4
 z4:=Tryz.sizeOf4
 v4:=Tryz.zeroValue4
 t5:=Tryz.underlying5
 a5:=Tryz.isAgg5
 z5:=Tryz.sizeOf5
 v5:=Tryz.zeroValue5
 t9:=Tryz.underlying9
 a9:=Tryz.isAgg9
 z9:=Tryz.sizeOf9
 v9:=Tryz.zeroValue9
 t28:=Tryz.underlying43
 a28:=Tryz.isAgg43
 z28:=Tryz.sizeOf43
 v28:=Tryz.zeroValue43
 t46:=Tryz.underlying290
 a46:=Tryz.isAgg290
 z46:=Tryz.sizeOf290
 v46:=Tryz.zeroValue290
 t51:=Tryz.underlying500
 a51:=Tryz.isAgg500
 z51:=Tryz.sizeOf500
 v51:=Tryz.zeroValue500
 t53:=Tryz.underlying151
 a53:=Tryz.isAgg151
 z53:=Tryz.sizeOf151
 v53:=Tryz.zeroValue151
 t131:=Tryz.underlying205
 a131:=Tryz.isAgg205
 z131:=Tryz.sizeOf205
 v131:=Tryz.zeroValue205
 t182:=Tryz.underlying511
 a182:=Tryz.isAgg511
 z182:=Tryz.sizeOf511
 v182:=Tryz.zeroValue511
 t183:=Tryz.underlying512
 a183:=Tryz.isAgg512
 z183:=Tryz.sizeOf512
 v183:=Tryz.zeroValue512
 t218:=Tryz.underlying562
 a218:=Tryz.isAgg562
 z218:=Tryz.sizeOf562
 v218:=Tryz.zeroValue562
 t222:=Tryz.underlying566
 a222:=Tryz.isAgg566
 z222:=Tryz.sizeOf566
 v222:=Tryz.zeroValue566
 t228:=Tryz.underlying588
 a228:=Tryz.isAgg588
 z228:=Tryz.sizeOf588
 v228:=Tryz.zeroValue588
 t229:=Tryz.underlying303
 a229:=Tryz.isAgg303
 z229:=Tryz.sizeOf303
 v229:=Tryz.zeroValue303}
open Go.Sort Go.RowKit in
theorem Tryz.slices_Sort_int(blk off cap:Nat)(zs:List Int)(w:World)(hH:Holds (Value.int .i64) w blk off zs.toArray)(hblk:blk<w.heap.size)(hsz:zs.length<4611686018427387904):
  Calls Tryz.prog 268 #[.slice (some ⟨blk,off,none⟩) zs.length cap] w λe w'=>e= .returned (.tuple #[])/\ ∃n os,w'=grow (putRow (Value.int .i64) (Sort.ahead w n) blk off (zs.mergeSort λx y=>decide (x<=y)).toArray) os:=Any.slices_Sort_int Tryz.lays189 blk off cap zs w hH hblk hsz
def Tryz.laysNm220_ren:Go.Shelf.Ren:=⟨λ|20=>269 |n=>n,λ|22=>43 |3=>3 |4=>4 |0=>0 |n=>n,λ|n=>n⟩
theorem Tryz.laysNm220:Go.Proofs.Lays2.n20 Tryz.prog Tryz.laysNm220_ren:= {
 mixed:=by kernel_rfl
 f20:=Tryz.func269.trans (congrArg some (by kernel_rfl))
 t0:=Tryz.underlying0
 a0:=Tryz.isAgg0
 z0:=Tryz.sizeOf0
 v0:=Tryz.zeroValue0
 t3:=Tryz.underlying3
 a3:=Tryz.isAgg3
 z3:=Tryz.sizeOf3
 v3:=Tryz.zeroValue3
 t4:=Tryz.underlying4
 a4:=Tryz.isAgg4
 z4:=Tryz.sizeOf4
 v4:=Tryz.zeroValue4
 t22:=Tryz.underlying43
 a22:=Tryz.isAgg43
 z22:=Tryz.sizeOf43
 v22:=Tryz.zeroValue43
 i3:=by kernel_rfl}
open Go.RowKit Go.Lib Go.Sort in
theorem Tryz.slices_Compact_int(blk off cap:Nat)(zs:List Int)(w:World)(hH:Holds (Value.int .i64) w blk off zs.toArray)(hsz:zs.length<=9223372036854775807)(hcap:zs.length<=cap):
  Calls Tryz.prog 269 #[.slice (some ⟨blk,off,none⟩) zs.length cap] w λe w'=>e= .returned (.slice (some ⟨blk,off,none⟩) (Lib.compact zs).length cap)/\ ∃q,w'=putRow (Value.int .i64) (Sort.ahead w q) blk off (Lib.compact zs++List.replicate (zs.length-(Lib.compact zs).length) 0).toArray:=Any.slices_Compact_int Tryz.laysNm220 blk off cap zs w hH hsz hcap
open Go.RowKit Go.Lib Go.Sort in
theorem Tryz.slices_Compact_int_empty(a:Option Addr)(cap:Nat)(w:World):
  Calls Tryz.prog 269 #[.slice a 0 cap] w λe w'=>e= .returned (.slice a 0 cap)/\w'=w:=Any.slices_Compact_int_empty Tryz.laysNm220 a cap w
open Go.RowKit Go.Sort in
theorem Tryz.slices_Sort_int_none(p:Option Addr)(cap:Nat)(w:World):
  Calls Tryz.prog 268 #[.slice p 0 cap] w λe w'=>e= .returned (.tuple #[])/\w'=w:=Any.slices_Sort_int_none Tryz.lays189 p cap w
def Tryz.laySF_PairKey_ren:Go.Shelf.Ren:=⟨λ|6=>246 |15=>373 |14=>372 |28=>479 |29=>480 |20=>471 |21=>472 |22=>473 |23=>474 |24=>475 |25=>476 |26=>477 |27=>478 |46=>535 |47=>536 |48=>537 |49=>538 |50=>539 |57=>566 |n=>n,λ|22=>29 |24=>129 |25=>352 |3=>3 |39=>290 |0=>0 |53=>500 |55=>151 |4=>4 |46=>512 |45=>511 |50=>205 |5=>5 |9=>9 |66=>562 |70=>566 |76=>588 |77=>303 |n=>n,λ|n=>n⟩
theorem Tryz.laySF_PairKey:Go.Proofs.SlLaysF0.n6 Tryz.prog Tryz.laySF_PairKey_ren:= {
 mixed:=by kernel_rfl
 f6:=⟨Tryz.f246.name,by decide,Tryz.func246.trans (congrArg some (by kernel_rfl))⟩
 f14:=⟨Tryz.f372.name,by decide,Tryz.func372.trans (congrArg some (by kernel_rfl))⟩
 f15:=Tryz.func373.trans (congrArg some (by kernel_rfl))
 f20:=⟨Tryz.f471.name,by decide,Tryz.func471.trans (congrArg some (by kernel_rfl))⟩
 f21:=⟨Tryz.f472.name,by decide,Tryz.func472.trans (congrArg some (by kernel_rfl))⟩
 f22:=⟨Tryz.f473.name,by decide,Tryz.func473.trans (congrArg some (by kernel_rfl))⟩
 f23:=⟨Tryz.f474.name,by decide,Tryz.func474.trans (congrArg some (by kernel_rfl))⟩
 f24:=⟨Tryz.f475.name,by decide,Tryz.func475.trans (congrArg some (by kernel_rfl))⟩
 f25:=⟨Tryz.f476.name,by decide,Tryz.func476.trans (congrArg some (by kernel_rfl))⟩
 f26:=⟨Tryz.f477.name,by decide,Tryz.func477.trans (congrArg some (by kernel_rfl))⟩
 f27:=⟨Tryz.f478.name,by decide,Tryz.func478.trans (congrArg some (by kernel_rfl))⟩
 f28:=Tryz.func479.trans (congrArg some (by kernel_rfl))
 f29:=Tryz.func480.trans (congrArg some (by kernel_rfl))
 f46:=⟨Tryz.f535.name,by decide,Tryz.func535.trans (congrArg some (by kernel_rfl))⟩
 f47:=Tryz.func536.trans (congrArg some (by kernel_rfl))
 f48:=Tryz.func537.trans (congrArg some (by kernel_rfl))
 f49:=⟨Tryz.f538.name,by decide,Tryz.func538.trans (congrArg some (by kernel_rfl))⟩
 f50:=⟨Tryz.f539.name,by decide,Tryz.func539.trans (congrArg some (by kernel_rfl))⟩
 f57:=⟨Tryz.f566.name,by decide,Tryz.func566.trans (congrArg some (by kernel_rfl))⟩
 t0:=Tryz.underlying0
 a0:=Tryz.isAgg0
 z0:=Tryz.sizeOf0
 v0:=Tryz.zeroValue0
 t3:=Tryz.underlying3
 a3:=Tryz.isAgg3
 z3:=Tryz.sizeOf3
 v3:=Tryz.zeroValue3
 t4:=Tryz.underlying4
 a4:=Tryz.isAgg4
 z4:=Tryz.sizeOf4
 v4:=Tryz.zeroValue4
 t5:=Tryz.underlying5
 a5:=Tryz.isAgg5
 z5:=Tryz.sizeOf5
 v5:=Tryz.zeroValue5
 t9:=Tryz.underlying9
 a9:=Tryz.isAgg9
 z9:=Tryz.sizeOf9
 v9:=Tryz.zeroValue9
 t22:=Tryz.underlying29
 a22:=Tryz.isAgg29
 z22:=Tryz.sizeOf29
 v22:=Tryz.zeroValue29
 t25:=Tryz.underlying352
 a25:=Tryz.isAgg352
 z25:=Tryz.sizeOf352
 v25:=Tryz.zeroValue352
 t39:=Tryz.underlying290
 a39:=Tryz.isAgg290
 z39:=Tryz.sizeOf290
 v39:=Tryz.zeroValue290
 t45:=Tryz.underlying511
 a45:=Tryz.isAgg511
 z45:=Tryz.sizeOf511
 v45:=Tryz.zeroValue511
 t46:=Tryz.underlying512
 a46:=Tryz.isAgg512
 z46:=Tryz.sizeOf512
 v46:=Tryz.zeroValue512
 t50:=Tryz.underlying205
 a50:=Tryz.isAgg205
 z50:=Tryz.sizeOf205
 v50:=Tryz.zeroValue205
 t53:=Tryz.underlying500
 a53:=Tryz.isAgg500
 z53:=Tryz.sizeOf500
 v53:=Tryz.zeroValue500
 t55:=Tryz.underlying151
 a55:=Tryz.isAgg151
 z55:=Tryz.sizeOf151
 v55:=Tryz.zeroValue151
 t66:=Tryz.underlying562
 a66:=Tryz.isAgg562
 z66:=Tryz.sizeOf562
 v66:=Tryz.zeroValue562
 t70:=Tryz.underlying566
 a70:=Tryz.isAgg566
 z70:=Tryz.sizeOf566
 v70:=Tryz.zeroValue566
 t76:=Tryz.underlying588
 a76:=Tryz.isAgg588
 z76:=Tryz.sizeOf588
 v76:=Tryz.zeroValue588
 t77:=Tryz.underlying303
 a77:=Tryz.isAgg303
 z77:=Tryz.sizeOf303
 v77:=Tryz.zeroValue303}
def Tryz.laySF_2_int_ren:Go.Shelf.Ren:=⟨λ|6=>368 |15=>373 |14=>468 |28=>479 |29=>480 |20=>527 |21=>528 |22=>529 |23=>530 |24=>531 |25=>532 |26=>533 |27=>534 |46=>563 |47=>536 |48=>537 |49=>564 |50=>565 |57=>575 |n=>n,λ|22=>344 |24=>346 |25=>447 |3=>3 |39=>290 |0=>0 |53=>500 |55=>151 |4=>4 |46=>512 |45=>511 |50=>205 |5=>5 |9=>9 |66=>562 |70=>566 |76=>588 |77=>303 |n=>n,λ|n=>n⟩
theorem Tryz.laySF_2_int:Go.Proofs.SlLaysF0.n6 Tryz.prog Tryz.laySF_2_int_ren:= {
 mixed:=by kernel_rfl
 f6:=⟨Tryz.f368.name,by decide,Tryz.func368.trans (congrArg some (by kernel_rfl))⟩
 f14:=⟨Tryz.f468.name,by decide,Tryz.func468.trans (congrArg some (by kernel_rfl))⟩
 f15:=Tryz.func373.trans (congrArg some (by kernel_rfl))
 f20:=⟨Tryz.f527.name,by decide,Tryz.func527.trans (congrArg some (by kernel_rfl))⟩
 f21:=⟨Tryz.f528.name,by decide,Tryz.func528.trans (congrArg some (by kernel_rfl))⟩
 f22:=⟨Tryz.f529.name,by decide,Tryz.func529.trans (congrArg some (by kernel_rfl))⟩
 f23:=⟨Tryz.f530.name,by decide,Tryz.func530.trans (congrArg some (by kernel_rfl))⟩
 f24:=⟨Tryz.f531.name,by decide,Tryz.func531.trans (congrArg some (by kernel_rfl))⟩
 f25:=⟨Tryz.f532.name,by decide,Tryz.func532.trans (congrArg some (by kernel_rfl))⟩
 f26:=⟨Tryz.f533.name,by decide,Tryz.func533.trans (congrArg some (by kernel_rfl))⟩
 f27:=⟨Tryz.f534.name,by decide,Tryz.func534.trans (congrArg some (by kernel_rfl))⟩
 f28:=Tryz.func479.trans (congrArg some (by kernel_rfl))
 f29:=Tryz.func480.trans (congrArg some (by kernel_rfl))
 f46:=⟨Tryz.f563.name,by decide,Tryz.func563.trans (congrArg some (by kernel_rfl))⟩
 f47:=Tryz.func536.trans (congrArg some (by kernel_rfl))
 f48:=Tryz.func537.trans (congrArg some (by kernel_rfl))
 f49:=⟨Tryz.f564.name,by decide,Tryz.func564.trans (congrArg some (by kernel_rfl))⟩
 f50:=⟨Tryz.f565.name,by decide,Tryz.func565.trans (congrArg some (by kernel_rfl))⟩
 f57:=⟨Tryz.f575.name,by decide,Tryz.func575.trans (congrArg some (by kernel_rfl))⟩
 t0:=Tryz.underlying0
 a0:=Tryz.isAgg0
 z0:=Tryz.sizeOf0
 v0:=Tryz.zeroValue0
 t3:=Tryz.underlying3
 a3:=Tryz.isAgg3
 z3:=Tryz.sizeOf3
 v3:=Tryz.zeroValue3
 t4:=Tryz.underlying4
 a4:=Tryz.isAgg4
 z4:=Tryz.sizeOf4
 v4:=Tryz.zeroValue4
 t5:=Tryz.underlying5
 a5:=Tryz.isAgg5
 z5:=Tryz.sizeOf5
 v5:=Tryz.zeroValue5
 t9:=Tryz.underlying9
 a9:=Tryz.isAgg9
 z9:=Tryz.sizeOf9
 v9:=Tryz.zeroValue9
 t22:=Tryz.underlying344
 a22:=Tryz.isAgg344
 z22:=Tryz.sizeOf344
 v22:=Tryz.zeroValue344
 t25:=Tryz.underlying447
 a25:=Tryz.isAgg447
 z25:=Tryz.sizeOf447
 v25:=Tryz.zeroValue447
 t39:=Tryz.underlying290
 a39:=Tryz.isAgg290
 z39:=Tryz.sizeOf290
 v39:=Tryz.zeroValue290
 t45:=Tryz.underlying511
 a45:=Tryz.isAgg511
 z45:=Tryz.sizeOf511
 v45:=Tryz.zeroValue511
 t46:=Tryz.underlying512
 a46:=Tryz.isAgg512
 z46:=Tryz.sizeOf512
 v46:=Tryz.zeroValue512
 t50:=Tryz.underlying205
 a50:=Tryz.isAgg205
 z50:=Tryz.sizeOf205
 v50:=Tryz.zeroValue205
 t53:=Tryz.underlying500
 a53:=Tryz.isAgg500
 z53:=Tryz.sizeOf500
 v53:=Tryz.zeroValue500
 t55:=Tryz.underlying151
 a55:=Tryz.isAgg151
 z55:=Tryz.sizeOf151
 v55:=Tryz.zeroValue151
 t66:=Tryz.underlying562
 a66:=Tryz.isAgg562
 z66:=Tryz.sizeOf562
 v66:=Tryz.zeroValue562
 t70:=Tryz.underlying566
 a70:=Tryz.isAgg566
 z70:=Tryz.sizeOf566
 v70:=Tryz.zeroValue566
 t76:=Tryz.underlying588
 a76:=Tryz.isAgg588
 z76:=Tryz.sizeOf588
 v76:=Tryz.zeroValue588
 t77:=Tryz.underlying303
 a77:=Tryz.isAgg303
 z77:=Tryz.sizeOf303
 v77:=Tryz.zeroValue303}
def Tryz.laySF_Entry_ren:Go.Shelf.Ren:=⟨λ|6=>466 |15=>373 |14=>526 |28=>479 |29=>480 |20=>555 |21=>556 |22=>557 |23=>558 |24=>559 |25=>560 |26=>561 |27=>562 |46=>572 |47=>536 |48=>537 |49=>573 |50=>574 |57=>576 |n=>n,λ|22=>340 |24=>441 |25=>507 |3=>3 |39=>290 |0=>0 |53=>500 |55=>151 |4=>4 |46=>512 |45=>511 |50=>205 |5=>5 |9=>9 |66=>562 |70=>566 |76=>588 |77=>303 |n=>n,λ|n=>n⟩
theorem Tryz.laySF_Entry:Go.Proofs.SlLaysF0.n6 Tryz.prog Tryz.laySF_Entry_ren:= {
 mixed:=by kernel_rfl
 f6:=⟨Tryz.f466.name,by decide,Tryz.func466.trans (congrArg some (by kernel_rfl))⟩
 f14:=⟨Tryz.f526.name,by decide,Tryz.func526.trans (congrArg some (by kernel_rfl))⟩
 f15:=Tryz.func373.trans (congrArg some (by kernel_rfl))
 f20:=⟨Tryz.f555.name,by decide,Tryz.func555.trans (congrArg some (by kernel_rfl))⟩
 f21:=⟨Tryz.f556.name,by decide,Tryz.func556.trans (congrArg some (by kernel_rfl))⟩
 f22:=⟨Tryz.f557.name,by decide,Tryz.func557.trans (congrArg some (by kernel_rfl))⟩
 f23:=⟨Tryz.f558.name,by decide,Tryz.func558.trans (congrArg some (by kernel_rfl))⟩
 f24:=⟨Tryz.f559.name,by decide,Tryz.func559.trans (congrArg some (by kernel_rfl))⟩
 f25:=⟨Tryz.f560.name,by decide,Tryz.func560.trans (congrArg some (by kernel_rfl))⟩
 f26:=⟨Tryz.f561.name,by decide,Tryz.func561.trans (congrArg some (by kernel_rfl))⟩
 f27:=⟨Tryz.f562.name,by decide,Tryz.func562.trans (congrArg some (by kernel_rfl))⟩
 f28:=Tryz.func479.trans (congrArg some (by kernel_rfl))
 f29:=Tryz.func480.trans (congrArg some (by kernel_rfl))
 f46:=⟨Tryz.f572.name,by decide,Tryz.func572.trans (congrArg some (by kernel_rfl))⟩
 f47:=Tryz.func536.trans (congrArg some (by kernel_rfl))
 f48:=Tryz.func537.trans (congrArg some (by kernel_rfl))
 f49:=⟨Tryz.f573.name,by decide,Tryz.func573.trans (congrArg some (by kernel_rfl))⟩
 f50:=⟨Tryz.f574.name,by decide,Tryz.func574.trans (congrArg some (by kernel_rfl))⟩
 f57:=⟨Tryz.f576.name,by decide,Tryz.func576.trans (congrArg some (by kernel_rfl))⟩
 t0:=Tryz.underlying0
 a0:=Tryz.isAgg0
 z0:=Tryz.sizeOf0
 v0:=Tryz.zeroValue0
 t3:=Tryz.underlying3
 a3:=Tryz.isAgg3
 z3:=Tryz.sizeOf3
 v3:=Tryz.zeroValue3
 t4:=Tryz.underlying4
 a4:=Tryz.isAgg4
 z4:=Tryz.sizeOf4
 v4:=Tryz.zeroValue4
 t5:=Tryz.underlying5
 a5:=Tryz.isAgg5
 z5:=Tryz.sizeOf5
 v5:=Tryz.zeroValue5
 t9:=Tryz.underlying9
 a9:=Tryz.isAgg9
 z9:=Tryz.sizeOf9
 v9:=Tryz.zeroValue9
 t22:=Tryz.underlying340
 a22:=Tryz.isAgg340
 z22:=Tryz.sizeOf340
 v22:=Tryz.zeroValue340
 t25:=Tryz.underlying507
 a25:=Tryz.isAgg507
 z25:=Tryz.sizeOf507
 v25:=Tryz.zeroValue507
 t39:=Tryz.underlying290
 a39:=Tryz.isAgg290
 z39:=Tryz.sizeOf290
 v39:=Tryz.zeroValue290
 t45:=Tryz.underlying511
 a45:=Tryz.isAgg511
 z45:=Tryz.sizeOf511
 v45:=Tryz.zeroValue511
 t46:=Tryz.underlying512
 a46:=Tryz.isAgg512
 z46:=Tryz.sizeOf512
 v46:=Tryz.zeroValue512
 t50:=Tryz.underlying205
 a50:=Tryz.isAgg205
 z50:=Tryz.sizeOf205
 v50:=Tryz.zeroValue205
 t53:=Tryz.underlying500
 a53:=Tryz.isAgg500
 z53:=Tryz.sizeOf500
 v53:=Tryz.zeroValue500
 t55:=Tryz.underlying151
 a55:=Tryz.isAgg151
 z55:=Tryz.sizeOf151
 v55:=Tryz.zeroValue151
 t66:=Tryz.underlying562
 a66:=Tryz.isAgg562
 z66:=Tryz.sizeOf562
 v66:=Tryz.zeroValue562
 t70:=Tryz.underlying566
 a70:=Tryz.isAgg566
 z70:=Tryz.sizeOf566
 v70:=Tryz.zeroValue566
 t76:=Tryz.underlying588
 a76:=Tryz.isAgg588
 z76:=Tryz.sizeOf588
 v76:=Tryz.zeroValue588
 t77:=Tryz.underlying303
 a77:=Tryz.isAgg303
 z77:=Tryz.sizeOf303
 v77:=Tryz.zeroValue303}
end Go.Proofs
end
noncomputable section
namespace Go.Abs
open Go.Proofs
open Api
open Go.Sort
def A9e(l:List Int):List Int:=l.mergeSort λx y=>decide (x<=y)
theorem A90(l:List Int):(A9e l).length=l.length:=by simp[A9e]
theorem F2p {l:List Int}{x:Int}:x∈A9e l↔x∈l:=by simp[A9e]
theorem B7m(l:List Int)(hl:l.length<4611686018427387904):A1 Tryz.prog D2r [.sl 1 0 l.length l.length] [(1, .arr 1 (A8 B9 0 l))] (.tup []) [(1, .arr 1 (A8 B9 0 (A9e l)))]:=
 G2j (by kernel_rfl) l (A9e l) (A90 l) (λ_ _=> .tuple #[]) (.tup []) (λG w ob i a cap _ _ _=> .tup #[] rfl (λj av h=>by simp at h))
  (λblk cap w hH hb hc=>Tryz.slices_Sort_int blk 0 cap l w hH hb hl)
  (λ_ a w=>Tryz.slices_Sort_int_none a 0 w)
def B2a(l:List Int):List Int:=Go.Lib.compact l
theorem B6w(l:List Int):(B2a l).length<=l.length:=by unfold B2a Go.Lib.compact Go.Lib.compactUpTo;rw[List.length_map];have:=List.length_filter_le (Go.Lib.keeps l.toArray) (List.range l.length);rwa[List.length_range]at this
theorem C0d(d:Array Int)(x:Int): ∀m,x∈Go.Lib.compactUpTo d m↔ ∃j,j<m/\d[j]! =x
 |0=>by simp[Go.Lib.compactUpTo]
 |m+1=>by
  rw[Go.Lib.compactUpTo_succ,List.mem_append,C0d d x m];constructor
  ·rintro(⟨j,hj,e⟩ |h)
   ·exact⟨j,by omega,e⟩
   ·by_cases hk:Go.Lib.keeps d m=true
    ·rw[if_pos hk,List.mem_singleton]at h;exact⟨m,by omega,h.symm⟩
    ·rw[if_neg hk]at h;cases h
  ·rintro⟨j,hj,e⟩;rcases Nat.lt_or_eq_of_le (Nat.le_of_lt_succ hj)with h |h
   ·exact .inl ⟨j,h,e⟩
   ·subst h;by_cases hk:Go.Lib.keeps d j=true
    ·right;rw[if_pos hk,List.mem_singleton];exact e.symm
    ·left;simp only[Go.Lib.keeps,decide_eq_true_eq,not_or,ne_eq,Classical.not_not]at hk;exact⟨j-1,by omega,by rw[<-hk.2];exact e⟩
theorem F21 {l:List Int}{x:Int}:x∈B2a l↔x∈l:=by
 unfold B2a Go.Lib.compact;rw[C0d];constructor
 ·rintro⟨j,hj,e⟩;have:l[j]=x:=by simpa[hj]using e
  rw[<-this];exact List.getElem_mem hj
 ·intro h;obtain⟨j,hj,e⟩:=List.getElem_of_mem h;exact⟨j,hj,by simpa[hj]using e⟩
theorem B35(l:List Int)(hl:l.length<=9223372036854775807):A1 Tryz.prog C5v [.sl 1 0 l.length l.length] [(1, .arr 1 (A8 B9 0 l))] (.sl 1 0 (B2a l).length l.length)
  [(1, .arr 1 (A8 B9 0 (B2a l++List.replicate (l.length-(B2a l).length) 0)))]:=by
 refine G2j (by kernel_rfl) l _ (by have:=B6w l;simp;omega) (λa cap=> .slice a (B2a l).length cap) _ (λG w ob i a cap hi hlen hs=> ?_)
  (λblk cap w hH hb hc=>(Tryz.slices_Compact_int blk 0 cap l w hH hl hc).mono ?_) (λe a w=> ?_)
 ·obtain⟨h1,h2,h3⟩:=hs;have hcl:=B6w l;refine .sl i hi (by omega) ⟨_,_,rfl⟩ λ_=>⟨by omega,λhb=> ?_,λb hb=> ?_⟩
  ·have hac:=h2 hb
   have:l.length=0:=by rcases hac with e |⟨a',e⟩ <;> (injection e)
   have e0:(B2a l).length=0:=by omega
   rw[e0];rw[this]at hac;exact hac
  ·obtain⟨o,c,e,h5,h6,h7⟩:=h3 b hb;injection e with e1 e2 e3;subst e1;subst e3;exact⟨o,cap,rfl,by omega,λh=>by rw[(h7 rfl).1];simp,h7⟩
 ·rintro e w' ⟨rfl,q,rfl⟩;exact⟨rfl,q,#[],by rw[grow_empty];rfl⟩
 ·subst e;refine(Tryz.slices_Compact_int_empty a 0 w).mono ?_;rintro e w' ⟨rfl,rfl⟩;exact⟨rfl,rfl⟩
def A8p(a:sap_Entry)(b:sap_Entry):Int:=let v1:=(H1 a.Bounds.Min.X b.Bounds.Min.X);let v2:=(H1 a.ID b.ID);let v3:=(X3 ([v1,v2]));v3
theorem E1t(a:sap_Entry)(b:sap_Entry):A1 Tryz.prog C6k [.agg a.enc, .agg b.enc] [] (sI (A8p a b)) []:=by
 refine en1 hm A4 Tryz.func467 rfl rfl ?_;simp only[go_sem,go_sem_proc];refine A0 (A0n a.Bounds.Min.X b.Bounds.Min.X) rfl ?_;generalize hv1:(H1 a.Bounds.Min.X b.Bounds.Min.X)=v1;simp only[go_sem,go_sem_proc];refine A0 (A0n a.ID b.ID) rfl ?_;generalize hv2:(H1 a.ID b.ID)=v2;simp only[go_sem,go_sem_proc];refine A5d (B86 ([v1,v2]) (by((simp_all;done)))) rfl ?_ ?_
 ·(try simp only[A02,go_sem,go_sem_proc]);all_goals((repeat' (with_reducible apply And.intro)) <;> exact A2h (λ_ _=>rfl) rfl rfl rfl)
 generalize hv3:(X3 ([v1,v2]))=v3;simp only[go_sem,go_sem_proc];have hd:A8p a b=v3:=by(simp only[A8p,hv1,hv2,hv3,eq_self];done)
 try rw[hd]
theorem C0l(x y:Int):H1 x y=B9l x y:=by unfold H1 A0x B9l;simp
theorem G08(a b:Int):X3 [a,b]=if a≠0 then a else b:=by unfold X3;simp only[List.length_cons,List.length_nil,Nat.zero_add,Nat.reduceAdd,D3,A2y];by_cases ha:a=0 <;> by_cases hb:b=0 <;> simp[ha,hb]
theorem G26(a b:sap_Entry):A8p a b=B67 [D9a,sap_Entry.ID] a b:=by unfold A8p;dsimp only;rw[G08,C0l,C0l];simp only[B67,D9a];by_cases h:B9l a.ID b.ID=0 <;> simp[h]
def G1a(x:sap_Entry):KEl 5:=⟨[x.ID,x.Bounds.Min.X,x.Bounds.Min.Y,x.Bounds.Max.X,x.Bounds.Max.Y],rfl⟩
def F4w(y:KEl 5):sap_Entry:=⟨y.1.getD 0 0,⟨y.1.getD 1 0,y.1.getD 2 0⟩,⟨y.1.getD 3 0,y.1.getD 4 0⟩⟩
theorem F6z: ∀y:KEl 5,kav y=(F4w y).enc
 |⟨[a,b,c,d,e],_⟩=>rfl
def E95(a b:sap_Entry):Int:=B67 [D9a,sap_Entry.ID] a b
def A7m(l:List sap_Entry):List sap_Entry:=B1z G1a F4w E95 l
theorem C42(l:List sap_Entry):(A7m l).length=l.length:=B7b (A9z _) l
theorem B94(id:Nat)(l:List sap_Entry)(hl:l.length<4611686018427387904):
  A1 Tryz.prog B95 [.sl id 0 l.length l.length, .fn (.func C6k) [] []] [(id, .arr 5 (A8 sap_Entry.enc default l))] (.tup []) [(id, .arr 5 (A8 sap_Entry.enc default (A7m l)))]:=
 D95 (toK:=G1a) (fromK:=F4w) (cf:=E95) Tryz.laySF_Entry (by decide) (by kernel_rfl) (λw=>W8 (by kernel_rfl)) (λw=>S5 (by kernel_rfl)) default rfl (λx=>rfl) F6z (A9z _) (λargs w=>A7r (by kernel_rfl) args)
  (λx y=>by have:=E1t x y;rwa[G26]at this) id l hl
def C8k {α:Type}(f:α->Int)(m:List α):List (Int×AV):=m.map λx=>(f x,sB true)
theorem D5d {α:Type}(f:α->Int)(k:Int): ∀m:List α,B7a (C8k f m) k=cond (m.any λx=>k==f x) (some (sB true)) none
 | []=>rfl
 |x::m=>by
  have ih:=D5d f k m;simp only[C8k,List.map_cons,B7a,List.any_cons]at ih⊢;cases h:k==f x
  ·simpa using ih
  ·simp
theorem D4e {α:Type}(f:α->Int)(x:α): ∀m:List α,(m.any λy=>f x==f y)=false->B3l (C8k f m) (f x) (sB true)=C8k f (m++ [x])
 | [],_=>rfl
 |y::m,h=>by simp only[List.any_cons,Bool.or_eq_false_iff]at h;have ih:=D4e f x m h.2;simp only[C8k,List.map_cons,List.cons_append,B3l,h.1]at ih⊢;rw[if_neg (by simp),ih]
theorem D07:B6f (.bool false)=sB false:=rfl
def C13(s:List sap_Entry)(x:sap_Entry):List sap_Entry:=if A33 x.Bounds=true/\(s.any λy=>x.ID==y.ID)=false then s++ [x]else s
def A4r(l:List sap_Entry):List sap_Entry:=l.foldl C13 []
theorem F6o(s:List sap_Entry)(x:sap_Entry):(C13 s x).length<=s.length+1:=by unfold C13;split <;> simp
theorem E02: ∀(l s:List sap_Entry),(l.foldl C13 s).length<=s.length+l.length
 | [],s=>Nat.le_refl _
 |x::l,s=>by have:=E02 l (C13 s x);have:=F6o s x;simp only[List.foldl_cons,List.length_cons];omega
theorem D4f(l:List sap_Entry):(A4r l).length<=l.length:=by have:=E02 l [];simpa[A4r]using this
theorem E5b: ∀(l s:List sap_Entry) (x:sap_Entry),x∈l.foldl C13 s->x∈s\/x∈l
 | [],s,x,h=> .inl h
 |y::l,s,x,h=>by
  rcases E5b l (C13 s y) x h with h1 |h1
  ·unfold C13 at h1;split at h1
   ·rw[List.mem_append,List.mem_singleton]at h1;rcases h1 with h1 |rfl
    ·exact .inl h1
    ·exact .inr (List.mem_cons_self ..)
   ·exact .inl h1
  ·exact .inr (List.mem_cons_of_mem _ h1)
theorem F1j(l:List sap_Entry)(hl:l.length<=1048576):A1 Tryz.prog E9o [A2 5 sap_Entry.enc default l] [] (A2 5 sap_Entry.enc default (A7m (A4r l))) []:=by
 refine en1 hm A4 Tryz.func367 rfl rfl ?_;simp only[go_sem,go_sem_proc];refine A9 hm (ι:= {i:Nat // i<=l.length}) (λi=> [(3,mdA i.1, .sl 1 0 (A4r (l.take i.1)).length (A4r (l.take i.1)).length),(4, .share, .mp 2),(8, .share,A2 5 sap_Entry.enc default l),(9, .share,sI l.length),(10, .share,sI (i.1:Nat))]) (λi=> [(1, .arr 5 (A8 sap_Entry.enc default (A4r (l.take i.1)))),(2, .map .i64 (C8k sap_Entry.ID (A4r (l.take i.1))))]) (λi=>l.length-i.1) ⟨0,Nat.zero_le _⟩ ?_ ?_
 ·simp only[List.take_zero,show A4r []= []from rfl];refine B8 [(2,128)] [1] ?_;simp only[go_sem,go_sem_proc];exact eE_
 ·rintro⟨i,hi⟩;dsimp only;have hn:i<l.length->A4r (l.take (i+1))=C13 (A4r (l.take i)) (l.getD i default):=λh=>by unfold A4r;rw[K9 default h,List.foldl_append];rfl
  have hfin:l.length<=i->A4r (l.take i)=A4r l:=λh=>by rw[show i=l.length by omega,List.take_length]
  have hlen:=D4f (l.take i);rw[List.length_take]at hlen;generalize A4r (l.take i)=v at hn hfin hlen⊢;simp only[go_sem,go_sem_proc];by_cases hlt:i<l.length;rotate_left
  ·rw[if_neg (by omega)];refine E6 (B94 1 v (by omega)) (by simp[okO]) (by simp[okO]) (by simp) (by simp[upd]) (by simp) ?_ rfl ?_
   ·intro a ha j hj;obtain⟨k,hk⟩:=List.getElem?_of_mem ha;have:=N2 hk j hj;simp[F4,AV.ids]at this;subst this;rfl
   simp only[go_sem,go_sem_proc];rw[<-hfin (by omega)];rw[C42];exact⟨rfl,I7 _⟩
  rw[if_pos (by omega)];refine⟨bE_,?_⟩;replace hn:=hn hlt;refine A0 (B3q (l.getD i default).Bounds) rfl ?_;unfold C13 at hn;generalize A33 (l.getD i default).Bounds=ok at hn⊢;have hg:=D5d sap_Entry.ID (l.getD i default).ID v;cases hm:v.any λy=>(l.getD i default).ID==y.ID with
  |true=>
   rw[hm]at hg;simp only[cond_true]at hg;rw[hm,if_neg (by simp)]at hn;cases ok
   all_goals
    simp only[go_sem,go_sem_proc,hg,Option.getD_some,Bool.not_true];refine A7 ⟨i+1,by omega⟩ (by show l.length-(i+1)<l.length-i;omega) ?_;simp only[hn];refine B8 [] [] ?_;simp only[go_sem,go_sem_proc]
    all_goals exact eE_
  |false=>
   rw[hm]at hg;simp only[cond_false]at hg;rw[hm]at hn;cases ok
   ·rw[if_neg (by simp)]at hn;simp only[go_sem,go_sem_proc,hg,Option.getD_none,D07,Bool.not_false];refine A7 ⟨i+1,by omega⟩ (by show l.length-(i+1)<l.length-i;omega) ?_;simp only[hn];refine B8 [] [] ?_;simp only[go_sem,go_sem_proc];exact eE_
   ·rw[if_pos (by simp)]at hn;simp only[go_sem,go_sem_proc,hg,Option.getD_none,D07,Bool.not_false];refine⟨bE_,?_⟩;refine A7 ⟨i+1,by omega⟩ (by show l.length-(i+1)<l.length-i;omega) ?_;simp only[hn,<-D4e sap_Entry.ID _ v hm];refine B8 [] [] ?_;simp only[go_sem,go_sem_proc];exact eE_
abbrev P2:=Int×Int
def p2E(p:P2):List AV:= [sI p.1,sI p.2]
attribute [go_sem] p2E
def G1y(x:P2):KEl 2:=⟨[x.1,x.2],rfl⟩
def F6e(y:KEl 2):P2:=(y.1.getD 0 0,y.1.getD 1 0)
theorem F4u: ∀y:KEl 2,kav y=p2E (F6e y)
 |⟨[a,b],_⟩=>rfl
def D1l(a b:P2):Int:=B67 [Prod.fst,Prod.snd] a b
def D0r(l:List P2):List P2:=B1z G1y F6e D1l l
theorem D6n(l:List P2):(D0r l).length=l.length:=B7b (A9z _) l
theorem D03(a b:P2):A1 Tryz.prog B6h [.agg (p2E a), .agg (p2E b)] [] (sI (D1l a b)) []:=by
 have e:D1l a b=X3 [H1 a.1 b.1,H1 a.2 b.2]:=by rw[G08,C0l,C0l];simp only[D1l,B67];by_cases h:B9l a.2 b.2=0 <;> simp[h]
 rw[e];refine en1 hm A4 Tryz.func369 rfl rfl ?_;simp only[go_sem,go_sem_proc];refine⟨bE_,bE_,?_⟩;refine A0 (A0n a.1 b.1) rfl ?_;simp only[go_sem,go_sem_proc];refine⟨bE_,bE_,?_⟩;refine A0 (A0n a.2 b.2) rfl ?_;simp only[go_sem,go_sem_proc];refine A5c (B86 [H1 a.1 b.1,H1 a.2 b.2] (by simp)) ?_;simp only[A02,go_sem,go_sem_proc];exact A2h (λ_ _=>rfl) rfl rfl rfl
theorem D7l(l:List sap_Entry):A1 Tryz.prog D6h [A2 5 sap_Entry.enc default l] [] (.fn (.func A9s) [] [.fptr [A2 5 sap_Entry.enc default l]]) []:=by refine en1 hm A4 Tryz.func366 rfl rfl ?_;simp only[go_sem,go_sem_proc,A0c]
theorem C52(id:Nat)(l:List P2)(hl:l.length<4611686018427387904):
  A1 Tryz.prog C0a [.sl id 0 l.length l.length, .fn (.func B6h) [] []] [(id, .arr 2 (A8 p2E default l))] (.tup []) [(id, .arr 2 (A8 p2E default (D0r l)))]:=
 D95 (toK:=G1y) (fromK:=F6e) (cf:=D1l) Tryz.laySF_2_int (by decide) (by kernel_rfl) (λw=>W8 (by kernel_rfl)) (λw=>S5 (by kernel_rfl)) default rfl (λx=>rfl) F4u (A9z _) (λargs w=>A7r (by kernel_rfl) args)
  D03 id l hl
def pr1(p:sap_Entry×sap_Entry):Option P2:=if A23 p.1.Bounds p.2.Bounds=true then some ((if p.2.ID<p.1.ID then p.2.ID else p.1.ID),(if p.1.ID<p.2.ID then p.2.ID else p.1.ID))else none
def C3m(l:List sap_Entry):List P2:=(C15 (A7m (A4r l))).filterMap pr1
def B1r(l:List sap_Entry):List P2:=D0r (C3m l)
def prO(v:List P2):List (Nat×A5):= [(64, .box [.sl 1 0 v.length v.length]),(1, .arr 2 (A8 p2E default v))]
theorem F5s(l:List sap_Entry):(C15 l).length<=l.length*l.length:=by
 have h: ∀i,(nbP l i).length<=i*l.length:=by
  intro i;induction i with
  |zero=>simp[nbP]
  |succ i ih=>
   have h1:(nbI (l.getD i default) (l.drop (i+1))).length<=l.length:=by unfold nbI;rw[List.length_map];have:=List.IsPrefix.length_le (List.takeWhile_prefix (B5a (l.getD i default)) (l:=l.drop (i+1)));rw[List.length_drop]at this;omega
   rw[nbP,List.length_append,Nat.succ_mul];omega
 exact h l.length
theorem D6v(l:List sap_Entry)(hl:l.length<=480):(C3m l).length<=230400/\(C15 (A7m (A4r l))).length<=230400:=by
 have h1:=F5s (A7m (A4r l));rw[C42]at h1;have h2:=D4f l
 have h3:(A4r l).length*(A4r l).length<=480*480:=Nat.mul_le_mul (by omega) (by omega)
 have h4:(C3m l).length<=(C15 (A7m (A4r l))).length:=List.length_filterMap_le ..;omega
theorem E6x(l:List sap_Entry)(hl:l.length<=480):A1 Tryz.prog E6t [A2 5 sap_Entry.enc default l] [] (A2 2 p2E default (B1r l)) []:=by
 have hlen:=D6v l hl;refine G37 (avs:= [A2 5 sap_Entry.enc default l]) (rs:= [A2 2 p2E default (B1r l)]) (sap_Entry×sap_Entry) 33 [(2,none)] [9,10] A4 Tryz.func243 rfl rfl rfl rfl rfl rfl rfl rfl rfl rfl rfl rfl (by decide) (by decide) (Nat.le_of_ble_eq_true rfl) ?_;simp only[go_sem,go_sem_proc];refine A0 (F1j l (by omega)) rfl ?_;simp only[go_sem,go_sem_proc];refine A0 (D7l (A7m (A4r l))) rfl ?_;simp only[go_sem,go_sem_proc];refine⟨A9s,[.fptr [A2 5 sap_Entry.enc default (A7m (A4r l))]],[(3, .share, .ptr 64 0 0 1)],λpre=>prO (pre.filterMap pr1),F0b,C15 (A7m (A4r l)),rfl,rfl,by kernel_rfl,?_,?_,λ_=>rfl,E3i _ (by rw[C42];have:=D4f l;omega),?_,?_⟩
 ·simp only[List.filterMap_nil,prO];refine B8 [] [1] ?_;simp only[go_sem,go_sem_proc]
 ·intro pre id o h;have:=A05 (by simp[prO]) h;simp only[prO,List.mem_cons,List.not_mem_nil,or_false,Prod.mk.injEq]at this;rcases this with⟨_,rfl⟩ |⟨_,rfl⟩
  ·exact⟨rfl,rfl⟩
  ·exact⟨λ_ _=>rfl,rfl⟩
 ·intro pre x hx;refine F7o ?_;have hv:(pre.filterMap pr1).length<=pre.length:=List.length_filterMap_le ..
  have hn:(pre++ [x]).filterMap pr1=pre.filterMap pr1++(pr1 x).toList:=by rw[List.filterMap_append];congr 1
  rw[hn,show pr1 x=if A23 x.1.Bounds x.2.Bounds=true then some ((if x.2.ID<x.1.ID then x.2.ID else x.1.ID),(if x.1.ID<x.2.ID then x.2.ID else x.1.ID))else none from rfl];generalize pre.filterMap pr1=v at hv;simp only[go_sem,go_sem_proc,psS,F0b,prO];refine A0 (C0p x.1.Bounds x.2.Bounds) rfl ?_;generalize A23 x.1.Bounds x.2.Bounds=ok;cases ok with
  |false=>rw[if_neg (by simp)];simp only[go_sem,go_sem_proc,Option.toList,List.append_nil];simp only[prO];refine B8 [] [] ?_;simp only[go_sem,go_sem_proc]
  |true=>rw[if_pos rfl];simp only[go_sem,go_sem_proc,Option.toList];refine⟨bE_,?_⟩;simp only[prO];refine B8 [] [] ?_;simp only[go_sem,go_sem_proc];exact eE_
 ·refine G0d ?_;rw[show(C15 (A7m (A4r l))).filterMap pr1=C3m l from rfl];unfold B1r;generalize C3m l=u at hlen;simp only[go_sem,go_sem_proc,prO];refine E6 (C52 1 u (by omega)) (by simp[okO]) (by simp[okO]) (by simp) (by simp[upd]) (by simp) ?_ rfl ?_
  ·intro a ha j hj;obtain⟨k,hk⟩:=List.getElem?_of_mem ha;have:=N2 hk j hj;simp[F4,AV.ids]at this;subst this;rfl
  simp only[go_sem,go_sem_proc];have hs:=D6n u;generalize D0r u=q at hs;refine V3 [.thaw] [] [] ?_;simp only[go_sem,go_sem_proc];rw[hs];exact⟨rfl,I7 _⟩
end Go.Abs
end
noncomputable section
namespace Go.Abs
open Go.Proofs
open Api
abbrev B3z:=F9
def scE(l:List Body)(r:List B3z):List sap_Entry:=r.zipIdx.map λp=>⟨(p.2:Nat),(A2a (l.getD p.1.body.toNat default) p.1.fixture).Bounds⟩
theorem D1n(l:List Body)(r:List B3z):(scE l r).length=r.length:=by simp[scE]
theorem F9u(l:List Body)(r:List B3z)(x:B3z):scE l (r++ [x])=scE l r++ [⟨(r.length:Nat),(A2a (l.getD x.body.toNat default) x.fixture).Bounds⟩]:=by simp[scE,List.zipIdx_append]
theorem G1n {l:List Body}{r:List B3z}{x:sap_Entry}(h:x∈scE l r):0<=x.ID/\x.ID<r.length:=by
 simp only[scE,List.mem_map]at h;obtain⟨p,hp,rfl⟩:=h;have:=List.mem_zipIdx hp;simp at this;constructor
 ·show(0:Int)<=(p.2:Nat);omega
 ·show((p.2:Nat):Int)<r.length;omega
def sc1(k i:Nat)(r:List B3z):List B3z:=r++(List.range i).map λj=>⟨(k:Nat),(j:Nat)⟩
theorem F52(k i:Nat)(r:List B3z):sc1 k (i+1) r=sc1 k i r++ [⟨(k:Nat),(i:Nat)⟩]:=by simp[sc1,List.range_succ]
theorem E78(k i:Nat)(r:List B3z):(sc1 k i r).length=r.length+i:=by simp[sc1]
def scS(l:List Body)(k:Nat)(s:List B3z×List Int):List B3z×List Int:=if(s.2.any λy=>(l.getD k default).ID==y)=true then s else(sc1 k (l.getD k default).Fixtures.length s.1,s.2++ [(l.getD k default).ID])
def scF(l:List Body)(n:Nat):List B3z×List Int:=itr (scS l) n ([],[])
def scR(l:List Body):List B3z:=(scF l l.length).1
def F7b(l:List Body)(x:B3z):Prop:=0<=x.body/\x.body<l.length/\0<=x.fixture/\x.fixture<(l.getD x.body.toNat default).Fixtures.length
theorem E4c(l:List Body)(hq: ∀b∈l,b.Fixtures.length<=8): ∀n,n<=l.length->(∀x∈(scF l n).1,F7b l x)/\(scF l n).1.length<=8*n
 |0,_=>⟨λx hx=>by simp[scF,H5]at hx,by simp[scF,H5]⟩
 |n+1,h=>by
  have ih:=E4c l hq n (by omega)
  have hb:=hq _ (B6 default (show n<l.length by omega));rw[show scF l (n+1)=scS l n (scF l n)from E4 ..];generalize scF l n=s at ih⊢;unfold scS;split
  ·exact⟨ih.1,by omega⟩
  ·refine⟨λx hx=> ?_,by show(sc1 _ _ _).length<=_;rw[E78];omega⟩;simp only[sc1,List.mem_append,List.mem_map,List.mem_range]at hx;rcases hx with hx |⟨j,hj,rfl⟩
   ·exact ih.1 x hx
   ·refine⟨by show(0:Int)<=(n:Nat);omega,by show((n:Nat):Int)<_;omega,by show(0:Int)<=(j:Nat);omega,?_⟩;show((j:Nat):Int)<((l.getD ((n:Nat):Int).toNat default).Fixtures.length:Int);rw[Int.toNat_natCast];omega
theorem F2v {l:List Body}(hq: ∀b∈l,b.Fixtures.length<=8):(∀x∈scR l,F7b l x)/\(scR l).length<=8*l.length:=E4c l hq l.length (Nat.le_refl _)
def A7g(l:List Body)(js:List Joint):broadphase_scene:=⟨l,js,scR l,scE l (scR l)⟩
theorem C3j(l:List Body)(js:List Joint)(hl:l.length<=60)(hq: ∀b∈l,b.Fixtures.length<=8)(hv: ∀b∈l,∀f∈b.Fixtures,f.Shape.Vertices.length<=1048576):A1 Tryz.prog C38 [A2 20 Body.enc default l,A2 24 Joint.enc default js] [] (.agg (A7g l js).enc) []:=by
 refine L5 58 [(4,some (some 4))] hm A4 Tryz.func242 rfl ?_;simp only[go_sem,go_sem_proc];refine A9 hm (ι:= {i:Nat // i<=l.length}) (λi=> [(4, .share, .ptr 80 0 0 1),(5, .share, .ptr 96 0 0 1),(6, .share, .mp 3),(14, .share,A2 20 Body.enc default l),(15, .share,sI l.length),(16, .share,sI (i.1:Nat))]) (λi=> [(80, .box [.sc (.slice none 0 0), .sc (.slice none 0 0), .sc (.slice none 0 0), .sc (.slice none 0 0)]),(96, .box [A2 20 Body.enc default l,A2 24 Joint.enc default js, .sl 1 0 (scF l i.1).1.length (scF l i.1).1.length, .sl 2 0 (scE l (scF l i.1).1).length (scE l (scF l i.1).1).length]),(1, .arr 2 (A8 F9.enc default (scF l i.1).1)),(2, .arr 5 (A8 sap_Entry.enc default (scE l (scF l i.1).1))),(3, .map .i64 (C8k id (scF l i.1).2))]) (λi=>l.length-i.1) ⟨0,Nat.zero_le _⟩ ?_ ?_
 ·simp only[show scF l 0=([],[])from rfl,show scE l []= []from rfl];refine B8 [(3,224)] [1,2] ?_;simp only[go_sem,go_sem_proc];exact eE_
 ·rintro⟨i,hi⟩;dsimp only;have hok:=E4c l hq i hi
  have hn:scF l (i+1)=scS l i (scF l i):=E4 ..
  have hfin:l.length<=i->(scF l i).1=scR l:=λh=>by rw[show i=l.length by omega];rfl
  generalize scF l i=s at hn hfin hok⊢;obtain⟨r,m⟩:=s;dsimp only at hok hfin⊢;have hlE:=D1n l r
  have hg:=D5d id (l.getD i default).ID m;unfold scS at hn;dsimp only at hn;simp only[id]at hg;by_cases hlt:i<l.length;rotate_left
  ·simp only[go_sem,go_sem_proc];rw[if_neg (by omega),hfin (by omega)];exact⟨I7 _,I7 _,I7 _,I7 _⟩
  have hbm:=B6 (l:=l) default hlt
  have hqb:=hq _ hbm
  have hvb:=hv _ hbm;cases hmm:m.any λy=>(l.getD i default).ID==y with
  |true=>rw[hmm]at hg;simp only[cond_true]at hg;rw[hmm,if_pos rfl]at hn;simp only[go_sem,go_sem_proc,hg,Option.getD_some];rw[if_pos (by omega)];refine⟨bE_,?_⟩;refine A7 ⟨i+1,by omega⟩ (by show l.length-(i+1)<l.length-i;omega) ?_;simp only[hn];refine B8 [] [] ?_;simp only[go_sem,go_sem_proc];exact eE_
  |false=>
   rw[hmm]at hg;simp only[cond_false]at hg;rw[hmm,if_neg (by simp)]at hn;simp only[go_sem,go_sem_proc,hg,Option.getD_none,D07];rw[if_pos (by omega)];refine⟨bE_,?_⟩;generalize hbd:l.getD i default=b at hbm hqb hvb hn hmm⊢;have h0:sc1 i 0 r=r:=by simp[sc1]
   refine A9 hm (ι:= {j:Nat // j<=b.Fixtures.length}) (λj=> [(4, .share, .ptr 80 0 0 1),(5, .share, .ptr 96 0 0 1),(6, .share, .mp 3),(14, .share,A2 20 Body.enc default l),(15, .share,sI l.length),(16, .share,sI (i:Nat)),(7, .share,sI (i:Nat)),(8, .thaw, .fptr b.enc),(30, .share,sI b.Fixtures.length),(31, .share,sI (j.1:Nat))]) (λj=> [(80, .box [.sc (.slice none 0 0), .sc (.slice none 0 0), .sc (.slice none 0 0), .sc (.slice none 0 0)]),(96, .box [A2 20 Body.enc default l,A2 24 Joint.enc default js, .sl 1 0 (sc1 i j.1 r).length (sc1 i j.1 r).length, .sl 2 0 (scE l (sc1 i j.1 r)).length (scE l (sc1 i j.1 r)).length]),(1, .arr 2 (A8 F9.enc default (sc1 i j.1 r))),(2, .arr 5 (A8 sap_Entry.enc default (scE l (sc1 i j.1 r)))),(3, .map .i64 (C8k id (m++ [b.ID])))]) (λj=>b.Fixtures.length-j.1) ⟨0,Nat.zero_le _⟩ ?_ ?_
   ·simp only[h0,<-D4e id b.ID m hmm];refine B8 [] [] ?_;simp only[go_sem,go_sem_proc,A0c];exact eE_
   ·rintro⟨j,hj⟩;dsimp only;have hr1:sc1 i (j+1) r=sc1 i j r++ [⟨(i:Nat),(j:Nat)⟩]:=F52 ..
    have hE1:scE l (sc1 i (j+1) r)=scE l (sc1 i j r)++ [⟨((sc1 i j r).length:Nat),(A2a b (j:Nat)).Bounds⟩]:=by rw[hr1,F9u];show _++ [(⟨_,(A2a (l.getD ((i:Nat):Int).toNat default) (j:Nat)).Bounds⟩:sap_Entry)]=_;rw[Int.toNat_natCast,hbd]
    have hl1:(sc1 i j r).length=r.length+j:=E78 ..
    have hl2:=D1n l (sc1 i j r)
    have hfin2:b.Fixtures.length<=j->sc1 i j r=sc1 i b.Fixtures.length r:=λh=>by rw[show j=b.Fixtures.length by omega]
    generalize sc1 i j r=u at hr1 hE1 hl1 hl2 hfin2⊢;generalize he:scE l u=e at hE1 hl2⊢;simp only[go_sem,go_sem_proc];by_cases hlt2:j<b.Fixtures.length
    ·rw[if_pos (by omega)];refine A0 (C9t b (j:Nat) ⟨by omega,by omega⟩ hvb) rfl ?_;simp only[go_sem,go_sem_proc];refine⟨bE_,bE_,?_⟩;refine A7 ⟨j+1,by omega⟩ (by show b.Fixtures.length-(j+1)<b.Fixtures.length-j;omega) ?_;simp only[hE1];simp only[hr1];refine B8 [] [] ?_;simp only[go_sem,go_sem_proc];exact eE_
    ·rw[if_neg (by omega)];refine A7 ⟨i+1,by omega⟩ (by show l.length-(i+1)<l.length-i;omega) ?_;simp only[hn];rw[<-hfin2 (by omega),he];refine B8 [] [] ?_;simp only[go_sem,go_sem_proc];exact eE_
end Go.Abs
end
noncomputable section
namespace Go.Abs
open Go.Proofs
open Api
open Go.Sort
theorem G4b(a b c d:Int):X3 [a,b,c,d]=if a≠0 then a else if b≠0 then b else if c≠0 then c else d:=by unfold X3;simp only[List.length_cons,List.length_nil,Nat.zero_add,Nat.reduceAdd,D3,A2y];by_cases ha:a=0 <;> by_cases hb:b=0 <;> by_cases hc:c=0 <;> by_cases hd:d=0 <;> simp[ha,hb,hc,hd]
def E26(a b:PairKey):Int:=B67 [PairKey.BodyA,PairKey.FixtureA,PairKey.BodyB,PairKey.FixtureB] a b
theorem G3j(a b:PairKey):Z4 a b=E26 a b:=by unfold Z4 E26;dsimp only;rw[G4b,C0l,C0l,C0l,C0l];simp only[B67];by_cases h:B9l a.FixtureB b.FixtureB=0 <;> simp[h]
def G1h(x:PairKey):KEl 4:=⟨[x.BodyA,x.FixtureA,x.BodyB,x.FixtureB],rfl⟩
def F6l(y:KEl 4):PairKey:=⟨y.1.getD 0 0,y.1.getD 1 0,y.1.getD 2 0,y.1.getD 3 0⟩
theorem F6c: ∀y:KEl 4,kav y=(F6l y).enc
 |⟨[a,b,c,d],_⟩=>rfl
def E36(l:List PairKey):List PairKey:=B1z G1h F6l E26 l
theorem D54(l:List PairKey):(E36 l).length=l.length:=B7b (A9z _) l
theorem B7v(id:Nat)(l:List PairKey)(hl:l.length<4611686018427387904):
  A1 Tryz.prog B7x [.sl id 0 l.length l.length, .fn (.func B30) [] []] [(id, .arr 4 (A8 PairKey.enc default l))] (.tup []) [(id, .arr 4 (A8 PairKey.enc default (E36 l)))]:=
 D95 (toK:=G1h) (fromK:=F6l) (cf:=E26) Tryz.laySF_PairKey (by decide) (by kernel_rfl) (λw=>W8 (by kernel_rfl)) (λw=>S5 (by kernel_rfl)) default rfl (λx=>rfl) F6c (A9z _) (λargs w=>A7r (by kernel_rfl) args)
  (λx y=>by have:=B3v x y;rwa[G3j]at this) id l hl
theorem E9h(l:List sap_Entry): ∀i,i<=l.length-> ∀p∈nbP l i,p.1∈l/\p.2∈l
 |0,_,p,hp=>by simp[nbP]at hp
 |i+1,h,p,hp=>by
  rw[nbP,List.mem_append]at hp;rcases hp with hp |hp
  ·exact E9h l i (by omega) p hp
  ·unfold nbI at hp;obtain⟨b,hb,rfl⟩:=List.mem_map.1 hp;exact⟨B6 default (by omega),List.mem_of_mem_drop ((List.takeWhile_prefix (B5a (l.getD i default))).subset hb)⟩
theorem F2i {l:List sap_Entry}{n:Int}(h: ∀x∈l,0<=x.ID/\x.ID<n): ∀p∈B1r l,(0<=p.1/\p.1<n)/\0<=p.2/\p.2<n:=by
 intro p hp;unfold B1r D0r at hp;rw[D57 (show SWO (ltOf D1l)from A9z _) (λ_=>rfl)]at hp;unfold C3m at hp;obtain⟨q,hq,e⟩:=List.mem_filterMap.1 hp;have hm:=E9h _ _ (Nat.le_refl _) q hq
 have hs: ∀x∈A7m (A4r l),0<=x.ID/\x.ID<n:=λx hx=>by
  unfold A7m at hx;rw[D57 (show SWO (ltOf E95)from A9z _) (λ_=>rfl)]at hx;rcases E5b l [] x hx with h1 |h1
  ·cases h1
  ·exact h x h1
 have h1:=hs _ hm.1
 have h2:=hs _ hm.2;unfold pr1 at e;split at e
 ·injection e with e;subst e;dsimp only;split <;> split <;> omega
 ·cases e
def B2b(s:broadphase_scene)(p:P2):Option PairKey:=if Z9 s (s.refs.getD p.1.toNat default) (s.refs.getD p.2.toNat default)=true then some (A31 s (s.refs.getD p.1.toNat default) (s.refs.getD p.2.toNat default))else none
def fpU(l:List Body)(js:List Joint):List PairKey:=(B1r (A7g l js).entries).filterMap (B2b (A7g l js))
def fpL(l:List Body)(js:List Joint):List PairKey:=E36 (fpU l js)
theorem D79(l:List sap_Entry)(hl:l.length<=480):(B1r l).length<=230400:=by unfold B1r;rw[D6n];exact(D6v l hl).1
theorem D1o(l:List Body)(js:List Joint)(hl:l.length<=60)(hq: ∀b∈l,b.Fixtures.length<=8):(fpL l js).length<=230400:=by
 unfold fpL;rw[D54];have h1:(fpU l js).length<=(B1r (A7g l js).entries).length:=List.length_filterMap_le ..
 have h2:=(F2v hq).2
 have h3:=D79 (A7g l js).entries (by show(scE l (scR l)).length<=_;rw[D1n];omega);omega
theorem B1h(l:List Body)(js:List Joint)(hl:l.length<=60)(hq: ∀b∈l,b.Fixtures.length<=8)(hv: ∀b∈l,∀f∈b.Fixtures,f.Shape.Vertices.length<=1048576)(hj:js.length<=1048576):A1 Tryz.prog C16 [A2 20 Body.enc default l,A2 24 Joint.enc default js] [] (A2 4 PairKey.enc default (fpL l js)) []:=by
 have hS:=C3j l js hl hq hv
 have hR:=F2v hq
 have hP:=F2i (l:=(A7g l js).entries) (n:=(scR l).length) (λx hx=>G1n hx)
 have hle:(A7g l js).entries.length<=480:=by show(scE l (scR l)).length<=_;rw[D1n];omega
 have hlen:=D79 _ hle
 have hC:=E6x _ hle
 have hrefs:(A7g l js).refs=scR l:=rfl
 have hbod:(A7g l js).bodies=l:=rfl
 have hjs:(A7g l js).joints=js:=rfl;unfold fpL fpU;generalize A7g l js=s at hS hP hlen hC hrefs hbod hjs⊢;generalize hps:B1r s.entries=ps at hP hlen hC⊢;refine en1 hm A4 Tryz.func153 rfl rfl ?_;simp only[go_sem,go_sem_proc];refine A0 hS rfl ?_;simp only[go_sem,go_sem_proc];refine A0 hC rfl ?_;simp only[go_sem,go_sem_proc];refine A9 hm (ι:= {i:Nat // i<=ps.length}) (λi=> [(5, .share, .ptr 96 0 0 1),(6,mdA i.1, .sl 1 0 ((ps.take i.1).filterMap (B2b s)).length ((ps.take i.1).filterMap (B2b s)).length),(16, .share,A2 2 p2E default ps),(17, .share,sI ps.length),(18, .share,sI (i.1:Nat))]) (λi=> [(96, .box s.enc),(1, .arr 4 (A8 PairKey.enc default ((ps.take i.1).filterMap (B2b s))))]) (λi=>ps.length-i.1) ⟨0,Nat.zero_le _⟩ ?_ ?_
 ·simp only[List.take_zero,List.filterMap_nil];refine B8 [] [1] ?_;simp only[go_sem,go_sem_proc]
 ·rintro⟨i,hi⟩;dsimp only;have hn:i<ps.length->(ps.take (i+1)).filterMap (B2b s)=(ps.take i).filterMap (B2b s)++(B2b s (ps.getD i default)).toList:=λh=>C3q h
  have hfin:ps.length<=i->(ps.take i).filterMap (B2b s)=ps.filterMap (B2b s):=λh=>by rw[show i=ps.length by omega,List.take_length]
  have hln:=C9v (f:=B2b s) (l:=ps) i;generalize(ps.take i).filterMap (B2b s)=v at hn hfin hln⊢;simp only[go_sem,go_sem_proc];by_cases hlt:i<ps.length;rotate_left
  ·rw[if_neg (by omega)];refine E6 (B7v 1 v (by omega)) (by simp[okO]) (by simp[okO]) (by simp) (by simp[upd]) (by simp) ?_ rfl ?_
   ·intro a ha j hj;obtain⟨k,hk⟩:=List.getElem?_of_mem ha;have:=N2 hk j hj;simp[F4,AV.ids]at this;subst this;rfl
   simp only[go_sem,go_sem_proc];rw[<-hfin (by omega)];rw[D54];exact⟨rfl,I7 _⟩
  rw[if_pos (by omega)];replace hn:=hn hlt;have hp:=hP _ (B6 (l:=ps) default hlt);rw[show B2b s (ps.getD i default)=if Z9 s (s.refs.getD (ps.getD i default).1.toNat default) (s.refs.getD (ps.getD i default).2.toNat default)=true then some (A31 s (s.refs.getD (ps.getD i default).1.toNat default) (s.refs.getD (ps.getD i default).2.toNat default))else none from rfl]at hn;generalize ps.getD i default=p at hn hp⊢;obtain⟨p1,p2⟩:=p;dsimp only at hp hn;have hx:=hR.1 _ (B6 (l:=scR l) (i:=p1.toNat) default (by omega))
  have hy:=hR.1 _ (B6 (l:=scR l) (i:=p2.toNat) default (by omega));rw[<-hrefs]at hx hy;have hxl:p1.toNat<s.refs.length:=by rw[hrefs];omega
  have hyl:p2.toNat<s.refs.length:=by rw[hrefs];omega
  generalize s.refs.getD p1.toNat default=x at hx hn⊢;generalize s.refs.getD p2.toNat default=y at hy hn⊢;obtain⟨x1,x2,x3,x4⟩:=hx;obtain⟨y1,y2,y3,y4⟩:=hy;refine⟨bE_,bE_,by dsimp only;omega,bE_,by dsimp only;omega,?_⟩;have bx:0<=x.body/\x.body<s.bodies.length:=⟨x1,by rw[hbod];exact x2⟩
  have by':0<=y.body/\y.body<s.bodies.length:=⟨y1,by rw[hbod];exact y2⟩;refine A0 (B63 s x y bx by' ⟨x3,by rw[hbod];exact x4⟩ ⟨y3,by rw[hbod];exact y4⟩ (by rw[hjs];exact hj)) rfl ?_;generalize Z9 s x y=ok at hn⊢;cases ok with
  |false=>rw[if_neg (by simp)]at hn;simp only[Option.toList,List.append_nil]at hn;simp only[go_sem,go_sem_proc];refine A7 ⟨i+1,by omega⟩ (by show ps.length-(i+1)<ps.length-i;omega) ?_;simp only[hn];refine B8 [] [] ?_;simp only[go_sem,go_sem_proc];exact eE_
  |true=>rw[if_pos rfl]at hn;simp only[Option.toList]at hn;simp only[go_sem,go_sem_proc];refine A0 (C19 s x y bx by') rfl ?_;simp only[go_sem,go_sem_proc];refine⟨bE_,?_⟩;refine A7 ⟨i+1,by omega⟩ (by show ps.length-(i+1)<ps.length-i;omega) ?_;simp only[hn];refine B8 [] [] ?_;simp only[go_sem,go_sem_proc];exact eE_
end Go.Abs
end
noncomputable section
namespace Go.Abs
open Go.Proofs
open Api
theorem F2g(a b:manifold_placed):(U2 a b).1.Points.length<=2:=by
 unfold U2;dsimp only;split
 ·exact Nat.zero_le _
 ·exact Nat.le_succ_of_le (D4z ..)
theorem E4u(a b:manifold_placed):(H4 a b).1.Points.length<=2:=by
 unfold H4;dsimp only;generalize(if 0<(D0 a.core b.core).2 then S8 (L9 (b.core.getD 0 default) (W0 a.core (b.core.getD 0 default))) (P4 a.core (D0 a.core b.core).1)else(P4 a.core (D0 a.core b.core).1,(D0 a.core b.core).2))=dl;split
 ·exact Nat.zero_le _
 ·exact Nat.le_succ_of_le (D4z ..)
theorem E8a(a b:manifold_placed)(i:Int):(clL a b i).length<=2:=Nat.le_trans (D1m a b i _) (D1a a b i)
theorem F6x(a b:manifold_placed)(i:Int):(D10 a b i).1.Points.length<=2:=by
 unfold D10;split
 ·exact Nat.zero_le _
 ·exact E8a a b i
theorem E4y(m:Manifold)(ok:Bool)(h:m.Points.length<=2):(V1 m ok).1.Points.length<=2:=by
 unfold V1;split
 ·exact Nat.zero_le _
 ·exact h
theorem F2s(a b:manifold_placed):(L4 a b).1.Points.length<=2:=by
 unfold L4;dsimp only;generalize D0 a.core b.core=p;generalize D0 b.core a.core=q;generalize(if p.2<q.2 then q.2 else p.2)=mx;split
 ·exact Nat.zero_le _
 split
 ·exact F6x ..
 split
 ·exact Nat.zero_le _
 ·refine E4y _ _ ?_;show(E56 _).length<=2;rw[show(E56 (clL b a q.1)).length=(clL b a q.1).length from T1 (λs:List ContactPoint=>s.length) (λi s=>by simp) _ _];exact E8a ..
theorem D3i(a:Shape)(ta:Transform)(b:Shape)(tb:Transform):(Y6 a ta b tb).1.Points.length<=2:=by
 unfold Y6;generalize J6 a ta=p;generalize J6 b tb=q;generalize E7 a=x;generalize E7 b=y;have h1:=F2g p q
 have h2:=E4u p q
 have h3:=E4u q p
 have h4:=F2s p q
 have h5:=E4y (H4 q p).1 (H4 q p).2 h3;dsimp only;split
 ·exact Nat.zero_le _
 split
 ·exact h1
 split
 ·exact h2
 split
 ·exact h5
 ·exact h4
def F0t(w:Api.World)(k:PairKey):Manifold:=match A55 w.Contacts k w.Contacts.length with
 |some i=>(w.Contacts.getD i default).Manifold
 |none=>⟨⟨0,0⟩,[]⟩
def A6k(w:Api.World)(k:PairKey):Option Contact:=
 if((G5 w k.BodyA k.FixtureA).1.Sensor||(G5 w k.BodyB k.FixtureB).1.Sensor)=true then none
 else if(Y6 (G5 w k.BodyA k.FixtureA).1.Shape (G5 w k.BodyA k.FixtureA).2.1 (G5 w k.BodyB k.FixtureB).1.Shape (G5 w k.BodyB k.FixtureB).2.1).2=false then none
 else some ⟨k,wsM (F0t w k) (Y6 (G5 w k.BodyA k.FixtureA).1.Shape (G5 w k.BodyA k.FixtureA).2.1 (G5 w k.BodyB k.FixtureB).1.Shape (G5 w k.BodyB k.FixtureB).2.1).1⟩
def B4i(w:Api.World):List Contact:=if F1 w=0 then(fpL w.Bodies w.Joints).filterMap (A6k w)else []
def Wfw(w:Api.World):Prop:=w.Bodies.length<=60/\ ∀b∈w.Bodies,b.Fixtures.length<=8
theorem F04 {w:Api.World}{k:PairKey}{c:Contact}(h:A6k w k=some c):c.Manifold.Points.length<=2:=by
 unfold A6k at h;split at h
 ·cases h
 split at h
 ·cases h
 injection h with h;subst h;show(wsM _ _).Points.length<=2;rw[F9q];exact D3i ..
theorem D1j(w:Api.World)(hf:Wfw w):(B4i w).length<=230400/\ ∀c∈B4i w,c.Manifold.Points.length<=2:=by
 unfold B4i;split
 ·refine⟨Nat.le_trans (List.length_filterMap_le ..) (D1o _ _ hf.1 hf.2),λc hc=> ?_⟩;obtain⟨k,_,hk⟩:=List.mem_filterMap.1 hc;exact F04 hk
 ·simp
theorem B20 {w:Api.World}(hw:Wsm w)(id n:Int):(G5 w id n).1.Shape.Vertices.length<=1048576:=by
 unfold G5;dsimp only;split
 ·exact Nat.zero_le _
 ·rename_i h;simp only[Bool.or_eq_true,decide_eq_true_eq,not_or,Int.not_lt,Int.not_le]at h;have hl:=A2q w id;exact(hw.2.2.2.2.1 _ (B6 default (by omega))).2 _ (B6 default (by omega))
theorem F93 {w:Api.World}(hw:Wsm w)(k:PairKey):(F0t w k).Points.length<=1048576:=by
 unfold F0t;cases hf:A55 w.Contacts k w.Contacts.length with
 |none=>exact Nat.zero_le _
 |some i=>exact hw.2.2.2.2.2 _ (B6 default (C9n hf).1)
theorem D4o(w:Api.World)(hw:Wsm w)(hf:Wfw w):A1 Tryz.prog D5c [.agg w.enc] [] (A2 7 Contact.enc default (B4i w)) []:=by
 refine en1 hm A4 Tryz.func96 rfl rfl ?_;simp only[go_sem,go_sem_proc];refine A0 (R8 w hw) rfl ?_;simp only[go_sem,go_sem_proc];unfold B4i;by_cases hv:F1 w=0;rotate_left
 ·rw[if_pos (by simpa using hv),if_neg hv];exact Q8 rfl
 rw[if_neg (by simpa using hv),if_pos hv];refine K0 ev_ K8 (B3m w.Contacts hw.2.2.1) ?_;simp only[go_sem,go_sem_proc];have hFP:=B1h w.Bodies w.Joints hf.1 hf.2 (λb hb f hfx=>(hw.2.2.2.2.1 b hb).2 f hfx) hw.2.1
 have hFl:=D1o w.Bodies w.Joints hf.1 hf.2;generalize fpL w.Bodies w.Joints=ks at hFP hFl⊢;refine A0 hFP rfl ?_;simp only[go_sem,go_sem_proc];refine A9 hm (ι:= {i:Nat // i<=ks.length}) (λi=> [(1, .thaw, .fptr w.enc),(3, .share, .mp 2),(4,mdA i.1, .sl 1 0 ((ks.take i.1).filterMap (A6k w)).length ((ks.take i.1).filterMap (A6k w)).length),(28, .share,A2 4 PairKey.enc default ks),(29, .share,sI ks.length),(30, .share,sI (i.1:Nat))]) (λi=> [(1, .arr 7 (A8 Contact.enc default ((ks.take i.1).filterMap (A6k w)))),(2, .mapS 4 (ibk w.Contacts w.Contacts.length))]) (λi=>ks.length-i.1) ⟨0,Nat.zero_le _⟩ ?_ ?_
 ·simp only[List.take_zero,List.filterMap_nil];refine B8 [(2,384)] [1] ?_;simp only[go_sem,go_sem_proc,A0c];exact eE_
 ·rintro⟨i,hi⟩;dsimp only;have hn:i<ks.length->(ks.take (i+1)).filterMap (A6k w)=(ks.take i).filterMap (A6k w)++(A6k w (ks.getD i default)).toList:=λh=>C3q h
  have hfin:ks.length<=i->(ks.take i).filterMap (A6k w)=ks.filterMap (A6k w):=λh=>by rw[show i=ks.length by omega,List.take_length]
  have hln:=C9v (f:=A6k w) (l:=ks) i;generalize(ks.take i).filterMap (A6k w)=v at hn hfin hln⊢;simp only[go_sem,go_sem_proc];by_cases hlt:i<ks.length;rotate_left
  ·rw[if_neg (by omega),<-hfin (by omega)];exact eE_
  rw[if_pos (by omega)];refine⟨bE_,?_⟩;replace hn:=hn hlt;generalize ks.getD i default=k at hn⊢;refine A0 (B2l w k.BodyA k.FixtureA hw.1) rfl ?_;simp only[go_sem,go_sem_proc];refine A0 (B2l w k.BodyB k.FixtureB hw.1) rfl ?_;have ha:=B20 hw k.BodyA k.FixtureA
  have hb:=B20 hw k.BodyB k.FixtureB
  have hom:=F93 hw k
  have hu:=A6k.eq_1 w k
  have hcl:=D3i (G5 w k.BodyA k.FixtureA).1.Shape (G5 w k.BodyA k.FixtureA).2.1 (G5 w k.BodyB k.FixtureB).1.Shape (G5 w k.BodyB k.FixtureB).2.1;generalize G5 w k.BodyA k.FixtureA=A at hu ha hcl⊢;generalize G5 w k.BodyB k.FixtureB=B at hu hb hcl⊢;simp only[go_sem,go_sem_proc];by_cases hs:(A.1.Sensor||B.1.Sensor)=true
  ·rw[if_pos hs]at hu⊢;rw[hu]at hn;simp only[Option.toList,List.append_nil]at hn;refine A7 ⟨i+1,by omega⟩ (by show ks.length-(i+1)<ks.length-i;omega) ?_;simp only[hn];refine B8 [] [] ?_;simp only[go_sem,go_sem_proc];exact eE_
  rw[if_neg hs]at hu⊢;refine A0 (D0o A.1.Shape A.2.1 B.1.Shape B.2.1 ha hb) rfl ?_;generalize Y6 A.1.Shape A.2.1 B.1.Shape B.2.1=C at hu hcl⊢;obtain⟨C1,C2⟩:=C;dsimp only at hu hcl;cases C2 with
  |false=>rw[if_pos rfl]at hu;rw[hu]at hn;simp only[Option.toList,List.append_nil]at hn;simp only[go_sem,go_sem_proc];refine A7 ⟨i+1,by omega⟩ (by show ks.length-(i+1)<ks.length-i;omega) ?_;simp only[hn];refine B8 [] [] ?_;simp only[go_sem,go_sem_proc];exact eE_
  |true=>
   rw[if_neg (by simp)]at hu;rw[hu]at hn;simp only[Option.toList]at hn;have hat:=F34 w.Contacts k;unfold F0t at hn hom;cases hfc:A55 w.Contacts k w.Contacts.length with
   |none=>
    rw[hfc]at hat hn hom;simp only[Option.map_none]at hat
    dsimp only at hn hom;simp only[go_sem,go_sem_proc,hat,Option.getD_none,Option.isSome_none];refine A5c (B41 ⟨⟨0,0⟩,[]⟩ C1 hom (by omega)) ?_;simp only[A02,go_sem,go_sem_proc];refine⟨Q8 rfl,bE_,?_⟩;refine A7 ⟨i+1,by omega⟩ (by show ks.length-(i+1)<ks.length-i;omega) ?_;simp only[hn];refine B8 [] [] ?_;simp only[go_sem,go_sem_proc];exact eE_
   |some q=>
    rw[hfc]at hat hn hom;have hq:=(C9n hfc).1;simp only[Option.map_some]at hat
    dsimp only at hn hom;simp only[go_sem,go_sem_proc,hat,Option.getD_some,Option.isSome_some];refine⟨bE_,?_⟩;refine A0 (B41 (w.Contacts.getD q default).Manifold C1 hom (by omega)) rfl ?_;simp only[go_sem,go_sem_proc];refine⟨bE_,?_⟩;refine A7 ⟨i+1,by omega⟩ (by show ks.length-(i+1)<ks.length-i;omega) ?_;simp only[hn];refine B8 [] [] ?_;simp only[go_sem,go_sem_proc];exact eE_
def P1(bs:List SolverBody)(i:Int):SolverBody:=if((decide (i<0))||(decide ((bs.length:Int)<=i)))=true then((⟨(⟨0,0⟩:Vec),0,0,0⟩:SolverBody))else((bs.getD i.toNat default))
theorem C06(bs:List SolverBody)(i:Int):A1 Tryz.prog D53 [A2 5 SolverBody.enc default bs,sI i] [] (.agg (P1 bs i).enc) []:=by refine L5 18 [(4,some (some 5))] hm A4 Tryz.func511 rfl ?_;have:=P1.eq_1 bs i;exact C9
def W4(r:Row)(bs:List SolverBody):Int:=let v1:=(P1 bs r.A);let v2:=(P1 bs r.B);let v3:=(L9 v2.Velocity v1.Velocity);let v4:=(O7 r.Normal v3);let v5:=(B4 v2.AngularVelocity r.ArmB);let v6:=(C5 v4 v5);let v7:=(B4 v1.AngularVelocity r.ArmA);let v8:=(sat (sat v6-sat v7));v8
theorem A66(r:Row)(bs:List SolverBody):A1 Tryz.prog B4v [.agg r.enc,A2 5 SolverBody.enc default bs] [] (sI (W4 r bs)) []:=by
 refine en1 hm A4 Tryz.func438 rfl rfl ?_;have:=C06
 have:=K2
 have:=Z3
 have:=L8
 have:=M8
 have:=Q5
 have:=W4.eq_1 r bs;exact C9
def M1(a:Int)(i:Int):Int:=let v1:=(B4 a a);let v2:=(B4 v1 i);v2
theorem B8w(a:Int)(i:Int):A1 Tryz.prog B9r [sI a,sI i] [] (sI (M1 a i)) []:=by
 refine en1 hm A4 Tryz.func512 rfl rfl ?_;have:=L8
 have:=M1.eq_1 a i;exact C9
def A3b(r:Row)(v6:Int)(v7:Int)(i1:Nat)(s1:Int):Int:=let v8:=(C5 s1 (([v6,v7,r.Softness]).getD i1 0));v8
def R9(r:Row)(bs:List SolverBody):Int:=let v1:=(P1 bs r.A);let v2:=(P1 bs r.B);let v3:=(C5 v1.InvMass v2.InvMass);let v4:=(O7 r.Normal r.Normal);let v5:=(B4 v3 v4);let v6:=(M1 r.ArmA v1.InvInertia);let v7:=(M1 r.ArmB v2.InvInertia);let s1:=itr (A3b r v6 v7) 3 v5;if s1<1 then(0)else(let v9:=(Y1 65536 s1);v9)
theorem M2(r:Row)(bs:List SolverBody):A1 Tryz.prog B7f [.agg r.enc,A2 5 SolverBody.enc default bs] [] (sI (R9 r bs)) []:=by
 refine en1 hm A4 Tryz.func436 rfl rfl ?_;have:=C06
 have:=M8
 have:=Z3
 have:=L8
 have:=B8w
 have:=A6w
 have:=R9.eq_1 r bs
 have:=λi_ s_=>A3b.eq_1 r (M1 r.ArmA (P1 bs r.A).InvInertia) (M1 r.ArmB (P1 bs r.B).InvInertia) i_ s_
 have:=λx_ Q_ σ_=> @lp_ Tryz.prog Tryz.f436.ntmps [] x_ Q_ σ_ hm (λ_=>True) (λ_=>True) 3 (λi_=> [(7, .share,sI (itr (A3b r (M1 r.ArmA (P1 bs r.A).InvInertia) (M1 r.ArmB (P1 bs r.B).InvInertia)) i_ (B4 (C5 (P1 bs r.A).InvMass (P1 bs r.B).InvMass) (O7 r.Normal r.Normal)))),(41, .share, .sl 672 0 3 3),(42, .share,sI 3),(43, .share,sI (i_:Int))]) (λi_=> [(672, .arr 1 (A8 B9 0 ([(M1 r.ArmA (P1 bs r.A).InvInertia),(M1 r.ArmB (P1 bs r.B).InvInertia),r.Softness])))]) [] trivial (λ_ _=>trivial) (by simp[go_sem]) (by simp[go_sem,A6]) (by simp[go_sem]);exact J1
def P3(r:Row)(bs:List SolverBody)(p:Int):(List SolverBody):=let v1:=bs;if((decide (0<=r.A))&&(decide (r.A<(v1.length:Int))))=true then(let v2:=(B4 p (v1.getD r.A.toNat default).InvMass);let v3:=(R0 r.Normal v2);let v4:=(L9 (v1.getD r.A.toNat default).Velocity v3);let v5:=(B4 p r.ArmA);let v6:=(B4 v5 (v1.getD r.A.toNat default).InvInertia);let v7:=(sat (sat (v1.getD r.A.toNat default).AngularVelocity-sat v6));if((decide (0<=r.B))&&(decide (r.B<(v1.length:Int))))=true then(let v8:=(B4 p ((v1.set r.A.toNat (⟨v4,v7,(v1.getD r.A.toNat default).InvMass,(v1.getD r.A.toNat default).InvInertia⟩:SolverBody)).getD r.B.toNat default).InvMass);let v9:=(R0 r.Normal v8);let v10:=(A11 ((v1.set r.A.toNat (⟨v4,v7,(v1.getD r.A.toNat default).InvMass,(v1.getD r.A.toNat default).InvInertia⟩:SolverBody)).getD r.B.toNat default).Velocity v9);let v11:=(B4 p r.ArmB);let v12:=(B4 v11 ((v1.set r.A.toNat (⟨v4,v7,(v1.getD r.A.toNat default).InvMass,(v1.getD r.A.toNat default).InvInertia⟩:SolverBody)).getD r.B.toNat default).InvInertia);let v13:=(C5 ((v1.set r.A.toNat (⟨v4,v7,(v1.getD r.A.toNat default).InvMass,(v1.getD r.A.toNat default).InvInertia⟩:SolverBody)).getD r.B.toNat default).AngularVelocity v12);((v1.set r.A.toNat (⟨v4,v7,(v1.getD r.A.toNat default).InvMass,(v1.getD r.A.toNat default).InvInertia⟩:SolverBody)).set r.B.toNat (⟨v10,v13,((v1.set r.A.toNat (⟨v4,v7,(v1.getD r.A.toNat default).InvMass,(v1.getD r.A.toNat default).InvInertia⟩:SolverBody)).getD r.B.toNat default).InvMass,((v1.set r.A.toNat (⟨v4,v7,(v1.getD r.A.toNat default).InvMass,(v1.getD r.A.toNat default).InvInertia⟩:SolverBody)).getD r.B.toNat default).InvInertia⟩:SolverBody)))else((v1.set r.A.toNat (⟨v4,v7,(v1.getD r.A.toNat default).InvMass,(v1.getD r.A.toNat default).InvInertia⟩:SolverBody))))else(if((decide (0<=r.B))&&(decide (r.B<(v1.length:Int))))=true then(let v14:=(B4 p (v1.getD r.B.toNat default).InvMass);let v15:=(R0 r.Normal v14);let v16:=(A11 (v1.getD r.B.toNat default).Velocity v15);let v17:=(B4 p r.ArmB);let v18:=(B4 v17 (v1.getD r.B.toNat default).InvInertia);let v19:=(C5 (v1.getD r.B.toNat default).AngularVelocity v18);(v1.set r.B.toNat (⟨v16,v19,(v1.getD r.B.toNat default).InvMass,(v1.getD r.B.toNat default).InvInertia⟩:SolverBody)))else(v1))
theorem A44(r:Row)(bs:List SolverBody)(p:Int)(h0:bs.length<=1048576):A1 Tryz.prog B7u [.agg r.enc,A2 5 SolverBody.enc default bs,sI p] [] (.sl 1 0 (P3 r bs p).length (P3 r bs p).length) [(1, .arr 5 (A8 SolverBody.enc default (P3 r bs p)))]:=by
 refine H8 hm A4 Tryz.func317 rfl rfl ?_;have:=A9h
 have:=L8
 have:=A7y
 have:=K2
 have:=Q5
 have:=A47
 have:=M8
 have:=P3.eq_1 r bs p;exact J1
def K4(j:Joint)(a:Body)(b:Body):Vec×Vec:=let v1:=(X0 b.Transform j.AnchorB);if(j.Kind != 5)=true then(let v2:=(X0 a.Transform j.AnchorA);(v2,v1))else((j.AnchorA,v1))
theorem A2x(j:Joint)(a:Body)(b:Body):A1 Tryz.prog C0f [.agg j.enc, .agg a.enc, .agg b.enc] [] (.tup [.agg (K4 j a b).1.enc, .agg (K4 j a b).2.enc]) []:=by
 refine A62 27 [(6,some (some 2)),(7,some (some 2))] hm A4 Tryz.func433 rfl ?_;have:=A7a
 have:=K4.eq_1 j a b;exact C9
def X8(j:Joint)(a:Body)(b:Body):Int:=if(j.Kind==5)=true then(0)else(let v1:=(I5 a.Transform.Angle);let v2:=(I5 j.ReferenceAngle);let v3:=(I5 (IntKind.i64.wrap (v1+v2)));let v4:=(A0b v3 b.Transform.Angle);v4)
theorem A7q(j:Joint)(a:Body)(b:Body):A1 Tryz.prog C3b [.agg j.enc, .agg a.enc, .agg b.enc] [] (sI (X8 j a b)) []:=by
 refine en1 hm A4 Tryz.func426 rfl rfl ?_;have:=A4w
 have:=B8t
 have:=X8.eq_1 j a b;exact C9
def W9(j:Joint)(a:Body):Vec:=let v1:=(B1q a.Transform.Angle);let v2:=(A8y v1 j.Axis);v2
theorem B06(j:Joint)(a:Body):A1 Tryz.prog D2n [.agg j.enc, .agg a.enc] [] (.agg (W9 j a).enc) []:=by
 refine L5 12 [(4,some (some 2))] hm A4 Tryz.func428 rfl ?_;have:=C1u
 have:=B68
 have:=W9.eq_1 j a;exact C9
def A3e(j:Joint)(a:Body)(b:Body):Int:=let v1:=(K4 j a b);let v2:=(W9 j a);let v3:=(L9 v1.2 v1.1);let v4:=(O7 v2 v3);v4
theorem C6x(j:Joint)(a:Body)(b:Body):A1 Tryz.prog C7j [.agg j.enc, .agg a.enc, .agg b.enc] [] (sI (A3e j a b)) []:=by
 refine en1 hm A4 Tryz.func430 rfl rfl ?_;have:=A2x
 have:=B06
 have:=K2
 have:=Z3
 have:=A3e.eq_1 j a b;exact C9
def A14(j:Joint)(a:Body)(b:Body):Vec:=let v1:=(K4 j a b);let v2:=(L9 v1.2 v1.1);v2
theorem A8x(j:Joint)(a:Body)(b:Body):A1 Tryz.prog B7i [.agg j.enc, .agg a.enc, .agg b.enc] [] (.agg (A14 j a b).enc) []:=by
 refine L5 19 [(6,some (some 2))] hm A4 Tryz.func418 rfl ?_;have:=A2x
 have:=K2
 have:=A14.eq_1 j a b;exact C9
def A3r(j:Joint)(a:Body)(b:Body):Int:=let v1:=(A14 j a b);let v2:=(A32 v1);v2
theorem B10(j:Joint)(a:Body)(b:Body):A1 Tryz.prog C1w [.agg j.enc, .agg a.enc, .agg b.enc] [] (sI (A3r j a b)) []:=by
 refine en1 hm A4 Tryz.func417 rfl rfl ?_;have:=A8x
 have:=U6
 have:=A3r.eq_1 j a b;exact C9
def A1q(j:Joint)(a:Body)(b:Body):Int:=let v1:=(A3r j a b);if v1<j.Lower then(let v2:=(sat (sat v1-sat j.Lower));v2)else(if j.Upper<v1 then(let v3:=(sat (sat v1-sat j.Upper));v3)else(0))
theorem B6x(j:Joint)(a:Body)(b:Body):A1 Tryz.prog B6q [.agg j.enc, .agg a.enc, .agg b.enc] [] (sI (A1q j a b)) []:=by
 refine en1 hm A4 Tryz.func422 rfl rfl ?_;have:=B10
 have:=Q5
 have:=A1q.eq_1 j a b;exact C9
def H9(e:Int)(dt:Int):Int:=let v1:=(Y1 e dt);let v2:=(B4 13107 v1);let v3:=(P7 v2 (-262144) 262144);v3
theorem U4(e:Int)(dt:Int):A1 Tryz.prog B96 [sI e,sI dt] [] (sI (H9 e dt)) []:=by
 refine en1 hm A4 Tryz.func421 rfl rfl ?_;have:=A6w
 have:=L8
 have:=A4p
 have:=H9.eq_1 e dt;exact C9
def X6(j:Joint)(a:Body)(b:Body)(ia:Int)(ib:Int)(n:Vec)(s:List SolverBody):Row:=let v1:=(K4 j a b);let v2:=(E5 a);let v3:=(L9 v1.1 v2);let v4:=(A1c v3 n);let v5:=(E5 b);let v6:=(L9 v1.2 v5);let v7:=(A1c v6 n);let v8:=(R9 (⟨ia,ib,n,v4,v7,0,0,(-536870911),536870911,j.Softness,0,(-1),0⟩:Row) s);(⟨ia,ib,n,v4,v7,v8,0,(-536870911),536870911,j.Softness,0,(-1),0⟩:Row)
theorem A22(j:Joint)(a:Body)(b:Body)(ia:Int)(ib:Int)(n:Vec)(s:List SolverBody)(ha: ∀f∈a.Fixtures,f.Shape.Vertices.length<=1048576)(hb: ∀f∈b.Fixtures,f.Shape.Vertices.length<=1048576):A1 Tryz.prog B8z [.agg j.enc, .agg a.enc, .agg b.enc,sI ia,sI ib, .agg n.enc,A2 5 SolverBody.enc default s] [] (.agg (X6 j a b ia ib n s).enc) []:=by
 refine L5 50 [(14,some (some 14))] hm A4 Tryz.func420 rfl ?_;have:=λx1 x2 x3 x4 x5 x6 x7 x8 x9 x10 x11 x12 x13 x14 x15=>cx_ (M2 ⟨x1,x2,⟨x3,x4⟩,x5,x6,x7,x8,x9,x10,x11,x12,x13,x14⟩ x15)
 have:=A2x
 have:=A6s
 have:=K2
 have:=A71
 have:=M2
 have:=X6.eq_1 j a b ia ib n s;exact C9
def A2m(j:Joint)(a:Body)(b:Body)(ia:Int)(ib:Int)(s:List SolverBody)(dt:Int):(List Row):=let v1:=(A3r j a b);if((j.Kind != 1)||((decide (j.Lower<v1))&&(decide (v1<j.Upper))))=true then(([]:List Row))else(let v2:=(A14 j a b);let v3:=(A3k v2);if((v2.X==0)&&(v2.Y==0))=true then(let v4:=(X6 j a b ia ib (⟨65536,0⟩:Vec) s);let v5:=(A1q j a b);let v6:=(H9 v5 dt);if j.Upper<=j.Lower then([(⟨v4.A,v4.B,v4.Normal,v4.ArmA,v4.ArmB,v4.EffectiveMass,v6,v4.Lower,v4.Upper,v4.Softness,j.Impulses.I0,v4.FrictionOf,v4.Friction⟩:Row)])else(if v1<=j.Lower then([(⟨v4.A,v4.B,v4.Normal,v4.ArmA,v4.ArmB,v4.EffectiveMass,v6,0,v4.Upper,v4.Softness,j.Impulses.I0,v4.FrictionOf,v4.Friction⟩:Row)])else([(⟨v4.A,v4.B,v4.Normal,v4.ArmA,v4.ArmB,v4.EffectiveMass,v6,v4.Lower,0,v4.Softness,j.Impulses.I0,v4.FrictionOf,v4.Friction⟩:Row)])))else(let v7:=(X6 j a b ia ib v3 s);let v8:=(A1q j a b);let v9:=(H9 v8 dt);if j.Upper<=j.Lower then([(⟨v7.A,v7.B,v7.Normal,v7.ArmA,v7.ArmB,v7.EffectiveMass,v9,v7.Lower,v7.Upper,v7.Softness,j.Impulses.I0,v7.FrictionOf,v7.Friction⟩:Row)])else(if v1<=j.Lower then([(⟨v7.A,v7.B,v7.Normal,v7.ArmA,v7.ArmB,v7.EffectiveMass,v9,0,v7.Upper,v7.Softness,j.Impulses.I0,v7.FrictionOf,v7.Friction⟩:Row)])else([(⟨v7.A,v7.B,v7.Normal,v7.ArmA,v7.ArmB,v7.EffectiveMass,v9,v7.Lower,0,v7.Softness,j.Impulses.I0,v7.FrictionOf,v7.Friction⟩:Row)]))))
theorem C4e(j:Joint)(a:Body)(b:Body)(ia:Int)(ib:Int)(s:List SolverBody)(dt:Int)(ha: ∀f∈a.Fixtures,f.Shape.Vertices.length<=1048576)(hb: ∀f∈b.Fixtures,f.Shape.Vertices.length<=1048576):A1 Tryz.prog C4i [.agg j.enc, .agg a.enc, .agg b.enc,sI ia,sI ib,A2 5 SolverBody.enc default s,sI dt] [] (A2 14 Row.enc default (A2m j a b ia ib s dt)) []:=by
 refine en1 hm A4 Tryz.func302 rfl rfl ?_;have:=λx1 x2 x3 x4 x5 x6 x7 x8 h0 h1=>cx_ (A22 x1 x2 x3 x4 x5 ⟨x6,x7⟩ x8 h0 h1)
 have:=B10
 have:=A8x
 have:=A5h
 have:=A22
 have:=B6x
 have:=U4
 have:=A2m.eq_1 j a b ia ib s dt;exact J1
def R2(ia:Int)(ib:Int)(s:List SolverBody)(o:Int):Row:=let v1:=(R9 (⟨ia,ib,(⟨0,0⟩:Vec),65536,65536,0,0,(-536870911),536870911,o,0,(-1),0⟩:Row) s);(⟨ia,ib,(⟨0,0⟩:Vec),65536,65536,v1,0,(-536870911),536870911,o,0,(-1),0⟩:Row)
theorem A7w(ia:Int)(ib:Int)(s:List SolverBody)(o:Int):A1 Tryz.prog C2w [sI ia,sI ib,A2 5 SolverBody.enc default s,sI o] [] (.agg (R2 ia ib s o).enc) []:=by
 refine L5 19 [(8,some (some 14))] hm A4 Tryz.func423 rfl ?_;have:=λx1 x2 x3 x4 x5 x6 x7 x8 x9 x10 x11 x12 x13 x14 x15=>cx_ (M2 ⟨x1,x2,⟨x3,x4⟩,x5,x6,x7,x8,x9,x10,x11,x12,x13,x14⟩ x15)
 have:=M2
 have:=R2.eq_1 ia ib s o;exact C9
def V2(v:Int)(l:Int)(u:Int)(e:Bool)(i:Int)(dt:Int)(r:Row):(List Row):=if((!e)||((decide (l<v))&&(decide (v<u))))=true then(([]:List Row))else(if(l==u)=true then(let v1:=(sat (sat v-sat l));let v2:=(H9 v1 dt);[(⟨r.A,r.B,r.Normal,r.ArmA,r.ArmB,r.EffectiveMass,v2,r.Lower,r.Upper,r.Softness,i,r.FrictionOf,r.Friction⟩:Row)])else(if v<=l then(let v3:=(sat (sat v-sat l));let v4:=(H9 v3 dt);[(⟨r.A,r.B,r.Normal,r.ArmA,r.ArmB,r.EffectiveMass,v4,0,r.Upper,r.Softness,i,r.FrictionOf,r.Friction⟩:Row)])else(let v5:=(sat (sat v-sat u));let v6:=(H9 v5 dt);[(⟨r.A,r.B,r.Normal,r.ArmA,r.ArmB,r.EffectiveMass,v6,r.Lower,0,r.Softness,i,r.FrictionOf,r.Friction⟩:Row)])))
theorem B36(v:Int)(l:Int)(u:Int)(e:Bool)(i:Int)(dt:Int)(r:Row):A1 Tryz.prog C5y [sI v,sI l,sI u,sB e,sI i,sI dt, .agg r.enc] [] (A2 14 Row.enc default (V2 v l u e i dt r)) []:=by
 refine en1 hm A4 Tryz.func425 rfl rfl ?_;have:=Q5
 have:=U4
 have:=V2.eq_1 v l u e i dt r;exact J1
def Q6(j:Joint)(r:Row)(dt:Int):(List Row):=if j.EnableMotor=false then(([]:List Row))else(let v1:=(sat (sat 0-sat j.MotorSpeed));let v2:=(B4 j.MaxForce dt);let v3:=(sat (sat 0-sat v2));[(⟨r.A,r.B,r.Normal,r.ArmA,r.ArmB,r.EffectiveMass,v1,v3,v2,r.Softness,j.Impulses.I2,r.FrictionOf,r.Friction⟩:Row)])
theorem B33(j:Joint)(r:Row)(dt:Int):A1 Tryz.prog C4f [.agg j.enc, .agg r.enc,sI dt] [] (.sl 1 0 (Q6 j r dt).length (Q6 j r dt).length) [(1, .arr 14 (A8 Row.enc default (Q6 j r dt)))]:=by
 refine H8 hm A4 Tryz.func424 rfl rfl ?_;have:=Q5
 have:=L8
 have:=Q6.eq_1 j r dt;exact J1
def V0(j:Joint)(a:Body)(b:Body)(ia:Int)(ib:Int)(s:List SolverBody)(dt:Int):(List Row):=let v1:=(K4 j a b);let v2:=(X6 j a b ia ib (⟨65536,0⟩:Vec) s);let v3:=(X6 j a b ia ib (⟨0,65536⟩:Vec) s);let v4:=(sat (sat v1.2.X-sat v1.1.X));let v5:=(H9 v4 dt);let v6:=(sat (sat v1.2.Y-sat v1.1.Y));let v7:=(H9 v6 dt);[(⟨v2.A,v2.B,v2.Normal,v2.ArmA,v2.ArmB,v2.EffectiveMass,v5,v2.Lower,v2.Upper,v2.Softness,j.Impulses.I0,v2.FrictionOf,v2.Friction⟩:Row),(⟨v3.A,v3.B,v3.Normal,v3.ArmA,v3.ArmB,v3.EffectiveMass,v7,v3.Lower,v3.Upper,v3.Softness,j.Impulses.I1,v3.FrictionOf,v3.Friction⟩:Row)]
theorem B3y(j:Joint)(a:Body)(b:Body)(ia:Int)(ib:Int)(s:List SolverBody)(dt:Int)(ha: ∀f∈a.Fixtures,f.Shape.Vertices.length<=1048576)(hb: ∀f∈b.Fixtures,f.Shape.Vertices.length<=1048576):A1 Tryz.prog C5z [.agg j.enc, .agg a.enc, .agg b.enc,sI ia,sI ib,A2 5 SolverBody.enc default s,sI dt] [] (A2 14 Row.enc default (V0 j a b ia ib s dt)) []:=by
 refine en1 hm A4 Tryz.func427 rfl rfl ?_;have:=λx1 x2 x3 x4 x5 x6 x7 x8 h0 h1=>cx_ (A22 x1 x2 x3 x4 x5 ⟨x6,x7⟩ x8 h0 h1)
 have:=A2x
 have:=A22
 have:=Q5
 have:=U4
 have:=V0.eq_1 j a b ia ib s dt;exact J1
theorem D0z(v l u:Int)(e:Bool)(i dt:Int)(r:Row):(V2 v l u e i dt r).length<=1:=by
 unfold V2;simp only
 (repeat' split) <;> simp
theorem C87(j:Joint)(r:Row)(dt:Int):(Q6 j r dt).length<=1:=by
 unfold Q6;simp only
 (repeat' split) <;> simp
@[simp] theorem C9q(j:Joint)(a b:Body)(ia ib:Int)(s:List SolverBody)(dt:Int):(V0 j a b ia ib s dt).length=2:=by unfold V0;simp
def A6b(j:Joint)(a:Body)(b:Body)(ia:Int)(ib:Int)(s:List SolverBody)(dt:Int):(List Row):=if(j.Kind != 2)=true then(([]:List Row))else(let v1:=(R2 ia ib s 0);let v2:=(Q6 j v1 dt);let v3:=(X8 j a b);let v4:=(V2 v3 j.Lower j.Upper j.EnableLimit j.Impulses.I3 dt v1);let v5:=(V0 j a b ia ib s dt);((v2++v4)++v5))
theorem D7h(j:Joint)(a:Body)(b:Body)(ia:Int)(ib:Int)(s:List SolverBody)(dt:Int)(ha: ∀f∈a.Fixtures,f.Shape.Vertices.length<=1048576)(hb: ∀f∈b.Fixtures,f.Shape.Vertices.length<=1048576):A1 Tryz.prog D6l [.agg j.enc, .agg a.enc, .agg b.enc,sI ia,sI ib,A2 5 SolverBody.enc default s,sI dt] [] (A2 14 Row.enc default (A6b j a b ia ib s dt)) []:=by
 refine en1 hm A4 Tryz.func303 rfl rfl ?_;have:=A7w
 have:=C87 j (R2 ia ib s 0) dt
 have:=B33
 have:=A7q
 have:=D0z (X8 j a b) j.Lower j.Upper j.EnableLimit j.Impulses.I3 dt (R2 ia ib s 0)
 have:=B36
 have:=C9q j a b ia ib s dt
 have:=B3y
 have:=A6b.eq_1 j a b ia ib s dt;exact J1
def A5p(j:Joint)(a:Body)(b:Body)(ia:Int)(ib:Int)(n:Vec)(o:Int)(s:List SolverBody):Row:=let v1:=(K4 j a b);let v2:=(E5 a);let v3:=(L9 v1.1 v2);let v4:=(L9 v1.2 v1.1);let v5:=(A11 v3 v4);let v6:=(E5 b);let v7:=(L9 v1.2 v6);let v8:=(A1c v5 n);let v9:=(A1c v7 n);let v10:=(R9 (⟨ia,ib,n,v8,v9,0,0,(-536870911),536870911,o,0,(-1),0⟩:Row) s);(⟨ia,ib,n,v8,v9,v10,0,(-536870911),536870911,o,0,(-1),0⟩:Row)
theorem B40(j:Joint)(a:Body)(b:Body)(ia:Int)(ib:Int)(n:Vec)(o:Int)(s:List SolverBody)(ha: ∀f∈a.Fixtures,f.Shape.Vertices.length<=1048576)(hb: ∀f∈b.Fixtures,f.Shape.Vertices.length<=1048576):A1 Tryz.prog C7g [.agg j.enc, .agg a.enc, .agg b.enc,sI ia,sI ib, .agg n.enc,sI o,A2 5 SolverBody.enc default s] [] (.agg (A5p j a b ia ib n o s).enc) []:=by
 refine L5 57 [(16,some (some 14))] hm A4 Tryz.func431 rfl ?_;have:=λx1 x2 x3 x4 x5 x6 x7 x8 x9 x10 x11 x12 x13 x14 x15=>cx_ (M2 ⟨x1,x2,⟨x3,x4⟩,x5,x6,x7,x8,x9,x10,x11,x12,x13,x14⟩ x15)
 have:=A2x
 have:=A6s
 have:=K2
 have:=A47
 have:=A71
 have:=M2
 have:=A5p.eq_1 j a b ia ib n o s;exact C9
def A0w(j:Joint)(a:Body)(b:Body)(ia:Int)(ib:Int)(n:Vec)(s:List SolverBody):Row:=let v1:=(A5p j a b ia ib n 0 s);v1
theorem C7f(j:Joint)(a:Body)(b:Body)(ia:Int)(ib:Int)(n:Vec)(s:List SolverBody)(ha: ∀f∈a.Fixtures,f.Shape.Vertices.length<=1048576)(hb: ∀f∈b.Fixtures,f.Shape.Vertices.length<=1048576):A1 Tryz.prog C7l [.agg j.enc, .agg a.enc, .agg b.enc,sI ia,sI ib, .agg n.enc,A2 5 SolverBody.enc default s] [] (.agg (A0w j a b ia ib n s).enc) []:=by
 refine L5 23 [(14,some (some 14))] hm A4 Tryz.func429 rfl ?_;have:=B40
 have:=A0w.eq_1 j a b ia ib n s;exact C9
def B0b(j:Joint)(a:Body)(b:Body):Int:=let v1:=(K4 j a b);let v2:=(L9 v1.2 v1.1);let v3:=(W9 j a);let v4:=(A0g v3);let v5:=(O7 v2 v4);v5
theorem D0b(j:Joint)(a:Body)(b:Body):A1 Tryz.prog C73 [.agg j.enc, .agg a.enc, .agg b.enc] [] (sI (B0b j a b)) []:=by
 refine en1 hm A4 Tryz.func432 rfl rfl ?_;have:=A2x
 have:=K2
 have:=B06
 have:=C1n
 have:=Z3
 have:=B0b.eq_1 j a b;exact C9
def A5j(j:Joint)(a:Body)(b:Body)(ia:Int)(ib:Int)(s:List SolverBody)(dt:Int):(List Row):=if(j.Kind != 3)=true then(([]:List Row))else(let v1:=(W9 j a);let v2:=(A0w j a b ia ib v1 s);let v3:=(Q6 j v2 dt);let v4:=(A3e j a b);let v5:=(V2 v4 j.Lower j.Upper j.EnableLimit j.Impulses.I3 dt v2);let v6:=(R2 ia ib s j.Softness);let v7:=(X8 j a b);let v8:=(H9 v7 dt);let v9:=(A0g v1);let v10:=(A5p j a b ia ib v9 j.Softness s);let v11:=(B0b j a b);let v12:=(H9 v11 dt);((v3++v5)++ [(⟨v6.A,v6.B,v6.Normal,v6.ArmA,v6.ArmB,v6.EffectiveMass,v8,v6.Lower,v6.Upper,v6.Softness,j.Impulses.I1,v6.FrictionOf,v6.Friction⟩:Row),(⟨v10.A,v10.B,v10.Normal,v10.ArmA,v10.ArmB,v10.EffectiveMass,v12,v10.Lower,v10.Upper,v10.Softness,j.Impulses.I0,v10.FrictionOf,v10.Friction⟩:Row)]))
theorem D4d(j:Joint)(a:Body)(b:Body)(ia:Int)(ib:Int)(s:List SolverBody)(dt:Int)(ha: ∀f∈a.Fixtures,f.Shape.Vertices.length<=1048576)(hb: ∀f∈b.Fixtures,f.Shape.Vertices.length<=1048576):A1 Tryz.prog D4p [.agg j.enc, .agg a.enc, .agg b.enc,sI ia,sI ib,A2 5 SolverBody.enc default s,sI dt] [] (A2 14 Row.enc default (A5j j a b ia ib s dt)) []:=by
 refine en1 hm A4 Tryz.func304 rfl rfl ?_;have:=B06
 have:=C7f
 have:=C87 j (A0w j a b ia ib (W9 j a) s) dt
 have:=B33
 have:=C6x
 have:=D0z (A3e j a b) j.Lower j.Upper j.EnableLimit j.Impulses.I3 dt (A0w j a b ia ib (W9 j a) s)
 have:=B36
 have:=A7w
 have:=A7q
 have:=U4
 have:=C1n
 have:=B40
 have:=D0b
 have:=A5j.eq_1 j a b ia ib s dt;exact J1
def B1m(j:Joint)(a:Body)(b:Body)(ia:Int)(ib:Int)(s:List SolverBody)(dt:Int):(List Row):=if(j.Kind != 4)=true then(([]:List Row))else(let v1:=(R2 ia ib s j.Softness);let v2:=(X8 j a b);let v3:=(H9 v2 dt);let v4:=(V0 j a b ia ib s dt);([(⟨v1.A,v1.B,v1.Normal,v1.ArmA,v1.ArmB,v1.EffectiveMass,v3,v1.Lower,v1.Upper,v1.Softness,j.Impulses.I2,v1.FrictionOf,v1.Friction⟩:Row)]++v4))
theorem E7o(j:Joint)(a:Body)(b:Body)(ia:Int)(ib:Int)(s:List SolverBody)(dt:Int)(ha: ∀f∈a.Fixtures,f.Shape.Vertices.length<=1048576)(hb: ∀f∈b.Fixtures,f.Shape.Vertices.length<=1048576):A1 Tryz.prog E7l [.agg j.enc, .agg a.enc, .agg b.enc,sI ia,sI ib,A2 5 SolverBody.enc default s,sI dt] [] (A2 14 Row.enc default (B1m j a b ia ib s dt)) []:=by
 refine en1 hm A4 Tryz.func305 rfl rfl ?_;have:=A7w
 have:=A7q
 have:=U4
 have:=C9q j a b ia ib s dt
 have:=B3y
 have:=B1m.eq_1 j a b ia ib s dt;exact J1
structure N7 where
 ia:Int
 ib:Int
 centerA:Vec
 centerB:Vec
 bodies:List SolverBody
 deriving DecidableEq,Inhabited
def N7.enc(x:N7):List AV:=[sI x.ia,sI x.ib,sI x.centerA.X,sI x.centerA.Y,sI x.centerB.X,sI x.centerB.Y,A2 5 SolverBody.enc default x.bodies]
def N7.zero:List AV:= [sI 0,sI 0,sI 0,sI 0,sI 0,sI 0, .sc (.slice none 0 0)]
attribute [go_sem] N7.enc N7.zero
@[go_sem] theorem E96(x:N7):N7.mk x.ia x.ib x.centerA x.centerB x.bodies=x:=rfl
def N4(a:Fixture)(b:Fixture):Int:=let v1:=(B4 a.Friction b.Friction);let v2:=(B8m v1);v2
theorem C1z(a:Fixture)(b:Fixture):A1 Tryz.prog C10 [.agg a.enc, .agg b.enc] [] (sI (N4 a b)) []:=by
 refine en1 hm A4 Tryz.func309 rfl rfl ?_;have:=L8
 have:=E4s
 have:=N4.eq_1 a b;exact C9
def L6(a:Fixture)(b:Fixture):Int:=(if a.Restitution<b.Restitution then b.Restitution else a.Restitution)
theorem B76(a:Fixture)(b:Fixture):A1 Tryz.prog B71 [.agg a.enc, .agg b.enc] [] (sI (L6 a b)) []:=by refine en1 hm A4 Tryz.func310 rfl rfl ?_;have:=L6.eq_1 a b;exact C9
def B7(b:Body)(i:Int):Fixture×Bool:=if((decide (i<0))||(decide ((b.Fixtures.length:Int)<=i)))=true then(((⟨(⟨0,0,([]:List Vec)⟩:Shape),0,0,0,false,0,0,0⟩:Fixture),false))else(((b.Fixtures.getD i.toNat default),true))
theorem C3h(b:Body)(i:Int):A1 Tryz.prog C2y [.agg b.enc,sI i] [] (.tup [.agg (B7 b i).1.enc,sB ((B7 b i).2)]) []:=by refine A62 21 [(4,some (some 10)),(5,none)] hm A4 Tryz.func307 rfl ?_;have:=B7.eq_1 b i;exact J1
def A3y(p:N7)(q:Vec)(d:Vec):Row:=let v1:=(L9 q p.centerA);let v2:=(A1c v1 d);let v3:=(L9 q p.centerB);let v4:=(A1c v3 d);let v5:=(R9 (⟨p.ia,p.ib,d,v2,v4,0,0,0,0,0,0,(-1),0⟩:Row) p.bodies);(⟨p.ia,p.ib,d,v2,v4,v5,0,0,0,0,0,(-1),0⟩:Row)
theorem B12(p:N7)(q:Vec)(d:Vec):A1 Tryz.prog C2p [.agg p.enc, .agg q.enc, .agg d.enc] [] (.agg (A3y p q d).enc) []:=by
 refine L5 32 [(6,some (some 14))] hm A4 Tryz.func312 rfl ?_;have:=λx1 x2 x3 x4 x5 x6 x7 x8 x9 x10 x11 x12 x13 x14 x15=>cx_ (M2 ⟨x1,x2,⟨x3,x4⟩,x5,x6,x7,x8,x9,x10,x11,x12,x13,x14⟩ x15)
 have:=K2
 have:=A71
 have:=M2
 have:=A3y.eq_1 p q d;exact C9
def A5s(p:N7)(r:Row)(s:Int)(t:Int)(dt:Int):Int:=if 0<=s then(let v1:=(Y1 s dt);let v2:=(W4 r p.bodies);if v2<(-65536)then(let v3:=(B4 t v2);(if v3<v1 then v3 else v1))else(v1))else(let v4:=(C5 s 512);let v5:=(H9 v4 dt);let v6:=(W4 r p.bodies);if v6<(-65536)then(let v7:=(B4 t v6);(if v7<(if v5<0 then v5 else 0)then v7 else(if v5<0 then v5 else 0)))else((if v5<0 then v5 else 0)))
theorem B03(p:N7)(r:Row)(s:Int)(t:Int)(dt:Int):A1 Tryz.prog B9z [.agg p.enc, .agg r.enc,sI s,sI t,sI dt] [] (sI (A5s p r s t dt)) []:=by
 refine en1 hm A4 Tryz.func313 rfl rfl ?_;have:=A6w
 have:=A66
 have:=L8
 have:=M8
 have:=U4
 have:=A5s.eq_1 p r s t dt;exact J1
def R4(c:Contact)(ia:Int)(ib:Int)(base:Int)(bs:List SolverBody)(dt:Int)(v3:Vec)(v4:Vec)(v5:Int)(v6:Int)(v7:Vec)(i1:Nat)(s1:(List Row)):(List Row):=let v8:=(A3y (⟨ia,ib,v3,v4,bs⟩:N7) (c.Manifold.Points.getD i1 default).Point c.Manifold.Normal);let v9:=(A5s (⟨ia,ib,v3,v4,bs⟩:N7) (⟨v8.A,v8.B,v8.Normal,v8.ArmA,v8.ArmB,v8.EffectiveMass,v8.Bias,v8.Lower,536870911,v8.Softness,(c.Manifold.Points.getD i1 default).NormalImpulse,v8.FrictionOf,v8.Friction⟩:Row) (c.Manifold.Points.getD i1 default).Separation v6 dt);let v10:=(A3y (⟨ia,ib,v3,v4,bs⟩:N7) (c.Manifold.Points.getD i1 default).Point v7);(s1++ [(⟨v8.A,v8.B,v8.Normal,v8.ArmA,v8.ArmB,v8.EffectiveMass,v9,v8.Lower,536870911,v8.Softness,(c.Manifold.Points.getD i1 default).NormalImpulse,v8.FrictionOf,v8.Friction⟩:Row),(⟨v10.A,v10.B,v10.Normal,v10.ArmA,v10.ArmB,v10.EffectiveMass,v10.Bias,v10.Lower,v10.Upper,v10.Softness,(c.Manifold.Points.getD i1 default).TangentImpulse,(IntKind.i64.wrap (base+(s1.length:Int))),v5⟩:Row)])
def A4a(c:Contact)(a:Body)(b:Body)(ia:Int)(ib:Int)(base:Int)(bs:List SolverBody)(dt:Int):(List Row):=let v1:=(B7 a c.Key.FixtureA);let v2:=(B7 b c.Key.FixtureB);if((!v1.2)||(!v2.2))=true then(([]:List Row))else(let v3:=(E5 a);let v4:=(E5 b);let v5:=(N4 v1.1 v2.1);let v6:=(L6 v1.1 v2.1);let v7:=(A0g c.Manifold.Normal);let s1:=itr (R4 c ia ib base bs dt v3 v4 v5 v6 v7) c.Manifold.Points.length [];s1)
theorem C97(c:Contact)(a:Body)(b:Body)(ia:Int)(ib:Int)(base:Int)(bs:List SolverBody)(dt:Int)(h0:c.Manifold.Points.length<=1048576)(ha: ∀f∈a.Fixtures,f.Shape.Vertices.length<=1048576)(hb: ∀f∈b.Fixtures,f.Shape.Vertices.length<=1048576):A1 Tryz.prog C8z [.agg c.enc, .agg a.enc, .agg b.enc,sI ia,sI ib,sI base,A2 5 SolverBody.enc default bs,sI dt] [] (A2 14 Row.enc default (A4a c a b ia ib base bs dt)) []:=by
 refine en1 hm A4 Tryz.func183 rfl rfl ?_;have:=λx1 x2 x3 x4 x5 x6 x7 x8 x9=>cx_ (B12 ⟨x1,x2,⟨x3,x4⟩,⟨x5,x6⟩,x7⟩ x8 x9)
 have:=λx1 x2 x3 x4 x5 x6 x7 x8 x9 x10 x11 x12 x13 x14 x15 x16 x17 x18 x19 x20 x21 x22 x23 x24=>cx_ (B03 ⟨x1,x2,⟨x3,x4⟩,⟨x5,x6⟩,x7⟩ ⟨x8,x9,⟨x10,x11⟩,x12,x13,x14,x15,x16,x17,x18,x19,x20,x21⟩ x22 x23 x24)
 have:=C3h
 have:=A6s
 have:=C1z
 have:=B76
 have:=C1n
 have:=B12
 have:=B03
 have:=A4a.eq_1 c a b ia ib base bs dt
 have:=λi_ s_=>R4.eq_1 c ia ib base bs dt (E5 a) (E5 b) (N4 (B7 a c.Key.FixtureA).1 (B7 b c.Key.FixtureB).1) (L6 (B7 a c.Key.FixtureA).1 (B7 b c.Key.FixtureB).1) (A0g c.Manifold.Normal) i_ s_
 have:=λx_ Q_ σ_=> @lp_ Tryz.prog Tryz.f183.ntmps [] x_ Q_ σ_ hm (λ_=>True) (λi_=>((itr (R4 c ia ib base bs dt (E5 a) (E5 b) (N4 (B7 a c.Key.FixtureA).1 (B7 b c.Key.FixtureB).1) (L6 (B7 a c.Key.FixtureA).1 (B7 b c.Key.FixtureB).1) (A0g c.Manifold.Normal)) i_ [])).length<=0+2*i_) c.Manifold.Points.length (λi_=> [(5, .share,sI base),(7, .share,sI dt),(8, .share, .ptr 144 0 0 1),(21, .share, .ptr 352 0 0 1),(22, .share,sI (N4 (B7 a c.Key.FixtureA).1 (B7 b c.Key.FixtureB).1)),(23, .share,sI (L6 (B7 a c.Key.FixtureA).1 (B7 b c.Key.FixtureB).1)),(24, .share, .ptr 400 0 0 1),(25,if i_=0 then .adopt else .share, .sl 1025 0 (itr (R4 c ia ib base bs dt (E5 a) (E5 b) (N4 (B7 a c.Key.FixtureA).1 (B7 b c.Key.FixtureB).1) (L6 (B7 a c.Key.FixtureA).1 (B7 b c.Key.FixtureB).1) (A0g c.Manifold.Normal)) i_ []).length (itr (R4 c ia ib base bs dt (E5 a) (E5 b) (N4 (B7 a c.Key.FixtureA).1 (B7 b c.Key.FixtureB).1) (L6 (B7 a c.Key.FixtureA).1 (B7 b c.Key.FixtureB).1) (A0g c.Manifold.Normal)) i_ []).length),(72, .share,A2 6 ContactPoint.enc default c.Manifold.Points),(73, .share,sI (c.Manifold.Points.length:Int)),(74, .share,sI (i_:Int))]) (λi_=> [(144, .box [sI c.Key.BodyA,sI c.Key.FixtureA,sI c.Key.BodyB,sI c.Key.FixtureB,sI c.Manifold.Normal.X,sI c.Manifold.Normal.Y,A2 6 ContactPoint.enc default c.Manifold.Points]),(352, .box [sI ia,sI ib,sI ((E5 a).X),sI ((E5 a).Y),sI ((E5 b).X),sI ((E5 b).Y),A2 5 SolverBody.enc default bs]),(400, .box [sI ((A0g c.Manifold.Normal).X),sI ((A0g c.Manifold.Normal).Y)]),(1025, .arr 14 (A8 Row.enc default (itr (R4 c ia ib base bs dt (E5 a) (E5 b) (N4 (B7 a c.Key.FixtureA).1 (B7 b c.Key.FixtureB).1) (L6 (B7 a c.Key.FixtureA).1 (B7 b c.Key.FixtureB).1) (A0g c.Manifold.Normal)) i_ [])))]) [1025] trivial (λi_ hI_=>A7i (λs:(List Row)=>(s).length) 2 (λi s=>by(unfold R4;(repeat' split) <;> simp <;> omega)) i_ _) (by simp[go_sem]) (by simp[go_sem,A6]) (by simp[go_sem]);exact J1
def A4j(rs:List Row)(i:Int)(p:Int):Int:=if((decide (i<0))||(decide ((rs.length:Int)<=i)))=true then(p)else((rs.getD i.toNat default).Impulse)
theorem B3a(rs:List Row)(i:Int)(p:Int):A1 Tryz.prog C3k [A2 14 Row.enc default rs,sI i,sI p] [] (sI (A4j rs i p)) []:=by refine en1 hm A4 Tryz.func193 rfl rfl ?_;have:=A4j.eq_1 rs i p;exact J1
theorem F2f(s:Shape)(p:Transform):A03 s=true->1<=(E8 s p).length/\(s.Kind=1->(E8 s p).length=1)/\(s.Kind=2->(E8 s p).length=2)/\(s.Kind≠1->s.Kind≠2->3<=(E8 s p).length)/\(E8 s p).length<=8:=by intro h;refine D3o s p ?_;unfold A03 at h;simpa using h
def A4n(a:Shape)(ta:Transform)(b:Shape)(tb:Transform):Int:=let v1:=(A03 a);let v2:=(A03 b);if((!v1)||(!v2))=true then(536870911)else(let v3:=(E8 a ta);let v4:=(E8 b tb);let v5:=(X5 a ta (v4.getD 0 default));if((a.Kind==3)&&v5)=true then(0)else(let v6:=(X5 b tb (v3.getD 0 default));if((b.Kind==3)&&v6)=true then(0)else(let v7:=(A3i a.Kind v3);let v8:=(A3i b.Kind v4);let v9:=(A6l v7 v8);let v10:=(sat (sat v9-sat a.Radius));let v11:=(sat (sat v10-sat b.Radius));(if 0<v11 then v11 else 0))))
theorem B2z(a:Shape)(ta:Transform)(b:Shape)(tb:Transform)(h0:a.Vertices.length<=1048576)(h1:b.Vertices.length<=1048576):A1 Tryz.prog C30 [.agg a.enc, .agg ta.enc, .agg b.enc, .agg tb.enc] [] (sI (A4n a ta b tb)) []:=by
 refine en1 hm A4 Tryz.func337 rfl rfl ?_;have:=F2f a ta
 have:=F2f b tb
 have:=B89
 have:=B9a a ta
 have:=A79
 have:=B9a b tb
 have:=B3e
 have:=E0e a.Kind (E8 a ta)
 have:=D47
 have:=E0e b.Kind (E8 b tb)
 have:=C8t
 have:=Q5
 have:=A4n.eq_1 a ta b tb;exact J1
def A6j(a:Shape)(ta:Transform)(b:Shape)(tb:Transform):Bool:=let v1:=(A03 a);let v2:=(A03 b);let v3:=(A4n a ta b tb);((v1&&v2)&&(v3==0))
theorem D0q(a:Shape)(ta:Transform)(b:Shape)(tb:Transform)(h0:a.Vertices.length<=1048576)(h1:b.Vertices.length<=1048576):A1 Tryz.prog C83 [.agg a.enc, .agg ta.enc, .agg b.enc, .agg tb.enc] [] (sB (A6j a ta b tb)) []:=by
 refine en1 hm A4 Tryz.func206 rfl rfl ?_;have:=B89
 have:=B2z
 have:=A6j.eq_1 a ta b tb;exact J1
def A3x(f:Fixture):Fixture:=let v1:=f.Shape.Vertices;(⟨(⟨f.Shape.Kind,f.Shape.Radius,v1⟩:Shape),f.Density,f.Friction,f.Restitution,f.Sensor,f.Category,f.Mask,f.Group⟩:Fixture)
theorem C1f(f:Fixture)(h0:f.Shape.Vertices.length<=1048576):A1 Tryz.prog C1l [.agg f.enc] [] (.agg (A3x f).enc) []:=by
 refine L5 10 [(2,some (some 10))] hm A4 Tryz.func335 rfl ?_;have:=B6p
 have:=A3x.eq_1 f;exact J1
def U9(w:Api.World)(id:Int):Transform:=let v1:=(H6 w id);(w.Bodies.getD v1.toNat default).Transform
theorem B3x(w:Api.World)(id:Int)(h0:w.Bodies.length<=1048576)(h1:0<=H6 w id):A1 Tryz.prog C4t [.agg w.enc,sI id] [] (.agg (U9 w id).enc) []:=by
 refine L5 13 [(4,some (some 3))] hm A4 Tryz.func207 rfl ?_;have:=A2q w id
 have:=A16
 have:=U9.eq_1 w id;exact J1
def M0(w:Api.World)(k:PairKey):Fixture×Fixture×Bool:=let v1:=(G5 w k.BodyA k.FixtureA);let v2:=(G5 w k.BodyB k.FixtureB);if((!v1.2.2)||(!v2.2.2))=true then(((⟨(⟨0,0,([]:List Vec)⟩:Shape),0,0,0,false,0,0,0⟩:Fixture),(⟨(⟨0,0,([]:List Vec)⟩:Shape),0,0,0,false,0,0,0⟩:Fixture),false))else(let v3:=(A3x v1.1);let v4:=(A3x v2.1);(v3,v4,true))
theorem C8c(w:Api.World)(k:PairKey)(hw:Wsm w):A1 Tryz.prog C9j [.agg w.enc, .agg k.enc] [] (.tup [.agg (M0 w k).1.enc, .agg (M0 w k).2.1.enc,sB ((M0 w k).2.2)]) []:=by
 refine A62 45 [(4,some (some 10)),(5,some (some 10)),(6,none)] hm A4 Tryz.func205 rfl ?_;have:=B20 hw k.BodyA k.FixtureA
 have:=B20 hw k.BodyB k.FixtureB
 have:=hw.1
 have:=B2l
 have:=C1f
 have:=M0.eq_1 w k;exact J1
def B5u(l:List PairKey):Nat->List (List Int×AV)
 |0=> []
 |n+1=>A6m (B5u l n) (A6v (l.getD n default)) (sB true)
theorem E4g(l:List PairKey)(k:PairKey): ∀n,n<=l.length->A21 (B5u l n) (A6v k)=cond ((l.take n).contains k) (some (sB true)) none
 |0,_=>rfl
 |n+1,h=>by
  have ih:=E4g l k n (by omega);rw[K9 default (by omega:n<l.length)];simp only[B5u,B52,ih,E3q];rw[show((l.take n)++ [l.getD n default]).contains k=((l.take n).contains k||decide (k=l.getD n default))by
   by_cases he:k=l.getD n default
   ·rw[<-he];simp
   ·rw[decide_eq_false he,Bool.or_false,Bool.eq_iff_iff];simp only[List.contains_iff_mem,List.mem_append,List.mem_singleton,he,or_false]]
  by_cases he:k=l.getD n default
  ·simp[he]
  ·rw[decide_eq_false he,Bool.or_false];simp
theorem C8p(l:List PairKey)(hl:l.length<=1048576):A1 Tryz.prog E5j [A2 4 PairKey.enc default l] [] (.mp 1) [(1, .mapS 4 (B5u l l.length))]:=by
 refine H8 hm A4 Tryz.func210 rfl rfl ?_;simp only[go_sem,go_sem_proc];refine A9 hm (ι:= {i:Nat // i<=l.length}) (λi=> [(3, .share, .mp 1),(7, .share,A2 4 PairKey.enc default l),(8, .share,sI l.length),(9, .share,sI (i.1:Nat))]) (λi=> [(1, .mapS 4 (B5u l i.1))]) (λi=>l.length-i.1) ⟨0,Nat.zero_le _⟩ ?_ ?_
 ·refine B8 [(1,112)] [] ?_;simp only[go_sem,go_sem_proc];exact eE_
 ·rintro⟨i,hi⟩;dsimp only;have hn:B5u l (i+1)=A6m (B5u l i) [(l.getD i default).BodyA,(l.getD i default).FixtureA,(l.getD i default).BodyB,(l.getD i default).FixtureB] (sB true):=rfl
  have hfin:l.length<=i->B5u l i=B5u l l.length:=λh=>by rw[show i=l.length by omega]
  generalize B5u l i=es at hn hfin⊢;simp only[go_sem,go_sem_proc];by_cases hlt:i<l.length
  ·rw[if_pos (by omega)];refine⟨bE_,?_⟩;refine A7 ⟨i+1,by omega⟩ (by show l.length-(i+1)<l.length-i;omega) ?_;simp only[hn];refine B8 [] [] ?_;simp only[go_sem,go_sem_proc];exact eE_
  ·rw[if_neg (by omega),<-hfin (by omega)];refine V3 [.share] [] [] ?_;simp only[go_sem,go_sem_proc];exact eE_
def B3r(p:PairKey->Bool)(kind:Int)(k:PairKey):Option Api.Event:=if p k=true then none else some ⟨kind,k⟩
def adE(l:List PairKey)(p:PairKey->Bool)(kind:Int):List Api.Event:=l.filterMap (B3r p kind)
theorem C3p(l:List PairKey)(es:List (List Int×AV))(p:PairKey->Bool)(kind:Int)(hl:l.length<=1048576)(hes: ∀k,A21 es (A6v k)=cond (p k) (some (sB true)) none):
  A1 Tryz.prog D9r [A2 4 PairKey.enc default l, .mp 2,sI kind] [(2, .mapS 4 es)] (.sl 1 0 (adE l p kind).length (adE l p kind).length) [(2, .mapS 4 es),(1, .arr 5 (A8 Api.Event.enc default (adE l p kind)))]:=by
 refine H8 hm A4 Tryz.func209 rfl rfl ?_;simp only[go_sem,go_sem_proc];refine A9 hm (ι:= {i:Nat // i<=l.length}) (λi=> [(1, .share, .mp 2),(2, .share,sI kind),(7,mdA i.1, .sl 1 0 ((l.take i.1).filterMap (B3r p kind)).length ((l.take i.1).filterMap (B3r p kind)).length),(10, .share,A2 4 PairKey.enc default l),(11, .share,sI l.length),(12, .share,sI (i.1:Nat))]) (λi=> [(2, .mapS 4 es),(1, .arr 5 (A8 Api.Event.enc default ((l.take i.1).filterMap (B3r p kind))))]) (λi=>l.length-i.1) ⟨0,Nat.zero_le _⟩ ?_ ?_
 ·simp only[List.take_zero,List.filterMap_nil];refine B8 [] [1] ?_;simp only[go_sem,go_sem_proc];exact eE_
 ·rintro⟨i,hi⟩;dsimp only;have hn:i<l.length->(l.take (i+1)).filterMap (B3r p kind)=(l.take i).filterMap (B3r p kind)++(B3r p kind (l.getD i default)).toList:=λh=>C3q h
  have hfin:l.length<=i->(l.take i).filterMap (B3r p kind)=adE l p kind:=λh=>by rw[show i=l.length by omega,List.take_length];rfl
  have hln:=C9v (f:=B3r p kind) (l:=l) i;generalize(l.take i).filterMap (B3r p kind)=v at hn hfin hln⊢;by_cases hlt:i<l.length;rotate_left
  ·simp only[go_sem,go_sem_proc];rw[if_neg (by omega),<-hfin (by omega)];refine V3 [.share] [] [] ?_;simp only[go_sem,go_sem_proc];exact eE_
  replace hn:=hn hlt;have hu:=B3r.eq_1 p kind (l.getD i default)
  have hg:=hes (l.getD i default);simp only[A6v]at hg;cases hp:p (l.getD i default)with
  |true=>rw[hp]at hg hu;rw[if_pos rfl]at hu;rw[hu]at hn;simp only[Option.toList,List.append_nil]at hn;simp only[cond_true]at hg;simp only[go_sem,go_sem_proc,hg,Option.getD_some,Bool.not_true];rw[if_pos (by omega)];refine⟨bE_,?_⟩;refine A7 ⟨i+1,by omega⟩ (by show l.length-(i+1)<l.length-i;omega) ?_;simp only[hn];refine B8 [] [] ?_;simp only[go_sem,go_sem_proc];exact eE_
  |false=>rw[hp]at hg hu;rw[if_neg (by simp)]at hu;rw[hu]at hn;simp only[Option.toList]at hn;simp only[cond_false]at hg;simp only[go_sem,go_sem_proc,hg,Option.getD_none,D07,Bool.not_false];rw[if_pos (by omega)];refine⟨bE_,bE_,?_⟩;refine A7 ⟨i+1,by omega⟩ (by show l.length-(i+1)<l.length-i;omega) ?_;simp only[hn];refine B8 [] [] ?_;simp only[go_sem,go_sem_proc];exact eE_
def C5n(old cur:List PairKey):List Api.Event:=adE cur (λk=>old.contains k) 3++adE old (λk=>cur.contains k) 4
theorem B8i(l:List PairKey)(p:PairKey->Bool)(kind:Int):(adE l p kind).length<=l.length:=List.length_filterMap_le ..
theorem E3u(l:List PairKey)(k:PairKey):A21 (B5u l l.length) (A6v k)=cond (l.contains k) (some (sB true)) none:=by have:=E4g l k l.length (Nat.le_refl _);rwa[List.take_length]at this
theorem D7d(old cur:List PairKey)(ho:old.length<=1048576)(hc:cur.length<=1048576):A1 Tryz.prog D5w [A2 4 PairKey.enc default old,A2 4 PairKey.enc default cur] [] (A2 5 Api.Event.enc default (C5n old cur)) []:=by
 have l1:=B8i cur (λk=>old.contains k) 3
 have l2:=B8i old (λk=>cur.contains k) 4;refine en1 hm A4 Tryz.func123 rfl rfl ?_;simp only[go_sem,go_sem_proc];refine K0 ev_ K8 (C8p old ho) ?_;simp only[go_sem,go_sem_proc];refine E3 [true,true,true] [(2,160),(1,176)] (C3p cur (B5u old old.length) (λk=>old.contains k) 3 hc (E3u old)) (by simp) (by simp) (by simp[A6]) (by simp[go_sem]) ?_;simp only[go_sem,go_sem_proc];refine K0 ev_ K8 (C8p cur hc) ?_;simp only[go_sem,go_sem_proc];refine E3 [true,true,true] [(2,224),(1,240)] (C3p old (B5u cur cur.length) (λk=>cur.contains k) 4 ho (E3u cur)) (by simp) (by simp) (by simp[A6]) (by simp[go_sem]) ?_;simp only[go_sem,go_sem_proc];refine⟨bE_,?_⟩;unfold C5n;rw[List.length_append];exact⟨rfl,I7 _⟩
theorem C8a {w:Api.World}{id n:Int}(h:(G5 w id n).2.2=true):0<=H6 w id:=by
 unfold G5 at h;dsimp only at h;split at h
 ·cases h
 ·rename_i hh;simp only[Bool.or_eq_true,decide_eq_true_eq,not_or,Int.not_lt,Int.not_le]at hh;omega
theorem E71 {w:Api.World}(hw:Wsm w){k:PairKey}(h:(M0 w k).2.2=true):0<=H6 w k.BodyA/\0<=H6 w k.BodyB/\(M0 w k).1.Shape.Vertices.length<=1048576/\(M0 w k).2.1.Shape.Vertices.length<=1048576:=by
 have h1:=B20 hw k.BodyA k.FixtureA
 have h2:=B20 hw k.BodyB k.FixtureB;unfold M0 at h⊢;dsimp only at h⊢;split at h
 ·cases h
 ·rename_i hh;rw[if_neg hh];simp only[Bool.or_eq_true,Bool.not_eq_true',not_or,Bool.not_eq_false]at hh;exact⟨C8a hh.1,C8a hh.2,h1,h2⟩
def B15(w:Api.World)(k:PairKey):Option PairKey:=
 if(!(M0 w k).2.2||(!(M0 w k).1.Sensor&& !(M0 w k).2.1.Sensor))=true then none
 else if A6j (M0 w k).1.Shape (U9 w k.BodyA) (M0 w k).2.1.Shape (U9 w k.BodyB)=true then some k else none
def ovL(w:Api.World):List PairKey:=if F1 w=0 then(fpL w.Bodies w.Joints).filterMap (B15 w)else []
theorem D9p(w:Api.World)(hf:Wfw w):(ovL w).length<=230400:=by
 unfold ovL;split
 ·exact Nat.le_trans (List.length_filterMap_le ..) (D1o _ _ hf.1 hf.2)
 ·simp
theorem D24(w:Api.World)(hw:Wsm w)(hf:Wfw w):A1 Tryz.prog D2p [.agg w.enc] [] (A2 4 PairKey.enc default (ovL w)) []:=by
 refine en1 hm A4 Tryz.func121 rfl rfl ?_;simp only[go_sem,go_sem_proc];refine A0 (R8 w hw) rfl ?_;simp only[go_sem,go_sem_proc];unfold ovL;by_cases hv:F1 w=0;rotate_left
 ·rw[if_pos (by simpa using hv),if_neg hv];exact Q8 rfl
 rw[if_neg (by simpa using hv),if_pos hv];have hFP:=B1h w.Bodies w.Joints hf.1 hf.2 (λb hb f hfx=>(hw.2.2.2.2.1 b hb).2 f hfx) hw.2.1
 have hFl:=D1o w.Bodies w.Joints hf.1 hf.2;generalize fpL w.Bodies w.Joints=ks at hFP hFl⊢;refine A0 hFP rfl ?_;simp only[go_sem,go_sem_proc];refine A9 hm (ι:= {i:Nat // i<=ks.length}) (λi=> [(1, .thaw, .fptr w.enc),(3,mdA i.1, .sl 1 0 ((ks.take i.1).filterMap (B15 w)).length ((ks.take i.1).filterMap (B15 w)).length),(16, .share,A2 4 PairKey.enc default ks),(17, .share,sI ks.length),(18, .share,sI (i.1:Nat))]) (λi=> [(1, .arr 4 (A8 PairKey.enc default ((ks.take i.1).filterMap (B15 w))))]) (λi=>ks.length-i.1) ⟨0,Nat.zero_le _⟩ ?_ ?_
 ·simp only[List.take_zero,List.filterMap_nil];refine B8 [] [1] ?_;simp only[go_sem,go_sem_proc,A0c]
 ·rintro⟨i,hi⟩;dsimp only;have hn:i<ks.length->(ks.take (i+1)).filterMap (B15 w)=(ks.take i).filterMap (B15 w)++(B15 w (ks.getD i default)).toList:=λh=>C3q h
  have hfin:ks.length<=i->(ks.take i).filterMap (B15 w)=ks.filterMap (B15 w):=λh=>by rw[show i=ks.length by omega,List.take_length]
  have hln:=C9v (f:=B15 w) (l:=ks) i;generalize(ks.take i).filterMap (B15 w)=v at hn hfin hln⊢;simp only[go_sem,go_sem_proc];by_cases hlt:i<ks.length;rotate_left
  ·rw[if_neg (by omega),<-hfin (by omega)];exact eE_
  rw[if_pos (by omega)];refine⟨bE_,?_⟩;replace hn:=hn hlt;generalize ks.getD i default=k at hn⊢;have hu:=B15.eq_1 w k
  have hok:=E71 hw (k:=k);refine A0 (C8c w k hw) rfl ?_;generalize M0 w k=A at hu hok⊢;simp only[go_sem,go_sem_proc];refine⟨λh=>⟨h,λh2=>by rw[h,h2];rfl⟩,?_⟩;by_cases hs:(!A.2.2||(!A.1.Sensor&& !A.2.1.Sensor))=true
  ·rw[if_pos hs]at hu⊢;rw[hu]at hn;simp only[Option.toList,List.append_nil]at hn;refine A7 ⟨i+1,by omega⟩ (by show ks.length-(i+1)<ks.length-i;omega) ?_;simp only[hn];refine B8 [] [] ?_;simp only[go_sem,go_sem_proc];exact eE_
  rw[if_neg hs]at hu⊢;have hok2:=hok (by simp only[Bool.or_eq_true,Bool.not_eq_true',not_or,Bool.not_eq_false]at hs;exact hs.1);refine A0 (B3x w k.BodyA hw.1 hok2.1) rfl ?_;simp only[go_sem,go_sem_proc];refine A0 (B3x w k.BodyB hw.1 hok2.2.1) rfl ?_;simp only[go_sem,go_sem_proc];refine A0 (D0q A.1.Shape (U9 w k.BodyA) A.2.1.Shape (U9 w k.BodyB) hok2.2.2.1 hok2.2.2.2) rfl ?_;generalize A6j A.1.Shape (U9 w k.BodyA) A.2.1.Shape (U9 w k.BodyB)=ov at hu⊢;cases ov with
  |false=>rw[if_neg (by simp)]at hu;rw[hu]at hn;simp only[Option.toList,List.append_nil]at hn;simp only[go_sem,go_sem_proc];refine A7 ⟨i+1,by omega⟩ (by show ks.length-(i+1)<ks.length-i;omega) ?_;simp only[hn];refine B8 [] [] ?_;simp only[go_sem,go_sem_proc];exact eE_
  |true=>rw[if_pos rfl]at hu;rw[hu]at hn;simp only[Option.toList]at hn;simp only[go_sem,go_sem_proc];refine⟨bE_,?_⟩;refine A7 ⟨i+1,by omega⟩ (by show ks.length-(i+1)<ks.length-i;omega) ?_;simp only[hn];refine B8 [] [] ?_;simp only[go_sem,go_sem_proc];exact eE_
def B4q {α:Type}(d:α)(p:α->Bool)(j:Nat)(s:Nat×List α):Nat×List α:=if p (s.2.getD j d)then s else(s.1+1,s.2.set s.1 (s.2.getD j d))
def dfR {α:Type}(d:α)(p:α->Bool)(l:List α):Nat->Nat×List α
 |0=>(0,l)
 |j+1=>B4q d p j (dfR d p l j)
theorem B8l {α:Type}{d:α}{p:α->Bool}{l:List α}: ∀j,j<=l.length->(dfR d p l j).1<=j/\(dfR d p l j).2.length=l.length/\(∀k,j<=k->(dfR d p l j).2.getD k d=l.getD k d)/\(dfR d p l j).2.take (dfR d p l j).1=(l.take j).filter λx=> !p x
 |0,_=>⟨Nat.le_refl _,rfl,λ_ _=>rfl,by simp[dfR]⟩
 |j+1,hj=>by
  obtain⟨h1,h2,h3,h4⟩:=B8l (d:=d) (p:=p) (l:=l) j (by omega);have hg:=h3 j (Nat.le_refl _)
  have ht:l.take (j+1)=l.take j++ [l.getD j d]:=by rw[List.take_add_one];congr 1;simp[List.getD,List.getElem?_eq_getElem (show j<l.length by omega)]
  unfold dfR B4q;rw[hg];by_cases hp:p (l.getD j d)=true
  ·rw[if_pos hp];refine⟨by omega,h2,λk hk=>h3 k (by omega),?_⟩;rw[ht,List.filter_append,h4,List.filter_cons,List.filter_nil,hp];simp
  ·rw[if_neg hp];refine⟨by show(dfR d p l j).1+1<=j+1;omega,by simpa using h2,λk hk=> ?_,?_⟩
   ·show((dfR d p l j).2.set (dfR d p l j).1 (l.getD j d)).getD k d=_;rw[<-h3 k (by omega)];simp only[List.getD,List.getElem?_set];rw[if_neg (by omega)]
   ·show((dfR d p l j).2.set (dfR d p l j).1 (l.getD j d)).take ((dfR d p l j).1+1)=_;rw[ht,List.filter_append,<-h4,List.take_add_one,List.take_set_of_le (Nat.le_refl _)];have hp':p (l.getD j d)=false:=by simpa using hp
    rw[List.filter_cons,List.filter_nil,hp'];simp[h2,show(dfR d p l j).1<l.length by omega]
theorem B5s {α:Type}{d:α}{p:α->Bool}{l:List α}: ∀j,j<=l.length->(∀k,k<j->p (l.getD k d)=false)->dfR d p l j=(j,l)
 |0,_,_=>rfl
 |j+1,hj,h=>by
  rw[dfR,B5s j (by omega) λk hk=>h k (by omega)];unfold B4q;simp only[h j (by omega),Bool.false_eq_true,if_false,Prod.mk.injEq,true_and];have:l.getD j d=l[j]:=by simp[List.getD,List.getElem?_eq_getElem (show j<l.length by omega)]
  rw[this,List.set_getElem_self]
def dfQ {α:Type}(enc:α->List AV)(d:α)(p:α->Bool)(l:List α)(zl:List AV):Sq:=(A8 enc d (dfR d p l l.length).2).over (dfR d p l l.length).1 ⟨l.length-(dfR d p l l.length).1,λ_=>zl⟩
theorem F7p {α:Type}{d:α}{p:α->Bool}{l:List α}:(dfR d p l l.length).1=(l.filter λx=> !p x).length:=by obtain⟨h1,h2,h3,h4⟩:=B8l (d:=d) (p:=p) (l:=l) l.length (Nat.le_refl _);rw[List.take_length]at h4;rw[<-h4,List.length_take,h2];omega
theorem F3s {α:Type}{enc:α->List AV}{d:α}{p:α->Bool}{l:List α}{zl:List AV}{z:Nat}{g:Nat->List AV}{m:Nat}(hm:m=(dfR d p l l.length).1)(hg: ∀k,g k=(dfQ enc d p l zl).g k):M4 (.dsl z m g) (A2 z enc d (l.filter λx=> !p x)):=by
 subst hm;unfold A2;rw[A1z];refine⟨rfl,F7p,λk hk=> ?_⟩;rw[hg];obtain⟨h1,h2,h3,h4⟩:=B8l (d:=d) (p:=p) (l:=l) l.length (Nat.le_refl _);rw[List.take_length]at h4;have e:(dfQ enc d p l zl).g k=enc ((dfR d p l l.length).2.getD k d):=by show(if _ then _ else _:List AV)=_;rw[if_neg (by omega)];rfl
 rw[e,L7,<-h4];have:((dfR d p l l.length).2.take (dfR d p l l.length).1).getD k d=(dfR d p l l.length).2.getD k d:=by simp only[List.getD,List.getElem?_take];rw[if_pos hk]
 rw[this];exact L3 _
theorem B53 {P:Program}{m:Nat->Option A5}{f:FuncId}{avs:List AV}{b:Bool}{Q:ContR}{r:AV}(hc:A1 P f avs [] r [])(ha:F4 avs= [])(hb:b=true)(hK: @Ri Q b ⟨some r,[]⟩): @A4x P m f avs b Q:=
 A1h hc ⟨List.nodup_nil,λ_ h=>by cases h⟩ (λ_ h=>by cases h) (λa hav i hi=>by obtain⟨k,hk⟩:=List.getElem?_of_mem hav;have:=N2 hk i hi;rw[ha]at this;cases this) hb hK
theorem A65: ∀(a b:List AV),F4 (a++b)=F4 a++F4 b
 | [],b=>rfl
 |x::a,b=>by rw[List.cons_append,F4,F4,A65 a b,List.append_assoc]
theorem D70 {α:Type}{d:α}{p:α->Bool}{l:List α}:(A41 d p l= -1/\ ∀j,j<l.length->p (l.getD j d)=false)\/ ∃i:Nat,i<l.length/\A41 d p l=i/\p (l.getD i d)=true/\ ∀j,j<i->p (l.getD j d)=false:=by
 by_cases h: ∀j,j<l.length->p (l.getD j d)=false
 ·exact .inl ⟨A4b h,h⟩
 ·right;have: ∃i,i<l.length/\p (l.getD i d)=true/\ ∀j,j<i->p (l.getD j d)=false:=by
   have hex: ∃i,i<l.length/\p (l.getD i d)=true:=by
    apply Classical.byContradiction;intro hn;refine h λj hj=> ?_;cases hp:p (l.getD j d)with
    |false=>rfl
    |true=>exact absurd ⟨j,hj,hp⟩ hn
   obtain⟨i,hi,hp⟩:=hex;induction i using Nat.strongRecOn with
   |ind i ih=>
    by_cases hs: ∀j,j<i->p (l.getD j d)=false
    ·exact⟨i,hi,hp,hs⟩
    ·have: ∃j,j<i/\p (l.getD j d)=true:=by
      apply Classical.byContradiction;intro hn;refine hs λj hj=> ?_;cases hpj:p (l.getD j d)with
      |false=>rfl
      |true=>exact absurd ⟨j,hj,hpj⟩ hn
     obtain⟨j,hj,hpj⟩:=this;exact ih j hj (by omega) hpj
  obtain⟨i,hi,hp,hs⟩:=this;exact⟨i,hi,A82 hi hs hp,hp,hs⟩
theorem E53 {α:Type}{enc:α->List AV}{d:α}{p:α->Bool}{l:List α}{zl:List AV}(h: ∀j,j<l.length->p (l.getD j d)=false):dfQ enc d p l zl=A8 enc d l:=by unfold dfQ;rw[B5s l.length (Nat.le_refl _) h];unfold Sq.over A8;congr 1;funext k;rw[if_neg (by simp only;omega)]
def F39:List AV:=([(.int .i64 0),(.int .i64 0),(.int .i64 0),(.int .i64 0),(.int .i64 0),(.int .i64 0),(.int .i64 0),(.int .i64 0),(.int .i64 0),(.int .i64 0),(.int .i64 0),(.bool false),(.int .i64 0),(.int .i64 0),(.bool false),(.int .i64 0),(.int .i64 0),(.int .i64 0),(.int .i64 0),(.bool false),(.int .i64 0),(.int .i64 0),(.int .i64 0),(.int .i64 0)]:List Value).map .sc
def G1o:List AV:= [sI 0,sI 0,sI 0,sI 0,sI 0, .sc (.slice none 0 0), .sc (.slice none 0 0), .sc (.slice none 0 0), .sc (.slice none 0 0),sI 0,sI 0]
def zW:Api.World:=⟨⟨0,⟨0,0⟩,0,0⟩,[],[],[],[],0,0⟩
theorem F26:Wsm zW:=⟨Nat.zero_le _,Nat.zero_le _,Nat.zero_le _,Nat.zero_le _,(λb hb=>by cases hb),(λc hc=>by cases hc)⟩
theorem F7a {α:Type}{enc:α->List AV}{d:α}{p:α->Bool}{l:List α}{zl:List AV}:(dfQ enc d p l zl).n=l.length:=(B8l (d:=d) (p:=p) (l:=l) l.length (Nat.le_refl _)).2.1
def G0o(w:Api.World):List (Nat×A5):= [(48, .box [sI w.Settings.TimeStep,sI w.Settings.Gravity.X,sI w.Settings.Gravity.Y,sI w.Settings.Iterations,sI w.Settings.SleepSteps, .sl 336 0 w.Bodies.length w.Bodies.length, .sl 337 0 w.Joints.length w.Joints.length, .sl 338 0 w.Contacts.length w.Contacts.length, .sl 339 0 w.Overlaps.length w.Overlaps.length,sI w.NextID,sI w.Frame]),(80, .box G1o),(336, .arr 20 (A8 Body.enc default w.Bodies)),(337, .arr 24 (A8 Joint.enc default w.Joints)),(338, .arr 7 (A8 Contact.enc default w.Contacts)),(339, .arr 4 (A8 PairKey.enc default w.Overlaps))]
def G4a(w:Api.World)(id:Int)(nb:List Int):List (Nat×A5):=(1, .arr 1 (A8 B9 0 nb))::(G0o w++ [(144, .box [.fn (.func C2z) [] [.fptr [sI id]]])])
attribute [go_sem] G0o G4a
end Go.Abs
end
