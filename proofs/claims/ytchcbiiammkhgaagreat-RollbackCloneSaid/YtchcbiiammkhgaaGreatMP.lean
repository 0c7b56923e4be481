/- A part of the proof: contracts of functions that the statement reaches. -/
import Derived.Test.YtchcbiiammkhgaaGreatMO
set_option linter.unusedSimpArgs false
set_option linter.unusedVariables false
set_option linter.unnecessarySimpa false
set_option maxRecDepth 100000
set_option maxHeartbeats 2000000
noncomputable section
namespace Go.Abs
open Go.Proofs
open Api
theorem B1i {P:Program}{m:Nat->Option A7}{f:FuncId}{avs:List AV}{b:Bool}{Q:ContR}(hb:b=false)(r:AV)(hK: @Ri Q b ⟨some r,[]⟩): @A25 P m f avs b Q:=⟨⟨some r,[]⟩,(λh=>by rw[hb]at h;cases h),(λh=>absurd rfl h),hK⟩
def drO(w:Api.World)(x:B3)(l:List Int):List (Nat×A7):=(32, .box [.ptr 6 0 0 1])::A6c w x l
attribute [go_sem] drO
theorem D5g(w:Api.World)(x:B3)(l:List Int):okO (drO w x l):=by refine⟨g_,?_⟩;simp[go_sem]
theorem B9q(w:Api.World)(x:B3)(l:List Int)(i:Int)(h0:0<=i)(h1:i<w.cC.length):cA_ 330 [sI i, .ptr 32 0 0 1] (drO w x l) (sB (D07 (B3v w i))) (drO w x l):=by refine I6 hm A6 Tryz.func330 rfl rfl (sg_ ?_);refine⟨⟨h0,h1⟩,?_⟩;refine Z7 (C4d w x l (B3v w i)) (A99 w x l) g_ g_ rfl (sg_ ?_);refine B8 [.cA] [] [] ?_;simp only[go_sem]
def D79(w:Api.World)(i:Int):Bool:=if 0<=i/\i<w.cD.length then(w.cD.getD i.toNat dF_).dF else false
theorem B9r(w:Api.World)(x:B3)(l:List Int)(i:Int):cA_ 332 [sI i, .ptr 32 0 0 1] (drO w x l) (sB (D79 w i)) (drO w x l):=by
 refine I6 hm A6 Tryz.func332 rfl rfl (sg_ ?_);refine⟨λh=>(by by_cases h0:0<=i;(rw[zc h0]at h;exact⟨h0,yc h⟩);(rw[zb h0]at h;cases h)),?_⟩;refine B8 [.cA] [] [] (sg_ ?_);unfold D79;by_cases h0:0<=i
 ·by_cases h1:i<(w.cD.length:Int)
  ·simp only[h0,h1,yl,zL,z6,zH]
  ·simp only[h0,h1,yg,zL,zJ,zP,zI]
 ·simp only[h0,qJ,zJ,zI]
theorem E75(l:List Int):(A7.arr 1 (B0 C8 0 l)).NoDsl:=λk hk=>rfl
theorem E9r {z m:Nat}{l r:List Int}{g:Nat->List AV}(hm:m=l.length)(hg: ∀i,g i=C8 ((l++r).getD i 0)):M9 (.dsl z m g) (.dsl z l.length (I9 C8 0 l)):=by
 subst hm;simp only[M9,qo];intro i hi;have:(l++r).getD i 0=l.getD i 0:=by simp[List.getD,qZ,hi]
 simp only[I9,hg,this];exact I5 _
theorem D8w {n:Nat}{l:List Int}{i x:Int}(h:x∈B3j n l i):x∈l\/(x=i/\0<=i/\i<n):=by
 unfold B3j at h;split at h
 ·rename_i hc;rw[zj,zu]at h;rcases h with h |h
  ·exact .inl h
  ·exact .inr ⟨h,hc⟩
 ·exact .inl h
theorem C20 {w:Api.World}{l:List Int}{id:Int}(h: ∀x∈l,0<=x/\x<(w.cC.length:Int)): ∀x∈A4f w l id,0<=x/\x<(w.cC.length:Int):=by
 intro x hx;unfold A4f at hx;split at hx
 ·rcases D8w hx with h1 |⟨rfl,h1⟩
  ·exact h x h1
  ·exact h1
 ·exact h x hx
theorem D47 {f:List Int->Int->List Int}{Q:Int->Prop}(hf: ∀l i,(∀x∈l,Q x)-> ∀x∈f l i,Q x)(l:List Int): ∀(acc:List Int),(∀x∈acc,Q x)-> ∀x∈l.foldl f acc,Q x:=by
 induction l with
 |nil=>exact λacc h=>h
 |cons a l ih=>exact λacc h=>ih (f acc a) (hf acc a h)
theorem D4x(w:Api.World)(x:B3): ∀i∈A9e w x,0<=i/\i<(w.cC.length:Int):=by
 refine D47 (λl i h=> ?_) _ _ (D47 (λl i h=> ?_) _ _ (D47 (λl i h x hx=> ?_) _ _ p_))
 ·unfold A9f;split
  ·exact C20 (C20 h)
  ·exact h
 ·unfold A9x;split
  ·exact C20 (C20 h)
  ·exact h
 ·rcases D8w hx with h1 |⟨rfl,h1⟩
  ·exact h x h1
  ·exact h1
theorem D00 {w:Api.World}{x:B3}{i:Int}:i∈J7 w x↔i∈A9e w x:=by unfold J7;rw[E7a,E71]
theorem D89(w:Api.World)(x:B3):(J7 w x).length<=(A9e w x).length:=by unfold J7;have:=B97 (B52 (A9e w x));rwa[C0h]at this
theorem D86 {w:Api.World}{x:B3}(hx:Ism x):(A9e w x).length<=8000000:=by
 obtain⟨x1,x2,x3⟩:=hx;have h1:=A8o (C21 w.cC.length) x.cC []
 have h2:=A8o (D0y w) x.cB (A9w w x)
 have h3:=A8o (D0z w) x.cD (A9d w x);simp only[List.length_nil]at h1;unfold A9e;unfold A9d at h3⊢;unfold A9w at h2 h3⊢;omega
def B5c(w:Api.World)(x:B3):Bool:=(J7 w x).any (λi=>D07 (B3v w i))||x.cD.any (D79 w)
theorem B4i(w:Api.World)(x:B3)(l:List Int)(hw:Wsm w)(hx:Ism x):cA_ 201 [.ptr 6 0 0 1] (A6c w x l) (sB (B5c w x)) (A6c w x l):=by
 have hb3:=D86 (w:=w) hx
 have hbl:=D89 w x;refine I6 hm A6 Tryz.func201 rfl rfl (sg_ ?_);refine E1o [(1,7)] (C0s w x hw hx) rfl (by simp only[zu,forall_eq];exact E75 _) p_ p_ (by simp only[S2,go_sem]) g_ rfl (sg_ ?_);refine B5 [false,true] [] (A5l (J7 w x) 330 [] [.ptr 32 0 0 1] (drO w x l) (λi=>D07 (B3v w i)) o_ (D5g w x l) g_ (λi hi=>B9q w x l i (D4x w x i (D00.1 hi)).1 (D4x w x i (D00.1 hi)).2)) g_ g_ g_ g_ (sg_ ?_);refine⟨by rw[zd,List.length_replicate];omega,E9r rfl λ_=>rfl,?_⟩;cases hmv:(J7 w x).any (λi=>D07 (B3v w i))with
 |true=>refine B1i p_ (sB false) (sg_ ?_);refine B8 [.cA] [] [] ?_;simp only[go_sem,B5c,hmv,zV]
 |false=>refine Z7 (A5l x.cD 332 [] [.ptr 32 0 0 1] (drO w x l) (D79 w) (by have:=hx.2.2;omega) (D5g w x l) g_ (λi hi=>B9r w x l i)) (D5g w x l) g_ g_ p_ (sg_ ?_);refine B8 [.cA] [] [] ?_;simp only[go_sem,B5c,hmv,zS]
def A6p(w:Api.World)(x:B3)(l:List Int):Bool:=(l.any λi=> !(B3v w i).eX)||B5c w x
theorem A9l(w:Api.World)(x:B3)(l:List Int)(hw:Wsm w)(hx:Ism x)(hl:l.length<=1048576)(hi: ∀i∈l,0<=i/\i<w.cC.length):cA_ 162 [.ptr 6 0 0 1] (A6c w x l) (sB (A6p w x l)) (A6c w x l):=by
 refine I6 hm A6 Tryz.func162 rfl rfl (sg_ ?_);refine Z7 (B7g w x l 260 (λb=> !b.eX) (C4b w x l) hl hi) (A99 w x l) g_ g_ rfl (sg_ ?_);cases hmv:(l.any λi=> !(B3v w i).eX)with
 |true=>refine B1i p_ (sB false) (sg_ ?_);refine B8 [.cA] [] [] ?_;simp only[go_sem,A6p,hmv,zV]
 |false=>refine Z7 (B4i w x l hw hx) (A99 w x l) g_ g_ p_ (sg_ ?_);refine B8 [.cA] [] [] ?_;simp only[go_sem,A6p,hmv,zS]
def A1l(w:Api.World)(x:B3):List Int:=A94 x.cC w.cC.length
theorem C15(w:Api.World)(x:B3): ∀i∈A1l w x,0<=i/\i<(w.cC.length:Int):=λi hi=>(F0j.1 hi).2
theorem D1g {w:Api.World}{x:B3}(hx:Ism x):(A1l w x).length<=1048576:=by have:=C3m x.cC w.cC.length;have:=hx.1;unfold A1l;omega
theorem A9r(w:Api.World)(x:B3)(hw:Wsm w)(hx:Ism x):cA_ 106 [.agg w.enc, .agg x.enc] [] (sB (A6p w x (A1l w x))) []:=by refine en1 hm A6 Tryz.func106 rfl rfl (sg_ ?_);refine B5 [true,true] [] (B2t w x hw hx) p_ g_ g_ p_ (sg_ ?_);refine Z7 (A9l w x (A1l w x) hw hx (D1g hx) (C15 w x)) (A99 w x _) (by simp[go_sem,A1l]) g_ rfl ?_;simp only[go_sem]
def F2g(j:cF)(b:cE)(ib limit:Int)(q n:cI)(sum:Int):Row:=⟨-1,ib,n,0,A07 (O5 q (F0 b)) n,0,0,IntKind.i64.wrap (0-limit),limit,j.dB,sum,-1,0⟩
def C65(j:cF)(b:cE)(ib:Int)(s:List cG)(dt limit:Int)(q n:cI)(off sum:Int):Row:=⟨-1,ib,n,0,A07 (O5 q (F0 b)) n,S8 (F2g j b ib limit q n sum) s,K3 off dt,IntKind.i64.wrap (0-limit),limit,j.dB,sum,-1,0⟩
def wO(j:cF)(b:cE)(ib:Int)(s:List cG)(dt limit:Int)(q:cI):List (Nat×A7):=[(1, .box [sI ib]),(2, .box j.enc),(3, .box [sI limit]),(4, .box q.enc),(5, .box b.enc),(6, .box [A4 5 cG.enc dF_ s]),(7, .box [sI dt])]
theorem D38(j:cF)(b:cE)(ib:Int)(s:List cG)(dt limit:Int)(q n:cI)(off sum:Int)(hb: ∀f∈b.cH,f.Shape.cK.length<=1048576):cA_ 434 [.agg n.enc,sI off,sI sum, .ptr 1 0 0 1, .ptr 2 0 0 1, .ptr 3 0 0 1, .ptr 4 0 0 1, .ptr 5 0 0 1, .ptr 6 0 0 1, .ptr 7 0 0 1] (wO j b ib s dt limit q) (.agg (C65 j b ib s dt limit q n off sum).enc) (wO j b ib s dt limit q):=by
 unfold wO;refine C29 40 [(13,some (some 14))] hm A6 Tryz.func434 rfl ?_;have:=A2z
 have:=L9
 have:=A5z
 have:=V9
 have:=λx1 x2=>cx_ (N7 (F2g j b ib limit q x1 sum) x2)
 (simp(maxSteps:=1000000) only[go_sem])
 repeat' (first |((with_reducible refine And.intro ?_ ?_);focus (exact K1)) |(with_reducible refine gd_ ?_;with_reducible refine A0 (by apply_assumption <;> exact K1) rfl ?_;(simp(maxSteps:=1000000) only[go_sem])) |((with_reducible refine gr_ ?_);refine C64 ev_ ev_ ev_ ev_ rfl rfl ns_ ns_ ns_ ?_;(simp(maxSteps:=1000000) only[go_sem])))
 all_goals rfl
def zB:cE:=⟨0,0,⟨⟨0,0⟩,0⟩,⟨0,0⟩,0,⟨0,0⟩,0,0,0,0,false,false,false,false,0,[]⟩
def A1g(j:cF)(b:cE)(ib:Int)(s:List cG)(dt:Int):List Row:=
 let pq:=M0 j zB b
 let d:=O5 pq.2 pq.1
 let limit:=C6 j.dR dt
 if j.cS=5 then [C65 j b ib s dt limit pq.2 ⟨65536,0⟩ d.X j.cP.I0,C65 j b ib s dt limit pq.2 ⟨0,65536⟩ d.Y j.cP.I1]else []
theorem C9q(j:cF)(b:cE)(ib:Int)(s:List cG)(dt:Int)(hb: ∀f∈b.cH,f.Shape.cK.length<=1048576):cA_ 306 [.agg j.enc, .agg b.enc,sI ib,A4 5 cG.enc dF_ s,sI dt] [] (A4 14 Row.enc dF_ (A1g j b ib s dt)) []:=by
 refine en1 hm A6 Tryz.func306 rfl rfl ?_;have h1:cA_ 433 [.agg j.enc, .agg [sI 0,sI 0,sI 0,sI 0,sI 0,sI 0,sI 0,sI 0,sI 0,sI 0,sI 0,sI 0,sI 0,sI 0,sB false,sB false,sB false,sB false,sI 0, .sc (.slice none 0 0)], .agg b.enc] [] (.tup [.agg (M0 j zB b).1.enc, .agg (M0 j zB b).2.enc]) []:=D5.args_le (A3i j zB b) ⟨J2.refl _,J2.agg ⟨J2.refl _,J2.refl _,J2.refl _,J2.refl _,J2.refl _,J2.refl _,J2.refl _,J2.refl _,J2.refl _,J2.refl _,J2.refl _,J2.refl _,J2.refl _,J2.refl _,J2.refl _,J2.refl _,J2.refl _,J2.refl _,J2.refl _,J2.nil,trivial⟩,J2.refl _,trivial⟩
 have:=L9
 have:=M2
 (simp(maxSteps:=1000000) only[go_sem])
 repeat' (first |((with_reducible refine And.intro ?_ ?_);focus (exact K1)) |((with_reducible refine it_ (λhc_=> ?_) (λhc_=> ?_)) <;> (have hd_:=hc_;try simp only[qB,ne_eq,qe]at hd_)) |(with_reducible refine gd_ ?_;with_reducible refine A0 (by apply_assumption <;> first |exact K1 |(apply_assumption <;> first |assumption |exact K1)) rfl ?_;(simp(maxSteps:=1000000) only[go_sem])))
 ·have e:A1g j b ib s dt= []:=by
   unfold A1g;simp only;rw[zb (by simpa using hc_)]
  rw[e];exact G5 rfl
 ·have e:A1g j b ib s dt= [C65 j b ib s dt (C6 j.dR dt) (M0 j zB b).2 ⟨65536,0⟩ (O5 (M0 j zB b).2 (M0 j zB b).1).X j.cP.I0,C65 j b ib s dt (C6 j.dR dt) (M0 j zB b).2 ⟨0,65536⟩ (O5 (M0 j zB b).2 (M0 j zB b).1).Y j.cP.I1]:=by
   unfold A1g;simp only;rw[zc (by simpa using hc_)]
  rw[e];clear h1;generalize M0 j zB b=pq at*;generalize C6 j.dR dt=limit at*;refine D57 [false,false,false,true,true,true,true,true,true,true] [(1,128),(2,96),(3,240),(4,208),(5,112),(6,144),(7,160)] (D38 j b ib s dt limit pq.2 ⟨65536,0⟩ (O5 pq.2 pq.1).X j.cP.I0 hb) (by simp[wO]) (by simp[wO,go_sem]) (by simp[wO,J1,AV.ids]) ?_;generalize C65 j b ib s dt limit pq.2 ⟨65536,0⟩ (O5 pq.2 pq.1).X j.cP.I0=r1;simp only[wO,go_sem,go_sem_proc];refine⟨by decide,?_⟩;refine D57 [false,false,false,true,true,true,true,true,true,true] [(1,128),(2,96),(3,240),(4,208),(5,112),(6,144),(7,160)] (D38 j b ib s dt limit pq.2 ⟨0,65536⟩ (O5 pq.2 pq.1).Y j.cP.I1 hb) (by simp[wO]) (by simp[wO,go_sem]) (by simp[wO,J1,AV.ids]) ?_;generalize C65 j b ib s dt limit pq.2 ⟨0,65536⟩ (O5 pq.2 pq.1).Y j.cP.I1=r2;simp only[wO,go_sem,go_sem_proc];exact H1 (λ_ _=>rfl) rfl rfl rfl
def L5(j:cF)(a:cE)(b:cE)(ia:Int)(ib:Int)(s:List cG)(dt:Int):(List Row):=if(j.cS==1)=true then(let v1:=(A28 j a b ia ib s dt);v1)else(if(j.cS==2)=true then(let v2:=(A6y j a b ia ib s dt);v2)else(if(j.cS==3)=true then(let v3:=(A5t j a b ia ib s dt);v3)else(if(j.cS==4)=true then(let v4:=(B1m j a b ia ib s dt);v4)else(if(j.cS==5)=true then(let v5:=(A1g j b ib s dt);v5)else(([]:List Row))))))
theorem A8u(j:cF)(a:cE)(b:cE)(ia:Int)(ib:Int)(s:List cG)(dt:Int)(ha: ∀f∈a.cH,f.Shape.cK.length<=1048576)(hb: ∀f∈b.cH,f.Shape.cK.length<=1048576):cA_ 182 [.agg j.enc, .agg a.enc, .agg b.enc,sI ia,sI ib,A4 5 cG.enc dF_ s,sI dt] [] (A4 14 Row.enc dF_ (L5 j a b ia ib s dt)) []:=by
 refine en1 hm A6 Tryz.func182 rfl rfl ?_;have:=C34
 have:=D32
 have:=D17
 have:=E2u
 have:=C9q
 have:=L5.eq_1 j a b ia ib s dt;exact K2
theorem E7z(v l u:Int)(e:Bool)(i dt:Int)(r:Row): ∀x∈X4 v l u e i dt r,x.fN=i:=by
 unfold X4;simp only
 (repeat' split) <;> simp
theorem E70(j:cF)(r:Row)(dt:Int): ∀x∈R2 j r dt,x.fN=j.cP.I2:=by
 unfold R2;simp only
 (repeat' split) <;> simp
theorem C32(j:cF)(a b:cE)(ia ib:Int)(s:List cG)(dt:Int):(L5 j a b ia ib s dt).length<=4:=by
 have h1:=λv l u e i dt r=>C6p v l u e i dt r
 have h2:=λj r dt=>C6q j r dt;unfold L5;simp only
 (repeat' split)
 ·unfold A28;simp only;(repeat' split) <;> simp
 ·unfold A6y;simp only;split
  ·simp
  ·simp only[zd,C6r];have:=h2 j (S7 ia ib s 0) dt
   have:=h1 (A0c j a b) j.dQ j.dS j.dD j.cP.I3 dt (S7 ia ib s 0);omega
 ·unfold A5t;simp only;split
  ·simp
  ·simp only[zd,List.length_cons,List.length_nil];have:=h2 j (A1j j a b ia ib (Z8 j a) s) dt
   have:=h1 (A3z j a b) j.dQ j.dS j.dD j.cP.I3 dt (A1j j a b ia ib (Z8 j a) s);omega
 ·unfold B1m;simp only;split <;> simp
 ·unfold A1g;simp only;split <;> simp
 ·simp
def B2a(j:cF)(i:Int):Prop:=i=j.cP.I0\/i=j.cP.I1\/i=j.cP.I2\/i=j.cP.I3
theorem F1j(j:cF)(a b:cE)(ia ib:Int)(s:List cG)(dt:Int): ∀r∈L5 j a b ia ib s dt,B2a j r.fN:=by
 have hp: ∀r∈X5 j a b ia ib s dt,B2a j r.fN:=by unfold X5;simp[B2a]
 have hl:=λv l u e dt r x h=>E7z v l u e j.cP.I3 dt r x h
 have hm:=λr dt x h=>E70 j r dt x h;unfold L5;simp only
 (repeat' split)
 ·unfold A28;simp only;(repeat' split) <;> simp[B2a]
 ·unfold A6y;simp only;split
  ·simp
  ·intro r hr;simp only[zj]at hr;rcases hr with(hr |hr) |hr
   ·have:=hm _ _ _ hr;simp[B2a,this]
   ·have:=hl _ _ _ _ _ _ _ hr;simp[B2a,this]
   ·exact hp _ hr
 ·unfold A5t;simp only;split
  ·simp
  ·intro r hr;simp only[zj]at hr;rcases hr with(hr |hr) |hr
   ·have:=hm _ _ _ hr;simp[B2a,this]
   ·have:=hl _ _ _ _ _ _ _ hr;simp[B2a,this]
   ·simp at hr;rcases hr with hr |hr <;> simp[B2a,hr]
 ·unfold B1m;simp only;split
  ·simp
  ·intro r hr;simp only[zj]at hr;rcases hr with hr |hr
   ·simp at hr;simp[B2a,hr]
   ·exact hp _ hr
 ·unfold A1g C65;simp only;split <;> simp[B2a]
 ·simp
theorem C9h(j:cF)(a b:cE)(ia ib dt:Int)(ha: ∀f∈a.cH,f.Shape.cK.length<=1048576)(hb: ∀f∈b.cH,f.Shape.cK.length<=1048576):cA_ 182 [.agg j.enc, .agg a.enc, .agg b.enc,sI ia,sI ib, .sc (.slice none 0 0),sI dt] [] (A4 14 Row.enc dF_ (L5 j a b ia ib [] dt)) []:=D5.args_le (A8u j a b ia ib [] dt ha hb) ⟨J2.refl _,J2.refl _,J2.refl _,J2.refl _,J2.refl _,J2.nil,J2.refl _,trivial⟩
def T7(v1:(List Row))(i1:Nat)(s1:(List Int)):(List Int):=(s1++ [(v1.getD i1 dF_).fN])
def P1(j:cF)(a:cE)(b:cE):(List Int):=let v1:=(L5 (⟨j.ID,j.cS,j.cU,j.cV,j.dP,j.dL,j.eN,j.cW,j.dD,j.dQ,j.dS,j.dF,j.dN,j.dR,j.dB,j.dH,j.cZ,(⟨0,1,2,3⟩:Four)⟩:cF) a b 0 0 ([]:List cG) 65536);let s1:=itr (T7 v1) v1.length [];s1
theorem C9i(j:cF)(a:cE)(b:cE)(ha: ∀f∈a.cH,f.Shape.cK.length<=1048576)(hb: ∀f∈b.cH,f.Shape.cK.length<=1048576):cA_ 192 [.agg j.enc, .agg a.enc, .agg b.enc] [] (A4 1 C8 0 (P1 j a b)) []:=by
 refine en1 hm A6 Tryz.func192 rfl rfl ?_;have:=C32 (⟨j.ID,j.cS,j.cU,j.cV,j.dP,j.dL,j.eN,j.cW,j.dD,j.dQ,j.dS,j.dF,j.dN,j.dR,j.dB,j.dH,j.cZ,(⟨0,1,2,3⟩:Four)⟩:cF) a b 0 0 ([]:List cG) 65536
 have:=cx_ (C9h (⟨j.ID,j.cS,j.cU,j.cV,j.dP,j.dL,j.eN,j.cW,j.dD,j.dQ,j.dS,j.dF,j.dN,j.dR,j.dB,j.dH,j.cZ,(⟨0,1,2,3⟩:Four)⟩:cF) a b 0 0 65536 ha hb)
 have:=λx1 x2 x3 x4 x5 x6 x7 x8 x9 x10 x11 x12 x13 x14 x15 x16 x17 x18 x19 x20 x21 x22 x23 x24 x25 x26 x27 h0 h1=>cx_ (A8u ⟨x1,x2,x3,x4,⟨x5,x6⟩,⟨x7,x8⟩,⟨x9,x10⟩,x11,x12,x13,x14,x15,x16,x17,x18,x19,x20,x21⟩ x22 x23 x24 x25 x26 x27 h0 h1)
 have:=A8u
 have:=P1.eq_1 j a b
 have:=λi_ s_=>T7.eq_1 (L5 (⟨j.ID,j.cS,j.cU,j.cV,j.dP,j.dL,j.eN,j.cW,j.dD,j.dQ,j.dS,j.dF,j.dN,j.dR,j.dB,j.dH,j.cZ,(⟨0,1,2,3⟩:Four)⟩:cF) a b 0 0 ([]:List cG) 65536) i_ s_
 have:=λx_ Q_ σ_=> @lp_ Tryz.prog Tryz.f192.ntmps [] x_ Q_ σ_ hm (λ_=>True) (λi_=>((itr (T7 (L5 (⟨j.ID,j.cS,j.cU,j.cV,j.dP,j.dL,j.eN,j.cW,j.dD,j.dQ,j.dS,j.dF,j.dN,j.dR,j.dB,j.dH,j.cZ,(⟨0,1,2,3⟩:Four)⟩:cF) a b 0 0 ([]:List cG) 65536)) i_ [])).length<=0+1*i_) (L5 (⟨j.ID,j.cS,j.cU,j.cV,j.dP,j.dL,j.eN,j.cW,j.dD,j.dQ,j.dS,j.dF,j.dN,j.dR,j.dB,j.dH,j.cZ,(⟨0,1,2,3⟩:Four)⟩:cF) a b 0 0 ([]:List cG) 65536).length (λi_=> [(7,if i_=0 then .fA else .cA, .sl 1007 0 (itr (T7 (L5 (⟨j.ID,j.cS,j.cU,j.cV,j.dP,j.dL,j.eN,j.cW,j.dD,j.dQ,j.dS,j.dF,j.dN,j.dR,j.dB,j.dH,j.cZ,(⟨0,1,2,3⟩:Four)⟩:cF) a b 0 0 ([]:List cG) 65536)) i_ []).length (itr (T7 (L5 (⟨j.ID,j.cS,j.cU,j.cV,j.dP,j.dL,j.eN,j.cW,j.dD,j.dQ,j.dS,j.dF,j.dN,j.dR,j.dB,j.dH,j.cZ,(⟨0,1,2,3⟩:Four)⟩:cF) a b 0 0 ([]:List cG) 65536)) i_ []).length),(15, .cA,A4 14 Row.enc dF_ (L5 (⟨j.ID,j.cS,j.cU,j.cV,j.dP,j.dL,j.eN,j.cW,j.dD,j.dQ,j.dS,j.dF,j.dN,j.dR,j.dB,j.dH,j.cZ,(⟨0,1,2,3⟩:Four)⟩:cF) a b 0 0 ([]:List cG) 65536)),(16, .cA,sI ((L5 (⟨j.ID,j.cS,j.cU,j.cV,j.dP,j.dL,j.eN,j.cW,j.dD,j.dQ,j.dS,j.dF,j.dN,j.dR,j.dB,j.dH,j.cZ,(⟨0,1,2,3⟩:Four)⟩:cF) a b 0 0 ([]:List cG) 65536).length:Int)),(17, .cA,sI (i_:Int))]) (λi_=> [(1007, .arr 1 (B0 C8 0 (itr (T7 (L5 (⟨j.ID,j.cS,j.cU,j.cV,j.dP,j.dL,j.eN,j.cW,j.dD,j.dQ,j.dS,j.dF,j.dN,j.dR,j.dB,j.dH,j.cZ,(⟨0,1,2,3⟩:Four)⟩:cF) a b 0 0 ([]:List cG) 65536)) i_ [])))]) [1007] trivial (λi_ hI_=>A89 (λs:(List Int)=>(s).length) 1 (λi s=>by(unfold T7;(repeat' split) <;> simp <;> omega)) i_ _) g_ g_ g_;exact K2
@[simp] theorem F0q(r:Row)(bs:List cG)(p:Int):(Q3 r bs p).length=bs.length:=by
 unfold Q3;simp only
 (repeat' split) <;> simp
def A3w(rs:List Row)(i:Int):Int×Int:=if((decide (i<0))||(decide ((rs.length:Int)<=i)))=true then((0,0))else(if(((decide ((rs.getD i.toNat dF_).eQ<0))||(decide ((rs.length:Int)<=(rs.getD i.toNat dF_).eQ)))||((rs.getD i.toNat dF_).eQ==i))=true then(((rs.getD i.toNat dF_).dQ,(rs.getD i.toNat dF_).dS))else(let v1:=(C6 (rs.getD i.toNat dF_).eK (rs.getD (rs.getD i.toNat dF_).eQ.toNat dF_).fN);((IntKind.i64.wrap (0-(if v1<0 then 0 else v1))),(if v1<0 then 0 else v1))))
theorem B4y(rs:List Row)(i:Int):cA_ 315 [A4 14 Row.enc dF_ rs,sI i] [] (.tup [sI ((A3w rs i).1),sI ((A3w rs i).2)]) []:=by
 refine enT hm A6 Tryz.func315 rfl rfl ?_;have:=M2
 have:=A3w.eq_1 rs i;exact K2
def P5(rs:List Row)(i:Int)(bs:List cG):(List Row)×(List cG):=let v1:=rs;if((decide (i<0))||(decide ((v1.length:Int)<=i)))=true then(let v2:=bs;(v1,v2))else(let v3:=(Z2 (v1.getD i.toNat dF_) bs);let v4:=(D2 v3 (v1.getD i.toNat dF_).fZ);let v5:=(C6 (v1.getD i.toNat dF_).dB (v1.getD i.toNat dF_).fN);let v6:=(D2 v4 v5);let v7:=(A3w rs i);let v8:=(C6 (v1.getD i.toNat dF_).eI v6);let v9:=(sat (sat (v1.getD i.toNat dF_).fN-sat v8));let v10:=(Q9 v9 v7.1 v7.2);let v11:=(sat (sat v10-sat (v1.getD i.toNat dF_).fN));let v12:=(Q3 (⟨(v1.getD i.toNat dF_).A,(v1.getD i.toNat dF_).B,(v1.getD i.toNat dF_).dG,(v1.getD i.toNat dF_).fP,(v1.getD i.toNat dF_).fO,(v1.getD i.toNat dF_).eI,(v1.getD i.toNat dF_).fZ,(v1.getD i.toNat dF_).dQ,(v1.getD i.toNat dF_).dS,(v1.getD i.toNat dF_).dB,v10,(v1.getD i.toNat dF_).eQ,(v1.getD i.toNat dF_).eK⟩:Row) bs v11);((v1.set i.toNat (⟨(v1.getD i.toNat dF_).A,(v1.getD i.toNat dF_).B,(v1.getD i.toNat dF_).dG,(v1.getD i.toNat dF_).fP,(v1.getD i.toNat dF_).fO,(v1.getD i.toNat dF_).eI,(v1.getD i.toNat dF_).fZ,(v1.getD i.toNat dF_).dQ,(v1.getD i.toNat dF_).dS,(v1.getD i.toNat dF_).dB,v10,(v1.getD i.toNat dF_).eQ,(v1.getD i.toNat dF_).eK⟩:Row)),v12))
theorem C7c(rs:List Row)(i:Int)(bs:List cG)(h0:bs.length<=1048576)(h1:rs.length<=1048576):cA_ 318 [A4 14 Row.enc dF_ rs,sI i,A4 5 cG.enc dF_ bs] [] (.tup [.sl 1 0 (P5 rs i bs).1.length (P5 rs i bs).1.length, .sl 2 0 (P5 rs i bs).2.length (P5 rs i bs).2.length]) [(1, .arr 14 (B0 Row.enc dF_ (P5 rs i bs).1)),(2, .arr 5 (B0 cG.enc dF_ (P5 rs i bs).2))]:=by
 refine A3a hm A6 Tryz.func318 rfl rfl ?_;have:=λx1 x2 x3 x4 x5 x6 x7 x8 x9 x10 x11 x12 x13 x14 x15 x16 h0=>cx_ (A5j ⟨x1,x2,⟨x3,x4⟩,x5,x6,x7,x8,x9,x10,x11,x12,x13,x14⟩ x15 x16 h0)
 have:=C7w
 have:=A9s
 have:=A7n
 have:=N2
 have:=M2
 have:=B4y
 have:=R7
 have:=A5a
 have:=A5j
 have:=P5.eq_1 rs i bs;exact K2
@[simp] theorem F8k(rs:List Row)(i:Int)(bs:List cG):(P5 rs i bs).1.length=rs.length:=by
 unfold P5;simp only
 (repeat' split) <;> simp
@[simp] theorem F8l(rs:List Row)(i:Int)(bs:List cG):(P5 rs i bs).2.length=bs.length:=by
 unfold P5;simp only
 (repeat' split) <;> simp
def H0(rs:List Row):(List Row):=rs
theorem B7h(rs:List Row)(h1:rs.length<=1048576):cA_ 314 [A4 14 Row.enc dF_ rs] [] (.sl 1 0 (H0 rs).length (H0 rs).length) [(1, .arr 14 (B0 Row.enc dF_ (H0 rs)))]:=by refine I6 hm A6 Tryz.func314 rfl rfl ?_;have:=H0.eq_1 rs;exact K2
def H3(bs:List cG):(List cG):=bs
theorem B43(bs:List cG)(h0:bs.length<=1048576):cA_ 316 [A4 5 cG.enc dF_ bs] [] (.sl 1 0 (H3 bs).length (H3 bs).length) [(1, .arr 5 (B0 cG.enc dF_ (H3 bs)))]:=by refine I6 hm A6 Tryz.func316 rfl rfl ?_;have:=H3.eq_1 bs;exact K2
@[simp] theorem C0f(rs:List Row):(H0 rs).length=rs.length:=by unfold H0;simp
@[simp] theorem C0e(bs:List cG):(H3 bs).length=bs.length:=by unfold H3;simp
def Q5(i1:Nat)(s1:(List Row)):(List Row):=let v2:=(A3w s1 (i1:Int));let v3:=(Q9 (s1.getD i1 dF_).fN v2.1 v2.2);(s1.set i1 (⟨(s1.getD i1 dF_).A,(s1.getD i1 dF_).B,(s1.getD i1 dF_).dG,(s1.getD i1 dF_).fP,(s1.getD i1 dF_).fO,(s1.getD i1 dF_).eI,(s1.getD i1 dF_).fZ,(s1.getD i1 dF_).dQ,(s1.getD i1 dF_).dS,(s1.getD i1 dF_).dB,v3,(s1.getD i1 dF_).eQ,(s1.getD i1 dF_).eK⟩:Row))
def D3(rs:List Row):(List Row):=let v1:=(H0 rs);let s1:=itr (Q5) v1.length v1;s1
theorem C1n(rs:List Row)(h1:rs.length<=1048576):cA_ 184 [A4 14 Row.enc dF_ rs] [] (.sl 1 0 (D3 rs).length (D3 rs).length) [(1, .arr 14 (B0 Row.enc dF_ (D3 rs)))]:=by
 refine I6 hm A6 Tryz.func184 rfl rfl ?_;have:=C0f rs
 have:=B7h
 have:=B4y
 have:=A5a
 have:=D3.eq_1 rs
 have:=λi_ s_=>Q5.eq_1 i_ s_
 have:=λx_ Q_ σ_=> @lp_ Tryz.prog Tryz.f184.ntmps [] x_ Q_ σ_ hm (λ_=>True) (λi_=>((itr (Q5) i_ (H0 rs))).length=(((H0 rs):(List Row))).length) (H0 rs).length (λi_=> [(0, .cA, .sl 128 0 (itr (Q5) i_ (H0 rs)).length (itr (Q5) i_ (H0 rs)).length),(9, .cA,sI ((H0 rs).length:Int)),(10, .cA,sI (i_:Int))]) (λi_=> [(128, .arr 14 (B0 Row.enc dF_ (itr (Q5) i_ (H0 rs))))]) [] trivial (λi_ hI_=>U2 (λs:(List Row)=>(s).length) (λi s=>by unfold Q5;(repeat' split) <;> simp) i_ _) g_ g_ g_;exact K2
@[simp] theorem D6n(rs:List Row):(D3 rs).length=rs.length:=by unfold D3;rw[<-C0f rs];exact U2 (λs:List Row=>s.length) (λi s=>by unfold Q5;simp) _ _
def V2(rs:List Row)(i1:Nat)(s1:(List cG)):(List cG):=let v2:=(Q3 (rs.getD i1 dF_) s1 (rs.getD i1 dF_).fN);v2
def L1(rs:List Row)(bs:List cG):(List cG):=let v1:=(H3 bs);let s1:=itr (V2 rs) rs.length v1;s1
theorem C70(rs:List Row)(bs:List cG)(h0:bs.length<=1048576)(h1:rs.length<=1048576):cA_ 185 [A4 14 Row.enc dF_ rs,A4 5 cG.enc dF_ bs] [] (.sl 1 0 (L1 rs bs).length (L1 rs bs).length) [(1, .arr 5 (B0 cG.enc dF_ (L1 rs bs)))]:=by
 refine I6 hm A6 Tryz.func185 rfl rfl ?_;have:=C0e bs
 have:=B43
 have:=A5j
 have:=L1.eq_1 rs bs
 have:=λi_ s_=>V2.eq_1 rs i_ s_
 have:=λx_ Q_ σ_=> @lp_ Tryz.prog Tryz.f185.ntmps [] x_ Q_ σ_ hm (λ_=>True) (λi_=>((itr (V2 rs) i_ (H3 bs))).length=(((H3 bs):(List cG))).length) rs.length (λi_=> [(1, .cA, .sl 144 0 (itr (V2 rs) i_ (H3 bs)).length (itr (V2 rs) i_ (H3 bs)).length),(9, .cA,A4 14 Row.enc dF_ rs),(10, .cA,sI (rs.length:Int)),(11, .cA,sI (i_:Int))]) (λi_=> [(144, .arr 5 (B0 cG.enc dF_ (itr (V2 rs) i_ (H3 bs))))]) [] trivial (λi_ hI_=>U2 (λs:(List cG)=>(s).length) (λi s=>by unfold V2;(repeat' split) <;> simp) i_ _) g_ g_ g_;exact K2
@[simp] theorem D98(rs:List Row)(bs:List cG):(L1 rs bs).length=bs.length:=by unfold L1;rw[<-C0e bs];exact U2 (λs:List cG=>s.length) (λi s=>by unfold V2;simp) _ _
def M7(i1:Nat)(s1:(List Row)×(List cG)):(List Row)×(List cG):=let v3:=(P5 s1.1 (i1:Int) s1.2);(v3.1,v3.2)
def S9(rs:List Row)(bs:List cG):(List Row)×(List cG):=let v1:=(H0 rs);let v2:=(H3 bs);let s1:=itr (M7) v1.length (v1,v2);(s1.1,s1.2)
theorem D19(rs:List Row)(bs:List cG)(h0:bs.length<=1048576)(h1:rs.length<=1048576):cA_ 187 [A4 14 Row.enc dF_ rs,A4 5 cG.enc dF_ bs] [] (.tup [.sl 1 0 (S9 rs bs).1.length (S9 rs bs).1.length, .sl 2 0 (S9 rs bs).2.length (S9 rs bs).2.length]) [(1, .arr 14 (B0 Row.enc dF_ (S9 rs bs).1)),(2, .arr 5 (B0 cG.enc dF_ (S9 rs bs).2))]:=by
 refine A3a hm A6 Tryz.func187 rfl rfl ?_;have:=C0e bs
 have:=C0f rs
 have:=B7h
 have:=B43
 have:=C7c
 have:=S9.eq_1 rs bs
 have:=λi_ s_=>M7.eq_1 i_ s_
 have:=λx_ Q_ σ_=> @lp_ Tryz.prog Tryz.f187.ntmps [] x_ Q_ σ_ hm (λ_=>True) (λi_=>((itr (M7) i_ ((H0 rs),(H3 bs))).1).length=((((H0 rs),(H3 bs)):(List Row)×(List cG)).1).length/\((itr (M7) i_ ((H0 rs),(H3 bs))).2).length=((((H0 rs),(H3 bs)):(List Row)×(List cG)).2).length) (H0 rs).length (λi_=> [(0, .cA, .sl 144 0 (itr (M7) i_ ((H0 rs),(H3 bs))).1.length (itr (M7) i_ ((H0 rs),(H3 bs))).1.length),(1, .cA, .sl 176 0 (itr (M7) i_ ((H0 rs),(H3 bs))).2.length (itr (M7) i_ ((H0 rs),(H3 bs))).2.length),(12, .cA,sI ((H0 rs).length:Int)),(13, .cA,sI (i_:Int))]) (λi_=> [(144, .arr 14 (B0 Row.enc dF_ (itr (M7) i_ ((H0 rs),(H3 bs))).1)),(176, .arr 5 (B0 cG.enc dF_ (itr (M7) i_ ((H0 rs),(H3 bs))).2))]) [] trivial (λi_ hI_=>⟨U2 (λs:(List Row)×(List cG)=>(s.1).length) (λi s=>by unfold M7;(repeat' split) <;> simp) i_ _,U2 (λs:(List Row)×(List cG)=>(s.2).length) (λi s=>by unfold M7;(repeat' split) <;> simp) i_ _⟩) g_ g_ g_;exact K2
@[simp] theorem G0e(rs:List Row)(bs:List cG):(S9 rs bs).1.length=rs.length:=by unfold S9;rw[<-C0f rs];exact U2 (λs:List Row×List cG=>s.1.length) (λi s=>by unfold M7;simp) _ _
@[simp] theorem G0f(rs:List Row)(bs:List cG):(S9 rs bs).2.length=bs.length:=by unfold S9;rw[<-C0e bs];exact U2 (λs:List Row×List cG=>s.2.length) (λi s=>by unfold M7;simp) _ _
theorem E1v(x low high:Int)(h:low<=high):low<=Q9 x low high/\Q9 x low high<=high:=by
 unfold Q9
 (repeat' split) <;> simp only[zy,zk,qy]at* <;> omega
def M4(i1:Nat)(s1:(List Row)×(List cG)):(List Row)×(List cG):=let v4:=(S9 s1.1 s1.2);(v4.1,v4.2)
def A09(rs:List Row)(bs:List cG)(n:Int):(List Row)×(List cG):=let v1:=(D3 rs);let v2:=(L1 v1 bs);let v3:=(Q9 n 0 32);let s1:=itr (M4) v3.toNat (v1,v2);(s1.1,s1.2)
theorem D51(rs:List Row)(bs:List cG)(n:Int)(h0:bs.length<=1048576)(h1:rs.length<=1048576):cA_ 108 [A4 14 Row.enc dF_ rs,A4 5 cG.enc dF_ bs,sI n] [] (.tup [.sl 1 0 (A09 rs bs n).1.length (A09 rs bs n).1.length, .sl 2 0 (A09 rs bs n).2.length (A09 rs bs n).2.length]) [(1, .arr 14 (B0 Row.enc dF_ (A09 rs bs n).1)),(2, .arr 5 (B0 cG.enc dF_ (A09 rs bs n).2))]:=by
 refine A3a hm A6 Tryz.func108 rfl rfl ?_;have:=E1v n 0 32 (by decide)
 have:=D6n rs
 have:=D98 (D3 rs) bs
 have:=C1n
 have:=C70
 have:=A5a
 have:=D19
 have:=A09.eq_1 rs bs n
 have:=λi_ s_=>M4.eq_1 i_ s_
 have:=λx_ Q_ σ_=> @lp_ Tryz.prog Tryz.f108.ntmps [] x_ Q_ σ_ hm (λ_=>True) (λi_=>((itr (M4) i_ ((D3 rs),(L1 (D3 rs) bs))).1).length=((((D3 rs),(L1 (D3 rs) bs)):(List Row)×(List cG)).1).length/\((itr (M4) i_ ((D3 rs),(L1 (D3 rs) bs))).2).length=((((D3 rs),(L1 (D3 rs) bs)):(List Row)×(List cG)).2).length) (Q9 n 0 32).toNat (λi_=> [(0, .cA, .sl 160 0 (itr (M4) i_ ((D3 rs),(L1 (D3 rs) bs))).1.length (itr (M4) i_ ((D3 rs),(L1 (D3 rs) bs))).1.length),(1, .cA, .sl 208 0 (itr (M4) i_ ((D3 rs),(L1 (D3 rs) bs))).2.length (itr (M4) i_ ((D3 rs),(L1 (D3 rs) bs))).2.length),(14, .cA,sI (Q9 n 0 32)),(15, .cA,sI (i_:Int))]) (λi_=> [(160, .arr 14 (B0 Row.enc dF_ (itr (M4) i_ ((D3 rs),(L1 (D3 rs) bs))).1)),(208, .arr 5 (B0 cG.enc dF_ (itr (M4) i_ ((D3 rs),(L1 (D3 rs) bs))).2))]) [] trivial (λi_ hI_=>⟨U2 (λs:(List Row)×(List cG)=>(s.1).length) (λi s=>by unfold M4;(repeat' split) <;> simp) i_ _,U2 (λs:(List Row)×(List cG)=>(s.2).length) (λi s=>by unfold M4;(repeat' split) <;> simp) i_ _⟩) g_ g_ g_;exact K2
theorem D15(w:Api.World)(x:B3)(hw:Wsm w)(hx:Ism x):cA_ 178 [.agg w.enc, .agg x.enc] [] (A4 1 C8 0 (J7 w x)) []:=by
 have h:=C0s w x hw hx
 have hle:(J7 w x).length<=(A9e w x).length:=by have h1:=B97 (B52 (A9e w x));rw[C0h]at h1;exact h1
 generalize J7 w x=B at h hle⊢;generalize(A9e w x).length=n at h hle;obtain⟨k,rfl⟩: ∃k,n=B.length+k:=⟨n-B.length,o_⟩;rw[show B.length+k-B.length=k by omega]at h;have e:B.length+k=(B0 C8 0 (B++List.replicate k 0)).n:=by show _=(B++_:List Int).length;rw[zd,List.length_replicate]
 rw[e]at h;refine h.dataRes2.res_le (A7z _ _ ?_);show M9 (.dsl 1 B.length _) (.dsl 1 B.length _);rw[U6];refine⟨rfl,rfl,λi hi=> ?_⟩;show Z0 (C8 ((B++List.replicate k 0).getD i 0)) (C8 (B.getD i 0));have e2:(B++List.replicate k (0:Int)).getD i 0=B.getD i 0:=by simp only[List.getD,ql hi]
 rw[e2];exact I5 _
def pbC(w:Api.World)(x:B3)(nB:Nat)(S R A:AV):List AV:= [sI w.cM.dZ,sI w.cM.eD.X,sI w.cM.eD.Y,sI w.cM.eG,sI w.cM.eA,A4 20 cE.enc dF_ w.cC,A4 24 cF.enc dF_ w.cD,A4 7 cX.enc dF_ w.cB,A4 4 cR.enc dF_ w.cT,sI w.dK,sI w.eJ,A4 1 C8 0 x.cC,A4 1 C8 0 x.cB,A4 1 C8 0 x.cD, .sl 1 0 nB nB,A4 1 C8 0 (J7 w x),S,R,A]
def pbO(w:Api.World)(x:B3)(B:List cE)(S:List cG)(R:List Row)(A:List Int):List (Nat×A7):=[(6, .box (pbC w x B.length (.sl 3 0 S.length S.length) (.sl 4 0 R.length R.length) (.sl 5 0 A.length A.length))),(1, .arr 20 (B0 cE.enc dF_ B)),(3, .frz 5 (B0 cG.enc dF_ S)),(4, .arr 14 (B0 Row.enc dF_ R)),(5, .arr 1 (B0 C8 0 A))]
attribute [go_sem] pbC pbO
def pfO(w:Api.World)(x:B3)(B:List cE)(S:List cG)(R:List Row)(A:List Int)(id:Int):List (Nat×A7):=(48, .box [.ptr 6 0 0 1])::(64, .box [sI id])::pbO w x B S R A
attribute [go_sem] pfO
theorem A6l {w:Api.World}{x:B3}{B:List cE}{S:List cG}{R:List Row}{A:List Int}:okO (pbO w x B S R A):=by
 refine⟨by simp[pbO],λp hp cs e j hj=> ?_⟩;simp only[pbO,zo,zr,zU]at hp;rcases hp with rfl |rfl |rfl |rfl |rfl
 ·simp only[A7.box.injEq]at e;subst e;simp[pbC,F6,AV.ids,A4]at hj;rcases hj with rfl |rfl |rfl |rfl <;> rfl
 all_goals cases e
theorem D5h {w:Api.World}{x:B3}{B:List cE}{S:List cG}{R:List Row}{A:List Int}{id:Int}:okO (pfO w x B S R A id):=by
 refine⟨by simp[pfO,pbO],λp hp cs e j hj=> ?_⟩;simp only[pfO,pbO,zo,zr,zU]at hp;rcases hp with rfl |rfl |rfl |rfl |rfl |rfl |rfl
 ·simp only[A7.box.injEq]at e;subst e;simp[F6,AV.ids]at hj;subst hj;rfl
 ·simp only[A7.box.injEq]at e;subst e;simp[F6,AV.ids]at hj
 ·simp only[A7.box.injEq]at e;subst e;simp[pbC,F6,AV.ids,A4]at hj;rcases hj with rfl |rfl |rfl |rfl <;> rfl
 all_goals cases e
theorem E8t(w:Api.World)(x:B3)(B:List cE)(S:List cG)(R:List Row)(A:List Int)(id i:Int)(h0:0<=i)(h1:i<B.length):
  cA_ 191 [sI i, .ptr 48 0 0 1, .ptr 64 0 0 1] (pfO w x B S R A id) (sB ((B.getD i.toNat dF_).ID==id)) (pfO w x B S R A id):=by
 refine I6 hm A6 Tryz.func191 rfl rfl (st_ ?_);refine⟨bE_,?_⟩;refine B8 [.cA] [] [] (st_ ?_);exact eE_
def pfK(w:Api.World)(x:B3)(B:List cE)(id:Int):Int:=B1b (λi=>(B.getD i.toNat dF_).ID==id) (J7 w x)
def pfR(w:Api.World)(x:B3)(B:List cE)(id:Int):cE×Int:=if pfK w x B id<0 then(zB,-1)else(B.getD ((J7 w x).getD (pfK w x B id).toNat 0).toNat dF_,pfK w x B id)
theorem D49 {p:Int->Bool}{l:List Int}: -1<=B1b p l/\B1b p l<l.length:=by
 unfold B1b;split
 ·rename_i i h;have:=qD h;rw[xj]at this;omega
 ·omega
theorem B44(w:Api.World)(x:B3)(B:List cE)(S:List cG)(R:List Row)(A:List Int)(id:Int)(hb: ∀i∈J7 w x,0<=i/\i<B.length)(hl:(J7 w x).length<=1000000000):
  cA_ 111 [.ptr 6 0 0 1,sI id] (pbO w x B S R A) (.tup [.agg (pfR w x B id).1.enc,sI ((pfR w x B id).2)]) (pbO w x B S R A):=by
 have hF:=A7l (J7 w x) 191 [] [.ptr 48 0 0 1, .ptr 64 0 0 1] (pfO w x B S R A id) (λi=>(B.getD i.toNat dF_).ID==id) hl D5h
  (by intro j hj;simp[AV.ids,F6]at hj;rcases hj with rfl |rfl <;> rfl) (λi hi=>E8t w x B S R A id i (hb i hi).1 (hb i hi).2)
 have hr:=pfR.eq_1 w x B id
 have hk:=D49 (p:=λi=>(B.getD i.toNat dF_).ID==id) (l:=J7 w x);rw[show B1b (λi=>(B.getD i.toNat dF_).ID==id) (J7 w x)=pfK w x B id from rfl]at hF hk;generalize pfK w x B id=k at hF hr hk;refine C8j 30 [(4,some (some 20)),(5,none)] hm A6 Tryz.func111 rfl (st_ ?_);refine K6 hF D5h D5h (by simp[pfO,pbO]) (by simp[upd,go_sem,go_sem_proc]) (by simp[pfO,pbO]) ?_ rfl ?_
 ·intro a ha j hj;simp only[zo,zr,zU]at ha;rcases ha with rfl |rfl
  ·simp[AV.ids]at hj
  ·simp[AV.ids,F6]at hj;rcases hj with rfl |rfl <;> rfl
 refine st_ ?_;by_cases hn:k<0
 ·rw[zc hn]at hr⊢;rw[hr];refine B8 [.eP, .cA] [] [] ?_;simp only[go_sem,go_sem_proc,zB];exact eE_
 rw[zb hn]at hr⊢;rw[hr];have hbk:=hb _ (B6 (l:=J7 w x) (i:=k.toNat) 0 o_);refine⟨o_,o_,?_⟩;refine B8 [.cA, .cA] [] [] (st_ ?_);exact eE_
theorem B6s(w:Api.World)(x:B3)(B:List cE)(S:List cG)(R:List Row)(A:List Int)(l:List Row)(hR:R.length+l.length<=100000000)(hA:A.length<=100000000):
  cA_ 181 [.ptr 6 0 0 1,A4 14 Row.enc dF_ l] (pbO w x B S R A) (.tup []) (pbO w x B S (R++l) (A++ [(R.length:Int)])):=by
 refine A3a hm A6 Tryz.func181 rfl rfl (st_ ?_);refine⟨bE_,bE_,?_⟩;refine B8 [] [] [] (st_ ?_);exact eE_
def D8f(w:Api.World)(i:Nat)(idx:Int)(B:List cE):List cE:=B.set idx.toNat (X2 (B.getD idx.toNat dF_) w.cM)
def vB(w:Api.World)(x:B3)(n:Nat):List cE:=itr (λk B=>D8f w k (x.cC.getD k 0) B) n w.cC
theorem B4t(w:Api.World)(x:B3)(n:Nat):(vB w x n).length=w.cC.length:=U2 (λs:List cE=>s.length) (λi s=>by simp[D8f]) n _
theorem F5i(b:cE)(s:cM):(X2 b s).cH=b.cH/\(X2 b s).ID=b.ID/\(X2 b s).cS=b.cS:=by
 unfold X2;dsimp only
 (repeat' split) <;> exact⟨rfl,rfl,rfl⟩
theorem gsS {α:Type}{l:List α}{k:Nat}{v d:α}(h:k<l.length):(l.set k v).getD k d=v:=by simp only[List.getD,List.getElem?_set_self h,Option.getD_some]
theorem gsN {α:Type}{l:List α}{i k:Nat}{v d:α}(h:i≠k):(l.set i v).getD k d=l.getD k d:=by simp only[List.getD,List.getElem?_set_ne h]
theorem E1j(w:Api.World)(x:B3): ∀n k,((vB w x n).getD k dF_).cH=(w.cC.getD k dF_).cH/\((vB w x n).getD k dF_).ID=(w.cC.getD k dF_).ID/\((vB w x n).getD k dF_).cS=(w.cC.getD k dF_).cS
 |0,k=>⟨rfl,rfl,rfl⟩
 |n+1,k=>by
  have ih:=E1j w x n;rw[show vB w x (n+1)=D8f w n (x.cC.getD n 0) (vB w x n)from H7 ..];generalize vB w x n=B at ih⊢;unfold D8f;generalize(x.cC.getD n 0).toNat=q;by_cases h:q=k
  ·subst h;by_cases hl:q<B.length
   ·rw[gsS hl];have h1:=F5i (B.getD q dF_) w.cM
    have h2:=ih q;exact⟨h1.1.trans h2.1,h1.2.1.trans h2.2.1,h1.2.2.trans h2.2.2⟩
   ·rw[List.set_eq_of_length_le o_];exact ih q
  ·rw[gsN h];exact ih k
theorem D8e {w:Api.World}(hw:Wsm w)(x:B3)(n:Nat): ∀b∈vB w x n,cE.sm b:=by intro b hb;obtain⟨k,hk,rfl⟩:=qG hb;have h:=(E1j w x n k).1;rw[show(vB w x n).getD k dF_=(vB w x n)[k]by simp[List.getD,hk]]at h;rw[B4t]at hk;have h2:=hw.2.2.2.2.1 _ (B6 (l:=w.cC) dF_ hk);unfold cE.sm at h2⊢;rwa[h]
def vS(w:Api.World)(x:B3)(n:Nat):List cG:=((J7 w x).take n).map λi=>A1f ((vB w x x.cC.length).getD i.toNat dF_)
def fB(w:Api.World)(x:B3)(id:Int):cE×Int:=pfR w x (vB w x x.cC.length) id
def S0(w:Api.World)(x:B3):List cG:=vS w x (J7 w x).length
def C6m(w:Api.World)(x:B3)(k:Nat):List Row:=L5 (w.cD.getD (x.cD.getD k 0).toNat dF_) (fB w x (w.cD.getD (x.cD.getD k 0).toNat dF_).cU).1 (fB w x (w.cD.getD (x.cD.getD k 0).toNat dF_).cV).1 (fB w x (w.cD.getD (x.cD.getD k 0).toNat dF_).cU).2 (fB w x (w.cD.getD (x.cD.getD k 0).toNat dF_).cV).2 (S0 w x) w.cM.dZ
def A9p(l:List Row)(s:List Row×List Int):List Row×List Int:=(s.1++l,s.2++ [(s.1.length:Int)])
def jRA(w:Api.World)(x:B3)(n:Nat):List Row×List Int:=itr (λk s=>A9p (C6m w x k) s) n ([],[])
def D01(w:Api.World)(x:B3)(k:Nat)(base:Int):List Row:=A4t (w.cB.getD (x.cB.getD k 0).toNat dF_) (fB w x (w.cB.getD (x.cB.getD k 0).toNat dF_).dU.cU).1 (fB w x (w.cB.getD (x.cB.getD k 0).toNat dF_).dU.cV).1 (fB w x (w.cB.getD (x.cB.getD k 0).toNat dF_).dU.cU).2 (fB w x (w.cB.getD (x.cB.getD k 0).toNat dF_).dU.cV).2 base (S0 w x) w.cM.dZ
def cRA(w:Api.World)(x:B3)(n:Nat):List Row×List Int:=itr (λk s=>A9p (D01 w x k (s.1.length:Int)) s) n (jRA w x x.cD.length)
theorem D5a(w:Api.World)(x:B3): ∀n,(jRA w x n).1.length<=4*n/\(jRA w x n).2.length=n
 |0=>⟨ze _,rfl⟩
 |n+1=>by have ih:=D5a w x n;rw[show jRA w x (n+1)=A9p (C6m w x n) (jRA w x n)from H7 ..];have h:(C6m w x n).length<=4:=C32 ..;simp only[A9p,zd,List.length_singleton];omega
theorem D6h(c:cX)(a b:cE)(ia ib base:Int)(s:List cG)(dt:Int):(A4t c a b ia ib base s dt).length<=2*c.cL.cQ.length:=by
 unfold A4t;dsimp only;split
 ·exact zm _
 ·have: ∀n,(itr (S6 c ia ib base s dt (F0 a) (F0 b) (O7 (C9 a c.dU.dM).1 (C9 b c.dU.dJ).1) (N1 (C9 a c.dU.dM).1 (C9 b c.dU.dJ).1) (A1a c.cL.dG)) n []).length<=2*n:=by
   intro n;induction n with
   |zero=>exact ze _
   |succ n ih=>rw[H7];unfold S6 at ih⊢;dsimp only at ih⊢;rw[zd];simp only[List.length_cons,List.length_nil];omega
  exact this _
def pbG(w:Api.World)(x:B3)(B:List cE)(S:List cG)(R:List Row)(A:List Int)(o:A7):List (Nat×A7):=[(6, .box (pbC w x B.length (.sl 3 0 S.length S.length) (.sl 4 0 R.length R.length) (.sl 5 0 A.length A.length))),(1, .arr 20 (B0 cE.enc dF_ B)),(3,o),(4, .arr 14 (B0 Row.enc dF_ R)),(5, .arr 1 (B0 C8 0 A))]
attribute [go_sem] pbG
def pOk(w:Api.World)(x:B3):Prop:=B7 w=0/\T0 x.cC w.cC.length=true/\T0 x.cB w.cB.length=true/\T0 x.cD w.cD.length=true
theorem D7v(w:Api.World)(x:B3)(hw:Wsm w)(hx:Ism x)(h: ¬pOk w x):cA_ 107 [.agg w.enc, .agg x.enc] [] (.sc (.pointer none)) []:=by
 refine en1 hm A6 Tryz.func107 rfl rfl (st_ ?_);refine A0 (H8 w hw) rfl (st_ ?_);refine A0 (A39 x.cC w.cC.length hx.1) rfl (st_ ?_);refine A0 (A39 x.cB w.cB.length hx.2.1) rfl (st_ ?_);refine A0 (A39 x.cD w.cD.length hx.2.2) rfl (st_ ?_);unfold pOk at h;rw[zc]
 ·trivial
 ·cases h2:T0 x.cC w.cC.length <;> cases h3:T0 x.cB w.cB.length <;> cases h4:T0 x.cD w.cD.length <;> simp[h2,h3,h4]at h⊢;exact h
theorem B8f {l:List Int}{n:Int}(h:T0 l n=true): ∀i∈l,0<=i/\i<n:=by
 have key: ∀k,k<=l.length-> ∃s,I8 (M8 l n) k (-1)= .inl s/\ -1<=s/\ ∀j,j<k->0<=l.getD j 0/\l.getD j 0<n:=by
  intro k;induction k with
  |zero=>intro _;exact⟨-1,rfl,o_,λj hj=>by omega⟩
  |succ k ih=>
   intro hk;obtain⟨s,h1,h2,h3⟩:=ih o_;have hs:I8 (M8 l n) (k+1) (-1)=M8 l n k s:=A0f h1 rfl;unfold M8 at hs;split at hs
   ·exfalso;have h4:=A4w hs (show k+1<=l.length by omega);unfold T0 at h;rw[show I8 (M8 l n) l.length (-1)= .inr false from h4]at h;cases h
   ·rename_i hc;simp only[zy,zk,qy,Int.not_le]at hc;refine⟨_,hs,o_,λj hj=> ?_⟩;rcases zF.1 hj with hj |rfl
    ·exact h3 j hj
    ·omega
 intro i hi;obtain⟨k,hk,rfl⟩:=qG hi;obtain⟨_,_,_,h3⟩:=key l.length (ze _);have:=h3 k hk;rwa[show l.getD k 0=l[k]by simp[List.getD,hk]]at this
theorem D4z(w:Api.World)(x:B3): ∀i∈J7 w x,0<=i/\i<(w.cC.length:Int):=λi hi=>D4x w x i (D00.1 hi)
theorem F5g(w:Api.World)(x:B3){n:Nat}(h:n<(J7 w x).length):vS w x (n+1)=vS w x n++ [A1f ((vB w x x.cC.length).getD ((J7 w x).getD n 0).toNat dF_)]:=by unfold vS;rw[K9 0 h,qN];rfl
theorem E85(w:Api.World)(x:B3)(n:Nat)(h:n<=(J7 w x).length):(vS w x n).length=n:=by unfold vS;rw[z7,zt];omega
theorem C8b(w:Api.World)(x:B3)(hP: ∀c∈w.cB,c.cL.cQ.length<=2)(hC: ∀i∈x.cB,0<=i/\i<(w.cB.length:Int)): ∀n,n<=x.cB.length->(cRA w x n).1.length<=4*x.cD.length+4*n/\(cRA w x n).2.length=x.cD.length+n
 |0,_=>by have:=D5a w x x.cD.length;exact⟨this.1,this.2⟩
 |n+1,h=>by
  have ih:=C8b w x hP hC n o_;rw[show cRA w x (n+1)=A9p (D01 w x n ((cRA w x n).1.length:Int)) (cRA w x n)from H7 ..];generalize cRA w x n=s at ih⊢;have h1:=hC _ (B6 (l:=x.cB) (i:=n) 0 o_)
  have h2:=hP _ (B6 (l:=w.cB) (i:=(x.cB.getD n 0).toNat) dF_ o_)
  have h3:(D01 w x n (s.1.length:Int)).length<=2*(w.cB.getD (x.cB.getD n 0).toNat dF_).cL.cQ.length:=D6h ..;simp only[A9p,zd,List.length_singleton];omega
end Go.Abs
end
