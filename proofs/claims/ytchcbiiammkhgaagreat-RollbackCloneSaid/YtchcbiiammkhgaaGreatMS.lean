/- A part of the proof: contracts of functions that the statement reaches. -/
import Derived.Test.YtchcbiiammkhgaaGreatMR
set_option linter.unusedSimpArgs false
set_option linter.unusedVariables false
set_option linter.unnecessarySimpa false
set_option maxRecDepth 100000
set_option maxHeartbeats 2000000
noncomputable section
namespace Go.Abs
open Go.Proofs
open Api
def V8(p:Nat->Option Nat)(q:Nat):Nat->List Int
 |0=> []
 |k+1=>if p k=some q then V8 p q k++ [(k:Int)]else V8 p q k
theorem B2m(p:Nat->Option Nat)(q:Nat): ∀k,(V8 p q k).length<=k
 |0=>ze _
 |k+1=>by have:=B2m p q k;unfold V8;split <;> simp <;> omega
theorem D6q {p:Nat->Option Nat}{q:Nat}: ∀ {k},(∀j,j<k->p j≠some q)->V8 p q k= []
 |0,_=>rfl
 |k+1,h=>by unfold V8;rw[zb (h k o_),D6q λj hj=>h j o_]
theorem C8x {p:Nat->Option Nat}{q k:Nat}(h:p k≠some q):V8 p q k=V8 p q (k+1):=by rw[V8.eq_2,zb h]
theorem E0a {p:Nat->Option Nat}{q k:Nat}(h:p k=some q):V8 p q (k+1)=V8 p q k++ [(k:Int)]:=by rw[V8.eq_2,zc h]
def A96(m:Nat)(B C J:Nat->List Int):Sq:=⟨m,λq=> [.own 1 (B q).length (I9 C8 0 (B q)), .own 1 (C q).length (I9 C8 0 (C q)), .own 1 (J q).length (I9 C8 0 (J q))]⟩
theorem E7u(m:Nat)(B C J:Nat->List Int):(A96 m B C J).n=m:=rfl
theorem A78(m:Nat)(B C J:Nat->List Int)(q:Nat):(A96 m B C J).g q= [.own 1 (B q).length (I9 C8 0 (B q)), .own 1 (C q).length (I9 C8 0 (C q)), .own 1 (J q).length (I9 C8 0 (J q))]:=rfl
attribute [go_sem] E7u A78
theorem F0m(m:Nat)(B C J:Nat->List Int)(t:Sq):((A96 m B C J).app t).g m=t.g 0:=by simp[Sq.app,A96]
theorem Sq.app_n(s t:Sq):(s.app t).n=s.n+t.n:=rfl
def isR(w:Api.World)(g:List Int)(j:Nat):Bool:=kd w j&&(g.getD j 0==(j:Int))
def nb(w:Api.World)(g:List Int):Nat->Nat
 |0=>0
 |i+1=>if isR w g i=true then nb w g i+1 else nb w g i
def nmB(w:Api.World)(g:List Int):Nat->List (Int×Int)
 |0=> []
 |i+1=>if isR w g i=true then C5y (nmB w g i) (i:Int) (nb w g i:Int)else nmB w g i
def pB(w:Api.World)(g:List Int)(j:Nat):Option Nat:=if kd w j=true then some (nb w g (N9 g (j:Int)).toNat)else none
def pC(w:Api.World)(g:List Int)(k:Nat):Option Nat:=(C3n w g (w.cB.getD k dF_).dU.cU (w.cB.getD k dF_).dU.cV).map λr=>nb w g r.toNat
def pJ(w:Api.World)(g:List Int)(k:Nat):Option Nat:=(C3n w g (w.cD.getD k dF_).cU (w.cD.getD k dF_).cV).map λr=>nb w g r.toNat
theorem E30(w:Api.World)(g:List Int){i:Nat}: ∀ {j:Nat},i<=j->nb w g i<=nb w g j
 |0,h=>by obtain rfl:i=0:=o_
          exact ze _
 |j+1,h=>by
  rcases qq i (j+1)with h1 |h1
  ·have:=E30 w g (show i<=j by omega)
   show _<=if isR w g j=true then nb w g j+1 else nb w g j;split <;> omega
  ·obtain rfl:i=j+1:=o_
   exact ze _
theorem D8a(w:Api.World)(g:List Int): ∀j:Nat,nb w g j<=j
 |0=>ze _
 |j+1=>by have:=D8a w g j;show(if isR w g j=true then nb w g j+1 else nb w g j)<=_;split <;> omega
theorem E32 {w:Api.World}{g:List Int}{i:Nat}(h:isR w g i=true):nb w g (i+1)=nb w g i+1:=by show(if isR w g i=true then nb w g i+1 else nb w g i)=_;rw[zc h]
theorem D8b {w:Api.World}{g:List Int}{i j:Nat}(h:isR w g i=true)(hj:i<j):nb w g i<nb w g j:=by have:=E30 w g (show i+1<=j by omega);rw[E32 h]at this;omega
theorem C17 {w:Api.World}{g:List Int}{r:Nat}(hr:isR w g r=true): ∀ {i:Nat},r<i->B14 (nmB w g i) (r:Int)=nb w g r
 |i+1,h=>by
  show B14 (if isR w g i=true then C5y (nmB w g i) (i:Int) (nb w g i:Int)else nmB w g i) (r:Int)=_;rcases qq r i with h1 |h1
  ·split
   ·rw[B7p,zb o_,C17 hr h1]
   ·exact C17 hr h1
  ·obtain rfl:r=i:=o_
   rw[zc hr,B7p,zc rfl]
theorem C31 {w:Api.World}{g:List Int}(hg:UF g)(hd:DG w g){i:Int}(h0:0<=i)(h1:i<(g.length:Int))(hk:kd w i.toNat=true):isR w g (N9 g i).toNat=true:=by obtain⟨a,b,c⟩:=A9c hg h0 h1;unfold isR;rw[C30 hg hd _ _ (ze _) h0 h1 hk,c];simp;omega
theorem E31 {w:Api.World}{g:List Int}{i:Nat}(h:isR w g i=false):nb w g (i+1)=nb w g i:=by show(if isR w g i=true then nb w g i+1 else nb w g i)=_;rw[zb (by rw[h];simp)]
theorem B1n {ρ:Nat->Nat}{s:Sq}{m:Nat}{B C J:Nat->List Int}(hn:s.n=m)(h: ∀q,q<m->C1x (s.g q) ((A96 m B C J).g q)):A31 ρ (.arrP 3 s) (.arrP 3 (A96 m B C J)):=⟨rfl,hn,λi hi=>h i o_⟩
theorem A8s {n:Nat}{g:Nat->List AV}:B7q (.own 1 n g) (.own 1 n g):=⟨rfl,rfl,λ_ _=>I5 _⟩
theorem B1r {B B' C C' J J':List Int}(b:B=B')(c:C=C')(j:J=J'):C1x [.own 1 B.length (I9 C8 0 B), .own 1 C.length (I9 C8 0 C), .own 1 J.length (I9 C8 0 J)] [.own 1 B'.length (I9 C8 0 B'), .own 1 C'.length (I9 C8 0 C'), .own 1 J'.length (I9 C8 0 J')]:=by subst b c j;exact⟨A8s,A8s,A8s,trivial⟩
theorem D5m(a:Int){l:List Int}:B7q (.own 1 ((B0 C8 0 l).app ⟨1,λi=>List.take 1 (List.drop (i*1) [AV.sc (.int .i64 a)])⟩).n ((B0 C8 0 l).app ⟨1,λi=>List.take 1 (List.drop (i*1) [AV.sc (.int .i64 a)])⟩).g) (.own 1 (l++ [a]).length (I9 C8 0 (l++ [a]))):=by have h:A31 id (.arr 1 ((B0 C8 0 l).app ⟨1,λi=>List.take 1 (List.drop (i*1) [AV.sc (.int .i64 a)])⟩)) (.arr 1 (B0 C8 0 (l++ [a]))):=A0q a rfl rfl;obtain⟨_,h1,h2⟩:=h;exact⟨rfl,h1,h2⟩
theorem Sq.set_same {s:Sq}{k:Nat}{c:List AV}:(s.set k c).g k=c:=by simp[Sq.set]
theorem Sq.set_ne {s:Sq}{k q:Nat}{c:List AV}(h:q≠k):(s.set k c).g q=s.g q:=by simp[Sq.set,h]
theorem E11 {m q:Nat}{B C J:Nat->List Int}{t:Sq}(h:q<m):((A96 m B C J).app t).g q=(A96 m B C J).g q:=by simp[Sq.app,A96,h]
theorem E7t {w:Api.World}{g:List Int}(hg:UF g)(hgl:g.length=w.cC.length)(hd:DG w g){a b r:Int}(h:C3n w g a b=some r): ∃k:Nat,r=(k:Int)/\k<g.length/\isR w g k=true:=by
 have key: ∀x,A93 w x=true-> ∃k:Nat,N9 g (H5 w x)=(k:Int)/\k<g.length/\isR w g k=true:=λx hx=>by obtain⟨d0,d1⟩:=B2z hx;obtain⟨ra,rb,rc⟩:=A9c hg d0 o_;have hR:=C31 hg hd d0 o_ (D44 hx);exact⟨(N9 g (H5 w x)).toNat,(Int.toNat_of_nonneg ra).symm,o_,hR⟩
 unfold C3n at h;split at h
 ·rename_i hx;injection h with h;subst h;exact key a hx
 ·split at h
  ·rename_i hx;injection h with h;subst h;exact key b hx
  ·cases h
def F7f(w:Api.World)(i:Nat):Sq:=A96 (nb w (H6 w) i) (λq=>V8 (pB w (H6 w)) q i) (λ_=> []) (λ_=> [])
attribute [go_sem] F7f
def F6m(w:Api.World)(i:Nat):List (Nat×A7):= [(32, .box w.enc),(384, .map .i64 (nmE (nmB w (H6 w) i))),(1, .arrP 3 (F7f w i))]
attribute [go_sem] F6m
def F6n(w:Api.World)(k:Nat):List (Nat×A7):= [(32, .box w.enc),(384, .map .i64 (nmE (nmB w (H6 w) w.cC.length))),(1, .arrP 3 (A96 (nb w (H6 w) w.cC.length) (λq=>V8 (pB w (H6 w)) q w.cC.length) (λq=>V8 (pC w (H6 w)) q k) (λ_=> [])))]
attribute [go_sem] F6n
def F6o(w:Api.World)(k:Nat):List (Nat×A7):= [(32, .box w.enc),(384, .map .i64 (nmE (nmB w (H6 w) w.cC.length))),(1, .arrP 3 (A96 (nb w (H6 w) w.cC.length) (λq=>V8 (pB w (H6 w)) q w.cC.length) (λq=>V8 (pC w (H6 w)) q w.cB.length) (λq=>V8 (pJ w (H6 w)) q k)))]
attribute [go_sem] F6o
theorem D7n(w:Api.World)(hw:Wsm w)(hv:B7 w=0):cA_ 98 [.agg w.enc] [] (.sl 1 0 (nb w (H6 w) w.cC.length) (nb w (H6 w) w.cC.length))
  [(1, .arrP 3 (A96 (nb w (H6 w) w.cC.length) (λq=>V8 (pB w (H6 w)) q w.cC.length) (λq=>V8 (pC w (H6 w)) q w.cB.length) (λq=>V8 (pJ w (H6 w)) q w.cD.length)))]:=by
 have hw':=hw;obtain⟨w1,w2,w3,w4,w5,w6⟩:=hw;obtain⟨hg,hgl⟩:=E3h w;have hgd:=F3e w;refine I6 hm A6 Tryz.func98 rfl rfl ?_;simp only[go_sem,C7,D6,C0,D1];refine A0 (H8 w hw') rfl ?_;simp only[go_sem,C7,D6,C0,D1,hv];rw[zb p_];refine A0 (E8s w hw') rfl ?_;simp only[go_sem,C7,D6,C0,D1];refine B1 hm (ι:= {i:Nat // i<=w.cC.length}) (λi=> [(1, .cA, .ptr 32 0 0 1),(3, .cA,A4 1 C8 0 (H6 w)),(4, .cA, .mp 384),(5,if i.1=0 then .fA else .cA, .sl 1 0 (nb w (H6 w) i.1) (nb w (H6 w) i.1)),(25, .cA,A4 20 cE.enc dF_ w.cC),(26, .cA,sI w.cC.length),(27, .cA,sI i.1)])
  (λi=>F6m w i.1) (λi=>w.cC.length-i.1) ⟨0,o_⟩ ?_ ?_
 ·refine D8 [] [1] ?_;have n0:nb w (H6 w) 0=0:=rfl;simp only[go_sem,C7,D6,C0,D1,n0]
  first |rfl |exact⟨p_,rfl⟩
 ·rintro⟨i,hi⟩;have hnb:=D8a w (H6 w) i;simp only[go_sem,C7,D6,C0,D1];by_cases hlt:(i:Int)<w.cC.length
  ·rw[zc hlt];have hlt:i<w.cC.length:=o_
   refine⟨ok_,?_⟩;by_cases hk:(w.cC.getD i dF_).cS=3
   ·rw[zb (by rw[hk];simp)];refine A0 (D0d (H6 w) i hg o_ o_) rfl ?_;simp only[go_sem,C7,D6,C0,D1];have z0:B6w (.int .i64 0)=sI 0:=rfl;by_cases hr:N9 (H6 w) i=i
    ·rw[zc (by simpa using hr)];refine⟨ok_,?_⟩;simp only[E0c,C3t,z0,hr,B7p];simp only[go_sem,C7,D6,C0,D1,F0m,Sq.app_n];have hR:isR w (H6 w) i=true:=by
      have:=C31 hg hgd (i:=(i:Int)) o_ o_ (by unfold kd;rw[Int.toNat_natCast,hk];rfl);rw[hr]at this;simpa using this
     have hn1:=E32 hR;refine⟨⟨o_,o_⟩,o_,by decide,⟨o_,o_⟩,o_,?_⟩;refine A8 ⟨i+1,o_⟩ (by show w.cC.length-(i+1)<w.cC.length-i;omega) (D8 [] [] ?_);simp only[go_sem,C7,D6,C0,D1];have hp:pB w (H6 w) i=some (nb w (H6 w) i):=by unfold pB kd;rw[hk,hr];rfl
     have hz:V8 (pB w (H6 w)) (nb w (H6 w) i) i= []:=D6q λj hj hh=>by
      unfold pB at hh;split at hh
      ·rename_i hkj;obtain⟨ra,rb,rc⟩:=A9c hg (i:=(j:Int)) o_ o_;have hR2:isR w (H6 w) (N9 (H6 w) j).toNat=true:=C31 hg hgd (i:=(j:Int)) o_ o_ (by rw[Int.toNat_natCast];exact hkj)
       have:=D8b hR2 (j:=i) o_;injection hh with hh;omega
      ·cases hh
     refine⟨hn1.symm,wo_,?_,B1n hn1.symm λq hq=> ?_⟩
     ·show A7.map _ _=A7.map _ _;show _=A7.map _ (nmE (if isR w (H6 w) i=true then _ else _));rw[zc hR]
     ·by_cases hqm:q=nb w (H6 w) i
      ·subst hqm;simp only[Sq.set_same,A78];have:V8 (pB w (H6 w)) (nb w (H6 w) i) (i+1)= [(i:Int)]:=by unfold V8;rw[zc hp,hz];rfl
       rw[this];exact⟨⟨rfl,rfl,λk hk=>by obtain rfl:k=0:=o_
                                         exact I5 _⟩,⟨rfl,rfl⟩,⟨rfl,rfl⟩,trivial⟩
      ·simp only[Sq.set_ne hqm,A78];rw[E11 o_,A78];have:V8 (pB w (H6 w)) q (i+1)=V8 (pB w (H6 w)) q i:=by rw[V8,zb];rw[hp];intro e;injection e with e;exact hqm e.symm
       rw[this];exact B1r rfl rfl rfl
    ·rw[zb (by simpa using hr)];obtain⟨ra,rb,rc⟩:=A9c hg (i:=(i:Int)) o_ o_;have hR:isR w (H6 w) (N9 (H6 w) i).toNat=true:=C31 hg hgd (i:=(i:Int)) o_ o_ (by unfold kd;rw[Int.toNat_natCast,hk];rfl);obtain⟨r,hrr⟩: ∃r:Nat,N9 (H6 w) i=r:=⟨_,(Int.toNat_of_nonneg ra).symm⟩;rw[hrr]at hr rb hR;rw[Int.toNat_natCast]at hR;have hlook:=C17 hR (i:=i) o_
     have hlt2:=D8b hR (j:=i) o_
     have hml:=B2m (pB w (H6 w)) (nb w (H6 w) r) i;simp only[C3t,z0,hrr,hlook];simp only[go_sem,C7,D6,C0,D1];refine⟨⟨o_,o_⟩,o_,ok_,o_,(by first |exact⟨o_,rfl⟩ |omega),?_⟩;refine A8 ⟨i+1,o_⟩ (by show w.cC.length-(i+1)<w.cC.length-i;omega) (D8 [] [] ?_);simp only[go_sem,C7,D6,C0,D1];have hp:pB w (H6 w) i=some (nb w (H6 w) r):=by unfold pB kd;rw[hk,hrr];rfl
     have hR0:isR w (H6 w) i=false:=by
      cases h:isR w (H6 w) i with
      |false=>rfl
      |true=>unfold isR at h;rw[zi,qc]at h;have:=B83 (g:=H6 w) (i:=(i:Int)) (by rw[Int.toNat_natCast];exact h.2);rw[hrr]at this;exact absurd this hr
     have hn0:=E31 hR0;refine⟨hn0.symm,wo_,?_,B1n hn0.symm λq hq=> ?_⟩
     ·show A7.map _ _=A7.map _ _;show _=A7.map _ (nmE (if isR w (H6 w) i=true then _ else _));rw[zb (by rw[hR0];simp)]
     ·by_cases hqm:q=nb w (H6 w) r
      ·subst hqm;simp only[Sq.set_same,A78,List.tail_cons];have:V8 (pB w (H6 w)) (nb w (H6 w) r) (i+1)=V8 (pB w (H6 w)) (nb w (H6 w) r) i++ [(i:Int)]:=by rw[V8,zc hp]
       rw[this];exact⟨D5m i,A8s,A8s,trivial⟩
      ·simp only[Sq.set_ne hqm,A78];have:V8 (pB w (H6 w)) q (i+1)=V8 (pB w (H6 w)) q i:=by rw[V8,zb];rw[hp];intro e;injection e with e;exact hqm e.symm
       rw[this];exact B1r rfl rfl rfl
   ·rw[zc (by simpa using hk)];refine A8 ⟨i+1,o_⟩ (by show w.cC.length-(i+1)<w.cC.length-i;omega) (D8 [] [] ?_);simp only[go_sem,C7,D6,C0,D1];have hk':kd w i=false:=by unfold kd;simpa using hk
    have hp:pB w (H6 w) i=none:=by unfold pB;rw[hk'];rfl
    have hR0:isR w (H6 w) i=false:=by unfold isR;rw[hk'];rfl
    have hn0:=E31 hR0;refine⟨hn0.symm,wo_,?_,B1n hn0.symm λq hq=> ?_⟩
    ·show A7.map _ _=A7.map _ _;show _=A7.map _ (nmE (if isR w (H6 w) i=true then _ else _));rw[zb (by rw[hR0];simp)]
    ·simp only[A78];have:V8 (pB w (H6 w)) q (i+1)=V8 (pB w (H6 w)) q i:=by rw[V8,zb];rw[hp];simp
     rw[this];exact B1r rfl rfl rfl
  ·rw[zb hlt];obtain rfl:i=w.cC.length:=o_
   have hnb2:=D8a w (H6 w) w.cC.length;refine B1 hm (ι:= {k:Nat // k<=w.cB.length}) (λk=> [(1, .cA, .ptr 32 0 0 1),(3, .cA,A4 1 C8 0 (H6 w)),(4, .cA, .mp 384),(5, .cA, .sl 1 0 (nb w (H6 w) w.cC.length) (nb w (H6 w) w.cC.length)),(66, .cA,A4 7 cX.enc dF_ w.cB),(67, .cA,sI w.cB.length),(68, .cA,sI k.1)])
    (λk=>F6n w k.1) (λk=>w.cB.length-k.1) ⟨0,o_⟩ ?_ ?_
   ·refine D8 [] [] ?_;simp only[go_sem,C7,D6,C0,D1];exact⟨rfl,B1n rfl λq hq=>B1r rfl rfl rfl⟩
   ·rintro⟨k,hk⟩;simp only[go_sem,C7,D6,C0,D1];by_cases hlt:(k:Int)<w.cB.length
    ·rw[zc hlt];have hlt:k<w.cB.length:=o_
     refine⟨ok_,?_⟩;refine P8 (D3x w (H6 w) (nmB w (H6 w) w.cC.length) (w.cB.getD k dF_).dU.cU (w.cB.getD k dF_).dU.cV hg hgl w1) (by refine⟨p_,?_⟩;simp) rfl g_ g_ rfl ?_;simp only[go_sem,C7,D6,C0,D1];cases hi2:C3n w (H6 w) (w.cB.getD k dF_).dU.cU (w.cB.getD k dF_).dU.cV with
     |none=>
      have e:B3x w (H6 w) (nmB w (H6 w) w.cC.length) (w.cB.getD k dF_).dU.cU (w.cB.getD k dF_).dU.cV=(0,false):=by unfold B3x;rw[hi2]
      have hp:pC w (H6 w) k=none:=by unfold pC;rw[hi2];rfl
      simp only[e];rw[zb p_];refine A8 ⟨k+1,o_⟩ (by show w.cB.length-(k+1)<w.cB.length-k;omega) (D8 [] [] ?_);simp only[go_sem,C7,D6,C0,D1];refine⟨wo_,rfl,B1n rfl λq hq=>B1r rfl ?_ rfl⟩;exact C8x (by rw[hp];simp)
     |some r=>
      obtain⟨r,rfl,hrl,hR⟩:=E7t hg hgl hgd hi2;have hlook:=C17 hR (i:=w.cC.length) o_
      have hlt2:=D8b hR (j:=w.cC.length) o_
      have e:B3x w (H6 w) (nmB w (H6 w) w.cC.length) (w.cB.getD k dF_).dU.cU (w.cB.getD k dF_).dU.cV=((nb w (H6 w) r:Int),true):=by unfold B3x;rw[hi2];simp only[hlook]
      have hp:pC w (H6 w) k=some (nb w (H6 w) r):=by unfold pC;rw[hi2];rfl
      have hml:=B2m (pC w (H6 w)) (nb w (H6 w) r) k;simp only[e];rw[zc trivial];simp only[go_sem,C7,D6,C0,D1];refine⟨⟨o_,o_⟩,o_,ok_,o_,(by first |exact⟨o_,rfl⟩ |omega),?_⟩;refine A8 ⟨k+1,o_⟩ (by show w.cB.length-(k+1)<w.cB.length-k;omega) (D8 [] [] ?_);simp only[go_sem,C7,D6,C0,D1];refine⟨wo_,rfl,B1n rfl λq hq=> ?_⟩;by_cases hqm:q=nb w (H6 w) r
      ·subst hqm;simp only[Sq.set_same,A78,List.tail_cons];rw[E0a hp];exact⟨A8s,D5m k,A8s,trivial⟩
      ·simp only[Sq.set_ne hqm,A78];refine B1r rfl ?_ rfl;exact C8x (by rw[hp];intro e;injection e with e;exact hqm e.symm)
    ·rw[zb hlt];obtain rfl:k=w.cB.length:=o_
     refine B1 hm (ι:= {k:Nat // k<=w.cD.length}) (λk=> [(1, .cA, .ptr 32 0 0 1),(3, .cA,A4 1 C8 0 (H6 w)),(4, .cA, .mp 384),(5, .cA, .sl 1 0 (nb w (H6 w) w.cC.length) (nb w (H6 w) w.cC.length)),(101, .cA,A4 24 cF.enc dF_ w.cD),(102, .cA,sI w.cD.length),(103, .cA,sI k.1)])
      (λk=>F6o w k.1) (λk=>w.cD.length-k.1) ⟨0,o_⟩ ?_ ?_
     ·refine D8 [] [] ?_;simp only[go_sem,C7,D6,C0,D1];exact⟨rfl,B1n rfl λq hq=>B1r rfl rfl rfl⟩
     ·rintro⟨k,hk⟩;simp only[go_sem,C7,D6,C0,D1];by_cases hlt:(k:Int)<w.cD.length
      ·rw[zc hlt];have hlt:k<w.cD.length:=o_
       refine⟨ok_,?_⟩;refine P8 (D3x w (H6 w) (nmB w (H6 w) w.cC.length) (w.cD.getD k dF_).cU (w.cD.getD k dF_).cV hg hgl w1) (by refine⟨p_,?_⟩;simp) rfl g_ g_ rfl ?_;simp only[go_sem,C7,D6,C0,D1];cases hi2:C3n w (H6 w) (w.cD.getD k dF_).cU (w.cD.getD k dF_).cV with
       |none=>
        have e:B3x w (H6 w) (nmB w (H6 w) w.cC.length) (w.cD.getD k dF_).cU (w.cD.getD k dF_).cV=(0,false):=by unfold B3x;rw[hi2]
        have hp:pJ w (H6 w) k=none:=by unfold pJ;rw[hi2];rfl
        simp only[e];rw[zb p_];refine A8 ⟨k+1,o_⟩ (by show w.cD.length-(k+1)<w.cD.length-k;omega) (D8 [] [] ?_);simp only[go_sem,C7,D6,C0,D1];refine⟨wo_,rfl,B1n rfl λq hq=>B1r rfl rfl ?_⟩;exact C8x (by rw[hp];simp)
       |some r=>
        obtain⟨r,rfl,hrl,hR⟩:=E7t hg hgl hgd hi2;have hlook:=C17 hR (i:=w.cC.length) o_
        have hlt2:=D8b hR (j:=w.cC.length) o_
        have e:B3x w (H6 w) (nmB w (H6 w) w.cC.length) (w.cD.getD k dF_).cU (w.cD.getD k dF_).cV=((nb w (H6 w) r:Int),true):=by unfold B3x;rw[hi2];simp only[hlook]
        have hp:pJ w (H6 w) k=some (nb w (H6 w) r):=by unfold pJ;rw[hi2];rfl
        have hml:=B2m (pJ w (H6 w)) (nb w (H6 w) r) k;simp only[e];rw[zc trivial];simp only[go_sem,C7,D6,C0,D1];refine⟨⟨o_,o_⟩,o_,ok_,o_,(by first |exact⟨o_,rfl⟩ |omega),?_⟩;refine A8 ⟨k+1,o_⟩ (by show w.cD.length-(k+1)<w.cD.length-k;omega) (D8 [] [] ?_);simp only[go_sem,C7,D6,C0,D1];refine⟨wo_,rfl,B1n rfl λq hq=> ?_⟩;by_cases hqm:q=nb w (H6 w) r
        ·subst hqm;simp only[Sq.set_same,A78,List.tail_cons];rw[E0a hp];exact⟨A8s,A8s,D5m k,trivial⟩
        ·simp only[Sq.set_ne hqm,A78];refine B1r rfl rfl ?_;exact C8x (by rw[hp];intro e;injection e with e;exact hqm e.symm)
      ·rw[zb hlt];obtain rfl:k=w.cD.length:=o_
       refine B8 [.cA] [] [] ?_;simp only[go_sem,C7,D6,C0,D1];exact B1n rfl λq hq=>B1r rfl rfl rfl
def D7(w:Api.World):List B3:=if B7 w=0 then(List.range (nb w (H6 w) w.cC.length)).map λq=>⟨V8 (pB w (H6 w)) q w.cC.length,V8 (pC w (H6 w)) q w.cB.length,V8 (pJ w (H6 w)) q w.cD.length⟩else []
theorem E4b(w:Api.World)(hw:Wsm w):cA_ 98 [.agg w.enc] [] (A4 3 B3.enc dF_ (D7 w)) []:=by
 by_cases hv:B7 w=0
 ·have h:=D7n w hw hv
  generalize hB:(λq=>V8 (pB w (H6 w)) q w.cC.length)=B at h;generalize hC:(λq=>V8 (pC w (H6 w)) q w.cB.length)=C at h;generalize hJ:(λq=>V8 (pJ w (H6 w)) q w.cD.length)=J at h;generalize hm:nb w (H6 w) w.cC.length=m at h;have hl:D7 w=(List.range m).map λq=>⟨B q,C q,J q⟩:=by unfold D7;rw[zc hv,hm,<-hB,<-hC,<-hJ]
  have h2:=D5.settle (O2:= [(1, .arr 3 ⟨m,λk=>((A96 m B C J).g k).map B79⟩)]) h (id:=1) (z:=3) (s:=A96 m B C J) (by rw[C6z];simp) (λk j _=>by
   rw[A78]
   match j with
   |0=>simp
   |1=>simp
   |2=>simp
   |j+3=>simp) (by
   rw[C6z,C6z];funext x;by_cases hx:x=1
   ·subst hx;simp[E7u]
   ·rw[J0 hx,J0 hx,J0 hx])
  have h3:=D5.dataRes (s:=⟨m,λk=>((A96 m B C J).g k).map B79⟩) h2;refine h3.res_le (A7z _ _ ?_);rw[hl];refine⟨rfl,p_,λi hi=> ?_⟩;have hi:i<m:=hi
  have:I9 B3.enc dF_ ((List.range m).map λq=>(⟨B q,C q,J q⟩:B3)) i=((A96 m B C J).g i).map B79:=by rw[B20];simp[List.getD,hi,B3.enc,A78,B79,A4]
  rw[this];exact I5 _
 ·have hl:D7 w= []:=by unfold D7;rw[zb hv]
  rw[hl];refine en1 hm A6 Tryz.func98 rfl rfl ?_;simp only[go_sem,C7,D6,C0,D1];refine A0 (H8 w hw) rfl ?_;simp only[go_sem,C7,D6,C0,D1];rw[zc (by simpa using hv)]
  first |exact⟨rfl,rfl⟩ |simp[M9]
def A2o(a b:List cE):Prop:=a.length=b.length/\ ∀k:Nat,(a.getD k dF_).cH=(b.getD k dF_).cH
theorem A2o.refl(a:List cE):A2o a a:=⟨rfl,λ_=>rfl⟩
theorem A2o.trans {a b c:List cE}(h:A2o a b)(h2:A2o b c):A2o a c:=⟨h.1.trans h2.1,λk=>(h.2 k).trans (h2.2 k)⟩
theorem C4m {g:cE->cE}(hg: ∀b,(g b).cH=b.cH)(l:List cE):A2o (l.map g) l:=by
 refine⟨z7 ..,λk=> ?_⟩;by_cases h:k<l.length
 ·have e:(l.map g).getD k dF_=g (l.getD k dF_):=by
   simp only[List.getD,qA,zg h,Option.map_some,Option.getD_some]
  rw[e,hg]
 ·simp only[List.getD];rw[qi (by rw[z7];omega),qi o_]
theorem C4n {l:List cE}{k:Nat}{v:cE}(h:v.cH=(l.getD k dF_).cH):A2o (l.set k v) l:=by
 refine⟨zM ..,λi=> ?_⟩;by_cases hk:k=i
 ·subst hk;by_cases hl:k<l.length
  ·rw[gsS hl];exact h
  ·rw[List.set_eq_of_length_le o_]
 ·rw[show(l.set k v).getD i dF_=l.getD i dF_ by simp only[List.getD,List.getElem?_set_ne hk]]
theorem F1l(bs as_:List cE)(js:List cF):A2o (stB bs as_ js as_.length) as_:=by
 refine⟨D53 ..,λk=> ?_⟩;by_cases h:k<as_.length
 ·have e:(stB bs as_ js as_.length).getD k dF_=(stR bs as_ js k).1:=by
   unfold stB;simp only[List.getD,qA,List.getElem?_range h,Option.map_some,Option.getD_some]
  rw[e];unfold stR;split <;> rfl
 ·simp only[List.getD];rw[qi (by rw[D53];omega),qi o_]
theorem C4l {f:List cE×List (Int×Int)->Int->List cE×List (Int×Int)}(hf: ∀s i,A2o (f s i).1 s.1): ∀(l:List Int) (s),A2o (l.foldl f s).1 s.1
 | [],s=>A2o.refl _
 |i::l,s=>(C4l hf l (f s i)).trans (hf s i)
theorem E8v(w:Api.World)(x:B3):A2o (B4s w x).1 w.cC:=by
 have hu: ∀l:List Int,A2o (upF w l) w.cC:=λl=>by
  unfold upF;generalize hB:w.cC=B;clear hB;induction l generalizing B with
  |nil=>exact A2o.refl _
  |cons i l ih=>exact(ih _).trans (C4n rfl)
 unfold B4s;split
 ·split
  ·exact(C4l (λs i=>by unfold B4p;exact C4n rfl) _ _).trans (hu _)
  ·exact hu _
 ·exact A2o.refl _
theorem F1m(w:Api.World)(x:B3):A2o (wkR w x).1 w.cC:=by
 unfold wkR;split
 ·unfold wkF;refine C4l (λs i=> ?_) _ _;unfold B0j;split
  ·exact C4n rfl
  ·exact A2o.refl _
 ·exact A2o.refl _
theorem A2o.mem {a b:List cE}(h:A2o a b){x:cE}(hx:x∈a): ∃y∈b,x.cH=y.cH:=by obtain⟨k,hk,rfl⟩:=qG hx;have h2:=h.2 k;refine⟨b.getD k dF_,B6 dF_ (by rw[<-h.1];exact hk),?_⟩;rw[<-h2];simp[List.getD,hk]
theorem B7o {w:Api.World}{bs:List cE}(hw:Wsm w)(h:A2o bs w.cC):Wsm (V6 w bs):=by obtain⟨h1,h2,h3,h4,h5,h6⟩:=hw;refine⟨by show bs.length<=_;rw[h.1];exact h1,h2,h3,h4,λb hb=> ?_,h6⟩;obtain⟨y,hy,e⟩:=h.mem hb;have:=h5 y hy;unfold cE.sm at this⊢;rwa[e]
theorem B91 {w:Api.World}{bs:List cE}(hw:Wfw w)(h:A2o bs w.cC):Wfw (V6 w bs):=by refine⟨by show bs.length<=_;rw[h.1];exact hw.1,λb hb=> ?_⟩;obtain⟨y,hy,e⟩:=h.mem hb;rw[e];exact hw.2 y hy
theorem F40(b:cE)(dt:Int):(A0w b dt).cH=b.cH:=by unfold A0w;split <;> rfl
def eW1(x:B3)(s:Api.World×List Api.Event):Api.World×List Api.Event:=(V6 s.1 (B4s s.1 x).1,s.2++(B4s s.1 x).2.map evP)
def B32(w:Api.World):List cE:=w.cC.map λb=>A0w b w.cM.dZ
def eW0(w:Api.World):Api.World×List Api.Event:=(V6 w (stB w.cC (B32 w) w.cD (B32 w).length),B1h w.cC (B32 w) w.cD (B32 w).length)
def eWn(w:Api.World)(n:Nat):Api.World×List Api.Event:=itr (λk s=>eW1 ((D7 w).getD k dF_) s) n (eW0 w)
def eW2(w:Api.World):Api.World:=(λa:Api.World=>V6 a (a.cC.map J3)) (bkW (eWn w (D7 w).length).1)
def E5k(w:Api.World):Api.World:= {eW2 w with cT:=ovL (eW2 w),eJ:=min (IntKind.i64.wrap ((eW2 w).eJ+1)) 1099511627776}
def D9r(w:Api.World):List Api.Event:= [(eWn w (D7 w).length).2,bkL (eWn w (D7 w).length).1 (eWn w (D7 w).length).1.cD,C4o w.cT (ovL (eW2 w))].flatten
theorem C6a(w:Api.World)(x:B3):(B4s w x).2.length<=x.cC.length:=by
 have h:=C3m x.cC w.cC.length;unfold B4s;split
 ·split
  ·have:=(E4f (upF w (A1l w x)) (A1l w x)).2
   unfold A1l at this⊢;omega
  ·exact zm _
 ·exact zm _
theorem B3k(w:Api.World):(D7 w).length<=w.cC.length:=by
 unfold D7;split
 ·rw[z7,List.length_range];exact D8a ..
 ·exact zm _
theorem B58 {w:Api.World}(hw:Wsm w): ∀x∈D7 w,Ism x/\x.cC.length<=w.cC.length:=by
 intro x hx;unfold D7 at hx;split at hx
 ·obtain⟨q,_,rfl⟩:=qL.1 hx;have h1:=B2m (pB w (H6 w)) q w.cC.length
  have h2:=B2m (pC w (H6 w)) q w.cB.length
  have h3:=B2m (pJ w (H6 w)) q w.cD.length;obtain⟨g1,g2,g3,_⟩:=hw;exact⟨⟨by show(V8 _ _ _).length<=_;omega,by show(V8 _ _ _).length<=_;omega,by show(V8 _ _ _).length<=_;omega⟩,h1⟩
 ·cases hx
theorem D08(w:Api.World)(n:Nat):eWn w (n+1)=eW1 ((D7 w).getD n dF_) (eWn w n):=H7 ..
theorem C75(w:Api.World):A2o (B32 w) w.cC:=C4m (λb=>F40 b _) _
theorem B76(w:Api.World): ∀n,A2o (eWn w n).1.cC w.cC/\(eWn w n).1=V6 w (eWn w n).1.cC
 |0=>⟨(F1l _ _ _).trans (C75 w),rfl⟩
 |n+1=>by
  obtain⟨h1,h2⟩:=B76 w n;rw[D08];generalize eWn w n=s at h1 h2⊢;refine⟨(E8v _ _).trans h1,?_⟩;have key: ∀B,V6 s.1 B=V6 w B:=λB=>by rw[h2];rfl
  exact key _
theorem C8i {w:Api.World}(hw:Wsm w)(hf:Wfw w): ∀n,n<=(D7 w).length->(eWn w n).2.length<=60+60*n
 |0,_=>by
  have h:=E1e w.cC (B32 w) w.cD (B32 w).length
  have h2:=(C75 w).1
  have h3:=hf.1;show(B1h _ _ _ _).length<=_;omega
 |n+1,hn=>by
  have ih:=C8i hw hf n o_;rw[D08];have hx:=B58 hw _ (B6 (l:=D7 w) (i:=n) dF_ o_)
  have h3:=hf.1
  have h4:=C6a (eWn w n).1 ((D7 w).getD n dF_);show((eWn w n).2++List.map evP _).length<=_;rw[zd,z7];omega
theorem D71(w:Api.World)(b:cE)(hb:cE.sm b):cA_ 115 [.agg b.enc, .dE w.enc] [] (.agg (A0w b w.cM.dZ).enc) []:=by refine M3 9 [(3,some (some 20))] hm A6 Tryz.func115 rfl (st_ ?_);refine A0 (C35 b w.cM.dZ hb.2) rfl ?_;simp only[go_sem,go_sem_proc]
theorem F8v(b:cE):cA_ 120 [.agg b.enc] [] (.agg (J3 b).enc) []:=B9n b
def D0j(w:Api.World):Slots:= [(1, .cA, .dE w.enc),(2, .cA, .ptr 48 0 0 1),(5, .cA, .ptr 96 0 0 1)]
attribute [go_sem] D0j
theorem E2s(w:Api.World)(hw:Wsm w)(hf:Wfw w)(hv:B7 w=0):cA_ 58 [.agg w.enc] [] (.tup [.agg (E5k w).enc,A4 5 Api.Event.enc dF_ (D9r w)]) []:=by
 have hV:=H8 w hw;rw[hv]at hV;have hbl:=B3k w
 have hbs:= @B58 w hw
 have hp:=C75 w
 have hpw:Wsm (V6 w (B32 w)):=B7o hw hp;obtain⟨hw1,hw2,hw3,hw4,hw5,hw6⟩:=id hw;refine D2z 78 [(2,some (some 11)),(3,none)] hm A6 Tryz.func58 rfl ?_;refine B2 [(1, .eP, .dE w.enc),(2, .cA, .ptr 48 0 0 1)] [(48, .box World.zero)] (B9 hm ?_) ?_
 ·refine st_ ?_;refine A9 [] [] (st_ ?_);exact eE_
 refine B2 [(1, .cA, .dE w.enc),(2, .cA, .ptr 48 0 0 1)] [(48, .box World.zero)] (B9 hm ?_) ?_
 ·refine st_ ?_;refine A0 hV rfl (st_ ?_);refine A9 [] [] ?_;simp only[go_sem,go_sem_proc]
 refine B2 [(1, .cA, .dE w.enc),(2, .cA, .ptr 48 0 0 1),(4, .cA,A4 3 B3.enc dF_ (D7 w))] [(48, .box World.zero)] (B9 hm ?_) ?_
 ·refine st_ ?_;refine A0 (E4b w hw) rfl (st_ ?_);refine A9 [] [] ?_;simp only[go_sem,go_sem_proc]
 refine B2 (D0j w++ [(4, .cA,A4 3 B3.enc dF_ (D7 w))]) [(48, .box World.zero),(96, .box (V6 w (B32 w)).enc)] (B9 hm ?_) ?_
 ·refine st_ ?_;refine A0 (D0e w hw 115 [.dE w.enc] (λb=>A0w b w.cM.dZ) rfl (λ_=>rfl) (λb hb=>D71 w b (hw5 b hb))) rfl (st_ ?_);refine A9 [] [] ?_;simp only[go_sem,go_sem_proc,B32]
 refine B2 (D0j w++ [(7, .cA, .sl 7 0 (eW0 w).2.length (eW0 w).2.length),(4, .cA,A4 3 B3.enc dF_ (D7 w)),(6, .cA,A4 20 cE.enc dF_ (stB w.cC (B32 w) w.cD (B32 w).length))]) [(48, .box World.zero),(96, .box (V6 w (B32 w)).enc),(7, .arr 5 (B0 Api.Event.enc dF_ (eW0 w).2))] (B9 hm ?_) ?_
 ·refine st_ ?_;refine J5 ev_ K1 (D7r w.cC (B32 w) w.cD hp.1.symm (by rw[hp.1];exact hw1) hw5 hpw.2.2.2.2.1 hw2) ?_;simp only[go_sem,go_sem_proc,eW0];refine A9 [(7,496)] [] ?_;simp only[go_sem,go_sem_proc]
 refine B2 (D0j w++ [(7, .cA, .sl 7 0 (eW0 w).2.length (eW0 w).2.length),(4, .cA,A4 3 B3.enc dF_ (D7 w))]) [(48, .box World.zero),(96, .box (eW0 w).1.enc),(7, .arr 5 (B0 Api.Event.enc dF_ (eW0 w).2))] (B9 hm ?_) ?_
 ·simp only[go_sem,go_sem_proc,eW0];refine A9 [] [] ?_;simp only[go_sem,go_sem_proc]
 refine B2 (D0j w++ [(7, .cA, .sl 7 0 (eWn w (D7 w).length).2.length (eWn w (D7 w).length).2.length)]) [(48, .box World.zero),(96, .box (eWn w (D7 w).length).1.enc),(7, .arr 5 (B0 Api.Event.enc dF_ (eWn w (D7 w).length).2))] (B2 (D0j w++ [(7, .cA, .sl 7 0 (eWn w 0).2.length (eWn w 0).2.length),(35, .cA,A4 3 B3.enc dF_ (D7 w)),(36, .cA,sI ((D7 w).length)),(37, .cA,sI (0:Nat))]) [(48, .box World.zero),(96, .box (eWn w 0).1.enc),(7, .arr 5 (B0 Api.Event.enc dF_ (eWn w 0).2))] (B9 hm ?_) (V0 ?_)) ?_
 ·rw[show eWn w 0=eW0 w from rfl];generalize eW0 w=s;refine st_ ?_;refine A9 [] [] ?_;simp only[go_sem,go_sem_proc]
 ·refine B1 hm (ι:= {k:Nat // k<=(D7 w).length}) (λk=>(D0j w++ [(7, .cA, .sl 7 0 (eWn w k.1).2.length (eWn w k.1).2.length),(35, .cA,A4 3 B3.enc dF_ (D7 w)),(36, .cA,sI ((D7 w).length)),(37, .cA,sI (k.1:Nat))])) (λk=> [(48, .box World.zero),(96, .box (eWn w k.1).1.enc),(7, .arr 5 (B0 Api.Event.enc dF_ (eWn w k.1).2))]) (λk=>(D7 w).length-k.1) ⟨0,zm _⟩ ?_ ?_
  ·refine A9 [] [] ?_;simp only[go_sem,go_sem_proc]
  ·rintro⟨k,hk⟩;dsimp only;have hn:=D08 w k
   have hl:=C8i hw hf k hk;obtain⟨hi1,hi2⟩:=B76 w k;have hfin:(D7 w).length<=k->eWn w k=eWn w (D7 w).length:=λh=>by rw[show k=(D7 w).length by omega]
   generalize eWn w k=s at hn hl hi1 hi2 hfin⊢;by_cases hlt:k<(D7 w).length;rotate_left
   ·refine st_ ?_;rw[zb o_,<-hfin o_];refine A9 [] [] ?_;simp only[go_sem,go_sem_proc]
   have hx:=hbs _ (B6 (l:=D7 w) (i:=k) dF_ hlt)
   have hsw:Wsm s.1:=by rw[hi2];exact B7o hw hi1
   have hux:=C6a s.1 ((D7 w).getD k dF_)
   have hf1:=hf.1;refine st_ ?_;rw[zc o_];generalize(D7 w).getD k dF_=x at hn hx hux⊢;refine⟨bE_,?_⟩;refine A0 (D37 s.1 x hsw hx.1) rfl ?_;simp only[go_sem,go_sem_proc,eW1]at hn⊢;have he:(List.map evP (B4s s.1 x).2).length<=60:=by rw[z7];omega
   generalize List.map evP (B4s s.1 x).2=E at hn he⊢;refine⟨bE_,?_⟩;refine A8 ⟨k+1,o_⟩ (by show(D7 w).length-(k+1)<(D7 w).length-k;omega) ?_;simp only[hn];refine A9 [] [] (st_ ?_);exact eE_
 have hE:=D9r.eq_1 w
 have hW:=E5k.eq_1 w;unfold eW2 at hE hW;have hl:=C8i hw hf (D7 w).length (ze _);obtain⟨hi1,hi2⟩:=B76 w (D7 w).length;generalize eWn w (D7 w).length=s at hE hW hl hi1 hi2⊢;have hsw:Wsm s.1:=by rw[hi2];exact B7o hw hi1
 have hsf:Wfw s.1:=by rw[hi2];exact B91 hf hi1
 have hjn:s.1.cD=w.cD:=by rw[hi2];rfl
 have hbk:Wsm (bkW s.1)/\Wfw (bkW s.1):=by obtain⟨g1,g2,g3,g4,g5,g6⟩:=hsw;exact⟨⟨g1,qd (qM ..) g2,g3,g4,g5,g6⟩,hsf⟩
 have hbe:=D4w (w:=s.1) (l:=s.1.cD)
 have hj2:s.1.cD.length<=1048576:=by rw[hjn];exact hw2
 have hB:=C72 s.1 hsw;generalize bkW s.1=V at hE hW hbk hB;generalize bkL s.1 s.1.cD=E1 at hE hbe hB;dsimp only at hE hW;have hcf:A2o (V.cC.map J3) V.cC:=C4m (g:=J3) (λ_=>rfl) _
 have hU:Wsm (V6 V (V.cC.map J3)):=B7o hbk.1 hcf
 have hUf:Wfw (V6 V (V.cC.map J3)):=B91 hbk.2 hcf
 have hC:=D0e V hbk.1 120 [] J3 rfl (λ_=>rfl) (λb _=>F8v b);generalize V6 V (V.cC.map J3)=U at hE hW hU hUf hC;have hO:=C9m U hU hUf
 have hov:=D5l U hUf
 have hS:=D36 w.cT (ovL U) hw4 o_
 have hsl:(C4o w.cT (ovL U)).length<=(ovL U).length+w.cT.length:=by
  have l1:=B75 (ovL U) (λk=>w.cT.contains k) 3
  have l2:=B75 w.cT (λk=>(ovL U).contains k) 4;unfold C4o;rw[zd];omega
 generalize ovL U=L at hE hW hO hov hS hsl;generalize C4o w.cT L=E2 at hE hS hsl;have hf1:=hf.1
 have hK:=C2m [s.2,E1,E2] (by simp;omega) p_;rw[<-hE]at hK;refine B9 hm (st_ ?_);refine A0 hB rfl (st_ ?_);refine A0 hC rfl (st_ ?_);refine A0 hO rfl (st_ ?_);refine A0 hS rfl (st_ ?_);refine O6 hK ?_;simp only[S2,go_sem,go_sem_proc];rw[hW];refine⟨H1 (λ_ _=>rfl) (by simp[C8l,A4]) rfl rfl,?_⟩;dsimp only
 (with_reducible and_intros) <;> first |with_reducible rfl |exact D0 _ |(rw[Int.min_def];split <;> split <;> omega)
theorem E49(b:cE)(x:Api.Input):(X1 b x).cH=b.cH:=by
 unfold X1 A53 A2k W8 A9y;dsimp only
 (repeat' split) <;> rfl
theorem A6o {α:Type}{z n n':Nat}{enc:α->List AV}{d:α}{l:List α}{i:Nat}{c:List AV}(a:α)(hi:i<l.length)(hc:c=enc a)(hn:n=l.length)(hn':n'=(l.set i a).length):M9 (.dsl z n ((B0 enc d l).set i c).g) (.dsl z n' (I9 enc d (l.set i a))):=by subst hn;subst hn';rw[zM];exact A3o hi c hc
def B1c(j:cF)(x:Api.Input):cF:=
 if x.cS=7 then⟨j.ID,j.cS,j.cU,j.cV,x.cI,j.dL,j.eN,j.cW,j.dD,j.dQ,j.dS,j.dF,j.dN,j.dR,j.dB,j.dH,j.cZ,j.cP⟩
 else⟨j.ID,j.cS,j.cU,j.cV,j.dP,j.dL,j.eN,j.cW,j.dD,j.dQ,j.dS,j.dF,x.Value,j.dR,j.dB,j.dH,j.cZ,j.cP⟩
def E4v(w:Api.World)(x:Api.Input)(r:Api.World×Int):Prop:=0<=H5 w x.ID->A2d (w.cC.getD (H5 w x.ID).toNat dF_) x=0->r=(A7d ⟨w.cM,w.cC.set (H5 w x.ID).toNat (X1 (w.cC.getD (H5 w x.ID).toNat dF_) x),w.cD,w.cB,w.cT,w.dK,w.eJ⟩ x.ID,0)
theorem C5f(w:Api.World)(x:Api.Input)(hw:Wsm w): ∃r:Api.World×Int,Wsm r.1/\E4v w x r/\cA_ 175 [.agg w.enc, .agg x.enc] [] (.tup [.agg r.1.enc,sI r.2]) []:=by
 have hl:=hw.1
 have hlt:=A3e w x.ID;by_cases h1:H5 w x.ID<0
 ·refine⟨(zW,8),A3k,(λh=>by omega),?_⟩;refine S3 44 [(4,some (some 11)),(5,none)] hm A6 Tryz.func175 rfl (st_ ?_);refine A0 (T1 w x.ID hl) rfl (st_ ?_);rw[zc h1]
  (with_reducible and_intros) <;> first |with_reducible rfl |rfl |exact D0 _ |exact G5 rfl |exact A0l _ rfl rfl rfl rfl |exact A3o (by assumption) _ rfl |exact A6o _ (by assumption) rfl rfl rfl |exact A2q (λ_=>rfl) |omega |(unfold maxLen;omega)
 obtain⟨i,hi⟩: ∃i:Nat,H5 w x.ID=i:=⟨(H5 w x.ID).toNat,o_⟩;have hil:i<w.cC.length:=o_
 have hf:=T1 w x.ID hl;rw[hi]at hf;by_cases h2:A2d (w.cC.getD i dF_) x=0
 ·have hbs:cE.sm (w.cC.getD i dF_):=hw.2.2.2.2.1 _ (B6 dF_ hil)
  have hcs:cE.sm (X1 (w.cC.getD i dF_) x):=by unfold cE.sm;rw[E49];exact hbs
  have hw2:Wsm ⟨w.cM,w.cC.set i (X1 (w.cC.getD i dF_) x),w.cD,w.cB,w.cT,w.dK,w.eJ⟩:=F5m hw i _ hcs;refine⟨(A7d ⟨w.cM,w.cC.set i (X1 (w.cC.getD i dF_) x),w.cD,w.cB,w.cT,w.dK,w.eJ⟩ x.ID,0),B3c _ _ hw2,(λ_ _=>by rw[hi];rfl),?_⟩;refine S3 44 [(4,some (some 11)),(5,none)] hm A6 Tryz.func175 rfl (st_ ?_);refine A0 hf rfl (st_ ?_);rw[zb o_];refine⟨bE_,?_⟩;refine A0 (B7f (w.cC.getD i dF_) x) rfl (st_ ?_);rw[zb (by rw[h2];simp)];refine J5 ev_ K1 (U5 w hw) (st_ ?_);refine⟨bE_,?_⟩;refine A0 (D3w (w.cC.getD i dF_) x hbs) rfl (st_ ?_);refine⟨bE_,?_⟩;refine O6 (A4a ⟨w.cM,w.cC.set i (X1 (w.cC.getD i dF_) x),w.cD,w.cB,w.cT,w.dK,w.eJ⟩ x.ID hw2) ?_;simp only[S2,go_sem,go_sem_proc]
  (with_reducible and_intros) <;> first |with_reducible rfl |rfl |exact D0 _ |exact G5 rfl |exact A0l _ rfl rfl rfl rfl |exact A3o (by assumption) _ rfl |exact A6o _ (by assumption) rfl rfl rfl |exact A2q (λ_=>rfl) |omega |(unfold maxLen;omega)
 ·refine⟨(zW,A2d (w.cC.getD i dF_) x),A3k,(λ_ h=>absurd (by rw[hi]at h;exact h) h2),?_⟩;refine S3 44 [(4,some (some 11)),(5,none)] hm A6 Tryz.func175 rfl (st_ ?_);refine A0 hf rfl (st_ ?_);rw[zb o_];refine⟨bE_,?_⟩;refine A0 (B7f (w.cC.getD i dF_) x) rfl (st_ ?_);rw[zc (by simpa using h2)]
  (with_reducible and_intros) <;> first |with_reducible rfl |rfl |exact D0 _ |exact G5 rfl |exact A0l _ rfl rfl rfl rfl |exact A3o (by assumption) _ rfl |exact A6o _ (by assumption) rfl rfl rfl |exact A2q (λ_=>rfl) |omega |(unfold maxLen;omega)
theorem E7x {j:cF}{x:Api.Input}(h:x.cS=7):B1c j x=⟨j.ID,j.cS,j.cU,j.cV,x.cI,j.dL,j.eN,j.cW,j.dD,j.dQ,j.dS,j.dF,j.dN,j.dR,j.dB,j.dH,j.cZ,j.cP⟩:=zc h
theorem E7y {j:cF}{x:Api.Input}(h: ¬x.cS=7):B1c j x=⟨j.ID,j.cS,j.cU,j.cV,j.dP,j.dL,j.eN,j.cW,j.dD,j.dQ,j.dS,j.dF,x.Value,j.dR,j.dB,j.dH,j.cZ,j.cP⟩:=zb h
theorem B4b(w:Api.World)(x:Api.Input)(hw:Wsm w): ∃r:Api.World×Int,Wsm r.1/\cA_ 174 [.agg w.enc, .agg x.enc] [] (.tup [.agg r.1.enc,sI r.2]) []:=by
 have hl:=hw.2.1
 have hlt: -1<=B3u w x.ID/\B3u w x.ID<w.cD.length:=C8t;by_cases h1:B3u w x.ID<0
 ·refine⟨(zW,8),A3k,?_⟩;refine S3 56 [(4,some (some 11)),(5,none)] hm A6 Tryz.func174 rfl (st_ ?_);refine A0 (A7v w x.ID hl) rfl (st_ ?_);rw[zc h1]
  (with_reducible and_intros) <;> first |with_reducible rfl |rfl |exact D0 _ |exact G5 rfl |exact A0l _ rfl rfl rfl rfl |exact A3o (by assumption) _ rfl |exact A6o _ (by assumption) rfl rfl rfl |exact A2q (λ_=>rfl) |omega |(unfold maxLen;omega)
 obtain⟨i,hi⟩: ∃i:Nat,B3u w x.ID=i:=⟨(B3u w x.ID).toNat,o_⟩;have hil:i<w.cD.length:=o_
 have hf:=A7v w x.ID hl;rw[hi]at hf;by_cases h3:x.cS=7
 ·
  by_cases h4:(w.cD.getD i dF_).cS≠5
  ·
   refine⟨(zW,10),A3k,?_⟩;refine S3 56 [(4,some (some 11)),(5,none)] hm A6 Tryz.func174 rfl (st_ ?_);refine A0 hf rfl (st_ ?_);rw[zb o_];refine⟨bE_,?_⟩;rw[zc (by rw[h3];rfl)];rw[zc (by simpa[List.getD]using h4)]
   (with_reducible and_intros) <;> first |with_reducible rfl |rfl |exact D0 _ |exact G5 rfl |exact A0l _ rfl rfl rfl rfl |exact A3o (by assumption) _ rfl |exact A6o _ (by assumption) rfl rfl rfl |exact A2q (λ_=>rfl) |omega |(unfold maxLen;omega)
  by_cases h5:A1v (B1c (w.cD.getD i dF_) x)≠0
  ·
   refine⟨(zW,6),A3k,?_⟩;refine S3 56 [(4,some (some 11)),(5,none)] hm A6 Tryz.func174 rfl (st_ ?_);refine A0 hf rfl (st_ ?_);rw[zb o_];refine⟨bE_,?_⟩;rw[zc (by rw[h3];rfl)];rw[zb (by simpa[List.getD]using h4)];have hv:=A2n (B1c (w.cD.getD i dF_) x)
   have hj:=E7x (j:=w.cD.getD i dF_) h3;generalize hjv:B1c (w.cD.getD i dF_) x=jv at*;subst hj;refine A0 hv rfl (st_ ?_);rw[zc (by simpa using h5)]
   (with_reducible and_intros) <;> first |with_reducible rfl |rfl |exact D0 _ |exact G5 rfl |exact A0l _ rfl rfl rfl rfl |exact A3o (by assumption) _ rfl |exact A6o _ (by assumption) rfl rfl rfl |exact A2q (λ_=>rfl) |omega |(unfold maxLen;omega)
  ·
   have hw2:Wsm ⟨w.cM,w.cC,w.cD.set i (B1c (w.cD.getD i dF_) x),w.cB,w.cT,w.dK,w.eJ⟩:=D8i hw _ _ _ (by rw[zM];exact hl);refine⟨(A7d (A7d ⟨w.cM,w.cC,w.cD.set i (B1c (w.cD.getD i dF_) x),w.cB,w.cT,w.dK,w.eJ⟩ (w.cD.getD i dF_).cU) (w.cD.getD i dF_).cV,0),B3c _ _ (B3c _ _ hw2),?_⟩;refine S3 56 [(4,some (some 11)),(5,none)] hm A6 Tryz.func174 rfl (st_ ?_);refine A0 hf rfl (st_ ?_);rw[zb o_];refine⟨bE_,?_⟩;rw[zc (by rw[h3];rfl)];rw[zb (by simpa[List.getD]using h4)];have hv:=A2n (B1c (w.cD.getD i dF_) x)
   have hj:=E7x (j:=w.cD.getD i dF_) h3;generalize hjv:B1c (w.cD.getD i dF_) x=jv at*;subst hj;refine A0 hv rfl (st_ ?_);rw[zb (by simpa using h5)];refine J5 ev_ K1 (U5 w hw) (st_ ?_);refine⟨bE_,?_⟩;refine O6 (A4a ⟨w.cM,w.cC,w.cD.set i ⟨(w.cD.getD i dF_).ID,(w.cD.getD i dF_).cS,(w.cD.getD i dF_).cU,(w.cD.getD i dF_).cV,x.cI,(w.cD.getD i dF_).dL,(w.cD.getD i dF_).eN,(w.cD.getD i dF_).cW,(w.cD.getD i dF_).dD,(w.cD.getD i dF_).dQ,(w.cD.getD i dF_).dS,(w.cD.getD i dF_).dF,(w.cD.getD i dF_).dN,(w.cD.getD i dF_).dR,(w.cD.getD i dF_).dB,(w.cD.getD i dF_).dH,(w.cD.getD i dF_).cZ,(w.cD.getD i dF_).cP⟩,w.cB,w.cT,w.dK,w.eJ⟩ (w.cD.getD i dF_).cU hw2) ?_;simp only[S2,go_sem,go_sem_proc];refine⟨A3o hil _ rfl,?_⟩;refine A0 (A4a (A7d ⟨w.cM,w.cC,w.cD.set i ⟨(w.cD.getD i dF_).ID,(w.cD.getD i dF_).cS,(w.cD.getD i dF_).cU,(w.cD.getD i dF_).cV,x.cI,(w.cD.getD i dF_).dL,(w.cD.getD i dF_).eN,(w.cD.getD i dF_).cW,(w.cD.getD i dF_).dD,(w.cD.getD i dF_).dQ,(w.cD.getD i dF_).dS,(w.cD.getD i dF_).dF,(w.cD.getD i dF_).dN,(w.cD.getD i dF_).dR,(w.cD.getD i dF_).dB,(w.cD.getD i dF_).dH,(w.cD.getD i dF_).cZ,(w.cD.getD i dF_).cP⟩,w.cB,w.cT,w.dK,w.eJ⟩ (w.cD.getD i dF_).cU) (w.cD.getD i dF_).cV (B3c _ _ hw2)) rfl ?_;simp only[go_sem,go_sem_proc]
 ·
  by_cases h4: ¬(w.cD.getD i dF_).dF=true
  ·
   refine⟨(zW,10),A3k,?_⟩;refine S3 56 [(4,some (some 11)),(5,none)] hm A6 Tryz.func174 rfl (st_ ?_);refine A0 hf rfl (st_ ?_);rw[zb o_];refine⟨bE_,?_⟩;rw[zb (by simpa using h3)];rw[zc (by simpa[List.getD]using h4)]
   (with_reducible and_intros) <;> first |with_reducible rfl |rfl |exact D0 _ |exact G5 rfl |exact A0l _ rfl rfl rfl rfl |exact A3o (by assumption) _ rfl |exact A6o _ (by assumption) rfl rfl rfl |exact A2q (λ_=>rfl) |omega |(unfold maxLen;omega)
  by_cases h5:A1v (B1c (w.cD.getD i dF_) x)≠0
  ·
   refine⟨(zW,6),A3k,?_⟩;refine S3 56 [(4,some (some 11)),(5,none)] hm A6 Tryz.func174 rfl (st_ ?_);refine A0 hf rfl (st_ ?_);rw[zb o_];refine⟨bE_,?_⟩;rw[zb (by simpa using h3)];rw[zb (by simpa[List.getD]using h4)];have hv:=A2n (B1c (w.cD.getD i dF_) x)
   have hj:=E7y (j:=w.cD.getD i dF_) h3;generalize hjv:B1c (w.cD.getD i dF_) x=jv at*;subst hj;refine A0 hv rfl (st_ ?_);rw[zc (by simpa using h5)]
   (with_reducible and_intros) <;> first |with_reducible rfl |rfl |exact D0 _ |exact G5 rfl |exact A0l _ rfl rfl rfl rfl |exact A3o (by assumption) _ rfl |exact A6o _ (by assumption) rfl rfl rfl |exact A2q (λ_=>rfl) |omega |(unfold maxLen;omega)
  ·
   have hw2:Wsm ⟨w.cM,w.cC,w.cD.set i (B1c (w.cD.getD i dF_) x),w.cB,w.cT,w.dK,w.eJ⟩:=D8i hw _ _ _ (by rw[zM];exact hl);refine⟨(A7d (A7d ⟨w.cM,w.cC,w.cD.set i (B1c (w.cD.getD i dF_) x),w.cB,w.cT,w.dK,w.eJ⟩ (w.cD.getD i dF_).cU) (w.cD.getD i dF_).cV,0),B3c _ _ (B3c _ _ hw2),?_⟩;refine S3 56 [(4,some (some 11)),(5,none)] hm A6 Tryz.func174 rfl (st_ ?_);refine A0 hf rfl (st_ ?_);rw[zb o_];refine⟨bE_,?_⟩;rw[zb (by simpa using h3)];rw[zb (by simpa[List.getD]using h4)];have hv:=A2n (B1c (w.cD.getD i dF_) x)
   have hj:=E7y (j:=w.cD.getD i dF_) h3;generalize hjv:B1c (w.cD.getD i dF_) x=jv at*;subst hj;refine A0 hv rfl (st_ ?_);rw[zb (by simpa using h5)];refine J5 ev_ K1 (U5 w hw) (st_ ?_);refine⟨bE_,?_⟩;refine O6 (A4a ⟨w.cM,w.cC,w.cD.set i ⟨(w.cD.getD i dF_).ID,(w.cD.getD i dF_).cS,(w.cD.getD i dF_).cU,(w.cD.getD i dF_).cV,(w.cD.getD i dF_).dP,(w.cD.getD i dF_).dL,(w.cD.getD i dF_).eN,(w.cD.getD i dF_).cW,(w.cD.getD i dF_).dD,(w.cD.getD i dF_).dQ,(w.cD.getD i dF_).dS,(w.cD.getD i dF_).dF,x.Value,(w.cD.getD i dF_).dR,(w.cD.getD i dF_).dB,(w.cD.getD i dF_).dH,(w.cD.getD i dF_).cZ,(w.cD.getD i dF_).cP⟩,w.cB,w.cT,w.dK,w.eJ⟩ (w.cD.getD i dF_).cU hw2) ?_;simp only[S2,go_sem,go_sem_proc];refine⟨A3o hil _ rfl,?_⟩;refine A0 (A4a (A7d ⟨w.cM,w.cC,w.cD.set i ⟨(w.cD.getD i dF_).ID,(w.cD.getD i dF_).cS,(w.cD.getD i dF_).cU,(w.cD.getD i dF_).cV,(w.cD.getD i dF_).dP,(w.cD.getD i dF_).dL,(w.cD.getD i dF_).eN,(w.cD.getD i dF_).cW,(w.cD.getD i dF_).dD,(w.cD.getD i dF_).dQ,(w.cD.getD i dF_).dS,(w.cD.getD i dF_).dF,x.Value,(w.cD.getD i dF_).dR,(w.cD.getD i dF_).dB,(w.cD.getD i dF_).dH,(w.cD.getD i dF_).cZ,(w.cD.getD i dF_).cP⟩,w.cB,w.cT,w.dK,w.eJ⟩ (w.cD.getD i dF_).cU) (w.cD.getD i dF_).cV (B3c _ _ hw2)) rfl ?_;simp only[go_sem,go_sem_proc]
theorem C47(w:Api.World)(x:Api.Input)(hw:Wsm w)(hx:cE.sm x.cE): ∃r:Api.World×Int×Int,Wsm r.1/\(B7 w=0->A0v x=0->x.cS<7->E4v w x (r.1,r.2.2)/\r.2.1=0)/\cA_ 104 [.agg w.enc, .agg x.enc] [] (.tup [.agg r.1.enc,sI r.2.1,sI r.2.2]) []:=by
 by_cases h1:B7 w≠0
 ·refine⟨(zW,0,18),A3k,(λh=>absurd h h1),?_⟩;refine S3 87 [(4,some (some 11)),(5,none),(6,none)] hm A6 Tryz.func104 rfl (st_ ?_);refine A0 (H8 w hw) rfl (st_ ?_);rw[zc (by simpa using h1)]
  all_goals((with_reducible and_intros) <;> first |with_reducible rfl |rfl |exact D0 _ |exact G5 rfl |omega)
 by_cases h2:A0v x≠0
 ·refine⟨(zW,0,A0v x),A3k,(λ_ h=>absurd h h2),?_⟩;refine S3 87 [(4,some (some 11)),(5,none),(6,none)] hm A6 Tryz.func104 rfl (st_ ?_);refine A0 (H8 w hw) rfl (st_ ?_);rw[zb (by simpa using h1)];refine A0 (A00 x hx) rfl (st_ ?_);rw[zc (by simpa using h2)]
  all_goals((with_reducible and_intros) <;> first |with_reducible rfl |rfl |exact D0 _ |exact G5 rfl |omega)
 by_cases k9:x.cS=9
 ·obtain⟨r,hr,hc⟩:=D39 w x.cE hw hx;refine⟨r,hr,(λ_ _ h=>by omega),?_⟩;refine S3 87 [(4,some (some 11)),(5,none),(6,none)] hm A6 Tryz.func104 rfl (st_ ?_);refine A0 (H8 w hw) rfl (st_ ?_);rw[zb (by simpa using h1)];refine A0 (A00 x hx) rfl (st_ ?_);rw[zb (by simpa using h2)];rw[zc (by simp[k9])];refine A0 hc rfl ?_;simp only[go_sem,go_sem_proc]
  all_goals((with_reducible and_intros) <;> first |with_reducible rfl |rfl |exact D0 _ |exact G5 rfl |omega)
 by_cases k11:x.cS=11
 ·obtain⟨r,hr,hc⟩:=D2a w x.cF hw;refine⟨r,hr,(λ_ _ h=>by omega),?_⟩;refine S3 87 [(4,some (some 11)),(5,none),(6,none)] hm A6 Tryz.func104 rfl (st_ ?_);refine A0 (H8 w hw) rfl (st_ ?_);rw[zb (by simpa using h1)];refine A0 (A00 x hx) rfl (st_ ?_);rw[zb (by simpa using h2)];rw[zb (by simpa using k9)];rw[zc (by simp[k11])];refine A0 hc rfl ?_;simp only[go_sem,go_sem_proc]
  all_goals((with_reducible and_intros) <;> first |with_reducible rfl |rfl |exact D0 _ |exact G5 rfl |omega)
 by_cases k10:x.cS=10
 ·obtain⟨r,hr,hc⟩:=C74 w x.ID hw;refine⟨(r.1,0,r.2),hr,(λ_ _ h=>by omega),?_⟩;refine S3 87 [(4,some (some 11)),(5,none),(6,none)] hm A6 Tryz.func104 rfl (st_ ?_);refine A0 (H8 w hw) rfl (st_ ?_);rw[zb (by simpa using h1)];refine A0 (A00 x hx) rfl (st_ ?_);rw[zb (by simpa using h2)];rw[zb (by simpa using k9)];rw[zb (by simpa using k11)];rw[zc (by simp[k10])];refine A0 hc rfl ?_;simp only[go_sem,go_sem_proc]
  all_goals((with_reducible and_intros) <;> first |with_reducible rfl |rfl |exact D0 _ |exact G5 rfl |omega)
 by_cases k12:x.cS=12
 ·obtain⟨r,hr,hc⟩:=C5s w x.ID hw;refine⟨(r.1,0,r.2),hr,(λ_ _ h=>by omega),?_⟩;refine S3 87 [(4,some (some 11)),(5,none),(6,none)] hm A6 Tryz.func104 rfl (st_ ?_);refine A0 (H8 w hw) rfl (st_ ?_);rw[zb (by simpa using h1)];refine A0 (A00 x hx) rfl (st_ ?_);rw[zb (by simpa using h2)];rw[zb (by simpa using k9)];rw[zb (by simpa using k11)];rw[zb (by simpa using k10)];rw[zc (by simp[k12])];refine A0 hc rfl ?_;simp only[go_sem,go_sem_proc]
  all_goals((with_reducible and_intros) <;> first |with_reducible rfl |rfl |exact D0 _ |exact G5 rfl |omega)
 by_cases k7:x.cS=7
 ·obtain⟨r,hr,hc⟩:=B4b w x hw;refine⟨(r.1,0,r.2),hr,(λ_ _ h=>by omega),?_⟩;refine S3 87 [(4,some (some 11)),(5,none),(6,none)] hm A6 Tryz.func104 rfl (st_ ?_);refine A0 (H8 w hw) rfl (st_ ?_);rw[zb (by simpa using h1)];refine A0 (A00 x hx) rfl (st_ ?_);rw[zb (by simpa using h2)];rw[zb (by simpa using k9)];rw[zb (by simpa using k11)];rw[zb (by simpa using k10)];rw[zb (by simpa using k12)];rw[zc (by simp[k7])];rw[zc (by simp[k7])];refine A0 hc rfl ?_;simp only[go_sem,go_sem_proc]
  all_goals((with_reducible and_intros) <;> first |with_reducible rfl |rfl |exact D0 _ |exact G5 rfl |omega)
 by_cases k8:x.cS=8
 ·obtain⟨r,hr,hc⟩:=B4b w x hw;refine⟨(r.1,0,r.2),hr,(λ_ _ h=>by omega),?_⟩;refine S3 87 [(4,some (some 11)),(5,none),(6,none)] hm A6 Tryz.func104 rfl (st_ ?_);refine A0 (H8 w hw) rfl (st_ ?_);rw[zb (by simpa using h1)];refine A0 (A00 x hx) rfl (st_ ?_);rw[zb (by simpa using h2)];rw[zb (by simpa using k9)];rw[zb (by simpa using k11)];rw[zb (by simpa using k10)];rw[zb (by simpa using k12)];rw[zb (by simpa using k7)];rw[zc (by simp[k8])];refine A0 hc rfl ?_;simp only[go_sem,go_sem_proc]
  all_goals((with_reducible and_intros) <;> first |with_reducible rfl |rfl |exact D0 _ |exact G5 rfl |omega)
 obtain⟨r,hr,hk,hc⟩:=C5f w x hw;refine⟨(r.1,0,r.2),hr,(λ_ _ _=>⟨hk,rfl⟩),?_⟩;refine S3 87 [(4,some (some 11)),(5,none),(6,none)] hm A6 Tryz.func104 rfl (st_ ?_);refine A0 (H8 w hw) rfl (st_ ?_);rw[zb (by simpa using h1)];refine A0 (A00 x hx) rfl (st_ ?_);rw[zb (by simpa using h2)];rw[zb (by simpa using k9)];rw[zb (by simpa using k11)];rw[zb (by simpa using k10)];rw[zb (by simpa using k12)];rw[zb (by simpa using k7)];rw[zb (by simpa using k8)];refine A0 hc rfl ?_;simp only[go_sem,go_sem_proc]
 all_goals((with_reducible and_intros) <;> first |with_reducible rfl |rfl |exact D0 _ |exact G5 rfl |omega)
end Go.Abs
end
noncomputable section
namespace Go.Abs
open Go.Proofs
open Api
end Go.Abs
namespace Go.Api
open Go.Abs
structure B56 where
 cE:Int
 cY:Int
 gA:Int
 eU:cI
 dG:cI
 deriving DecidableEq,Inhabited
def B56.enc(x:B56):List AV:=[sI x.cE,sI x.cY,sI x.gA,sI x.eU.X,sI x.eU.Y,sI x.dG.X,sI x.dG.Y]
def B56.zero:List AV:= [sI 0,sI 0,sI 0,sI 0,sI 0,sI 0,sI 0]
attribute [go_sem] B56.enc B56.zero
@[go_sem] theorem F8i(x:B56):B56.mk x.cE x.cY x.gA x.eU x.dG=x:=rfl
end Go.Api
namespace Go.Abs
open Go.Proofs Api
end Go.Abs
end
noncomputable section
namespace Go.Abs
open Go.Proofs
open Api
end Go.Abs
namespace Go.Api
open Go.Abs
structure B2f where
 gB:B56
 gG:Bool
 cC:List Int
 gH:Int
 gJ:Int
 deriving DecidableEq,Inhabited
def B2f.enc(x:B2f):List AV:=[sI x.gB.cE,sI x.gB.cY,sI x.gB.gA,sI x.gB.eU.X,sI x.gB.eU.Y,sI x.gB.dG.X,sI x.gB.dG.Y,sB x.gG,A4 1 C8 0 x.cC,sI x.gH,sI x.gJ]
def B2f.zero:List AV:= [sI 0,sI 0,sI 0,sI 0,sI 0,sI 0,sI 0,sB false, .sc (.slice none 0 0),sI 0,sI 0]
attribute [go_sem] B2f.enc B2f.zero
@[go_sem] theorem F6j(x:B2f):B2f.mk x.gB x.gG x.cC x.gH x.gJ=x:=rfl
end Go.Api
namespace Go.Abs
open Go.Proofs Api
theorem B04(w:Api.World)(h:Wsm w):cA_ 48 [.agg w.enc] [] (.agg w.enc) []:=by
 obtain⟨h1,h2,h3,h4,h5,h6⟩:=h;refine C29 56 [(2,some (some 11))] hm A6 Tryz.func48 rfl (st_ ?_);refine B5 [false] [(1,1)] (A9m w.cC h1) p_ p_ p_ p_ (st_ ?_);refine B5 [false] [(1,2)] (A8w w.cD h2) p_ p_ p_ p_ (st_ ?_);refine B5 [false] [(1,3)] (B1z w.cB h3) p_ p_ p_ p_ (st_ ?_);refine B5 [false] [(1,4)] (B10 w.cT h4) p_ p_ p_ p_ (st_ ?_);refine B1 hm (ι:= {i:Nat // i<=w.cC.length}) (λi=> [(1, .cA, .ptr 32 0 0 1),(2, .cA, .ptr 48 0 0 1),(24, .cA, .sl 1 0 w.cC.length w.cC.length),(25, .cA,sI w.cC.length),(26, .cA,sI i.1)])
  (λi=>(32, .box [sI w.cM.dZ,sI w.cM.eD.X,sI w.cM.eD.Y,sI w.cM.eG,sI w.cM.eA,
 .sl 1 0 w.cC.length w.cC.length, .sl 2 0 w.cD.length w.cD.length, .sl 3 0 w.cB.length w.cB.length, .sl 4 0 w.cT.length w.cT.length,sI w.dK,sI w.eJ])::(48, .box World.zero)::D0k w 1 2 3 4) (λi=>w.cC.length-i.1) ⟨0,o_⟩ ?_ ?_
 ·refine A9 [] [] ?_;simp only[go_sem,go_sem_proc]
 ·rintro⟨i,hi⟩;refine st_ ?_;split
  ·rename_i hlt;have hlt:i<w.cC.length:=o_
   refine⟨bE_,?_⟩;refine A0 (A40 (w.cC.getD i dF_) (h5 _ (B6 _ hlt))) rfl (st_ ?_);refine⟨o_,?_⟩;refine A8 ⟨i+1,o_⟩ (by show w.cC.length-(i+1)<w.cC.length-i;omega) (A9 [] [] ?_);refine st_ ?_;exact⟨wo_,A22 (w.cC.getD i dF_) hlt rfl (C4p _ _ _ hlt)⟩
  ·rename_i hge;obtain rfl:i=w.cC.length:=o_
   refine B1 hm (ι:= {i:Nat // i<=w.cB.length}) (λi=> [(1, .cA, .ptr 32 0 0 1),(2, .cA, .ptr 48 0 0 1),(39, .cA, .sl 3 0 w.cB.length w.cB.length),(40, .cA,sI w.cB.length),(41, .cA,sI i.1)])
    (λi=>(32, .box [sI w.cM.dZ,sI w.cM.eD.X,sI w.cM.eD.Y,sI w.cM.eG,sI w.cM.eA,
 .sl 1 0 w.cC.length w.cC.length, .sl 2 0 w.cD.length w.cD.length, .sl 3 0 w.cB.length w.cB.length, .sl 4 0 w.cT.length w.cT.length,sI w.dK,sI w.eJ])::(48, .box World.zero)::D0k w 1 2 3 4) (λi=>w.cB.length-i.1) ⟨0,o_⟩ ?_ ?_
   ·refine A9 [] [] ?_;simp only[go_sem,go_sem_proc]
   ·rintro⟨i,hi⟩;refine st_ ?_;split
    ·rename_i hlt;have hlt:i<w.cB.length:=o_
     refine⟨bE_,?_⟩;refine A0 (B2s (w.cB.getD i dF_).cL (h6 _ (B6 _ hlt))) rfl (st_ ?_);refine⟨o_,?_⟩;refine A8 ⟨i+1,o_⟩ (by show w.cB.length-(i+1)<w.cB.length-i;omega) (A9 [] [] ?_);refine st_ ?_;exact⟨wo_,A22 (w.cB.getD i dF_) hlt rfl (C4p _ _ _ hlt)⟩
    ·rename_i hge;obtain rfl:i=w.cB.length:=o_
     refine B8 [.eP] [] [] ?_;simp only[go_sem,go_sem_proc]
end Go.Abs
end
noncomputable section
namespace Go.Abs
open Go.Proofs
open Api
def F2j(b:cE):Prop:=b.cH.length<=3/\ ∀f∈b.cH,f.Shape.cK.length<=8
def F8w(w:Api.World):Prop:=(w.cC.length<=7/\w.cD.length<=6/\w.cB.length<=40/\w.cT.length<=40/\w.cM.eG<=16)/\(∀b∈w.cC,F2j b)/\ ∀c∈w.cB,c.cL.cQ.length<=4
noncomputable instance(b:cE):Decidable (F2j b):=Classical.propDecidable _
noncomputable instance(w:Api.World):Decidable (F8w w):=Classical.propDecidable _
end Go.Abs
end
