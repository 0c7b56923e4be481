/- A part of the proof: contracts of functions that the statement reaches. -/
import Derived.Test.YtchcbiiammkhgaaGreatMP
set_option linter.unusedSimpArgs false
set_option linter.unusedVariables false
set_option linter.unnecessarySimpa false
set_option maxRecDepth 100000
set_option maxHeartbeats 2000000
noncomputable section
namespace Go.Abs
open Go.Proofs
open Api
theorem F80:cE.sm zB:=⟨by decide,λf hf=>by cases hf⟩
theorem C8o {w:Api.World}(hw:Wsm w)(x:B3)(id:Int):cE.sm (fB w x id).1:=by
 unfold fB pfR;have hk:=D49 (p:=λi=>((vB w x x.cC.length).getD i.toNat dF_).ID==id) (l:=J7 w x);rw[show B1b (λi=>((vB w x x.cC.length).getD i.toNat dF_).ID==id) (J7 w x)=pfK w x (vB w x x.cC.length) id from rfl]at hk;split
 ·exact F80
 ·have hi:=D4z w x _ (B6 (l:=J7 w x) (i:=(pfK w x (vB w x x.cC.length) id).toNat) 0 o_)
  exact D8e hw x x.cC.length _ (B6 dF_ (by rw[B4t];omega))
theorem D2s {w:Api.World}{x:B3}{B:List cE}{S:List cG}{R:List Row}{A:List Int}{id:Int}: ∀a∈ [AV.ptr 6 0 0 1,sI id],∀i∈a.ids,(ofL (pbO w x B S R A) i).isSome:=by
 intro a ha j hj;simp only[zo,zr,zU]at ha;rcases ha with rfl |rfl
 ·simp[AV.ids]at hj;subst hj;rfl
 ·simp[AV.ids]at hj
theorem E26 {w:Api.World}{x:B3}{B:List cE}{S:List cG}{R:List Row}{A:List Int}{l:List Row}: ∀a∈ [AV.ptr 6 0 0 1,A4 14 Row.enc dF_ l],∀i∈a.ids,(ofL (pbO w x B S R A) i).isSome:=by
 intro a ha j hj;simp only[zo,zr,zU]at ha;rcases ha with rfl |rfl
 ·simp[AV.ids]at hj;subst hj;rfl
 ·simp[AV.ids,A4]at hj
def B3h(w:Api.World)(x:B3):Slots:= [(2, .cA, .dE w.enc),(3, .cA, .dE x.enc),(5, .cA, .ptr 6 0 0 1)]
attribute [go_sem] B3h
theorem C49(w:Api.World)(x:B3)(hw:Wsm w)(hx:Ism x)(h:pOk w x)(hP: ∀c∈w.cB,c.cL.cQ.length<=2):cA_ 107 [.agg w.enc, .agg x.enc] [] (.ptr 6 0 0 1) (pbO w x (vB w x x.cC.length) (S0 w x) (cRA w x x.cB.length).1 (cRA w x x.cB.length).2):=by
 obtain⟨hv,a1,a2,a3⟩:=h;have hBx:=B8f a1
 have hCx:=B8f a2
 have hJx:=B8f a3
 have hbl:=D4z w x
 have hbn:(J7 w x).length<=8000000:=qd (D89 w x) (D86 hx);obtain⟨hx1,hx2,hx3⟩:=hx;refine A8m hm A6 Tryz.func107 rfl rfl ?_;refine B2 [(2, .eP, .dE w.enc),(3, .eP, .dE x.enc),(4, .cA, .sc (.pointer none))] [] (B9 hm ?_) ?_
 ·refine st_ ?_;refine A9 [] [] ?_;simp only[go_sem,go_sem_proc,A2m]
 refine B2 [(2, .cA, .dE w.enc),(3, .cA, .dE x.enc)] [] (B9 hm ?_) ?_
 ·refine st_ ?_;refine A0 (H8 w hw) rfl (st_ ?_);refine A0 (A39 x.cC w.cC.length hx1) rfl (st_ ?_);refine A0 (A39 x.cB w.cB.length hx2) rfl (st_ ?_);refine A0 (A39 x.cD w.cD.length hx3) rfl ?_;rw[hv,a1,a2,a3];refine st_ ?_;rw[zb p_];refine A9 [] [] ?_;simp only[go_sem,go_sem_proc]
 refine B2 (B3h w x) (pbG w x (w.cC) ([]) ([]) ([]) (.arr 5 (B0 cG.enc dF_ ([])))) (B9 hm ?_) ?_
 ·refine st_ ?_;refine J5 ev_ K1 (A9m w.cC hw.1) (st_ ?_);refine A0 (D15 w x hw ⟨hx1,hx2,hx3⟩) rfl (st_ ?_);refine A9 [(1,944),(6,1024)] [3,4,5] ?_;simp only[go_sem,go_sem_proc]
 refine B2 (B3h w x) (pbG w x (vB w x (x.cC.length)) ([]) ([]) ([]) (.arr 5 (B0 cG.enc dF_ ([])))) (B2 (B3h w x++ [(65, .cA,A4 1 C8 0 x.cC),(66, .cA,sI x.cC.length),(67, .cA,sI (0:Nat))]) (pbG w x (w.cC) ([]) ([]) ([]) (.arr 5 (B0 cG.enc dF_ ([])))) (B9 hm ?_) (V0 ?_)) ?_
 ·refine st_ ?_;refine A9 [] [] ?_;simp only[go_sem,go_sem_proc]
 ·refine B1 hm (ι:= {k:Nat // k<=x.cC.length}) (λk=>(B3h w x++ [(65, .cA,A4 1 C8 0 x.cC),(66, .cA,sI x.cC.length),(67, .cA,sI (k.1:Nat))])) (λk=>pbG w x (vB w x (k.1)) ([]) ([]) ([]) (.arr 5 (B0 cG.enc dF_ ([])))) (λk=>x.cC.length-k.1) ⟨0,zm _⟩ ?_ ?_
  ·refine A9 [] [] (st_ ?_);exact eE_
  ·rintro⟨k,hk⟩;dsimp only;have hn:vB w x (k+1)=(vB w x k).set (x.cC.getD k 0).toNat (X2 ((vB w x k).getD (x.cC.getD k 0).toNat dF_) w.cM):=H7 ..
   have hl:=B4t w x k
   have hsm:=D8e hw x k
   have hfin:x.cC.length<=k->vB w x k=vB w x x.cC.length:=λh=>by rw[show k=x.cC.length by omega]
   generalize vB w x k=B at hn hl hsm hfin⊢;by_cases hlt:k<x.cC.length;rotate_left
   ·refine st_ ?_;rw[zb o_,<-hfin o_];refine A9 [] [] ?_;simp only[go_sem,go_sem_proc]
   have hi:=hBx _ (B6 (l:=x.cC) (i:=k) 0 hlt);refine st_ ?_;rw[zc o_];generalize x.cC.getD k 0=i at hn hi⊢;refine⟨bE_,o_,?_⟩;refine A0 (C36 (B.getD i.toNat dF_) w.cM (hsm _ (B6 dF_ o_)).2) rfl (st_ ?_);refine⟨o_,?_⟩;refine A8 ⟨k+1,o_⟩ (by show x.cC.length-(k+1)<x.cC.length-k;omega) ?_;simp only[hn];refine A9 [] [] (st_ ?_)
   (with_reducible and_intros) <;> first |exact A22 _ o_ rfl rfl |exact eE_
 refine B2 (B3h w x) (pbG w x (vB w x x.cC.length) (vS w x ((J7 w x).length)) ([]) ([]) (.arr 5 (B0 cG.enc dF_ (vS w x ((J7 w x).length))))) (B2 (B3h w x++ [(91, .cA,A4 1 C8 0 (J7 w x)),(92, .cA,sI ((J7 w x).length)),(93, .cA,sI (0:Nat))]) (pbG w x (vB w x x.cC.length) (vS w x (0)) ([]) ([]) (.arr 5 (B0 cG.enc dF_ (vS w x (0))))) (B9 hm ?_) (V0 ?_)) ?_
 ·rw[show vS w x 0= []from rfl];refine st_ ?_;refine A9 [] [] ?_;simp only[go_sem,go_sem_proc]
 ·refine B1 hm (ι:= {k:Nat // k<=(J7 w x).length}) (λk=>(B3h w x++ [(91, .cA,A4 1 C8 0 (J7 w x)),(92, .cA,sI ((J7 w x).length)),(93, .cA,sI (k.1:Nat))])) (λk=>pbG w x (vB w x x.cC.length) (vS w x (k.1)) ([]) ([]) (.arr 5 (B0 cG.enc dF_ (vS w x (k.1))))) (λk=>(J7 w x).length-k.1) ⟨0,zm _⟩ ?_ ?_
  ·refine A9 [] [] ?_;simp only[go_sem,go_sem_proc]
  ·rintro⟨k,hk⟩;dsimp only;have hn:k<(J7 w x).length->vS w x (k+1)=vS w x k++ [A1f ((vB w x x.cC.length).getD ((J7 w x).getD k 0).toNat dF_)]:=λh=>F5g w x h
   have hl:=E85 w x k hk
   have hfin:(J7 w x).length<=k->vS w x k=vS w x (J7 w x).length:=λh=>by rw[show k=(J7 w x).length by omega]
   have hBl:=B4t w x x.cC.length
   have hsm:=D8e hw x x.cC.length;generalize vS w x k=S at hn hl hfin⊢;by_cases hlt:k<(J7 w x).length;rotate_left
   ·refine st_ ?_;rw[zb o_,<-hfin o_];refine A9 [] [] ?_;simp only[go_sem,go_sem_proc]
   have hi:=hbl _ (B6 (l:=J7 w x) (i:=k) 0 hlt);replace hn:=hn hlt;refine st_ ?_;rw[zc o_];generalize(J7 w x).getD k 0=i at hn hi⊢;generalize vB w x x.cC.length=B at hn hBl hsm⊢;refine⟨bE_,o_,?_⟩;refine A0 (A7s (B.getD i.toNat dF_) (hsm _ (B6 dF_ o_)).2) rfl (st_ ?_);refine⟨bE_,?_⟩;refine A8 ⟨k+1,o_⟩ (by show(J7 w x).length-(k+1)<(J7 w x).length-k;omega) ?_;simp only[hn];refine A9 [] [] (st_ ?_);exact eE_
 refine D2p 3 5 (B0 cG.enc dF_ (S0 w x)) (by simp only[go_sem,go_sem_proc,S0]) ?_;rw[show vS w x (J7 w x).length=S0 w x from rfl];refine B2 (B3h w x) (pbG w x (vB w x x.cC.length) (S0 w x) ((jRA w x (x.cD.length)).1) ((jRA w x (x.cD.length)).2) (.frz 5 (B0 cG.enc dF_ (S0 w x)))) (B2 (B3h w x++ [(116, .cA,A4 1 C8 0 x.cD),(117, .cA,sI x.cD.length),(118, .cA,sI (0:Nat))]) (pbG w x (vB w x x.cC.length) (S0 w x) ((jRA w x (0)).1) ((jRA w x (0)).2) (.frz 5 (B0 cG.enc dF_ (S0 w x)))) (B9 hm ?_) (V0 ?_)) ?_
 ·rw[show jRA w x 0=([],[])from rfl];refine st_ ?_;refine A9 [] [] (st_ ?_);exact eE_
 ·refine B1 hm (ι:= {k:Nat // k<=x.cD.length}) (λk=>(B3h w x++ [(116, .cA,A4 1 C8 0 x.cD),(117, .cA,sI x.cD.length),(118, .cA,sI (k.1:Nat))])) (λk=>pbG w x (vB w x x.cC.length) (S0 w x) ((jRA w x (k.1)).1) ((jRA w x (k.1)).2) (.frz 5 (B0 cG.enc dF_ (S0 w x)))) (λk=>x.cD.length-k.1) ⟨0,zm _⟩ ?_ ?_
  ·refine A9 [] [] (st_ ?_);exact eE_
  ·rintro⟨k,hk⟩;dsimp only;have hn:jRA w x (k+1)=A9p (C6m w x k) (jRA w x k):=H7 ..
   have hl:=D5a w x k
   have hfin:x.cD.length<=k->jRA w x k=jRA w x x.cD.length:=λh=>by rw[show k=x.cD.length by omega]
   have hrl:(C6m w x k).length<=4:=C32 ..;generalize jRA w x k=s at hn hl hfin⊢;obtain⟨R,A⟩:=s;dsimp only[A9p]at hn hl hfin⊢;by_cases hlt:k<x.cD.length;rotate_left
   ·refine st_ ?_;rw[zb o_,<-hfin o_];refine A9 [] [] (st_ ?_);exact eE_
   have hi:=hJx _ (B6 (l:=x.cD) (i:=k) 0 hlt)
   have hr:=C6m.eq_1 w x k;refine st_ ?_;rw[zc o_];generalize x.cD.getD k 0=i at hr hi⊢;refine⟨bE_,hi,?_⟩;generalize w.cD.getD i.toNat dF_=j at hr⊢;have hF:=λid=>B44 w x (vB w x x.cC.length) (S0 w x) R A id (by rw[B4t];exact hbl) o_
   have hsa:=C8o hw x j.cU
   have hsb:=C8o hw x j.cV;unfold fB at hr hsa hsb;refine K6 (hF j.cU) A6l A6l (by simp[pbO]) (by simp[upd,go_sem,go_sem_proc]) (by simp[pbO]) D2s rfl ?_;generalize pfR w x (vB w x x.cC.length) j.cU=a at hr hsa⊢;refine st_ ?_;refine K6 (hF j.cV) A6l A6l (by simp[pbO]) (by simp[upd,go_sem,go_sem_proc]) (by simp[pbO]) D2s rfl ?_;generalize pfR w x (vB w x x.cC.length) j.cV=b at hr hsb⊢;refine st_ ?_;refine O6 (A8u j a.1 b.1 a.2 b.2 (S0 w x) w.cM.dZ hsa.2 hsb.2) ?_;rw[<-hr];generalize C6m w x k=l at hn hrl⊢;simp only[S2,go_sem,go_sem_proc];refine K6 (B6s w x (vB w x x.cC.length) (S0 w x) R A l o_ o_) A6l A6l (by simp[pbO]) (by simp[upd,go_sem,go_sem_proc]) (by simp[pbO]) E26 rfl (st_ ?_);refine A8 ⟨k+1,o_⟩ (by show x.cD.length-(k+1)<x.cD.length-k;omega) ?_;simp only[hn];refine A9 [] [] (st_ ?_);exact eE_
 refine B2 (B3h w x) (pbG w x (vB w x x.cC.length) (S0 w x) ((cRA w x (x.cB.length)).1) ((cRA w x (x.cB.length)).2) (.frz 5 (B0 cG.enc dF_ (S0 w x)))) (B2 (B3h w x++ [(158, .cA,A4 1 C8 0 x.cB),(159, .cA,sI x.cB.length),(160, .cA,sI (0:Nat))]) (pbG w x (vB w x x.cC.length) (S0 w x) ((cRA w x (0)).1) ((cRA w x (0)).2) (.frz 5 (B0 cG.enc dF_ (S0 w x)))) (B9 hm ?_) (V0 ?_)) ?_
 ·rw[show cRA w x 0=jRA w x x.cD.length from rfl];refine st_ ?_;refine A9 [] [] (st_ ?_);exact eE_
 ·refine B1 hm (ι:= {k:Nat // k<=x.cB.length}) (λk=>(B3h w x++ [(158, .cA,A4 1 C8 0 x.cB),(159, .cA,sI x.cB.length),(160, .cA,sI (k.1:Nat))])) (λk=>pbG w x (vB w x x.cC.length) (S0 w x) ((cRA w x (k.1)).1) ((cRA w x (k.1)).2) (.frz 5 (B0 cG.enc dF_ (S0 w x)))) (λk=>x.cB.length-k.1) ⟨0,zm _⟩ ?_ ?_
  ·refine A9 [] [] (st_ ?_);exact eE_
  ·rintro⟨k,hk⟩;dsimp only;have hn:cRA w x (k+1)=A9p (D01 w x k ((cRA w x k).1.length:Int)) (cRA w x k):=H7 ..
   have hl:=C8b w x hP hCx k hk
   have hfin:x.cB.length<=k->cRA w x k=cRA w x x.cB.length:=λh=>by rw[show k=x.cB.length by omega]
   generalize cRA w x k=s at hn hl hfin⊢;obtain⟨R,A⟩:=s;dsimp only[A9p]at hn hl hfin⊢;by_cases hlt:k<x.cB.length;rotate_left
   ·refine st_ ?_;rw[zb o_,<-hfin o_];refine A9 [] [] (st_ ?_);exact eE_
   have hi:=hCx _ (B6 (l:=x.cB) (i:=k) 0 hlt)
   have hr:=D01.eq_1 w x k (R.length:Int);refine st_ ?_;rw[zc o_];generalize x.cB.getD k 0=i at hr hi⊢;refine⟨bE_,hi,?_⟩;have hpt:=hP _ (B6 (l:=w.cB) (i:=i.toNat) dF_ o_);generalize w.cB.getD i.toNat dF_=c at hr hpt⊢;have hF:=λid=>B44 w x (vB w x x.cC.length) (S0 w x) R A id (by rw[B4t];exact hbl) o_
   have hsa:=C8o hw x c.dU.cU
   have hsb:=C8o hw x c.dU.cV;unfold fB at hr hsa hsb;refine K6 (hF c.dU.cU) A6l A6l (by simp[pbO]) (by simp[upd,go_sem,go_sem_proc]) (by simp[pbO]) D2s rfl ?_;generalize pfR w x (vB w x x.cC.length) c.dU.cU=a at hr hsa⊢;refine st_ ?_;refine K6 (hF c.dU.cV) A6l A6l (by simp[pbO]) (by simp[upd,go_sem,go_sem_proc]) (by simp[pbO]) D2s rfl ?_;generalize pfR w x (vB w x x.cC.length) c.dU.cV=b at hr hsb⊢;refine st_ ?_;refine O6 (C7e c a.1 b.1 a.2 b.2 (R.length:Int) (S0 w x) w.cM.dZ o_ hsa.2 hsb.2) ?_;have hrl:=D6h c a.1 b.1 a.2 b.2 (R.length:Int) (S0 w x) w.cM.dZ;rw[<-hr]at hrl⊢;generalize D01 w x k (R.length:Int)=l at hn hrl⊢;simp only[S2,go_sem,go_sem_proc];refine K6 (B6s w x (vB w x x.cC.length) (S0 w x) R A l o_ o_) A6l A6l (by simp[pbO]) (by simp[upd,go_sem,go_sem_proc]) (by simp[pbO]) E26 rfl (st_ ?_);refine A8 ⟨k+1,o_⟩ (by show x.cB.length-(k+1)<x.cB.length-k;omega) ?_;simp only[hn];refine A9 [] [] (st_ ?_);exact eE_
 refine B9 hm (st_ ?_);refine B8 [.cA] [] [] (st_ ?_);exact eE_
theorem E1b(j:cF)(a b:cE):P1 j a b=(L5 (⟨j.ID,j.cS,j.cU,j.cV,j.dP,j.dL,j.eN,j.cW,j.dD,j.dQ,j.dS,j.dF,j.dN,j.dR,j.dB,j.dH,j.cZ,(⟨0,1,2,3⟩:Four)⟩:cF) a b 0 0 ([]:List cG) 65536).map (·.fN):=by
 unfold P1;simp only;generalize L5 _ a b 0 0 ([]:List cG) 65536=l;have h: ∀n,n<=l.length->itr (T7 l) n []=(l.take n).map (·.fN):=by
  intro n;induction n with
  |zero=>intro _;simp[itr]
  |succ n ih=>intro hn;rw[itr,ih o_,T7,List.take_succ_eq_append_getElem (by omega:n<l.length)];simp only[qN,qw,List.map_nil,List.getD,zg (by omega:n<l.length),Option.getD_some]
 rw[h _ (ze _),zn]
theorem E8y(j:cF)(a b:cE):(P1 j a b).length<=4:=by rw[E1b,z7];exact C32 _ _ _ _ _ _ _
theorem F1r(j:cF)(a b:cE): ∀x∈P1 j a b,0<=x/\x<4:=by rw[E1b];intro x hx;obtain⟨r,hr,rfl⟩:=qL.1 hx;have:=F1j _ _ _ _ _ _ _ r hr;simp only[B2a]at this;omega
theorem F1q(j:cF)(a b:cE)(i:Nat):0<=(P1 j a b).getD i 0/\(P1 j a b).getD i 0<4:=by
 by_cases h:i<(P1 j a b).length
 ·exact F1r j a b _ (B6 0 h)
 ·simp[List.getD,qi (by omega:(P1 j a b).length<=i)]
def F7x(f:Four)(i v:Int):Four:=if i=0 then⟨v,f.I1,f.I2,f.I3⟩else if i=1 then⟨f.I0,v,f.I2,f.I3⟩else if i=2 then⟨f.I0,f.I1,v,f.I3⟩else⟨f.I0,f.I1,f.I2,v⟩
def jsS(sl:List Int)(rs:List Row)(base:Int)(k:Nat)(f:Four):Four:=if 0<=base+(k:Nat)/\base+(k:Nat)<rs.length then F7x f (sl.getD k 0) (rs.getD (base+(k:Nat)).toNat dF_).fN else f
def F6x(j:cF)(a b:cE)(rs:List Row)(base:Int):Four:=itr (jsS (P1 j a b) rs base) (P1 j a b).length ⟨0,0,0,0⟩
def jst(j:cF)(a b:cE)(rs:List Row)(base:Int):cF:= {j with cP:=F6x j a b rs base}
theorem C9j(j:cF)(a b:cE)(rs:List Row)(base:Int)(ha: ∀f∈a.cH,f.Shape.cK.length<=1048576)(hb: ∀f∈b.cH,f.Shape.cK.length<=1048576)(h0:0<=base/\base<=100000000):
  cA_ 112 [.agg j.enc, .agg a.enc, .agg b.enc,A4 14 Row.enc dF_ rs,sI base] [] (.agg (jst j a b rs base).enc) []:=by
 have hsl:=E8y j a b
 have hat:=F1q j a b;unfold jst F6x;refine M3 48 [(10,some (some 24))] hm A6 Tryz.func112 rfl (st_ ?_);refine A0 (C9i j a b ha hb) rfl ?_;generalize P1 j a b=sl at hsl hat⊢;refine st_ ?_;refine B1 hm (ι:= {i:Nat // i<=sl.length}) (λi=> [(3, .cA,A4 14 Row.enc dF_ rs),(4, .cA,sI base),(5, .cA, .ptr 96 0 0 1),(10, .cA, .ptr 176 0 0 1),(11, .cA, .ptr 192 0 0 1),(19, .cA,A4 1 C8 0 sl),(20, .cA,sI sl.length),(21, .cA,sI (i.1:Nat))]) (λi=> [(96, .box j.enc),(176, .box cF.zero),(192, .box [sI ((itr (jsS sl rs base) i.1 ⟨0,0,0,0⟩).I0),sI ((itr (jsS sl rs base) i.1 ⟨0,0,0,0⟩).I1),sI ((itr (jsS sl rs base) i.1 ⟨0,0,0,0⟩).I2),sI ((itr (jsS sl rs base) i.1 ⟨0,0,0,0⟩).I3)])]) (λi=>sl.length-i.1) ⟨0,zm _⟩ ?_ ?_
 ·simp only[G9,cF.zero];refine A9 [] [] ?_;simp only[go_sem,go_sem_proc]
 ·rintro⟨k,hk⟩;dsimp only;have hn:itr (jsS sl rs base) (k+1) ⟨0,0,0,0⟩=jsS sl rs base k (itr (jsS sl rs base) k ⟨0,0,0,0⟩):=H7 ..
  have hfin:sl.length<=k->itr (jsS sl rs base) k ⟨0,0,0,0⟩=itr (jsS sl rs base) sl.length ⟨0,0,0,0⟩:=λh=>by rw[show k=sl.length by omega]
  generalize itr (jsS sl rs base) k ⟨0,0,0,0⟩=f at hn hfin⊢;have hw:IntKind.i64.wrap (base+(k:Nat))=base+(k:Nat):=wo_;simp only[go_sem,go_sem_proc,hw];by_cases hlt:k<sl.length;rotate_left
  ·rw[zb o_,<-hfin o_];exact eE_
  rw[zc o_];refine⟨bE_,?_⟩;have hs:=hat k;rw[jsS.eq_1 sl rs base k f]at hn;generalize sl.getD k 0=s at hs hn⊢;by_cases hc:0<=base+(k:Nat)/\base+(k:Nat)<rs.length
  ·rw[zc (by simpa using hc)];rw[zc hc]at hn;refine⟨o_,o_,?_⟩;obtain rfl |rfl |rfl |rfl:s=0\/s=1\/s=2\/s=3:=o_
   all_goals
    simp only[F7x,Int.reduceEq,zL,zJ]at hn;refine st_ ?_;refine A8 ⟨k+1,o_⟩ (by show sl.length-(k+1)<sl.length-k;omega) ?_;simp only[hn];exact A9 [] [] se_
  ·rw[zb (by simpa using hc)];rw[zb hc]at hn;refine A8 ⟨k+1,o_⟩ (by show sl.length-(k+1)<sl.length-k;omega) ?_;simp only[hn];refine A9 [] [] (st_ ?_);exact eE_
def csP(rs:List Row)(base:Int)(i:Nat)(p:cN):cN:=⟨p.eU,p.eZ,p.ID,A43 rs (base+2*(i:Nat)) p.eL,A43 rs (base+2*(i:Nat)+1) p.eS⟩
def csS(rs:List Row)(base:Int)(i:Nat)(s:List cN):List cN:=s.set i (csP rs base i (s.getD i dF_))
def D9f(l:List cN)(rs:List Row)(base:Int):List cN:=if(rs.length:Int)<base then l else itr (csS rs base) l.length l
def cst(c:cX)(rs:List Row)(base:Int):cX:=⟨c.dU,⟨c.cL.dG,D9f c.cL.cQ rs base⟩⟩
theorem E3i(rs:List Row)(base:Int)(n:Nat)(l:List cN):(itr (csS rs base) n l).length=l.length:=U2 (λs:List cN=>s.length) (λi s=>by simp[csS]) n l
theorem D9g(l:List cN)(rs:List Row)(base:Int):(D9f l rs base).length=l.length:=by unfold D9f;split;rfl;exact E3i ..
theorem C5e(c:cX)(rs:List Row)(base:Int)(hp:c.cL.cQ.length<=1048576)(h0:0<=base/\base<=100000000):
  cA_ 113 [.agg c.enc,A4 14 Row.enc dF_ rs,sI base] [] (.agg (cst c rs base).enc) []:=by
 have hlP:=D9g c.cL.cQ rs base
 have hcP:=D9f.eq_1 c.cL.cQ rs base;unfold cst;refine M3 63 [(6,some (some 7))] hm A6 Tryz.func113 rfl ?_;simp only[go_sem,go_sem_proc,AV.offId];refine⟨bE_,?_⟩;refine B1 hm (ι:= {i:Nat // i<=c.cL.cQ.length/\(0<i-> ¬(rs.length:Int)<base)}) (λi=> [(1, .cA,A4 14 Row.enc dF_ rs),(2, .cA,sI base),(3, .cA, .ptr 64 0 0 1),(6, .cA, .ptr 112 0 0 1),(7, .cA, .sl 240 0 c.cL.cQ.length c.cL.cQ.length),(21, .cA,sI c.cL.cQ.length),(22, .cA,sI (i.1:Nat))]) (λi=> [(64, .box c.enc),(112, .box cX.zero),(240, .arr 6 (B0 cN.enc dF_ (itr (csS rs base) i.1 c.cL.cQ)))]) (λi=>c.cL.cQ.length-i.1) ⟨0,zm _,λh=>by omega⟩ ?_ ?_
 ·simp only[G9,cX.zero];refine A9 [] [] (st_ ?_)
  (with_reducible and_intros) <;> (exact⟨rfl,rfl,λi hi=>by dsimp only at hi⊢;rw[zc o_,Nat.sub_zero];exact I5 _⟩)
 ·rintro⟨k,hk,hkb⟩;dsimp only;have hn:itr (csS rs base) (k+1) c.cL.cQ=(itr (csS rs base) k c.cL.cQ).set k (csP rs base k ((itr (csS rs base) k c.cL.cQ).getD k dF_)):=H7 ..
  have hl:=E3i rs base k c.cL.cQ
  have hfin:c.cL.cQ.length<=k->itr (csS rs base) k c.cL.cQ=itr (csS rs base) c.cL.cQ.length c.cL.cQ:=λh=>by rw[show k=c.cL.cQ.length by omega]
  have hz:k=0->itr (csS rs base) k c.cL.cQ=c.cL.cQ:=λh=>by subst h;rfl
  generalize itr (csS rs base) k c.cL.cQ=v at hn hl hfin hz⊢;refine st_ ?_;by_cases hlt:k<c.cL.cQ.length;rotate_left
  ·rw[zb o_];have hv:v=D9f c.cL.cQ rs base:=by
    rw[hcP];by_cases hz2:k=0
    ·have h0:c.cL.cQ= []:=qx.1 o_
     have:=hz hz2;rw[this];split
     ·rfl
     ·rw[h0];rfl
    ·rw[zb (hkb o_)];exact hfin o_
   rw[<-hv,hl];exact⟨rfl,D0 _⟩
  rw[zc o_];by_cases hbl:(rs.length:Int)<base
  ·rw[zc (by simpa using hbl)];have hk0:k=0:=by
    rcases yk k with h |h
    ·exact h
    ·exact absurd hbl (hkb h)
   rw[hcP,zc hbl,hz hk0];exact⟨rfl,D0 _⟩
  rw[zb (by simpa using hbl)];refine⟨bE_,bE_,?_⟩;have hw1:IntKind.i64.wrap (2*(k:Nat))=2*(k:Nat):=wo_
  have hw2:IntKind.i64.wrap (base+2*(k:Nat))=base+2*(k:Nat):=wo_
  have hw3:IntKind.i64.wrap (base+2*(k:Nat)+1)=base+2*(k:Nat)+1:=wo_;simp only[hw1,hw2];refine A0 (B27 rs (base+2*(k:Nat)) (v.getD k dF_).eL) rfl ?_;simp only[go_sem,go_sem_proc,hw1,hw2,hw3];refine⟨⟨hl.symm,bE_⟩,hl.symm,⟨hl.symm,bE_⟩,hl.symm,?_⟩;refine A0 (B27 rs (base+2*(k:Nat)+1) (v.getD k dF_).eS) rfl (st_ ?_);refine⟨⟨hl.symm,bE_⟩,hl.symm,?_⟩;refine A8 ⟨k+1,o_,λ_=>hbl⟩ (by show c.cL.cQ.length-(k+1)<c.cL.cQ.length-k;omega) ?_;simp only[hn];refine A9 [] [] (st_ ?_)
  (with_reducible and_intros) <;> first |exact A22 _ o_ rfl rfl |exact eE_
def B0s(x:Int)(y:Int):Bool:=let v1:=(A2f x);let v2:=(A2f y);((v1&&(!v2))||(decide (x<y)))
theorem D5y(x:Int)(y:Int):cA_ 188 [sI x,sI y] [] (sB (B0s x y)) []:=by
 refine en1 hm A6 Tryz.func188 rfl rfl ?_;have:=C0p
 have:=B0s.eq_1 x y;exact K2
theorem F8m(x y:Int):B0s x y=decide (x<y):=by unfold B0s A2f;simp
theorem B6r(x:Int):cA_ 189 [sI x] [] (sB false) []:=by refine en1 hm A6 Tryz.func189 rfl rfl (st_ ?_);simp
def E9p(l:List Int):Prop:= ∀i j:Nat,i<j->j<l.length->l.getD i 0<l.getD j 0
theorem F6y(x:Int)(l:List Int)(ha:E9p l): ∃i,i<=l.length/\(∀k,k<i->l.getD k 0<x)/\ ∀k,i<=k->k<l.length->x<=l.getD k 0:=by
 have key: ∀n,n<=l.length-> ∃i,i<=n/\(∀k,k<i->l.getD k 0<x)/\ ∀k,i<=k->k<n->x<=l.getD k 0:=by
  intro n;induction n with
  |zero=>intro _;exact⟨0,ze _,λk h=>by omega,λk _ h=>by omega⟩
  |succ n ih=>
   intro hn;obtain⟨i,h1,h2,h3⟩:=ih o_;by_cases h:l.getD n 0<x
   ·refine⟨n+1,ze _,λk hk=> ?_,λk h1 h2=>by omega⟩;rcases zF.1 hk with hk |rfl
    ·have:=ha k n hk o_;omega
    ·exact h
   ·refine⟨i,o_,h2,λk hk hkn=> ?_⟩;rcases zF.1 hkn with hk2 |rfl
    ·exact h3 k hk hk2
    ·omega
 exact key l.length (ze _)
theorem D5r(l:List Int)(x:Int)(hl:l.length<=1048576)(ha:E9p l): ∃i:Nat,cA_ 109 [A4 1 C8 0 l,sI x] [] (.tup [sI (i:Nat),sB (l.contains x)]) []:=by
 obtain⟨i,h1,h2,h3⟩:=F6y x l ha;have hc:l.contains x=(decide (i<l.length)&&(l.getD i 0==x)):=by
  rw[qz];simp only[List.contains_iff_mem,zi,zk,qc];constructor
  ·intro hm;obtain⟨k,hk,hx⟩:=qG hm;have hx':l.getD k 0=x:=by simp[List.getD,hk,hx]
   have:i=k:=by
    rcases Nat.lt_trichotomy i k with h |h |h
    ·have g1:=h3 i (ze _) o_
     have g2:=ha i k h hk;omega
    ·exact h
    ·have:=h2 k h;omega
   subst this;exact⟨hk,hx'⟩
  ·rintro⟨hk,rfl⟩;exact B6 0 hk
 refine⟨i,?_⟩;rw[hc];refine enT hm A6 Tryz.func109 rfl rfl (st_ ?_);refine B1 hm (ι:= {p:Nat×Nat // p.1<=i/\i<=p.2/\p.2<=l.length}) (λp=> [(0, .cA,A4 1 C8 0 l),(1, .cA,sI x),(6, .cA,sI l.length),(7, .cA,sI (p.1.1:Nat)),(8, .cA,sI (p.1.2:Nat))]) (λ_=> []) (λp=>p.1.2-p.1.1) ⟨(0,l.length),zm _,h1,ze _⟩ ?_ ?_
 ·refine A9 [] [] ?_;simp only[go_sem,go_sem_proc]
 ·rintro⟨⟨a,b⟩,q1,q2,q3⟩;dsimp only at q1 q2 q3⊢;refine st_ ?_;by_cases hab:a<b;rotate_left
  ·obtain⟨rfl,rfl⟩:a=i/\i=b:=⟨o_,o_⟩;rw[zb (by exact_mod_cast hab)];refine⟨λ_=>by omega,λe=>by simp only[zi,zk]at e;omega,?_⟩;refine A0 (B6r (l.getD a 0)) rfl (st_ ?_);refine A0 (B6r x) rfl (st_ ?_);refine⟨λg=>⟨g,λe=> ?_⟩,?_⟩
   ·rw[e,zT o_];rfl
   ·by_cases g:a<l.length
    ·rw[zc o_,zT g,zH]
    ·rw[zb o_,zp g,zI]
  rw[zc o_];have hw:IntKind.i64.wrap ((IntKind.u64.wrap (IntKind.i64.wrap ((a:Int)+(b:Int)))).fdiv (2^min 1 64))=(((a+b) / 2:Nat):Int):=by rw[E6r (n:=(a:Int)+b) o_ o_,F5k (n:=(a:Int)+b) o_ o_,show((2:Int)^min 1 64)=2 by rfl,qP _ o_,E6r o_ o_];omega
  rw[hw];have q4:a<=(a+b) / 2/\(a+b) / 2<b:=o_
  generalize(a+b) / 2=h at q4;refine⟨o_,o_,?_⟩;rw[Int.toNat_natCast];refine A0 (D5y (l.getD h 0) x) rfl ?_;rw[F8m];refine st_ ?_;by_cases hx:l.getD h 0<x
  ·rw[zc hx];have:h<i:=by
    rcases qq h i with g |g
    ·exact g
    ·have:=h3 h g o_;omega
   refine A8 ⟨(h+1,b),by dsimp only;omega,by dsimp only;omega,by dsimp only;omega⟩ (by show b-(h+1)<b-a;omega) ?_;refine A9 [] [] (st_ ?_);exact eE_
  ·rw[zb hx];have:i<=h:=by
    rcases qq h i with g |g
    ·exact absurd (h2 h g) hx
    ·exact g
   refine A8 ⟨(a,h),by dsimp only;omega,by dsimp only;omega,by dsimp only;omega⟩ (by show h-a<b-a;omega) ?_;refine A9 [] [] ?_;simp only[go_sem,go_sem_proc]
def A4y(w:Api.World)(x:B3)(B:List cE)(S:List cG)(R:List Row)(A:List Int):List (Nat×A7):=[(6, .box (pbC w x B.length (.sl 3 0 S.length S.length) (.sl 4 0 R.length R.length) (.sl 5 0 A.length A.length))),(1, .arr 20 (B0 cE.enc dF_ B)),(3, .frz 5 (B0 cG.enc dF_ S)),(4, .frz 14 (B0 Row.enc dF_ R)),(5, .arr 1 (B0 C8 0 A))]
attribute [go_sem] pbC A4y
def C3v(w:Api.World)(x:B3)(B:List cE)(S:List cG)(R:List Row)(A:List Int)(id:Int):List (Nat×A7):=(48, .box [.ptr 6 0 0 1])::(64, .box [sI id])::A4y w x B S R A
attribute [go_sem] C3v
theorem C3u {w:Api.World}{x:B3}{B:List cE}{S:List cG}{R:List Row}{A:List Int}:okO (A4y w x B S R A):=by
 refine⟨by simp[A4y],λp hp cs e j hj=> ?_⟩;simp only[A4y,zo,zr,zU]at hp;rcases hp with rfl |rfl |rfl |rfl |rfl
 ·simp only[A7.box.injEq]at e;subst e;simp[pbC,F6,AV.ids,A4]at hj;rcases hj with rfl |rfl |rfl |rfl <;> rfl
 all_goals cases e
theorem D1r {w:Api.World}{x:B3}{B:List cE}{S:List cG}{R:List Row}{A:List Int}{id:Int}:okO (C3v w x B S R A id):=by
 refine⟨by simp[C3v,A4y],λp hp cs e j hj=> ?_⟩;simp only[C3v,A4y,zo,zr,zU]at hp;rcases hp with rfl |rfl |rfl |rfl |rfl |rfl |rfl
 ·simp only[A7.box.injEq]at e;subst e;simp[F6,AV.ids]at hj;subst hj;rfl
 ·simp only[A7.box.injEq]at e;subst e;simp[F6,AV.ids]at hj
 ·simp only[A7.box.injEq]at e;subst e;simp[pbC,F6,AV.ids,A4]at hj;rcases hj with rfl |rfl |rfl |rfl <;> rfl
 all_goals cases e
theorem E6g(w:Api.World)(x:B3)(B:List cE)(S:List cG)(R:List Row)(A:List Int)(id i:Int)(h0:0<=i)(h1:i<B.length):
  cA_ 191 [sI i, .ptr 48 0 0 1, .ptr 64 0 0 1] (C3v w x B S R A id) (sB ((B.getD i.toNat dF_).ID==id)) (C3v w x B S R A id):=by
 refine I6 hm A6 Tryz.func191 rfl rfl (st_ ?_);refine⟨bE_,?_⟩;refine B8 [.cA] [] [] (st_ ?_);exact eE_
theorem C4h(w:Api.World)(x:B3)(B:List cE)(S:List cG)(R:List Row)(A:List Int)(id:Int)(hb: ∀i∈J7 w x,0<=i/\i<B.length)(hl:(J7 w x).length<=1000000000):
  cA_ 111 [.ptr 6 0 0 1,sI id] (A4y w x B S R A) (.tup [.agg (pfR w x B id).1.enc,sI ((pfR w x B id).2)]) (A4y w x B S R A):=by
 have hF:=A7l (J7 w x) 191 [] [.ptr 48 0 0 1, .ptr 64 0 0 1] (C3v w x B S R A id) (λi=>(B.getD i.toNat dF_).ID==id) hl D1r
  (by intro j hj;simp[AV.ids,F6]at hj;rcases hj with rfl |rfl <;> rfl) (λi hi=>E6g w x B S R A id i (hb i hi).1 (hb i hi).2)
 have hr:=pfR.eq_1 w x B id
 have hk:=D49 (p:=λi=>(B.getD i.toNat dF_).ID==id) (l:=J7 w x);rw[show B1b (λi=>(B.getD i.toNat dF_).ID==id) (J7 w x)=pfK w x B id from rfl]at hF hk;generalize pfK w x B id=k at hF hr hk;refine C8j 30 [(4,some (some 20)),(5,none)] hm A6 Tryz.func111 rfl (st_ ?_);refine K6 hF D1r D1r (by simp[C3v,A4y]) (by simp[upd,go_sem,go_sem_proc]) (by simp[C3v,A4y]) ?_ rfl ?_
 ·intro a ha j hj;simp only[zo,zr,zU]at ha;rcases ha with rfl |rfl
  ·simp[AV.ids]at hj
  ·simp[AV.ids,F6]at hj;rcases hj with rfl |rfl <;> rfl
 refine st_ ?_;by_cases hn:k<0
 ·rw[zc hn]at hr⊢;rw[hr];refine B8 [.eP, .cA] [] [] ?_;simp only[go_sem,go_sem_proc,zB];exact eE_
 rw[zb hn]at hr⊢;rw[hr];have hbk:=hb _ (B6 (l:=J7 w x) (i:=k.toNat) 0 o_);refine⟨o_,o_,?_⟩;refine B8 [.cA, .cA] [] [] (st_ ?_);exact eE_
theorem E27 {w:Api.World}{x:B3}{B:List cE}{S:List cG}{R:List Row}{A:List Int}{id:Int}: ∀a∈ [AV.ptr 6 0 0 1,sI id],∀i∈a.ids,(ofL (A4y w x B S R A) i).isSome:=by
 intro a ha j hj;simp only[zo,zr,zU]at ha;rcases ha with rfl |rfl
 ·simp[AV.ids]at hj;subst hj;rfl
 ·simp[AV.ids]at hj
def D2v(s:List Row×List Int):Prop:= ∀a∈s.2,0<=a/\a<=(s.1.length:Int)
theorem D8y {l:List Row}{s:List Row×List Int}(h:D2v s):D2v (A9p l s):=by
 intro a ha;simp only[A9p,zj,zu,zd]at ha⊢;rcases ha with ha |rfl
 ·have:=h a ha;omega
 ·omega
theorem E7w(w:Api.World)(x:B3): ∀n,D2v (jRA w x n)
 |0=>λa ha=>by cases ha
 |n+1=>by rw[show jRA w x (n+1)=A9p (C6m w x n) (jRA w x n)from H7 ..];exact D8y (E7w w x n)
theorem E64(w:Api.World)(x:B3): ∀n,D2v (cRA w x n)
 |0=>E7w w x _
 |n+1=>by rw[show cRA w x (n+1)=A9p (D01 w x n ((cRA w x n).1.length:Int)) (cRA w x n)from H7 ..];exact D8y (E64 w x n)
theorem E9v(w:Api.World)(x:B3):D4o (J7 w x):=E1w (F0w _)
theorem D0s {l:List Int}{n:Int}(h:T0 l n=true):E9p l/\l.length<=n.toNat:=by
 have key: ∀k,k<=l.length-> ∃s,I8 (M8 l n) k (-1)= .inl s/\(k:Int)-1<=s/\(0<k->s<n)/\(∀j,j<k->l.getD j 0<=s)/\ ∀i j:Nat,i<j->j<k->l.getD i 0<l.getD j 0:=by
  intro k;induction k with
  |zero=>intro _;exact⟨-1,rfl,o_,λh=>by omega,λj hj=>by omega,λi j hi hj=>by omega⟩
  |succ k ih=>
   intro hk;obtain⟨s,h1,h2,h3,h4,h5⟩:=ih o_;have hs:I8 (M8 l n) (k+1) (-1)=M8 l n k s:=A0f h1 rfl;unfold M8 at hs;split at hs
   ·exfalso;have h4:=A4w hs (show k+1<=l.length by omega);unfold T0 at h;rw[show I8 (M8 l n) l.length (-1)= .inr false from h4]at h;cases h
   ·rename_i hc;simp only[zy,zk,qy,Int.not_le]at hc;refine⟨_,hs,o_,λ_=>by omega,λj hj=> ?_,λi j hi hj=> ?_⟩
    ·rcases zF.1 hj with hj |rfl
     ·have:=h4 j hj;omega
     ·omega
    ·rcases zF.1 hj with hj |rfl
     ·exact h5 i j hi hj
     ·have:=h4 i hi;omega
 obtain⟨s,_,h2,h3,_,h5⟩:=key l.length (ze _);refine⟨h5,?_⟩;rcases yk l.length with h |h
 ·omega
 ·have:=h3 h;omega
theorem E4g: ∀ {l:List Int} {a n:Nat},D4o l->(∀y∈l,(a:Int)<=y/\y<(n:Int))->l.length<=n-a
 | [],_,_,_,_=>zm _
 |b::l,a,n,h,hb=>by
  have hb0:=hb b (qp ..)
  have h2:=(List.pairwise_cons.1 h)
  have:=E4g (l:=l) (a:=b.toNat+1) (n:=n) h2.2 (λy hy=>⟨by have:=h2.1 y hy;omega,(hb y (qf _ hy)).2⟩);rw[List.length_cons];omega
theorem F8g {P:Program}{L:List (Nat×List Bool)}{f:FuncId}{fn:Func}{ac:ACode}{args:List AV}{r:AV}(N:Nat)(rvs:List (Nat×Option (Option Nat)))(hm:P.follows .mixedOrders=true)(hL:okE P L=true)(hf:P.funcs[f]? =some fn)(hc:N8 P L fn.ntmps (fn.body.getD .skip)=some ac)
  (h: @Wpi P N [] ac (C0i N rvs [r]) (A02 args []))(hN:fn.ntmps=N:=by kernel_rfl)(hts:A6e P fn.results.toList=some rvs:=by kernel_rfl)(hb:fn.body=some (fn.body.getD .skip):=by kernel_rfl)(hname:(fn.name != "runtime.NumGoroutine")=true:=by kernel_rfl)(hlt:(rvs.all λp=>p.1.blt N)=true:=by decide)(hl:(args.length.ble N)=true:=by kernel_rfl):
  D5 P f args [] r []:=B5t (ac:= .mark ac) hm hf hb hname (have e:F2 P fn.ntmps (fn.body.getD .skip)=some ac.strip:=cs2 hL hc;e) hN hts hlt hl h
def sol(w:Api.World)(x:B3):List Row×List cG:=A09 (cRA w x x.cB.length).1 (S0 w x) w.cM.eG
def F7z(b:cE)(s:cG):cE:=W8 {b with dO:=s.dO,dA:=s.dA}
def A7m(w:Api.World)(x:B3)(n:Nat):List cE:=itr (λk B=>if(x.cC.contains ((J7 w x).getD k 0)&&(B.getD ((J7 w x).getD k 0).toNat dF_).cS==3)=true then B.set ((J7 w x).getD k 0).toNat (F7z ((vB w x x.cC.length).getD ((J7 w x).getD k 0).toNat dF_) ((sol w x).2.getD k dF_))else B) n w.cC
def F70(w:Api.World)(x:B3)(k:Nat)(j:cF):cF:=jst j (fB w x j.cU).1 (fB w x j.cV).1 (sol w x).1 ((cRA w x x.cB.length).2.getD k 0)
def B0e(w:Api.World)(x:B3)(n:Nat):List cF:=itr (λk J=>J.set (x.cD.getD k 0).toNat (F70 w x k (w.cD.getD (x.cD.getD k 0).toNat dF_))) n w.cD
def B0d(w:Api.World)(x:B3)(n:Nat):List cX:=itr (λk C=>C.set (x.cB.getD k 0).toNat (cst (w.cB.getD (x.cB.getD k 0).toNat dF_) (sol w x).1 ((cRA w x x.cB.length).2.getD (x.cD.length+k) 0))) n w.cB
theorem E09(w:Api.World)(x:B3)(n:Nat):(A7m w x n).length=w.cC.length:=U2 (λs:List cE=>s.length) (λi s=>by split <;> simp) n _
theorem C4r(w:Api.World)(x:B3)(n:Nat):(B0e w x n).length=w.cD.length:=U2 (λs:List cF=>s.length) (λi s=>by simp) n _
theorem C4q(w:Api.World)(x:B3)(n:Nat):(B0d w x n).length=w.cB.length:=U2 (λs:List cX=>s.length) (λi s=>by simp) n _
theorem F5c(w:Api.World)(x:B3):(sol w x).1.length=(cRA w x x.cB.length).1.length/\(sol w x).2.length=(S0 w x).length:=by
 have h:=λk=>U2 (λs:(List Row)×(List cG)=>s.1.length) (f:=M4) (λi s=>by unfold M4;simp) k
 have h2:=λk=>U2 (λs:(List Row)×(List cG)=>s.2.length) (f:=M4) (λi s=>by unfold M4;simp) k;unfold sol A09;exact⟨(h _ _).trans (D6n _),(h2 _ _).trans (D98 _ _)⟩
instance(w:Api.World)(x:B3):Decidable (pOk w x):=inferInstanceAs (Decidable (_/\_/\_/\_))
def D2c(w:Api.World)(x:B3):Api.World:=
 if A6p w x (A1l w x)=false then w
 else if ¬pOk w x\/(S0 w x).length=0 then w
 else {w with cC:=A7m w x (J7 w x).length,cD:=B0e w x x.cD.length,cB:=B0d w x x.cB.length}
theorem D3p(w:Api.World)(x:B3)(hw:Wsm w)(hx:Ism x)(h:A6p w x (A1l w x)=false):cA_ 57 [.agg w.enc, .agg x.enc] [] (.agg w.enc) []:=by have hA:=A9r w x hw hx;rw[h]at hA;refine M3 189 [(4,some (some 11))] hm A6 Tryz.func57 rfl (st_ ?_);refine J5 ev_ K1 (U5 w hw) (st_ ?_);refine A0 hA rfl ?_;simp only[go_sem,go_sem_proc]
theorem D3q(w:Api.World)(x:B3)(hw:Wsm w)(hx:Ism x)(ha:A6p w x (A1l w x)=true)(h: ¬pOk w x):cA_ 57 [.agg w.enc, .agg x.enc] [] (.agg w.enc) []:=by have hA:=A9r w x hw hx;rw[ha]at hA;refine M3 189 [(4,some (some 11))] hm A6 Tryz.func57 rfl (st_ ?_);refine J5 ev_ K1 (U5 w hw) (st_ ?_);refine A0 hA rfl (st_ ?_);refine A0 (D7v w x hw hx h) rfl ?_;simp only[go_sem,go_sem_proc]
theorem D3r(w:Api.World)(x:B3)(hw:Wsm w)(hx:Ism x)(ha:A6p w x (A1l w x)=true)(h:pOk w x)(h0:(S0 w x).length=0)(hP: ∀c∈w.cB,c.cL.cQ.length<=2):cA_ 57 [.agg w.enc, .agg x.enc] [] (.agg w.enc) []:=by
 have hA:=A9r w x hw hx;rw[ha]at hA;refine M3 189 [(4,some (some 11))] hm A6 Tryz.func57 rfl (st_ ?_);refine J5 ev_ K1 (U5 w hw) (st_ ?_);refine A0 hA rfl (st_ ?_);have hN:=C49 w x hw hx h hP
 have hE:S0 w x= []:=qx.1 h0;rw[hE]at hN;refine J5 ev_ K1 hN (st_ ?_);rw[zc (by rfl)];trivial
def B2n(w:Api.World)(B:List cE)(J:List cF)(C:List cX):List (Nat×A7):= [(80, .box World.zero),(96, .box [sI w.cM.dZ,sI w.cM.eD.X,sI w.cM.eD.Y,sI w.cM.eG,sI w.cM.eA, .sl 7 0 w.cC.length w.cC.length, .sl 8 0 w.cD.length w.cD.length, .sl 9 0 w.cB.length w.cB.length, .sl 10 0 w.cT.length w.cT.length,sI w.dK,sI w.eJ]),(7, .arr 20 (B0 cE.enc dF_ B)),(8, .arr 24 (B0 cF.enc dF_ J)),(9, .arr 7 (B0 cX.enc dF_ C)),(10, .arr 4 (B0 cR.enc dF_ w.cT))]
attribute [go_sem] B2n
def C0v(w:Api.World)(x:B3):Slots:= [(2, .cA, .dE w.enc),(3, .cA, .dE x.enc),(4, .cA, .ptr 80 0 0 1),(5, .cA, .ptr 96 0 0 1),(6, .cA, .ptr 6 0 0 1),(7, .cA,A4 14 Row.enc dF_ (sol w x).1),(8, .cA,A4 5 cG.enc dF_ (sol w x).2)]
attribute [go_sem] C0v
def D4p(w:Api.World)(x:B3):Slots:= [(2, .cA, .dE w.enc),(3, .cA, .dE x.enc),(4, .cA, .ptr 80 0 0 1),(5, .cA, .ptr 96 0 0 1)]
attribute [go_sem] D4p
theorem D3s(w:Api.World)(x:B3)(hw:Wsm w)(hx:Ism x)(ha:A6p w x (A1l w x)=true)(h:pOk w x)(h0:(S0 w x).length≠0)(hP: ∀c∈w.cB,c.cL.cQ.length<=2)(hR:(cRA w x x.cB.length).1.length<=1048576):cA_ 57 [.agg w.enc, .agg x.enc] [] (.agg ({w with cC:=A7m w x (J7 w x).length,cD:=B0e w x x.cD.length,cB:=B0d w x x.cB.length}:Api.World).enc) []:=by
 have hA:=A9r w x hw hx;rw[ha]at hA;have hN:=C49 w x hw hx h hP
 have hbl:=D4z w x
 have hS0:(S0 w x).length=(J7 w x).length:=E85 w x _ (ze _)
 have hbn:(J7 w x).length<=1048576:=by
  have:=E4g (a:=0) (n:=w.cC.length) (E9v w x) (λy hy=>by have:=hbl y hy;omega)
  have:=hw.1;omega
 have hV:=D51 (cRA w x x.cB.length).1 (S0 w x) w.cM.eG o_ hR;rw[show A09 (cRA w x x.cB.length).1 (S0 w x) w.cM.eG=sol w x from rfl]at hV;obtain⟨hs1,hs2⟩:=F5c w x;have hbase:=E64 w x x.cB.length
 have hra:=C8b w x hP (B8f h.2.2.1) x.cB.length (ze _);obtain⟨hv,a1,a2,a3⟩:=h;have hCx:=B8f a2
 have hJx:=B8f a3
 have a1':=D0s a1;obtain⟨hx1,hx2,hx3⟩:=hx;refine F8g 189 [(4,some (some 11))] hm A6 Tryz.func57 rfl ?_;refine B2 [(2, .eP, .dE w.enc),(3, .eP, .dE x.enc),(4, .cA, .ptr 80 0 0 1)] [(80, .box World.zero)] (B9 hm ?_) ?_
 ·refine st_ ?_;refine A9 [] [] (st_ ?_);exact eE_
 refine B2 (D4p w x) (B2n w (w.cC) (w.cD) (w.cB)) (B9 hm ?_) ?_
 ·refine st_ ?_;refine J5 ev_ K1 (U5 w hw) (st_ ?_);refine A9 [(7,400),(8,401),(9,402),(10,403)] [] ?_;simp only[go_sem,go_sem_proc]
 refine B2 (D4p w x) (B2n w (w.cC) (w.cD) (w.cB)) (B9 hm ?_) ?_
 ·refine st_ ?_;refine A0 hA rfl (st_ ?_);refine A9 [] [] ?_;simp only[go_sem,go_sem_proc]
 refine B2 (D4p w x++ [(6, .cA, .ptr 6 0 0 1)]) (B2n w (w.cC) (w.cD) (w.cB)++pbO w x (vB w x x.cC.length) (S0 w x) (cRA w x x.cB.length).1 (cRA w x x.cB.length).2) (B9 hm ?_) ?_
 ·refine st_ ?_;refine J5 ev_ K1 hN (st_ ?_);refine A9 [(6,533),(1,528),(3,530),(4,531),(5,532)] [] (st_ ?_);exact eE_
 refine B2 (D4p w x++ [(6, .cA, .ptr 6 0 0 1)]) (B2n w (w.cC) (w.cD) (w.cB)++pbO w x (vB w x x.cC.length) (S0 w x) (cRA w x x.cB.length).1 (cRA w x x.cB.length).2) (B9 hm ?_) ?_
 ·refine st_ ?_;rw[zb (by simpa using h0)];refine A9 [] [] (st_ ?_);exact eE_
 refine B2 (D4p w x++ [(6, .cA, .ptr 6 0 0 1),(7, .eP,A4 14 Row.enc dF_ (sol w x).1),(8, .eP,A4 5 cG.enc dF_ (sol w x).2)]) (B2n w (w.cC) (w.cD) (w.cB)++A4y w x (vB w x x.cC.length) (S0 w x) (cRA w x x.cB.length).1 (cRA w x x.cB.length).2) (B9 hm ?_) ?_
 ·refine st_ ?_;refine J5 ev_ K1 hV (st_ ?_);refine A9 [] [] (st_ ?_);exact eE_
 refine B2 (C0v w x) (B2n w (A7m w x ((J7 w x).length)) (w.cD) (w.cB)++A4y w x (vB w x x.cC.length) (S0 w x) (cRA w x x.cB.length).1 (cRA w x x.cB.length).2) (B2 (C0v w x++ [(62, .cA,A4 1 C8 0 (J7 w x)),(63, .cA,sI ((J7 w x).length)),(64, .cA,sI (0:Nat))]) (B2n w (A7m w x (0)) (w.cD) (w.cB)++A4y w x (vB w x x.cC.length) (S0 w x) (cRA w x x.cB.length).1 (cRA w x x.cB.length).2) (B9 hm ?_) (V0 ?_)) ?_
 ·rw[show A7m w x 0=w.cC from rfl];refine st_ ?_;refine A9 [] [] (st_ ?_);exact eE_
 ·refine B1 hm (ι:= {k:Nat // k<=(J7 w x).length}) (λk=>(C0v w x++ [(62, .cA,A4 1 C8 0 (J7 w x)),(63, .cA,sI ((J7 w x).length)),(64, .cA,sI (k.1:Nat))])) (λk=>B2n w (A7m w x (k.1)) (w.cD) (w.cB)++A4y w x (vB w x x.cC.length) (S0 w x) (cRA w x x.cB.length).1 (cRA w x x.cB.length).2) (λk=>(J7 w x).length-k.1) ⟨0,zm _⟩ ?_ ?_
  ·refine A9 [] [] (st_ ?_);exact eE_
  ·rintro⟨k,hk⟩;dsimp only;have hn:A7m w x (k+1)=_:=H7 ..
   have hl:=E09 w x k
   have hfin:(J7 w x).length<=k->A7m w x k=A7m w x (J7 w x).length:=λh=>by rw[show k=(J7 w x).length by omega]
   rw[show itr _ k w.cC=A7m w x k from rfl]at hn;generalize A7m w x k=B at hn hl hfin⊢;by_cases hlt:k<(J7 w x).length;rotate_left
   ·refine st_ ?_;rw[zb o_,<-hfin o_];refine A9 [] [] (st_ ?_);exact eE_
   have hi:=hbl _ (B6 (l:=J7 w x) (i:=k) 0 hlt);refine st_ ?_;rw[zc o_];generalize(J7 w x).getD k 0=i at hn hi⊢;refine⟨bE_,?_⟩;obtain⟨q,hq⟩:=D5r x.cC i hx1 a1'.1;refine A0 hq rfl (st_ ?_);refine⟨λ_=>⟨hl.symm,o_⟩,λ_=>hl.symm,?_⟩;by_cases hc:(x.cC.contains i&&(B.getD i.toNat dF_).cS==3)=true;rotate_left
   ·rw[zb hc]at hn⊢;refine A8 ⟨k+1,o_⟩ (by show(J7 w x).length-(k+1)<(J7 w x).length-k;omega) ?_;simp only[hn];refine A9 [] [] (st_ ?_);exact eE_
   rw[zc hc]at hn⊢;refine⟨⟨hi.1,by rw[B4t];exact hi.2⟩,?_⟩;have hbm:=D8e hw x x.cC.length _ (B6 (l:=vB w x x.cC.length) (i:=i.toNat) dF_ (by rw[B4t];omega));unfold F7z at hn;generalize(vB w x x.cC.length).getD i.toNat dF_=b at hn hbm⊢;refine A0 (A40 b hbm) rfl (st_ ?_);refine⟨bE_,bE_,?_⟩;refine A0 (A18 {b with dO:=((sol w x).2.getD k dF_).dO,dA:=((sol w x).2.getD k dF_).dA}) rfl (st_ ?_);refine⟨⟨hl.symm,o_⟩,hl.symm,?_⟩;refine A8 ⟨k+1,o_⟩ (by show(J7 w x).length-(k+1)<(J7 w x).length-k;omega) ?_;simp only[hn];refine A9 [] [] (st_ ?_)
   (with_reducible and_intros) <;> first |exact A22 _ o_ rfl rfl |exact eE_
 refine B2 (C0v w x) (B2n w (A7m w x (J7 w x).length) (B0e w x (x.cD.length)) (w.cB)++A4y w x (vB w x x.cC.length) (S0 w x) (cRA w x x.cB.length).1 (cRA w x x.cB.length).2) (B2 (C0v w x++ [(114, .cA,A4 1 C8 0 x.cD),(115, .cA,sI x.cD.length),(116, .cA,sI (0:Nat))]) (B2n w (A7m w x (J7 w x).length) (B0e w x (0)) (w.cB)++A4y w x (vB w x x.cC.length) (S0 w x) (cRA w x x.cB.length).1 (cRA w x x.cB.length).2) (B9 hm ?_) (V0 ?_)) ?_
 ·rw[show B0e w x 0=w.cD from rfl];refine st_ ?_;refine A9 [] [] (st_ ?_);exact eE_
 ·refine B1 hm (ι:= {k:Nat // k<=x.cD.length}) (λk=>(C0v w x++ [(114, .cA,A4 1 C8 0 x.cD),(115, .cA,sI x.cD.length),(116, .cA,sI (k.1:Nat))])) (λk=>B2n w (A7m w x (J7 w x).length) (B0e w x (k.1)) (w.cB)++A4y w x (vB w x x.cC.length) (S0 w x) (cRA w x x.cB.length).1 (cRA w x x.cB.length).2) (λk=>x.cD.length-k.1) ⟨0,zm _⟩ ?_ ?_
  ·refine A9 [] [] (st_ ?_);exact eE_
  ·rintro⟨k,hk⟩;dsimp only;have hn:B0e w x (k+1)=_:=H7 ..
   have hl:=C4r w x k
   have hfin:x.cD.length<=k->B0e w x k=B0e w x x.cD.length:=λh=>by rw[show k=x.cD.length by omega]
   rw[show itr _ k w.cD=B0e w x k from rfl]at hn;generalize B0e w x k=J at hn hl hfin⊢;by_cases hlt:k<x.cD.length;rotate_left
   ·refine st_ ?_;rw[zb o_,<-hfin o_];refine A9 [] [] (st_ ?_);exact eE_
   have hi:=hJx _ (B6 (l:=x.cD) (i:=k) 0 hlt)
   have hb0:=hbase _ (B6 (l:=(cRA w x x.cB.length).2) (i:=k) 0 o_);refine st_ ?_;rw[zc o_];generalize x.cD.getD k 0=i at hn hi⊢;refine⟨bE_,hi,?_⟩;unfold F70 at hn;generalize w.cD.getD i.toNat dF_=j at hn⊢;have hF:=λid=>C4h w x (vB w x x.cC.length) (S0 w x) (cRA w x x.cB.length).1 (cRA w x x.cB.length).2 id (by rw[B4t];exact hbl) o_
   have hsa:=C8o hw x j.cU
   have hsb:=C8o hw x j.cV;unfold fB at hn hsa hsb;refine K6 (hF j.cU) C3u C3u (by simp[A4y]) (by simp[upd,go_sem,go_sem_proc]) (by simp[A4y]) E27 rfl ?_;generalize pfR w x (vB w x x.cC.length) j.cU=a at hn hsa⊢;refine st_ ?_;refine K6 (hF j.cV) C3u C3u (by simp[A4y]) (by simp[upd,go_sem,go_sem_proc]) (by simp[A4y]) E27 rfl ?_;generalize pfR w x (vB w x x.cC.length) j.cV=b at hn hsb⊢;refine st_ ?_;refine⟨bE_,?_⟩;refine A0 (C9j j a.1 b.1 (sol w x).1 ((cRA w x x.cB.length).2.getD k 0) hsa.2 hsb.2 o_) rfl (st_ ?_);refine⟨⟨hl.symm,o_⟩,hl.symm,?_⟩;refine A8 ⟨k+1,o_⟩ (by show x.cD.length-(k+1)<x.cD.length-k;omega) ?_;simp only[hn];refine A9 [] [] (st_ ?_)
   (with_reducible and_intros) <;> first |exact A22 _ o_ rfl rfl |exact eE_
 refine B2 (C0v w x) (B2n w (A7m w x (J7 w x).length) (B0e w x x.cD.length) (B0d w x (x.cB.length))++A4y w x (vB w x x.cC.length) (S0 w x) (cRA w x x.cB.length).1 (cRA w x x.cB.length).2) (B2 (C0v w x++ [(158, .cA,A4 1 C8 0 x.cB),(159, .cA,sI x.cB.length),(160, .cA,sI (0:Nat))]) (B2n w (A7m w x (J7 w x).length) (B0e w x x.cD.length) (B0d w x (0))++A4y w x (vB w x x.cC.length) (S0 w x) (cRA w x x.cB.length).1 (cRA w x x.cB.length).2) (B9 hm ?_) (V0 ?_)) ?_
 ·rw[show B0d w x 0=w.cB from rfl];refine st_ ?_;refine A9 [] [] (st_ ?_);exact eE_
 ·refine B1 hm (ι:= {k:Nat // k<=x.cB.length}) (λk=>(C0v w x++ [(158, .cA,A4 1 C8 0 x.cB),(159, .cA,sI x.cB.length),(160, .cA,sI (k.1:Nat))])) (λk=>B2n w (A7m w x (J7 w x).length) (B0e w x x.cD.length) (B0d w x (k.1))++A4y w x (vB w x x.cC.length) (S0 w x) (cRA w x x.cB.length).1 (cRA w x x.cB.length).2) (λk=>x.cB.length-k.1) ⟨0,zm _⟩ ?_ ?_
  ·refine A9 [] [] (st_ ?_);exact eE_
  ·rintro⟨k,hk⟩;dsimp only;have hn:B0d w x (k+1)=_:=H7 ..
   have hl:=C4q w x k
   have hfin:x.cB.length<=k->B0d w x k=B0d w x x.cB.length:=λh=>by rw[show k=x.cB.length by omega]
   rw[show itr _ k w.cB=B0d w x k from rfl]at hn;generalize B0d w x k=C at hn hl hfin⊢;by_cases hlt:k<x.cB.length;rotate_left
   ·refine st_ ?_;rw[zb o_,<-hfin o_];refine A9 [] [] (st_ ?_);exact eE_
   have hi:=hCx _ (B6 (l:=x.cB) (i:=k) 0 hlt)
   have hb0:=hbase _ (B6 (l:=(cRA w x x.cB.length).2) (i:=x.cD.length+k) 0 o_);refine st_ ?_;rw[zc o_];generalize x.cB.getD k 0=i at hn hi⊢;have hpt:=hP _ (B6 (l:=w.cB) (i:=i.toNat) dF_ o_);generalize w.cB.getD i.toNat dF_=c at hn hpt⊢;have hw1:IntKind.i64.wrap ((x.cD.length:Int)+(k:Nat))=((x.cD.length+k:Nat):Int):=by rw[E6r o_ o_];omega
   simp only[hw1,Int.toNat_natCast];refine⟨bE_,hi,bE_,?_⟩;refine A0 (C5e c (sol w x).1 ((cRA w x x.cB.length).2.getD (x.cD.length+k) 0) o_ o_) rfl (st_ ?_);refine⟨⟨hl.symm,o_⟩,hl.symm,?_⟩;refine A8 ⟨k+1,o_⟩ (by show x.cB.length-(k+1)<x.cB.length-k;omega) ?_;simp only[hn];refine A9 [] [] (st_ ?_)
   (with_reducible and_intros) <;> first |exact A22 _ o_ rfl rfl |exact eE_
 refine B9 hm ?_;have hq1:=E09 w x (J7 w x).length
 have hq2:=C4r w x x.cD.length
 have hq3:=C4q w x x.cB.length;refine st_ ?_;rw[hq1,hq2,hq3];exact⟨⟨rfl,rfl,rfl⟩,D0 _,D0 _,D0 _⟩
theorem C71(w:Api.World)(x:B3)(hw:Wsm w)(hx:Ism x)(hP:B7 w=0-> ∀c∈w.cB,c.cL.cQ.length<=2)(hJ:w.cD.length<=20000)(hC:w.cB.length<=230400):cA_ 57 [.agg w.enc, .agg x.enc] [] (.agg (D2c w x).enc) []:=by
 unfold D2c;by_cases ha:A6p w x (A1l w x)=false
 ·rw[zc ha];exact D3p w x hw hx ha
 rw[zb ha];have ha:=qK _▸ha;by_cases hp:pOk w x;rotate_left
 ·rw[zc (.inl hp)];exact D3q w x hw hx ha hp
 have hP:=hP hp.1;by_cases h0:(S0 w x).length=0
 ·rw[zc (.inr h0)];exact D3r w x hw hx ha hp h0 hP
 rw[zb (λh=>h.elim (λh=>h hp) h0)];refine D3s w x hw hx ha hp h0 hP ?_;have h1:=C8b w x hP (B8f hp.2.2.1) x.cB.length (ze _)
 have h2:=(D0s hp.2.2.1).2
 have h3:=(D0s hp.2.2.2).2;omega
def C8k(e:Int×Int):List AV:= [sI e.1,sI e.2,sI 0,sI 0,sI 0]
attribute [go_sem] C8k
def wkB(b:cE):cE:= {b with eX:=false,eM:=0}
def B0j(s:List cE×List (Int×Int))(i:Int):List cE×List (Int×Int):=if(s.1.getD i.toNat dF_).eX=true then(s.1.set i.toNat (wkB (s.1.getD i.toNat dF_)),s.2++ [(7,(s.1.getD i.toNat dF_).ID)])else s
def wkF(w:Api.World)(l:List Int):List cE×List (Int×Int):=l.foldl B0j (w.cC,[])
theorem F5j(w:Api.World):wkF w []=(w.cC,[]):=rfl
theorem E1m {w:Api.World}{l:List Int}{k:Nat}(h:k<l.length):wkF w (l.take (k+1))=B0j (wkF w (l.take k)) (l.getD k 0):=by unfold wkF;rw[K9 0 h];simp
theorem E6q(s:List cE×List (Int×Int))(i:Int):(B0j s i).1.length=s.1.length/\(B0j s i).2.length<=s.2.length+1:=by unfold B0j;split <;> simp
theorem E4l(w:Api.World)(l:List Int):(wkF w l).1.length=w.cC.length/\(wkF w l).2.length<=l.length:=by
 have: ∀(l:List Int) (s:List cE×List (Int×Int)),(l.foldl B0j s).1.length=s.1.length/\(l.foldl B0j s).2.length<=s.2.length+l.length:=by
  intro l;induction l with
  |nil=>intro s;simp
  |cons a l ih=>intro s;have h1:=ih (B0j s a);have h2:=E6q s a;simp only[List.foldl_cons,List.length_cons];omega
 have:=this l (w.cC,[]);simpa[wkF]using this
def V6(w:Api.World)(bs:List cE):Api.World:= {w with cC:=bs}
def F8j(k:Nat)(e:List (Int×Int)):List (Nat×A7):= [(k, .arr 5 (B0 C8k dF_ e))]
attribute [go_sem] F8j V6
def D75(w:Api.World)(bs:List cE)(x:B3)(l:List Int):List (Nat×A7):= [(6, .box (D90 w x l.length)),(5, .arr 1 (B0 C8 0 l)),(1, .arr 20 (B0 cE.enc dF_ bs)),(2, .arr 24 (B0 cF.enc dF_ w.cD)),(3, .arr 7 (B0 cX.enc dF_ w.cB)),(4, .arr 4 (B0 cR.enc dF_ w.cT))]
attribute [go_sem] D75
def wkR(w:Api.World)(x:B3):List cE×List (Int×Int):=if A6p w x (A1l w x)=true then wkF w (A1l w x)else(w.cC,[])
def upF(w:Api.World)(l:List Int):List cE:=l.foldl (λbs i=>bs.set i.toNat (B3b (bs.getD i.toNat dF_))) w.cC
theorem F5f(w:Api.World):upF w []=w.cC:=rfl
theorem F1x {w:Api.World}{l:List Int}{k:Nat}(h:k<l.length):upF w (l.take (k+1))=(upF w (l.take k)).set (l.getD k 0).toNat (B3b ((upF w (l.take k)).getD (l.getD k 0).toNat dF_)):=by unfold upF;rw[K9 0 h];simp
theorem E4j(w:Api.World)(l:List Int):(upF w l).length=w.cC.length:=by
 have: ∀(l:List Int) (s:List cE),(l.foldl (λbs i=>bs.set i.toNat (B3b (bs.getD i.toNat dF_))) s).length=s.length:=by
  intro l;induction l with
  |nil=>intro s;rfl
  |cons a l ih=>intro s;rw[List.foldl_cons,ih];simp
 exact this l w.cC
theorem E10 {α:Type}(l:List α)(k:Nat)(d:α):l.getD k d∈l\/l.getD k d=d:=by
 by_cases h:k<l.length
 ·exact .inl (B6 d h)
 ·right;simp[List.getD,Nat.le_of_not_lt h]
theorem F71 {w:Api.World}(hw:Wsm w)(l:List Int):Wsm (V6 w (upF w l)):=by
 obtain⟨w1,w2,w3,w4,w5,w6⟩:=hw;have hd:cE.sm default:=⟨by decide,λf hf=>by cases hf⟩
 have: ∀(l:List Int) (s:List cE),(∀b∈s,cE.sm b)-> ∀b∈l.foldl (λbs i=>bs.set i.toNat (B3b (bs.getD i.toNat dF_))) s,cE.sm b:=by
  intro l;induction l with
  |nil=>exact λs h=>h
  |cons a l ih=>
   intro s h;refine ih _ λb hb=> ?_;rcases yz hb with h1 |rfl
   ·exact h b h1
   ·show cE.sm (s.getD a.toNat dF_);rcases E10 s a.toNat dF_ with h2 |h2
    ·exact h _ h2
    ·rw[h2];exact hd
 refine⟨?_,w2,w3,w4,this l _ w5,w6⟩;show(upF w l).length<=_;rw[E4j];exact w1
def F1s(b:cE):cE:= {b with eX:=true,dO:=⟨0,0⟩,dA:=0}
def B4p(s:List cE×List (Int×Int))(i:Int):List cE×List (Int×Int):=(s.1.set i.toNat (F1s (s.1.getD i.toNat dF_)),s.2++ [(6,(s.1.getD i.toNat dF_).ID)])
def slF(bs:List cE)(l:List Int):List cE×List (Int×Int):=l.foldl B4p (bs,[])
theorem F5b(bs:List cE):slF bs []=(bs,[]):=rfl
theorem F1p {bs:List cE}{l:List Int}{k:Nat}(h:k<l.length):slF bs (l.take (k+1))=B4p (slF bs (l.take k)) (l.getD k 0):=by unfold slF;rw[K9 0 h];simp
theorem E4f(bs:List cE)(l:List Int):(slF bs l).1.length=bs.length/\(slF bs l).2.length<=l.length:=by
 have: ∀(l:List Int) (s:List cE×List (Int×Int)),(l.foldl B4p s).1.length=s.1.length/\(l.foldl B4p s).2.length<=s.2.length+l.length:=by
  intro l;induction l with
  |nil=>intro s;simp
  |cons a l ih=>intro s;have h1:=ih (B4p s a);simp only[B4p,zM,zd,List.length_singleton]at h1;simp only[List.foldl_cons,List.length_cons,B4p];omega
 have:=this l (bs,[]);simpa[slF]using this
def B0h(w:Api.World)(x:B3)(l:List Int):Bool:=!(decide (w.cM.eA<=0))&& !(decide (l.length=0))&& !(l.any λi=>decide ((B3v (V6 w (upF w l)) i).eM<w.cM.eA))&& !(B5c (V6 w (upF w l)) x)
def B4s(w:Api.World)(x:B3):List cE×List (Int×Int):=if A6p w x (A1l w x)=true then(if B0h w x (A1l w x)=true then slF (upF w (A1l w x)) (A1l w x)else(upF w (A1l w x),[]))else(w.cC,[])
def eB(g:cE->cE)(l:List cE)(i:Nat):List cE:=(l.take i).map g++l.drop i
theorem F6c(g:cE->cE)(l:List cE)(i:Nat):(eB g l i).length=l.length:=by simp[eB];omega
theorem F8e(g:cE->cE){l:List cE}{i:Nat}(h:i<l.length):(eB g l i).getD i dF_=l.getD i default:=by
 unfold eB;have hq:((l.take i).map g).length=i:=by simp;omega
 simp only[List.getD];rw[zY o_,hq,yt,qU,Nat.add_zero]
theorem F6d(g:cE->cE){l:List cE}{i:Nat}(h:i<l.length):eB g l (i+1)=(eB g l i).set i (g (l.getD i dF_)):=by
 unfold eB;have hq:((l.take i).map g).length=i:=by simp;omega
 rw[K9 dF_ h,qN,List.map_singleton,List.set_append_right _ _ o_,hq,yt,zx];congr 1;rw[List.drop_eq_getElem_cons h];rfl
theorem D0e(w:Api.World)(hw:Wsm w)(f:FuncId)(cap:List AV)(g:cE->cE)(h2:F6 cap= [])(hr: ∀ρ,A9k ρ cap=cap)
  (hp: ∀b∈w.cC,cA_ f (.agg b.enc::cap) [] (.agg (g b).enc) []):
  cA_ 114 [.agg w.enc, .fn (.func f) [] cap] [] (.agg (V6 w (w.cC.map g)).enc) []:=by
 have hbn:=hw.1;refine M3 26 [(4,some (some 11))] hm A6 Tryz.func114 rfl (st_ ?_);refine J5 ev_ K1 (U5 w hw) (st_ ?_);refine B1 hm (ι:= {i:Nat // i<=w.cC.length}) (λi=> [(1, .cA, .fn (.func f) [] cap),(2, .cA, .ptr 48 0 0 1),(4, .cA, .ptr 80 0 0 1),(10, .cA, .sl 1 0 w.cC.length w.cC.length),(11, .cA,sI w.cC.length),(12, .cA,sI (i.1:Nat))]) (λi=> [(48, .box [sI w.cM.dZ,sI w.cM.eD.X,sI w.cM.eD.Y,sI w.cM.eG,sI w.cM.eA, .sl 1 0 w.cC.length w.cC.length, .sl 2 0 w.cD.length w.cD.length, .sl 3 0 w.cB.length w.cB.length, .sl 4 0 w.cT.length w.cT.length,sI w.dK,sI w.eJ]),(80, .box World.zero),(1, .arr 20 (B0 cE.enc dF_ (eB g w.cC i.1))),(2, .arr 24 (B0 cF.enc dF_ w.cD)),(3, .arr 7 (B0 cX.enc dF_ w.cB)),(4, .arr 4 (B0 cR.enc dF_ w.cT))]) (λi=>w.cC.length-i.1) ⟨0,zm _⟩ ?_ ?_
 ·rw[show eB g w.cC 0=w.cC from rfl];simp only[World.zero];refine A9 [(1,144),(2,145),(3,146),(4,147)] [] (st_ ?_);exact⟨by rw[hr],λi hi=>by rw[h2]at hi;cases hi⟩
 ·rintro⟨k,hk⟩;dsimp only;have hn:=λh=>F6d g (l:=w.cC) (i:=k) h
  have hat:=λh=>F8e g (l:=w.cC) (i:=k) h
  have hl:=F6c g w.cC k
  have hfin:w.cC.length<=k->eB g w.cC k=w.cC.map g:=λh=>by simp[eB,show k=w.cC.length by omega]
  generalize eB g w.cC k=B at hn hat hl hfin⊢;refine st_ ?_;by_cases hlt:k<w.cC.length;rotate_left
  ·rw[zb o_,hfin o_,z7];exact⟨rfl,D0 _⟩
  rw[zc o_];refine⟨⟨hl.symm,o_⟩,hl.symm,?_⟩;rw[hat hlt];replace hn:=hn hlt;have hx:=hp _ (B6 (l:=w.cC) (i:=k) dF_ hlt);generalize w.cC.getD k dF_=b at hn hx⊢;refine A23 hx (by simp[h2,F6,AV.ids]) rfl (st_ ?_);refine⟨⟨hl.symm,o_⟩,hl.symm,?_⟩;refine A8 ⟨k+1,o_⟩ (by show w.cC.length-(k+1)<w.cC.length-k;omega) ?_;simp only[hn];refine A9 [] [] (st_ ?_);exact⟨by rw[hr],(λi hi=>by rw[h2]at hi;cases hi),bE_,A22 _ o_ rfl rfl⟩
end Go.Abs
end
