/- A part of the proof: contracts of functions that the statement reaches. -/
import Derived.Test.YtchcbiiammkhgaaGreatMN
set_option linter.unusedSimpArgs false
set_option linter.unusedVariables false
set_option linter.unnecessarySimpa false
set_option maxRecDepth 100000
set_option maxHeartbeats 2000000
noncomputable section
namespace Go.Abs
open Go.Proofs
open Api
def zBd:cF:=⟨0,0,⟨⟨0,0⟩,0⟩,⟨0,0⟩,0,⟨0,0⟩,0,0,0,0,false,false,false,false,0,[]⟩
theorem E5k(b:cF)(h:cF.sm b):cA_ D0g [.agg b.enc, .agg [sI 0,sI 0,sI 0,sI 0,sI 0,sI 0,sI 0,sI 0,sI 0,sI 0,sI 0,sI 0,sI 0,sI 0,sB false,sB false,sB false,sB false,sI 0, .sc (.slice none 0 0)]] [] (sB (decide (b=(⟨0,0,⟨⟨0,0⟩,0⟩,⟨0,0⟩,0,⟨0,0⟩,0,0,0,0,false,false,false,false,0,[]⟩:cF)))) []:=D5.args_le (C03 b zBd h) ⟨J0.refl _,J0.agg ⟨J0.refl _,J0.refl _,J0.refl _,J0.refl _,J0.refl _,J0.refl _,J0.refl _,J0.refl _,J0.refl _,J0.refl _,J0.refl _,J0.refl _,J0.refl _,J0.refl _,J0.refl _,J0.refl _,J0.refl _,J0.refl _,J0.refl _,J0.nil,trivial⟩,trivial⟩
theorem B3y: ∀(w:Api.World) (id:Int),Wsm w->Wsm (A7b w id):=by
 rintro w id ⟨h1,h2,h3,h4,h5,h6⟩;unfold A7b;split
 ·rename_i hc;refine⟨by simpa using h1,h2,h3,h4,λb hb=> ?_,h6⟩;rcases List.mem_or_eq_of_mem_set hb with hb |rfl
  ·exact h5 _ hb
  ·have hlt:=A3a w id
   have:=h5 (w.cC.getD (H5 w id).toNat dF_) (B8 dF_ (by omega));exact⟨this.1,this.2⟩
 ·exact⟨h1,h2,h3,h4,h5,h6⟩
theorem E6c {w:Api.World}(h:Wsm w)(l:List cG)(n f:Int)(hl:l.length<=1048576):Wsm ⟨w.cM,w.cC,l,w.cB,w.cT,n,f⟩:=⟨h.1,hl,h.2.2.1,h.2.2.2.1,h.2.2.2.2.1,h.2.2.2.2.2⟩
theorem G3u {w:Api.World}(h:Wsm w)(i:Nat)(b:cF)(hb:cF.sm b):Wsm ⟨w.cM,w.cC.set i b,w.cD,w.cB,w.cT,w.dJ,w.eK⟩:=⟨by simpa using h.1,h.2.1,h.2.2.1,h.2.2.2.1,λb' hb'=>by rcases List.mem_or_eq_of_mem_set hb' with k |rfl;exact h.2.2.2.2.1 _ k;exact hb,h.2.2.2.2.2⟩
def A0l(x:Api.Input):Int:=if((decide (x.cS<1))||(decide (12<x.cS)))=true then(10)else(let v1:=(uf x.cS);if(v1.1&&((decide (x.ID<1))||(decide (1099511627776<x.ID))))=true then(if(v1.1&&((decide (x.ID<1))||(decide (1099511627776<x.ID))))=true then(6)else(if((!v1.1)&&(x.ID != 0))=true then(if((!v1.1)&&(x.ID != 0))=true then(3)else(0))else(if((!v1.2.1)&&(!((x.cI.X==0)&&(x.cI.Y==0))))=true then(if((!v1.2.1)&&(!((x.cI.X==0)&&(x.cI.Y==0))))=true then(3)else(0))else(if((!v1.2.2)&&(x.Value != 0))=true then(if((!v1.2.2)&&(x.Value != 0))=true then(3)else(0))else(let v2:=(decide (x.cF=(⟨0,0,(⟨(⟨0,0⟩:cI),0⟩:cH),(⟨0,0⟩:cI),0,(⟨0,0⟩:cI),0,0,0,0,false,false,false,false,0,([]:List dB)⟩:cF)));if((x.cS != 9)&&(!v2))=true then(if((x.cS != 9)&&(!v2))=true then(3)else(0))else(if((x.cS != 11)&&(!((x.cG.ID==0)&&((x.cG.cS==0)&&((x.cG.cU==0)&&((x.cG.cV==0)&&((x.cG.dW.X==0)&&((x.cG.dW.Y==0)&&((x.cG.dR.X==0)&&((x.cG.dR.Y==0)&&((x.cG.eS.X==0)&&((x.cG.eS.Y==0)&&((x.cG.cX==0)&&((x.cG.dE==false)&&((x.cG.dN==0)&&((x.cG.dS==0)&&((x.cG.dH==false)&&((x.cG.dP==0)&&((x.cG.dU==0)&&((x.cG.dD==0)&&((x.cG.dI==0)&&((x.cG.dC==false)&&((x.cG.cQ.I0==0)&&((x.cG.cQ.I1==0)&&((x.cG.cQ.I2==0)&&(x.cG.cQ.I3==0))))))))))))))))))))))))))=true then(3)else(0)))))))else(let v3:=(A3x x.cI.X);let v4:=(A3x x.cI.Y);if(v1.2.1&&((!v3)||(!v4)))=true then(if(v1.2.1&&((!v3)||(!v4)))=true then(6)else(if((!v1.1)&&(x.ID != 0))=true then(if((!v1.1)&&(x.ID != 0))=true then(3)else(0))else(if((!v1.2.1)&&(!((x.cI.X==0)&&(x.cI.Y==0))))=true then(if((!v1.2.1)&&(!((x.cI.X==0)&&(x.cI.Y==0))))=true then(3)else(0))else(if((!v1.2.2)&&(x.Value != 0))=true then(if((!v1.2.2)&&(x.Value != 0))=true then(3)else(0))else(let v5:=(decide (x.cF=(⟨0,0,(⟨(⟨0,0⟩:cI),0⟩:cH),(⟨0,0⟩:cI),0,(⟨0,0⟩:cI),0,0,0,0,false,false,false,false,0,([]:List dB)⟩:cF)));if((x.cS != 9)&&(!v5))=true then(if((x.cS != 9)&&(!v5))=true then(3)else(0))else(if((x.cS != 11)&&(!((x.cG.ID==0)&&((x.cG.cS==0)&&((x.cG.cU==0)&&((x.cG.cV==0)&&((x.cG.dW.X==0)&&((x.cG.dW.Y==0)&&((x.cG.dR.X==0)&&((x.cG.dR.Y==0)&&((x.cG.eS.X==0)&&((x.cG.eS.Y==0)&&((x.cG.cX==0)&&((x.cG.dE==false)&&((x.cG.dN==0)&&((x.cG.dS==0)&&((x.cG.dH==false)&&((x.cG.dP==0)&&((x.cG.dU==0)&&((x.cG.dD==0)&&((x.cG.dI==0)&&((x.cG.dC==false)&&((x.cG.cQ.I0==0)&&((x.cG.cQ.I1==0)&&((x.cG.cQ.I2==0)&&(x.cG.cQ.I3==0))))))))))))))))))))))))))=true then(3)else(0)))))))else(let v6:=(A3x x.Value);if(v1.2.2&&(!v6))=true then(6)else(if((!v1.1)&&(x.ID != 0))=true then(if((!v1.1)&&(x.ID != 0))=true then(3)else(0))else(if((!v1.2.1)&&(!((x.cI.X==0)&&(x.cI.Y==0))))=true then(if((!v1.2.1)&&(!((x.cI.X==0)&&(x.cI.Y==0))))=true then(3)else(0))else(if((!v1.2.2)&&(x.Value != 0))=true then(if((!v1.2.2)&&(x.Value != 0))=true then(3)else(0))else(let v7:=(decide (x.cF=(⟨0,0,(⟨(⟨0,0⟩:cI),0⟩:cH),(⟨0,0⟩:cI),0,(⟨0,0⟩:cI),0,0,0,0,false,false,false,false,0,([]:List dB)⟩:cF)));if((x.cS != 9)&&(!v7))=true then(if((x.cS != 9)&&(!v7))=true then(3)else(0))else(if((x.cS != 11)&&(!((x.cG.ID==0)&&((x.cG.cS==0)&&((x.cG.cU==0)&&((x.cG.cV==0)&&((x.cG.dW.X==0)&&((x.cG.dW.Y==0)&&((x.cG.dR.X==0)&&((x.cG.dR.Y==0)&&((x.cG.eS.X==0)&&((x.cG.eS.Y==0)&&((x.cG.cX==0)&&((x.cG.dE==false)&&((x.cG.dN==0)&&((x.cG.dS==0)&&((x.cG.dH==false)&&((x.cG.dP==0)&&((x.cG.dU==0)&&((x.cG.dD==0)&&((x.cG.dI==0)&&((x.cG.dC==false)&&((x.cG.cQ.I0==0)&&((x.cG.cQ.I1==0)&&((x.cG.cQ.I2==0)&&(x.cG.cQ.I3==0))))))))))))))))))))))))))=true then(3)else(0)))))))))
theorem A0q(x:Api.Input)(h0:cF.sm x.cF):cA_ D6z [.agg x.enc] [] (sI (A0l x)) []:=by
 refine en1 hm A6 Tryz.func124 rfl rfl ?_;have:=E5k
 have:=λx1 x2 x3 x4 x5 x6 x7 x8 x9 x10 x11 x12 x13 x14 x15 x16 x17 x18 x19 x20 x21 h0=>cx_ (C03 x1 ⟨x2,x3,⟨⟨x4,x5⟩,x6⟩,⟨x7,x8⟩,x9,⟨x10,x11⟩,x12,x13,x14,x15,x16,x17,x18,x19,x20,x21⟩ h0)
 have:=D23
 have:=C03
 have:=C90
 have:=A0l.eq_1 x;exact K1
def W9(b:cF)(x:Api.Input):cF:=if(x.cS==1)=true then(let v1:=(F2 b);let v2:=(A5y b v1 x.cI);v2)else(if(x.cS==3)=true then(let v3:=(A2f b x.Value);v3)else(if(x.cS==2)=true then(let v4:=(A1e b.fF x.cI);(⟨b.ID,b.cS,b.cH,b.dL,b.cZ,v4,b.fH,b.eA,b.dX,b.eF,b.fG,b.eC,b.fD,b.eU,b.eJ,b.cK⟩:cF))else(if(x.cS==4)=true then((⟨b.ID,b.cS,(⟨x.cI,x.Value⟩:cH),b.dL,b.cZ,b.fF,b.fH,b.eA,b.dX,b.eF,b.fG,b.eC,b.fD,b.eU,b.eJ,b.cK⟩:cF))else(if(x.cS==5)=true then(let v5:=(W6 (⟨b.ID,b.cS,b.cH,x.cI,x.Value,b.fF,b.fH,b.eA,b.dX,b.eF,b.fG,b.eC,b.fD,b.eU,b.eJ,b.cK⟩:cF));v5)else(b)))))
theorem E09(b:cF)(x:Api.Input)(h0:cF.sm b):cA_ D9m [.agg b.enc, .agg x.enc] [] (.agg (W9 b x).enc) []:=by
 refine M3 48 [(4,some (some 20))] hm A6 Tryz.func293 rfl ?_;have:=h0.2
 have:=λx1 x2 x3 x4 x5 x6 x7 x8 x9 x10 x11 x12 x13 x14 x15 x16 x17 x18 x19 x20=>cx_ (A12 ⟨x1,x2,⟨⟨x3,x4⟩,x5⟩,⟨x6,x7⟩,x8,⟨x9,x10⟩,x11,x12,x13,x14,x15,x16,x17,x18,x19,x20⟩)
 have:=A2v
 have:=C9w
 have:=B8p
 have:=A3h
 have:=A12
 have:=W9.eq_1 b x;exact K1
def A4b(l:List Int)(k:Nat)(w:Api.World):Api.World:=if l.getD k 0=0 then w else A7b w (l.getD k 0)
def B6s(w:Api.World)(l:List Int):Api.World:=itr (A4b l) l.length w
theorem C4k(l:List Int){w:Api.World}(hw:Wsm w): ∀n,Wsm (itr (A4b l) n w)
 |0=>hw
 |n+1=>by
  rw[H6];have:=C4k l hw n;unfold A4b;split
  ·exact this
  ·exact B3y _ _ this
def A0h:List AV:= [sI 0,sI 0,sI 0,sI 0,sI 0, .sc (.slice none 0 0), .sc (.slice none 0 0), .sc (.slice none 0 0), .sc (.slice none 0 0),sI 0,sI 0]
theorem B5h(w:Api.World)(l:List Int)(hw:Wsm w)(hl:l.length<=4194304):cA_ D9y [.agg w.enc,A4 1 C6 0 l] [] (.agg (B6s w l).enc) []:=by
 refine M3 20 [(4,some (some 11))] hm A6 Tryz.func280 rfl (st_ ?_);refine B1 hm (ι:= {i:Nat // i<=l.length}) (λi=> [(2, .cA, .ptr 48 0 0 1),(4, .cA, .ptr 80 0 0 1),(7, .cA,A4 1 C6 0 l),(8, .cA,sI l.length),(9, .cA,sI i.1)])
  (λi=> [(48, .box (itr (A4b l) i.1 w).enc),(80, .box A0h)]) (λi=>l.length-i.1) ⟨0,by omega⟩ ?_ ?_
 ·refine B0 [] [] ?_;simp only[go_sem,go_sem_proc,A0h,J3]
 ·rintro⟨i,hi⟩;have hs:=C4k l hw i
  have hnext:itr (A4b l) (i+1) w=A4b l i (itr (A4b l) i w):=H6 ..;dsimp only;generalize hv:itr (A4b l) i w=v at hs hnext⊢;have hfin:l.length<=i->v=B6s w l:=λh=>by
   obtain rfl:i=l.length:=by omega
   exact hv.symm
  simp only[go_sem,go_sem_proc,A0h];split
  ·rename_i hlt;have hlt:i<l.length:=by omega
   refine⟨⟨by omega,by omega⟩,?_⟩;have fin: ∀(v':Api.World),v'=itr (A4b l) (i+1) w->True:=λ_ _=>trivial;by_cases h0:l.getD i 0=0
   ·rw[if_neg (by simpa using h0)];replace hnext:itr (A4b l) (i+1) w=v:=by rw[hnext];unfold A4b;rw[if_pos h0]
    refine A8 ⟨i+1,hlt⟩ (by show l.length-(i+1)<l.length-i;omega) ?_;simp only[hnext];refine B0 [] [] ?_;simp only[go_sem,go_sem_proc,A0h];exact(by rw[IntKind.wrap_i64];omega)
   ·rw[if_pos (by simpa using h0)];replace hnext:itr (A4b l) (i+1) w=A7b v (l.getD i 0):=by rw[hnext];unfold A4b;rw[if_neg h0]
    refine A0 (A39 v (l.getD i 0) hs) rfl (st_ ?_);refine A8 ⟨i+1,hlt⟩ (by show l.length-(i+1)<l.length-i;omega) ?_;simp only[hnext];refine B0 [] [] ?_;simp only[go_sem,go_sem_proc,A0h];exact(by rw[IntKind.wrap_i64];omega)
  ·rename_i hge;have hv:=hfin (by omega);subst hv;exact⟨rfl,rfl,rfl,rfl,rfl,D0 _,D0 _,D0 _,D0 _,rfl,rfl⟩
def zW:Api.World:=⟨⟨0,⟨0,0⟩,0,0⟩,[],[],[],[],0,0⟩
theorem A3j:Wsm zW:=⟨Nat.zero_le _,Nat.zero_le _,Nat.zero_le _,Nat.zero_le _,(λb hb=>by cases hb),(λc hc=>by cases hc)⟩
def bID(b:cF)(n:Int):cF:=⟨n,b.cS,b.cH,b.dL,b.cZ,b.fF,b.fH,b.eA,b.dX,b.eF,b.fG,b.eC,b.fD,b.eU,b.eJ,b.cK⟩
theorem E1l(w:Api.World)(b:cF)(hw:Wsm w)(hb:cF.sm b): ∃r:Api.World×Int×Int,Wsm r.1/\cA_ D9x [.agg w.enc, .agg b.enc] [] (.tup [.agg r.1.enc,sI r.2.1,sI r.2.2]) []:=by
 have hl:=hw.1
 have hb2:cF.sm (bID b w.dJ):=⟨hb.1,hb.2⟩;by_cases h1:(if 32<=(w.cC.length:Int)then true else decide (1099511627776<=w.dJ))=true
 ·refine⟨(zW,0,9),A3j,?_⟩;refine S1 41 [(4,some (some 11)),(5,none),(6,none)] hm A6 Tryz.func170 rfl (st_ ?_);rw[if_pos h1]
  (repeat' (with_reducible apply And.intro)) <;> first |rfl |exact G8 rfl
 have h3:(w.cC.length:Int)<32:=by
  rcases Int.lt_or_le (w.cC.length:Int) 32 with h |h
  ·exact h
  ·exact absurd (by rw[if_pos h]) h1
 by_cases h2:W7 (bID b w.dJ)=0
 ·refine⟨(⟨w.cM,w.cC++ [bID b w.dJ],w.cD,w.cB,w.cT,IntKind.i64.wrap (w.dJ+1),w.eK⟩,w.dJ,0),⟨by show(w.cC++ [bID b w.dJ]).length<=_;rw[List.length_append,List.length_singleton];omega,hw.2.1,hw.2.2.1,hw.2.2.2.1,λx hx=>by rcases List.mem_append.1 hx with k |k;exact hw.2.2.2.2.1 _ k;rw[List.mem_singleton]at k;subst k;exact hb2,hw.2.2.2.2.2⟩,?_⟩;refine S1 41 [(4,some (some 11)),(5,none),(6,none)] hm A6 Tryz.func170 rfl (st_ ?_);rw[if_neg h1];refine A0 (A4t b hb) rfl (st_ ?_);refine A0 (B40 (bID b w.dJ) hb2) rfl (st_ ?_);rw[if_neg (by simp[h2])];refine J2 ev_ K0 (U3 w hw) (st_ ?_)
  (repeat' (with_reducible apply And.intro)) <;> first |exact A0c _ rfl rfl rfl rfl |omega |(unfold maxLen;omega)
 ·refine⟨(zW,0,14),A3j,?_⟩;refine S1 41 [(4,some (some 11)),(5,none),(6,none)] hm A6 Tryz.func170 rfl (st_ ?_);rw[if_neg h1];refine A0 (A4t b hb) rfl (st_ ?_);refine A0 (B40 (bID b w.dJ) hb2) rfl (st_ ?_);rw[if_pos (by simpa using h2)]
  (repeat' (with_reducible apply And.intro)) <;> first |rfl |exact G8 rfl
def jID(j:cG)(n:Int):cG:=let k:=A7x j;⟨n,k.cS,k.cU,k.cV,k.dW,k.dR,k.eS,k.cX,k.dE,k.dN,k.dS,k.dH,k.dP,k.dU,k.dD,k.dI,k.dC,k.cQ⟩
theorem C4j {w:Api.World}(hw:Wsm w)(l:List Int):Wsm (B6s w l):=C4k l hw _
theorem A2m {a b:Int}{g:Nat->List AV}(h: ∀i,g i=([AV.sc (.int .i64 a),sI b].drop (i*1)).take 1):M9 (.dsl 1 2 g) (A4 1 C6 0 [a,b]):=by
 unfold A4;rw[U4];refine⟨rfl,rfl,λi hi=> ?_⟩;rw[h];have:i=0\/i=1:=by omega
 rcases this with rfl |rfl <;> exact H9 _
theorem D87(w:Api.World)(j:cG)(hw:Wsm w): ∃r:Api.World×Int×Int,Wsm r.1/\cA_ D7e [.agg w.enc, .agg j.enc] [] (.tup [.agg r.1.enc,sI r.2.1,sI r.2.2]) []:=by
 have hl:=hw.1;by_cases h1:(if 32<=(w.cD.length:Int)then true else decide (1099511627776<=w.dJ))=true
 ·refine⟨(zW,0,9),A3j,?_⟩;refine S1 53 [(4,some (some 11)),(5,none),(6,none)] hm A6 Tryz.func171 rfl (st_ ?_);rw[if_pos h1]
  (repeat' (with_reducible apply And.intro)) <;> first |with_reducible rfl |rfl |exact D0 _ |exact G8 rfl |exact A0c _ rfl rfl rfl rfl |exact A2m (λ_=>rfl) |omega |(unfold maxLen;omega)
 have h3:(w.cD.length:Int)<32:=by
  rcases Int.lt_or_le (w.cD.length:Int) 32 with h |h
  ·exact h
  ·exact absurd (by rw[if_pos h]) h1
 by_cases h2:A1r (jID j w.dJ)=0/\A1a w (jID j w.dJ)=true
 ·have hw2:Wsm ⟨w.cM,w.cC,w.cD++ [jID j w.dJ],w.cB,w.cT,IntKind.i64.wrap (w.dJ+1),w.eK⟩:=E6c hw _ _ _ (by rw[List.length_append,List.length_singleton];omega)
  refine⟨(B6s ⟨w.cM,w.cC,w.cD++ [jID j w.dJ],w.cB,w.cT,IntKind.i64.wrap (w.dJ+1),w.eK⟩ [(jID j w.dJ).cU,(jID j w.dJ).cV],w.dJ,0),C4j hw2 _,?_⟩;refine S1 53 [(4,some (some 11)),(5,none),(6,none)] hm A6 Tryz.func171 rfl (st_ ?_);rw[if_neg h1];refine A0 (B3u j) rfl (st_ ?_);refine A0 (A2h (jID j w.dJ)) rfl (st_ ?_);refine A0 (A9l w (jID j w.dJ) hl) rfl (st_ ?_);rw[if_neg (by simp[h2])];refine J2 ev_ K0 (U3 w hw) (st_ ?_);refine⟨⟨by omega,by unfold maxLen;omega⟩,?_⟩;refine O7 (B5h ⟨w.cM,w.cC,w.cD++ [jID j w.dJ],w.cB,w.cT,IntKind.i64.wrap (w.dJ+1),w.eK⟩ [(jID j w.dJ).cU,(jID j w.dJ).cV] hw2 (by simp)) ?_;simp only[S3,go_sem,go_sem_proc]
  trace_state
  (repeat' (with_reducible apply And.intro)) <;> first |with_reducible rfl |rfl |exact D0 _ |exact G8 rfl |exact A0c _ rfl rfl rfl rfl |exact A2m (λ_=>rfl) |omega |(unfold maxLen;omega)
 ·refine⟨(zW,0,15),A3j,?_⟩;refine S1 53 [(4,some (some 11)),(5,none),(6,none)] hm A6 Tryz.func171 rfl (st_ ?_);rw[if_neg h1];refine A0 (B3u j) rfl (st_ ?_);refine A0 (A2h (jID j w.dJ)) rfl (st_ ?_);refine A0 (A9l w (jID j w.dJ) hl) rfl (st_ ?_);rw[if_pos (by
   by_cases h4:A1r (jID j w.dJ)=0
   ·have h5:A1a w (jID j w.dJ)=false:=by
     cases h6:A1a w (jID j w.dJ)with
     |false=>rfl
     |true=>exact absurd ⟨h4,h6⟩ h2
    simp[h4,h5]
   ·simp[h4])]
  (repeat' (with_reducible apply And.intro)) <;> first |with_reducible rfl |rfl |exact D0 _ |exact G8 rfl |exact A0c _ rfl rfl rfl rfl |exact A2m (λ_=>rfl) |omega |(unfold maxLen;omega)
theorem F8k(w:Api.World)(id:Int): -1<=B4l w id/\B4l w id<w.cD.length:=D4b
theorem D7u {α:Type}{enc:α->List AV}{d:α}{l:List α}{i z m n':Nat}{q:Sq}{g:Nat->List AV}(hi:i<l.length)(hm:m=l.length-1)(hn':n'=(l.eraseIdx i).length)(hg: ∀k,g k=(((A9 enc d l).over i ⟨l.length-(i+1),λk=>(A9 enc d l).g (i+1+k)⟩).over (l.length-1) q).g k):
  M9 (.dsl z m g) (.dsl z n' (I8 enc d (l.eraseIdx i))):=by
 subst hm;subst hn';rw[U4];refine⟨rfl,by rw[List.length_eraseIdx_of_lt hi],λk hk=> ?_⟩;rw[hg];have e:(((A9 enc d l).over i ⟨l.length-(i+1),λk=>(A9 enc d l).g (i+1+k)⟩).over (l.length-1) q).g k=I8 enc d (l.eraseIdx i) k:=by
  show(if l.length-1<=k/\_ then _ else if i<=k/\k<i+(l.length-(i+1))then enc (l.getD (i+1+(k-i)) d)else enc (l.getD k d):List AV)=enc ((l.eraseIdx i).getD k d);rw[if_neg (by omega)];simp only[List.getD,List.getElem?_eraseIdx];by_cases h:k<i
  ·rw[if_neg (by omega),if_pos h]
  ·rw[if_pos (by omega),if_neg h,show i+1+(k-i)=k+1 by omega]
 rw[e];exact H9 _
theorem D0c(w:Api.World)(id:Int)(hw:Wsm w): ∃r:Api.World×Int,Wsm r.1/\cA_ C9s [.agg w.enc,sI id] [] (.tup [.agg r.1.enc,sI r.2]) []:=by
 have hl:=hw.2.1
 have hlt:=F8k w id;by_cases h1:B4l w id<0
 ·refine⟨(zW,8),A3j,?_⟩;refine S1 35 [(4,some (some 11)),(5,none)] hm A6 Tryz.func173 rfl (st_ ?_);refine A0 (A7t w id hl) rfl (st_ ?_);rw[if_pos h1]
  (repeat' (with_reducible apply And.intro)) <;> first |with_reducible rfl |rfl |exact D0 _ |exact G8 rfl |exact A0c _ rfl rfl rfl rfl |exact A2m (λ_=>rfl) |exact D7u (by assumption) rfl rfl (λ_=>rfl) |omega |(unfold maxLen;omega)
 obtain⟨i,hi⟩: ∃i:Nat,B4l w id=i:=⟨(B4l w id).toNat,by omega⟩;have hil:i<w.cD.length:=by omega
 have hw2:Wsm ⟨w.cM,w.cC,w.cD.eraseIdx i,w.cB,w.cT,w.dJ,w.eK⟩:=E6c hw _ _ _ (by rw[List.length_eraseIdx_of_lt hil];omega);refine⟨(B6s ⟨w.cM,w.cC,w.cD.eraseIdx i,w.cB,w.cT,w.dJ,w.eK⟩ [(w.cD.getD i dF_).cU,(w.cD.getD i dF_).cV],0),C4j hw2 _,?_⟩;refine S1 35 [(4,some (some 11)),(5,none)] hm A6 Tryz.func173 rfl (st_ ?_);refine A0 (A7t w id hl) rfl (st_ ?_);rw[if_neg h1];refine J2 ev_ K0 (U3 w hw) ?_;simp only[go_sem,go_sem_proc,hi];refine⟨⟨by omega,by omega⟩,?_⟩;rw[show IntKind.i64.wrap ((i:Int)+1)=((i+1:Nat):Int)by rw[IntKind.wrap_i64];omega];refine B5 [true,true,true] [(1,257)] (C5s (A9 cG.enc dF_ w.cD) i hil hl) (by simp) (by simp) (by simp) (by simp[go_sem]) (st_ ?_);refine O7 (B5h ⟨w.cM,w.cC,w.cD.eraseIdx i,w.cB,w.cT,w.dJ,w.eK⟩ [(w.cD.getD i dF_).cU,(w.cD.getD i dF_).cV] hw2 (by simp)) ?_;simp only[S3,go_sem,go_sem_proc]
 trace_state
 (repeat' (with_reducible apply And.intro)) <;> first |with_reducible rfl |rfl |exact D0 _ |exact G8 rfl |exact A0c _ rfl rfl rfl rfl |exact A2m (λ_=>rfl) |exact D7u (by assumption) rfl rfl (λ_=>rfl) |omega |(unfold maxLen;omega)
theorem E3e(id:Int)(k:cR):cA_ A2l [.agg k.enc, .cW [sI id]] [] (sB (k.cU==id||k.cV==id)) []:=by refine en1 hm A6 Tryz.func281 rfl rfl ?_;simp only[go_sem,go_sem_proc]
theorem G3d(id:Int)(j:cG):cA_ B3g [.agg j.enc, .cW [sI id]] [] (sB (Y0 j id)) []:=by refine en1 hm A6 Tryz.func285 rfl rfl (st_ ?_);refine A0 (C08 j id) rfl ?_;simp only[go_sem,go_sem_proc]
theorem G3e(id:Int)(c:cY):cA_ B3h [.agg c.enc, .cW [.fn (.func A2l) [] [.cW [sI id]]]] [] (sB (c.dQ.cU==id||c.dQ.cV==id)) []:=by refine en1 hm A6 Tryz.func287 rfl rfl (st_ ?_);refine A2z (E3e id c.dQ) (by simp[F0,AV.ids,go_sem]) rfl ?_;simp only[go_sem,go_sem_proc]
theorem E0g {α:Type}{enc:α->List AV}{d:α}{p:α->Bool}{l:List α}{zl:List AV}:(dfQ enc d p l zl).n=l.length:=(B0y (d:=d) (p:=p) (l:=l) l.length (Nat.le_refl _)).2.1
def nbJ(l:List cG)(id:Int)(k:Nat)(s:List Int):List Int:=if Y0 (l.getD k dF_) id=true then s++ [A6c (l.getD k dF_).cU (l.getD k dF_).cV id]else s
def A5l(id:Int)(k:cR):Bool:=k.cU==id||k.cV==id
def nbC(l:List cY)(id:Int)(k:Nat)(s:List Int):List Int:=if A5l id (l.getD k dF_).dQ=true then s++ [A6c (l.getD k dF_).dQ.cU (l.getD k dF_).dQ.cV id]else s
theorem E23(l:List cG)(id:Int)(s:List Int): ∀n,(itr (nbJ l id) n s).length<=s.length+n
 |0=>Nat.le_refl _
 |n+1=>by
  have h:=E23 l id s n;rw[show itr (nbJ l id) (n+1) s=nbJ l id n (itr (nbJ l id) n s)from H6 ..];generalize itr (nbJ l id) n s=v at h⊢;unfold nbJ;split
  ·rw[List.length_append,List.length_singleton];omega
  ·omega
theorem E22(l:List cY)(id:Int)(s:List Int): ∀n,(itr (nbC l id) n s).length<=s.length+n
 |0=>Nat.le_refl _
 |n+1=>by
  have h:=E22 l id s n;rw[show itr (nbC l id) (n+1) s=nbC l id n (itr (nbC l id) n s)from H6 ..];generalize itr (nbC l id) n s=v at h⊢;unfold nbC;split
  ·rw[List.length_append,List.length_singleton];omega
  ·omega
def F4g(w:Api.World):List (Nat×A7):= [(48, .box [sI w.cM.dZ,sI w.cM.eG.X,sI w.cM.eG.Y,sI w.cM.eL,sI w.cM.eD, .sl 336 0 w.cC.length w.cC.length, .sl 337 0 w.cD.length w.cD.length, .sl 338 0 w.cB.length w.cB.length, .sl 339 0 w.cT.length w.cT.length,sI w.dJ,sI w.eK]),(80, .box A0h),(336, .arr 20 (A9 cF.enc dF_ w.cC)),(337, .arr 24 (A9 cG.enc dF_ w.cD)),(338, .arr 7 (A9 cY.enc dF_ w.cB)),(339, .arr 4 (A9 cR.enc dF_ w.cT))]
def D2m(w:Api.World)(id:Int)(nb:List Int):List (Nat×A7):=(1, .arr 1 (A9 C6 0 nb))::(F4g w++ [(144, .box [.fn (.func A2l) [] [.cW [sI id]]])])
attribute [go_sem] F4g D2m
theorem D3o(w:Api.World)(id:Int)(hw:Wsm w): ∃r:Api.World×Int,Wsm r.1/\cA_ D1j [.agg w.enc,sI id] [] (.tup [.agg r.1.enc,sI r.2]) []:=by
 have hl:=hw.1
 have hlJ:=hw.2.1
 have hlC:=hw.2.2.1
 have hnJ:=E23 w.cD id [] w.cD.length;simp only[List.length_nil]at hnJ;have hlt:=A3a w id;by_cases h1:H5 w id<0
 ·refine⟨(zW,8),A3j,?_⟩;refine S1 90 [(4,some (some 11)),(5,none)] hm A6 Tryz.func172 rfl (st_ ?_);refine A0 (T0 w id hl) rfl (st_ ?_);rw[if_pos h1]
  (repeat' (with_reducible apply And.intro)) <;> first |rfl |exact G8 rfl
 obtain⟨i,hi⟩: ∃i:Nat,H5 w id=i:=⟨(H5 w id).toNat,by omega⟩;have hil:i<w.cC.length:=by omega
 have hf:=T0 w id hl;rw[hi]at hf;have hw2:Wsm ⟨w.cM,w.cC.eraseIdx i,w.cD.filter (λj=> !Y0 j id),w.cB.filter (λc=> !A5l id c.dQ),w.cT.filter (λk=> !A5l id k),w.dJ,w.eK⟩:=by
  obtain⟨a1,a2,a3,a4,a5,a6⟩:=hw;have e1:=List.length_filter_le (λj=> !Y0 j id) w.cD
  have e2:=List.length_filter_le (λc:cY=> !A5l id c.dQ) w.cB
  have e3:=List.length_filter_le (λk=> !A5l id k) w.cT;exact⟨by show(w.cC.eraseIdx i).length<=_;rw[List.length_eraseIdx_of_lt hil];omega,Nat.le_trans e1 a2,Nat.le_trans e2 a3,Nat.le_trans e3 a4,λb hb=>a5 b (List.mem_of_mem_eraseIdx hb),λc hc=>a6 c (List.mem_filter.1 hc).1⟩
 refine⟨(B6s ⟨w.cM,w.cC.eraseIdx i,w.cD.filter (λj=> !Y0 j id),w.cB.filter (λc=> !A5l id c.dQ),w.cT.filter (λk=> !A5l id k),w.dJ,w.eK⟩ (itr (nbC w.cB id) w.cB.length (itr (nbJ w.cD id) w.cD.length [])),0),C4j hw2 _,?_⟩;refine E0h 90 [(4,some (some 11)),(5,none)] hm A6 Tryz.func172 rfl ?_;refine B2 [(2, .cA, .ptr 48 0 0 1),(3, .cA, .ptr 64 0 0 1),(4, .cA, .ptr 80 0 0 1)] [(48, .box w.enc),(64, .box [sI id]),(80, .box A0h)] (C7 hm ?_) ?_
 ·refine st_ ?_;refine B0 [] [] ?_;simp only[go_sem,go_sem_proc,A0h]
 refine B2 [(2, .cA, .ptr 48 0 0 1),(3, .cA, .ptr 64 0 0 1),(4, .cA, .ptr 80 0 0 1),(6, .cA,sI (i:Nat))] [(48, .box w.enc),(64, .box [sI id]),(80, .box A0h)] (C7 hm ?_) ?_
 ·refine st_ ?_;refine A0 hf rfl (st_ ?_);refine B0 [] [] ?_;simp only[go_sem,go_sem_proc,A0h]
 refine B2 [(2, .cA, .ptr 48 0 0 1),(3, .cA, .ptr 64 0 0 1),(4, .cA, .ptr 80 0 0 1),(6, .cA,sI (i:Nat))] [(48, .box w.enc),(64, .box [sI id]),(80, .box A0h)] (C7 hm ?_) ?_
 ·refine st_ ?_;rw[if_neg (by omega)];refine B0 [] [] ?_;simp only[go_sem,go_sem_proc,A0h]
 refine B2 [(2, .cA, .ptr 48 0 0 1),(3, .eQ, .cW [sI id]),(4, .cA, .ptr 80 0 0 1),(6, .cA,sI (i:Nat))] (F4g w) (C7 hm ?_) ?_
 ·refine st_ ?_;refine J2 ev_ K0 (U3 w hw) (st_ ?_);refine B0 [] [] ?_;simp only[go_sem,go_sem_proc,A0h,A3e]
 refine B2 [(2, .cA, .ptr 48 0 0 1),(3, .cA, .cW [sI id]),(4, .cA, .ptr 80 0 0 1),(6, .cA,sI (i:Nat)),(7, .cA, .sc (.slice none 0 0))] (F4g w) (C7 hm ?_) ?_
 ·refine st_ ?_;refine B0 [] [] ?_;simp only[go_sem,go_sem_proc,A0h]
 refine B2 [(2, .cA, .ptr 48 0 0 1),(3, .cA, .cW [sI id]),(4, .cA, .ptr 80 0 0 1),(6, .cA,sI (i:Nat)),(7, .eZ, .sl 1 0 0 0),(8, .cA, .ptr 144 0 0 1)] (D2m w id []) (C7 hm ?_) ?_
 ·refine st_ ?_;refine B0 [] [1] ?_;simp only[go_sem,go_sem_proc,A0h]
 refine B2 [(2, .cA, .ptr 48 0 0 1),(3, .cA, .cW [sI id]),(4, .cA, .ptr 80 0 0 1),(6, .cA,sI (i:Nat)),(7, .cA, .sl 1 0 (itr (nbJ w.cD id) w.cD.length []).length (itr (nbJ w.cD id) w.cD.length []).length),(8, .cA, .ptr 144 0 0 1)] (D2m w id (itr (nbJ w.cD id) w.cD.length [])) (B2 [(2, .cA, .ptr 48 0 0 1),(3, .cA, .cW [sI id]),(4, .cA, .ptr 80 0 0 1),(6, .cA,sI (i:Nat)),(7, .cA, .sl 1 0 (itr (nbJ w.cD id) 0 []).length (itr (nbJ w.cD id) 0 []).length),(8, .cA, .ptr 144 0 0 1),(23, .cA, .sl 337 0 w.cD.length w.cD.length),(24, .cA,sI w.cD.length),(25, .cA,sI (0:Nat))] (D2m w id (itr (nbJ w.cD id) 0 [])) (C7 hm ?_) (Y7 ?_)) ?_
 ·simp only[go_sem,go_sem_proc,J3];refine B0 [] [] ?_;simp only[go_sem,go_sem_proc,A0h]
 ·refine B1 hm (ι:= {k:Nat // k<=w.cD.length}) (λk=> [(2, .cA, .ptr 48 0 0 1),(3, .cA, .cW [sI id]),(4, .cA, .ptr 80 0 0 1),(6, .cA,sI (i:Nat)),(7, .cA, .sl 1 0 (itr (nbJ w.cD id) k.1 []).length (itr (nbJ w.cD id) k.1 []).length),(8, .cA, .ptr 144 0 0 1),(23, .cA, .sl 337 0 w.cD.length w.cD.length),(24, .cA,sI w.cD.length),(25, .cA,sI (k.1:Nat))]) (λk=>D2m w id (itr (nbJ w.cD id) k.1 [])) (λk=>w.cD.length-k.1) ⟨0,Nat.zero_le _⟩ ?_ ?_
  ·refine B0 [] [] ?_;simp only[go_sem,go_sem_proc,A0h]
  ·rintro⟨k,hk⟩;dsimp only;have hnext:itr (nbJ w.cD id) (k+1) []=nbJ w.cD id k (itr (nbJ w.cD id) k []):=H6 ..
   have hvl:=E23 w.cD id [] k
   (try simp only[List.length_nil]at hvl)
   have hfin:w.cD.length<=k->(itr (nbJ w.cD id) k [])=(itr (nbJ w.cD id) w.cD.length []):=λh=>by rw[show k=w.cD.length by omega]
   generalize(itr (nbJ w.cD id) k [])=v at hnext hvl hfin⊢;simp only[go_sem,go_sem_proc,A0h];split
   ·rename_i hlt;have hlt:k<w.cD.length:=by omega
    refine⟨⟨by omega,by omega⟩,?_⟩;refine A0 (C08 (w.cD.getD k dF_) id) rfl (st_ ?_);by_cases hp:Y0 (w.cD.getD k dF_) id=true
    ·rw[if_pos hp];refine A0 (C84 (w.cD.getD k dF_).cU (w.cD.getD k dF_).cV id) rfl (st_ ?_);have hn:itr (nbJ w.cD id) (k+1) []=v++ [A6c (w.cD.getD k dF_).cU (w.cD.getD k dF_).cV id]:=by rw[hnext];unfold nbJ;rw[if_pos hp]
     refine⟨⟨by omega,by unfold maxLen;omega⟩,?_⟩;refine A8 ⟨k+1,hlt⟩ (by show w.cD.length-(k+1)<w.cD.length-k;omega) ?_;simp only[hn];refine B0 [] [] ?_;simp only[go_sem,go_sem_proc,A0h]
     all_goals((repeat' (with_reducible apply And.intro)) <;> first |exact A0c _ rfl rfl rfl rfl |(rw[IntKind.wrap_i64];omega) |(simp;done))
    ·rw[if_neg hp];have hn:itr (nbJ w.cD id) (k+1) []=v:=by rw[hnext];unfold nbJ;rw[if_neg hp]
     refine A8 ⟨k+1,hlt⟩ (by show w.cD.length-(k+1)<w.cD.length-k;omega) ?_;simp only[hn];refine B0 [] [] ?_;simp only[go_sem,go_sem_proc,A0h]
     all_goals((repeat' (with_reducible apply And.intro)) <;> (rw[IntKind.wrap_i64];omega))
   ·rename_i hge;rw[<-hfin (by omega)];refine B0 [] [] ?_;simp only[go_sem,go_sem_proc]
 refine B2 [(2, .cA, .ptr 48 0 0 1),(3, .cA, .cW [sI id]),(4, .cA, .ptr 80 0 0 1),(6, .cA,sI (i:Nat)),(7, .cA, .sl 1 0 (itr (nbC w.cB id) w.cB.length (itr (nbJ w.cD id) w.cD.length [])).length (itr (nbC w.cB id) w.cB.length (itr (nbJ w.cD id) w.cD.length [])).length),(8, .cA, .ptr 144 0 0 1)] (D2m w id (itr (nbC w.cB id) w.cB.length (itr (nbJ w.cD id) w.cD.length []))) (B2 [(2, .cA, .ptr 48 0 0 1),(3, .cA, .cW [sI id]),(4, .cA, .ptr 80 0 0 1),(6, .cA,sI (i:Nat)),(7, .cA, .sl 1 0 (itr (nbC w.cB id) 0 (itr (nbJ w.cD id) w.cD.length [])).length (itr (nbC w.cB id) 0 (itr (nbJ w.cD id) w.cD.length [])).length),(8, .cA, .ptr 144 0 0 1),(43, .cA, .sl 338 0 w.cB.length w.cB.length),(44, .cA,sI w.cB.length),(45, .cA,sI (0:Nat))] (D2m w id (itr (nbC w.cB id) 0 (itr (nbJ w.cD id) w.cD.length []))) (C7 hm ?_) (Y7 ?_)) ?_
 ·simp only[go_sem,go_sem_proc,J3];refine B0 [] [] ?_;simp only[go_sem,go_sem_proc,A0h]
 ·refine B1 hm (ι:= {k:Nat // k<=w.cB.length}) (λk=> [(2, .cA, .ptr 48 0 0 1),(3, .cA, .cW [sI id]),(4, .cA, .ptr 80 0 0 1),(6, .cA,sI (i:Nat)),(7, .cA, .sl 1 0 (itr (nbC w.cB id) k.1 (itr (nbJ w.cD id) w.cD.length [])).length (itr (nbC w.cB id) k.1 (itr (nbJ w.cD id) w.cD.length [])).length),(8, .cA, .ptr 144 0 0 1),(43, .cA, .sl 338 0 w.cB.length w.cB.length),(44, .cA,sI w.cB.length),(45, .cA,sI (k.1:Nat))]) (λk=>D2m w id (itr (nbC w.cB id) k.1 (itr (nbJ w.cD id) w.cD.length []))) (λk=>w.cB.length-k.1) ⟨0,Nat.zero_le _⟩ ?_ ?_
  ·refine B0 [] [] ?_;simp only[go_sem,go_sem_proc,A0h]
  ·rintro⟨k,hk⟩;dsimp only;have hnext:itr (nbC w.cB id) (k+1) (itr (nbJ w.cD id) w.cD.length [])=nbC w.cB id k (itr (nbC w.cB id) k (itr (nbJ w.cD id) w.cD.length [])):=H6 ..
   have hvl:=E22 w.cB id (itr (nbJ w.cD id) w.cD.length []) k
   have hfin:w.cB.length<=k->(itr (nbC w.cB id) k (itr (nbJ w.cD id) w.cD.length []))=(itr (nbC w.cB id) w.cB.length (itr (nbJ w.cD id) w.cD.length [])):=λh=>by rw[show k=w.cB.length by omega]
   generalize(itr (nbC w.cB id) k (itr (nbJ w.cD id) w.cD.length []))=v at hnext hvl hfin⊢;simp only[go_sem,go_sem_proc,A0h];split
   ·rename_i hlt;have hlt:k<w.cB.length:=by omega
    refine⟨⟨by omega,by omega⟩,?_⟩;refine A0 (E3e id (w.cB.getD k dF_).dQ) rfl (st_ ?_);by_cases hp:((w.cB.getD k dF_).dQ.cU==id||(w.cB.getD k dF_).dQ.cV==id)=true
    ·rw[if_pos hp];refine A0 (C84 (w.cB.getD k dF_).dQ.cU (w.cB.getD k dF_).dQ.cV id) rfl (st_ ?_);have hn:itr (nbC w.cB id) (k+1) (itr (nbJ w.cD id) w.cD.length [])=v++ [A6c (w.cB.getD k dF_).dQ.cU (w.cB.getD k dF_).dQ.cV id]:=by rw[hnext];unfold nbC;rw[if_pos (show A5l id (w.cB.getD k dF_).dQ=true from hp)]
     refine⟨⟨by omega,by unfold maxLen;omega⟩,?_⟩;refine A8 ⟨k+1,hlt⟩ (by show w.cB.length-(k+1)<w.cB.length-k;omega) ?_;simp only[hn];refine B0 [] [] ?_;simp only[go_sem,go_sem_proc,A0h]
     all_goals((repeat' (with_reducible apply And.intro)) <;> first |exact A0c _ rfl rfl rfl rfl |(rw[IntKind.wrap_i64];omega) |(simp;done))
    ·rw[if_neg hp];have hn:itr (nbC w.cB id) (k+1) (itr (nbJ w.cD id) w.cD.length [])=v:=by rw[hnext];unfold nbC;rw[if_neg (show ¬A5l id (w.cB.getD k dF_).dQ=true from hp)]
     refine A8 ⟨k+1,hlt⟩ (by show w.cB.length-(k+1)<w.cB.length-k;omega) ?_;simp only[hn];refine B0 [] [] ?_;simp only[go_sem,go_sem_proc,A0h]
     all_goals((repeat' (with_reducible apply And.intro)) <;> (rw[IntKind.wrap_i64];omega))
   ·rename_i hge;rw[<-hfin (by omega)];refine B0 [] [] ?_;simp only[go_sem,go_sem_proc]
 have hnC:=E22 w.cB id (itr (nbJ w.cD id) w.cD.length []) w.cB.length;generalize itr (nbC w.cB id) w.cB.length (itr (nbJ w.cD id) w.cD.length [])=nb at hnC⊢;have hnb:nb.length<=4194304:=by omega
 refine C7 hm ?_;simp only[go_sem,go_sem_proc,A0h];rw[show IntKind.i64.wrap ((i:Int)+1)=((i+1:Nat):Int)by rw[IntKind.wrap_i64];omega];refine B5 [true,true,true] [(1,336)] (C73 (A9 cF.enc dF_ w.cC) i hil hl) (by simp) (by simp) (by simp) (by simp[go_sem]) (st_ ?_);refine B5 [true,true] [(1,337)] (B9s w.cD B3g [] [.cW [sI id]] (λj=>Y0 j id) (by omega) rfl rfl (λj _=>G3d id j)) (by simp) (by simp) (by simp) (by simp[go_sem]) (st_ ?_);refine B5 [true,false] [(1,338)] (B7v w.cB B3h [] [.cW [.fn (.func A2l) [] [.cW [sI id]]]] (λc=>A5l id c.dQ) (by omega) rfl rfl (λc _=>G3e id c)) (by simp) (by simp) (by simp) (by simp[go_sem]) ?_;simp only[go_sem,go_sem_proc,A3e];refine B5 [true,true] [(1,339)] (B7x w.cT A2l [] [.cW [sI id]] (λk=>A5l id k) (by have:=hw.2.2.2.1;omega) rfl rfl (λk _=>E3e id k)) (by simp) (by simp) (by simp) (by simp[go_sem]) (st_ ?_);refine O7 (B5h ⟨w.cM,w.cC.eraseIdx i,w.cD.filter (λj=> !Y0 j id),w.cB.filter (λc=> !A5l id c.dQ),w.cT.filter (λk=> !A5l id k),w.dJ,w.eK⟩ nb hw2 hnb) ?_;simp only[S3,go_sem,go_sem_proc];exact⟨⟨rfl,E0g.symm,E0g.symm,E0g.symm⟩,D7u hil rfl rfl λ_=>rfl,D1u rfl λ_=>rfl,D1u rfl λ_=>rfl,D1u rfl λ_=>rfl⟩
theorem G78(n:Int):0<=isq n:=by unfold isq;split <;> omega
theorem G48(v:cI):0<=B0g v:=G78 _
theorem B73 {x c:Int}(hc:c<=536870911)(h:c<=x):c<=sat x:=by unfold sat;split <;> (try split) <;> omega
theorem G62 {n:Int}(hn:0<=n):0<=A37 n 65536:=by
 unfold A37;split
 ·omega
 ·have h1:=Int.tdiv_nonneg hn (show(0:Int)<=65536 by decide)
  have h2:=Int.tmod_nonneg (a:=n) 65536 hn;rename_i h;have h3:n.tdiv 65536<=n:=by rw[Int.tdiv_eq_ediv_of_nonneg hn];omega
  (repeat' split) <;> omega
theorem G4b {a b:Int}(ha:0<=a)(hb:0<=b):0<=D1 a b:=by
 unfold D1;have h1:=Z1 a;have h2:=Z1 b
 have h3:=B73 (by decide) ha;have h4:=B73 (by decide) hb;refine B73 (by decide) ?_;rw[IntKind.wrap_i64];omega
theorem G8i {a b:Int}(ha:0<=a)(hb:0<=b):0<=B7 a b:=by
 unfold B7;refine B73 (by decide) (G62 ?_);have h1:=Z1 a;have h2:=Z1 b
 have h3:=B73 (by decide) ha;have h4:=B73 (by decide) hb
 have h5:=Int.mul_nonneg h3 h4
 have h6:sat a*sat b<=536870911*536870911:=Int.mul_le_mul h1.2 h2.2 h4 (by decide);rw[IntKind.wrap_i64];omega
theorem G8m(s:Shape)(h:G5 s=0):0<=s.eV:=by
 unfold G5 at h;split at h
 ·cases h
 ·simp only at h;split at h
  ·cases h
  ·split at h
   ·cases h
   ·split at h
    ·omega
    ·rename_i h1;split at h
     ·cases h
     ·rename_i h2;simp only[Bool.and_eq_true,Bool.or_eq_true,decide_eq_true_eq,beq_iff_eq,bne_iff_ne,ne_eq,not_and,not_or,Decidable.not_not]at h1 h2;by_cases h3:s.cS=3
      ·have:=h1 h3;omega
      ·have:=h2 h3;omega
theorem brN(s:Shape):0<=A0z s:=by
 unfold A0z;simp only;split
 ·omega
 ·rename_i h;have hv:G5 s=0:=by simpa using h
  refine G4b ?_ (G8m s hv);have: ∀n,0<=itr (A1d s) n 0:=λn=>by
   induction n with
   |zero=>exact Int.le_refl _
   |succ n ih=>rw[H6];unfold A1d;have:=G48 (s.cJ.getD n dF_);simp only;split <;> omega
  exact this _
theorem mbN(s:Shape)(t0 t1:cH):(G5 s=0->4<=K9 s t0 t1)/\K9 s t0 t1<=536870911:=by
 constructor
 ·intro h;unfold K9;simp only;rw[if_neg (by simp[h])];have h7:=G4b (G48 (O6 t1.dY t0.dY)) (G8i (a:=if A0u t0.eR t1.eR<IntKind.i64.wrap (0-A0u t0.eR t1.eR)then IntKind.i64.wrap (0-A0u t0.eR t1.eR)else A0u t0.eR t1.eR) (b:=A0z s) ?_ (brN s))
  ·generalize D1 (B0g (O6 t1.dY t0.dY)) _=v at*;unfold D1;have h1:=Z1 v
   have h3:=B73 (c:=0) (by decide) h7
   have h4:sat 4=4:=by decide
   refine B73 (by decide) ?_;rw[h4,IntKind.wrap_i64];omega
  ·have: ∀x:Int,0<=(if x<IntKind.i64.wrap (0-x)then IntKind.i64.wrap (0-x)else x)\/x < -4611686018427387904\/4611686018427387904<x:=λx=>by
    rw[IntKind.wrap_i64];split <;> omega
   have hn: ∀a,-4611686018427387904<=K5 a/\K5 a<=4611686018427387904:=λa=>by
    have:=Int.tmod_lt_of_pos a (show(0:Int)<411776 by decide)
    have h2:=Int.lt_tmod_of_pos a (show(0:Int)<411776 by decide);unfold K5;simp only[IntKind.wrap_i64]
    (repeat' split) <;> omega
   rcases this (A0u t0.eR t1.eR)with h |h |h
   ·exact h
   ·have:=hn (IntKind.i64.wrap (K5 t1.eR-K5 t0.eR))
    unfold A0u at h;simp only at h;omega
   ·have:=hn (IntKind.i64.wrap (K5 t1.eR-K5 t0.eR))
    unfold A0u at h;simp only at h;omega
 ·unfold K9;simp only;split
  ·omega
  ·unfold D1;exact(Z1 _).2
theorem G4e(a b:Shape)(a0 a1 b0 b1:cH)(ha:G5 a=0)(hb:G5 b=0):IntKind.i64.wrap (2*IntKind.i64.wrap (K9 a a0 a1+K9 b b0 b1))≠0:=by
 have h1:=mbN a a0 a1;have h2:=mbN b b0 b1
 have:=h1.1 ha;have:=h2.1 hb;have:=h1.2;have:=h2.2;simp only[IntKind.wrap_i64];omega
def A43(a:Shape)(a0:cH)(a1:cH)(b:Shape)(b0:cH)(b1:cH)(v3:Int)(v4:Int)(i1:Nat)(s1:Int):(Int) ⊕ (Int×Bool):=let v5:=(A14 a0 a1 s1);let v6:=(A14 b0 b1 s1);let v7:=(A4z a v5 b v6);if v7<=512 then(.inr (s1,true))else(if 65536<(IntKind.i64.wrap (s1+(if(IntKind.i64.wrap ((IntKind.i64.wrap (v7*65536)).tdiv (IntKind.i64.wrap (2*(IntKind.i64.wrap (v3+v4))))))<1 then 1 else(IntKind.i64.wrap ((IntKind.i64.wrap (v7*65536)).tdiv (IntKind.i64.wrap (2*(IntKind.i64.wrap (v3+v4)))))))))then(.inr (0,false))else(.inl (IntKind.i64.wrap (s1+(if(IntKind.i64.wrap ((IntKind.i64.wrap (v7*65536)).tdiv (IntKind.i64.wrap (2*(IntKind.i64.wrap (v3+v4))))))<1 then 1 else(IntKind.i64.wrap ((IntKind.i64.wrap (v7*65536)).tdiv (IntKind.i64.wrap (2*(IntKind.i64.wrap (v3+v4)))))))))))
def A0g(a:Shape)(a0:cH)(a1:cH)(b:Shape)(b0:cH)(b1:cH):Int×Bool:=let v1:=(G5 a);let v2:=(G5 b);if((v1 != 0)||(v2 != 0))=true then((0,false))else(let v3:=(K9 a a0 a1);let v4:=(K9 b b0 b1);(match J8 (A43 a a0 a1 b b0 b1 v3 v4) 40 0 with | .inr r=>r | .inl s1=>(s1,true)))
theorem D3n(a:Shape)(a0:cH)(a1:cH)(b:Shape)(b0:cH)(b1:cH)(h0:a.cJ.length<=1048576)(h1:b.cJ.length<=1048576):cA_ D1g [.agg a.enc, .agg a0.enc, .agg a1.enc, .agg b.enc, .agg b0.enc, .agg b1.enc] [] (.tup [sI ((A0g a a0 a1 b b0 b1).1),sB ((A0g a a0 a1 b b0 b1).2)]) []:=by
 refine enT hm A6 Tryz.func520 rfl rfl ?_;have:=G4e a b a0 a1 b0 b1
 have:=A1x
 have:=D5y
 have:=B1j
 have:=B3t
 have:=A0g.eq_1 a a0 a1 b b0 b1
 have:=λi_ s_=>A43.eq_1 a a0 a1 b b0 b1 (K9 a a0 a1) (K9 b b0 b1) i_ s_
 have:=λx_ Q_ σ_=> @lp_ Tryz.prog Tryz.f520.ntmps [] x_ Q_ σ_ hm (IE (A43 a a0 a1 b b0 b1 (K9 a a0 a1) (K9 b b0 b1)) 0) (λ_=>True) 40 (λi_=> [(6, .cA, .ptr 112 0 0 1),(7, .cA, .ptr 128 0 0 1),(8, .cA, .ptr 144 0 0 1),(9, .cA, .ptr 160 0 0 1),(10, .cA, .ptr 176 0 0 1),(11, .cA, .ptr 192 0 0 1),(14, .cA,sI (IntKind.i64.wrap (2*(IntKind.i64.wrap ((K9 a a0 a1)+(K9 b b0 b1)))))),(15, .cA,sI (stE (A43 a a0 a1 b b0 b1 (K9 a a0 a1) (K9 b b0 b1)) i_ 0)),(35, .cA,sI (i_:Int))]) (λi_=> [(112, .box [sI a.cS,sI a.eV,A4 2 cI.enc dF_ a.cJ]),(128, .box [sI a0.dY.X,sI a0.dY.Y,sI a0.eR]),(144, .box [sI a1.dY.X,sI a1.dY.Y,sI a1.eR]),(160, .box [sI b.cS,sI b.eV,A4 2 cI.enc dF_ b.cJ]),(176, .box [sI b0.dY.X,sI b0.dY.Y,sI b0.eR]),(192, .box [sI b1.dY.X,sI b1.dY.Y,sI b1.eR])]) [] rfl (λ_ _=>trivial) (by simp[go_sem]) (by simp[go_sem,D3]) (by simp[go_sem]);exact K1
def F05:List AV:=([(.int .i64 0),(.int .i64 0),(.slice none 0 0),(.int .i64 0),(.int .i64 0),(.int .i64 0),(.bool false),(.int .i64 0),(.int .i64 0),(.int .i64 0)]:List Value).map .sc
theorem B5e(l:List dB)(f:FuncId)(first cap:List AV)(p:dB->Bool)(hl:l.length<=4194304)(h1:F0 first= [])(h2:F0 cap= [])
  (hp: ∀x∈l,cA_ f (first++ [.agg x.enc]++cap) [] (sB (p x)) []):
  cA_ B8d [.sl 1 0 l.length l.length, .fn (.func f) first cap] [(1, .arr 10 (A9 dB.enc dF_ l))] (sI (A3t dF_ p l)) [(1, .arr 10 (A9 dB.enc dF_ l))]:=by
 refine B0z hm A6 Tryz.func570 rfl rfl ?_;refine C7 hm (st_ ?_);refine B1 hm (ι:= {i:Nat // i<=l.length/\ ∀j,j<i->p (l.getD j dF_)=false}) (λi=> [(0, .cA, .sl 1 0 l.length l.length),(1, .cA, .fn (.func f) first cap),(7, .cA,sI l.length),(8, .cA,sI i.1)])
  (λi=> [(1, .arr 10 (A9 dB.enc dF_ l))]) (λi=>l.length-i.1) ⟨0,by omega,λj hj=>by omega⟩ ?_ ?_
 ·refine B0 [] [] (st_ ?_);exact⟨(AV.ren_id (.fn (.func f) first cap)).symm,λi hi=>by rw[h1,h2]at hi;cases hi⟩
 ·rintro⟨i,hi,hs⟩;refine st_ ?_;split
  ·rename_i hlt;have hlt:i<l.length:=by omega
   refine⟨⟨by omega,by omega⟩,?_⟩;have hx:=hp (l.getD i dF_) (B8 dF_ hlt);rw[List.append_assoc]at hx;refine A2z hx (by simp[A8l,h1,h2,F0,AV.ids]) rfl (st_ ?_);cases hpx:p (l.getD i dF_)with
   |true=>rw[if_pos rfl];refine B6 [.cA] [] [] (st_ ?_);exact(A6g hlt hs hpx).symm
   |false=>rw[if_neg (by simp)];refine A8 ⟨i+1,by omega,λj hj=>by rcases Nat.lt_succ_iff_lt_or_eq.1 hj with h |rfl;exact hs j h;exact hpx⟩ (by show l.length-(i+1)<l.length-i;omega) ?_;refine B0 [] [] (st_ ?_);exact⟨(AV.ren_id (.fn (.func f) first cap)).symm,(λi hi=>by rw[h1,h2]at hi;cases hi),(by rw[IntKind.wrap_i64];omega)⟩
  ·rename_i hge;refine B6 [.cA] [] [] (st_ ?_);exact(A2t λj hj=>hs j (by omega)).symm
theorem B7w(l:List dB)(f:FuncId)(first cap:List AV)(p:dB->Bool)(hl:l.length<=4194304)(h1:F0 first= [])(h2:F0 cap= [])
  (hp: ∀x∈l,cA_ f (first++ [.agg x.enc]++cap) [] (sB (p x)) []):
  cA_ B7d [.sl 1 0 l.length l.length, .fn (.func f) first cap] [(1, .arr 10 (A9 dB.enc dF_ l))] (.sl 1 0 (dfR dF_ p l l.length).1 l.length) [(1, .arr 10 (dfQ dB.enc dF_ p l F05))]:=by
 refine B0z hm A6 Tryz.func551 rfl rfl ?_;refine C7 hm (st_ ?_);refine Z2 (B5e l f first cap p hl h1 h2 hp) (by simp[okO]) (by simp[upd]) ?_ rfl ?_
 ·intro a ha i hi;simp only[List.mem_cons,List.not_mem_nil,or_false]at ha;rcases ha with rfl |rfl
  ·simp only[AV.ids,List.mem_singleton]at hi;subst hi;rfl
  ·simp only[AV.ids,h1,h2]at hi;cases hi
 refine st_ ?_;rcases B4n (d:=dF_) (p:=p) (l:=l)with⟨e,h0⟩ |⟨i0,hi0,e,hp0,hs0⟩
 ·rw[e,if_pos (by decide),C0n h0,A44 l.length (Nat.le_refl _) h0];refine B6 [.cA] [] [] ?_;simp only[go_sem,go_sem_proc]
 rw[e,if_neg (by simp)];refine B1 hm (ι:= {j:Nat // j<=l.length}) (λj=> [(0, .cA, .sl 1 0 l.length l.length),(1, .cA, .fn (.func f) first cap),(5, .cA,sI ((dfR dF_ p l j.1).1)),(6, .cA,sI j.1)])
  (λj=> [(1, .arr 10 (A9 dB.enc dF_ (dfR dF_ p l j.1).2))]) (λj=>l.length-j.1) ⟨i0+1,hi0⟩ ?_ ?_
 ·have e1:dfR dF_ p l (i0+1)=(i0,l):=by
   rw[dfR,A44 i0 (by omega) hs0];unfold A30;rw[if_pos hp0]
  rw[e1];refine B0 [] [] (st_ ?_);exact⟨(AV.ren_id (.fn (.func f) first cap)).symm,(λi hi=>by rw[h1,h2]at hi;cases hi),(by rw[IntKind.wrap_i64];omega)⟩
 ·rintro⟨j,hj⟩;obtain⟨g1,g2,g3,g4⟩:=B0y (d:=dF_) (p:=p) (l:=l) j hj;dsimp only;have hnext:=λhjl:j<l.length=>(show dfR dF_ p l (j+1)=A30 dF_ p j (dfR dF_ p l j)from rfl);generalize hst:dfR dF_ p l j=st at g1 g2 g3 g4 hnext⊢;obtain⟨i,m⟩:=st;dsimp only at g1 g2 g3 g4 hnext⊢;refine st_ ?_;split
  ·rename_i hlt;have hlt:j<l.length:=by omega
   have hgj:=g3 j (Nat.le_refl j)
   have hn:=hnext hlt;simp only[hgj];refine⟨⟨g2.symm,by omega,by omega⟩,g2.symm,?_⟩;have hx:=hp (l.getD j dF_) (B8 dF_ hlt);rw[List.append_assoc]at hx;refine A2z hx (by simp[A8l,h1,h2,F0,AV.ids]) rfl (st_ ?_);unfold A30 at hn;dsimp only at hn;rw[hgj]at hn;cases hpx:p (l.getD j dF_)with
   |true=>rw[hpx,if_pos rfl]at hn;rw[if_neg (by simp)];refine A8 ⟨j+1,hlt⟩ (by show l.length-(j+1)<l.length-j;omega) ?_;simp only[hn];refine B0 [] [] (st_ ?_);exact⟨(AV.ren_id (.fn (.func f) first cap)).symm,(λi hi=>by rw[h1,h2]at hi;cases hi),(by rw[IntKind.wrap_i64];omega)⟩
   |false=>rw[hpx,if_neg (by simp)]at hn;rw[if_pos rfl];refine⟨⟨g2.symm,by omega,by omega⟩,g2.symm,?_⟩;refine A8 ⟨j+1,hlt⟩ (by show l.length-(j+1)<l.length-j;omega) ?_;simp only[hn];rw[A65 (l.getD j dF_) (by omega) (by rw[<-hgj];rfl)];refine B0 [] [] (st_ ?_);exact⟨(AV.ren_id (.fn (.func f) first cap)).symm,(λi hi=>by rw[h1,h2]at hi;cases hi),(by rw[IntKind.wrap_i64];omega),(by rw[IntKind.wrap_i64];omega)⟩
  ·rename_i hge;obtain rfl:j=l.length:=by omega
   have e1:((l.length:Int)-(i:Int)).toNat=l.length-i:=by omega
   have e2:((i:Int)-0).toNat=i:=by omega
   rw[e1,e2];refine⟨⟨g2.symm,by omega,by omega,by omega⟩,g2.symm,⟨g2.symm,by omega,by omega,by omega⟩,?_⟩;unfold dfQ;rw[hst];refine B6 [.cA] [] [] (st_ ?_);exact A20
def T9(b:cF):List dB:=b.cK.filter λp=> !p.fL
theorem E4n {b:cF}{f:dB}(h:f∈T9 b):f∈b.cK:=(List.mem_filter.1 h).1
theorem E4m(b:cF):(T9 b).length<=b.cK.length:=List.length_filter_le ..
theorem C34(p:dB):cA_ B1y [.agg p.enc] [] (sB p.fL) []:=by refine en1 hm A6 Tryz.func553 rfl rfl ?_;simp only[go_sem,go_sem_proc]
theorem B5w(b:cF)(h0:b.cK.length<=1048576):cA_ C86 [.agg b.enc] [] (A4 10 dB.enc dF_ (T9 b)) []:=by refine en1 hm A6 Tryz.func519 rfl rfl (st_ ?_);refine J2 ev_ K0 (C4c b.cK h0) (st_ ?_);refine B5 [true,true] [(1,96)] (B7w b.cK B1y [] [] (λp=>p.fL) (by omega) rfl rfl (λp _=>C34 p)) (by simp) (by simp) (by simp[D3]) (by simp[go_sem]) (st_ ?_);exact⟨E0g.symm,D1u rfl λ_=>rfl⟩
def iw2(x y z:cF)(p:dB)(k:Nat)(s:Int):Int:=
 if A0v p ((T9 z).getD k dF_)=true then
  (if(A0g p.Shape x.cH y.cH ((T9 z).getD k dF_).Shape z.cH z.cH).2=true/\0<(A0g p.Shape x.cH y.cH ((T9 z).getD k dF_).Shape z.cH z.cH).1 then
    (if(A0g p.Shape x.cH y.cH ((T9 z).getD k dF_).Shape z.cH z.cH).1<s then(A0g p.Shape x.cH y.cH ((T9 z).getD k dF_).Shape z.cH z.cH).1 else s)else s)else s
def iw1(x y z:cF)(i:Nat)(s:Int):Int:=itr (iw2 x y z ((T9 y).getD i dF_)) (T9 z).length s
def F36(x y z:cF):Int:=itr (iw1 x y z) (T9 y).length 65536
theorem D8w(x y z:cF)(hy:cF.sm y)(hz:cF.sm z):cA_ D6o [.agg x.enc, .agg y.enc, .agg z.enc] [] (sI (F36 x y z)) []:=by
 have l1:=E4m y
 have l2:=E4m z
 have m1:=hy.1
 have m2:=hz.1;unfold F36;refine en1 hm A6 Tryz.func446 rfl rfl (st_ ?_);refine A0 (B5w y hy.1) rfl (st_ ?_);refine B1 hm (ι:= {i:Nat // i<=(T9 y).length}) (λi=> [(3, .eQ, .cW x.enc),(4, .eQ, .cW y.enc),(5, .eQ, .cW z.enc),(7, .cA,sI (itr (iw1 x y z) i.1 65536)),(15, .cA,A4 10 dB.enc dF_ (T9 y)),(16, .cA,sI ((T9 y).length)),(17, .cA,sI (i.1:Nat))]) (λi=> []) (λi=>(T9 y).length-i.1) ⟨0,Nat.zero_le _⟩ ?_ ?_
 ·simp only[J3];refine B0 [] [] ?_;simp only[go_sem,go_sem_proc,A3e]
 ·rintro⟨i,hi⟩;dsimp only;have hn1:itr (iw1 x y z) (i+1) 65536=iw1 x y z i (itr (iw1 x y z) i 65536):=H6 ..
  have hfin:(T9 y).length<=i->itr (iw1 x y z) i 65536=itr (iw1 x y z) (T9 y).length 65536:=λh=>by rw[show i=(T9 y).length by omega]
  generalize itr (iw1 x y z) i 65536=v at hn1 hfin⊢;refine st_ ?_;by_cases hlt:i<(T9 y).length;rotate_left
  ·rw[if_neg (by omega),<-hfin (by omega)]
  rw[if_pos (by omega)];refine⟨bE_,?_⟩;rw[iw1.eq_1 x y z i v]at hn1;have hp:=hy.2 _ (E4n (B8 dF_ hlt));generalize(T9 y).getD i dF_=p at hn1 hp⊢;refine A0 (B5w z hz.1) rfl (st_ ?_);refine B1 hm (ι:= {j:Nat // j<=(T9 z).length}) (λj=> [(3, .cA, .cW x.enc),(4, .cA, .cW y.enc),(5, .cA, .cW z.enc),(15, .cA,A4 10 dB.enc dF_ (T9 y)),(16, .cA,sI ((T9 y).length)),(17, .cA,sI (i:Nat)),(9, .eQ, .cW p.enc),(7, .cA,sI (itr (iw2 x y z p) j.1 v)),(22, .cA,A4 10 dB.enc dF_ (T9 z)),(23, .cA,sI ((T9 z).length)),(24, .cA,sI (j.1:Nat))]) (λj=> []) (λj=>(T9 z).length-j.1) ⟨0,Nat.zero_le _⟩ ?_ ?_
  ·simp only[J3];refine B0 [] [] ?_;simp only[go_sem,go_sem_proc,A3e]
  ·rintro⟨j,hj⟩;dsimp only;have hn2:itr (iw2 x y z p) (j+1) v=iw2 x y z p j (itr (iw2 x y z p) j v):=H6 ..
   have hfin2:(T9 z).length<=j->itr (iw2 x y z p) j v=itr (iw2 x y z p) (T9 z).length v:=λh=>by rw[show j=(T9 z).length by omega]
   generalize itr (iw2 x y z p) j v=u at hn2 hfin2⊢;refine st_ ?_;by_cases hlt2:j<(T9 z).length;rotate_left
   ·rw[if_neg (by omega)];refine A8 ⟨i+1,by omega⟩ (by show(T9 y).length-(i+1)<(T9 y).length-i;omega) ?_;rw[hn1,<-hfin2 (by omega)];refine B0 [] [] (st_ ?_);exact eE_
   rw[if_pos (by omega)];refine⟨bE_,?_⟩;have hu:=iw2.eq_1 x y z p j u
   have hq:=hz.2 _ (E4n (B8 dF_ hlt2));generalize(T9 z).getD j dF_=q at hu hq⊢;refine A0 (A82 p q) rfl ?_;generalize A0v p q=sc at hu⊢;cases sc with
   |false=>rw[if_neg (by simp)]at hu;rw[hu]at hn2;refine st_ ?_;refine A8 ⟨j+1,by omega⟩ (by show(T9 z).length-(j+1)<(T9 z).length-j;omega) ?_;simp only[hn2];refine B0 [] [] (st_ ?_);exact eE_
   |true=>
    rw[if_pos rfl]at hu;refine st_ ?_;refine A0 (D3n p.Shape x.cH y.cH q.Shape z.cH z.cH hp hq) rfl ?_;generalize A0g p.Shape x.cH y.cH q.Shape z.cH z.cH=t at hu⊢;obtain⟨t1,t2⟩:=t;dsimp only at hu;refine st_ ?_;by_cases ht:(t2&&decide (0<t1))=true
    ·rw[if_pos ht];rw[if_pos (show t2=true/\0<t1 by simpa using ht)]at hu;rw[hu]at hn2;refine A8 ⟨j+1,by omega⟩ (by show(T9 z).length-(j+1)<(T9 z).length-j;omega) ?_;simp only[hn2];refine B0 [] [] (st_ ?_);exact eE_
    ·rw[if_neg ht];rw[if_neg (show ¬(t2=true/\0<t1)by simpa using ht)]at hu;rw[hu]at hn2;refine A8 ⟨j+1,by omega⟩ (by show(T9 z).length-(j+1)<(T9 z).length-j;omega) ?_;simp only[hn2];refine B0 [] [] (st_ ?_);exact eE_
end Go.Abs
end
