/- A part of the proof: contracts of functions that the statement reaches. -/
import Derived.Test.YtchcbiiammkhgaaGreatMQ
set_option linter.unusedSimpArgs false
set_option linter.unusedVariables false
set_option linter.unnecessarySimpa false
set_option maxRecDepth 100000
set_option maxHeartbeats 2000000
noncomputable section
namespace Go.Abs
open Go.Proofs
open Api
def B26(w:Api.World)(B:List cF)(J:List cG)(C:List cY):List (Nat×A7):= [(80, .box World.zero),(96, .box [sI w.cM.dZ,sI w.cM.eG.X,sI w.cM.eG.Y,sI w.cM.eL,sI w.cM.eD, .sl 7 0 w.cC.length w.cC.length, .sl 8 0 w.cD.length w.cD.length, .sl 9 0 w.cB.length w.cB.length, .sl 10 0 w.cT.length w.cT.length,sI w.dJ,sI w.eK]),(7, .arr 20 (A9 cF.enc dF_ B)),(8, .arr 24 (A9 cG.enc dF_ J)),(9, .arr 7 (A9 cY.enc dF_ C)),(10, .arr 4 (A9 cR.enc dF_ w.cT))]
attribute [go_sem] B26
theorem E05(w:Api.World)(x:B3)(hw:Wsm w)(hx:Ism x)(ha:A6o w x (A1b w x)=true)(h:pOk w x)(h0:(S0 w x).length≠0)(hP: ∀c∈w.cB,c.cL.cP.length<=2)(hR:(cRA w x x.cB.length).1.length<=1048576):cA_ A4n [.agg w.enc, .agg x.enc] [] (.agg ({w with cC:=A7k w x (J5 w x).length,cD:=B0l w x x.cD.length,cB:=B0k w x x.cB.length}:Api.World).enc) []:=by
 have hA:=A9t w x hw hx;rw[ha]at hA;have hN:=C82 w x hw hx h hP
 have hbl:=E2m w x
 have hS0:(S0 w x).length=(J5 w x).length:=F7c w x _ (Nat.le_refl _)
 have hbn:(J5 w x).length<=1048576:=by
  have:=F2n (a:=0) (n:=w.cC.length) (F7y w x) (λy hy=>by have:=hbl y hy;omega)
  have:=hw.1;omega
 have hV:=E3m (cRA w x x.cB.length).1 (S0 w x) w.cM.eL (by omega) hR;rw[show A00 (cRA w x x.cB.length).1 (S0 w x) w.cM.eL=sol w x from rfl]at hV;obtain⟨hs1,hs2⟩:=G3k w x;have hbase:=F5e w x x.cB.length
 have hra:=D3u w x hP (C0d h.2.2.1) x.cB.length (Nat.le_refl _);obtain⟨hv,a1,a2,a3⟩:=h;have hCx:=C0d a2
 have hJx:=C0d a3
 have a1':=D7s a1;obtain⟨hx1,hx2,hx3⟩:=hx;refine G6r 189 [(4,some (some 11))] hm A6 Tryz.func57 rfl ?_;refine B2 [(2, .eQ, .cW w.enc),(3, .eQ, .cW x.enc),(4, .cA, .ptr 80 0 0 1)] [(80, .box World.zero)] (C7 hm ?_) ?_
 ·simp only[go_sem,go_sem_proc,World.zero];refine B0 [] [] (st_ ?_);exact eE_
 refine B2 [(2, .cA, .cW w.enc),(3, .cA, .cW x.enc),(4, .cA, .ptr 80 0 0 1),(5, .cA, .ptr 96 0 0 1)] (B26 w (w.cC) (w.cD) (w.cB)) (C7 hm ?_) ?_
 ·refine st_ ?_;refine J2 ev_ K0 (U3 w hw) ?_;simp only[go_sem,go_sem_proc,World.zero];refine B0 [(7,400),(8,401),(9,402),(10,403)] [] ?_;simp only[go_sem,go_sem_proc]
 refine B2 [(2, .cA, .cW w.enc),(3, .cA, .cW x.enc),(4, .cA, .ptr 80 0 0 1),(5, .cA, .ptr 96 0 0 1)] (B26 w (w.cC) (w.cD) (w.cB)) (C7 hm ?_) ?_
 ·refine st_ ?_;refine A0 hA rfl ?_;simp only[go_sem,go_sem_proc,World.zero];refine B0 [] [] ?_;simp only[go_sem,go_sem_proc]
 refine B2 [(2, .cA, .cW w.enc),(3, .cA, .cW x.enc),(4, .cA, .ptr 80 0 0 1),(5, .cA, .ptr 96 0 0 1),(6, .cA, .ptr 6 0 0 1)] (B26 w (w.cC) (w.cD) (w.cB)++pbO w x (vB w x x.cC.length) (S0 w x) (cRA w x x.cB.length).1 (cRA w x x.cB.length).2) (C7 hm ?_) ?_
 ·refine st_ ?_;refine J2 ev_ K0 hN ?_;simp only[go_sem,go_sem_proc,World.zero];refine B0 [(6,533),(1,528),(3,530),(4,531),(5,532)] [] (st_ ?_);exact eE_
 refine B2 [(2, .cA, .cW w.enc),(3, .cA, .cW x.enc),(4, .cA, .ptr 80 0 0 1),(5, .cA, .ptr 96 0 0 1),(6, .cA, .ptr 6 0 0 1)] (B26 w (w.cC) (w.cD) (w.cB)++pbO w x (vB w x x.cC.length) (S0 w x) (cRA w x x.cB.length).1 (cRA w x x.cB.length).2) (C7 hm ?_) ?_
 ·refine st_ ?_;rw[if_neg (by simpa using h0)];refine B0 [] [] (st_ ?_);exact eE_
 refine B2 [(2, .cA, .cW w.enc),(3, .cA, .cW x.enc),(4, .cA, .ptr 80 0 0 1),(5, .cA, .ptr 96 0 0 1),(6, .cA, .ptr 6 0 0 1),(7, .eQ,A4 14 Row.enc dF_ (sol w x).1),(8, .eQ,A4 5 cE.enc dF_ (sol w x).2)] (B26 w (w.cC) (w.cD) (w.cB)++A3d w x (vB w x x.cC.length) (S0 w x) (cRA w x x.cB.length).1 (cRA w x x.cB.length).2) (C7 hm ?_) ?_
 ·refine st_ ?_;refine J2 ev_ K0 hV ?_;simp only[go_sem,go_sem_proc,World.zero];refine B0 [] [] (st_ ?_);exact eE_
 refine B2 [(2, .cA, .cW w.enc),(3, .cA, .cW x.enc),(4, .cA, .ptr 80 0 0 1),(5, .cA, .ptr 96 0 0 1),(6, .cA, .ptr 6 0 0 1),(7, .cA,A4 14 Row.enc dF_ (sol w x).1),(8, .cA,A4 5 cE.enc dF_ (sol w x).2)] (B26 w (A7k w x ((J5 w x).length)) (w.cD) (w.cB)++A3d w x (vB w x x.cC.length) (S0 w x) (cRA w x x.cB.length).1 (cRA w x x.cB.length).2) (B2 [(2, .cA, .cW w.enc),(3, .cA, .cW x.enc),(4, .cA, .ptr 80 0 0 1),(5, .cA, .ptr 96 0 0 1),(6, .cA, .ptr 6 0 0 1),(7, .cA,A4 14 Row.enc dF_ (sol w x).1),(8, .cA,A4 5 cE.enc dF_ (sol w x).2),(62, .cA,A4 1 C6 0 (J5 w x)),(63, .cA,sI ((J5 w x).length)),(64, .cA,sI (0:Nat))] (B26 w (A7k w x (0)) (w.cD) (w.cB)++A3d w x (vB w x x.cC.length) (S0 w x) (cRA w x x.cB.length).1 (cRA w x x.cB.length).2) (C7 hm ?_) (Y7 ?_)) ?_
 ·rw[show A7k w x 0=w.cC from rfl];refine st_ ?_;refine B0 [] [] (st_ ?_);exact eE_
 ·refine B1 hm (ι:= {k:Nat // k<=(J5 w x).length}) (λk=> [(2, .cA, .cW w.enc),(3, .cA, .cW x.enc),(4, .cA, .ptr 80 0 0 1),(5, .cA, .ptr 96 0 0 1),(6, .cA, .ptr 6 0 0 1),(7, .cA,A4 14 Row.enc dF_ (sol w x).1),(8, .cA,A4 5 cE.enc dF_ (sol w x).2),(62, .cA,A4 1 C6 0 (J5 w x)),(63, .cA,sI ((J5 w x).length)),(64, .cA,sI (k.1:Nat))]) (λk=>B26 w (A7k w x (k.1)) (w.cD) (w.cB)++A3d w x (vB w x x.cC.length) (S0 w x) (cRA w x x.cB.length).1 (cRA w x x.cB.length).2) (λk=>(J5 w x).length-k.1) ⟨0,Nat.zero_le _⟩ ?_ ?_
  ·refine B0 [] [] (st_ ?_);exact eE_
  ·rintro⟨k,hk⟩;dsimp only;have hn:A7k w x (k+1)=_:=H6 ..
   have hl:=E89 w x k
   have hfin:(J5 w x).length<=k->A7k w x k=A7k w x (J5 w x).length:=λh=>by rw[show k=(J5 w x).length by omega]
   rw[show itr _ k w.cC=A7k w x k from rfl]at hn;generalize A7k w x k=B at hn hl hfin⊢;by_cases hlt:k<(J5 w x).length;rotate_left
   ·refine st_ ?_;rw[if_neg (by omega),<-hfin (by omega)];refine B0 [] [] (st_ ?_);exact eE_
   have hi:=hbl _ (B8 (l:=J5 w x) (i:=k) 0 hlt);refine st_ ?_;rw[if_pos (by omega)];generalize(J5 w x).getD k 0=i at hn hi⊢;refine⟨bE_,?_⟩;obtain⟨q,hq⟩:=E3d x.cC i hx1 a1'.1;refine A0 hq rfl (st_ ?_);refine⟨λ_=>⟨hl.symm,by omega⟩,λ_=>hl.symm,?_⟩;by_cases hc:(x.cC.contains i&&(B.getD i.toNat dF_).cS==3)=true;rotate_left
   ·rw[if_neg hc]at hn⊢;refine A8 ⟨k+1,by omega⟩ (by show(J5 w x).length-(k+1)<(J5 w x).length-k;omega) ?_;simp only[hn];refine B0 [] [] (st_ ?_);exact eE_
   rw[if_pos hc]at hn⊢;refine⟨⟨hi.1,by rw[B5l];exact hi.2⟩,?_⟩;have hbm:=E58 hw x x.cC.length _ (B8 (l:=vB w x x.cC.length) (i:=i.toNat) dF_ (by rw[B5l];omega));unfold G6a at hn;generalize(vB w x x.cC.length).getD i.toNat dF_=b at hn hbm⊢;refine A0 (A4t b hbm) rfl (st_ ?_);refine⟨bE_,bE_,?_⟩;refine A0 (A12 {b with dL:=((sol w x).2.getD k dF_).dL,cZ:=((sol w x).2.getD k dF_).cZ}) rfl (st_ ?_);refine⟨⟨hl.symm,by omega⟩,hl.symm,?_⟩;refine A8 ⟨k+1,by omega⟩ (by show(J5 w x).length-(k+1)<(J5 w x).length-k;omega) ?_;simp only[hn];refine B0 [] [] (st_ ?_)
   (repeat' (with_reducible apply And.intro)) <;> first |exact A2y _ (by omega) rfl rfl |exact eE_
 refine B2 [(2, .cA, .cW w.enc),(3, .cA, .cW x.enc),(4, .cA, .ptr 80 0 0 1),(5, .cA, .ptr 96 0 0 1),(6, .cA, .ptr 6 0 0 1),(7, .cA,A4 14 Row.enc dF_ (sol w x).1),(8, .cA,A4 5 cE.enc dF_ (sol w x).2)] (B26 w (A7k w x (J5 w x).length) (B0l w x (x.cD.length)) (w.cB)++A3d w x (vB w x x.cC.length) (S0 w x) (cRA w x x.cB.length).1 (cRA w x x.cB.length).2) (B2 [(2, .cA, .cW w.enc),(3, .cA, .cW x.enc),(4, .cA, .ptr 80 0 0 1),(5, .cA, .ptr 96 0 0 1),(6, .cA, .ptr 6 0 0 1),(7, .cA,A4 14 Row.enc dF_ (sol w x).1),(8, .cA,A4 5 cE.enc dF_ (sol w x).2),(114, .cA,A4 1 C6 0 x.cD),(115, .cA,sI x.cD.length),(116, .cA,sI (0:Nat))] (B26 w (A7k w x (J5 w x).length) (B0l w x (0)) (w.cB)++A3d w x (vB w x x.cC.length) (S0 w x) (cRA w x x.cB.length).1 (cRA w x x.cB.length).2) (C7 hm ?_) (Y7 ?_)) ?_
 ·rw[show B0l w x 0=w.cD from rfl];refine st_ ?_;refine B0 [] [] (st_ ?_);exact eE_
 ·refine B1 hm (ι:= {k:Nat // k<=x.cD.length}) (λk=> [(2, .cA, .cW w.enc),(3, .cA, .cW x.enc),(4, .cA, .ptr 80 0 0 1),(5, .cA, .ptr 96 0 0 1),(6, .cA, .ptr 6 0 0 1),(7, .cA,A4 14 Row.enc dF_ (sol w x).1),(8, .cA,A4 5 cE.enc dF_ (sol w x).2),(114, .cA,A4 1 C6 0 x.cD),(115, .cA,sI x.cD.length),(116, .cA,sI (k.1:Nat))]) (λk=>B26 w (A7k w x (J5 w x).length) (B0l w x (k.1)) (w.cB)++A3d w x (vB w x x.cC.length) (S0 w x) (cRA w x x.cB.length).1 (cRA w x x.cB.length).2) (λk=>x.cD.length-k.1) ⟨0,Nat.zero_le _⟩ ?_ ?_
  ·refine B0 [] [] (st_ ?_);exact eE_
  ·rintro⟨k,hk⟩;dsimp only;have hn:B0l w x (k+1)=_:=H6 ..
   have hl:=C8g w x k
   have hfin:x.cD.length<=k->B0l w x k=B0l w x x.cD.length:=λh=>by rw[show k=x.cD.length by omega]
   rw[show itr _ k w.cD=B0l w x k from rfl]at hn;generalize B0l w x k=J at hn hl hfin⊢;by_cases hlt:k<x.cD.length;rotate_left
   ·refine st_ ?_;rw[if_neg (by omega),<-hfin (by omega)];refine B0 [] [] (st_ ?_);exact eE_
   have hi:=hJx _ (B8 (l:=x.cD) (i:=k) 0 hlt)
   have hb0:=hbase _ (B8 (l:=(cRA w x x.cB.length).2) (i:=k) 0 (by omega));refine st_ ?_;rw[if_pos (by omega)];generalize x.cD.getD k 0=i at hn hi⊢;refine⟨bE_,hi,?_⟩;unfold G6b at hn;generalize w.cD.getD i.toNat dF_=j at hn⊢;have hF:=λid=>C75 w x (vB w x x.cC.length) (S0 w x) (cRA w x x.cB.length).1 (cRA w x x.cB.length).2 id (by rw[B5l];exact hbl) (by omega)
   have hsa:=D36 hw x j.cU
   have hsb:=D36 hw x j.cV;unfold fB at hn hsa hsb;refine M1 (hF j.cU) C7i C7i (by simp[A3d]) (by simp[A3d,pbC,upd,A4,go_sem,go_sem_proc]) (by simp[A3d]) F1e rfl ?_;generalize pfR w x (vB w x x.cC.length) j.cU=a at hn hsa⊢;refine st_ ?_;refine M1 (hF j.cV) C7i C7i (by simp[A3d]) (by simp[A3d,pbC,upd,A4,go_sem,go_sem_proc]) (by simp[A3d]) F1e rfl ?_;generalize pfR w x (vB w x x.cC.length) j.cV=b at hn hsb⊢;refine st_ ?_;refine⟨bE_,?_⟩;refine A0 (D5s j a.1 b.1 (sol w x).1 ((cRA w x x.cB.length).2.getD k 0) hsa.2 hsb.2 (by omega)) rfl (st_ ?_);refine⟨⟨hl.symm,by omega⟩,hl.symm,?_⟩;refine A8 ⟨k+1,by omega⟩ (by show x.cD.length-(k+1)<x.cD.length-k;omega) ?_;simp only[hn];refine B0 [] [] (st_ ?_)
   (repeat' (with_reducible apply And.intro)) <;> first |exact A2y _ (by omega) rfl rfl |exact eE_
 refine B2 [(2, .cA, .cW w.enc),(3, .cA, .cW x.enc),(4, .cA, .ptr 80 0 0 1),(5, .cA, .ptr 96 0 0 1),(6, .cA, .ptr 6 0 0 1),(7, .cA,A4 14 Row.enc dF_ (sol w x).1),(8, .cA,A4 5 cE.enc dF_ (sol w x).2)] (B26 w (A7k w x (J5 w x).length) (B0l w x x.cD.length) (B0k w x (x.cB.length))++A3d w x (vB w x x.cC.length) (S0 w x) (cRA w x x.cB.length).1 (cRA w x x.cB.length).2) (B2 [(2, .cA, .cW w.enc),(3, .cA, .cW x.enc),(4, .cA, .ptr 80 0 0 1),(5, .cA, .ptr 96 0 0 1),(6, .cA, .ptr 6 0 0 1),(7, .cA,A4 14 Row.enc dF_ (sol w x).1),(8, .cA,A4 5 cE.enc dF_ (sol w x).2),(158, .cA,A4 1 C6 0 x.cB),(159, .cA,sI x.cB.length),(160, .cA,sI (0:Nat))] (B26 w (A7k w x (J5 w x).length) (B0l w x x.cD.length) (B0k w x (0))++A3d w x (vB w x x.cC.length) (S0 w x) (cRA w x x.cB.length).1 (cRA w x x.cB.length).2) (C7 hm ?_) (Y7 ?_)) ?_
 ·rw[show B0k w x 0=w.cB from rfl];refine st_ ?_;refine B0 [] [] (st_ ?_);exact eE_
 ·refine B1 hm (ι:= {k:Nat // k<=x.cB.length}) (λk=> [(2, .cA, .cW w.enc),(3, .cA, .cW x.enc),(4, .cA, .ptr 80 0 0 1),(5, .cA, .ptr 96 0 0 1),(6, .cA, .ptr 6 0 0 1),(7, .cA,A4 14 Row.enc dF_ (sol w x).1),(8, .cA,A4 5 cE.enc dF_ (sol w x).2),(158, .cA,A4 1 C6 0 x.cB),(159, .cA,sI x.cB.length),(160, .cA,sI (k.1:Nat))]) (λk=>B26 w (A7k w x (J5 w x).length) (B0l w x x.cD.length) (B0k w x (k.1))++A3d w x (vB w x x.cC.length) (S0 w x) (cRA w x x.cB.length).1 (cRA w x x.cB.length).2) (λk=>x.cB.length-k.1) ⟨0,Nat.zero_le _⟩ ?_ ?_
  ·refine B0 [] [] (st_ ?_);exact eE_
  ·rintro⟨k,hk⟩;dsimp only;have hn:B0k w x (k+1)=_:=H6 ..
   have hl:=C8f w x k
   have hfin:x.cB.length<=k->B0k w x k=B0k w x x.cB.length:=λh=>by rw[show k=x.cB.length by omega]
   rw[show itr _ k w.cB=B0k w x k from rfl]at hn;generalize B0k w x k=C at hn hl hfin⊢;by_cases hlt:k<x.cB.length;rotate_left
   ·refine st_ ?_;rw[if_neg (by omega),<-hfin (by omega)];refine B0 [] [] (st_ ?_);exact eE_
   have hi:=hCx _ (B8 (l:=x.cB) (i:=k) 0 hlt)
   have hb0:=hbase _ (B8 (l:=(cRA w x x.cB.length).2) (i:=x.cD.length+k) 0 (by omega));refine st_ ?_;rw[if_pos (by omega)];generalize x.cB.getD k 0=i at hn hi⊢;have hpt:=hP _ (B8 (l:=w.cB) (i:=i.toNat) dF_ (by omega));generalize w.cB.getD i.toNat dF_=c at hn hpt⊢;have hw1:IntKind.i64.wrap ((x.cD.length:Int)+(k:Nat))=((x.cD.length+k:Nat):Int):=by rw[F4z (by omega) (by omega)];omega
   simp only[hw1,Int.toNat_natCast];refine⟨bE_,hi,bE_,?_⟩;refine A0 (C9y c (sol w x).1 ((cRA w x x.cB.length).2.getD (x.cD.length+k) 0) (by omega) (by omega)) rfl (st_ ?_);refine⟨⟨hl.symm,by omega⟩,hl.symm,?_⟩;refine A8 ⟨k+1,by omega⟩ (by show x.cB.length-(k+1)<x.cB.length-k;omega) ?_;simp only[hn];refine B0 [] [] (st_ ?_)
   (repeat' (with_reducible apply And.intro)) <;> first |exact A2y _ (by omega) rfl rfl |exact eE_
 refine C7 hm ?_;have hq1:=E89 w x (J5 w x).length
 have hq2:=C8g w x x.cD.length
 have hq3:=C8f w x x.cB.length;refine st_ ?_;rw[hq1,hq2,hq3];exact⟨⟨rfl,rfl,rfl⟩,D0 _,D0 _,D0 _⟩
theorem D3l(w:Api.World)(x:B3)(hw:Wsm w)(hx:Ism x)(hP:B9 w=0-> ∀c∈w.cB,c.cL.cP.length<=2)(hJ:w.cD.length<=20000)(hC:w.cB.length<=230400):cA_ A4n [.agg w.enc, .agg x.enc] [] (.agg (D89 w x).enc) []:=by
 unfold D89;by_cases ha:A6o w x (A1b w x)=false
 ·rw[if_pos ha];exact E02 w x hw hx ha
 rw[if_neg ha];have ha:=Bool.not_eq_false _▸ha;by_cases hp:pOk w x;rotate_left
 ·rw[if_pos (.inl hp)];exact E03 w x hw hx ha hp
 have hP:=hP hp.1;by_cases h0:(S0 w x).length=0
 ·rw[if_pos (.inr h0)];exact E04 w x hw hx ha hp h0 hP
 rw[if_neg (λh=>h.elim (λh=>h hp) h0)];refine E05 w x hw hx ha hp h0 hP ?_;have h1:=D3u w x hP (C0d hp.2.2.1) x.cB.length (Nat.le_refl _)
 have h2:=(D7s hp.2.2.1).2
 have h3:=(D7s hp.2.2.2).2;omega
def D32(e:Int×Int):List AV:= [sI e.1,sI e.2,sI 0,sI 0,sI 0]
attribute [go_sem] D32
def wkB(b:cF):cF:= {b with eU:=false,eJ:=0}
def B0p(s:List cF×List (Int×Int))(i:Int):List cF×List (Int×Int):=if(s.1.getD i.toNat dF_).eU=true then(s.1.set i.toNat (wkB (s.1.getD i.toNat dF_)),s.2++ [(7,(s.1.getD i.toNat dF_).ID)])else s
def wkF(w:Api.World)(l:List Int):List cF×List (Int×Int):=l.foldl B0p (w.cC,[])
theorem G3r(w:Api.World):wkF w []=(w.cC,[]):=rfl
theorem E9m {w:Api.World}{l:List Int}{k:Nat}(h:k<l.length):wkF w (l.take (k+1))=B0p (wkF w (l.take k)) (l.getD k 0):=by unfold wkF;rw[L5 0 h];simp
theorem F4y(s:List cF×List (Int×Int))(i:Int):(B0p s i).1.length=s.1.length/\(B0p s i).2.length<=s.2.length+1:=by unfold B0p;split <;> simp
theorem F2s(w:Api.World)(l:List Int):(wkF w l).1.length=w.cC.length/\(wkF w l).2.length<=l.length:=by
 have: ∀(l:List Int) (s:List cF×List (Int×Int)),(l.foldl B0p s).1.length=s.1.length/\(l.foldl B0p s).2.length<=s.2.length+l.length:=by
  intro l;induction l with
  |nil=>intro s;simp
  |cons a l ih=>intro s;have h1:=ih (B0p s a);have h2:=F4y s a;simp only[List.foldl_cons,List.length_cons];omega
 have:=this l (w.cC,[]);simpa[wkF]using this
def U8(w:Api.World)(bs:List cF):Api.World:= {w with cC:=bs}
def G6u(k:Nat)(e:List (Int×Int)):List (Nat×A7):= [(k, .arr 5 (A9 D32 dF_ e))]
attribute [go_sem] G6u U8
def E5z(w:Api.World)(bs:List cF)(x:B3)(l:List Int):List (Nat×A7):= [(6, .box (E74 w x l.length)),(5, .arr 1 (A9 C6 0 l)),(1, .arr 20 (A9 cF.enc dF_ bs)),(2, .arr 24 (A9 cG.enc dF_ w.cD)),(3, .arr 7 (A9 cY.enc dF_ w.cB)),(4, .arr 4 (A9 cR.enc dF_ w.cT))]
attribute [go_sem] E5z
def wkR(w:Api.World)(x:B3):List cF×List (Int×Int):=if A6o w x (A1b w x)=true then wkF w (A1b w x)else(w.cC,[])
def upF(w:Api.World)(l:List Int):List cF:=l.foldl (λbs i=>bs.set i.toNat (B3x (bs.getD i.toNat dF_))) w.cC
theorem G3n(w:Api.World):upF w []=w.cC:=rfl
theorem F92 {w:Api.World}{l:List Int}{k:Nat}(h:k<l.length):upF w (l.take (k+1))=(upF w (l.take k)).set (l.getD k 0).toNat (B3x ((upF w (l.take k)).getD (l.getD k 0).toNat dF_)):=by unfold upF;rw[L5 0 h];simp
theorem F2q(w:Api.World)(l:List Int):(upF w l).length=w.cC.length:=by
 have: ∀(l:List Int) (s:List cF),(l.foldl (λbs i=>bs.set i.toNat (B3x (bs.getD i.toNat dF_))) s).length=s.length:=by
  intro l;induction l with
  |nil=>intro s;rfl
  |cons a l ih=>intro s;rw[List.foldl_cons,ih];simp
 exact this l w.cC
theorem F0d {α:Type}(l:List α)(k:Nat)(d:α):l.getD k d∈l\/l.getD k d=d:=by
 by_cases h:k<l.length
 ·exact .inl (B8 d h)
 ·right;simp[List.getD,Nat.le_of_not_lt h]
theorem G6c {w:Api.World}(hw:Wsm w)(l:List Int):Wsm (U8 w (upF w l)):=by
 obtain⟨w1,w2,w3,w4,w5,w6⟩:=hw;have hd:cF.sm default:=⟨by decide,λf hf=>by cases hf⟩
 have: ∀(l:List Int) (s:List cF),(∀b∈s,cF.sm b)-> ∀b∈l.foldl (λbs i=>bs.set i.toNat (B3x (bs.getD i.toNat dF_))) s,cF.sm b:=by
  intro l;induction l with
  |nil=>exact λs h=>h
  |cons a l ih=>
   intro s h;refine ih _ λb hb=> ?_;rcases List.mem_or_eq_of_mem_set hb with h1 |rfl
   ·exact h b h1
   ·show cF.sm (s.getD a.toNat dF_);rcases F0d s a.toNat dF_ with h2 |h2
    ·exact h _ h2
    ·rw[h2];exact hd
 refine⟨?_,w2,w3,w4,this l _ w5,w6⟩;show(upF w l).length<=_;rw[F2q];exact w1
def F9y(b:cF):cF:= {b with eU:=true,dL:=⟨0,0⟩,cZ:=0}
def B5i(s:List cF×List (Int×Int))(i:Int):List cF×List (Int×Int):=(s.1.set i.toNat (F9y (s.1.getD i.toNat dF_)),s.2++ [(6,(s.1.getD i.toNat dF_).ID)])
def slF(bs:List cF)(l:List Int):List cF×List (Int×Int):=l.foldl B5i (bs,[])
theorem G3j(bs:List cF):slF bs []=(bs,[]):=rfl
theorem F9v {bs:List cF}{l:List Int}{k:Nat}(h:k<l.length):slF bs (l.take (k+1))=B5i (slF bs (l.take k)) (l.getD k 0):=by unfold slF;rw[L5 0 h];simp
theorem F2m(bs:List cF)(l:List Int):(slF bs l).1.length=bs.length/\(slF bs l).2.length<=l.length:=by
 have: ∀(l:List Int) (s:List cF×List (Int×Int)),(l.foldl B5i s).1.length=s.1.length/\(l.foldl B5i s).2.length<=s.2.length+l.length:=by
  intro l;induction l with
  |nil=>intro s;simp
  |cons a l ih=>intro s;have h1:=ih (B5i s a);simp only[B5i,List.length_set,List.length_append,List.length_singleton]at h1;simp only[List.foldl_cons,List.length_cons,B5i];omega
 have:=this l (bs,[]);simpa[slF]using this
def B0n(w:Api.World)(x:B3)(l:List Int):Bool:=!(decide (w.cM.eD<=0))&& !(decide (l.length=0))&& !(l.any λi=>decide ((B4m (U8 w (upF w l)) i).eJ<w.cM.eD))&& !(B6c (U8 w (upF w l)) x)
def B5k(w:Api.World)(x:B3):List cF×List (Int×Int):=if A6o w x (A1b w x)=true then(if B0n w x (A1b w x)=true then slF (upF w (A1b w x)) (A1b w x)else(upF w (A1b w x),[]))else(w.cC,[])
def eB(g:cF->cF)(l:List cF)(i:Nat):List cF:=(l.take i).map g++l.drop i
theorem G4j(g:cF->cF)(l:List cF)(i:Nat):(eB g l i).length=l.length:=by simp[eB];omega
theorem G6p(g:cF->cF){l:List cF}{i:Nat}(h:i<l.length):(eB g l i).getD i dF_=l.getD i default:=by
 unfold eB;have hq:((l.take i).map g).length=i:=by simp;omega
 simp only[List.getD];rw[List.getElem?_append_right (by omega),hq,Nat.sub_self,List.getElem?_drop,Nat.add_zero]
theorem G4k(g:cF->cF){l:List cF}{i:Nat}(h:i<l.length):eB g l (i+1)=(eB g l i).set i (g (l.getD i dF_)):=by
 unfold eB;have hq:((l.take i).map g).length=i:=by simp;omega
 rw[L5 dF_ h,List.map_append,List.map_singleton,List.set_append_right _ _ (by omega),hq,Nat.sub_self,List.append_assoc];congr 1;rw[List.drop_eq_getElem_cons h];rfl
theorem D6j(w:Api.World)(hw:Wsm w)(f:FuncId)(cap:List AV)(g:cF->cF)(h2:F0 cap= [])(hr: ∀ρ,A9i ρ cap=cap)
  (hp: ∀b∈w.cC,cA_ f (.agg b.enc::cap) [] (.agg (g b).enc) []):
  cA_ E9y [.agg w.enc, .fn (.func f) [] cap] [] (.agg (U8 w (w.cC.map g)).enc) []:=by
 have hbn:=hw.1;refine M3 26 [(4,some (some 11))] hm A6 Tryz.func114 rfl (st_ ?_);refine J2 ev_ K0 (U3 w hw) (st_ ?_);refine B1 hm (ι:= {i:Nat // i<=w.cC.length}) (λi=> [(1, .cA, .fn (.func f) [] cap),(2, .cA, .ptr 48 0 0 1),(4, .cA, .ptr 80 0 0 1),(10, .cA, .sl 1 0 w.cC.length w.cC.length),(11, .cA,sI w.cC.length),(12, .cA,sI (i.1:Nat))]) (λi=> [(48, .box [sI w.cM.dZ,sI w.cM.eG.X,sI w.cM.eG.Y,sI w.cM.eL,sI w.cM.eD, .sl 1 0 w.cC.length w.cC.length, .sl 2 0 w.cD.length w.cD.length, .sl 3 0 w.cB.length w.cB.length, .sl 4 0 w.cT.length w.cT.length,sI w.dJ,sI w.eK]),(80, .box World.zero),(1, .arr 20 (A9 cF.enc dF_ (eB g w.cC i.1))),(2, .arr 24 (A9 cG.enc dF_ w.cD)),(3, .arr 7 (A9 cY.enc dF_ w.cB)),(4, .arr 4 (A9 cR.enc dF_ w.cT))]) (λi=>w.cC.length-i.1) ⟨0,Nat.zero_le _⟩ ?_ ?_
 ·rw[show eB g w.cC 0=w.cC from rfl];simp only[World.zero];refine B0 [(1,144),(2,145),(3,146),(4,147)] [] (st_ ?_);exact⟨by rw[hr],λi hi=>by rw[h2]at hi;cases hi⟩
 ·rintro⟨k,hk⟩;dsimp only;have hn:=λh=>G4k g (l:=w.cC) (i:=k) h
  have hat:=λh=>G6p g (l:=w.cC) (i:=k) h
  have hl:=G4j g w.cC k
  have hfin:w.cC.length<=k->eB g w.cC k=w.cC.map g:=λh=>by simp[eB,show k=w.cC.length by omega]
  generalize eB g w.cC k=B at hn hat hl hfin⊢;refine st_ ?_;by_cases hlt:k<w.cC.length;rotate_left
  ·rw[if_neg (by omega),hfin (by omega),List.length_map];exact⟨rfl,D0 _⟩
  rw[if_pos (by omega)];refine⟨⟨hl.symm,by omega⟩,hl.symm,?_⟩;rw[hat hlt];replace hn:=hn hlt;have hx:=hp _ (B8 (l:=w.cC) (i:=k) dF_ hlt);generalize w.cC.getD k dF_=b at hn hx⊢;refine A2z hx (by simp[h2,F0,AV.ids]) rfl (st_ ?_);refine⟨⟨hl.symm,by omega⟩,hl.symm,?_⟩;refine A8 ⟨k+1,by omega⟩ (by show w.cC.length-(k+1)<w.cC.length-k;omega) ?_;simp only[hn];refine B0 [] [] (st_ ?_);exact⟨by rw[hr],(λi hi=>by rw[h2]at hi;cases hi),bE_,A2y _ (by omega) rfl rfl⟩
def brk(w:Api.World)(j:cG):Bool:=A6u j w.cM.dZ
def F7z(j:cG):Api.Event:=⟨5,⟨j.ID,0,0,0⟩⟩
def bkL(w:Api.World)(l:List cG):List Api.Event:=(l.filter (brk w)).map F7z
def bjO(w:Api.World)(e:List Api.Event):List (Nat×A7):= [(8, .box w.enc),(9, .box [.sl 7 0 e.length e.length]),(7, .arr 5 (A9 Api.Event.enc dF_ e))]
attribute [go_sem] bjO
theorem D4i {w:Api.World}{e:List Api.Event}:okO (bjO w e):=by
 refine⟨by simp[bjO],λp hp cs ee j hj=> ?_⟩;simp only[bjO,List.mem_cons,List.not_mem_nil,or_false]at hp;rcases hp with rfl |rfl |rfl
 ·simp only[A7.box.injEq]at ee;subst ee;simp[World.enc,F0,AV.ids,A4]at hj
 ·simp only[A7.box.injEq]at ee;subst ee;simp[F0,AV.ids]at hj;subst hj;rfl
 ·cases ee
theorem D7x {w:Api.World}{l:List cG}{k:Nat}(h:k<l.length):bkL w (l.take (k+1))=if brk w (l.getD k dF_)=true then bkL w (l.take k)++ [F7z (l.getD k dF_)]else bkL w (l.take k):=by
 unfold bkL;rw[L5 dF_ h,List.filter_append,List.map_append];split
 ·rename_i hp;rw[List.filter_cons_of_pos hp];rfl
 ·rename_i hp;rw[List.filter_cons_of_neg hp];simp
theorem E2j {w:Api.World}{l:List cG}:(bkL w l).length<=l.length:=by unfold bkL;rw[List.length_map];exact List.length_filter_le ..
theorem E7c {w:Api.World}{l:List cG}{k:Nat}(h: ∀j,j<k->brk w (l.getD j dF_)=false)(hk:k<=l.length):bkL w (l.take k)= []:=by
 induction k with
 |zero=>rfl
 |succ k ih=>rw[D7x (by omega),if_neg (by rw[h k (by omega)];simp),ih (λj hj=>h j (by omega)) (by omega)]
theorem F2j(w:Api.World)(j:cG)(e:List Api.Event)(he:e.length<=4194304):
  cA_ A1j [.agg j.enc, .ptr 8 0 0 1, .ptr 9 0 0 1] (bjO w e) (sB (brk w j)) (bjO w (if brk w j=true then e++ [F7z j]else e)):=by
 refine I7 hm A6 Tryz.func203 rfl rfl (st_ ?_);refine A0 (D24 j w.cM.dZ) rfl ?_;rw[show A6u j w.cM.dZ=brk w j from rfl];generalize brk w j=p;refine st_ ?_;cases p with
 |false=>rw[if_neg (by simp),if_neg (by simp)];refine B6 [.cA] [] [] ?_;simp only[go_sem,go_sem_proc]
 |true=>rw[if_pos rfl,if_pos rfl];refine⟨bE_,?_⟩;refine B6 [.cA] [] [] (st_ ?_);exact eE_
theorem F45 {w:Api.World}{e:List Api.Event}{j:cG}: ∀a∈ [AV.agg j.enc, .ptr 8 0 0 1, .ptr 9 0 0 1],∀i∈a.ids,(ofL (bjO w e) i).isSome:=by
 intro a ha i hi;simp only[List.mem_cons,List.not_mem_nil,or_false]at ha;rcases ha with rfl |rfl |rfl
 ·simp[AV.ids,cG.enc,F0]at hi
 ·simp[AV.ids]at hi;subst hi;rfl
 ·simp[AV.ids]at hi;subst hi;rfl
def dfO(w:Api.World)(l:List cG)(e:List Api.Event):List (Nat×A7):=(1, .arr 24 (A9 cG.enc dF_ l))::bjO w e
attribute [go_sem] dfO
theorem F2b {w:Api.World}{l:List cG}{e:List Api.Event}:okO (dfO w l e):=by
 refine⟨by simp[dfO,bjO],λp hp cs ee j hj=> ?_⟩;simp only[dfO,bjO,List.mem_cons,List.not_mem_nil,or_false]at hp;rcases hp with rfl |rfl |rfl |rfl
 ·cases ee
 ·simp only[A7.box.injEq]at ee;subst ee;simp[World.enc,F0,AV.ids,A4]at hj
 ·simp only[A7.box.injEq]at ee;subst ee;simp[F0,AV.ids]at hj;subst hj;rfl
 ·cases ee
theorem B7y(w:Api.World)(l:List cG)(hl:l.length<=4000000):
  cA_ A5n [.sl 1 0 l.length l.length, .fn (.func A1j) [] [.ptr 8 0 0 1, .ptr 9 0 0 1]] (dfO w l []) (sI (A3t dF_ (brk w) l)) (dfO w l (bkL w (if A3t dF_ (brk w) l= -1 then l else l.take (A3t dF_ (brk w) l+1).toNat))):=by
 refine I7 hm A6 Tryz.func333 rfl rfl (st_ ?_);refine B1 hm (ι:= {i:Nat // i<=l.length/\ ∀j,j<i->brk w (l.getD j dF_)=false}) (λi=> [(0, .cA, .sl 1 0 l.length l.length),(1, .cA, .fn (.func A1j) [] [.ptr 8 0 0 1, .ptr 9 0 0 1]),(7, .cA,sI l.length),(8, .cA,sI i.1)])
  (λi=>dfO w l []) (λi=>l.length-i.1) ⟨0,by omega,λj hj=>by omega⟩ ?_ ?_
 ·refine B0 [] [] ?_;simp only[go_sem,go_sem_proc]
 ·rintro⟨i,hi,hs⟩;refine st_ ?_;split
  ·rename_i hlt;have hlt:i<l.length:=by omega
   refine⟨⟨by omega,by omega⟩,?_⟩;have hx:=F2j w (l.getD i dF_) [] (by simp)
   have hb:=D7x (w:=w) (l:=l) hlt;rw[E7c hs (by omega)]at hb;rw[<-hb]at hx;refine M1 hx D4i D4i (by simp[bjO]) (by simp[bjO,World.enc,upd,A4,go_sem,go_sem_proc]) (by simp[bjO]) F45 rfl (st_ ?_);cases hpx:brk w (l.getD i dF_)with
   |true=>rw[if_pos rfl,A6g hlt hs hpx,if_neg (by omega),show((i:Int)+1).toNat=i+1 by omega];refine B6 [.cA] [] [] ?_;simp only[go_sem,go_sem_proc]
   |false=>rw[hpx,if_neg (by simp)]at hb;rw[if_neg (by simp),hb];refine A8 ⟨i+1,by omega,λj hj=>by rcases Nat.lt_succ_iff_lt_or_eq.1 hj with h |rfl;exact hs j h;exact hpx⟩ (by show l.length-(i+1)<l.length-i;omega) ?_;refine B0 [] [] (st_ ?_);exact eE_
  ·rename_i hge;rw[A2t λj hj=>hs j (by omega),if_pos rfl];have hb:=E7c (w:=w) (l:=l) hs (by omega);rw[show i=l.length by omega,List.take_length]at hb;rw[hb];refine B6 [.cA] [] [] ?_;simp only[go_sem,go_sem_proc]
theorem G4d {w:Api.World}{l:List cG}{e:List Api.Event}: ∀a∈ [AV.sl 1 0 l.length l.length, .fn (.func A1j) [] [.ptr 8 0 0 1, .ptr 9 0 0 1]],∀i∈a.ids,(ofL (dfO w l e) i).isSome:=by
 intro a ha i hi;simp only[List.mem_cons,List.not_mem_nil,or_false]at ha;rcases ha with rfl |rfl
 ·simp[AV.ids]at hi;subst hi;rfl
 ·simp[AV.ids,F0]at hi;rcases hi with rfl |rfl <;> rfl
theorem B6n(w:Api.World)(l:List cG)(hl:l.length<=4000000):
  cA_ A9q [.sl 1 0 l.length l.length, .fn (.func A1j) [] [.ptr 8 0 0 1, .ptr 9 0 0 1]] (dfO w l []) (.sl 1 0 (dfR dF_ (brk w) l l.length).1 l.length) ((1, .arr 24 (dfQ cG.enc dF_ (brk w) l E4s))::bjO w (bkL w l)):=by
 refine I7 hm A6 Tryz.func202 rfl rfl (st_ ?_);refine M1 (B7y w l hl) F2b F2b (by simp[dfO,bjO]) (by simp[dfO,bjO,World.enc,upd,A4,go_sem,go_sem_proc]) (by simp[dfO,bjO]) G4d rfl (st_ ?_);rcases B4n (d:=dF_) (p:=brk w) (l:=l)with⟨e,h0⟩ |⟨i0,hi0,e,hp0,hs0⟩
 ·rw[e,if_pos (by decide),C0n h0,A44 l.length (Nat.le_refl _) h0,if_pos rfl];refine B6 [.cA] [] [] ?_;simp only[go_sem,go_sem_proc]
 rw[e,if_neg (by simp),if_neg (by omega),show((i0:Int)+1).toNat=i0+1 by omega];refine B1 hm (ι:= {j:Nat // j<=l.length}) (λj=> [(0, .cA, .sl 1 0 l.length l.length),(1, .cA, .fn (.func A1j) [] [.ptr 8 0 0 1, .ptr 9 0 0 1]),(5, .cA,sI ((dfR dF_ (brk w) l j.1).1)),(6, .cA,sI j.1)])
  (λj=>dfO w (dfR dF_ (brk w) l j.1).2 (bkL w (l.take j.1))) (λj=>l.length-j.1) ⟨i0+1,hi0⟩ ?_ ?_
 ·have e1:dfR dF_ (brk w) l (i0+1)=(i0,l):=by
   rw[dfR,A44 i0 (by omega) hs0];unfold A30;rw[if_pos hp0]
  rw[e1];refine B0 [] [] (st_ ?_);exact eE_
 ·rintro⟨j,hj⟩;obtain⟨g1,g2,g3,g4⟩:=B0y (d:=dF_) (p:=brk w) (l:=l) j hj;dsimp only;have hnext:=λhjl:j<l.length=>(show dfR dF_ (brk w) l (j+1)=A30 dF_ (brk w) j (dfR dF_ (brk w) l j)from rfl);generalize hst:dfR dF_ (brk w) l j=st at g1 g2 g3 g4 hnext⊢;obtain⟨i,m⟩:=st;dsimp only at g1 g2 g3 g4 hnext⊢;refine st_ ?_;split
  ·rename_i hlt;have hlt:j<l.length:=by omega
   have hgj:=g3 j (Nat.le_refl j)
   have hn:=hnext hlt;simp only[hgj];refine⟨⟨g2.symm,by omega,by omega⟩,g2.symm,?_⟩;have hbl:(bkL w (l.take j)).length<=4194304:=by
    have h1:=E2j (w:=w) (l:=l.take j)
    have h2:(l.take j).length<=l.length:=by rw[List.length_take];omega
    omega
   have hx:=F2j w (l.getD j dF_) (bkL w (l.take j)) hbl
   have hb:=D7x (w:=w) (l:=l) hlt;rw[<-hb]at hx;refine M1 hx D4i D4i (by simp[bjO]) (by simp[bjO,World.enc,upd,A4,go_sem,go_sem_proc]) (by simp[bjO]) F45 rfl (st_ ?_);unfold A30 at hn;dsimp only at hn;rw[hgj]at hn;cases hpx:brk w (l.getD j dF_)with
   |true=>rw[hpx,if_pos rfl]at hn;rw[if_neg (by simp)];refine A8 ⟨j+1,hlt⟩ (by show l.length-(j+1)<l.length-j;omega) ?_;simp only[hn];refine B0 [] [] (st_ ?_);exact eE_
   |false=>rw[hpx,if_neg (by simp)]at hn;rw[if_pos rfl];refine⟨⟨g2.symm,by omega,by omega⟩,g2.symm,?_⟩;refine A8 ⟨j+1,hlt⟩ (by show l.length-(j+1)<l.length-j;omega) ?_;simp only[hn];rw[A65 (l.getD j dF_) (by omega) (by rw[<-hgj];rfl)];refine B0 [] [] (st_ ?_);exact eE_
  ·rename_i hge;obtain rfl:j=l.length:=by omega
   have e1:((l.length:Int)-(i:Int)).toNat=l.length-i:=by omega
   have e2:((i:Int)-0).toNat=i:=by omega
   rw[e1,e2,List.take_length];refine⟨⟨g2.symm,by omega,by omega,by omega⟩,g2.symm,⟨g2.symm,by omega,by omega,by omega⟩,?_⟩;unfold dfQ;rw[hst];refine B6 [.cA] [] [] ?_;simp only[go_sem,go_sem_proc]
   all_goals exact A20
def bkW(w:Api.World):Api.World:= {w with cD:=w.cD.filter λj=> !brk w j}
theorem D3m(w:Api.World)(hw:Wsm w):cA_ D1e [.agg w.enc] [] (.tup [.agg (bkW w).enc,A4 5 Api.Event.enc dF_ (bkL w w.cD)]) []:=by
 have hjn:w.cD.length<=1048576:=hw.2.1
 have hD:=B6n w w.cD (by omega);refine E0h 13 [(2,some (some 11)),(3,none)] hm A6 Tryz.func119 rfl ?_;refine B2 [(1, .cA, .ptr 8 0 0 1),(2, .cA, .ptr 48 0 0 1),(3, .cA, .sc (.slice none 0 0))] [(8, .box w.enc),(48, .box World.zero)] (C7 hm ?_) ?_
 ·simp only[go_sem,go_sem_proc,World.zero];refine B0 [(8,32)] [] ?_;simp only[go_sem,go_sem_proc]
 refine B2 [(1, .cA, .ptr 8 0 0 1),(2, .cA, .ptr 48 0 0 1),(4, .cA, .ptr 9 0 0 1)] ([(48, .box World.zero)]++bjO w []) (C7 hm ?_) ?_
 ·simp only[go_sem,go_sem_proc,World.zero];refine B0 [(9,80)] [7] ?_;simp only[go_sem,go_sem_proc]
 refine C7 hm (st_ ?_);refine J2 ev_ K0 (A8t w.cD hjn) (st_ ?_);refine B5 [true,true] [(1,128)] hD (by simp[dfO,bjO]) (by simp[bjO]) (by simp[bjO,D3]) (by simp[dfO,bjO,go_sem]) (st_ ?_);exact⟨E0g.symm,rfl,rfl,rfl,rfl,rfl,D0 _,D1u rfl λ_=>rfl,D0 _,D0 _,rfl,rfl⟩
def evP(p:Int×Int):Api.Event:=⟨p.1,⟨p.2,0,0,0⟩⟩
theorem F5u(l:List (Int×Int)):M9 (A4 5 D32 dF_ l) (A4 5 Api.Event.enc dF_ (l.map evP)):=by
 unfold A4;rw[U4];refine⟨rfl,by rw[List.length_map],λi hi=> ?_⟩;show W0 (D32 (l.getD i dF_)) (Api.Event.enc ((l.map evP).getD i dF_));have hi':i<l.length:=hi
 have e:(l.map evP).getD i dF_=evP (l.getD i dF_):=by simp only[List.getD,List.getElem?_map,List.getElem?_eq_getElem hi',Option.map_some,Option.getD_some]
 rw[e];exact H9 _
theorem E5t(w:Api.World)(x:B3)(hw:Wsm w)(hx:Ism x):cA_ E6p [.agg w.enc, .agg x.enc] [] (.tup [.agg (U8 w (wkR w x).1).enc,A4 5 Api.Event.enc dF_ ((wkR w x).2.map evP)]) []:=by
 have hl:=D8h (w:=w) hx;refine S1 62 [(4,some (some 11)),(5,none)] hm A6 Tryz.func99 rfl (st_ ?_);refine B5 [true,true] [] (B3b w x hw hx) (by simp) (by simp[go_sem]) (by simp[go_sem]) (by simp) (st_ ?_);refine Z2 (A9j w x (A1b w x) hw hx hl (C5b w x)) (B0h w x _) (by simp[go_sem,A1b]) (by simp[go_sem,AV.ids]) rfl (st_ ?_);cases haw:A6o w x (A1b w x)with
 |false=>
  refine st_ ?_;have hr:wkR w x=(w.cC,[]):=by unfold wkR;rw[haw];rfl
  rw[hr]
  try simp only[go_sem,go_sem_proc]
  (repeat' (with_reducible apply And.intro)) <;> exact eE_
 |true=>
  refine st_ ?_;have hr:wkR w x=wkF w (A1b w x):=by unfold wkR;rw[haw];rfl
  rw[hr];have hin:=C5b w x;generalize hll:A1b w x=l at*;refine B1 hm (ι:= {i:Nat // i<=l.length}) (λi=> [(4, .cA, .ptr 80 0 0 1),(6, .cA, .ptr 6 0 0 1),(7,if i.1=0 then .eZ else .cA, .sl 7 0 (wkF w (l.take i.1)).2.length (wkF w (l.take i.1)).2.length),(24, .cA, .sl 5 0 l.length l.length),(25, .cA,sI l.length),(26, .cA,sI i.1)])
   (λi=>(80, .box World.zero)::(7, .arr 5 (A9 D32 dF_ (wkF w (l.take i.1)).2))::E5z w (wkF w (l.take i.1)).1 x l) (λi=>l.length-i.1) ⟨0,by omega⟩ ?_ ?_
  ·refine B0 [] [7] ?_;simp only[go_sem,go_sem_proc,G3r]
  ·rintro⟨i,hi⟩;obtain⟨hb1,hb2⟩:=F2s w (l.take i);simp only[List.length_take]at hb2;refine st_ ?_;split
   ·rename_i hlt;have hlt:i<l.length:=by omega
    obtain⟨hi0,hi1⟩:=hin _ (B8 0 hlt);refine⟨(by(repeat' (with_reducible apply And.intro)) <;> omega),(by(repeat' (with_reducible apply And.intro)) <;> omega),hb1.symm,?_⟩;by_cases hs:((wkF w (l.take i)).1.getD (l.getD i 0).toNat dF_).eU=true
    ·have he:wkF w (l.take (i+1))=((wkF w (l.take i)).1.set (l.getD i 0).toNat (wkB ((wkF w (l.take i)).1.getD (l.getD i 0).toNat dF_)),(wkF w (l.take i)).2++ [(7,((wkF w (l.take i)).1.getD (l.getD i 0).toNat dF_).ID)]):=by
      rw[E9m hlt,B0p,if_pos hs]
     rw[if_pos hs];refine⟨hb1.symm,hb1.symm,hb1.symm,(by(repeat' (with_reducible apply And.intro)) <;> first |omega |(simp only[maxLen];omega)),?_⟩;refine A8 ⟨i+1,by omega⟩ (by show l.length-(i+1)<l.length-i;omega) (B0 [] [] ?_);simp only[go_sem,go_sem_proc,he,List.length_append,List.length_singleton];exact⟨(by rw[IntKind.wrap_i64];omega),A1g (7,((wkF w (l.take i)).1.getD (l.getD i 0).toNat dF_).ID) rfl rfl,A2y (wkB ((wkF w (l.take i)).1.getD (l.getD i 0).toNat dF_)) (by omega) rfl rfl⟩
    ·have he:wkF w (l.take (i+1))=wkF w (l.take i):=by
      rw[E9m hlt,B0p,if_neg hs]
     rw[if_neg hs];refine A8 ⟨i+1,by omega⟩ (by show l.length-(i+1)<l.length-i;omega) (B0 [] [] ?_);simp only[go_sem,go_sem_proc,he];exact(by rw[IntKind.wrap_i64];omega)
   ·rename_i hge;obtain rfl:i=l.length:=by omega
    simp only[go_sem,go_sem_proc,List.take_length]at hb1 hb2⊢
    try simp only[go_sem,go_sem_proc,hb1]
    (repeat' (with_reducible apply And.intro)) <;> exact F5u _
theorem E1j(w:Api.World)(x:B3)(hw:Wsm w)(hx:Ism x):cA_ E18 [.agg w.enc, .agg x.enc] [] (.tup [.agg (U8 w (B5k w x).1).enc,A4 5 Api.Event.enc dF_ ((B5k w x).2.map evP)]) []:=by
 have hl:=D8h (w:=w) hx;refine S1 119 [(4,some (some 11)),(5,none)] hm A6 Tryz.func118 rfl (st_ ?_);refine B5 [true,true] [] (B3b w x hw hx) (by simp) (by simp[go_sem]) (by simp[go_sem]) (by simp) (st_ ?_);refine Z2 (A9j w x (A1b w x) hw hx hl (C5b w x)) (B0h w x _) (by simp[go_sem,A1b]) (by simp[go_sem,AV.ids]) rfl (st_ ?_);cases haw:A6o w x (A1b w x)with
 |false=>
  refine st_ ?_;have hr:B5k w x=(w.cC,[]):=by unfold B5k;rw[haw];rfl
  rw[hr]
  try simp only[go_sem,go_sem_proc]
  (repeat' (with_reducible apply And.intro)) <;> exact eE_
 |true=>
  refine st_ ?_;have hr:B5k w x=if B0n w x (A1b w x)=true then slF (upF w (A1b w x)) (A1b w x)else(upF w (A1b w x),[]):=by unfold B5k;rw[haw];rfl
  rw[hr];have hin:=C5b w x;generalize hll:A1b w x=l at*;refine B1 hm (ι:= {i:Nat // i<=l.length}) (λi=> [(4, .cA, .ptr 80 0 0 1),(6, .cA, .ptr 6 0 0 1),(26, .cA, .sl 5 0 l.length l.length),(27, .cA,sI l.length),(28, .cA,sI i.1)])
   (λi=>(80, .box World.zero)::E5z w (upF w (l.take i.1)) x l) (λi=>l.length-i.1) ⟨0,by omega⟩ ?_ ?_
  ·refine B0 [] [] ?_;simp only[go_sem,go_sem_proc,G3n]
  ·rintro⟨i,hi⟩;have hb1:=F2q w (l.take i);refine st_ ?_;split
   ·rename_i hlt;have hlt:i<l.length:=by omega
    obtain⟨hi0,hi1⟩:=hin _ (B8 0 hlt);refine⟨(by(repeat' (with_reducible apply And.intro)) <;> omega),(by(repeat' (with_reducible apply And.intro)) <;> omega),hb1.symm,?_⟩;refine A0 (D3f ((upF w (l.take i)).getD (l.getD i 0).toNat dF_)) rfl (st_ ?_);refine⟨⟨hb1.symm,hi0,hi1⟩,hb1.symm,?_⟩;refine A8 ⟨i+1,by omega⟩ (by show l.length-(i+1)<l.length-i;omega) (B0 [] [] ?_);simp only[go_sem,go_sem_proc,F92 hlt];exact⟨(by rw[IntKind.wrap_i64];omega),A2y (B3x ((upF w (l.take i)).getD (l.getD i 0).toNat dF_)) (by omega) rfl rfl⟩
   ·rename_i hge;obtain rfl:i=l.length:=by omega
    simp only[go_sem,go_sem_proc,List.take_length]at hb1⊢;have hob:=B0h (U8 w (upF w l)) x l
    have fin:(B0n w x l=false)-> ∀ {σ:St},True:=λ_ _=>trivial;cases hq:(if w.cM.eD<=0 then true else((l.length:Int)==0))with
    |true=>
     have hst:B0n w x l=false:=by
      unfold B0n;by_cases h1:w.cM.eD<=0
      ·rw[decide_eq_true h1];rfl
      ·rw[if_neg h1,beq_iff_eq]at hq;have:l.length=0:=by omega
       rw[decide_eq_true this];simp
     rw[if_neg (c:=B0n w x l=true) (by rw[hst];simp)];refine B1x (by simp) (sB false) (st_ ?_);refine B1x (by simp) (sB false) (st_ ?_)
     try simp only[go_sem,go_sem_proc,hb1]
     simp only[List.take_length,hb1]
     (repeat' (with_reducible apply And.intro)) <;> exact eE_
    |false=>
     have hst:B0n w x l=(!(l.any λi=>decide ((B4m (U8 w (upF w l)) i).eJ<w.cM.eD))&& !(B6c (U8 w (upF w l)) x)):=by
      unfold B0n;by_cases h1:w.cM.eD<=0
      ·rw[if_pos h1]at hq;cases hq
      ·rw[if_neg h1,beq_eq_false_iff_ne]at hq;have: ¬l.length=0:=by omega
       rw[decide_eq_false this,decide_eq_false h1];rfl
     have hA:=B80 (U8 w (upF w l)) x l B12 (λb=>decide (b.eJ<w.cM.eD)) (C4b (U8 w (upF w l)) x l) hl (by show ∀i∈l,0<=i/\i<((upF w l).length:Int);rw[hb1];exact hin)
     have hD:=B5b (U8 w (upF w l)) x l (G6c hw l) hx;generalize(l.any λi=>decide ((B4m (U8 w (upF w l)) i).eJ<w.cM.eD))=pa at hst hA;generalize B6c (U8 w (upF w l)) x=pd at hst hD;refine Z2 hA hob (by simp[go_sem,hb1]) (by simp[go_sem,AV.ids]) rfl ?_;simp only[go_sem,go_sem_proc,hb1];cases pa with
     |true=>
      rw[if_neg (c:=B0n w x l=true) (by rw[hst];simp)];refine B1x (by simp) (sB false) (st_ ?_)
      try simp only[go_sem,go_sem_proc,hb1]
      (repeat' (with_reducible apply And.intro)) <;> exact eE_
     |false=>
      refine Z2 hD hob (by simp[go_sem,hb1]) (by simp[go_sem,AV.ids]) rfl ?_;simp only[go_sem,go_sem_proc,hb1];cases pd with
      |true=>
       rw[if_neg (c:=B0n w x l=true) (by rw[hst];simp)];refine st_ ?_
       try simp only[go_sem,go_sem_proc,hb1]
       (repeat' (with_reducible apply And.intro)) <;> exact eE_
      |false=>
       rw[if_pos (c:=B0n w x l=true) (by rw[hst];rfl)];refine st_ ?_;refine B1 hm (ι:= {i:Nat // i<=l.length}) (λi=> [(4, .cA, .ptr 80 0 0 1),(6, .cA, .ptr 6 0 0 1),(9,if i.1=0 then .eZ else .cA, .sl 7 0 (slF (upF w l) (l.take i.1)).2.length (slF (upF w l) (l.take i.1)).2.length),(81, .cA, .sl 5 0 l.length l.length),(82, .cA,sI l.length),(83, .cA,sI i.1)])
        (λi=>(80, .box World.zero)::(7, .arr 5 (A9 D32 dF_ (slF (upF w l) (l.take i.1)).2))::E5z w (slF (upF w l) (l.take i.1)).1 x l) (λi=>l.length-i.1) ⟨0,by omega⟩ ?_ ?_
       ·refine B0 [] [7] ?_;simp only[go_sem,go_sem_proc,G3j]
       ·rintro⟨i,hi⟩;obtain⟨hc1,hc2⟩:=F2m (upF w l) (l.take i);simp only[List.length_take]at hc2;refine st_ ?_;split
        ·rename_i hlt;have hlt:i<l.length:=by omega
         obtain⟨hi0,hi1⟩:=hin _ (B8 0 hlt);have hc3:w.cC.length=(slF (upF w l) (l.take i)).1.length:=by rw[hc1,hb1]
         refine⟨(by(repeat' (with_reducible apply And.intro)) <;> omega),(by(repeat' (with_reducible apply And.intro)) <;> omega),hc3,?_⟩;have he:slF (upF w l) (l.take (i+1))=((slF (upF w l) (l.take i)).1.set (l.getD i 0).toNat (F9y ((slF (upF w l) (l.take i)).1.getD (l.getD i 0).toNat dF_)),(slF (upF w l) (l.take i)).2++ [(6,((slF (upF w l) (l.take i)).1.getD (l.getD i 0).toNat dF_).ID)]):=by rw[F9v hlt,B5i]
         refine⟨hc3,hc3,hc3,(by(repeat' (with_reducible apply And.intro)) <;> first |omega |(simp only[maxLen];omega)),?_⟩;refine A8 ⟨i+1,by omega⟩ (by show l.length-(i+1)<l.length-i;omega) (B0 [] [] ?_);simp only[go_sem,go_sem_proc,he,List.length_append,List.length_singleton];exact⟨(by rw[IntKind.wrap_i64];omega),A1g (6,((slF (upF w l) (l.take i)).1.getD (l.getD i 0).toNat dF_).ID) rfl rfl,A2y (F9y ((slF (upF w l) (l.take i)).1.getD (l.getD i 0).toNat dF_)) (by omega) rfl rfl⟩
        ·rename_i hge;obtain rfl:i=l.length:=by omega
         simp only[go_sem,go_sem_proc,List.take_length]at hc1 hc2⊢;rw[hb1]at hc1
         try simp only[go_sem,go_sem_proc,hc1]
         (repeat' (with_reducible apply And.intro)) <;> exact F5u _
def D33(l:List Api.Event):List AV:= [A4 5 Api.Event.enc dF_ l]
attribute [go_sem] D33
theorem D8t(n:Nat)(h0:0<n)(hn:n<=4194304):cA_ B5t [.sc (.slice none 0 0),sI n] [] (.sl 1 0 0 n) [(1, .arr 5 ⟨n,λ_=>Api.Event.zero⟩)]:=by
 have w1:IntKind.i64.wrap (0-0)=0:=rfl
 have w2:IntKind.i64.wrap ((n:Int)-0)=n:=by rw[IntKind.wrap_i64];omega
 refine I7 hm A6 Tryz.func208 rfl rfl (st_ ?_);rw[if_neg (by omega)];simp only[w1,w2];rw[if_pos (by omega)];refine⟨(by(repeat' (with_reducible apply And.intro)) <;> omega),?_⟩;refine⟨by omega,?_⟩;simp only[Int.toNat_natCast];refine B6 [.cA] [(1,368)] [] (st_ ?_);simp
theorem C98(n:Nat)(hn:n<=4194304):cA_ B5t [.sc (.slice none 0 0),sI n] [] (.sl 1 0 0 0) [(1, .arr 5 (A9 Api.Event.enc dF_ []))]:=by
 rcases Nat.eq_zero_or_pos n with rfl |h0
 ·have w1:IntKind.i64.wrap (0-0)=0:=rfl
  refine I7 hm A6 Tryz.func208 rfl rfl (st_ ?_);rw[if_neg (by omega)];simp only[w1];rw[if_neg (by decide)];refine B6 [.eZ] [] [1] ?_;simp only[go_sem,go_sem_proc]
 ·exact(D8t n h0 hn).shrink rfl _
def A7u(L:List (List Api.Event))(k:Nat):Nat:=((L.take k).flatten).length
theorem E1o {L:List (List Api.Event)}{k:Nat}(h:k<L.length):A7u L (k+1)=A7u L k+(L.getD k dF_).length:=by unfold A7u;rw[L5 dF_ h];simp
theorem C8h(L:List (List Api.Event))(k:Nat):A7u L k<=L.flatten.length:=by
 unfold A7u;have:L.flatten=(L.take k).flatten++(L.drop k).flatten:=by rw[<-List.flatten_append,List.take_append_drop]
 rw[this,List.length_append];omega
theorem C5q(L:List (List Api.Event))(hL:L.flatten.length<=4194304)(hl:L.length<=1000):cA_ C4x [A4 1 D33 dF_ L] [] (A4 5 Api.Event.enc dF_ L.flatten) []:=by
 refine en1 hm A6 Tryz.func122 rfl rfl (st_ ?_);refine B1 hm (ι:= {i:Nat // i<=L.length}) (λi=> [(0, .cA,A4 1 D33 dF_ L),(3, .cA,sI (A7u L i.1)),(9, .cA,A4 1 D33 dF_ L),(10, .cA,sI L.length),(11, .cA,sI i.1)])
  (λi=> []) (λi=>L.length-i.1) ⟨0,by omega⟩ ?_ ?_
 ·refine B0 [] [] (st_ ?_);simp[A7u]
 ·rintro⟨i,hi⟩;have hs:=C8h L i;refine st_ ?_;by_cases hlt:(i:Int)<L.length
  ·rw[if_pos hlt];have hlt:i<L.length:=by omega
   have hs2:=C8h L (i+1)
   have he:=E1o hlt;refine⟨(by(repeat' (with_reducible apply And.intro)) <;> omega),?_⟩;have hw:IntKind.i64.wrap ((A7u L i:Int)+((L.getD i dF_).length:Int))=(A7u L (i+1):Int):=by rw[IntKind.wrap_i64,he];omega
   rw[hw,if_neg (by omega)];refine A8 ⟨i+1,by omega⟩ (by show L.length-(i+1)<L.length-i;omega) (B0 [] [] ?_);refine st_ ?_;exact(by rw[IntKind.wrap_i64];omega)
  ·rw[if_neg hlt];obtain rfl:i=L.length:=by omega
   have hfull:A7u L L.length=L.flatten.length:=by unfold A7u;rw[List.take_length]
   refine B5 [true,true] [(1,7)] (C98 (A7u L L.length) (by omega)) (by simp) (by simp) (by simp) (by simp) (st_ ?_);refine B1 hm (ι:= {i:Nat // i<=L.length}) (λi=> [(6, .cA, .sl 7 0 (A7u L i.1) (A7u L i.1)),(25, .cA,A4 1 D33 dF_ L),(26, .cA,sI L.length),(27, .cA,sI i.1)])
    (λi=> [(7, .arr 5 (A9 Api.Event.enc dF_ (L.take i.1).flatten))]) (λi=>L.length-i.1) ⟨0,by omega⟩ ?_ ?_
   ·refine B0 [] [] (st_ ?_);simp[A7u,List.take_zero,go_sem]
   ·rintro⟨i,hi⟩;have hs:=C8h L i;refine st_ ?_;by_cases hlt:(i:Int)<L.length
    ·rw[if_pos hlt];have hlt:i<L.length:=by omega
     have hs2:=C8h L (i+1)
     have he:=E1o hlt
     have hm0:(L.take i).flatten.length=A7u L i:=rfl;refine⟨(by(repeat' (with_reducible apply And.intro)) <;> omega),?_⟩;refine⟨⟨by omega,by omega,by omega,by simp only[maxLen];omega⟩,?_⟩;refine A8 ⟨i+1,by omega⟩ (by show L.length-(i+1)<L.length-i;omega) (B0 [] [] ?_);simp only[go_sem,go_sem_proc]
     all_goals((repeat' (with_reducible apply And.intro)) <;> first |(rw[IntKind.wrap_i64];omega) |exact he.symm |exact A32 (by rw[L5 dF_ hlt];simp))
    ·rw[if_neg hlt];obtain rfl:i=L.length:=by omega
     simp only[go_sem,go_sem_proc,List.take_length];exact⟨hfull,by rw[hfull];exact D0 _⟩
end Go.Abs
end
