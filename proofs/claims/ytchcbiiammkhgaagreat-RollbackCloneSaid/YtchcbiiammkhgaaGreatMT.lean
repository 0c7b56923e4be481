/- A part of the proof: contracts of functions that the statement reaches. -/
import Derived.Test.YtchcbiiammkhgaaGreatMS
import Derived.Laws.Bits64
set_option linter.unusedSimpArgs false
set_option linter.unusedVariables false
set_option linter.unnecessarySimpa false
set_option maxRecDepth 100000
set_option maxHeartbeats 2000000
noncomputable section
namespace Go.Abs
open Go.Proofs
open Api
theorem E4m(w:Api.World)(x:B3):(wkR w x).2.length<=x.cC.length:=by
 have h:=C3m x.cC w.cC.length;unfold wkR;split
 ·have:=(E4l w (A1l w x)).2
  unfold A1l at this⊢;omega
 ·exact zm _
theorem F6e {P:Program}{L:List (Nat×List Bool)}{f:FuncId}{fn:Func}{ac:ACode}{args rs:List AV}{O O':List (Nat×A7)}(N:Nat)(rvs:List (Nat×Option (Option Nat)))(hm:P.follows .mixedOrders=true)(hL:okE P L=true)(hf:P.funcs[f]? =some fn)(hc:N8 P L fn.ntmps (fn.body.getD .skip)=some ac)
  (h: @Wpi P N (O.map (·.1)) ac (B33 N (O.map (·.1)) rvs rs O') (A02 args O))(hp:A5x rs= .tup rs:=by rfl)(hN:fn.ntmps=N:=by kernel_rfl)(hts:A6e P fn.results.toList=some rvs:=by kernel_rfl)(hb:fn.body=some (fn.body.getD .skip):=by kernel_rfl)(hname:(fn.name != "runtime.NumGoroutine")=true:=by kernel_rfl)(hlt:(rvs.all λp=>p.1.blt N)=true:=by decide)(hl:(args.length.ble N)=true:=by kernel_rfl):
  D5 P f args O (.tup rs) O':=hp▸B8i (ac:= .mark ac) hm hf hb hname (have e:F2 P fn.ntmps (fn.body.getD .skip)=some ac.strip:=cs2 hL hc;e) hN hts hlt hl h
def bg0(w:Api.World):Api.World:= {w with cB:=B4r w}
def bW1(x:B3)(s:Api.World×List Api.Event):Api.World×List Api.Event:=(V6 s.1 (wkR s.1 x).1,s.2++(wkR s.1 x).2.map evP)
def bWn(w:Api.World)(n:Nat):Api.World×List Api.Event:=itr (λk s=>bW1 ((D7 (bg0 w)).getD k dF_) s) n (bg0 w,B7s w.cB (B4r w))
def D4v(w:Api.World):Api.World:=(bWn w (D7 (bg0 w)).length).1
def D0w(w:Api.World):List Api.Event:=(bWn w (D7 (bg0 w)).length).2
theorem D0v(w:Api.World)(n:Nat):bWn w (n+1)=bW1 ((D7 (bg0 w)).getD n dF_) (bWn w n):=H7 ..
theorem D4t(w:Api.World): ∀n,A2o (bWn w n).1.cC w.cC/\(bWn w n).1=V6 (bg0 w) (bWn w n).1.cC
 |0=>⟨A2o.refl _,rfl⟩
 |n+1=>by
  obtain⟨h1,h2⟩:=D4t w n;rw[D0v];generalize bWn w n=s at h1 h2⊢;refine⟨(F1m _ _).trans h1,?_⟩;have key: ∀B,V6 s.1 B=V6 (bg0 w) B:=λB=>by rw[h2];rfl
  exact key _
theorem C79 {w:Api.World}(hw:Wsm w)(hf:Wfw w):Wsm (bg0 w):=by obtain⟨h1,h2,h3,h4,h5,h6⟩:=hw;obtain⟨g1,g2⟩:=C87 w hf;exact⟨h1,h2,qd g1 (by decide),h4,h5,λc hc=>qd (g2 c hc) (by decide)⟩
theorem D4u {w:Api.World}(hw:Wsm w)(hf:Wfw w): ∀n,n<=(D7 (bg0 w)).length->(bWn w n).2.length<=2000000+60*n
 |0,_=>by
  have h1:=B23 (B4r w) w.cB 1
  have h2:=B23 w.cB (B4r w) 2
  have h3:=(C87 w hf).1
  have h4:=hw.2.2.1
  have h1':=B23 w.cB (B4r w) 1
  have h2':=B23 (B4r w) w.cB 2;show(B7s _ _).length<=_;unfold B7s;rw[zd];omega
 |n+1,hn=>by
  have ih:=D4u hw hf n o_;rw[D0v];have hx:=B58 (C79 hw hf) _ (B6 (l:=D7 (bg0 w)) (i:=n) dF_ o_)
  have h3:(bg0 w).cC.length<=60:=hf.1
  have h4:=E4m (bWn w n).1 ((D7 (bg0 w)).getD n dF_);show((bWn w n).2++List.map evP _).length<=_;rw[zd,z7];omega
def B3g:Slots:= [(1, .cA, .ptr 32 0 0 1),(2, .cA, .ptr 48 0 0 1)]
attribute [go_sem] B3g
theorem D70(w:Api.World)(hw:Wsm w)(hf:Wfw w)(hv:B7 w=0):cA_ 50 [.agg w.enc] [] (.tup [.agg (D4v w).enc,A4 3 B3.enc dF_ (D7 (bg0 w)), .sl 1 0 (D0w w).length (D0w w).length]) [(1, .arr 5 (B0 Api.Event.enc dF_ (D0w w)))]:=by
 have hV:=H8 w hw;rw[hv]at hV;have hg:=C79 hw hf
 have hbl:=B3k (bg0 w)
 have hbs:= @B58 (bg0 w) hg
 have hf1:(bg0 w).cC.length<=60:=hf.1
 have hU:=D12 w hw hf
 have hul:=(C87 w hf).1
 have hE:=D11 w.cB (B4r w) hw.2.2.1 o_;refine F6e 49 [(2,some (some 11)),(3,none),(4,none)] hm A6 Tryz.func50 rfl ?_;refine B2 B3g [(48, .box World.zero),(32, .box w.enc)] (B9 hm ?_) ?_
 ·refine st_ ?_;refine A9 [] [] ?_;simp only[go_sem,go_sem_proc]
 refine B2 B3g [(48, .box World.zero),(32, .box w.enc)] (B9 hm ?_) ?_
 ·refine st_ ?_;refine A0 hV rfl (st_ ?_);refine A9 [] [] ?_;simp only[go_sem,go_sem_proc]
 refine B2 (B3g++ [(5, .cA,A4 7 cX.enc dF_ w.cB)]) [(48, .box World.zero),(32, .box w.enc)] (B9 hm ?_) ?_
 ·refine st_ ?_;refine A9 [] [] ?_;simp only[go_sem,go_sem_proc]
 refine B2 (B3g++ [(5, .cA,A4 7 cX.enc dF_ w.cB)]) [(48, .box World.zero),(32, .box w.enc)] (B9 hm ?_) ?_
 ·refine st_ ?_;refine A0 (B04 w hw) rfl (st_ ?_);refine A9 [] [] ?_;simp only[go_sem,go_sem_proc]
 refine B2 (B3g++ [(5, .cA,A4 7 cX.enc dF_ w.cB)]) [(48, .box World.zero),(32, .box (bg0 w).enc)] (B9 hm ?_) ?_
 ·refine st_ ?_;refine A0 hU rfl ?_;simp only[go_sem,go_sem_proc,bg0];refine A9 [] [] ?_;simp only[go_sem,go_sem_proc]
 refine B2 (B3g++ [(6, .cA, .sl 6 0 (bWn w 0).2.length (bWn w 0).2.length)]) [(48, .box World.zero),(32, .box (bWn w 0).1.enc),(6, .arr 5 (B0 Api.Event.enc dF_ (bWn w 0).2))] (B9 hm ?_) ?_
 ·rw[show bWn w 0=(bg0 w,B7s w.cB (B4r w))from rfl];simp only[go_sem,go_sem_proc,bg0];refine J5 ev_ K1 hE (st_ ?_);refine A9 [(6,432)] [] (st_ ?_);exact eE_
 refine B2 (B3g++ [(6, .cA, .sl 6 0 (bWn w 0).2.length (bWn w 0).2.length),(7, .cA,A4 3 B3.enc dF_ (D7 (bg0 w)))]) [(48, .box World.zero),(32, .box (bWn w 0).1.enc),(6, .arr 5 (B0 Api.Event.enc dF_ (bWn w 0).2))] (B9 hm ?_) ?_
 ·rw[show bWn w 0=(bg0 w,B7s w.cB (B4r w))from rfl];refine st_ ?_;refine A0 (E4b (bg0 w) hg) rfl (st_ ?_);refine A9 [] [] ?_;simp only[go_sem,go_sem_proc]
 refine B2 (B3g++ [(6, .cA, .sl 6 0 (bWn w (D7 (bg0 w)).length).2.length (bWn w (D7 (bg0 w)).length).2.length),(7, .cA,A4 3 B3.enc dF_ (D7 (bg0 w)))]) [(48, .box World.zero),(32, .box (bWn w (D7 (bg0 w)).length).1.enc),(6, .arr 5 (B0 Api.Event.enc dF_ (bWn w (D7 (bg0 w)).length).2))] (B2 (B3g++ [(6, .cA, .sl 6 0 (bWn w 0).2.length (bWn w 0).2.length),(7, .cA,A4 3 B3.enc dF_ (D7 (bg0 w))),(29, .cA,A4 3 B3.enc dF_ (D7 (bg0 w))),(30, .cA,sI ((D7 (bg0 w)).length)),(31, .cA,sI (0:Nat))]) [(48, .box World.zero),(32, .box (bWn w 0).1.enc),(6, .arr 5 (B0 Api.Event.enc dF_ (bWn w 0).2))] (B9 hm ?_) (V0 ?_)) ?_
 ·generalize bWn w 0=s;refine st_ ?_;refine A9 [] [] ?_;simp only[go_sem,go_sem_proc]
 ·refine B1 hm (ι:= {k:Nat // k<=(D7 (bg0 w)).length}) (λk=>(B3g++ [(6, .cA, .sl 6 0 (bWn w k.1).2.length (bWn w k.1).2.length),(7, .cA,A4 3 B3.enc dF_ (D7 (bg0 w))),(29, .cA,A4 3 B3.enc dF_ (D7 (bg0 w))),(30, .cA,sI ((D7 (bg0 w)).length)),(31, .cA,sI (k.1:Nat))])) (λk=> [(48, .box World.zero),(32, .box (bWn w k.1).1.enc),(6, .arr 5 (B0 Api.Event.enc dF_ (bWn w k.1).2))]) (λk=>(D7 (bg0 w)).length-k.1) ⟨0,zm _⟩ ?_ ?_
  ·refine A9 [] [] ?_;simp only[go_sem,go_sem_proc]
  ·rintro⟨k,hk⟩;dsimp only;have hn:=D0v w k
   have hl:=D4u hw hf k hk;obtain⟨hi1,hi2⟩:=D4t w k;have hfin:(D7 (bg0 w)).length<=k->bWn w k=bWn w (D7 (bg0 w)).length:=λh=>by rw[show k=(D7 (bg0 w)).length by omega]
   generalize bWn w k=s at hn hl hi1 hi2 hfin⊢;by_cases hlt:k<(D7 (bg0 w)).length;rotate_left
   ·refine st_ ?_;rw[zb o_,<-hfin o_];refine A9 [] [] ?_;simp only[go_sem,go_sem_proc]
   have hx:=hbs _ (B6 (l:=D7 (bg0 w)) (i:=k) dF_ hlt)
   have hsw:Wsm s.1:=by rw[hi2];exact B7o hg hi1
   have hux:=E4m s.1 ((D7 (bg0 w)).getD k dF_);refine st_ ?_;rw[zc o_];generalize(D7 (bg0 w)).getD k dF_=x at hn hx hux⊢;refine⟨bE_,?_⟩;refine A0 (D7z s.1 x hsw hx.1) rfl ?_;simp only[go_sem,go_sem_proc,bW1]at hn⊢;have he:(List.map evP (wkR s.1 x).2).length<=60:=by rw[z7];omega
   generalize List.map evP (wkR s.1 x).2=E at hn he⊢;refine⟨bE_,?_⟩;refine A8 ⟨k+1,o_⟩ (by show(D7 (bg0 w)).length-(k+1)<(D7 (bg0 w)).length-k;omega) ?_;simp only[hn];refine A9 [] [] (st_ ?_);exact eE_
 rw[show D4v w=(bWn w (D7 (bg0 w)).length).1 from rfl,show D0w w=(bWn w (D7 (bg0 w)).length).2 from rfl];generalize bWn w (D7 (bg0 w)).length=s;refine B9 hm (st_ ?_);refine B8 [.cA, .cA, .cA] [(1,6)] [] ?_;simp only[go_sem,go_sem_proc]
def F2a(r:B0m):List AV:= [.fn (.func 53) [] [.dE r.enc]]
attribute [go_sem] F2a
def sqC(w g:Api.World)(I:List B3)(e q:Nat):List AV:= [sB true,sI w.cM.dZ,sI w.cM.eD.X,sI w.cM.eD.Y,sI w.cM.eG,sI w.cM.eA,A4 20 cE.enc dF_ w.cC,A4 24 cF.enc dF_ w.cD,A4 7 cX.enc dF_ w.cB,A4 4 cR.enc dF_ w.cT,sI w.dK,sI w.eJ,sB true,sI g.cM.dZ,sI g.cM.eD.X,sI g.cM.eD.Y,sI g.cM.eG,sI g.cM.eA,A4 20 cE.enc dF_ g.cC,A4 24 cF.enc dF_ g.cD,A4 7 cX.enc dF_ g.cB,A4 4 cR.enc dF_ g.cT,sI g.dK,sI g.eJ,A4 3 B3.enc dF_ I, .sl 2 0 I.length I.length, .sl 3 0 e e, .sl 4 0 q q]
def sqO(w g:Api.World)(I:List B3)(E:List Api.Event)(q:List B0m):List (Nat×A7):= [(1, .box (sqC w g I E.length q.length)),(2, .arr 1 ⟨I.length,λ_=> [sB false]⟩),(3, .arr 5 (B0 Api.Event.enc dF_ E)),(4, .arr 1 (B0 F2a dF_ q))]
attribute [go_sem] sqC sqO
theorem B69(x:Api.Input)(h:cE.sm x.cE):cA_ 52 [.agg x.enc] [] (.agg x.enc) []:=by refine M3 8 [(2,some (some 49))] hm A6 Tryz.func52 rfl (st_ ?_);refine A0 (A40 x.cE h) rfl ?_;simp only[go_sem,go_sem_proc]
def PW(w:Api.World):Prop:=Wsm w/\Wfw w/\w.cD.length<=20000/\w.cB.length<=230400/\ ∀c∈w.cB,c.cL.cQ.length<=2
theorem D60(w:Api.World)(x:B3): ∀n,A2o (A7m w x n) w.cC
 |0=>A2o.refl _
 |n+1=>by
  have ih:=D60 w x n
  have hn:A7m w x (n+1)=_:=H7 ..;rw[show itr _ n w.cC=A7m w x n from rfl]at hn;rw[hn];split
  ·refine(C4n ?_).trans ih;rw[ih.2];have h:=(E1j w x x.cC.length ((J7 w x).getD n 0).toNat).1;rw[<-h];rfl
  ·exact ih
theorem F3h(c:cX)(rs:List Row)(base:Int):(cst c rs base).cL.cQ.length=c.cL.cQ.length:=D9g ..
theorem E1a(w:Api.World)(x:B3)(hw: ∀c∈w.cB,c.cL.cQ.length<=2): ∀n,∀c∈B0d w x n,c.cL.cQ.length<=2
 |0=>hw
 |n+1=>by
  have ih:=E1a w x hw n
  have hn:B0d w x (n+1)=_:=H7 ..;rw[show itr _ n w.cB=B0d w x n from rfl]at hn;rw[hn];intro c hc;rcases yz hc with hc |rfl
  ·exact ih c hc
  ·rw[F3h];by_cases h:(x.cB.getD n 0).toNat<w.cB.length
   ·exact hw _ (B6 dF_ h)
   ·have e:w.cB.getD (x.cB.getD n 0).toNat dF_=default:=by
     generalize(x.cB.getD n 0).toNat=k at h⊢;simp only[List.getD];rw[qi o_];rfl
    rw[e];exact zm _
theorem F5r {w:Api.World}(h:PW w)(x:B3):PW (D2c w x):=by
 unfold D2c;split
 ·exact h
 split
 ·exact h
 obtain⟨h1,h2,h3,h4,h5⟩:=h;have hB:=D60 w x (J7 w x).length;obtain⟨g1,g2,g3,g4,g5,g6⟩:=B7o h1 hB;have hf:=B91 h2 hB
 have hc:=E1a w x h5 x.cB.length;exact⟨⟨g1,by show(B0e _ _ _).length<=_;rw[C4r];exact g2,by show(B0d _ _ _).length<=_;rw[C4q];exact g3,g4,g5,λc hcc=>qd (hc c hcc) (by decide)⟩,hf,by show(B0e _ _ _).length<=_;rw[C4r];exact h3,by show(B0d _ _ _).length<=_;rw[C4q];exact h4,hc⟩
def gN(g:Api.World)(I:List B3)(n:Nat):Api.World:=itr (λk s=>D2c s (I.getD k dF_)) n g
theorem E3p(g:Api.World)(I:List B3)(n:Nat):gN g I (n+1)=D2c (gN g I n) (I.getD n dF_):=H7 ..
theorem E4p {g:Api.World}(h:PW g)(I:List B3): ∀n,PW (gN g I n)
 |0=>h
 |n+1=>by rw[E3p];exact F5r (E4p h I n) _
def B8t(w:Api.World):Api.World×List Api.Event:=if B7 w=0 then(E5k w,D9r w)else(zW,[])
theorem E6k(w:Api.World)(hw:Wsm w)(hf:Wfw w):cA_ 58 [.agg w.enc] [] (.tup [.agg (B8t w).1.enc,A4 5 Api.Event.enc dF_ (B8t w).2]) []:=by
 unfold B8t;by_cases hv:B7 w=0
 ·rw[zc hv];exact E2s w hw hf hv
 ·rw[zb hv];refine S3 78 [(2,some (some 11)),(3,none)] hm A6 Tryz.func58 rfl (st_ ?_);refine A0 (H8 w hw) rfl (st_ ?_);rw[zc (by simpa using hv)];simp only[go_sem,go_sem_proc,zW];exact eE_
theorem F50 {w:Api.World}(hw:Wsm w)(hf:Wfw w):Wsm (B8t w).1/\Wfw (B8t w).1:=by
 unfold B8t;split
 ·obtain⟨hi1,hi2⟩:=B76 w (D7 w).length;have hW:=E5k.eq_1 w;unfold eW2 at hW;generalize eWn w (D7 w).length=s at hW hi1 hi2;have hsw:Wsm s.1:=by rw[hi2];exact B7o hw hi1
  have hsf:Wfw s.1:=by rw[hi2];exact B91 hf hi1
  have hbk:Wsm (bkW s.1)/\Wfw (bkW s.1):=by obtain⟨g1,g2,g3,g4,g5,g6⟩:=hsw;exact⟨⟨g1,qd (qM ..) g2,g3,g4,g5,g6⟩,hsf⟩
  generalize bkW s.1=V at hW hbk;dsimp only at hW;have hcf:A2o (V.cC.map J3) V.cC:=C4m (g:=J3) (λ_=>rfl) _
  have hU:Wsm (V6 V (V.cC.map J3)):=B7o hbk.1 hcf
  have hUf:Wfw (V6 V (V.cC.map J3)):=B91 hbk.2 hcf;generalize V6 V (V.cC.map J3)=U at hW hU hUf;dsimp only;rw[hW];obtain⟨g1,g2,g3,g4,g5,g6⟩:=hU;exact⟨⟨g1,g2,g3,qd (D5l U hUf) (by decide),g5,g6⟩,hUf⟩
 ·exact⟨A3k,by exact⟨zm _,λb hb=>by cases hb⟩⟩
theorem E6t {w:Api.World}(hw:Wsm w)(hf:Wfw w)(hj:w.cD.length<=20000):PW (D4v w):=by obtain⟨h1,h2⟩:=D4t w (D7 (bg0 w)).length;have hu:=C87 w hf;show PW (bWn w _).1;generalize bWn w (D7 (bg0 w)).length=s at h1 h2⊢;rw[h2];exact⟨B7o (C79 hw hf) h1,B91 (w:=bg0 w) hf h1,hj,hu.1,hu.2⟩
def A0i(w:Api.World):Api.World×List Api.Event×Int:=
 if B7 w≠0 then(zW,[],18)else if w.eJ=1099511627776 then(zW,[],21)else
 ((B8t (gN (D4v w) (D7 (bg0 w)) (D7 (bg0 w)).length)).1,D0w w++(B8t (gN (D4v w) (D7 (bg0 w)) (D7 (bg0 w)).length)).2,0)
theorem E9s {w:Api.World}(hw:Wsm w)(hf:Wfw w):(D0w w).length<=2100000:=by
 have h:=D4u hw hf (D7 (bg0 w)).length (ze _)
 have h2:=B3k (bg0 w)
 have h3:(bg0 w).cC.length<=60:=hf.1;show(bWn w _).2.length<=_;omega
theorem F0c {w:Api.World}(hw:Wsm w)(hf:Wfw w):(B8t w).2.length<=4000000:=by
 unfold B8t;split
 ·have h1:=C8i hw hf (D7 w).length (ze _)
  have h2:=B3k w
  have h3:=hf.1
  have h4:=D4w (w:=(eWn w (D7 w).length).1) (l:=(eWn w (D7 w).length).1.cD)
  have h5:(eWn w (D7 w).length).1.cD=w.cD:=by rw[(B76 w _).2];rfl
  have h6:=hw.2.1
  have l1:=B75 (ovL (eW2 w)) (λk=>w.cT.contains k) 3
  have l2:=B75 w.cT (λk=>(ovL (eW2 w)).contains k) 4
  have l3:(ovL (eW2 w)).length<=230400:=D5l _ (by
   obtain⟨hi1,hi2⟩:=B76 w (D7 w).length;have hsf:Wfw (eWn w (D7 w).length).1:=by rw[hi2];exact B91 hf hi1
   exact B91 (w:=bkW (eWn w (D7 w).length).1) hsf (C4m (g:=J3) (λ_=>rfl) _))
  have h7:=hw.2.2.2.1;show(D9r w).length<=_;unfold D9r C4o;simp only[List.flatten_cons,List.flatten_nil,qF,zd];rw[h5]at h4⊢;omega
 ·exact zm _
theorem D2e {P:Program}{d:Nat}{m:Nat->Option A7}{f:FuncId}{avs:List AV}{Q:ContR}(v:AV)(hK: @Ri Q false ⟨some v,[]⟩): @B55 P d m f avs false Q:=⟨⟨some v,[]⟩,(λh=>by cases h),(λh=>absurd rfl h),hK⟩
def B7l:Slots:= [(1, .cA, .sc (.slice none 0 0)),(2, .cA, .ptr 48 0 0 1),(4, .cA, .ptr 80 0 0 1)]
attribute [go_sem] B7l
theorem E2t(w:Api.World)(hw:Wsm w)(hf:Wfw w)(hj:w.cD.length<=20000):cA_ 126 [.agg w.enc, .sc (.slice none 0 0)] [] (.tup [.agg (A0i w).1.enc,A4 5 Api.Event.enc dF_ (A0i w).2.1,sI ((A0i w).2.2)]) []:=by
 have hV:=H8 w hw
 have z1:((0:Int) != 0)=false:=rfl
 have z2:decide ((0:Int)<0)=false:=rfl;unfold A0i;by_cases hv:B7 w=0;rotate_left
 ·rw[zc hv];refine S3 71 [(4,some (some 11)),(5,none),(6,none)] hm A6 Tryz.func126 rfl (st_ ?_);refine A0 hV rfl (st_ ?_);rw[zc (by simpa using hv)];simp only[go_sem,go_sem_proc,zW]
  all_goals exact eE_
 rw[hv]at hV;rw[zb (by simpa using hv)];by_cases hF:w.eJ=1099511627776
 ·rw[zc hF];refine S3 71 [(4,some (some 11)),(5,none),(6,none)] hm A6 Tryz.func126 rfl (st_ ?_);refine A0 hV rfl ?_;simp only[go_sem,go_sem_proc,z1];rw[zc (by simpa using hF)];simp only[go_sem,go_sem_proc,zW]
  all_goals exact eE_
 rw[zb hF];have hB:=D70 w hw hf hv
 have hpw:=E6t hw hf hj
 have hI:=λx hx=>(B58 (C79 hw hf) x hx).1
 have hbl:=B3k (bg0 w)
 have hf1:(bg0 w).cC.length<=60:=hf.1
 have hel:=E9s hw hf
 have hgn:=E4p hpw (D7 (bg0 w));generalize D4v w=g at hB hgn⊢;generalize D0w w=E at hB hel⊢;generalize D7 (bg0 w)=I at hB hgn hI hbl⊢;refine D2z 71 [(4,some (some 11)),(5,none),(6,none)] hm A6 Tryz.func126 rfl ?_;refine B2 B7l [(80, .box World.zero),(48, .box w.enc)] (B9 hm ?_) ?_
 ·refine st_ ?_;exact A9 [] [] se_
 refine B2 B7l [(80, .box World.zero),(48, .box w.enc)] (B9 hm ?_) ?_
 ·refine st_ ?_;refine A0 hV rfl ?_;simp only[go_sem,go_sem_proc,z1];rw[zb (by simpa using hF)];exact A9 [] [] se_
 refine B2 (B7l++ [(7, .cA,A4 3 B3.enc dF_ I),(8, .cA, .sl 3 0 E.length E.length)]) [(80, .box World.zero),(48, .box g.enc),(3, .arr 5 (B0 Api.Event.enc dF_ E))] (B9 hm ?_) ?_
 ·refine st_ ?_;refine J5 ev_ K1 hB (st_ ?_);exact A9 [(3,384)] [] se_
 refine B2 (B7l++ [(7, .cA,A4 3 B3.enc dF_ I),(8, .cA, .sl 3 0 E.length E.length)]) [(80, .box World.zero),(48, .box g.enc),(3, .arr 5 (B0 Api.Event.enc dF_ E))] (B9 hm ?_) ?_
 ·refine st_ ?_;simp only[z2,zI];refine D2e (sB true) (st_ ?_);refine⟨p_,p_,?_⟩;rw[zb p_];exact A9 [] [] se_
 refine B2 (B7l++ [(7, .cA,A4 3 B3.enc dF_ I),(8, .cA, .sl 3 0 E.length E.length)]) [(80, .box World.zero),(48, .box (gN g I I.length).enc),(3, .arr 5 (B0 Api.Event.enc dF_ E))] (B2 (B7l++ [(7, .cA,A4 3 B3.enc dF_ I),(8, .cA, .sl 3 0 E.length E.length),(44, .cA,sI I.length),(45, .cA,sI (0:Nat))]) [(80, .box World.zero),(48, .box (gN g I 0).enc),(3, .arr 5 (B0 Api.Event.enc dF_ E))] (B9 hm ?_) (V0 ?_)) ?_
 ·rw[show gN g I 0=g from rfl];refine st_ ?_;exact A9 [] [] se_
 ·refine B1 hm (ι:= {k:Nat // k<=I.length}) (λk=>(B7l++ [(7, .cA,A4 3 B3.enc dF_ I),(8, .cA, .sl 3 0 E.length E.length),(44, .cA,sI I.length),(45, .cA,sI (k.1:Nat))])) (λk=> [(80, .box World.zero),(48, .box (gN g I k.1).enc),(3, .arr 5 (B0 Api.Event.enc dF_ E))]) (λk=>I.length-k.1) ⟨0,zm _⟩ ?_ ?_
  ·exact A9 [] [] se_
  ·rintro⟨k,hk⟩;dsimp only;have hn:=E3p g I k
   have hp:=hgn k
   have hfin:I.length<=k->gN g I k=gN g I I.length:=λh=>by rw[show k=I.length by omega]
   generalize gN g I k=a at hn hp hfin⊢;by_cases hlt:k<I.length;rotate_left
   ·refine st_ ?_;rw[zb o_,<-hfin o_];exact A9 [] [] se_
   have hx:=hI _ (B6 (l:=I) (i:=k) dF_ hlt);refine st_ ?_;rw[zc o_];generalize I.getD k dF_=x at hn hx⊢;refine⟨bE_,?_⟩;refine A0 (C71 a x hp.1 hx (λ_=>hp.2.2.2.2) hp.2.2.1 hp.2.2.2.1) rfl ?_;generalize D2c a x=b at hn;refine st_ ?_;refine A8 ⟨k+1,o_⟩ (by show I.length-(k+1)<I.length-k;omega) ?_;simp only[hn];exact A9 [] [] se_
 have hp:=hgn I.length;generalize gN g I I.length=a at hp⊢;have hEn:=E6k a hp.1 hp.2.1
 have hev:=F0c hp.1 hp.2.1;generalize B8t a=v at hEn hev⊢;refine B2 (B7l++ [(7, .cA,A4 3 B3.enc dF_ I),(8, .cA, .sl 3 0 E.length E.length),(10, .cA,A4 5 Api.Event.enc dF_ v.2)]) [(80, .box World.zero),(48, .box v.1.enc),(3, .arr 5 (B0 Api.Event.enc dF_ E))] (B9 hm ?_) ?_
 ·refine st_ ?_;refine A0 hEn rfl (st_ ?_);exact A9 [] [] se_
 refine B9 hm (st_ ?_);refine⟨bE_,?_⟩;exact⟨(zd ..).symm,by rw[zd];exact D0 _⟩
theorem C16 {S R:Type}{f:Nat->S->S ⊕ R}: ∀ {n:Nat} {s s':S},I8 f n s= .inl s'-> ∀i,i<n-> ∃a b,f i a= .inl b
 |0,_,_,_,i,hi=>absurd hi (Nat.not_lt_zero i)
 |n+1,s,s',h,i,hi=>by
  simp only[I8]at h;cases hk:I8 f n s with
  |inr r=>rw[hk]at h;cases h
  |inl a=>
   rw[hk]at h;rcases zF.1 hi with hl |rfl
   ·exact C16 hk i hl
   ·exact⟨a,s',h⟩
theorem D54 {w:Api.World}(hv:B7 w=0):w.cC.length<=32/\w.cD.length<=32/\w.cB.length<=8192/\w.cT.length<=8192/\Z4 w=true:=by
 unfold B7 at hv;dsimp only at hv;split at hv
 ·cases hv
 split at hv
 ·cases hv
 rename_i h1;split at hv
 ·cases hv
 split at hv
 ·cases hv
 rename_i h2;simp only[zy,zk,qy,Int.not_lt]at h1;refine⟨o_,o_,o_,o_,by simpa using h2⟩
theorem E1k {w:Api.World}(hv:B7 w=0)(b:cE)(hb:b∈w.cC):W9 b=0:=by
 have h:=(D54 hv).2.2.2.2;unfold Z4 at h;obtain⟨i,hi,rfl⟩:=List.mem_iff_getElem.1 hb;have hg:w.cC.getD i dF_=w.cC[i]:=by simp only[List.getD,zg hi,Option.getD_some]
 cases hk:I8 (M6 w) w.cC.length 0 with
 |inr r=>
  exfalso;have key: ∀n,∀r,I8 (M6 w) n 0= .inr r->r=false:=by
   intro n;induction n with
   |zero=>intro r h;cases h
   |succ n ih=>
    intro r h;simp only[I8]at h;cases hq:I8 (M6 w) n 0 with
    |inr q=>rw[hq]at h;cases h;exact ih _ hq
    |inl a=>rw[hq]at h;unfold M6 at h;dsimp only at h;split at h <;> cases h;rfl
  rw[hk]at h;have:=key _ _ hk;subst this;cases h
 |inl s=>
  obtain⟨a,c,h1⟩:=C16 hk i hi;unfold M6 at h1;dsimp only at h1;rw[hg]at h1;split at h1
  ·cases h1
  ·rename_i h2;simp only[zy,qy]at h2;simpa using h2.1.1
theorem E4k {b:cE}(h:W9 b=0):b.cH.length<=4:=by
 unfold W9 at h;split at h
 ·cases h
 dsimp only at h;split at h
 ·cases h
 split at h
 ·cases h
 rename_i h2;omega
theorem D8g {w:Api.World}(hv:B7 w=0):Wfw w/\w.cD.length<=20000:=by have h:=D54 hv;refine⟨⟨o_,λb hb=> ?_⟩,o_⟩;have:=E4k (E1k hv b hb);omega
theorem E03(w:Api.World)(hw:Wsm w):cA_ 126 [.agg w.enc, .sc (.slice none 0 0)] [] (.tup [.agg (A0i w).1.enc,A4 5 Api.Event.enc dF_ (A0i w).2.1,sI ((A0i w).2.2)]) []:=by
 by_cases hv:B7 w=0
 ·exact E2t w hw (D8g hv).1 (D8g hv).2
 ·have hV:=H8 w hw
  unfold A0i;rw[zc hv];refine S3 71 [(4,some (some 11)),(5,none),(6,none)] hm A6 Tryz.func126 rfl (st_ ?_);refine A0 hV rfl (st_ ?_);rw[zc (by simpa using hv)];simp only[go_sem,go_sem_proc,zW]
  all_goals exact eE_
theorem B9j {w:Api.World}(hw:Wsm w):Wsm (A0i w).1:=by
 unfold A0i;split
 ·exact A3k
 split
 ·exact A3k
 rename_i h1 _;have hv:B7 w=0:=by simpa using h1
 have hp:=E4p (E6t hw (D8g hv).1 (D8g hv).2) (D7 (bg0 w)) (D7 (bg0 w)).length;exact(F50 hp.1 hp.2.1).1
open Classical in
def apR(w:Api.World)(x:Api.Input):Api.World×Int×Int:=if h:Wsm w/\cE.sm x.cE then Classical.choose (C47 w x h.1 h.2)else(zW,0,0)
theorem D0p {w:Api.World}{x:Api.Input}(hw:Wsm w)(hx:cE.sm x.cE):Wsm (apR w x).1/\(B7 w=0->A0v x=0->x.cS<7->E4v w x ((apR w x).1,(apR w x).2.2)/\(apR w x).2.1=0)/\cA_ 104 [.agg w.enc, .agg x.enc] [] (.tup [.agg (apR w x).1.enc,sI ((apR w x).2.1),sI ((apR w x).2.2)]) []:=by unfold apR;rw[dif_pos ⟨hw,hx⟩];exact Classical.choose_spec (C47 w x hw hx)
def apS(l:List Api.Input)(k:Nat)(s:Api.World×List Int):Api.World×List Int:=(if(apR s.1 (l.getD k dF_)).2.2=0 then(apR s.1 (l.getD k dF_)).1 else s.1,s.2++ [(apR s.1 (l.getD k dF_)).2.2])
def apN(l:List Api.Input)(w:Api.World)(n:Nat):Api.World×List Int:=itr (apS l) n (w,[])
theorem D0o(l:List Api.Input)(w:Api.World)(n:Nat):apN l w (n+1)=apS l n (apN l w n):=H7 ..
def A1z(l:List Api.Input):Prop:=l.length<=4096/\ ∀x∈l,cE.sm x.cE
theorem D2q {l:List Api.Input}{w:Api.World}(hw:Wsm w)(hl:A1z l): ∀n,n<=l.length->Wsm (apN l w n).1/\(apN l w n).2.length=n
 |0,_=>⟨hw,rfl⟩
 |n+1,h=>by
  obtain⟨h1,h2⟩:=D2q hw hl n o_;have hx:=hl.2 _ (B6 (l:=l) (i:=n) dF_ o_)
  have hr:=(D0p h1 hx).1;rw[D0o];refine⟨?_,?_⟩
  ·show Wsm (if _ then _ else _);split
   ·exact hr
   ·exact h1
  ·show((apN l w n).2++ [_]).length=_;rw[zd,h2];rfl
def B90(l:List Api.Input):Slots:= [(1, .cA,A4 49 Api.Input.enc dF_ l),(4, .cA, .ptr 80 0 0 1)]
attribute [go_sem] B90
theorem D14(w:Api.World)(l:List Api.Input)(hw:Wsm w)(hl:A1z l)(hv:B7 w=0):cA_ 125 [.agg w.enc,A4 49 Api.Input.enc dF_ l] [] (.tup [.agg (apN l w l.length).1.enc,A4 1 C8 0 (apN l w l.length).2]) []:=by
 have hV:=H8 w hw
 have z1:((0:Int) != 0)=false:=rfl;rw[hv]at hV;have hln:=hl.1;refine D2z 54 [(4,some (some 11)),(5,none)] hm A6 Tryz.func125 rfl ?_;refine B2 (B90 l++ [(2, .cA, .ptr 48 0 0 1)]) [(80, .box World.zero),(48, .box w.enc)] (B9 hm ?_) ?_
 ·refine st_ ?_;exact A9 [] [] se_
 refine B2 (B90 l++ [(2, .cA, .ptr 48 0 0 1),(6, .cA, .sl 6 0 0 0)]) [(80, .box World.zero),(48, .box w.enc),(6, .arr 1 (B0 C8 0 ([]:List Int)))] (B9 hm ?_) ?_
 ·refine st_ ?_;refine⟨bE_,?_⟩;exact A9 [(6,256)] [] se_
 refine B2 (B90 l++ [(6, .cA, .sl 6 0 ([]:List Int).length ([]:List Int).length),(2, .cA, .ptr 48 0 0 1)]) [(80, .box World.zero),(48, .box w.enc),(6, .arr 1 (B0 C8 0 ([]:List Int)))] (B9 hm ?_) ?_
 ·refine st_ ?_;refine A0 hV rfl ?_;simp only[go_sem,go_sem_proc,z1];exact A9 [] [] se_
 refine B2 (B90 l++ [(6, .cA, .sl 6 0 ([]:List Int).length ([]:List Int).length),(7, .cA, .ptr 128 0 0 1)]) [(80, .box World.zero),(128, .box w.enc),(6, .arr 1 (B0 C8 0 ([]:List Int)))] (B9 hm ?_) ?_
 ·refine st_ ?_;refine A0 (B04 w hw) rfl (st_ ?_);exact A9 [] [] se_
 refine B2 (B90 l++ [(6, .cA, .sl 6 0 (apN l w l.length).2.length (apN l w l.length).2.length),(7, .cA, .ptr 128 0 0 1)]) [(80, .box World.zero),(128, .box (apN l w l.length).1.enc),(6, .arr 1 (B0 C8 0 (apN l w l.length).2))] (B2 (B90 l++ [(6, .cA, .sl 6 0 (apN l w 0).2.length (apN l w 0).2.length),(7, .cA, .ptr 128 0 0 1),(31, .cA,A4 49 Api.Input.enc dF_ l),(32, .cA,sI l.length),(33, .cA,sI (0:Nat))]) [(80, .box World.zero),(128, .box (apN l w 0).1.enc),(6, .arr 1 (B0 C8 0 (apN l w 0).2))] (B9 hm ?_) (V0 ?_)) ?_
 ·rw[show apN l w 0=(w,[])from rfl];refine st_ ?_;exact A9 [] [] se_
 ·refine B1 hm (ι:= {k:Nat // k<=l.length}) (λk=>(B90 l++ [(6, .cA, .sl 6 0 (apN l w k.1).2.length (apN l w k.1).2.length),(7, .cA, .ptr 128 0 0 1),(31, .cA,A4 49 Api.Input.enc dF_ l),(32, .cA,sI l.length),(33, .cA,sI (k.1:Nat))])) (λk=> [(80, .box World.zero),(128, .box (apN l w k.1).1.enc),(6, .arr 1 (B0 C8 0 (apN l w k.1).2))]) (λk=>l.length-k.1) ⟨0,zm _⟩ ?_ ?_
  ·exact A9 [] [] se_
  ·rintro⟨k,hk⟩;dsimp only;have hn:=D0o l w k
   have hp:=D2q hw hl k hk
   have hfin:l.length<=k->apN l w k=apN l w l.length:=λh=>by rw[show k=l.length by omega]
   generalize apN l w k=a at hn hp hfin⊢;by_cases hlt:k<l.length;rotate_left
   ·refine st_ ?_;rw[zb o_,<-hfin o_];exact A9 [] [] se_
   have hx:=hl.2 _ (B6 (l:=l) (i:=k) dF_ hlt);unfold apS at hn;have hA:=(D0p hp.1 hx).2.2;generalize apR a.1 (l.getD k dF_)=r at hn hA;refine st_ ?_;rw[zc o_];generalize l.getD k dF_=x at hn hx hA⊢;refine⟨bE_,?_⟩;refine A0 hA rfl (st_ ?_);by_cases hc:r.2.2=0
   ·rw[zc hc]at hn;rw[zc (by simpa using hc)];refine⟨bE_,?_⟩;refine A8 ⟨k+1,o_⟩ (by show l.length-(k+1)<l.length-k;omega) ?_;simp only[hn];refine A9 [] [] (st_ ?_)
    (with_reducible and_intros) <;> first |exact A0q r.2.2 rfl rfl |(rw[zd];rfl) |exact eE_
   ·rw[zb hc]at hn;rw[zb (by simpa using hc)];refine⟨bE_,?_⟩;refine A8 ⟨k+1,o_⟩ (by show l.length-(k+1)<l.length-k;omega) ?_;simp only[hn];refine A9 [] [] (st_ ?_)
    (with_reducible and_intros) <;> first |exact A0q r.2.2 rfl rfl |(rw[zd];rfl) |exact eE_
 generalize apN l w l.length=a;exact B9 hm se_
def X9(w:Api.World)(l:List Api.Input):Api.World×List Api.Event×Int:=if B7 w≠0 then(zW,[],18)else A0i (apN l w l.length).1
theorem B77 {w:Api.World}(hw:Wsm w){l:List Api.Input}(hl:A1z l):Wsm (X9 w l).1:=by
 unfold X9;split
 ·exact A3k
 ·exact B9j (D2q hw hl _ (ze _)).1
theorem B03(w:Api.World)(l:List Api.Input)(hw:Wsm w)(hl:A1z l):cA_ 63 [.agg w.enc,A4 49 Api.Input.enc dF_ l, .sc (.slice none 0 0)] [] (.tup [.agg (X9 w l).1.enc,A4 5 Api.Event.enc dF_ (X9 w l).2.1,sI ((X9 w l).2.2)]) []:=by
 have hV:=H8 w hw
 have z1:((0:Int) != 0)=false:=rfl;unfold X9;by_cases hv:B7 w=0;rotate_left
 ·rw[zc hv];refine S3 27 [(6,some (some 11)),(7,none),(8,none)] hm A6 Tryz.func63 rfl (st_ ?_);refine A0 hV rfl (st_ ?_);rw[zc (by simpa using hv)];simp only[go_sem,go_sem_proc,zW]
  all_goals exact eE_
 rw[zb (by simpa using hv)];rw[hv]at hV;have hA:=D14 w l hw hl hv
 have hS:=E03 (apN l w l.length).1 (D2q hw hl _ (ze _)).1;generalize A0i (apN l w l.length).1=r at hS⊢;generalize apN l w l.length=a at hA hS;refine S3 27 [(6,some (some 11)),(7,none),(8,none)] hm A6 Tryz.func63 rfl (st_ ?_);refine A0 hV rfl ?_;simp only[go_sem,go_sem_proc,z1];refine A0 hA rfl (st_ ?_);exact A0 hS rfl se_
def X7(l:List Api.Input):List AV:= [A4 49 Api.Input.enc dF_ l]
def A0h(h:Int):List AV:= [.sc (.int .u64 h)]
attribute [go_sem] X7 A0h
structure Ses where
 ins:List (List Api.Input)
 hs:List Int
 re:Int
 ws:List Api.World
 win:Int
def rsC(s:Ses):List AV:= [.sl 2 0 s.ins.length s.ins.length, .sl 3 0 s.hs.length s.hs.length,sI s.re, .sl 4 0 s.ws.length s.ws.length,sI s.win]
def rsO(s:Ses):List (Nat×A7):= [(1, .box (rsC s)),(2, .arr 1 (B0 X7 dF_ s.ins)),(3, .arr 1 (B0 A0h 0 s.hs)),(4, .arr 11 (B0 World.enc dF_ s.ws))]
attribute [go_sem] rsC rsO
theorem A5o {s:Ses}:okO (rsO s):=by
 refine⟨by simp[rsO],λp hp cs ee j hj=> ?_⟩;simp only[rsO,zo,zr,zU]at hp;rcases hp with rfl |rfl |rfl |rfl
 ·simp only[A7.box.injEq]at ee;subst ee;simp[rsC,F6,AV.ids]at hj;rcases hj with rfl |rfl |rfl <;> rfl
 all_goals cases ee
theorem Y9 {P:Program}{m:Nat->Option A7}{f:FuncId}{avs:List AV}{b:Bool}{Q:ContR}{s s':Ses}{r:AV}(hc:D5 P f avs (rsO s) r (rsO s'))(ha: ∀a∈avs,∀i∈a.ids,(ofL (rsO s) i).isSome)(hK: @Ri Q b ⟨some r,rsO s'⟩)(hm: ∀p∈rsO s,m p.1=some p.2:=by simp[upd,go_sem,go_sem_proc])(hb:b=true:=by rfl): @A25 P m f avs b Q:=K6 hc A5o A5o (by simp[rsO]) hm (by simp[rsO]) ha hb hK
theorem A6n {s:Ses}(o:Nat): ∀a∈ [AV.ptr 1 0 o 1],∀i∈a.ids,(ofL (rsO s) i).isSome:=by intro a ha j hj;simp only[zo,zr,zU]at ha;subst ha;simp[AV.ids]at hj;subst hj;rfl
theorem C8a {s:Ses}(o:Nat)(k:Int): ∀a∈ [AV.ptr 1 0 o 1,sI k],∀i∈a.ids,(ofL (rsO s) i).isSome:=by
 intro a ha j hj;simp only[zo,zr,zU]at ha;rcases ha with rfl |rfl
 ·simp[AV.ids]at hj;subst hj;rfl
 ·simp[AV.ids]at hj
theorem Y1(s:Ses)(hw:s.win≠0):cA_ 60 [.ptr 1 0 0 1] (rsO s) (sB false) (rsO s):=by
 refine I6 hm A6 Tryz.func60 rfl rfl (st_ ?_);refine B8 [.cA] [] [] ?_;simp only[go_sem,go_sem_proc]
 all_goals simp[hw]
theorem Y0(s:Ses):cA_ 61 [.ptr 1 0 0 1] (rsO s) (sI s.ins.length) (rsO s):=by refine I6 hm A6 Tryz.func61 rfl rfl (st_ ?_);exact B8 [.cA] [] [] se_
theorem C0l(s:Ses)(k:Nat)(hk:k<s.ws.length)(hl:s.ws.length<=100000):cA_ 64 [.ptr 1 0 3 1,sI k] (rsO s) (.agg (s.ws.getD (s.ws.length-1-k) dF_).enc) (rsO s):=by refine C29 19 [(4,some (some 11))] hm A6 Tryz.func64 rfl ?_;have e:IntKind.i64.wrap (IntKind.i64.wrap ((s.ws.length:Int)-1)-(k:Int))=((s.ws.length-1-k:Nat):Int):=wo_;simp only[go_sem,go_sem_proc,e];refine⟨bE_,?_⟩;exact B8 [.eP] [] [] se_
theorem D3n(s:Ses)(hw:s.win≠0):cA_ 21 [.ptr 1 0 0 1] (rsO s) (sI s.ins.length) (rsO s):=by refine I6 hm A6 Tryz.func21 rfl rfl (st_ ?_);refine Y9 (Y1 s hw) (A6n 0) (st_ ?_);refine Y9 (Y0 s) (A6n 0) (st_ ?_);exact B8 [.cA] [] [] se_
theorem B86(s:Ses)(hw:s.win≠0):cA_ 30 [.ptr 1 0 0 1] (rsO s) (sI s.re) (rsO s):=by refine I6 hm A6 Tryz.func30 rfl rfl (st_ ?_);refine Y9 (Y1 s hw) (A6n 0) (st_ ?_);exact B8 [.cA] [] [] se_
def B80(s:Ses):Int:=max 0 ((s.ins.length:Int)-s.win)
theorem D3o(s:Ses)(hw:s.win≠0)(hk:0<s.ws.length)(hl:s.ws.length<=100000)(hs:Wsm (s.ws.getD (s.ws.length-1) dF_)):cA_ 23 [.ptr 1 0 0 1] (rsO s) (.agg (s.ws.getD (s.ws.length-1) dF_).enc) (rsO s):=by have hL:=C0l s 0 hk hl;rw[Nat.sub_zero]at hL;generalize s.ws.getD (s.ws.length-1) dF_=x at hL hs⊢;refine C29 11 [(2,some (some 11))] hm A6 Tryz.func23 rfl (st_ ?_);refine Y9 (Y1 s hw) (A6n 0) (st_ ?_);refine Y9 (hL) (C8a 3 0) (st_ ?_);refine A0 (B04 x hs) rfl (st_ ?_);exact B8 [.eP] [] [] se_
theorem B2p(l:List Api.Input)(hl:A1z l):cA_ 66 [A4 49 Api.Input.enc dF_ l] [] (A4 49 Api.Input.enc dF_ l) []:=by
 have hln:=hl.1;refine E5h hm A6 Tryz.func66 rfl rfl ?_;refine B2 [(0, .cA,A4 49 Api.Input.enc dF_ l)] [] (B9 hm ?_) ?_
 ·refine st_ ?_;exact A9 [] [] se_
 refine B2 [(0, .cA,A4 49 Api.Input.enc dF_ l),(3, .fA, .sl 1 0 (l.take (0)).length (l.take (0)).length)] [(1, .arr 49 (B0 Api.Input.enc dF_ (l.take (0))))] (B9 hm ?_) ?_
 ·refine st_ ?_;exact A9 [] [1] se_
 refine B2 [(0, .cA,A4 49 Api.Input.enc dF_ l),(3, .cA, .sl 1 0 (l.take (l.length)).length (l.take (l.length)).length)] [(1, .arr 49 (B0 Api.Input.enc dF_ (l.take (l.length))))] (B2 [(0, .cA,A4 49 Api.Input.enc dF_ l),(3, .cA, .sl 1 0 (l.take (0)).length (l.take (0)).length),(6, .cA,A4 49 Api.Input.enc dF_ l),(7, .cA,sI l.length),(8, .cA,sI (0:Nat))] [(1, .arr 49 (B0 Api.Input.enc dF_ (l.take (0))))] (B9 hm ?_) (V0 ?_)) ?_
 ·refine st_ ?_;exact A9 [] [] se_
 ·refine B1 hm (ι:= {k:Nat // k<=l.length}) (λk=> [(0, .cA,A4 49 Api.Input.enc dF_ l),(3, .cA, .sl 1 0 (l.take (k.1)).length (l.take (k.1)).length),(6, .cA,A4 49 Api.Input.enc dF_ l),(7, .cA,sI l.length),(8, .cA,sI (k.1:Nat))]) (λk=> [(1, .arr 49 (B0 Api.Input.enc dF_ (l.take (k.1))))]) (λk=>l.length-k.1) ⟨0,zm _⟩ ?_ ?_
  ·exact A9 [] [] se_
  ·rintro⟨k,hk⟩;dsimp only;have hln2:(l.take k).length=k:=by rw[zt];omega
   by_cases hlt:k<l.length;rotate_left
   ·obtain rfl:k=l.length:=o_
    refine st_ ?_;rw[zb o_];exact A9 [] [] se_
   have hx:=hl.2 _ (B6 (l:=l) (i:=k) dF_ hlt)
   have hn:l.take (k+1)=l.take k++ [l.getD k dF_]:=K9 dF_ hlt;refine st_ ?_;rw[zc o_];generalize l.getD k dF_=x at hn hx⊢;refine⟨bE_,?_⟩;refine A0 (B69 x hx) rfl (st_ ?_);have hby:(Tryz.prog.types[60]).bytes=384:=by kernel_rfl
   refine⟨⟨by first |omega |(simp only[hby];omega),by simp only[maxLen];omega⟩,?_⟩;refine A8 ⟨k+1,o_⟩ (by show l.length-(k+1)<l.length-k;omega) ?_;simp only[hn];generalize l.take k=m at hln2⊢;refine A9 [] [] (st_ ?_)
   (with_reducible and_intros) <;> first |exact A0q x rfl rfl |(rw[zd];rfl) |exact eE_
 rw[zn];exact B9 hm se_
theorem D1x(l:List Api.Input)(hl:A1z l):cA_ 217 [A4 49 Api.Input.enc dF_ l] [] (A4 49 Api.Input.enc dF_ l) []:=by
 have hln:=hl.1;refine E5h hm A6 Tryz.func217 rfl rfl ?_;refine B2 [(0, .cA,A4 49 Api.Input.enc dF_ l)] [] (B9 hm ?_) ?_
 ·refine st_ ?_;exact A9 [] [] se_
 refine B2 [(0, .cA,A4 49 Api.Input.enc dF_ l),(3, .fA, .sl 1 0 (l.take (0)).length (l.take (0)).length)] [(1, .arr 49 (B0 Api.Input.enc dF_ (l.take (0))))] (B9 hm ?_) ?_
 ·refine st_ ?_;exact A9 [] [1] se_
 refine B2 [(0, .cA,A4 49 Api.Input.enc dF_ l),(3, .cA, .sl 1 0 (l.take (l.length)).length (l.take (l.length)).length)] [(1, .arr 49 (B0 Api.Input.enc dF_ (l.take (l.length))))] (B2 [(0, .cA,A4 49 Api.Input.enc dF_ l),(3, .cA, .sl 1 0 (l.take (0)).length (l.take (0)).length),(6, .cA,A4 49 Api.Input.enc dF_ l),(7, .cA,sI l.length),(8, .cA,sI (0:Nat))] [(1, .arr 49 (B0 Api.Input.enc dF_ (l.take (0))))] (B9 hm ?_) (V0 ?_)) ?_
 ·refine st_ ?_;exact A9 [] [] se_
 ·refine B1 hm (ι:= {k:Nat // k<=l.length}) (λk=> [(0, .cA,A4 49 Api.Input.enc dF_ l),(3, .cA, .sl 1 0 (l.take (k.1)).length (l.take (k.1)).length),(6, .cA,A4 49 Api.Input.enc dF_ l),(7, .cA,sI l.length),(8, .cA,sI (k.1:Nat))]) (λk=> [(1, .arr 49 (B0 Api.Input.enc dF_ (l.take (k.1))))]) (λk=>l.length-k.1) ⟨0,zm _⟩ ?_ ?_
  ·exact A9 [] [] se_
  ·rintro⟨k,hk⟩;dsimp only;have hln2:(l.take k).length=k:=by rw[zt];omega
   by_cases hlt:k<l.length;rotate_left
   ·obtain rfl:k=l.length:=o_
    refine st_ ?_;rw[zb o_];exact A9 [] [] se_
   have hx:=hl.2 _ (B6 (l:=l) (i:=k) dF_ hlt)
   have hn:l.take (k+1)=l.take k++ [l.getD k dF_]:=K9 dF_ hlt;refine st_ ?_;rw[zc o_];generalize l.getD k dF_=x at hn hx⊢;refine⟨bE_,?_⟩;refine A0 (B69 x hx) rfl (st_ ?_);have hby:(Tryz.prog.types[60]).bytes=384:=by kernel_rfl
   refine⟨⟨by first |omega |(simp only[hby];omega),by simp only[maxLen];omega⟩,?_⟩;refine A8 ⟨k+1,o_⟩ (by show l.length-(k+1)<l.length-k;omega) ?_;simp only[hn];generalize l.take k=m at hln2⊢;refine A9 [] [] (st_ ?_)
   (with_reducible and_intros) <;> first |exact A0q x rfl rfl |(rw[zd];rfl) |exact eE_
 rw[zn];exact B9 hm se_
theorem E6a(l:List Api.World)(hl:l.length<=1048576):cA_ 72 [A4 11 World.enc dF_ l] [] (.sl 1 0 l.length l.length) [(1, .arr 11 (B0 World.enc dF_ l))]:=by
 by_cases hn:l= []
 ·subst hn;refine D5.nil_split (g:=I9 World.enc dF_ ([]:List Api.World)) [] [] ?_ (λa c=> ?_)
  ·refine I6 hm A6 Tryz.func72 rfl rfl (st_ ?_);refine B8 [.fA] [] [1] ?_;simp only[go_sem,go_sem_proc]
  ·refine I6 hm A6 Tryz.func72 rfl rfl (st_ ?_);refine⟨by simp[maxLen],?_⟩;refine B8 [.cA] [(1,96)] [] (st_ ?_);exact⟨rfl,rfl,λi hi=>absurd hi p_⟩
 ·have hpos:0<l.length:=qu.2 hn
  refine I6 hm A6 Tryz.func72 rfl rfl (st_ ?_);refine⟨hpos,⟨o_,by simp only[maxLen];omega⟩,?_⟩;refine B8 [.cA] [(1,96)] [] ?_;simp only[go_sem,go_sem_proc]
theorem E59(l:List Int)(hl:l.length<=1048576):cA_ 69 [A4 1 A0h 0 l] [] (.sl 1 0 l.length l.length) [(1, .arr 1 (B0 A0h 0 l))]:=by
 by_cases hn:l= []
 ·subst hn;refine D5.nil_split (g:=I9 A0h 0 ([]:List Int)) [] [] ?_ (λa c=> ?_)
  ·refine I6 hm A6 Tryz.func69 rfl rfl (st_ ?_);refine B8 [.fA] [] [1] ?_;simp only[go_sem,go_sem_proc]
  ·refine I6 hm A6 Tryz.func69 rfl rfl (st_ ?_);refine⟨by simp[maxLen],?_⟩;refine B8 [.cA] [(1,96)] [] (st_ ?_);exact⟨rfl,rfl,λi hi=>absurd hi p_⟩
 ·have hpos:0<l.length:=qu.2 hn
  refine I6 hm A6 Tryz.func69 rfl rfl (st_ ?_);refine⟨hpos,⟨o_,by simp only[maxLen];omega⟩,?_⟩;refine B8 [.cA] [(1,96)] [] ?_;simp only[go_sem,go_sem_proc]
def A1m(l:List Api.Input)(i1:Nat)(s1:Unit):(Unit) ⊕ (Int):=let v1:=(A0v (l.getD i1 dF_));if(v1 != 0)=true then(.inr 20)else(.inl ())
def H2(e:List Api.Input)(l:List Api.Input):Int:=(match I8 (A1m l) l.length ()with | .inr r=>r | .inl s1=>if 32<(IntKind.i64.wrap ((e.length:Int)+(l.length:Int)))then(11)else(0))
theorem A1d(e:List Api.Input)(l:List Api.Input)(he:e.length<=4096)(hl:l.length<=4096)(hl2: ∀i,i<l.length->cE.sm (l.getD i dF_).cE):cA_ 62 [A4 49 Api.Input.enc dF_ e,A4 49 Api.Input.enc dF_ l] [] (sI (H2 e l)) []:=by
 refine en1 hm A6 Tryz.func62 rfl rfl ?_;have:=A00
 have:=H2.eq_1 e l
 have:=λi_ s_=>A1m.eq_1 l i_ s_
 have:=λx_ Q_ σ_=> @lp_ Tryz.prog Tryz.f62.ntmps [] x_ Q_ σ_ hm (IE (A1m l) ()) (λ_=>True) l.length (λi_=> [(0, .cA,A4 49 Api.Input.enc dF_ e),(1, .cA,A4 49 Api.Input.enc dF_ l),(7, .cA,A4 49 Api.Input.enc dF_ l),(8, .cA,sI (l.length:Int)),(9, .cA,sI (i_:Int))]) (λi_=> []) [] rfl (λ_ _=>trivial) g_ g_ g_;exact A85
theorem E6b(s:Ses)(x:Api.World)(cap:Int)(hl:s.ws.length<=1000)(hc:(s.ws.length:Int)+1<=cap):cA_ 59 [.ptr 1 0 3 1, .agg x.enc,sI cap] (rsO s) (.tup []) (rsO {s with ws:=s.ws++ [x]}):=by refine A3a hm A6 Tryz.func59 rfl rfl (st_ ?_);refine⟨bE_,?_⟩;rw[zb o_];exact B8 [] [] [] se_
def C08(s:Ses)(old:List Api.World):List (Nat×A7):= [(1, .box [.sl 2 0 s.ins.length s.ins.length, .sl 3 0 s.hs.length s.hs.length,sI s.re, .sl 5 0 s.ws.length s.ws.length,sI s.win]),(2, .arr 1 (B0 X7 dF_ s.ins)),(3, .arr 1 (B0 A0h 0 s.hs)),(4, .frz 11 (B0 World.enc dF_ old)),(5, .arr 11 (B0 World.enc dF_ s.ws))]
attribute [go_sem] C08
theorem E7g {α:Type}{z:Nat}{enc:α->List AV}{d:α}(l:List α)(k:Nat):A4 z enc d (l.drop k)= .dsl z (l.length-k) (λi=>(B0 enc d l).g (k+i)):=by unfold A4;rw[qn];congr 1;funext i;simp only[I9,B0,List.getD,qU]
theorem E6c(s:Ses)(x:Api.World)(cap:Int)(hl:s.ws.length<=1000)(hc: ¬(s.ws.length:Int)+1<=cap):cA_ 59 [.ptr 1 0 3 1, .agg x.enc,sI cap] (rsO s) (.tup []) (C08 {s with ws:=(s.ws++ [x]).drop 1} (s.ws++ [x])):=by
 have hC:=E6a ((s.ws++ [x]).drop 1) (by rw[qn,zd,List.length_singleton];omega);rw[E7g]at hC;refine F8f hm A6 Tryz.func59 rfl rfl ?_;refine B2 [(0, .cA, .ptr 1 0 3 1),(2, .cA,sI cap),(4, .cA, .ptr 80 0 0 1)] ([(80, .box x.enc)]++rsO s) (B9 hm ?_) ?_
 ·refine st_ ?_;exact A9 [] [] se_
 refine B2 [(0, .cA, .ptr 1 0 3 1),(2, .cA,sI cap),(4, .cA, .ptr 80 0 0 1)] ([(80, .box x.enc)]++rsO {s with ws:=s.ws++ [x]}) (B9 hm ?_) ?_
 ·refine st_ ?_;refine⟨bE_,?_⟩;exact A9 [] [] se_
 refine B2 [(0, .cA, .ptr 1 0 3 1),(2, .cA,sI cap),(4, .cA, .ptr 80 0 0 1),(22, .cA,sB true)] ([(80, .box x.enc)]++rsO {s with ws:=s.ws++ [x]}) (B9 hm ?_) ?_
 ·simp only[go_sem,go_sem_proc,zd,List.length_singleton];refine A9 [] [] ?_;simp only[go_sem,go_sem_proc]
  all_goals first |exact eE_ |(simp;omega)
 refine D2p 4 11 (B0 World.enc dF_ (s.ws++ [x])) (by simp only[go_sem,go_sem_proc]) ?_;refine B9 hm (st_ ?_);rw[show((((s.ws++ [x]).length:Nat):Int)-1).toNat=(s.ws++ [x]).length-1 by omega];refine⟨⟨o_,by rw[zd,List.length_singleton];omega,o_⟩,?_⟩;refine J5 ev_ K1 hC (st_ ?_);exact B8 [] [(5,480)] [] se_
def F91(h n:BitVec 64):BitVec 64:=
 (((h ^^^ n)*11400714819323198485#64 ^^^ ((h ^^^ n)*11400714819323198485#64) >>> 32)*15485907386658061715#64) ^^^
   (((h ^^^ n)*11400714819323198485#64 ^^^ ((h ^^^ n)*11400714819323198485#64) >>> 32)*15485907386658061715#64) >>> 29
def mix(h n:Int):Int:=(F91 (BitVec.ofInt 64 h) (BitVec.ofInt 64 n)).toNat
theorem E90(b:BitVec 64):IntKind.u64.wrap (b.toNat:Int)=b.toNat:=by rw[IntKind.wrap_u64];have:=b.isLt;omega
theorem E9x(b:BitVec 64):BitVec.ofInt 64 (b.toNat:Int)=b:=by apply yM;have:=b.isLt;rw[yu];omega
theorem E61(n:Int):BitVec.ofInt 64 (IntKind.u64.wrap n)=BitVec.ofInt 64 n:=by
 apply yM;rw[IntKind.wrap_u64,yu,yu];show(n%18446744073709551616%18446744073709551616).toNat=(n%18446744073709551616).toNat
 omega
theorem E60(b:BitVec 64)(c:Nat):IntKind.u64.wrap ((b.toNat:Int)*(c:Int))=((b*BitVec.ofNat 64 c).toNat:Int):=by rw[IntKind.wrap_u64,BitVec.toNat_mul,xp];rw[<-Int.natCast_mul,Nat.mul_mod_mod];generalize b.toNat*c=q;show(q:Int)%18446744073709551616=((q%18446744073709551616:Nat):Int);omega
theorem F26(b:BitVec 64):IntKind.u64.wrap ((b.toNat:Int)*11400714819323198485)=((b*11400714819323198485#64).toNat:Int):=E60 b 11400714819323198485
theorem F27(b:BitVec 64):IntKind.u64.wrap ((b.toNat:Int)*15485907386658061715)=((b*15485907386658061715#64).toNat:Int):=E60 b 15485907386658061715
theorem E62(b:BitVec 64)(k:Nat):((b.toNat:Int)).fdiv (2^k)=((b >>> k).toNat:Int):=by
 rw[BitVec.toNat_ushiftRight,Nat.shiftRight_eq_div_pow,qP _ (Int.pow_nonneg o_)]
 norm_cast
theorem E9z(b:BitVec 64):((b.toNat:Int)).fdiv (2^min 32 64)=((b >>> 32).toNat:Int):=E62 b 32
theorem E9y(b:BitVec 64):((b.toNat:Int)).fdiv (2^min 29 64)=((b >>> 29).toNat:Int):=E62 b 29
theorem D10(h n:Int):cA_ 456 [.sc (.int .u64 h),sI n] [] (.sc (.int .u64 (mix h n))) []:=by refine en1 hm A6 Tryz.func456 rfl rfl (sg_ ?_);refine⟨by decide,by decide,?_⟩;simp only[E90,E9x,E61,F26,F27,E9z,E9y];rfl
def A17(x:Int):List AV:= [.sc (.int .u8 x)]
def C59(x:Int):List AV:= [.sc (.int .u64 x)]
attribute [go_sem] A17 C59
def w64(x:Int):Int:=IntKind.i64.wrap x
def C0b(h:Int)(l:List Int):Int:=l.foldl mix h
theorem E5t(h:Int){l:List Int}{i:Nat}(hi:i<l.length):C0b h (l.take (i+1))=mix (C0b h (l.take i)) (l.getD i 0):=by rw[K9 0 hi];simp[C0b]
theorem F5d {n:Nat}(h:n<=1000000000):IntKind.u64.wrap (n:Int)=n:=by rw[IntKind.wrap_u64];omega
theorem C5d(l:List Int)(hl:l.length<=1000000000):cA_ 346 [A4 1 C8 0 l] [] (.sc (.int .u64 (C0b l.length l))) []:=by
 refine en1 hm A6 Tryz.func346 rfl rfl ?_;simp only[F5d hl,go_sem];refine B1 hm (ι:= {i:Nat // i<=l.length}) (λi=> [(3, .cA, .sc (.int .u64 (C0b l.length (l.take i.1)))),(9, .cA,A4 1 C8 0 l),(10, .cA,sI l.length),(11, .cA,sI i.1)])
  (λi=> []) (λi=>l.length-i.1) ⟨0,o_⟩ ?_ ?_
 ·refine D8 [] [] (sg_ ?_);rfl
 ·rintro⟨i,hi⟩;refine sg_ ?_;split
  ·rename_i hlt;have hlt:i<l.length:=o_
   refine⟨ok_,?_⟩;refine A0 (D10 (C0b l.length (l.take i)) (l.getD i 0)) rfl (sg_ ?_);refine A8 ⟨i+1,o_⟩ (by show l.length-(i+1)<l.length-i;omega) (D8 [] [] ?_);simp only[E5t _ hlt,go_sem];exact wo_
  ·rename_i hge;obtain rfl:i=l.length:=o_
   rw[zn]
theorem C5p(l:List Int)(hl:l.length<=1000000000):cA_ 216 [A4 1 A17 0 l] [] (.sc (.int .u64 (C0b l.length (l.map w64)))) []:=by
 refine en1 hm A6 Tryz.func216 rfl rfl (sg_ ?_);refine⟨ok_,?_⟩;refine B1 hm (ι:= {i:Nat // i<=l.length}) (λi=> [(3, .cA, .sl 1 0 i.1 i.1),(9, .cA,A4 1 A17 0 l),(10, .cA,sI l.length),(11, .cA,sI i.1)])
  (λi=> [(1, .arr 1 (B0 C8 0 ((l.take i.1).map w64)))]) (λi=>l.length-i.1) ⟨0,o_⟩ ?_ ?_
 ·refine D8 [(1,144)] [] (sg_ ?_);exact⟨rfl,rfl,λi hi=>absurd hi p_⟩
 ·rintro⟨i,hi⟩;simp only[z7,go_sem];split
  ·rename_i hlt;have hlt:i<l.length:=o_
   refine⟨ok_,ok_,?_⟩;refine A8 ⟨i+1,o_⟩ (by show l.length-(i+1)<l.length-i;omega) (D8 [] [] ?_);simp only[z7,go_sem];exact⟨o_,wo_,A0q (w64 (l.getD i 0)) rfl (D7j 0 w64 hlt)⟩
  ·rename_i hge;obtain rfl:i=l.length:=o_
   refine B5 [false] [] (C5d (l.map w64) (by simpa using hl)) p_ p_ p_ p_ ?_;simp only[zn,z7,go_sem]
def B0c(a b:List Int)(i:Nat):Bool:=decide (i<a.length)&&decide (i<b.length)&&(a.getD i 0==b.getD i 0)
def B6a(a b:List Int):Int:=match(List.range (max a.length b.length)).find? (λi=> !B0c a b i)with
 |some i=>i
 |none=> -1
theorem D9x {a b:List Int}{i:Nat}(hi:i<max a.length b.length)(h: ∀j,j<i->B0c a b j=true)(hn:B0c a b i=false):B6a a b=i:=by
 have:(List.range (max a.length b.length)).find? (λi=> !B0c a b i)=some i:=by rw[yS];exact⟨by simp[hn],by simpa using hi,λj hj=>by simp[h j hj]⟩
 unfold B6a;rw[this]
theorem C13 {a b:List Int}(h: ∀j,j<max a.length b.length->B0c a b j=true):B6a a b= -1:=by
 have:(List.range (max a.length b.length)).find? (λi=> !B0c a b i)=none:=by rw[yn];exact λj hj=>by simp[h j hj]
 unfold B6a;rw[this]
theorem E7l(a b:List Int)(i:Nat)(hg:(if(a.length:Int)<=(i:Int)then true else decide ((b.length:Int)<=(i:Int)))=false):0<=(i:Int)/\(i:Int)<a.length:=by
 by_cases h1:(a.length:Int)<=(i:Int)
 ·rw[zc h1]at hg;cases hg
 ·omega
theorem E7m(a b:List Int)(i:Nat)(hg:(if(a.length:Int)<=(i:Int)then true else decide ((b.length:Int)<=(i:Int)))=false):0<=(i:Int)/\(i:Int)<b.length:=by
 by_cases h1:(a.length:Int)<=(i:Int)
 ·rw[zc h1]at hg;cases hg
 ·rw[zb h1]at hg;have:=of_decide_eq_false hg;omega
theorem F3n(a b:List Int)(i:Nat):((if(a.length:Int)<=(i:Int)then true else decide ((b.length:Int)<=(i:Int)))||a.getD i 0 != b.getD i 0)= !B0c a b i:=by
 unfold B0c;by_cases h1:i<a.length
 ·rw[zb o_];by_cases h2:i<b.length
  ·rw[zp o_];simp only[h1,h2,z6,zH,zS];rfl
  ·rw[zT o_];simp[h2]
 ·rw[zc o_];simp[h1]
theorem C2j(a b:List Int)(ha:a.length<=1000000000)(hb:b.length<=1000000000):cA_ 31 [A4 1 C59 0 a,A4 1 C59 0 b] [] (sI (B6a a b)) []:=by
 refine en1 hm A6 Tryz.func31 rfl rfl (sg_ ?_);refine B1 hm (ι:= {i:Nat // i<=max a.length b.length/\ ∀j,j<i->B0c a b j=true}) (λi=> [(0, .cA,A4 1 C59 0 a),(1, .cA,A4 1 C59 0 b),(5, .cA,sI i.1)])
  (λi=> []) (λi=>max a.length b.length-i.1) ⟨0,o_,λj hj=>by omega⟩ ?_ ?_
 ·refine D8 [] [] ?_;simp only[go_sem]
 ·rintro⟨i,hi,hs⟩;refine sg_ ?_;by_cases hlt:i<max a.length b.length
  ·rw[zc (by by_cases h:(i:Int)<a.length;rw[zc h];rw[zb h];exact zT o_)];refine⟨E7l a b i,E7m a b i,?_⟩;rw[F3n];cases hsm:B0c a b i with
   |false=>rw[zc (show(!false)=true from rfl)];exact(D9x o_ hs hsm).symm
   |true=>rw[zb p_];refine A8 ⟨i+1,o_,λj hj=>by rcases zF.1 hj with h |rfl;exact hs j h;exact hsm⟩ (by show max a.length b.length-(i+1)<max a.length b.length-i;omega) (D8 [] [] ?_);refine sg_ ?_;exact wo_
  ·rw[zb (by rw[zb o_,zp o_];simp)];exact(C13 λj hj=>hs j o_).symm
def mag(n:Int):Nat:=n.natAbs%18446744073709551616
theorem F62(n:Int):mag n<18446744073709551616:=yF _ (by decide)
def A5w(u:Nat):Nat->List Int
 |0=> []
 |k+1=>((u / 256^k%256:Nat):Int)::A5w u k
theorem D1m(u:Nat): ∀k,(A5w u k).length=k
 |0=>rfl
 |k+1=>by rw[A5w,List.length_cons,D1m u k]
def E0d(u:Nat):Nat:=(List.range 9).countP λj=>decide (0<u / 256^j)
theorem F3t {u k:Nat}(hk:k<=8)(h: ∀j,j<k->0<u / 256^j)(h0:u / 256^k=0):E0d u=k:=by
 have hp: ∀j,(decide (0<u / 256^j))=decide (j<k):=λj=>by
  rcases qq j k with h1 |h1
  ·rw[zT h1,zT (h j h1)]
  ·rw[zp (p:=j<k) o_,zp];have:u / 256^j<=u / 256^k:=Nat.div_le_div_left (Nat.pow_le_pow_right (by decide) h1) (Nat.pow_pos (by decide));rw[h0]at this;exact λh2=>absurd (qH h2 this) (Nat.lt_irrefl _)
 unfold E0d;simp only[hp]
 match k,hk with
 |0,_=>rfl
 |1,_=>rfl
 |2,_=>rfl
 |3,_=>rfl
 |4,_=>rfl
 |5,_=>rfl
 |6,_=>rfl
 |7,_=>rfl
 |8,_=>rfl
def D9j(n:Int):List Int:=A5w (mag n) (E0d (mag n))
def A95(n:Int):List Int:=(((D9j n).length:Int)+if n<0 then 16 else 0)::D9j n
theorem F3u(u:Nat):E0d u<=9:=by unfold E0d;have:=List.countP_le_length (p:=λj=>decide (0<u / 256^j)) (l:=List.range 9);rwa[List.length_range]at this
theorem B5g(n:Int):(A95 n).length<=10:=by have:=F3u (mag n);unfold A95 D9j;rw[List.length_cons,D1m];omega
theorem C8g {α:Type}{enc:α->List AV}{d:α}{l m l':List α}{z n:Nat}{g:Nat->List AV}(hn:n=l.length)(hg: ∀i,i<n->g i=enc (l.getD i d))(hl:l'=l++m):
  M9 (.dsl z (n+m.length) (Sq.app ⟨n,g⟩ (B0 enc d m)).g) (.dsl z l'.length (I9 enc d l')):=by
 subst hn hl;refine⟨rfl,p_,λi hi=> ?_⟩;show Z0 (if i<l.length then g i else I9 enc d m (i-l.length)) (I9 enc d (l++m) i);rw[B20,B20,B5x];by_cases h:i<l.length
 ·rw[zc h,zc h,hg i h];exact I5 _
 ·rw[zb h,zb h];exact I5 _
theorem C9g(n:Int):cA_ 522 [sI n] [] (.sc (.int .u64 (mag n))) []:=by
 refine en1 hm A6 Tryz.func522 rfl rfl (sg_ ?_);unfold mag;by_cases h:n<0
 ·rw[zc h];simp only[IntKind.wrap_u64];omega
 ·rw[zb h];simp only[IntKind.wrap_u64];omega
theorem A5q(b m:List Int)(hb:b.length<=1099511627776)(hl:m.length<=1099511627776):cA_ 523 [A4 1 A17 0 b,A4 1 A17 0 m] [] (A4 1 A17 0 (b++m)) []:=by refine en1 hm A6 Tryz.func523 rfl rfl (sg_ ?_);simp only[Int.sub_zero,go_sem];refine⟨⟨o_,o_,o_⟩,⟨o_,(by simp only[maxLen];omega)⟩,?_⟩;exact C8g rfl (λ_ _=>rfl) rfl
theorem w8p(m:Nat)(h:m<=8):IntKind.u8.wrap (IntKind.i64.wrap ((m:Int)+16))=(m:Int)+16:=by simp only[IntKind.wrap_u8,IntKind.wrap_i64];omega
theorem w8n(m:Nat)(h:m<=8):IntKind.u8.wrap (m:Int)=(m:Int)+0:=by simp only[IntKind.wrap_u8];omega
theorem A7t(b:List Int)(n:Int)(hb:b.length<=549755813888):cA_ 451 [A4 1 A17 0 b,sI n] [] (A4 1 A17 0 (b++A95 n)) []:=by
 refine en1 hm A6 Tryz.func451 rfl rfl (sg_ ?_);refine A0 (C9g n) rfl (sg_ ?_);have hU:=F62 n;refine B1 hm (ι:= {k:Nat // k<=8/\ ∀j,j<k->0<mag n / 256^j}) (λk=> [(0, .cA,A4 1 A17 0 b),(1, .cA,sI n),(5, .eP,A4 1 A17 0 (A5w (mag n) k.1)),(6, .cA, .sc (.int .u64 ((mag n / 256^k.1:Nat):Int)))])
  (λ_=> []) (λk=>8-k.1) ⟨0,o_,λj hj=>by omega⟩ ?_ ?_
 ·refine D8 [] [] (sg_ ?_);exact⟨G5 rfl,by rw[Nat.pow_zero,Nat.div_one]⟩
 ·rintro⟨k,hk,hp⟩;have hll:=D1m (mag n) k
  have hl1:A5w (mag n) (k+1)=((mag n / 256^k%256:Nat):Int)::A5w (mag n) k:=rfl
  have hsh:mag n / 256^(k+1)=mag n / 256^k / 256:=by rw[Nat.pow_succ,Nat.div_div_eq_div_mul]
  refine sg_ ?_;by_cases hz:0<mag n / 256^k
  ·have hk8:k+1<=8:=by
    rcases qq k 8 with h |h
    ·omega
    ·obtain rfl:k=8:=o_
     exfalso;have:mag n / 256^8=0:=Nat.div_eq_of_lt hU;rw[this]at hz;exact absurd hz (by decide)
   have hp2: ∀j,j<k+1->0<mag n / 256^j:=λj hj=>by
    rcases zF.1 hj with h |rfl
    ·exact hp j h
    ·exact hz
   rw[zc (by exact Int.ofNat_lt.2 hz)];refine⟨⟨o_,(by simp only[maxLen];omega)⟩,o_,?_⟩;refine A8 ⟨k+1,hk8,hp2⟩ (by show 8-(k+1)<8-k;omega) (D8 [] [] ?_);simp only[hsh,hl1,go_sem];generalize mag n / 256^k=u;generalize A5w (mag n) k=D;have ew:IntKind.u8.wrap (u:Int)=((u%256:Nat):Int):=by simp only[IntKind.wrap_u8];omega
   have ed:Int.fdiv (u:Int) (2^min 8 64)=((u / 256:Nat):Int):=by
    have e8:(2:Int)^min 8 64=256:=by decide
    rw[e8,qP _ (by decide)];omega
   rw[ew,ed];generalize((u%256:Nat):Int)=c
   first |refine⟨rfl,C8g (enc:=A17) (d:=0) (l:= [c]) (m:=D) rfl (λi hi=> ?_) rfl,rfl⟩ |refine⟨C8g (enc:=A17) (d:=0) (l:= [c]) (m:=D) rfl (λi hi=> ?_) rfl,rfl⟩ |refine C8g (enc:=A17) (d:=0) (l:= [c]) (m:=D) rfl (λi hi=> ?_) rfl
   have hi:i<1:=hi;obtain rfl:i=0:=o_
   rfl
  ·have hz0:mag n / 256^k=0:=Nat.eq_zero_of_not_pos hz
   rw[zb (by rw[hz0];decide)];have hnd:=F3t hk hp hz0
   have hdig:A5w (mag n) k=D9j n:=by unfold D9j;rw[hnd]
   have hiB:A95 n= [((A5w (mag n) k).length:Int)+if n<0 then 16 else 0]++A5w (mag n) k:=by unfold A95;rw[hdig];rfl
   by_cases hn:n<0
   ·rw[zc hn]at hiB⊢;refine O6 (A5q b [((A5w (mag n) k).length:Int)+16] o_ p_) ?_;simp only[S2,go_sem];have hw8:IntKind.u8.wrap (IntKind.i64.wrap (((A5w (mag n) k).length:Int)+16))=((A5w (mag n) k).length:Int)+16:=w8p _ (by rw[hll];exact hk);simp only[hw8];refine⟨H1 (l:= [((A5w (mag n) k).length:Int)+16]) (λ_ _=>rfl) rfl rfl rfl,?_⟩;refine A0 (A5q (b++ [((A5w (mag n) k).length:Int)+16]) (A5w (mag n) k) (by simp only[zd,List.length_singleton];omega) o_) rfl ?_;simp only[hiB,zd,go_sem]
   ·rw[zb hn]at hiB⊢;refine O6 (A5q b [((A5w (mag n) k).length:Int)+0] o_ p_) ?_;simp only[S2,go_sem];have hw8:IntKind.u8.wrap ((A5w (mag n) k).length:Int)=((A5w (mag n) k).length:Int)+0:=w8n _ (by rw[hll];exact hk);simp only[hw8];refine⟨H1 (l:= [((A5w (mag n) k).length:Int)+0]) (λ_ _=>rfl) rfl rfl rfl,?_⟩;refine A0 (A5q (b++ [((A5w (mag n) k).length:Int)+0]) (A5w (mag n) k) (by simp only[zd,List.length_singleton];omega) o_) rfl ?_;simp only[hiB,zd,go_sem]
def C23(x:Bool):List Int:= [if x=true then 1 else 0]
def C4w(v:cI):List Int:=A95 v.X++A95 v.Y
def D9(l:List Int):List Int:=l.flatMap A95
def W7(l:List Bool):List Int:=l.flatMap C23
def N3(l:List cI):List Int:=l.flatMap C4w
theorem D6b(x:Bool):(C23 x).length=1:=rfl
theorem E1l(v:cI):(C4w v).length<=20:=by have:=B5g v.X;have:=B5g v.Y;unfold C4w;rw[zd];omega
theorem B0v {α:Type}{f:α->List Int}{c:Nat}(h: ∀a,(f a).length<=c): ∀l:List α,(l.flatMap f).length<=c*l.length
 | []=>by simp
 |a::l=>by have:=B0v h l;have:=h a;rw[yo,zd,List.length_cons,Nat.mul_add];omega
theorem K5(l:List Int):(D9 l).length<=10*l.length:=B0v B5g l
theorem A4g(l:List Bool):(W7 l).length<=1*l.length:=B0v (λx=>Nat.le_of_eq (D6b x)) l
theorem A1i(l:List cI):(N3 l).length<=20*l.length:=B0v E1l l
theorem A7i {α:Type}{f:α->List Int}{l:List α}{i:Nat}(d:α)(h:i<l.length):(l.take (i+1)).flatMap f=(l.take i).flatMap f++f (l.getD i d):=by rw[K9 d h,List.flatMap_append,List.flatMap_singleton]
theorem C7b(b:List Int)(x:Bool)(hb:b.length<=549755813888):cA_ 524 [A4 1 A17 0 b,sB x] [] (A4 1 A17 0 (b++C23 x)) []:=by
 refine en1 hm A6 Tryz.func524 rfl rfl (sg_ ?_);cases x with
 |true=>rw[zc rfl];refine O6 (A5q b [1] o_ p_) ?_;simp only[S2,go_sem];refine⟨H1 (l:=([1]:List Int)) (λ_ _=>rfl) rfl rfl rfl,?_⟩;exact D0 _
 |false=>rw[zb p_];refine O6 (A5q b [0] o_ p_) ?_;simp only[S2,go_sem];refine⟨H1 (l:=([0]:List Int)) (λ_ _=>rfl) rfl rfl rfl,?_⟩;exact D0 _
theorem C9f(b:List Int)(v:cI)(hb:b.length<=500000000000):cA_ 452 [A4 1 A17 0 b, .agg v.enc] [] (A4 1 A17 0 (b++C4w v)) []:=by have h1:=B5g v.X;refine en1 hm A6 Tryz.func452 rfl rfl (sg_ ?_);refine A0 (A7t b v.X o_) rfl (sg_ ?_);refine A0 (A7t (b++A95 v.X) v.Y (by rw[zd];omega)) rfl ?_;simp only[C4w,go_sem]
end Go.Abs
end
