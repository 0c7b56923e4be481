/- A part of the proof: contracts of functions that the statement reaches. -/
import Derived.Test.YtchcbiiammkhgaaGreatMO
set_option linter.unusedSimpArgs false
set_option linter.unusedVariables false
set_option linter.unnecessarySimpa false
set_option maxRecDepth 100000
set_option maxHeartbeats 2000000
noncomputable section
namespace Go.Abs
open Go.Proofs
open Api
def fiS(bs as_:List cF)(js:List cG)(i:Nat)(k:Nat)(s:Int):Int:=
 if(decide (k≠i)&& !(js.any (D1s (as_.getD i dF_).ID (as_.getD k dF_).ID)))=true then
  (if F36 (bs.getD i dF_) (as_.getD i dF_) (as_.getD k dF_)<s then F36 (bs.getD i dF_) (as_.getD i dF_) (as_.getD k dF_)else s)else s
def fiV(bs as_:List cF)(js:List cG)(i:Nat):Int:=itr (fiS bs as_ js i) as_.length 65536
def fiR(bs as_:List cF)(js:List cG)(i:Nat):Int×Bool:=
 if(!(as_.getD i dF_).fG||(as_.getD i dF_).cS != 3||(as_.getD i dF_).eU)=true then(0,false)
 else if fiV bs as_ js i=65536 then(0,false)else(fiV bs as_ js i,true)
theorem D5l(bs as_:List cF)(js:List cG)(i:Nat)(hlen:bs.length=as_.length)(hi:i<as_.length)(hl:as_.length<=1048576)(hb: ∀b∈bs,cF.sm b)(ha: ∀b∈as_,cF.sm b)(hj:js.length<=1048576):
  cA_ D4x [A4 20 cF.enc dF_ bs,A4 20 cF.enc dF_ as_,A4 24 cG.enc dF_ js,sI (i:Nat)] [] (.tup [sI ((fiR bs as_ js i).1),sB ((fiR bs as_ js i).2)]) []:=by
 have hr:=fiR.eq_1 bs as_ js i
 have hbi:=ha _ (B8 dF_ hi);refine enT hm A6 Tryz.func325 rfl rfl (st_ ?_);rw[if_neg (by simp[hlen];omega)];refine⟨bE_,?_⟩;generalize hb0:as_.getD i dF_=b at hr hbi⊢;have hbb:=hb _ (B8 (l:=bs) (i:=i) dF_ (by omega));by_cases hs:(!b.fG||b.cS != 3||b.eU)=true
 ·rw[if_pos hs]at hr⊢;rw[hr];exact⟨rfl,rfl⟩
 rw[if_neg hs]at hr⊢;rw[hr];unfold fiV;refine B1 hm (ι:= {j:Nat // j<=as_.length}) (λj=> [(0, .cA,A4 20 cF.enc dF_ bs),(2, .cA,A4 24 cG.enc dF_ js),(3, .cA,sI (i:Nat)),(10, .eQ, .cW b.enc),(11, .cA,sI (itr (fiS bs as_ js i) j.1 65536)),(45, .cA,A4 20 cF.enc dF_ as_),(46, .cA,sI as_.length),(47, .cA,sI (j.1:Nat))]) (λj=> []) (λj=>as_.length-j.1) ⟨0,Nat.zero_le _⟩ ?_ ?_
 ·simp only[J3];refine B0 [] [] ?_;simp only[go_sem,go_sem_proc,A3e]
 ·rintro⟨k,hk⟩;dsimp only;have hn:itr (fiS bs as_ js i) (k+1) 65536=fiS bs as_ js i k (itr (fiS bs as_ js i) k 65536):=H6 ..
  have hfin:as_.length<=k->itr (fiS bs as_ js i) k 65536=itr (fiS bs as_ js i) as_.length 65536:=λh=>by rw[show k=as_.length by omega]
  generalize itr (fiS bs as_ js i) k 65536=v at hn hfin⊢;refine st_ ?_;by_cases hlt:k<as_.length;rotate_left
  ·rw[if_neg (by omega),<-hfin (by omega)];by_cases hv:v=65536
   ·rw[if_pos (by simpa using hv),if_pos hv];exact⟨rfl,rfl⟩
   ·rw[if_neg (by simpa using hv),if_neg hv];exact⟨rfl,rfl⟩
  rw[if_pos (by omega)];refine⟨bE_,?_⟩;rw[fiS.eq_1 bs as_ js i k v,hb0]at hn;have hok:=ha _ (B8 dF_ hlt);generalize as_.getD k dF_=o at hn hok⊢;refine A0 (B2c js b.ID o.ID hj) rfl ?_;generalize js.any (D1s b.ID o.ID)=c at hn⊢;refine st_ ?_;by_cases hc:(((k:Nat):Int) != ((i:Nat):Int)&& !c)=true
  ·rw[if_pos hc];rw[if_pos (show(decide (k≠i)&& !c)=true by simp at hc⊢;exact⟨by omega,hc.2⟩)]at hn;refine⟨by omega,?_⟩;refine A0 (D8w (bs.getD i dF_) b o hbi hok) rfl (st_ ?_);refine A8 ⟨k+1,by omega⟩ (by show as_.length-(k+1)<as_.length-k;omega) ?_;simp only[hn];refine B0 [] [] (st_ ?_);exact eE_
  ·rw[if_neg hc];rw[if_neg (show ¬(decide (k≠i)&& !c)=true by simp at hc⊢;intro h;exact hc (by omega))]at hn;refine A8 ⟨k+1,by omega⟩ (by show as_.length-(k+1)<as_.length-k;omega) ?_;simp only[hn];refine B0 [] [] (st_ ?_);exact eE_
def stR(bs as_:List cF)(js:List cG)(i:Nat):cF×Bool:=if(fiR bs as_ js i).2=true then({as_.getD i dF_ with cH:=A14 (bs.getD i dF_).cH (as_.getD i dF_).cH (fiR bs as_ js i).1},true)else(as_.getD i dF_,false)
theorem F4o(bs as_:List cF)(js:List cG)(i:Nat)(hlen:bs.length=as_.length)(hi:i<as_.length)(hl:as_.length<=1048576)(hb: ∀b∈bs,cF.sm b)(ha: ∀b∈as_,cF.sm b)(hj:js.length<=1048576):
  cA_ F2x [A4 20 cF.enc dF_ bs,A4 20 cF.enc dF_ as_,A4 24 cG.enc dF_ js,sI (i:Nat)] [] (.tup [.agg (stR bs as_ js i).1.enc,sB ((stR bs as_ js i).2)]) []:=by
 have hF:=D5l bs as_ js i hlen hi hl hb ha hj
 have hr:=stR.eq_1 bs as_ js i
 have hbi:=ha _ (B8 dF_ hi);generalize fiR bs as_ js i=r at hF hr;obtain⟨r1,r2⟩:=r;dsimp only at hr hF;rw[hr];refine S1 48 [(8,some (some 20)),(9,none)] hm A6 Tryz.func197 rfl ?_;cases r2 with
 |false=>rw[if_neg (by simp)];refine st_ ?_;rw[if_neg (by split <;> simp <;> omega)];refine⟨bE_,?_⟩;refine A0 (A4t _ hbi) rfl (st_ ?_);refine A0 hF rfl ?_;simp only[go_sem,go_sem_proc]
 |true=>rw[if_pos rfl];refine st_ ?_;rw[if_neg (by split <;> simp <;> omega)];refine⟨bE_,?_⟩;refine A0 (A4t _ hbi) rfl (st_ ?_);refine A0 hF rfl (st_ ?_);refine⟨by omega,?_⟩;refine A0 (B1j (bs.getD i dF_).cH (as_.getD i dF_).cH r1) rfl ?_;simp only[go_sem,go_sem_proc]
def stB(bs as_:List cF)(js:List cG)(n:Nat):List cF:=(List.range n).map λi=>(stR bs as_ js i).1
def F4v(bs as_:List cF)(js:List cG)(i:Nat):Option Api.Event:=if(stR bs as_ js i).2=true then some ⟨8,⟨(stR bs as_ js i).1.ID,0,0,0⟩⟩else none
def B1v(bs as_:List cF)(js:List cG)(n:Nat):List Api.Event:=(List.range n).filterMap (F4v bs as_ js)
theorem E3o(bs as_:List cF)(js:List cG)(n:Nat):(stB bs as_ js n).length=n:=by simp[stB]
theorem E9e(bs as_:List cF)(js:List cG)(n:Nat):(B1v bs as_ js n).length<=n:=Nat.le_trans (List.length_filterMap_le ..) (by simp)
theorem F90(bs as_:List cF)(js:List cG)(n:Nat):stB bs as_ js (n+1)=stB bs as_ js n++ [(stR bs as_ js n).1]:=by simp[stB,List.range_succ]
theorem F66(bs as_:List cF)(js:List cG)(n:Nat):B1v bs as_ js (n+1)=B1v bs as_ js n++(F4v bs as_ js n).toList:=by simp only[B1v,List.range_succ,List.filterMap_append];congr 1
theorem E5m(bs as_:List cF)(js:List cG)(hlen:bs.length=as_.length)(hl:as_.length<=1048576)(hb: ∀b∈bs,cF.sm b)(ha: ∀b∈as_,cF.sm b)(hj:js.length<=1048576):
  cA_ E4w [A4 20 cF.enc dF_ bs,A4 20 cF.enc dF_ as_,A4 24 cG.enc dF_ js] [] (.tup [A4 20 cF.enc dF_ (stB bs as_ js as_.length), .sl 1 0 (B1v bs as_ js as_.length).length (B1v bs as_ js as_.length).length]) [(1, .arr 5 (A9 Api.Event.enc dF_ (B1v bs as_ js as_.length)))]:=by
 refine A26 hm A6 Tryz.func117 rfl rfl (st_ ?_);refine B1 hm (ι:= {i:Nat // i<=as_.length}) (λi=> [(0, .cA,A4 20 cF.enc dF_ bs),(1, .cA,A4 20 cF.enc dF_ as_),(2, .cA,A4 24 cG.enc dF_ js),(8,mdA i.1, .sl 2 0 (stB bs as_ js i.1).length (stB bs as_ js i.1).length),(9,mdA i.1, .sl 1 0 (B1v bs as_ js i.1).length (B1v bs as_ js i.1).length),(14, .cA,sI as_.length),(15, .cA,sI (i.1:Nat))]) (λi=> [(1, .arr 5 (A9 Api.Event.enc dF_ (B1v bs as_ js i.1))),(2, .arr 20 (A9 cF.enc dF_ (stB bs as_ js i.1)))]) (λi=>as_.length-i.1) ⟨0,Nat.zero_le _⟩ ?_ ?_
 ·simp only[show B1v bs as_ js 0= []from rfl,show stB bs as_ js 0= []from rfl];refine B0 [] [1,2] ?_;simp only[go_sem,go_sem_proc]
 ·rintro⟨i,hi⟩;dsimp only;have hB:=F90 bs as_ js i
  have hE:=F66 bs as_ js i
  have lB:=E3o bs as_ js i
  have lE:=E9e bs as_ js i
  have fB:as_.length<=i->stB bs as_ js i=stB bs as_ js as_.length:=λh=>by rw[show i=as_.length by omega]
  have fE:as_.length<=i->B1v bs as_ js i=B1v bs as_ js as_.length:=λh=>by rw[show i=as_.length by omega]
  generalize stB bs as_ js i=B at hB lB fB⊢;generalize B1v bs as_ js i=E at hE lE fE⊢;refine st_ ?_;by_cases hlt:i<as_.length;rotate_left
  ·rw[if_neg (by omega),<-fB (by omega),<-fE (by omega)];refine B6 [.eQ, .cA] [] [] ?_;simp only[go_sem,go_sem_proc]
  rw[if_pos (by omega)];refine A0 (F4o bs as_ js i hlen hlt hl hb ha hj) rfl ?_;rw[F4v.eq_1 bs as_ js i]at hE;generalize stR bs as_ js i=r at hB hE⊢;obtain⟨r1,r2⟩:=r;dsimp only at hB hE;cases r2 with
  |false=>rw[if_neg (by simp)]at hE;simp only[Option.toList,List.append_nil]at hE;refine st_ ?_;refine⟨bE_,?_⟩;refine A8 ⟨i+1,by omega⟩ (by show as_.length-(i+1)<as_.length-i;omega) ?_;simp only[hB,hE];refine B0 [] [] (st_ ?_);exact eE_
  |true=>rw[if_pos rfl]at hE;simp only[Option.toList]at hE;refine st_ ?_;refine⟨bE_,bE_,?_⟩;refine A8 ⟨i+1,by omega⟩ (by show as_.length-(i+1)<as_.length-i;omega) ?_;simp only[hB,hE];refine B0 [] [] (st_ ?_);exact eE_
theorem P7 {P:Program}{m:Nat->Option A7}{f:FuncId}{avs:List AV}{b:Bool}{Q:ContR}{O O':List (Nat×A7)}{r:AV}(hc:D5 P f avs O r O')(h:okO O)(hk:O'.map (·.1)=O.map (·.1))(hm: ∀p∈O,m p.1=some p.2)
  (ha: ∀a∈avs,∀i∈a.ids,(ofL O i).isSome)(hb:b=true)(hK: @Ri Q b ⟨some r,O'⟩): @A21 P m f avs b Q:=by
 rw[<-C5g O']at hK;have hiff: ∀i,(ofL O' i).isSome↔(ofL O i).isSome:=λi=>by
  have key: ∀(l:List (Nat×A7)),(l.map (·.1)).Nodup->((ofL l i).isSome↔i∈l.map (·.1)):=λl hl=>by
   constructor
   ·intro hs;obtain⟨o,ho⟩:=Option.isSome_iff_exists.1 hs;exact List.mem_map_of_mem (f:=(·.1)) (A0p hl ho)
   ·intro hs;rw[List.mem_map]at hs;obtain⟨p,hp,rfl⟩:=hs;rw[B4t hl hp];rfl
  rw[key O' (by rw[hk];exact h.1),key O h.1,hk]
 refine⟨⟨some r,A3u id O'⟩,λ_=> ?_,λ_=>hb,hK⟩;have:=R5.mk (P:=P) (m:=m) (avs.map λ_=>true) avs O r O' id [] false hc (A84 ha)
  (λi o hi=>by rw[B14];exact hm _ (A0p h.1 hi))
  (λi cs hi j hj=>h.2 _ (A0p h.1 hi) cs rfl j hj) (λi hi=>(hiff i).2 hi) (λi hi=> .inl ((hiff i).1 hi)) (by show(O'.map (·.1)).Nodup;rw[hk];exact h.1) (λe=>by cases e)
 simpa[AV.ren_id]using this
def B4c(n:Nat)(l:List Int)(i:Int):List Int:=if 0<=i/\i<n then l++ [i]else l
def A4d(w:Api.World)(l:List Int)(id:Int):List Int:=if id≠0 then B4c w.cC.length l (H5 w id)else l
def E2f(w:Api.World)(l:List Int):List (Nat×A7):= [(48, .box w.enc),(96, .box [.sl 1 0 l.length l.length]),(1, .arr 1 (A9 C6 0 l)),(112, .box [.fn (.func A9x) [] [.ptr 48 0 0 1, .ptr 96 0 0 1]])]
attribute [go_sem] E2f
theorem B6k(w:Api.World)(l:List Int):okO (E2f w l):=by refine⟨by simp[go_sem],?_⟩;simp[go_sem,F0,AV.ids]
theorem C6s(n:Nat)(l:List Int)(i:Int):(B4c n l i).length<=l.length+1:=by unfold B4c;split <;> simp
theorem B3i(w:Api.World)(l:List Int)(i:Int):(A4d w l i).length<=l.length+1:=by
 unfold A4d;split
 ·exact C6s _ _ _
 ·omega
theorem B7n(w:Api.World)(l:List Int)(i:Int)(hl:l.length<=10000000):cA_ A9x [sI i, .ptr 48 0 0 1, .ptr 96 0 0 1] (E2f w l) (.tup []) (E2f w (B4c w.cC.length l i)):=by
 refine A26 hm A6 Tryz.func295 rfl rfl (sg_ ?_);by_cases hc:0<=i/\i<(w.cC.length:Int)
 ·have he:B4c w.cC.length l i=l++ [i]:=by unfold B4c;rw[if_pos hc]
  rw[if_pos (by rw[if_pos hc.1];exact decide_eq_true hc.2)];refine⟨ok_,?_⟩;refine B6 [] [] [] ?_;simp only[go_sem,he,List.length_append,List.length_singleton];exact A1g i rfl rfl
 ·have he:B4c w.cC.length l i=l:=by unfold B4c;rw[if_neg hc]
  rw[if_neg (by
   intro h;apply hc;by_cases c1:0<=i
   ·rw[if_pos c1]at h;exact⟨c1,of_decide_eq_true h⟩
   ·rw[if_neg c1]at h;cases h)]
  refine B6 [] [] [] ?_;simp only[go_sem,he]
theorem A67(w:Api.World)(l:List Int)(i:Int)(hl:l.length<=10000000)(hw:w.cC.length<=1048576):cA_ A6j [sI i, .ptr 112 0 0 1, .ptr 48 0 0 1] (E2f w l) (.tup []) (E2f w (A4d w l i)):=by
 refine A26 hm A6 Tryz.func296 rfl rfl (sg_ ?_);by_cases hc:i=0
 ·have he:A4d w l i=l:=by unfold A4d;rw[if_neg (by simp[hc])]
  rw[if_neg (by simp[hc])];refine B6 [] [] [] ?_;simp only[go_sem,he]
 ·have he:A4d w l i=B4c w.cC.length l (H5 w i):=by unfold A4d;rw[if_pos hc]
  rw[if_pos (by simp[hc])];refine A0 (T0 w i hw) rfl (sg_ ?_);refine P7 (B7n w l (H5 w i) hl) (B6k w l) rfl (by simp[go_sem]) (by simp[go_sem,AV.ids]) rfl (sg_ ?_);refine B6 [] [] [] ?_;simp only[go_sem,he]
def A95(w:Api.World)(l:List Int)(i:Int):List Int:=if 0<=i/\i<w.cB.length then A4d w (A4d w l (w.cB.getD i.toNat dF_).dQ.cU) (w.cB.getD i.toNat dF_).dQ.cV else l
def A9d(w:Api.World)(l:List Int)(i:Int):List Int:=if 0<=i/\i<w.cD.length then A4d w (A4d w l (w.cD.getD i.toNat dF_).cU) (w.cD.getD i.toNat dF_).cV else l
def A94(w:Api.World)(x:B3):List Int:=x.cC.foldl (B4c w.cC.length) []
def A9b(w:Api.World)(x:B3):List Int:=x.cB.foldl (A95 w) (A94 w x)
def A9c(w:Api.World)(x:B3):List Int:=x.cD.foldl (A9d w) (A9b w x)
theorem D7y(w:Api.World)(l:List Int)(i:Int):(A95 w l i).length<=l.length+2:=by
 unfold A95;split
 ·have h1:=B3i w (A4d w l (w.cB.getD i.toNat dF_).dQ.cU) (w.cB.getD i.toNat dF_).dQ.cV
  have h2:=B3i w l (w.cB.getD i.toNat dF_).dQ.cU;omega
 ·omega
theorem D7z(w:Api.World)(l:List Int)(i:Int):(A9d w l i).length<=l.length+2:=by
 unfold A9d;split
 ·have h1:=B3i w (A4d w l (w.cD.getD i.toNat dF_).cU) (w.cD.getD i.toNat dF_).cV
  have h2:=B3i w l (w.cD.getD i.toNat dF_).cU;omega
 ·omega
theorem A8k {f:List Int->Int->List Int}{k:Nat}(hf: ∀l i,(f l i).length<=l.length+k)(l:List Int): ∀(acc:List Int),(l.foldl f acc).length<=acc.length+k*l.length:=by
 induction l with
 |nil=>intro acc;simp
 |cons a l ih=>intro acc;have:=ih (f acc a);have:=hf acc a;simp only[List.foldl_cons,List.length_cons,Nat.mul_add];omega
theorem B7k {f:List Int->Int->List Int}{l:List Int}{k:Nat}{acc:List Int}(h:k<l.length):(l.take (k+1)).foldl f acc=f ((l.take k).foldl f acc) (l.getD k 0):=by rw[L5 0 h];simp
def F3d(w:Api.World)(x:B3)(l:List Int):List (Nat×A7):= [(48, .box w.enc),(64, .box x.enc),(96, .box [.sl 1 0 l.length l.length]),(1, .arr 1 (A9 C6 0 l)),(112, .box [.fn (.func A9x) [] [.ptr 48 0 0 1, .ptr 96 0 0 1]])]
attribute [go_sem] F3d
def J5(w:Api.World)(x:B3):List Int:=B6v (B62 (A9c w x))
theorem C2z(w:Api.World)(x:B3)(hw:Wsm w)(hx:Ism x):cA_ C14 [.agg w.enc, .agg x.enc] [] (.sl 1 0 (J5 w x).length (A9c w x).length)
  [(1, .arr 1 (A9 C6 0 (J5 w x++List.replicate ((A9c w x).length-(J5 w x).length) 0)))]:=by
 obtain⟨w1,w2,w3,w4,w5,w6⟩:=hw;obtain⟨x1,x2,x3⟩:=hx;refine I7 hm A6 Tryz.func178 rfl rfl (sg_ ?_);refine B1 hm (ι:= {i:Nat // i<=x.cC.length}) (λi=> [(2, .cA, .ptr 48 0 0 1),(3, .cA, .ptr 64 0 0 1),(5, .cA, .ptr 96 0 0 1),(6, .cA, .ptr 112 0 0 1),(7, .cA, .fn (.func A6j) [] [.ptr 112 0 0 1, .ptr 48 0 0 1]),(17, .cA,A4 1 C6 0 x.cC),(18, .cA,sI x.cC.length),(19, .cA,sI i.1)])
  (λi=>F3d w x ((x.cC.take i.1).foldl (B4c w.cC.length) [])) (λi=>x.cC.length-i.1) ⟨0,by omega⟩ ?_ ?_
 ·refine E0 [] [1] ?_;simp only[go_sem]
 ·rintro⟨i,hi⟩;have hn:=A8k (C6s w.cC.length) (x.cC.take i) []
  have hn:((x.cC.take i).foldl (B4c w.cC.length) []).length<=10000000:=by simp only[List.length_take,List.length_nil]at hn;omega
  refine sg_ ?_;split
  ·rename_i hlt;have hlt:i<x.cC.length:=by omega
   refine⟨ok_,?_⟩;refine P7 (B7n w _ (x.cC.getD i 0) hn) (B6k w _) rfl (by simp[go_sem]) (by simp[go_sem,AV.ids]) rfl (sg_ ?_);refine A8 ⟨i+1,by omega⟩ (by show x.cC.length-(i+1)<x.cC.length-i;omega) (E0 [] [] ?_);simp only[go_sem,B7k hlt];exact(by rw[IntKind.wrap_i64];omega)
  ·rename_i hge;obtain rfl:i=x.cC.length:=by omega
   have hb1:(A94 w x).length<=1048576:=by have:=A8k (C6s w.cC.length) x.cC [];simp only[List.length_nil]at this;unfold A94;omega
   refine B1 hm (ι:= {i:Nat // i<=x.cB.length}) (λi=> [(2, .cA, .ptr 48 0 0 1),(3, .cA, .ptr 64 0 0 1),(5, .cA, .ptr 96 0 0 1),(7, .cA, .fn (.func A6j) [] [.ptr 112 0 0 1, .ptr 48 0 0 1]),(28, .cA,A4 1 C6 0 x.cB),(29, .cA,sI x.cB.length),(30, .cA,sI i.1)])
    (λi=>F3d w x ((x.cB.take i.1).foldl (A95 w) (A94 w x))) (λi=>x.cB.length-i.1) ⟨0,by omega⟩ ?_ ?_
   ·refine E0 [] [] ?_;simp only[go_sem,List.take_length,List.foldl_nil,A94]
   ·rintro⟨i,hi⟩;have hn:=A8k (D7y w) (x.cB.take i) (A94 w x)
    have hn:((x.cB.take i).foldl (A95 w) (A94 w x)).length<=4000000:=by simp only[List.length_take]at hn;omega
    refine sg_ ?_;split
    ·rename_i hlt;have hlt:i<x.cB.length:=by omega
     refine⟨ok_,?_⟩;by_cases hc:0<=x.cB.getD i 0/\x.cB.getD i 0<(w.cB.length:Int)
     ·have he:A95 w ((x.cB.take i).foldl (A95 w) (A94 w x)) (x.cB.getD i 0)=A4d w (A4d w ((x.cB.take i).foldl (A95 w) (A94 w x)) (w.cB.getD (x.cB.getD i 0).toNat dF_).dQ.cU) (w.cB.getD (x.cB.getD i 0).toNat dF_).dQ.cV:=by unfold A95;rw[if_pos hc]
      rw[if_pos (by rw[if_pos hc.1];exact decide_eq_true hc.2)];refine⟨⟨hc.1,hc.2⟩,?_⟩;have hn2:=B3i w ((x.cB.take i).foldl (A95 w) (A94 w x)) (w.cB.getD (x.cB.getD i 0).toNat dF_).dQ.cU;refine P7 (A67 w ((x.cB.take i).foldl (A95 w) (A94 w x)) (w.cB.getD (x.cB.getD i 0).toNat dF_).dQ.cU (by omega) w1) (B6k w _) rfl (by simp[go_sem]) (by simp[go_sem,AV.ids]) rfl (sg_ ?_);refine⟨⟨hc.1,hc.2⟩,?_⟩;refine P7 (A67 w (A4d w ((x.cB.take i).foldl (A95 w) (A94 w x)) (w.cB.getD (x.cB.getD i 0).toNat dF_).dQ.cU) (w.cB.getD (x.cB.getD i 0).toNat dF_).dQ.cV (by omega) w1) (B6k w _) rfl (by simp[go_sem]) (by simp[go_sem,AV.ids]) rfl (sg_ ?_);refine A8 ⟨i+1,by omega⟩ (by show x.cB.length-(i+1)<x.cB.length-i;omega) (E0 [] [] ?_);simp only[go_sem,B7k hlt,he];exact(by rw[IntKind.wrap_i64];omega)
     ·have he:A95 w ((x.cB.take i).foldl (A95 w) (A94 w x)) (x.cB.getD i 0)=((x.cB.take i).foldl (A95 w) (A94 w x)):=by unfold A95;rw[if_neg hc]
      rw[if_neg (by
       intro h;apply hc;by_cases c1:0<=x.cB.getD i 0
       ·rw[if_pos c1]at h;exact⟨c1,of_decide_eq_true h⟩
       ·rw[if_neg c1]at h;cases h)]
      refine A8 ⟨i+1,by omega⟩ (by show x.cB.length-(i+1)<x.cB.length-i;omega) (E0 [] [] ?_);simp only[go_sem,B7k hlt,he];exact(by rw[IntKind.wrap_i64];omega)
    ·rename_i hge;obtain rfl:i=x.cB.length:=by omega
     have hb2:(A9b w x).length<=4000000:=by have:=A8k (D7y w) x.cB (A94 w x);unfold A9b;omega
     refine B1 hm (ι:= {i:Nat // i<=x.cD.length}) (λi=> [(2, .cA, .ptr 48 0 0 1),(5, .cA, .ptr 96 0 0 1),(7, .cA, .fn (.func A6j) [] [.ptr 112 0 0 1, .ptr 48 0 0 1]),(63, .cA,A4 1 C6 0 x.cD),(64, .cA,sI x.cD.length),(65, .cA,sI i.1)])
      (λi=>F3d w x ((x.cD.take i.1).foldl (A9d w) (A9b w x))) (λi=>x.cD.length-i.1) ⟨0,by omega⟩ ?_ ?_
     ·refine E0 [] [] ?_;simp only[go_sem,List.take_length,List.foldl_nil,A9b]
     ·rintro⟨i,hi⟩;have hn:=A8k (D7z w) (x.cD.take i) (A9b w x)
      have hn:((x.cD.take i).foldl (A9d w) (A9b w x)).length<=8000000:=by simp only[List.length_take]at hn;omega
      refine sg_ ?_;split
      ·rename_i hlt;have hlt:i<x.cD.length:=by omega
       refine⟨ok_,?_⟩;by_cases hc:0<=x.cD.getD i 0/\x.cD.getD i 0<(w.cD.length:Int)
       ·have he:A9d w ((x.cD.take i).foldl (A9d w) (A9b w x)) (x.cD.getD i 0)=A4d w (A4d w ((x.cD.take i).foldl (A9d w) (A9b w x)) (w.cD.getD (x.cD.getD i 0).toNat dF_).cU) (w.cD.getD (x.cD.getD i 0).toNat dF_).cV:=by unfold A9d;rw[if_pos hc]
        rw[if_pos (by rw[if_pos hc.1];exact decide_eq_true hc.2)];refine⟨⟨hc.1,hc.2⟩,?_⟩;have hn2:=B3i w ((x.cD.take i).foldl (A9d w) (A9b w x)) (w.cD.getD (x.cD.getD i 0).toNat dF_).cU;refine P7 (A67 w ((x.cD.take i).foldl (A9d w) (A9b w x)) (w.cD.getD (x.cD.getD i 0).toNat dF_).cU (by omega) w1) (B6k w _) rfl (by simp[go_sem]) (by simp[go_sem,AV.ids]) rfl (sg_ ?_);refine⟨⟨hc.1,hc.2⟩,?_⟩;refine P7 (A67 w (A4d w ((x.cD.take i).foldl (A9d w) (A9b w x)) (w.cD.getD (x.cD.getD i 0).toNat dF_).cU) (w.cD.getD (x.cD.getD i 0).toNat dF_).cV (by omega) w1) (B6k w _) rfl (by simp[go_sem]) (by simp[go_sem,AV.ids]) rfl (sg_ ?_);refine A8 ⟨i+1,by omega⟩ (by show x.cD.length-(i+1)<x.cD.length-i;omega) (E0 [] [] ?_);simp only[go_sem,B7k hlt,he];exact(by rw[IntKind.wrap_i64];omega)
       ·have he:A9d w ((x.cD.take i).foldl (A9d w) (A9b w x)) (x.cD.getD i 0)=((x.cD.take i).foldl (A9d w) (A9b w x)):=by unfold A9d;rw[if_neg hc]
        rw[if_neg (by
         intro h;apply hc;by_cases c1:0<=x.cD.getD i 0
         ·rw[if_pos c1]at h;exact⟨c1,of_decide_eq_true h⟩
         ·rw[if_neg c1]at h;cases h)]
        refine A8 ⟨i+1,by omega⟩ (by show x.cD.length-(i+1)<x.cD.length-i;omega) (E0 [] [] ?_);simp only[go_sem,B7k hlt,he];exact(by rw[IntKind.wrap_i64];omega)
      ·rename_i hge;obtain rfl:i=x.cD.length:=by omega
       have hb3:(A9c w x).length<=8000000:=by have:=A8k (D7z w) x.cD (A9b w x);unfold A9c;omega
       have hb4:=C2o (A9c w x)
       have ebod:(x.cD.take x.cD.length).foldl (A9d w) (A9b w x)=A9c w x:=by rw[List.take_length];rfl
       simp only[go_sem,ebod];refine P7 (D5w (A9c w x) (by omega)) (by refine⟨by simp,?_⟩;simp) rfl (by simp[go_sem]) (by simp[go_sem,AV.ids]) rfl ?_;simp only[go_sem,ebod];have hS:=C72 (B62 (A9c w x)) (by omega);rw[hb4]at hS;refine P7 hS (by refine⟨by simp,?_⟩;simp) rfl (by simp[go_sem]) (by simp[go_sem,AV.ids]) rfl ?_;refine sg_ ?_;refine B6 [.cA] [] [] ?_;simp only[go_sem,J5]
theorem B1x {P:Program}{m:Nat->Option A7}{f:FuncId}{avs:List AV}{b:Bool}{Q:ContR}(hb:b=false)(r:AV)(hK: @Ri Q b ⟨some r,[]⟩): @A21 P m f avs b Q:=⟨⟨some r,[]⟩,(λh=>by rw[hb]at h;cases h),(λh=>absurd rfl h),hK⟩
def drO(w:Api.World)(x:B3)(l:List Int):List (Nat×A7):=(32, .box [.ptr 6 0 0 1])::A58 w x l
attribute [go_sem] drO
theorem E24(w:Api.World)(x:B3)(l:List Int):okO (drO w x l):=by refine⟨by simp[go_sem],?_⟩;simp[go_sem,F0,AV.ids]
theorem C1w(w:Api.World)(x:B3)(l:List Int)(i:Int)(h0:0<=i)(h1:i<w.cC.length):cA_ B1e [sI i, .ptr 32 0 0 1] (drO w x l) (sB (D78 (B4m w i))) (drO w x l):=by refine I7 hm A6 Tryz.func330 rfl rfl (sg_ ?_);refine⟨⟨h0,h1⟩,?_⟩;refine Z2 (C71 w x l (B4m w i)) (B0h w x l) (by simp[go_sem]) (by simp[go_sem,AV.ids]) rfl (sg_ ?_);refine B6 [.cA] [] [] ?_;simp only[go_sem]
def E53(w:Api.World)(i:Int):Bool:=if 0<=i/\i<w.cD.length then(w.cD.getD i.toNat dF_).dH else false
theorem C1x(w:Api.World)(x:B3)(l:List Int)(i:Int):cA_ B1f [sI i, .ptr 32 0 0 1] (drO w x l) (sB (E53 w i)) (drO w x l):=by
 refine I7 hm A6 Tryz.func332 rfl rfl (sg_ ?_);refine⟨λh=>(by by_cases h0:0<=i;(rw[if_pos h0]at h;exact⟨h0,of_decide_eq_true h⟩);(rw[if_neg h0]at h;cases h)),?_⟩;refine B6 [.cA] [] [] (sg_ ?_);unfold E53;by_cases h0:0<=i
 ·by_cases h1:i<(w.cD.length:Int)
  ·simp only[h0,h1,and_self,if_true,decide_true,Bool.true_and]
  ·simp only[h0,h1,and_false,if_true,if_false,decide_false,Bool.false_and]
 ·simp only[h0,false_and,if_false,Bool.false_and]
theorem F6d(l:List Int):(A7.arr 1 (A9 C6 0 l)).NoDsl:=λk hk=>rfl
theorem F7u {z m:Nat}{l r:List Int}{g:Nat->List AV}(hm:m=l.length)(hg: ∀i,g i=C6 ((l++r).getD i 0)):M9 (.dsl z m g) (.dsl z l.length (I8 C6 0 l)):=by
 subst hm;simp only[M9,true_and];intro i hi;have:(l++r).getD i 0=l.getD i 0:=by simp[List.getD,List.getElem?_append,hi]
 simp only[I8,hg,this];exact H9 _
theorem E63 {n:Nat}{l:List Int}{i x:Int}(h:x∈B4c n l i):x∈l\/(x=i/\0<=i/\i<n):=by
 unfold B4c at h;split at h
 ·rename_i hc;rw[List.mem_append,List.mem_singleton]at h;rcases h with h |h
  ·exact .inl h
  ·exact .inr ⟨h,hc⟩
 ·exact .inl h
theorem C6r {w:Api.World}{l:List Int}{id:Int}(h: ∀x∈l,0<=x/\x<(w.cC.length:Int)): ∀x∈A4d w l id,0<=x/\x<(w.cC.length:Int):=by
 intro x hx;unfold A4d at hx;split at hx
 ·rcases E63 hx with h1 |⟨rfl,h1⟩
  ·exact h x h1
  ·exact h1
 ·exact h x hx
theorem E2u {f:List Int->Int->List Int}{Q:Int->Prop}(hf: ∀l i,(∀x∈l,Q x)-> ∀x∈f l i,Q x)(l:List Int): ∀(acc:List Int),(∀x∈acc,Q x)-> ∀x∈l.foldl f acc,Q x:=by
 induction l with
 |nil=>exact λacc h=>h
 |cons a l ih=>exact λacc h=>ih (f acc a) (hf acc a h)
theorem E2k(w:Api.World)(x:B3): ∀i∈A9c w x,0<=i/\i<(w.cC.length:Int):=by
 refine E2u (λl i h=> ?_) _ _ (E2u (λl i h=> ?_) _ _ (E2u (λl i h x hx=> ?_) _ _ (by simp)))
 ·unfold A9d;split
  ·exact C6r (C6r h)
  ·exact h
 ·unfold A95;split
  ·exact C6r (C6r h)
  ·exact h
 ·rcases E63 hx with h1 |⟨rfl,h1⟩
  ·exact h x h1
  ·exact h1
theorem D70 {w:Api.World}{x:B3}{i:Int}:i∈J5 w x↔i∈A9c w x:=by unfold J5;rw[F5k,F59]
theorem E7g(w:Api.World)(x:B3):(J5 w x).length<=(A9c w x).length:=by unfold J5;have:=C2e (B62 (A9c w x));rwa[C2o]at this
theorem E7d {w:Api.World}{x:B3}(hx:Ism x):(A9c w x).length<=8000000:=by
 obtain⟨x1,x2,x3⟩:=hx;have h1:=A8k (C6s w.cC.length) x.cC []
 have h2:=A8k (D7y w) x.cB (A94 w x)
 have h3:=A8k (D7z w) x.cD (A9b w x);simp only[List.length_nil]at h1;unfold A9c;unfold A9b at h3⊢;unfold A94 at h2 h3⊢;omega
def B6c(w:Api.World)(x:B3):Bool:=(J5 w x).any (λi=>D78 (B4m w i))||x.cD.any (E53 w)
theorem B5b(w:Api.World)(x:B3)(l:List Int)(hw:Wsm w)(hx:Ism x):cA_ C6i [.ptr 6 0 0 1] (A58 w x l) (sB (B6c w x)) (A58 w x l):=by
 have hb3:=E7d (w:=w) hx
 have hbl:=E7g w x;refine I7 hm A6 Tryz.func201 rfl rfl (sg_ ?_);refine E9o [(1,7)] (C2z w x hw hx) rfl (by simp only[List.mem_singleton,forall_eq];exact F6d _) (by simp) (by simp) (by simp only[S3,go_sem]) (by simp[go_sem]) rfl (sg_ ?_);refine B5 [false,true] [] (A5f (J5 w x) B1e [] [.ptr 32 0 0 1] (drO w x l) (λi=>D78 (B4m w i)) (by omega) (E24 w x l) (by simp[go_sem,AV.ids]) (λi hi=>C1w w x l i (E2k w x i (D70.1 hi)).1 (E2k w x i (D70.1 hi)).2)) (by simp[go_sem]) (by simp[go_sem]) (by simp[go_sem]) (by simp[go_sem]) (sg_ ?_);refine⟨by rw[List.length_append,List.length_replicate];omega,F7u rfl λ_=>rfl,?_⟩;cases hmv:(J5 w x).any (λi=>D78 (B4m w i))with
 |true=>refine B1x (by simp) (sB false) (sg_ ?_);refine B6 [.cA] [] [] ?_;simp only[go_sem,B6c,hmv,Bool.true_or]
 |false=>refine Z2 (A5f x.cD B1f [] [.ptr 32 0 0 1] (drO w x l) (E53 w) (by have:=hx.2.2;omega) (E24 w x l) (by simp[go_sem,AV.ids]) (λi hi=>C1x w x l i)) (E24 w x l) (by simp[go_sem]) (by simp[go_sem,AV.ids]) (by simp) (sg_ ?_);refine B6 [.cA] [] [] ?_;simp only[go_sem,B6c,hmv,Bool.false_or]
def A6o(w:Api.World)(x:B3)(l:List Int):Bool:=(l.any λi=> !(B4m w i).eU)||B6c w x
theorem A9j(w:Api.World)(x:B3)(l:List Int)(hw:Wsm w)(hx:Ism x)(hl:l.length<=1048576)(hi: ∀i∈l,0<=i/\i<w.cC.length):cA_ C9m [.ptr 6 0 0 1] (A58 w x l) (sB (A6o w x l)) (A58 w x l):=by
 refine I7 hm A6 Tryz.func162 rfl rfl (sg_ ?_);refine Z2 (B80 w x l B35 (λb=> !b.eU) (C7z w x l) hl hi) (B0h w x l) (by simp[go_sem]) (by simp[go_sem,AV.ids]) rfl (sg_ ?_);cases hmv:(l.any λi=> !(B4m w i).eU)with
 |true=>refine B1x (by simp) (sB false) (sg_ ?_);refine B6 [.cA] [] [] ?_;simp only[go_sem,A6o,hmv,Bool.true_or]
 |false=>refine Z2 (B5b w x l hw hx) (B0h w x l) (by simp[go_sem]) (by simp[go_sem,AV.ids]) (by simp) (sg_ ?_);refine B6 [.cA] [] [] ?_;simp only[go_sem,A6o,hmv,Bool.false_or]
def A1b(w:Api.World)(x:B3):List Int:=B0d x.cC w.cC.length
theorem C5b(w:Api.World)(x:B3): ∀i∈A1b w x,0<=i/\i<(w.cC.length:Int):=λi hi=>(F8o.1 hi).2
theorem D8h {w:Api.World}{x:B3}(hx:Ism x):(A1b w x).length<=1048576:=by have:=C7b x.cC w.cC.length;have:=hx.1;unfold A1b;omega
theorem A9t(w:Api.World)(x:B3)(hw:Wsm w)(hx:Ism x):cA_ D9u [.agg w.enc, .agg x.enc] [] (sB (A6o w x (A1b w x))) []:=by refine en1 hm A6 Tryz.func106 rfl rfl (sg_ ?_);refine B5 [true,true] [] (B3b w x hw hx) (by simp) (by simp[go_sem]) (by simp[go_sem]) (by simp) (sg_ ?_);refine Z2 (A9j w x (A1b w x) hw hx (D8h hx) (C5b w x)) (B0h w x _) (by simp[go_sem,A1b]) (by simp[go_sem,AV.ids]) rfl ?_;simp only[go_sem]
def G0n(j:cG)(b:cF)(ib limit:Int)(q n:cI)(sum:Int):Row:=⟨-1,ib,n,0,A0x (O6 q (F2 b)) n,0,0,IntKind.i64.wrap (0-limit),limit,j.dD,sum,-1,0⟩
def D2p(j:cG)(b:cF)(ib:Int)(s:List cE)(dt limit:Int)(q n:cI)(off sum:Int):Row:=⟨-1,ib,n,0,A0x (O6 q (F2 b)) n,S7 (G0n j b ib limit q n sum) s,K2 off dt,IntKind.i64.wrap (0-limit),limit,j.dD,sum,-1,0⟩
def wO(j:cG)(b:cF)(ib:Int)(s:List cE)(dt limit:Int)(q:cI):List (Nat×A7):=[(1, .box [sI ib]),(2, .box j.enc),(3, .box [sI limit]),(4, .box q.enc),(5, .box b.enc),(6, .box [A4 5 cE.enc dF_ s]),(7, .box [sI dt])]
theorem E1k(j:cG)(b:cF)(ib:Int)(s:List cE)(dt limit:Int)(q n:cI)(off sum:Int)(hb: ∀f∈b.cK,f.Shape.cJ.length<=1048576):cA_ C6o [.agg n.enc,sI off,sI sum, .ptr 1 0 0 1, .ptr 2 0 0 1, .ptr 3 0 0 1, .ptr 4 0 0 1, .ptr 5 0 0 1, .ptr 6 0 0 1, .ptr 7 0 0 1] (wO j b ib s dt limit q) (.agg (D2p j b ib s dt limit q n off sum).enc) (wO j b ib s dt limit q):=by
 unfold wO;refine C6y 40 [(13,some (some 14))] hm A6 Tryz.func434 rfl ?_;have:=A2v
 have:=L7
 have:=A5v
 have:=V4
 have:=λx1 x2=>cx_ (N8 (G0n j b ib limit q x1 sum) x2)
 (simp(maxSteps:=1000000) only[go_sem])
 repeat' (first |((with_reducible refine And.intro ?_ ?_);focus (exact K0)) |(with_reducible refine gd_ ?_;with_reducible refine A0 (by apply_assumption <;> exact K0) rfl ?_;(simp(maxSteps:=1000000) only[go_sem])) |((with_reducible refine gr_ ?_);refine D2o ev_ ev_ ev_ ev_ rfl rfl ns_ ns_ ns_ ?_;(simp(maxSteps:=1000000) only[go_sem])))
 all_goals rfl
def zB:cF:=⟨0,0,⟨⟨0,0⟩,0⟩,⟨0,0⟩,0,⟨0,0⟩,0,0,0,0,false,false,false,false,0,[]⟩
def A06(j:cG)(b:cF)(ib:Int)(s:List cE)(dt:Int):List Row:=
 let pq:=L9 j zB b
 let d:=O6 pq.2 pq.1
 let limit:=B7 j.dU dt
 if j.cS=5 then [D2p j b ib s dt limit pq.2 ⟨65536,0⟩ d.X j.cQ.I0,D2p j b ib s dt limit pq.2 ⟨0,65536⟩ d.Y j.cQ.I1]else []
theorem D5z(j:cG)(b:cF)(ib:Int)(s:List cE)(dt:Int)(hb: ∀f∈b.cK,f.Shape.cJ.length<=1048576):cA_ D5g [.agg j.enc, .agg b.enc,sI ib,A4 5 cE.enc dF_ s,sI dt] [] (A4 14 Row.enc dF_ (A06 j b ib s dt)) []:=by
 refine en1 hm A6 Tryz.func306 rfl rfl ?_;have h1:cA_ C15 [.agg j.enc, .agg [sI 0,sI 0,sI 0,sI 0,sI 0,sI 0,sI 0,sI 0,sI 0,sI 0,sI 0,sI 0,sI 0,sI 0,sB false,sB false,sB false,sB false,sI 0, .sc (.slice none 0 0)], .agg b.enc] [] (.tup [.agg (L9 j zB b).1.enc, .agg (L9 j zB b).2.enc]) []:=D5.args_le (A3g j zB b) ⟨J0.refl _,J0.agg ⟨J0.refl _,J0.refl _,J0.refl _,J0.refl _,J0.refl _,J0.refl _,J0.refl _,J0.refl _,J0.refl _,J0.refl _,J0.refl _,J0.refl _,J0.refl _,J0.refl _,J0.refl _,J0.refl _,J0.refl _,J0.refl _,J0.refl _,J0.nil,trivial⟩,J0.refl _,trivial⟩
 have:=L7
 have:=M2
 (simp(maxSteps:=1000000) only[go_sem])
 repeat' (first |((with_reducible refine And.intro ?_ ?_);focus (exact K0)) |((with_reducible refine it_ (λhc_=> ?_) (λhc_=> ?_)) <;> (have hd_:=hc_;try simp only[bne_iff_ne,ne_eq,Decidable.not_not]at hd_)) |(with_reducible refine gd_ ?_;with_reducible refine A0 (by apply_assumption <;> first |exact K0 |(apply_assumption <;> first |assumption |exact K0)) rfl ?_;(simp(maxSteps:=1000000) only[go_sem])))
 ·have e:A06 j b ib s dt= []:=by
   unfold A06;simp only;rw[if_neg (by simpa using hc_)]
  rw[e];exact G8 rfl
 ·have e:A06 j b ib s dt= [D2p j b ib s dt (B7 j.dU dt) (L9 j zB b).2 ⟨65536,0⟩ (O6 (L9 j zB b).2 (L9 j zB b).1).X j.cQ.I0,D2p j b ib s dt (B7 j.dU dt) (L9 j zB b).2 ⟨0,65536⟩ (O6 (L9 j zB b).2 (L9 j zB b).1).Y j.cQ.I1]:=by
   unfold A06;simp only;rw[if_pos (by simpa using hc_)]
  rw[e];clear h1;generalize L9 j zB b=pq at*;generalize B7 j.dU dt=limit at*;refine E3s [false,false,false,true,true,true,true,true,true,true] [(1,128),(2,96),(3,240),(4,208),(5,112),(6,144),(7,160)] (E1k j b ib s dt limit pq.2 ⟨65536,0⟩ (O6 pq.2 pq.1).X j.cQ.I0 hb) (by simp[wO]) (by simp[wO,go_sem,D3]) (by simp[wO,D3,AV.ids]) ?_;generalize D2p j b ib s dt limit pq.2 ⟨65536,0⟩ (O6 pq.2 pq.1).X j.cQ.I0=r1;simp only[wO,go_sem,go_sem_proc];refine⟨by decide,?_⟩;refine E3s [false,false,false,true,true,true,true,true,true,true] [(1,128),(2,96),(3,240),(4,208),(5,112),(6,144),(7,160)] (E1k j b ib s dt limit pq.2 ⟨0,65536⟩ (O6 pq.2 pq.1).Y j.cQ.I1 hb) (by simp[wO]) (by simp[wO,go_sem,D3]) (by simp[wO,D3,AV.ids]) ?_;generalize D2p j b ib s dt limit pq.2 ⟨0,65536⟩ (O6 pq.2 pq.1).Y j.cQ.I1=r2;simp only[wO,go_sem,go_sem_proc];exact H1 (λ_ _=>rfl) rfl rfl rfl
def L1(j:cG)(a:cF)(b:cF)(ia:Int)(ib:Int)(s:List cE)(dt:Int):(List Row):=if(j.cS==1)=true then(let v1:=(A24 j a b ia ib s dt);v1)else(if(j.cS==2)=true then(let v2:=(A6w j a b ia ib s dt);v2)else(if(j.cS==3)=true then(let v3:=(A5o j a b ia ib s dt);v3)else(if(j.cS==4)=true then(let v4:=(B16 j a b ia ib s dt);v4)else(if(j.cS==5)=true then(let v5:=(A06 j b ib s dt);v5)else(([]:List Row))))))
theorem A8r(j:cG)(a:cF)(b:cF)(ia:Int)(ib:Int)(s:List cE)(dt:Int)(ha: ∀f∈a.cK,f.Shape.cJ.length<=1048576)(hb: ∀f∈b.cK,f.Shape.cJ.length<=1048576):cA_ B97 [.agg j.enc, .agg a.enc, .agg b.enc,sI ia,sI ib,A4 5 cE.enc dF_ s,sI dt] [] (A4 14 Row.enc dF_ (L1 j a b ia ib s dt)) []:=by
 refine en1 hm A6 Tryz.func182 rfl rfl ?_;have:=C7s
 have:=E1e
 have:=D84
 have:=F0z
 have:=D5z
 have:=L1.eq_1 j a b ia ib s dt;exact K1
theorem F57(v l u:Int)(e:Bool)(i dt:Int)(r:Row): ∀x∈X2 v l u e i dt r,x.fM=i:=by
 unfold X2;simp only
 (repeat' split) <;> simp
theorem F58(j:cG)(r:Row)(dt:Int): ∀x∈Q9 j r dt,x.fM=j.cQ.I2:=by
 unfold Q9;simp only
 (repeat' split) <;> simp
theorem C7q(j:cG)(a b:cF)(ia ib:Int)(s:List cE)(dt:Int):(L1 j a b ia ib s dt).length<=4:=by
 have h1:=λv l u e i dt r=>D2a v l u e i dt r
 have h2:=λj r dt=>D2b j r dt;unfold L1;simp only
 (repeat' split)
 ·unfold A24;simp only;(repeat' split) <;> simp
 ·unfold A6w;simp only;split
  ·simp
  ·simp only[List.length_append,D2c];have:=h2 j (S6 ia ib s 0) dt
   have:=h1 (Z6 j a b) j.dN j.dS j.dE j.cQ.I3 dt (S6 ia ib s 0);omega
 ·unfold A5o;simp only;split
  ·simp
  ·simp only[List.length_append,List.length_cons,List.length_nil];have:=h2 j (A09 j a b ia ib (Z3 j a) s) dt
   have:=h1 (A3z j a b) j.dN j.dS j.dE j.cQ.I3 dt (A09 j a b ia ib (Z3 j a) s);omega
 ·unfold B16;simp only;split <;> simp
 ·unfold A06;simp only;split <;> simp
 ·simp
def B2t(j:cG)(i:Int):Prop:=i=j.cQ.I0\/i=j.cQ.I1\/i=j.cQ.I2\/i=j.cQ.I3
theorem F9p(j:cG)(a b:cF)(ia ib:Int)(s:List cE)(dt:Int): ∀r∈L1 j a b ia ib s dt,B2t j r.fM:=by
 have hp: ∀r∈X3 j a b ia ib s dt,B2t j r.fM:=by unfold X3;simp[B2t]
 have hl:=λv l u e dt r x h=>F57 v l u e j.cQ.I3 dt r x h
 have hm:=λr dt x h=>F58 j r dt x h;unfold L1;simp only
 (repeat' split)
 ·unfold A24;simp only;(repeat' split) <;> simp[B2t]
 ·unfold A6w;simp only;split
  ·simp
  ·intro r hr;simp only[List.mem_append]at hr;rcases hr with(hr |hr) |hr
   ·have:=hm _ _ _ hr;simp[B2t,this]
   ·have:=hl _ _ _ _ _ _ _ hr;simp[B2t,this]
   ·exact hp _ hr
 ·unfold A5o;simp only;split
  ·simp
  ·intro r hr;simp only[List.mem_append]at hr;rcases hr with(hr |hr) |hr
   ·have:=hm _ _ _ hr;simp[B2t,this]
   ·have:=hl _ _ _ _ _ _ _ hr;simp[B2t,this]
   ·simp at hr;rcases hr with hr |hr <;> simp[B2t,hr]
 ·unfold B16;simp only;split
  ·simp
  ·intro r hr;simp only[List.mem_append]at hr;rcases hr with hr |hr
   ·simp at hr;simp[B2t,hr]
   ·exact hp _ hr
 ·unfold A06 D2p;simp only;split <;> simp[B2t]
 ·simp
theorem D5q(j:cG)(a b:cF)(ia ib dt:Int)(ha: ∀f∈a.cK,f.Shape.cJ.length<=1048576)(hb: ∀f∈b.cK,f.Shape.cJ.length<=1048576):cA_ B97 [.agg j.enc, .agg a.enc, .agg b.enc,sI ia,sI ib, .sc (.slice none 0 0),sI dt] [] (A4 14 Row.enc dF_ (L1 j a b ia ib [] dt)) []:=D5.args_le (A8r j a b ia ib [] dt ha hb) ⟨J0.refl _,J0.refl _,J0.refl _,J0.refl _,J0.refl _,J0.nil,J0.refl _,trivial⟩
def T6(v1:(List Row))(i1:Nat)(s1:(List Int)):(List Int):=(s1++ [(v1.getD i1 dF_).fM])
def P1(j:cG)(a:cF)(b:cF):(List Int):=let v1:=(L1 (⟨j.ID,j.cS,j.cU,j.cV,j.dW,j.dR,j.eS,j.cX,j.dE,j.dN,j.dS,j.dH,j.dP,j.dU,j.dD,j.dI,j.dC,(⟨0,1,2,3⟩:Four)⟩:cG) a b 0 0 ([]:List cE) 65536);let s1:=itr (T6 v1) v1.length [];s1
theorem D5r(j:cG)(a:cF)(b:cF)(ha: ∀f∈a.cK,f.Shape.cJ.length<=1048576)(hb: ∀f∈b.cK,f.Shape.cJ.length<=1048576):cA_ D46 [.agg j.enc, .agg a.enc, .agg b.enc] [] (A4 1 C6 0 (P1 j a b)) []:=by
 refine en1 hm A6 Tryz.func192 rfl rfl ?_;have:=C7q (⟨j.ID,j.cS,j.cU,j.cV,j.dW,j.dR,j.eS,j.cX,j.dE,j.dN,j.dS,j.dH,j.dP,j.dU,j.dD,j.dI,j.dC,(⟨0,1,2,3⟩:Four)⟩:cG) a b 0 0 ([]:List cE) 65536
 have:=cx_ (D5q (⟨j.ID,j.cS,j.cU,j.cV,j.dW,j.dR,j.eS,j.cX,j.dE,j.dN,j.dS,j.dH,j.dP,j.dU,j.dD,j.dI,j.dC,(⟨0,1,2,3⟩:Four)⟩:cG) a b 0 0 65536 ha hb)
 have:=λx1 x2 x3 x4 x5 x6 x7 x8 x9 x10 x11 x12 x13 x14 x15 x16 x17 x18 x19 x20 x21 x22 x23 x24 x25 x26 x27 h0 h1=>cx_ (A8r ⟨x1,x2,x3,x4,⟨x5,x6⟩,⟨x7,x8⟩,⟨x9,x10⟩,x11,x12,x13,x14,x15,x16,x17,x18,x19,x20,x21⟩ x22 x23 x24 x25 x26 x27 h0 h1)
 have:=A8r
 have:=P1.eq_1 j a b
 have:=λi_ s_=>T6.eq_1 (L1 (⟨j.ID,j.cS,j.cU,j.cV,j.dW,j.dR,j.eS,j.cX,j.dE,j.dN,j.dS,j.dH,j.dP,j.dU,j.dD,j.dI,j.dC,(⟨0,1,2,3⟩:Four)⟩:cG) a b 0 0 ([]:List cE) 65536) i_ s_
 have:=λx_ Q_ σ_=> @lp_ Tryz.prog Tryz.f192.ntmps [] x_ Q_ σ_ hm (λ_=>True) (λi_=>((itr (T6 (L1 (⟨j.ID,j.cS,j.cU,j.cV,j.dW,j.dR,j.eS,j.cX,j.dE,j.dN,j.dS,j.dH,j.dP,j.dU,j.dD,j.dI,j.dC,(⟨0,1,2,3⟩:Four)⟩:cG) a b 0 0 ([]:List cE) 65536)) i_ [])).length<=0+1*i_) (L1 (⟨j.ID,j.cS,j.cU,j.cV,j.dW,j.dR,j.eS,j.cX,j.dE,j.dN,j.dS,j.dH,j.dP,j.dU,j.dD,j.dI,j.dC,(⟨0,1,2,3⟩:Four)⟩:cG) a b 0 0 ([]:List cE) 65536).length (λi_=> [(7,if i_=0 then .eZ else .cA, .sl 1007 0 (itr (T6 (L1 (⟨j.ID,j.cS,j.cU,j.cV,j.dW,j.dR,j.eS,j.cX,j.dE,j.dN,j.dS,j.dH,j.dP,j.dU,j.dD,j.dI,j.dC,(⟨0,1,2,3⟩:Four)⟩:cG) a b 0 0 ([]:List cE) 65536)) i_ []).length (itr (T6 (L1 (⟨j.ID,j.cS,j.cU,j.cV,j.dW,j.dR,j.eS,j.cX,j.dE,j.dN,j.dS,j.dH,j.dP,j.dU,j.dD,j.dI,j.dC,(⟨0,1,2,3⟩:Four)⟩:cG) a b 0 0 ([]:List cE) 65536)) i_ []).length),(15, .cA,A4 14 Row.enc dF_ (L1 (⟨j.ID,j.cS,j.cU,j.cV,j.dW,j.dR,j.eS,j.cX,j.dE,j.dN,j.dS,j.dH,j.dP,j.dU,j.dD,j.dI,j.dC,(⟨0,1,2,3⟩:Four)⟩:cG) a b 0 0 ([]:List cE) 65536)),(16, .cA,sI ((L1 (⟨j.ID,j.cS,j.cU,j.cV,j.dW,j.dR,j.eS,j.cX,j.dE,j.dN,j.dS,j.dH,j.dP,j.dU,j.dD,j.dI,j.dC,(⟨0,1,2,3⟩:Four)⟩:cG) a b 0 0 ([]:List cE) 65536).length:Int)),(17, .cA,sI (i_:Int))]) (λi_=> [(1007, .arr 1 (A9 C6 0 (itr (T6 (L1 (⟨j.ID,j.cS,j.cU,j.cV,j.dW,j.dR,j.eS,j.cX,j.dE,j.dN,j.dS,j.dH,j.dP,j.dU,j.dD,j.dI,j.dC,(⟨0,1,2,3⟩:Four)⟩:cG) a b 0 0 ([]:List cE) 65536)) i_ [])))]) [1007] trivial (λi_ hI_=>A87 (λs:(List Int)=>(s).length) 1 (λi s=>by(unfold T6;(repeat' split) <;> simp <;> omega)) i_ _) (by simp[go_sem]) (by simp[go_sem,D3]) (by simp[go_sem]);exact K1
@[simp] theorem F8u(r:Row)(bs:List cE)(p:Int):(Q0 r bs p).length=bs.length:=by
 unfold Q0;simp only
 (repeat' split) <;> simp
def A3w(rs:List Row)(i:Int):Int×Int:=if((decide (i<0))||(decide ((rs.length:Int)<=i)))=true then((0,0))else(if(((decide ((rs.getD i.toNat dF_).eN<0))||(decide ((rs.length:Int)<=(rs.getD i.toNat dF_).eN)))||((rs.getD i.toNat dF_).eN==i))=true then(((rs.getD i.toNat dF_).dN,(rs.getD i.toNat dF_).dS))else(let v1:=(B7 (rs.getD i.toNat dF_).eI (rs.getD (rs.getD i.toNat dF_).eN.toNat dF_).fM);((IntKind.i64.wrap (0-(if v1<0 then 0 else v1))),(if v1<0 then 0 else v1))))
theorem B5x(rs:List Row)(i:Int):cA_ C88 [A4 14 Row.enc dF_ rs,sI i] [] (.tup [sI ((A3w rs i).1),sI ((A3w rs i).2)]) []:=by
 refine enT hm A6 Tryz.func315 rfl rfl ?_;have:=M2
 have:=A3w.eq_1 rs i;exact K1
def P4(rs:List Row)(i:Int)(bs:List cE):(List Row)×(List cE):=let v1:=rs;if((decide (i<0))||(decide ((v1.length:Int)<=i)))=true then(let v2:=bs;(v1,v2))else(let v3:=(Y6 (v1.getD i.toNat dF_) bs);let v4:=(D1 v3 (v1.getD i.toNat dF_).fZ);let v5:=(B7 (v1.getD i.toNat dF_).dD (v1.getD i.toNat dF_).fM);let v6:=(D1 v4 v5);let v7:=(A3w rs i);let v8:=(B7 (v1.getD i.toNat dF_).eE v6);let v9:=(sat (sat (v1.getD i.toNat dF_).fM-sat v8));let v10:=(Q6 v9 v7.1 v7.2);let v11:=(sat (sat v10-sat (v1.getD i.toNat dF_).fM));let v12:=(Q0 (⟨(v1.getD i.toNat dF_).A,(v1.getD i.toNat dF_).B,(v1.getD i.toNat dF_).dF,(v1.getD i.toNat dF_).fO,(v1.getD i.toNat dF_).fN,(v1.getD i.toNat dF_).eE,(v1.getD i.toNat dF_).fZ,(v1.getD i.toNat dF_).dN,(v1.getD i.toNat dF_).dS,(v1.getD i.toNat dF_).dD,v10,(v1.getD i.toNat dF_).eN,(v1.getD i.toNat dF_).eI⟩:Row) bs v11);((v1.set i.toNat (⟨(v1.getD i.toNat dF_).A,(v1.getD i.toNat dF_).B,(v1.getD i.toNat dF_).dF,(v1.getD i.toNat dF_).fO,(v1.getD i.toNat dF_).fN,(v1.getD i.toNat dF_).eE,(v1.getD i.toNat dF_).fZ,(v1.getD i.toNat dF_).dN,(v1.getD i.toNat dF_).dS,(v1.getD i.toNat dF_).dD,v10,(v1.getD i.toNat dF_).eN,(v1.getD i.toNat dF_).eI⟩:Row)),v12))
theorem D2x(rs:List Row)(i:Int)(bs:List cE)(h0:bs.length<=1048576)(h1:rs.length<=1048576):cA_ D0l [A4 14 Row.enc dF_ rs,sI i,A4 5 cE.enc dF_ bs] [] (.tup [.sl 1 0 (P4 rs i bs).1.length (P4 rs i bs).1.length, .sl 2 0 (P4 rs i bs).2.length (P4 rs i bs).2.length]) [(1, .arr 14 (A9 Row.enc dF_ (P4 rs i bs).1)),(2, .arr 5 (A9 cE.enc dF_ (P4 rs i bs).2))]:=by
 refine A26 hm A6 Tryz.func318 rfl rfl ?_;have:=λx1 x2 x3 x4 x5 x6 x7 x8 x9 x10 x11 x12 x13 x14 x15 x16 h0=>cx_ (A5d ⟨x1,x2,⟨x3,x4⟩,x5,x6,x7,x8,x9,x10,x11,x12,x13,x14⟩ x15 x16 h0)
 have:=D3g
 have:=A9u
 have:=A7l
 have:=N2
 have:=M2
 have:=B5x
 have:=R3
 have:=A45
 have:=A5d
 have:=P4.eq_1 rs i bs;exact K1
@[simp] theorem G6v(rs:List Row)(i:Int)(bs:List cE):(P4 rs i bs).1.length=rs.length:=by
 unfold P4;simp only
 (repeat' split) <;> simp
@[simp] theorem G6w(rs:List Row)(i:Int)(bs:List cE):(P4 rs i bs).2.length=bs.length:=by
 unfold P4;simp only
 (repeat' split) <;> simp
def H0(rs:List Row):(List Row):=rs
theorem B81(rs:List Row)(h1:rs.length<=1048576):cA_ D5c [A4 14 Row.enc dF_ rs] [] (.sl 1 0 (H0 rs).length (H0 rs).length) [(1, .arr 14 (A9 Row.enc dF_ (H0 rs)))]:=by refine I7 hm A6 Tryz.func314 rfl rfl ?_;have:=H0.eq_1 rs;exact K1
def H2(bs:List cE):(List cE):=bs
theorem B52(bs:List cE)(h0:bs.length<=1048576):cA_ C9o [A4 5 cE.enc dF_ bs] [] (.sl 1 0 (H2 bs).length (H2 bs).length) [(1, .arr 5 (A9 cE.enc dF_ (H2 bs)))]:=by refine I7 hm A6 Tryz.func316 rfl rfl ?_;have:=H2.eq_1 bs;exact K1
@[simp] theorem C2m(rs:List Row):(H0 rs).length=rs.length:=by unfold H0;simp
@[simp] theorem C2l(bs:List cE):(H2 bs).length=bs.length:=by unfold H2;simp
def Q2(i1:Nat)(s1:(List Row)):(List Row):=let v2:=(A3w s1 (i1:Int));let v3:=(Q6 (s1.getD i1 dF_).fM v2.1 v2.2);(s1.set i1 (⟨(s1.getD i1 dF_).A,(s1.getD i1 dF_).B,(s1.getD i1 dF_).dF,(s1.getD i1 dF_).fO,(s1.getD i1 dF_).fN,(s1.getD i1 dF_).eE,(s1.getD i1 dF_).fZ,(s1.getD i1 dF_).dN,(s1.getD i1 dF_).dS,(s1.getD i1 dF_).dD,v3,(s1.getD i1 dF_).eN,(s1.getD i1 dF_).eI⟩:Row))
def D2(rs:List Row):(List Row):=let v1:=(H0 rs);let s1:=itr (Q2) v1.length v1;s1
theorem C4e(rs:List Row)(h1:rs.length<=1048576):cA_ C3k [A4 14 Row.enc dF_ rs] [] (.sl 1 0 (D2 rs).length (D2 rs).length) [(1, .arr 14 (A9 Row.enc dF_ (D2 rs)))]:=by
 refine I7 hm A6 Tryz.func184 rfl rfl ?_;have:=C2m rs
 have:=B81
 have:=B5x
 have:=A45
 have:=D2.eq_1 rs
 have:=λi_ s_=>Q2.eq_1 i_ s_
 have:=λx_ Q_ σ_=> @lp_ Tryz.prog Tryz.f184.ntmps [] x_ Q_ σ_ hm (λ_=>True) (λi_=>((itr (Q2) i_ (H0 rs))).length=(((H0 rs):(List Row))).length) (H0 rs).length (λi_=> [(0, .cA, .sl 128 0 (itr (Q2) i_ (H0 rs)).length (itr (Q2) i_ (H0 rs)).length),(9, .cA,sI ((H0 rs).length:Int)),(10, .cA,sI (i_:Int))]) (λi_=> [(128, .arr 14 (A9 Row.enc dF_ (itr (Q2) i_ (H0 rs))))]) [] trivial (λi_ hI_=>U1 (λs:(List Row)=>(s).length) (λi s=>by unfold Q2;(repeat' split) <;> simp) i_ _) (by simp[go_sem]) (by simp[go_sem,D3]) (by simp[go_sem]);exact K1
@[simp] theorem E38(rs:List Row):(D2 rs).length=rs.length:=by unfold D2;rw[<-C2m rs];exact U1 (λs:List Row=>s.length) (λi s=>by unfold Q2;simp) _ _
def V0(rs:List Row)(i1:Nat)(s1:(List cE)):(List cE):=let v2:=(Q0 (rs.getD i1 dF_) s1 (rs.getD i1 dF_).fM);v2
def K8(rs:List Row)(bs:List cE):(List cE):=let v1:=(H2 bs);let s1:=itr (V0 rs) rs.length v1;s1
theorem D3k(rs:List Row)(bs:List cE)(h0:bs.length<=1048576)(h1:rs.length<=1048576):cA_ D1d [A4 14 Row.enc dF_ rs,A4 5 cE.enc dF_ bs] [] (.sl 1 0 (K8 rs bs).length (K8 rs bs).length) [(1, .arr 5 (A9 cE.enc dF_ (K8 rs bs)))]:=by
 refine I7 hm A6 Tryz.func185 rfl rfl ?_;have:=C2l bs
 have:=B52
 have:=A5d
 have:=K8.eq_1 rs bs
 have:=λi_ s_=>V0.eq_1 rs i_ s_
 have:=λx_ Q_ σ_=> @lp_ Tryz.prog Tryz.f185.ntmps [] x_ Q_ σ_ hm (λ_=>True) (λi_=>((itr (V0 rs) i_ (H2 bs))).length=(((H2 bs):(List cE))).length) rs.length (λi_=> [(1, .cA, .sl 144 0 (itr (V0 rs) i_ (H2 bs)).length (itr (V0 rs) i_ (H2 bs)).length),(9, .cA,A4 14 Row.enc dF_ rs),(10, .cA,sI (rs.length:Int)),(11, .cA,sI (i_:Int))]) (λi_=> [(144, .arr 5 (A9 cE.enc dF_ (itr (V0 rs) i_ (H2 bs))))]) [] trivial (λi_ hI_=>U1 (λs:(List cE)=>(s).length) (λi s=>by unfold V0;(repeat' split) <;> simp) i_ _) (by simp[go_sem]) (by simp[go_sem,D3]) (by simp[go_sem]);exact K1
@[simp] theorem E8d(rs:List Row)(bs:List cE):(K8 rs bs).length=bs.length:=by unfold K8;rw[<-C2l bs];exact U1 (λs:List cE=>s.length) (λi s=>by unfold V0;simp) _ _
def M7(i1:Nat)(s1:(List Row)×(List cE)):(List Row)×(List cE):=let v3:=(P4 s1.1 (i1:Int) s1.2);(v3.1,v3.2)
def S8(rs:List Row)(bs:List cE):(List Row)×(List cE):=let v1:=(H0 rs);let v2:=(H2 bs);let s1:=itr (M7) v1.length (v1,v2);(s1.1,s1.2)
theorem D86(rs:List Row)(bs:List cE)(h0:bs.length<=1048576)(h1:rs.length<=1048576):cA_ D7b [A4 14 Row.enc dF_ rs,A4 5 cE.enc dF_ bs] [] (.tup [.sl 1 0 (S8 rs bs).1.length (S8 rs bs).1.length, .sl 2 0 (S8 rs bs).2.length (S8 rs bs).2.length]) [(1, .arr 14 (A9 Row.enc dF_ (S8 rs bs).1)),(2, .arr 5 (A9 cE.enc dF_ (S8 rs bs).2))]:=by
 refine A26 hm A6 Tryz.func187 rfl rfl ?_;have:=C2l bs
 have:=C2m rs
 have:=B81
 have:=B52
 have:=D2x
 have:=S8.eq_1 rs bs
 have:=λi_ s_=>M7.eq_1 i_ s_
 have:=λx_ Q_ σ_=> @lp_ Tryz.prog Tryz.f187.ntmps [] x_ Q_ σ_ hm (λ_=>True) (λi_=>((itr (M7) i_ ((H0 rs),(H2 bs))).1).length=((((H0 rs),(H2 bs)):(List Row)×(List cE)).1).length/\((itr (M7) i_ ((H0 rs),(H2 bs))).2).length=((((H0 rs),(H2 bs)):(List Row)×(List cE)).2).length) (H0 rs).length (λi_=> [(0, .cA, .sl 144 0 (itr (M7) i_ ((H0 rs),(H2 bs))).1.length (itr (M7) i_ ((H0 rs),(H2 bs))).1.length),(1, .cA, .sl 176 0 (itr (M7) i_ ((H0 rs),(H2 bs))).2.length (itr (M7) i_ ((H0 rs),(H2 bs))).2.length),(12, .cA,sI ((H0 rs).length:Int)),(13, .cA,sI (i_:Int))]) (λi_=> [(144, .arr 14 (A9 Row.enc dF_ (itr (M7) i_ ((H0 rs),(H2 bs))).1)),(176, .arr 5 (A9 cE.enc dF_ (itr (M7) i_ ((H0 rs),(H2 bs))).2))]) [] trivial (λi_ hI_=>⟨U1 (λs:(List Row)×(List cE)=>(s.1).length) (λi s=>by unfold M7;(repeat' split) <;> simp) i_ _,U1 (λs:(List Row)×(List cE)=>(s.2).length) (λi s=>by unfold M7;(repeat' split) <;> simp) i_ _⟩) (by simp[go_sem]) (by simp[go_sem,D3]) (by simp[go_sem]);exact K1
@[simp] theorem G8r(rs:List Row)(bs:List cE):(S8 rs bs).1.length=rs.length:=by unfold S8;rw[<-C2m rs];exact U1 (λs:List Row×List cE=>s.1.length) (λi s=>by unfold M7;simp) _ _
@[simp] theorem G8s(rs:List Row)(bs:List cE):(S8 rs bs).2.length=bs.length:=by unfold S8;rw[<-C2l bs];exact U1 (λs:List Row×List cE=>s.2.length) (λi s=>by unfold M7;simp) _ _
theorem E98(x low high:Int)(h:low<=high):low<=Q6 x low high/\Q6 x low high<=high:=by
 unfold Q6
 (repeat' split) <;> simp only[Bool.or_eq_true,decide_eq_true_eq,not_or]at* <;> omega
def M4(i1:Nat)(s1:(List Row)×(List cE)):(List Row)×(List cE):=let v4:=(S8 s1.1 s1.2);(v4.1,v4.2)
def A00(rs:List Row)(bs:List cE)(n:Int):(List Row)×(List cE):=let v1:=(D2 rs);let v2:=(K8 v1 bs);let v3:=(Q6 n 0 32);let s1:=itr (M4) v3.toNat (v1,v2);(s1.1,s1.2)
theorem E3m(rs:List Row)(bs:List cE)(n:Int)(h0:bs.length<=1048576)(h1:rs.length<=1048576):cA_ E19 [A4 14 Row.enc dF_ rs,A4 5 cE.enc dF_ bs,sI n] [] (.tup [.sl 1 0 (A00 rs bs n).1.length (A00 rs bs n).1.length, .sl 2 0 (A00 rs bs n).2.length (A00 rs bs n).2.length]) [(1, .arr 14 (A9 Row.enc dF_ (A00 rs bs n).1)),(2, .arr 5 (A9 cE.enc dF_ (A00 rs bs n).2))]:=by
 refine A26 hm A6 Tryz.func108 rfl rfl ?_;have:=E98 n 0 32 (by decide)
 have:=E38 rs
 have:=E8d (D2 rs) bs
 have:=C4e
 have:=D3k
 have:=A45
 have:=D86
 have:=A00.eq_1 rs bs n
 have:=λi_ s_=>M4.eq_1 i_ s_
 have:=λx_ Q_ σ_=> @lp_ Tryz.prog Tryz.f108.ntmps [] x_ Q_ σ_ hm (λ_=>True) (λi_=>((itr (M4) i_ ((D2 rs),(K8 (D2 rs) bs))).1).length=((((D2 rs),(K8 (D2 rs) bs)):(List Row)×(List cE)).1).length/\((itr (M4) i_ ((D2 rs),(K8 (D2 rs) bs))).2).length=((((D2 rs),(K8 (D2 rs) bs)):(List Row)×(List cE)).2).length) (Q6 n 0 32).toNat (λi_=> [(0, .cA, .sl 160 0 (itr (M4) i_ ((D2 rs),(K8 (D2 rs) bs))).1.length (itr (M4) i_ ((D2 rs),(K8 (D2 rs) bs))).1.length),(1, .cA, .sl 208 0 (itr (M4) i_ ((D2 rs),(K8 (D2 rs) bs))).2.length (itr (M4) i_ ((D2 rs),(K8 (D2 rs) bs))).2.length),(14, .cA,sI (Q6 n 0 32)),(15, .cA,sI (i_:Int))]) (λi_=> [(160, .arr 14 (A9 Row.enc dF_ (itr (M4) i_ ((D2 rs),(K8 (D2 rs) bs))).1)),(208, .arr 5 (A9 cE.enc dF_ (itr (M4) i_ ((D2 rs),(K8 (D2 rs) bs))).2))]) [] trivial (λi_ hI_=>⟨U1 (λs:(List Row)×(List cE)=>(s.1).length) (λi s=>by unfold M4;(repeat' split) <;> simp) i_ _,U1 (λs:(List Row)×(List cE)=>(s.2).length) (λi s=>by unfold M4;(repeat' split) <;> simp) i_ _⟩) (by simp[go_sem]) (by simp[go_sem,D3]) (by simp[go_sem]);exact K1
end Go.Abs
end
