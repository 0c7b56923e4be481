/- A part of the proof: contracts of functions that the statement reaches. -/
import Derived.Test.YtchcbiiammkhgaaGreatML
set_option linter.unusedSimpArgs false
set_option linter.unusedVariables false
set_option linter.unnecessarySimpa false
set_option maxRecDepth 100000
set_option maxHeartbeats 2000000
noncomputable section
namespace Go.Abs
open Go.Proofs
open Api
open Go.Sort
abbrev P2:=Int×Int
def p2E(p:P2):List AV:= [sI p.1,sI p.2]
attribute [go_sem] p2E
def G5r(x:P2):KEl 2:=⟨[x.1,x.2],rfl⟩
def F9i(y:KEl 2):P2:=(y.1.getD 0 0,y.1.getD 1 0)
theorem F9j: ∀y:KEl 2,kav y=p2E (F9i y)
 |⟨[a,b],_⟩=>rfl
def D4l(a b:P2):Int:=B8m [Prod.fst,Prod.snd] a b
def D2l(l:List P2):List P2:=B2m G5r F9i D4l l
theorem E0u(l:List P2):(D2l l).length=l.length:=B8w (B0o _) l
theorem D3b(a b:P2):cA_ B69 [.agg (p2E a), .agg (p2E b)] [] (sI (D4l a b)) []:=by
 have e:D4l a b=A1p [J9 a.1 b.1,J9 a.2 b.2]:=by rw[G5o,C2d,C2d];simp only[D4l,B8m];by_cases h:C0h a.2 b.2=0 <;> simp[h]
 rw[e];refine en1 hm A6 Tryz.func369 rfl rfl (st_ ?_);refine⟨bE_,bE_,?_⟩;refine A0 (A07 a.1 b.1) rfl (st_ ?_);refine⟨bE_,bE_,?_⟩;refine A0 (A07 a.2 b.2) rfl (st_ ?_);refine O7 (C05 [J9 a.1 b.1,J9 a.2 b.2] (by simp)) ?_;simp only[S3,go_sem,go_sem_proc];exact H1 (λ_ _=>rfl) rfl rfl rfl
theorem E1g(l:List cN):cA_ D9s [A4 5 cN.enc dF_ l] [] (.fn (.func A90) [] [.cW [A4 5 cN.enc dF_ l]]) []:=by refine en1 hm A6 Tryz.func366 rfl rfl ?_;simp only[go_sem,go_sem_proc,A3e]
theorem C74(id:Nat)(l:List P2)(hl:l.length<4611686018427387904):
  cA_ C1o [.sl id 0 l.length l.length, .fn (.func B69) [] []] [(id, .arr 2 (A9 p2E dF_ l))] (.tup []) [(id, .arr 2 (A9 p2E dF_ (D2l l)))]:=
 E3n (toK:=G5r) (fromK:=F9i) (cf:=D4l) Tryz.laySF_2_int (by decide) (by kernel_rfl) (λw=>Z0 (by kernel_rfl)) (λw=>T8 (by kernel_rfl)) dF_ rfl (λx=>rfl) F9j (B0o _) (λargs w=>A76 (by kernel_rfl) args)
  D3b id l hl
def pr1(p:cN×cN):Option P2:=if A23 p.1.eT p.2.eT=true then some ((if p.2.ID<p.1.ID then p.2.ID else p.1.ID),(if p.1.ID<p.2.ID then p.2.ID else p.1.ID))else none
def C5f(l:List cN):List P2:=(C3x (A71 (A46 l))).filterMap pr1
def B19(l:List cN):List P2:=D2l (C5f l)
def prO(v:List P2):List (Nat×A7):= [(64, .box [.sl 1 0 v.length v.length]),(1, .arr 2 (A9 p2E dF_ v))]
theorem F84(l:List cN):(C3x l).length<=l.length*l.length:=by
 have h: ∀i,(nbP l i).length<=i*l.length:=by
  intro i;induction i with
  |zero=>simp[nbP]
  |succ i ih=>
   have h1:(nbI (l.getD i dF_) (l.drop (i+1))).length<=l.length:=by unfold nbI;rw[List.length_map];have:=List.IsPrefix.length_le (List.takeWhile_prefix (B6i (l.getD i dF_)) (l:=l.drop (i+1)));rw[List.length_drop]at this;omega
   rw[nbP,List.length_append,Nat.succ_mul];omega
 exact h l.length
theorem E0w(l:List cN)(hl:l.length<=480):(C5f l).length<=230400/\(C3x (A71 (A46 l))).length<=230400:=by
 have h1:=F84 (A71 (A46 l));rw[C6z]at h1;have h2:=D88 l
 have h3:(A46 l).length*(A46 l).length<=480*480:=Nat.mul_le_mul (by omega) (by omega)
 have h4:(C5f l).length<=(C3x (A71 (A46 l))).length:=List.length_filterMap_le ..;omega
theorem F0w(l:List cN)(hl:l.length<=480):cA_ E9x [A4 5 cN.enc dF_ l] [] (A4 2 p2E dF_ (B19 l)) []:=by
 have hlen:=E0w l hl;refine G7q (avs:= [A4 5 cN.enc dF_ l]) (rs:= [A4 2 p2E dF_ (B19 l)]) (cN×cN) 33 [(2,none)] [9,10] A6 Tryz.func243 rfl rfl rfl rfl rfl rfl rfl rfl rfl rfl rfl rfl (by decide) (by decide) (Nat.le_of_ble_eq_true rfl) (st_ ?_);refine A0 (F4r l (by omega)) rfl (st_ ?_);refine A0 (E1g (A71 (A46 l))) rfl (st_ ?_);refine⟨A90,[.cW [A4 5 cN.enc dF_ (A71 (A46 l))]],[(3, .cA, .ptr 64 0 0 1)],λpre=>prO (pre.filterMap pr1),F4f,C3x (A71 (A46 l)),rfl,rfl,by kernel_rfl,?_,?_,λ_=>rfl,E77 _ (by rw[C6z];have:=D88 l;omega),?_,?_⟩
 ·simp only[List.filterMap_nil,prO];refine B0 [] [1] ?_;simp only[go_sem,go_sem_proc]
 ·intro pre id o h;have:=A0p (by simp[prO]) h;simp only[prO,List.mem_cons,List.not_mem_nil,or_false,Prod.mk.injEq]at this;rcases this with⟨_,rfl⟩ |⟨_,rfl⟩
  ·exact⟨rfl,rfl⟩
  ·exact⟨λ_ _=>rfl,rfl⟩
 ·intro pre x hx;refine G3a ?_;have hv:(pre.filterMap pr1).length<=pre.length:=List.length_filterMap_le ..
  have hn:(pre++ [x]).filterMap pr1=pre.filterMap pr1++(pr1 x).toList:=by rw[List.filterMap_append];congr 1
  rw[hn,show pr1 x=if A23 x.1.eT x.2.eT=true then some ((if x.2.ID<x.1.ID then x.2.ID else x.1.ID),(if x.1.ID<x.2.ID then x.2.ID else x.1.ID))else none from rfl];generalize pre.filterMap pr1=v at hv;simp only[go_sem,go_sem_proc,psS,F4f,prO];refine A0 (C2t x.1.eT x.2.eT) rfl ?_;generalize A23 x.1.eT x.2.eT=ok;cases ok with
  |false=>rw[if_neg (by simp)];simp only[go_sem,go_sem_proc,Option.toList,List.append_nil];simp only[prO];refine B0 [] [] ?_;simp only[go_sem,go_sem_proc]
  |true=>rw[if_pos rfl];simp only[go_sem,go_sem_proc,Option.toList];refine⟨bE_,?_⟩;simp only[prO];refine B0 [] [] (st_ ?_);exact eE_
 ·refine G3b ?_;rw[show(C3x (A71 (A46 l))).filterMap pr1=C5f l from rfl];unfold B19;generalize C5f l=u at hlen;simp only[go_sem,go_sem_proc,prO];refine M1 (C74 1 u (by omega)) (by simp[okO]) (by simp[okO]) (by simp) (by simp[upd]) (by simp) ?_ rfl ?_
  ·intro a ha j hj;obtain⟨k,hk⟩:=List.getElem?_of_mem ha;have:=P6 hk j hj;simp[F0,AV.ids]at this;subst this;rfl
  refine st_ ?_;have hs:=E0u u;generalize D2l u=q at hs;refine B6 [.eQ] [] [] (st_ ?_);rw[hs];exact⟨rfl,D0 _⟩
end Go.Abs
end
noncomputable section
namespace Go.Abs
open Go.Proofs
open Api
abbrev B33:=H8
def scE(l:List cF)(r:List B33):List cN:=r.zipIdx.map λp=>⟨(p.2:Nat),(A2n (l.getD p.1.body.toNat dF_) p.1.fixture).eT⟩
theorem D4o(l:List cF)(r:List B33):(scE l r).length=r.length:=by simp[scE]
theorem G3g(l:List cF)(r:List B33)(x:B33):scE l (r++ [x])=scE l r++ [⟨(r.length:Nat),(A2n (l.getD x.body.toNat dF_) x.fixture).eT⟩]:=by simp[scE,List.zipIdx_append]
theorem G56 {l:List cF}{r:List B33}{x:cN}(h:x∈scE l r):0<=x.ID/\x.ID<r.length:=by
 simp only[scE,List.mem_map]at h;obtain⟨p,hp,rfl⟩:=h;have:=List.mem_zipIdx hp;simp at this;constructor
 ·show(0:Int)<=(p.2:Nat);omega
 ·show((p.2:Nat):Int)<r.length;omega
def sc1(k i:Nat)(r:List B33):List B33:=r++(List.range i).map λj=>⟨(k:Nat),(j:Nat)⟩
theorem F9u(k i:Nat)(r:List B33):sc1 k (i+1) r=sc1 k i r++ [⟨(k:Nat),(i:Nat)⟩]:=by simp[sc1,List.range_succ]
theorem F2l(k i:Nat)(r:List B33):(sc1 k i r).length=r.length+i:=by simp[sc1]
def scS(l:List cF)(k:Nat)(s:List B33×List Int):List B33×List Int:=if(s.2.any λy=>(l.getD k dF_).ID==y)=true then s else(sc1 k (l.getD k dF_).cK.length s.1,s.2++ [(l.getD k dF_).ID])
def scF(l:List cF)(n:Nat):List B33×List Int:=itr (scS l) n ([],[])
def scR(l:List cF):List B33:=(scF l l.length).1
def G0b(l:List cF)(x:B33):Prop:=0<=x.body/\x.body<l.length/\0<=x.fixture/\x.fixture<(l.getD x.body.toNat dF_).cK.length
theorem E85(l:List cF)(hq: ∀b∈l,b.cK.length<=8): ∀n,n<=l.length->(∀x∈(scF l n).1,G0b l x)/\(scF l n).1.length<=8*n
 |0,_=>⟨λx hx=>by simp[scF,J3]at hx,by simp[scF,J3]⟩
 |n+1,h=>by
  have ih:=E85 l hq n (by omega)
  have hb:=hq _ (B8 dF_ (show n<l.length by omega));rw[show scF l (n+1)=scS l n (scF l n)from H6 ..];generalize scF l n=s at ih⊢;unfold scS;split
  ·exact⟨ih.1,by omega⟩
  ·refine⟨λx hx=> ?_,by show(sc1 _ _ _).length<=_;rw[F2l];omega⟩;simp only[sc1,List.mem_append,List.mem_map,List.mem_range]at hx;rcases hx with hx |⟨j,hj,rfl⟩
   ·exact ih.1 x hx
   ·refine⟨by show(0:Int)<=(n:Nat);omega,by show((n:Nat):Int)<_;omega,by show(0:Int)<=(j:Nat);omega,?_⟩;show((j:Nat):Int)<((l.getD ((n:Nat):Int).toNat dF_).cK.length:Int);rw[Int.toNat_natCast];omega
theorem F64 {l:List cF}(hq: ∀b∈l,b.cK.length<=8):(∀x∈scR l,G0b l x)/\(scR l).length<=8*l.length:=E85 l hq l.length (Nat.le_refl _)
def A79(l:List cF)(js:List cG):eX:=⟨l,js,scR l,scE l (scR l)⟩
theorem C5j(l:List cF)(js:List cG)(hl:l.length<=60)(hq: ∀b∈l,b.cK.length<=8)(hv: ∀b∈l,∀f∈b.cK,f.Shape.cJ.length<=1048576):cA_ C4n [A4 20 cF.enc dF_ l,A4 24 cG.enc dF_ js] [] (.agg (A79 l js).enc) []:=by
 refine M3 58 [(4,some (some 4))] hm A6 Tryz.func242 rfl (st_ ?_);refine B1 hm (ι:= {i:Nat // i<=l.length}) (λi=> [(4, .cA, .ptr 80 0 0 1),(5, .cA, .ptr 96 0 0 1),(6, .cA, .mp 3),(14, .cA,A4 20 cF.enc dF_ l),(15, .cA,sI l.length),(16, .cA,sI (i.1:Nat))]) (λi=> [(80, .box [.sc (.slice none 0 0), .sc (.slice none 0 0), .sc (.slice none 0 0), .sc (.slice none 0 0)]),(96, .box [A4 20 cF.enc dF_ l,A4 24 cG.enc dF_ js, .sl 1 0 (scF l i.1).1.length (scF l i.1).1.length, .sl 2 0 (scE l (scF l i.1).1).length (scE l (scF l i.1).1).length]),(1, .arr 2 (A9 H8.enc dF_ (scF l i.1).1)),(2, .arr 5 (A9 cN.enc dF_ (scE l (scF l i.1).1))),(3, .map .i64 (D2f id (scF l i.1).2))]) (λi=>l.length-i.1) ⟨0,Nat.zero_le _⟩ ?_ ?_
 ·simp only[show scF l 0=([],[])from rfl,show scE l []= []from rfl];refine B0 [(3,224)] [1,2] (st_ ?_);exact eE_
 ·rintro⟨i,hi⟩;dsimp only;have hok:=E85 l hq i hi
  have hn:scF l (i+1)=scS l i (scF l i):=H6 ..
  have hfin:l.length<=i->(scF l i).1=scR l:=λh=>by rw[show i=l.length by omega];rfl
  generalize scF l i=s at hn hfin hok⊢;obtain⟨r,m⟩:=s;dsimp only at hok hfin⊢;have hlE:=D4o l r
  have hg:=D8l id (l.getD i dF_).ID m;unfold scS at hn;dsimp only at hn;simp only[id]at hg;by_cases hlt:i<l.length;rotate_left
  ·refine st_ ?_;rw[if_neg (by omega),hfin (by omega)];exact⟨D0 _,D0 _,D0 _,D0 _⟩
  have hbm:=B8 (l:=l) dF_ hlt
  have hqb:=hq _ hbm
  have hvb:=hv _ hbm;cases hmm:m.any λy=>(l.getD i dF_).ID==y with
  |true=>rw[hmm]at hg;simp only[cond_true]at hg;rw[hmm,if_pos rfl]at hn;simp only[go_sem,go_sem_proc,hg,Option.getD_some];rw[if_pos (by omega)];refine⟨bE_,?_⟩;refine A8 ⟨i+1,by omega⟩ (by show l.length-(i+1)<l.length-i;omega) ?_;simp only[hn];refine B0 [] [] (st_ ?_);exact eE_
  |false=>
   rw[hmm]at hg;simp only[cond_false]at hg;rw[hmm,if_neg (by simp)]at hn;simp only[go_sem,go_sem_proc,hg,Option.getD_none,D4r];rw[if_pos (by omega)];refine⟨bE_,?_⟩;generalize hbd:l.getD i dF_=b at hbm hqb hvb hn hmm⊢;have h0:sc1 i 0 r=r:=by simp[sc1]
   refine B1 hm (ι:= {j:Nat // j<=b.cK.length}) (λj=> [(4, .cA, .ptr 80 0 0 1),(5, .cA, .ptr 96 0 0 1),(6, .cA, .mp 3),(14, .cA,A4 20 cF.enc dF_ l),(15, .cA,sI l.length),(16, .cA,sI (i:Nat)),(7, .cA,sI (i:Nat)),(8, .eQ, .cW b.enc),(30, .cA,sI b.cK.length),(31, .cA,sI (j.1:Nat))]) (λj=> [(80, .box [.sc (.slice none 0 0), .sc (.slice none 0 0), .sc (.slice none 0 0), .sc (.slice none 0 0)]),(96, .box [A4 20 cF.enc dF_ l,A4 24 cG.enc dF_ js, .sl 1 0 (sc1 i j.1 r).length (sc1 i j.1 r).length, .sl 2 0 (scE l (sc1 i j.1 r)).length (scE l (sc1 i j.1 r)).length]),(1, .arr 2 (A9 H8.enc dF_ (sc1 i j.1 r))),(2, .arr 5 (A9 cN.enc dF_ (scE l (sc1 i j.1 r)))),(3, .map .i64 (D2f id (m++ [b.ID])))]) (λj=>b.cK.length-j.1) ⟨0,Nat.zero_le _⟩ ?_ ?_
   ·simp only[h0,<-D8m id b.ID m hmm];refine B0 [] [] ?_;simp only[go_sem,go_sem_proc,A3e];exact eE_
   ·rintro⟨j,hj⟩;dsimp only;have hr1:sc1 i (j+1) r=sc1 i j r++ [⟨(i:Nat),(j:Nat)⟩]:=F9u ..
    have hE1:scE l (sc1 i (j+1) r)=scE l (sc1 i j r)++ [⟨((sc1 i j r).length:Nat),(A2n b (j:Nat)).eT⟩]:=by rw[hr1,G3g];show _++ [(⟨_,(A2n (l.getD ((i:Nat):Int).toNat dF_) (j:Nat)).eT⟩:cN)]=_;rw[Int.toNat_natCast,hbd]
    have hl1:(sc1 i j r).length=r.length+j:=F2l ..
    have hl2:=D4o l (sc1 i j r)
    have hfin2:b.cK.length<=j->sc1 i j r=sc1 i b.cK.length r:=λh=>by rw[show j=b.cK.length by omega]
    generalize sc1 i j r=u at hr1 hE1 hl1 hl2 hfin2⊢;generalize he:scE l u=e at hE1 hl2⊢;refine st_ ?_;by_cases hlt2:j<b.cK.length
    ·rw[if_pos (by omega)];refine A0 (D2u b (j:Nat) ⟨by omega,by omega⟩ hvb) rfl (st_ ?_);refine⟨bE_,bE_,?_⟩;refine A8 ⟨j+1,by omega⟩ (by show b.cK.length-(j+1)<b.cK.length-j;omega) ?_;simp only[hE1];simp only[hr1];refine B0 [] [] (st_ ?_);exact eE_
    ·rw[if_neg (by omega)];refine A8 ⟨i+1,by omega⟩ (by show l.length-(i+1)<l.length-i;omega) ?_;simp only[hn];rw[<-hfin2 (by omega),he];refine B0 [] [] (st_ ?_);exact eE_
end Go.Abs
end
noncomputable section
namespace Go.Abs
open Go.Proofs
open Api
open Go.Sort
theorem G8j(a b c d:Int):A1p [a,b,c,d]=if a≠0 then a else if b≠0 then b else if c≠0 then c else d:=by unfold A1p;simp only[List.length_cons,List.length_nil,Nat.zero_add,Nat.reduceAdd,J8,A6r];by_cases ha:a=0 <;> by_cases hb:b=0 <;> by_cases hc:c=0 <;> by_cases hd:d=0 <;> simp[ha,hb,hc,hd]
def E56(a b:cR):Int:=B8m [cR.cU,cR.dM,cR.cV,cR.dK] a b
theorem G6o(a b:cR):A1z a b=E56 a b:=by unfold A1z E56;dsimp only;rw[G8j,C2d,C2d,C2d,C2d];simp only[B8m];by_cases h:C0h a.dK b.dK=0 <;> simp[h]
def G53(x:cR):KEl 4:=⟨[x.cU,x.dM,x.cV,x.dK],rfl⟩
def F9k(y:KEl 4):cR:=⟨y.1.getD 0 0,y.1.getD 1 0,y.1.getD 2 0,y.1.getD 3 0⟩
theorem F9l: ∀y:KEl 4,kav y=(F9k y).enc
 |⟨[a,b,c,d],_⟩=>rfl
def E8p(l:List cR):List cR:=B2m G53 F9k E56 l
theorem E0x(l:List cR):(E8p l).length=l.length:=B8w (B0o _) l
theorem B9t(id:Nat)(l:List cR)(hl:l.length<4611686018427387904):
  cA_ B9a [.sl id 0 l.length l.length, .fn (.func B34) [] []] [(id, .arr 4 (A9 cR.enc dF_ l))] (.tup []) [(id, .arr 4 (A9 cR.enc dF_ (E8p l)))]:=
 E3n (toK:=G53) (fromK:=F9k) (cf:=E56) Tryz.laySF_PairKey (by decide) (by kernel_rfl) (λw=>Z0 (by kernel_rfl)) (λw=>T8 (by kernel_rfl)) dF_ rfl (λx=>rfl) F9l (B0o _) (λargs w=>A76 (by kernel_rfl) args)
  (λx y=>by have:=B42 x y;rwa[G6o]at this) id l hl
theorem F17(l:List cN): ∀i,i<=l.length-> ∀p∈nbP l i,p.1∈l/\p.2∈l
 |0,_,p,hp=>by simp[nbP]at hp
 |i+1,h,p,hp=>by
  rw[nbP,List.mem_append]at hp;rcases hp with hp |hp
  ·exact F17 l i (by omega) p hp
  ·unfold nbI at hp;obtain⟨b,hb,rfl⟩:=List.mem_map.1 hp;exact⟨B8 dF_ (by omega),List.mem_of_mem_drop ((List.takeWhile_prefix (B6i (l.getD i dF_))).subset hb)⟩
theorem F6s {l:List cN}{n:Int}(h: ∀x∈l,0<=x.ID/\x.ID<n): ∀p∈B19 l,(0<=p.1/\p.1<n)/\0<=p.2/\p.2<n:=by
 intro p hp;unfold B19 D2l at hp;rw[E1n (show SWO (ltOf D4l)from B0o _) (λ_=>rfl)]at hp;unfold C5f at hp;obtain⟨q,hq,e⟩:=List.mem_filterMap.1 hp;have hm:=F17 _ _ (Nat.le_refl _) q hq
 have hs: ∀x∈A71 (A46 l),0<=x.ID/\x.ID<n:=λx hx=>by
  unfold A71 at hx;rw[E1n (show SWO (ltOf F3u)from B0o _) (λ_=>rfl)]at hx;rcases E84 l [] x hx with h1 |h1
  ·cases h1
  ·exact h x h1
 have h1:=hs _ hm.1
 have h2:=hs _ hm.2;unfold pr1 at e;split at e
 ·injection e with e;subst e;dsimp only;split <;> split <;> omega
 ·cases e
def B2r(s:eX)(p:P2):Option cR:=if A0w s (s.refs.getD p.1.toNat dF_) (s.refs.getD p.2.toNat dF_)=true then some (A4f s (s.refs.getD p.1.toNat dF_) (s.refs.getD p.2.toNat dF_))else none
def fpU(l:List cF)(js:List cG):List cR:=(B19 (A79 l js).entries).filterMap (B2r (A79 l js))
def fpL(l:List cF)(js:List cG):List cR:=E8p (fpU l js)
theorem E0v(l:List cN)(hl:l.length<=480):(B19 l).length<=230400:=by unfold B19;rw[E0u];exact(E0w l hl).1
theorem D38(l:List cF)(js:List cG)(hl:l.length<=60)(hq: ∀b∈l,b.cK.length<=8):(fpL l js).length<=230400:=by
 unfold fpL;rw[E0x];have h1:(fpU l js).length<=(B19 (A79 l js).entries).length:=List.length_filterMap_le ..
 have h2:=(F64 hq).2
 have h3:=E0v (A79 l js).entries (by show(scE l (scR l)).length<=_;rw[D4o];omega);omega
theorem B2d(l:List cF)(js:List cG)(hl:l.length<=60)(hq: ∀b∈l,b.cK.length<=8)(hv: ∀b∈l,∀f∈b.cK,f.Shape.cJ.length<=1048576)(hj:js.length<=1048576):cA_ C22 [A4 20 cF.enc dF_ l,A4 24 cG.enc dF_ js] [] (A4 4 cR.enc dF_ (fpL l js)) []:=by
 have hS:=C5j l js hl hq hv
 have hR:=F64 hq
 have hP:=F6s (l:=(A79 l js).entries) (n:=(scR l).length) (λx hx=>G56 hx)
 have hle:(A79 l js).entries.length<=480:=by show(scE l (scR l)).length<=_;rw[D4o];omega
 have hlen:=E0v _ hle
 have hC:=F0w _ hle
 have hrefs:(A79 l js).refs=scR l:=rfl
 have hbod:(A79 l js).bodies=l:=rfl
 have hjs:(A79 l js).joints=js:=rfl;unfold fpL fpU;generalize A79 l js=s at hS hP hlen hC hrefs hbod hjs⊢;generalize hps:B19 s.entries=ps at hP hlen hC⊢;refine en1 hm A6 Tryz.func153 rfl rfl (st_ ?_);refine A0 hS rfl (st_ ?_);refine A0 hC rfl (st_ ?_);refine B1 hm (ι:= {i:Nat // i<=ps.length}) (λi=> [(5, .cA, .ptr 96 0 0 1),(6,mdA i.1, .sl 1 0 ((ps.take i.1).filterMap (B2r s)).length ((ps.take i.1).filterMap (B2r s)).length),(16, .cA,A4 2 p2E dF_ ps),(17, .cA,sI ps.length),(18, .cA,sI (i.1:Nat))]) (λi=> [(96, .box s.enc),(1, .arr 4 (A9 cR.enc dF_ ((ps.take i.1).filterMap (B2r s))))]) (λi=>ps.length-i.1) ⟨0,Nat.zero_le _⟩ ?_ ?_
 ·simp only[List.take_zero,List.filterMap_nil];refine B0 [] [1] ?_;simp only[go_sem,go_sem_proc]
 ·rintro⟨i,hi⟩;dsimp only;have hn:i<ps.length->(ps.take (i+1)).filterMap (B2r s)=(ps.take i).filterMap (B2r s)++(B2r s (ps.getD i dF_)).toList:=λh=>C5a h
  have hfin:ps.length<=i->(ps.take i).filterMap (B2r s)=ps.filterMap (B2r s):=λh=>by rw[show i=ps.length by omega,List.take_length]
  have hln:=D12 (f:=B2r s) (l:=ps) i;generalize(ps.take i).filterMap (B2r s)=v at hn hfin hln⊢;refine st_ ?_;by_cases hlt:i<ps.length;rotate_left
  ·rw[if_neg (by omega)];refine M1 (B9t 1 v (by omega)) (by simp[okO]) (by simp[okO]) (by simp) (by simp[upd]) (by simp) ?_ rfl ?_
   ·intro a ha j hj;obtain⟨k,hk⟩:=List.getElem?_of_mem ha;have:=P6 hk j hj;simp[F0,AV.ids]at this;subst this;rfl
   refine st_ ?_;rw[<-hfin (by omega)];rw[E0x];exact⟨rfl,D0 _⟩
  rw[if_pos (by omega)];replace hn:=hn hlt;have hp:=hP _ (B8 (l:=ps) dF_ hlt);rw[show B2r s (ps.getD i dF_)=if A0w s (s.refs.getD (ps.getD i dF_).1.toNat dF_) (s.refs.getD (ps.getD i dF_).2.toNat dF_)=true then some (A4f s (s.refs.getD (ps.getD i dF_).1.toNat dF_) (s.refs.getD (ps.getD i dF_).2.toNat dF_))else none from rfl]at hn;generalize ps.getD i dF_=p at hn hp⊢;obtain⟨p1,p2⟩:=p;dsimp only at hp hn;have hx:=hR.1 _ (B8 (l:=scR l) (i:=p1.toNat) dF_ (by omega))
  have hy:=hR.1 _ (B8 (l:=scR l) (i:=p2.toNat) dF_ (by omega));rw[<-hrefs]at hx hy;have hxl:p1.toNat<s.refs.length:=by rw[hrefs];omega
  have hyl:p2.toNat<s.refs.length:=by rw[hrefs];omega
  generalize s.refs.getD p1.toNat dF_=x at hx hn⊢;generalize s.refs.getD p2.toNat dF_=y at hy hn⊢;obtain⟨x1,x2,x3,x4⟩:=hx;obtain⟨y1,y2,y3,y4⟩:=hy;refine⟨bE_,bE_,by dsimp only;omega,bE_,by dsimp only;omega,?_⟩;have bx:0<=x.body/\x.body<s.bodies.length:=⟨x1,by rw[hbod];exact x2⟩
  have by':0<=y.body/\y.body<s.bodies.length:=⟨y1,by rw[hbod];exact y2⟩;refine A0 (B8r s x y bx by' ⟨x3,by rw[hbod];exact x4⟩ ⟨y3,by rw[hbod];exact y4⟩ (by rw[hjs];exact hj)) rfl ?_;generalize A0w s x y=ok at hn⊢;cases ok with
  |false=>rw[if_neg (by simp)]at hn;simp only[Option.toList,List.append_nil]at hn;refine st_ ?_;refine A8 ⟨i+1,by omega⟩ (by show ps.length-(i+1)<ps.length-i;omega) ?_;simp only[hn];refine B0 [] [] (st_ ?_);exact eE_
  |true=>rw[if_pos rfl]at hn;simp only[Option.toList]at hn;refine st_ ?_;refine A0 (C33 s x y bx by') rfl (st_ ?_);refine⟨bE_,?_⟩;refine A8 ⟨i+1,by omega⟩ (by show ps.length-(i+1)<ps.length-i;omega) ?_;simp only[hn];refine B0 [] [] (st_ ?_);exact eE_
end Go.Abs
end
noncomputable section
namespace Go.Abs
open Go.Proofs
open Api
theorem F6v(a b:dG):(V2 a b).1.cP.length<=2:=by
 unfold V2;dsimp only;split
 ·exact Nat.zero_le _
 ·exact Nat.le_succ_of_le (D7l ..)
theorem E8q(a b:dG):(J7 a b).1.cP.length<=2:=by
 unfold J7;dsimp only;generalize(if 0<(D9 a.core b.core).2 then T7 (O6 (b.core.getD 0 dF_) (Y4 a.core (b.core.getD 0 dF_))) (Q4 a.core (D9 a.core b.core).1)else(Q4 a.core (D9 a.core b.core).1,(D9 a.core b.core).2))=dl;split
 ·exact Nat.zero_le _
 ·exact Nat.le_succ_of_le (D7l ..)
theorem F1k(a b:dG)(i:Int):(clL a b i).length<=2:=Nat.le_trans (D4c a b i _) (D4d a b i)
theorem F75(a b:dG)(i:Int):(D3v a b i).1.cP.length<=2:=by
 unfold D3v;split
 ·exact Nat.zero_le _
 ·exact F1k a b i
theorem E72(m:cL)(ok:Bool)(h:m.cP.length<=2):(X1 m ok).1.cP.length<=2:=by
 unfold X1;split
 ·exact Nat.zero_le _
 ·exact h
theorem F5p(a b:dG):(N0 a b).1.cP.length<=2:=by
 unfold N0;dsimp only;generalize D9 a.core b.core=p;generalize D9 b.core a.core=q;generalize(if p.2<q.2 then q.2 else p.2)=mx;split
 ·exact Nat.zero_le _
 split
 ·exact F75 ..
 split
 ·exact Nat.zero_le _
 ·refine E72 _ _ ?_;show(E7h _).length<=2;rw[show(E7h (clL b a q.1)).length=(clL b a q.1).length from U1 (λs:List cO=>s.length) (λi s=>by simp) _ _];exact F1k ..
theorem D55(a:Shape)(ta:cH)(b:Shape)(tb:cH):(A0d a ta b tb).1.cP.length<=2:=by
 unfold A0d;generalize L2 a ta=p;generalize L2 b tb=q;generalize G5 a=x;generalize G5 b=y;have h1:=F6v p q
 have h2:=E8q p q
 have h3:=E8q q p
 have h4:=F5p p q
 have h5:=E72 (J7 q p).1 (J7 q p).2 h3;dsimp only;split
 ·exact Nat.zero_le _
 split
 ·exact h1
 split
 ·exact h2
 split
 ·exact h5
 ·exact h4
def F4d(w:Api.World)(k:cR):cL:=match A60 w.cB k w.cB.length with
 |some i=>(w.cB.getD i dF_).cL
 |none=>⟨⟨0,0⟩,[]⟩
def A7a(w:Api.World)(k:cR):Option cY:=
 if((I5 w k.cU k.dM).1.fL||(I5 w k.cV k.dK).1.fL)=true then none
 else if(A0d (I5 w k.cU k.dM).1.Shape (I5 w k.cU k.dM).2.1 (I5 w k.cV k.dK).1.Shape (I5 w k.cV k.dK).2.1).2=false then none
 else some ⟨k,wsM (F4d w k) (A0d (I5 w k.cU k.dM).1.Shape (I5 w k.cU k.dM).2.1 (I5 w k.cV k.dK).1.Shape (I5 w k.cV k.dK).2.1).1⟩
def B1w(w:Api.World):List cY:=if B9 w=0 then(fpL w.cC w.cD).filterMap (A7a w)else []
def Wfw(w:Api.World):Prop:=w.cC.length<=60/\ ∀b∈w.cC,b.cK.length<=8
theorem F4w {w:Api.World}{k:cR}{c:cY}(h:A7a w k=some c):c.cL.cP.length<=2:=by
 unfold A7a at h;split at h
 ·cases h
 split at h
 ·cases h
 injection h with h;subst h;show(wsM _ _).cP.length<=2;rw[G3t];exact D55 ..
theorem D4p(w:Api.World)(hf:Wfw w):(B1w w).length<=230400/\ ∀c∈B1w w,c.cL.cP.length<=2:=by
 unfold B1w;split
 ·refine⟨Nat.le_trans (List.length_filterMap_le ..) (D38 _ _ hf.1 hf.2),λc hc=> ?_⟩;obtain⟨k,_,hk⟩:=List.mem_filterMap.1 hc;exact F4w hk
 ·simp
theorem B3r {w:Api.World}(hw:Wsm w)(id n:Int):(I5 w id n).1.Shape.cJ.length<=1048576:=by
 unfold I5;dsimp only;split
 ·exact Nat.zero_le _
 ·rename_i h;simp only[Bool.or_eq_true,decide_eq_true_eq,not_or,Int.not_lt,Int.not_le]at h;have hl:=A3a w id;exact(hw.2.2.2.2.1 _ (B8 dF_ (by omega))).2 _ (B8 dF_ (by omega))
theorem G2i {w:Api.World}(hw:Wsm w)(k:cR):(F4d w k).cP.length<=1048576:=by
 unfold F4d;cases hf:A60 w.cB k w.cB.length with
 |none=>exact Nat.zero_le _
 |some i=>exact hw.2.2.2.2.2 _ (B8 dF_ (D10 hf).1)
theorem D8z(w:Api.World)(hw:Wsm w)(hf:Wfw w):cA_ D6s [.agg w.enc] [] (A4 7 cY.enc dF_ (B1w w)) []:=by
 refine en1 hm A6 Tryz.func96 rfl rfl (st_ ?_);refine A0 (I6 w hw) rfl (st_ ?_);unfold B1w;by_cases hv:B9 w=0;rotate_left
 ·rw[if_pos (by simpa using hv),if_neg hv];exact G8 rfl
 rw[if_neg (by simpa using hv),if_pos hv];refine J2 ev_ K0 (B43 w.cB hw.2.2.1) (st_ ?_);have hFP:=B2d w.cC w.cD hf.1 hf.2 (λb hb f hfx=>(hw.2.2.2.2.1 b hb).2 f hfx) hw.2.1
 have hFl:=D38 w.cC w.cD hf.1 hf.2;generalize fpL w.cC w.cD=ks at hFP hFl⊢;refine A0 hFP rfl (st_ ?_);refine B1 hm (ι:= {i:Nat // i<=ks.length}) (λi=> [(1, .eQ, .cW w.enc),(3, .cA, .mp 2),(4,mdA i.1, .sl 1 0 ((ks.take i.1).filterMap (A7a w)).length ((ks.take i.1).filterMap (A7a w)).length),(28, .cA,A4 4 cR.enc dF_ ks),(29, .cA,sI ks.length),(30, .cA,sI (i.1:Nat))]) (λi=> [(1, .arr 7 (A9 cY.enc dF_ ((ks.take i.1).filterMap (A7a w)))),(2, .mapS 4 (ibk w.cB w.cB.length))]) (λi=>ks.length-i.1) ⟨0,Nat.zero_le _⟩ ?_ ?_
 ·simp only[List.take_zero,List.filterMap_nil];refine B0 [(2,384)] [1] ?_;simp only[go_sem,go_sem_proc,A3e];exact eE_
 ·rintro⟨i,hi⟩;dsimp only;have hn:i<ks.length->(ks.take (i+1)).filterMap (A7a w)=(ks.take i).filterMap (A7a w)++(A7a w (ks.getD i dF_)).toList:=λh=>C5a h
  have hfin:ks.length<=i->(ks.take i).filterMap (A7a w)=ks.filterMap (A7a w):=λh=>by rw[show i=ks.length by omega,List.take_length]
  have hln:=D12 (f:=A7a w) (l:=ks) i;generalize(ks.take i).filterMap (A7a w)=v at hn hfin hln⊢;refine st_ ?_;by_cases hlt:i<ks.length;rotate_left
  ·rw[if_neg (by omega),<-hfin (by omega)];exact eE_
  rw[if_pos (by omega)];refine⟨bE_,?_⟩;replace hn:=hn hlt;generalize ks.getD i dF_=k at hn⊢;refine A0 (B28 w k.cU k.dM hw.1) rfl (st_ ?_);refine A0 (B28 w k.cV k.dK hw.1) rfl ?_;have ha:=B3r hw k.cU k.dM
  have hb:=B3r hw k.cV k.dK
  have hom:=G2i hw k
  have hu:=A7a.eq_1 w k
  have hcl:=D55 (I5 w k.cU k.dM).1.Shape (I5 w k.cU k.dM).2.1 (I5 w k.cV k.dK).1.Shape (I5 w k.cV k.dK).2.1;generalize I5 w k.cU k.dM=A at hu ha hcl⊢;generalize I5 w k.cV k.dK=B at hu hb hcl⊢;refine st_ ?_;by_cases hs:(A.1.fL||B.1.fL)=true
  ·rw[if_pos hs]at hu⊢;rw[hu]at hn;simp only[Option.toList,List.append_nil]at hn;refine A8 ⟨i+1,by omega⟩ (by show ks.length-(i+1)<ks.length-i;omega) ?_;simp only[hn];refine B0 [] [] (st_ ?_);exact eE_
  rw[if_neg hs]at hu⊢;refine A0 (D25 A.1.Shape A.2.1 B.1.Shape B.2.1 ha hb) rfl ?_;generalize A0d A.1.Shape A.2.1 B.1.Shape B.2.1=C at hu hcl⊢;obtain⟨C1,C2⟩:=C;dsimp only at hu hcl;cases C2 with
  |false=>rw[if_pos rfl]at hu;rw[hu]at hn;simp only[Option.toList,List.append_nil]at hn;refine st_ ?_;refine A8 ⟨i+1,by omega⟩ (by show ks.length-(i+1)<ks.length-i;omega) ?_;simp only[hn];refine B0 [] [] (st_ ?_);exact eE_
  |true=>
   rw[if_neg (by simp)]at hu;rw[hu]at hn;simp only[Option.toList]at hn;have hat:=F5w w.cB k;unfold F4d at hn hom;cases hfc:A60 w.cB k w.cB.length with
   |none=>
    rw[hfc]at hat hn hom;simp only[Option.map_none]at hat
    dsimp only at hn hom;simp only[go_sem,go_sem_proc,hat,Option.getD_none,Option.isSome_none];refine O7 (B5y ⟨⟨0,0⟩,[]⟩ C1 hom (by omega)) ?_;simp only[S3,go_sem,go_sem_proc];refine⟨G8 rfl,bE_,?_⟩;refine A8 ⟨i+1,by omega⟩ (by show ks.length-(i+1)<ks.length-i;omega) ?_;simp only[hn];refine B0 [] [] (st_ ?_);exact eE_
   |some q=>
    rw[hfc]at hat hn hom;have hq:=(D10 hfc).1;simp only[Option.map_some]at hat
    dsimp only at hn hom;simp only[go_sem,go_sem_proc,hat,Option.getD_some,Option.isSome_some];refine⟨bE_,?_⟩;refine A0 (B5y (w.cB.getD q dF_).cL C1 hom (by omega)) rfl (st_ ?_);refine⟨bE_,?_⟩;refine A8 ⟨i+1,by omega⟩ (by show ks.length-(i+1)<ks.length-i;omega) ?_;simp only[hn];refine B0 [] [] (st_ ?_);exact eE_
def Q1(bs:List cE)(i:Int):cE:=if((decide (i<0))||(decide ((bs.length:Int)<=i)))=true then((⟨(⟨0,0⟩:cI),0,0,0⟩:cE))else((bs.getD i.toNat dF_))
theorem C2x(bs:List cE)(i:Int):cA_ D9l [A4 5 cE.enc dF_ bs,sI i] [] (.agg (Q1 bs i).enc) []:=by refine M3 18 [(4,some (some 5))] hm A6 Tryz.func511 rfl ?_;have:=Q1.eq_1 bs i;exact E7
def Y6(r:Row)(bs:List cE):Int:=let v1:=(Q1 bs r.A);let v2:=(Q1 bs r.B);let v3:=(O6 v2.dL v1.dL);let v4:=(P8 r.dF v3);let v5:=(B7 v2.cZ r.fN);let v6:=(D1 v4 v5);let v7:=(B7 v1.cZ r.fO);let v8:=(sat (sat v6-sat v7));v8
theorem A7l(r:Row)(bs:List cE):cA_ B5n [.agg r.enc,A4 5 cE.enc dF_ bs] [] (sI (Y6 r bs)) []:=by
 refine en1 hm A6 Tryz.func438 rfl rfl ?_;have:=C2x
 have:=L7
 have:=A0r
 have:=M2
 have:=N2
 have:=R3
 have:=Y6.eq_1 r bs;exact E7
def N7(a:Int)(i:Int):Int:=let v1:=(B7 a a);let v2:=(B7 v1 i);v2
theorem C06(a:Int)(i:Int):cA_ B94 [sI a,sI i] [] (sI (N7 a i)) []:=by
 refine en1 hm A6 Tryz.func512 rfl rfl ?_;have:=M2
 have:=N7.eq_1 a i;exact E7
def A3s(r:Row)(v6:Int)(v7:Int)(i1:Nat)(s1:Int):Int:=let v8:=(D1 s1 (([v6,v7,r.dD]).getD i1 0));v8
def S7(r:Row)(bs:List cE):Int:=let v1:=(Q1 bs r.A);let v2:=(Q1 bs r.B);let v3:=(D1 v1.fJ v2.fJ);let v4:=(P8 r.dF r.dF);let v5:=(B7 v3 v4);let v6:=(N7 r.fO v1.eP);let v7:=(N7 r.fN v2.eP);let s1:=itr (A3s r v6 v7) 3 v5;if s1<1 then(0)else(let v9:=(Z9 65536 s1);v9)
theorem N8(r:Row)(bs:List cE):cA_ B79 [.agg r.enc,A4 5 cE.enc dF_ bs] [] (sI (S7 r bs)) []:=by
 refine en1 hm A6 Tryz.func436 rfl rfl ?_;have:=C2x
 have:=N2
 have:=A0r
 have:=M2
 have:=C06
 have:=A7i
 have:=S7.eq_1 r bs
 have:=λi_ s_=>A3s.eq_1 r (N7 r.fO (Q1 bs r.A).eP) (N7 r.fN (Q1 bs r.B).eP) i_ s_
 have:=λx_ Q_ σ_=> @lp_ Tryz.prog Tryz.f436.ntmps [] x_ Q_ σ_ hm (λ_=>True) (λ_=>True) 3 (λi_=> [(7, .cA,sI (itr (A3s r (N7 r.fO (Q1 bs r.A).eP) (N7 r.fN (Q1 bs r.B).eP)) i_ (B7 (D1 (Q1 bs r.A).fJ (Q1 bs r.B).fJ) (P8 r.dF r.dF)))),(41, .cA, .sl 672 0 3 3),(42, .cA,sI 3),(43, .cA,sI (i_:Int))]) (λi_=> [(672, .arr 1 (A9 C6 0 ([(N7 r.fO (Q1 bs r.A).eP),(N7 r.fN (Q1 bs r.B).eP),r.dD])))]) [] trivial (λ_ _=>trivial) (by simp[go_sem]) (by simp[go_sem,D3]) (by simp[go_sem]);exact K1
def Q0(r:Row)(bs:List cE)(p:Int):(List cE):=let v1:=bs;if((decide (0<=r.A))&&(decide (r.A<(v1.length:Int))))=true then(let v2:=(B7 p (v1.getD r.A.toNat dF_).fJ);let v3:=(P9 r.dF v2);let v4:=(O6 (v1.getD r.A.toNat dF_).dL v3);let v5:=(B7 p r.fO);let v6:=(B7 v5 (v1.getD r.A.toNat dF_).eP);let v7:=(sat (sat (v1.getD r.A.toNat dF_).cZ-sat v6));if((decide (0<=r.B))&&(decide (r.B<(v1.length:Int))))=true then(let v8:=(B7 p ((v1.set r.A.toNat (⟨v4,v7,(v1.getD r.A.toNat dF_).fJ,(v1.getD r.A.toNat dF_).eP⟩:cE)).getD r.B.toNat dF_).fJ);let v9:=(P9 r.dF v8);let v10:=(A1e ((v1.set r.A.toNat (⟨v4,v7,(v1.getD r.A.toNat dF_).fJ,(v1.getD r.A.toNat dF_).eP⟩:cE)).getD r.B.toNat dF_).dL v9);let v11:=(B7 p r.fN);let v12:=(B7 v11 ((v1.set r.A.toNat (⟨v4,v7,(v1.getD r.A.toNat dF_).fJ,(v1.getD r.A.toNat dF_).eP⟩:cE)).getD r.B.toNat dF_).eP);let v13:=(D1 ((v1.set r.A.toNat (⟨v4,v7,(v1.getD r.A.toNat dF_).fJ,(v1.getD r.A.toNat dF_).eP⟩:cE)).getD r.B.toNat dF_).cZ v12);((v1.set r.A.toNat (⟨v4,v7,(v1.getD r.A.toNat dF_).fJ,(v1.getD r.A.toNat dF_).eP⟩:cE)).set r.B.toNat (⟨v10,v13,((v1.set r.A.toNat (⟨v4,v7,(v1.getD r.A.toNat dF_).fJ,(v1.getD r.A.toNat dF_).eP⟩:cE)).getD r.B.toNat dF_).fJ,((v1.set r.A.toNat (⟨v4,v7,(v1.getD r.A.toNat dF_).fJ,(v1.getD r.A.toNat dF_).eP⟩:cE)).getD r.B.toNat dF_).eP⟩:cE)))else((v1.set r.A.toNat (⟨v4,v7,(v1.getD r.A.toNat dF_).fJ,(v1.getD r.A.toNat dF_).eP⟩:cE))))else(if((decide (0<=r.B))&&(decide (r.B<(v1.length:Int))))=true then(let v14:=(B7 p (v1.getD r.B.toNat dF_).fJ);let v15:=(P9 r.dF v14);let v16:=(A1e (v1.getD r.B.toNat dF_).dL v15);let v17:=(B7 p r.fN);let v18:=(B7 v17 (v1.getD r.B.toNat dF_).eP);let v19:=(D1 (v1.getD r.B.toNat dF_).cZ v18);(v1.set r.B.toNat (⟨v16,v19,(v1.getD r.B.toNat dF_).fJ,(v1.getD r.B.toNat dF_).eP⟩:cE)))else(v1))
theorem A5d(r:Row)(bs:List cE)(p:Int)(h0:bs.length<=1048576):cA_ B83 [.agg r.enc,A4 5 cE.enc dF_ bs,sI p] [] (.sl 1 0 (Q0 r bs p).length (Q0 r bs p).length) [(1, .arr 5 (A9 cE.enc dF_ (Q0 r bs p)))]:=by
 refine I7 hm A6 Tryz.func317 rfl rfl ?_;have:=A9u
 have:=M2
 have:=A5x
 have:=L7
 have:=R3
 have:=A3h
 have:=N2
 have:=Q0.eq_1 r bs p;exact K1
def L9(j:cG)(a:cF)(b:cF):cI×cI:=let v1:=(Z4 b.cH j.dR);if(j.cS != 5)=true then(let v2:=(Z4 a.cH j.dW);(v2,v1))else((j.dW,v1))
theorem A3g(j:cG)(a:cF)(b:cF):cA_ C15 [.agg j.enc, .agg a.enc, .agg b.enc] [] (.tup [.agg (L9 j a b).1.enc, .agg (L9 j a b).2.enc]) []:=by
 refine S1 27 [(6,some (some 2)),(7,some (some 2))] hm A6 Tryz.func433 rfl ?_;have:=A7s
 have:=L9.eq_1 j a b;exact E7
def Z6(j:cG)(a:cF)(b:cF):Int:=if(j.cS==5)=true then(0)else(let v1:=(K5 a.cH.eR);let v2:=(K5 j.cX);let v3:=(K5 (IntKind.i64.wrap (v1+v2)));let v4:=(A0u v3 b.cH.eR);v4)
theorem A77(j:cG)(a:cF)(b:cF):cA_ C4s [.agg j.enc, .agg a.enc, .agg b.enc] [] (sI (Z6 j a b)) []:=by
 refine en1 hm A6 Tryz.func426 rfl rfl ?_;have:=A48
 have:=C02
 have:=Z6.eq_1 j a b;exact E7
def Z3(j:cG)(a:cF):cI:=let v1:=(B15 a.cH.eR);let v2:=(A8y v1 j.eS);v2
theorem B1s(j:cG)(a:cF):cA_ D45 [.agg j.enc, .agg a.enc] [] (.agg (Z3 j a).enc) []:=by
 refine M3 12 [(4,some (some 2))] hm A6 Tryz.func428 rfl ?_;have:=C31
 have:=B8v
 have:=Z3.eq_1 j a;exact E7
def A3z(j:cG)(a:cF)(b:cF):Int:=let v1:=(L9 j a b);let v2:=(Z3 j a);let v3:=(O6 v1.2 v1.1);let v4:=(P8 v2 v3);v4
theorem C92(j:cG)(a:cF)(b:cF):cA_ C9f [.agg j.enc, .agg a.enc, .agg b.enc] [] (sI (A3z j a b)) []:=by
 refine en1 hm A6 Tryz.func430 rfl rfl ?_;have:=A3g
 have:=B1s
 have:=L7
 have:=A0r
 have:=A3z.eq_1 j a b;exact E7
def A2g(j:cG)(a:cF)(b:cF):cI:=let v1:=(L9 j a b);let v2:=(O6 v1.2 v1.1);v2
theorem A83(j:cG)(a:cF)(b:cF):cA_ B8a [.agg j.enc, .agg a.enc, .agg b.enc] [] (.agg (A2g j a b).enc) []:=by
 refine M3 19 [(6,some (some 2))] hm A6 Tryz.func418 rfl ?_;have:=A3g
 have:=L7
 have:=A2g.eq_1 j a b;exact E7
def A4i(j:cG)(a:cF)(b:cF):Int:=let v1:=(A2g j a b);let v2:=(B0g v1);v2
theorem B2g(j:cG)(a:cF)(b:cF):cA_ C28 [.agg j.enc, .agg a.enc, .agg b.enc] [] (sI (A4i j a b)) []:=by
 refine en1 hm A6 Tryz.func417 rfl rfl ?_;have:=A83
 have:=V8
 have:=A4i.eq_1 j a b;exact E7
def A19(j:cG)(a:cF)(b:cF):Int:=let v1:=(A4i j a b);if v1<j.dN then(let v2:=(sat (sat v1-sat j.dN));v2)else(if j.dS<v1 then(let v3:=(sat (sat v1-sat j.dS));v3)else(0))
theorem B7m(j:cG)(a:cF)(b:cF):cA_ B66 [.agg j.enc, .agg a.enc, .agg b.enc] [] (sI (A19 j a b)) []:=by
 refine en1 hm A6 Tryz.func422 rfl rfl ?_;have:=B2g
 have:=R3
 have:=A19.eq_1 j a b;exact E7
def K2(e:Int)(dt:Int):Int:=let v1:=(Z9 e dt);let v2:=(B7 13107 v1);let v3:=(Q6 v2 (-262144) 262144);v3
theorem V4(e:Int)(dt:Int):cA_ C1h [sI e,sI dt] [] (sI (K2 e dt)) []:=by
 refine en1 hm A6 Tryz.func421 rfl rfl ?_;have:=A7i
 have:=M2
 have:=A45
 have:=K2.eq_1 e dt;exact E7
def Z5(j:cG)(a:cF)(b:cF)(ia:Int)(ib:Int)(n:cI)(s:List cE):Row:=let v1:=(L9 j a b);let v2:=(F2 a);let v3:=(O6 v1.1 v2);let v4:=(A0x v3 n);let v5:=(F2 b);let v6:=(O6 v1.2 v5);let v7:=(A0x v6 n);let v8:=(S7 (⟨ia,ib,n,v4,v7,0,0,(-536870911),536870911,j.dD,0,(-1),0⟩:Row) s);(⟨ia,ib,n,v4,v7,v8,0,(-536870911),536870911,j.dD,0,(-1),0⟩:Row)
theorem A3f(j:cG)(a:cF)(b:cF)(ia:Int)(ib:Int)(n:cI)(s:List cE)(ha: ∀f∈a.cK,f.Shape.cJ.length<=1048576)(hb: ∀f∈b.cK,f.Shape.cJ.length<=1048576):cA_ B95 [.agg j.enc, .agg a.enc, .agg b.enc,sI ia,sI ib, .agg n.enc,A4 5 cE.enc dF_ s] [] (.agg (Z5 j a b ia ib n s).enc) []:=by
 refine M3 50 [(14,some (some 14))] hm A6 Tryz.func420 rfl ?_;have:=λx1 x2 x3 x4 x5 x6 x7 x8 x9 x10 x11 x12 x13 x14 x15=>cx_ (N8 ⟨x1,x2,⟨x3,x4⟩,x5,x6,x7,x8,x9,x10,x11,x12,x13,x14⟩ x15)
 have:=A3g
 have:=A2v
 have:=L7
 have:=A5v
 have:=N8
 have:=Z5.eq_1 j a b ia ib n s;exact E7
def A24(j:cG)(a:cF)(b:cF)(ia:Int)(ib:Int)(s:List cE)(dt:Int):(List Row):=let v1:=(A4i j a b);if((j.cS != 1)||((decide (j.dN<v1))&&(decide (v1<j.dS))))=true then(([]:List Row))else(let v2:=(A2g j a b);let v3:=(A35 v2);if((v2.X==0)&&(v2.Y==0))=true then(let v4:=(Z5 j a b ia ib (⟨65536,0⟩:cI) s);let v5:=(A19 j a b);let v6:=(K2 v5 dt);if j.dS<=j.dN then([(⟨v4.A,v4.B,v4.dF,v4.fO,v4.fN,v4.eE,v6,v4.dN,v4.dS,v4.dD,j.cQ.I0,v4.eN,v4.eI⟩:Row)])else(if v1<=j.dN then([(⟨v4.A,v4.B,v4.dF,v4.fO,v4.fN,v4.eE,v6,0,v4.dS,v4.dD,j.cQ.I0,v4.eN,v4.eI⟩:Row)])else([(⟨v4.A,v4.B,v4.dF,v4.fO,v4.fN,v4.eE,v6,v4.dN,0,v4.dD,j.cQ.I0,v4.eN,v4.eI⟩:Row)])))else(let v7:=(Z5 j a b ia ib v3 s);let v8:=(A19 j a b);let v9:=(K2 v8 dt);if j.dS<=j.dN then([(⟨v7.A,v7.B,v7.dF,v7.fO,v7.fN,v7.eE,v9,v7.dN,v7.dS,v7.dD,j.cQ.I0,v7.eN,v7.eI⟩:Row)])else(if v1<=j.dN then([(⟨v7.A,v7.B,v7.dF,v7.fO,v7.fN,v7.eE,v9,0,v7.dS,v7.dD,j.cQ.I0,v7.eN,v7.eI⟩:Row)])else([(⟨v7.A,v7.B,v7.dF,v7.fO,v7.fN,v7.eE,v9,v7.dN,0,v7.dD,j.cQ.I0,v7.eN,v7.eI⟩:Row)]))))
theorem C7s(j:cG)(a:cF)(b:cF)(ia:Int)(ib:Int)(s:List cE)(dt:Int)(ha: ∀f∈a.cK,f.Shape.cJ.length<=1048576)(hb: ∀f∈b.cK,f.Shape.cJ.length<=1048576):cA_ C53 [.agg j.enc, .agg a.enc, .agg b.enc,sI ia,sI ib,A4 5 cE.enc dF_ s,sI dt] [] (A4 14 Row.enc dF_ (A24 j a b ia ib s dt)) []:=by
 refine en1 hm A6 Tryz.func302 rfl rfl ?_;have:=λx1 x2 x3 x4 x5 x6 x7 x8 h0 h1=>cx_ (A3f x1 x2 x3 x4 x5 ⟨x6,x7⟩ x8 h0 h1)
 have:=B2g
 have:=A83
 have:=A5w
 have:=A3f
 have:=B7m
 have:=V4
 have:=A24.eq_1 j a b ia ib s dt;exact K1
def S6(ia:Int)(ib:Int)(s:List cE)(o:Int):Row:=let v1:=(S7 (⟨ia,ib,(⟨0,0⟩:cI),65536,65536,0,0,(-536870911),536870911,o,0,(-1),0⟩:Row) s);(⟨ia,ib,(⟨0,0⟩:cI),65536,65536,v1,0,(-536870911),536870911,o,0,(-1),0⟩:Row)
theorem A78(ia:Int)(ib:Int)(s:List cE)(o:Int):cA_ C4v [sI ia,sI ib,A4 5 cE.enc dF_ s,sI o] [] (.agg (S6 ia ib s o).enc) []:=by
 refine M3 19 [(8,some (some 14))] hm A6 Tryz.func423 rfl ?_;have:=λx1 x2 x3 x4 x5 x6 x7 x8 x9 x10 x11 x12 x13 x14 x15=>cx_ (N8 ⟨x1,x2,⟨x3,x4⟩,x5,x6,x7,x8,x9,x10,x11,x12,x13,x14⟩ x15)
 have:=N8
 have:=S6.eq_1 ia ib s o;exact E7
def X2(v:Int)(l:Int)(u:Int)(e:Bool)(i:Int)(dt:Int)(r:Row):(List Row):=if((!e)||((decide (l<v))&&(decide (v<u))))=true then(([]:List Row))else(if(l==u)=true then(let v1:=(sat (sat v-sat l));let v2:=(K2 v1 dt);[(⟨r.A,r.B,r.dF,r.fO,r.fN,r.eE,v2,r.dN,r.dS,r.dD,i,r.eN,r.eI⟩:Row)])else(if v<=l then(let v3:=(sat (sat v-sat l));let v4:=(K2 v3 dt);[(⟨r.A,r.B,r.dF,r.fO,r.fN,r.eE,v4,0,r.dS,r.dD,i,r.eN,r.eI⟩:Row)])else(let v5:=(sat (sat v-sat u));let v6:=(K2 v5 dt);[(⟨r.A,r.B,r.dF,r.fO,r.fN,r.eE,v6,r.dN,0,r.dD,i,r.eN,r.eI⟩:Row)])))
theorem B46(v:Int)(l:Int)(u:Int)(e:Bool)(i:Int)(dt:Int)(r:Row):cA_ C6d [sI v,sI l,sI u,sB e,sI i,sI dt, .agg r.enc] [] (A4 14 Row.enc dF_ (X2 v l u e i dt r)) []:=by
 refine en1 hm A6 Tryz.func425 rfl rfl ?_;have:=R3
 have:=V4
 have:=X2.eq_1 v l u e i dt r;exact K1
def Q9(j:cG)(r:Row)(dt:Int):(List Row):=if j.dH=false then(([]:List Row))else(let v1:=(sat (sat 0-sat j.dP));let v2:=(B7 j.dU dt);let v3:=(sat (sat 0-sat v2));[(⟨r.A,r.B,r.dF,r.fO,r.fN,r.eE,v1,v3,v2,r.dD,j.cQ.I2,r.eN,r.eI⟩:Row)])
theorem B47(j:cG)(r:Row)(dt:Int):cA_ C6e [.agg j.enc, .agg r.enc,sI dt] [] (.sl 1 0 (Q9 j r dt).length (Q9 j r dt).length) [(1, .arr 14 (A9 Row.enc dF_ (Q9 j r dt)))]:=by
 refine I7 hm A6 Tryz.func424 rfl rfl ?_;have:=R3
 have:=M2
 have:=Q9.eq_1 j r dt;exact K1
def X3(j:cG)(a:cF)(b:cF)(ia:Int)(ib:Int)(s:List cE)(dt:Int):(List Row):=let v1:=(L9 j a b);let v2:=(Z5 j a b ia ib (⟨65536,0⟩:cI) s);let v3:=(Z5 j a b ia ib (⟨0,65536⟩:cI) s);let v4:=(sat (sat v1.2.X-sat v1.1.X));let v5:=(K2 v4 dt);let v6:=(sat (sat v1.2.Y-sat v1.1.Y));let v7:=(K2 v6 dt);[(⟨v2.A,v2.B,v2.dF,v2.fO,v2.fN,v2.eE,v5,v2.dN,v2.dS,v2.dD,j.cQ.I0,v2.eN,v2.eI⟩:Row),(⟨v3.A,v3.B,v3.dF,v3.fO,v3.fN,v3.eE,v7,v3.dN,v3.dS,v3.dD,j.cQ.I1,v3.eN,v3.eI⟩:Row)]
theorem B48(j:cG)(a:cF)(b:cF)(ia:Int)(ib:Int)(s:List cE)(dt:Int)(ha: ∀f∈a.cK,f.Shape.cJ.length<=1048576)(hb: ∀f∈b.cK,f.Shape.cJ.length<=1048576):cA_ C6f [.agg j.enc, .agg a.enc, .agg b.enc,sI ia,sI ib,A4 5 cE.enc dF_ s,sI dt] [] (A4 14 Row.enc dF_ (X3 j a b ia ib s dt)) []:=by
 refine en1 hm A6 Tryz.func427 rfl rfl ?_;have:=λx1 x2 x3 x4 x5 x6 x7 x8 h0 h1=>cx_ (A3f x1 x2 x3 x4 x5 ⟨x6,x7⟩ x8 h0 h1)
 have:=A3g
 have:=A3f
 have:=R3
 have:=V4
 have:=X3.eq_1 j a b ia ib s dt;exact K1
theorem D2a(v l u:Int)(e:Bool)(i dt:Int)(r:Row):(X2 v l u e i dt r).length<=1:=by
 unfold X2;simp only
 (repeat' split) <;> simp
theorem D2b(j:cG)(r:Row)(dt:Int):(Q9 j r dt).length<=1:=by
 unfold Q9;simp only
 (repeat' split) <;> simp
@[simp] theorem D2c(j:cG)(a b:cF)(ia ib:Int)(s:List cE)(dt:Int):(X3 j a b ia ib s dt).length=2:=by unfold X3;simp
def A6w(j:cG)(a:cF)(b:cF)(ia:Int)(ib:Int)(s:List cE)(dt:Int):(List Row):=if(j.cS != 2)=true then(([]:List Row))else(let v1:=(S6 ia ib s 0);let v2:=(Q9 j v1 dt);let v3:=(Z6 j a b);let v4:=(X2 v3 j.dN j.dS j.dE j.cQ.I3 dt v1);let v5:=(X3 j a b ia ib s dt);((v2++v4)++v5))
theorem E1e(j:cG)(a:cF)(b:cF)(ia:Int)(ib:Int)(s:List cE)(dt:Int)(ha: ∀f∈a.cK,f.Shape.cJ.length<=1048576)(hb: ∀f∈b.cK,f.Shape.cJ.length<=1048576):cA_ D9r [.agg j.enc, .agg a.enc, .agg b.enc,sI ia,sI ib,A4 5 cE.enc dF_ s,sI dt] [] (A4 14 Row.enc dF_ (A6w j a b ia ib s dt)) []:=by
 refine en1 hm A6 Tryz.func303 rfl rfl ?_;have:=A78
 have:=D2b j (S6 ia ib s 0) dt
 have:=B47
 have:=A77
 have:=D2a (Z6 j a b) j.dN j.dS j.dE j.cQ.I3 dt (S6 ia ib s 0)
 have:=B46
 have:=D2c j a b ia ib s dt
 have:=B48
 have:=A6w.eq_1 j a b ia ib s dt;exact K1
def A5z(j:cG)(a:cF)(b:cF)(ia:Int)(ib:Int)(n:cI)(o:Int)(s:List cE):Row:=let v1:=(L9 j a b);let v2:=(F2 a);let v3:=(O6 v1.1 v2);let v4:=(O6 v1.2 v1.1);let v5:=(A1e v3 v4);let v6:=(F2 b);let v7:=(O6 v1.2 v6);let v8:=(A0x v5 n);let v9:=(A0x v7 n);let v10:=(S7 (⟨ia,ib,n,v8,v9,0,0,(-536870911),536870911,o,0,(-1),0⟩:Row) s);(⟨ia,ib,n,v8,v9,v10,0,(-536870911),536870911,o,0,(-1),0⟩:Row)
theorem B50(j:cG)(a:cF)(b:cF)(ia:Int)(ib:Int)(n:cI)(o:Int)(s:List cE)(ha: ∀f∈a.cK,f.Shape.cJ.length<=1048576)(hb: ∀f∈b.cK,f.Shape.cJ.length<=1048576):cA_ C9j [.agg j.enc, .agg a.enc, .agg b.enc,sI ia,sI ib, .agg n.enc,sI o,A4 5 cE.enc dF_ s] [] (.agg (A5z j a b ia ib n o s).enc) []:=by
 refine M3 57 [(16,some (some 14))] hm A6 Tryz.func431 rfl ?_;have:=λx1 x2 x3 x4 x5 x6 x7 x8 x9 x10 x11 x12 x13 x14 x15=>cx_ (N8 ⟨x1,x2,⟨x3,x4⟩,x5,x6,x7,x8,x9,x10,x11,x12,x13,x14⟩ x15)
 have:=A3g
 have:=A2v
 have:=L7
 have:=A3h
 have:=A5v
 have:=N8
 have:=A5z.eq_1 j a b ia ib n o s;exact E7
def A09(j:cG)(a:cF)(b:cF)(ia:Int)(ib:Int)(n:cI)(s:List cE):Row:=let v1:=(A5z j a b ia ib n 0 s);v1
theorem C95(j:cG)(a:cF)(b:cF)(ia:Int)(ib:Int)(n:cI)(s:List cE)(ha: ∀f∈a.cK,f.Shape.cJ.length<=1048576)(hb: ∀f∈b.cK,f.Shape.cJ.length<=1048576):cA_ C9i [.agg j.enc, .agg a.enc, .agg b.enc,sI ia,sI ib, .agg n.enc,A4 5 cE.enc dF_ s] [] (.agg (A09 j a b ia ib n s).enc) []:=by
 refine M3 23 [(14,some (some 14))] hm A6 Tryz.func429 rfl ?_;have:=B50
 have:=A09.eq_1 j a b ia ib n s;exact E7
def A99(j:cG)(a:cF)(b:cF):Int:=let v1:=(L9 j a b);let v2:=(O6 v1.2 v1.1);let v3:=(Z3 j a);let v4:=(A01 v3);let v5:=(P8 v2 v4);v5
theorem D3a(j:cG)(a:cF)(b:cF):cA_ D01 [.agg j.enc, .agg a.enc, .agg b.enc] [] (sI (A99 j a b)) []:=by
 refine en1 hm A6 Tryz.func432 rfl rfl ?_;have:=A3g
 have:=L7
 have:=B1s
 have:=C4f
 have:=A0r
 have:=A99.eq_1 j a b;exact E7
def A5o(j:cG)(a:cF)(b:cF)(ia:Int)(ib:Int)(s:List cE)(dt:Int):(List Row):=if(j.cS != 3)=true then(([]:List Row))else(let v1:=(Z3 j a);let v2:=(A09 j a b ia ib v1 s);let v3:=(Q9 j v2 dt);let v4:=(A3z j a b);let v5:=(X2 v4 j.dN j.dS j.dE j.cQ.I3 dt v2);let v6:=(S6 ia ib s j.dD);let v7:=(Z6 j a b);let v8:=(K2 v7 dt);let v9:=(A01 v1);let v10:=(A5z j a b ia ib v9 j.dD s);let v11:=(A99 j a b);let v12:=(K2 v11 dt);((v3++v5)++ [(⟨v6.A,v6.B,v6.dF,v6.fO,v6.fN,v6.eE,v8,v6.dN,v6.dS,v6.dD,j.cQ.I1,v6.eN,v6.eI⟩:Row),(⟨v10.A,v10.B,v10.dF,v10.fO,v10.fN,v10.eE,v12,v10.dN,v10.dS,v10.dD,j.cQ.I0,v10.eN,v10.eI⟩:Row)]))
theorem D84(j:cG)(a:cF)(b:cF)(ia:Int)(ib:Int)(s:List cE)(dt:Int)(ha: ∀f∈a.cK,f.Shape.cJ.length<=1048576)(hb: ∀f∈b.cK,f.Shape.cJ.length<=1048576):cA_ D65 [.agg j.enc, .agg a.enc, .agg b.enc,sI ia,sI ib,A4 5 cE.enc dF_ s,sI dt] [] (A4 14 Row.enc dF_ (A5o j a b ia ib s dt)) []:=by
 refine en1 hm A6 Tryz.func304 rfl rfl ?_;have:=B1s
 have:=C95
 have:=D2b j (A09 j a b ia ib (Z3 j a) s) dt
 have:=B47
 have:=C92
 have:=D2a (A3z j a b) j.dN j.dS j.dE j.cQ.I3 dt (A09 j a b ia ib (Z3 j a) s)
 have:=B46
 have:=A78
 have:=A77
 have:=V4
 have:=C4f
 have:=B50
 have:=D3a
 have:=A5o.eq_1 j a b ia ib s dt;exact K1
def B16(j:cG)(a:cF)(b:cF)(ia:Int)(ib:Int)(s:List cE)(dt:Int):(List Row):=if(j.cS != 4)=true then(([]:List Row))else(let v1:=(S6 ia ib s j.dD);let v2:=(Z6 j a b);let v3:=(K2 v2 dt);let v4:=(X3 j a b ia ib s dt);([(⟨v1.A,v1.B,v1.dF,v1.fO,v1.fN,v1.eE,v3,v1.dN,v1.dS,v1.dD,j.cQ.I2,v1.eN,v1.eI⟩:Row)]++v4))
theorem F0z(j:cG)(a:cF)(b:cF)(ia:Int)(ib:Int)(s:List cE)(dt:Int)(ha: ∀f∈a.cK,f.Shape.cJ.length<=1048576)(hb: ∀f∈b.cK,f.Shape.cJ.length<=1048576):cA_ E91 [.agg j.enc, .agg a.enc, .agg b.enc,sI ia,sI ib,A4 5 cE.enc dF_ s,sI dt] [] (A4 14 Row.enc dF_ (B16 j a b ia ib s dt)) []:=by
 refine en1 hm A6 Tryz.func305 rfl rfl ?_;have:=A78
 have:=A77
 have:=V4
 have:=D2c j a b ia ib s dt
 have:=B48
 have:=B16.eq_1 j a b ia ib s dt;exact K1
end Go.Abs
end
