/- A part of the proof: contracts of functions that the statement reaches. -/
import Derived.Test.YtchcbiiammkhgaaGreatMQ
set_option linter.unusedSimpArgs false
set_option linter.unusedVariables false
set_option linter.unnecessarySimpa false
set_option maxRecDepth 100000
set_option maxHeartbeats 2000000
noncomputable section
namespace Go.Abs
open Go.Proofs
open Api
def brk(w:Api.World)(j:cF):Bool:=A6v j w.cM.dZ
def E9w(j:cF):Api.Event:=⟨5,⟨j.ID,0,0,0⟩⟩
def bkL(w:Api.World)(l:List cF):List Api.Event:=(l.filter (brk w)).map E9w
def bjO(w:Api.World)(e:List Api.Event):List (Nat×A7):= [(8, .box w.enc),(9, .box [.sl 7 0 e.length e.length]),(7, .arr 5 (B0 Api.Event.enc dF_ e))]
attribute [go_sem] bjO
theorem C80 {w:Api.World}{e:List Api.Event}:okO (bjO w e):=by
 refine⟨by simp[bjO],λp hp cs ee j hj=> ?_⟩;simp only[bjO,zo,zr,zU]at hp;rcases hp with rfl |rfl |rfl
 ·simp only[A7.box.injEq]at ee;subst ee;simp[World.enc,F6,AV.ids,A4]at hj
 ·simp only[A7.box.injEq]at ee;subst ee;simp[F6,AV.ids]at hj;subst hj;rfl
 ·cases ee
theorem D0x {w:Api.World}{l:List cF}{k:Nat}(h:k<l.length):bkL w (l.take (k+1))=if brk w (l.getD k dF_)=true then bkL w (l.take k)++ [E9w (l.getD k dF_)]else bkL w (l.take k):=by
 unfold bkL;rw[K9 dF_ h,xq,qN];split
 ·rename_i hp;rw[List.filter_cons_of_pos hp];rfl
 ·rename_i hp;rw[List.filter_cons_of_neg hp];simp
theorem D4w {w:Api.World}{l:List cF}:(bkL w l).length<=l.length:=by unfold bkL;rw[z7];exact qM ..
theorem D85 {w:Api.World}{l:List cF}{k:Nat}(h: ∀j,j<k->brk w (l.getD j dF_)=false)(hk:k<=l.length):bkL w (l.take k)= []:=by
 induction k with
 |zero=>rfl
 |succ k ih=>rw[D0x o_,zb (by rw[h k o_];simp),ih (λj hj=>h j o_) o_]
theorem E4c(w:Api.World)(j:cF)(e:List Api.Event)(he:e.length<=4194304):
  cA_ 203 [.agg j.enc, .ptr 8 0 0 1, .ptr 9 0 0 1] (bjO w e) (sB (brk w j)) (bjO w (if brk w j=true then e++ [E9w j]else e)):=by
 refine I6 hm A6 Tryz.func203 rfl rfl (st_ ?_);refine A0 (C7j j w.cM.dZ) rfl ?_;rw[show A6v j w.cM.dZ=brk w j from rfl];generalize brk w j=p;refine st_ ?_;cases p with
 |false=>rw[zb p_,zb p_];refine B8 [.cA] [] [] ?_;simp only[go_sem,go_sem_proc]
 |true=>rw[zc rfl,zc rfl];refine⟨bE_,?_⟩;refine B8 [.cA] [] [] (st_ ?_);exact eE_
theorem E6w {w:Api.World}{e:List Api.Event}{j:cF}: ∀a∈ [AV.agg j.enc, .ptr 8 0 0 1, .ptr 9 0 0 1],∀i∈a.ids,(ofL (bjO w e) i).isSome:=by
 intro a ha i hi;simp only[zo,zr,zU]at ha;rcases ha with rfl |rfl |rfl
 ·simp[AV.ids,cF.enc,F6]at hi
 ·simp[AV.ids]at hi;subst hi;rfl
 ·simp[AV.ids]at hi;subst hi;rfl
def dfO(w:Api.World)(l:List cF)(e:List Api.Event):List (Nat×A7):=(1, .arr 24 (B0 cF.enc dF_ l))::bjO w e
attribute [go_sem] dfO
theorem E33 {w:Api.World}{l:List cF}{e:List Api.Event}:okO (dfO w l e):=by
 refine⟨by simp[dfO,bjO],λp hp cs ee j hj=> ?_⟩;simp only[dfO,bjO,zo,zr,zU]at hp;rcases hp with rfl |rfl |rfl |rfl
 ·cases ee
 ·simp only[A7.box.injEq]at ee;subst ee;simp[World.enc,F6,AV.ids,A4]at hj
 ·simp only[A7.box.injEq]at ee;subst ee;simp[F6,AV.ids]at hj;subst hj;rfl
 ·cases ee
theorem B6p(w:Api.World)(l:List cF)(hl:l.length<=4000000):
  cA_ 333 [.sl 1 0 l.length l.length, .fn (.func 203) [] [.ptr 8 0 0 1, .ptr 9 0 0 1]] (dfO w l []) (sI (A3u dF_ (brk w) l)) (dfO w l (bkL w (if A3u dF_ (brk w) l= -1 then l else l.take (A3u dF_ (brk w) l+1).toNat))):=by
 refine I6 hm A6 Tryz.func333 rfl rfl (st_ ?_);refine B1 hm (ι:= {i:Nat // i<=l.length/\ ∀j,j<i->brk w (l.getD j dF_)=false}) (λi=> [(0, .cA, .sl 1 0 l.length l.length),(1, .cA, .fn (.func 203) [] [.ptr 8 0 0 1, .ptr 9 0 0 1]),(7, .cA,sI l.length),(8, .cA,sI i.1)])
  (λi=>dfO w l []) (λi=>l.length-i.1) ⟨0,o_,λj hj=>by omega⟩ ?_ ?_
 ·refine A9 [] [] ?_;simp only[go_sem,go_sem_proc]
 ·rintro⟨i,hi,hs⟩;refine st_ ?_;split
  ·rename_i hlt;have hlt:i<l.length:=o_
   refine⟨bE_,?_⟩;have hx:=E4c w (l.getD i dF_) [] p_
   have hb:=D0x (w:=w) (l:=l) hlt;rw[D85 hs o_]at hb;rw[<-hb]at hx;refine K6 hx C80 C80 (by simp[bjO]) (by simp[upd,go_sem,go_sem_proc]) (by simp[bjO]) E6w rfl (st_ ?_);cases hpx:brk w (l.getD i dF_)with
   |true=>rw[zc rfl,A6k hlt hs hpx,zb o_,show((i:Int)+1).toNat=i+1 by omega];refine B8 [.cA] [] [] ?_;simp only[go_sem,go_sem_proc]
   |false=>rw[hpx,zb p_]at hb;rw[zb p_,hb];refine A8 ⟨i+1,o_,λj hj=>by rcases zF.1 hj with h |rfl;exact hs j h;exact hpx⟩ (by show l.length-(i+1)<l.length-i;omega) ?_;refine A9 [] [] (st_ ?_);exact eE_
  ·rename_i hge;rw[A2x λj hj=>hs j o_,zc rfl];have hb:=D85 (w:=w) (l:=l) hs o_;rw[show i=l.length by omega,zn]at hb;rw[hb];refine B8 [.cA] [] [] ?_;simp only[go_sem,go_sem_proc]
theorem F56 {w:Api.World}{l:List cF}{e:List Api.Event}: ∀a∈ [AV.sl 1 0 l.length l.length, .fn (.func 203) [] [.ptr 8 0 0 1, .ptr 9 0 0 1]],∀i∈a.ids,(ofL (dfO w l e) i).isSome:=by
 intro a ha i hi;simp only[zo,zr,zU]at ha;rcases ha with rfl |rfl
 ·simp[AV.ids]at hi;subst hi;rfl
 ·simp[AV.ids,F6]at hi;rcases hi with rfl |rfl <;> rfl
theorem B5n(w:Api.World)(l:List cF)(hl:l.length<=4000000):
  cA_ 202 [.sl 1 0 l.length l.length, .fn (.func 203) [] [.ptr 8 0 0 1, .ptr 9 0 0 1]] (dfO w l []) (.sl 1 0 (dfR dF_ (brk w) l l.length).1 l.length) ((1, .arr 24 (dfQ cF.enc dF_ (brk w) l D7a))::bjO w (bkL w l)):=by
 refine I6 hm A6 Tryz.func202 rfl rfl (st_ ?_);refine K6 (B6p w l hl) E33 E33 (by simp[dfO,bjO]) (by simp[upd,go_sem,go_sem_proc]) (by simp[dfO,bjO]) F56 rfl (st_ ?_);rcases B3w (d:=dF_) (p:=brk w) (l:=l)with⟨e,h0⟩ |⟨i0,hi0,e,hp0,hs0⟩
 ·rw[e,zc (by decide),B8q h0,A49 l.length (ze _) h0,zc rfl];refine B8 [.cA] [] [] ?_;simp only[go_sem,go_sem_proc]
 rw[e,zb p_,zb o_,show((i0:Int)+1).toNat=i0+1 by omega];refine B1 hm (ι:= {j:Nat // j<=l.length}) (λj=> [(0, .cA, .sl 1 0 l.length l.length),(1, .cA, .fn (.func 203) [] [.ptr 8 0 0 1, .ptr 9 0 0 1]),(5, .cA,sI ((dfR dF_ (brk w) l j.1).1)),(6, .cA,sI j.1)])
  (λj=>dfO w (dfR dF_ (brk w) l j.1).2 (bkL w (l.take j.1))) (λj=>l.length-j.1) ⟨i0+1,hi0⟩ ?_ ?_
 ·have e1:dfR dF_ (brk w) l (i0+1)=(i0,l):=by
   rw[dfR,A49 i0 o_ hs0];unfold A30;rw[zc hp0]
  rw[e1];refine A9 [] [] (st_ ?_);exact eE_
 ·rintro⟨j,hj⟩;obtain⟨g1,g2,g3,g4⟩:=B0t (d:=dF_) (p:=brk w) (l:=l) j hj;dsimp only;have hnext:=λhjl:j<l.length=>(show dfR dF_ (brk w) l (j+1)=A30 dF_ (brk w) j (dfR dF_ (brk w) l j)from rfl);generalize hst:dfR dF_ (brk w) l j=st at g1 g2 g3 g4 hnext⊢;obtain⟨i,m⟩:=st;dsimp only at g1 g2 g3 g4 hnext⊢;refine st_ ?_;split
  ·rename_i hlt;have hlt:j<l.length:=o_
   have hgj:=g3 j (ze j)
   have hn:=hnext hlt;simp only[hgj];refine⟨⟨g2.symm,o_,o_⟩,g2.symm,?_⟩;have hbl:(bkL w (l.take j)).length<=4194304:=by
    have h1:=D4w (w:=w) (l:=l.take j)
    have h2:(l.take j).length<=l.length:=by rw[zt];omega
    omega
   have hx:=E4c w (l.getD j dF_) (bkL w (l.take j)) hbl
   have hb:=D0x (w:=w) (l:=l) hlt;rw[<-hb]at hx;refine K6 hx C80 C80 (by simp[bjO]) (by simp[upd,go_sem,go_sem_proc]) (by simp[bjO]) E6w rfl (st_ ?_);unfold A30 at hn;dsimp only at hn;rw[hgj]at hn;cases hpx:brk w (l.getD j dF_)with
   |true=>rw[hpx,zc rfl]at hn;rw[zb p_];refine A8 ⟨j+1,hlt⟩ (by show l.length-(j+1)<l.length-j;omega) ?_;simp only[hn];refine A9 [] [] (st_ ?_);exact eE_
   |false=>rw[hpx,zb p_]at hn;rw[zc rfl];refine⟨⟨g2.symm,o_,o_⟩,g2.symm,?_⟩;refine A8 ⟨j+1,hlt⟩ (by show l.length-(j+1)<l.length-j;omega) ?_;simp only[hn];rw[A67 (l.getD j dF_) o_ (by rw[<-hgj];rfl)];refine A9 [] [] (st_ ?_);exact eE_
  ·rename_i hge;obtain rfl:j=l.length:=o_
   have e1:((l.length:Int)-(i:Int)).toNat=l.length-i:=o_
   have e2:((i:Int)-0).toNat=i:=o_
   rw[e1,e2,zn];refine⟨⟨g2.symm,o_,o_,o_⟩,g2.symm,⟨g2.symm,o_,o_,o_⟩,?_⟩;unfold dfQ;rw[hst];refine B8 [.cA] [] [] ?_;simp only[go_sem,go_sem_proc]
   all_goals exact A24
def bkW(w:Api.World):Api.World:= {w with cD:=w.cD.filter λj=> !brk w j}
theorem C72(w:Api.World)(hw:Wsm w):cA_ 119 [.agg w.enc] [] (.tup [.agg (bkW w).enc,A4 5 Api.Event.enc dF_ (bkL w w.cD)]) []:=by
 have hjn:w.cD.length<=1048576:=hw.2.1
 have hD:=B5n w w.cD o_;refine D2z 13 [(2,some (some 11)),(3,none)] hm A6 Tryz.func119 rfl ?_;refine B2 [(1, .cA, .ptr 8 0 0 1),(2, .cA, .ptr 48 0 0 1),(3, .cA, .sc (.slice none 0 0))] [(8, .box w.enc),(48, .box World.zero)] (B9 hm ?_) ?_
 ·refine st_ ?_;refine A9 [(8,32)] [] ?_;simp only[go_sem,go_sem_proc]
 refine B2 [(1, .cA, .ptr 8 0 0 1),(2, .cA, .ptr 48 0 0 1),(4, .cA, .ptr 9 0 0 1)] ([(48, .box World.zero)]++bjO w []) (B9 hm ?_) ?_
 ·refine st_ ?_;refine A9 [(9,80)] [7] ?_;simp only[go_sem,go_sem_proc]
 refine B9 hm (st_ ?_);refine J5 ev_ K1 (A8w w.cD hjn) (st_ ?_);refine B5 [true,true] [(1,128)] hD (by simp[dfO,bjO]) (by simp[bjO]) (by simp[bjO,J1]) g_ (st_ ?_);exact⟨D2y.symm,rfl,rfl,rfl,rfl,rfl,D0 _,C56 rfl λ_=>rfl,D0 _,D0 _,rfl,rfl⟩
def evP(p:Int×Int):Api.Event:=⟨p.1,⟨p.2,0,0,0⟩⟩
theorem E7k(l:List (Int×Int)):M9 (A4 5 C8k dF_ l) (A4 5 Api.Event.enc dF_ (l.map evP)):=by
 unfold A4;rw[U6];refine⟨rfl,by rw[z7],λi hi=> ?_⟩;show Z0 (C8k (l.getD i dF_)) (Api.Event.enc ((l.map evP).getD i dF_));have hi':i<l.length:=hi
 have e:(l.map evP).getD i dF_=evP (l.getD i dF_):=by simp only[List.getD,qA,zg hi',Option.map_some,Option.getD_some]
 rw[e];exact I5 _
theorem D7z(w:Api.World)(x:B3)(hw:Wsm w)(hx:Ism x):cA_ 99 [.agg w.enc, .agg x.enc] [] (.tup [.agg (V6 w (wkR w x).1).enc,A4 5 Api.Event.enc dF_ ((wkR w x).2.map evP)]) []:=by
 have hl:=D1g (w:=w) hx;refine S3 62 [(4,some (some 11)),(5,none)] hm A6 Tryz.func99 rfl (st_ ?_);refine B5 [true,true] [] (B2t w x hw hx) p_ g_ g_ p_ (st_ ?_);refine Z7 (A9l w x (A1l w x) hw hx hl (C15 w x)) (A99 w x _) (by simp[go_sem,A1l]) g_ rfl (st_ ?_);cases haw:A6p w x (A1l w x)with
 |false=>
  refine st_ ?_;have hr:wkR w x=(w.cC,[]):=by unfold wkR;rw[haw];rfl
  rw[hr]
  try simp only[go_sem,go_sem_proc]
  (with_reducible and_intros) <;> exact eE_
 |true=>
  refine st_ ?_;have hr:wkR w x=wkF w (A1l w x):=by unfold wkR;rw[haw];rfl
  rw[hr];have hin:=C15 w x;generalize hll:A1l w x=l at*;refine B1 hm (ι:= {i:Nat // i<=l.length}) (λi=> [(4, .cA, .ptr 80 0 0 1),(6, .cA, .ptr 6 0 0 1),(7,if i.1=0 then .fA else .cA, .sl 7 0 (wkF w (l.take i.1)).2.length (wkF w (l.take i.1)).2.length),(24, .cA, .sl 5 0 l.length l.length),(25, .cA,sI l.length),(26, .cA,sI i.1)])
   (λi=>(80, .box World.zero)::(7, .arr 5 (B0 C8k dF_ (wkF w (l.take i.1)).2))::D75 w (wkF w (l.take i.1)).1 x l) (λi=>l.length-i.1) ⟨0,o_⟩ ?_ ?_
  ·refine A9 [] [7] ?_;simp only[go_sem,go_sem_proc,F5j]
  ·rintro⟨i,hi⟩;obtain⟨hb1,hb2⟩:=E4l w (l.take i);simp only[zt]at hb2;refine st_ ?_;split
   ·rename_i hlt;have hlt:i<l.length:=o_
    obtain⟨hi0,hi1⟩:=hin _ (B6 0 hlt);refine⟨o_,o_,hb1.symm,?_⟩;by_cases hs:((wkF w (l.take i)).1.getD (l.getD i 0).toNat dF_).eX=true
    ·have he:wkF w (l.take (i+1))=((wkF w (l.take i)).1.set (l.getD i 0).toNat (wkB ((wkF w (l.take i)).1.getD (l.getD i 0).toNat dF_)),(wkF w (l.take i)).2++ [(7,((wkF w (l.take i)).1.getD (l.getD i 0).toNat dF_).ID)]):=by
      rw[E1m hlt,B0j,zc hs]
     rw[zc hs];refine⟨hb1.symm,hb1.symm,hb1.symm,bE_,?_⟩;refine A8 ⟨i+1,o_⟩ (by show l.length-(i+1)<l.length-i;omega) (A9 [] [] ?_);simp only[go_sem,go_sem_proc,he,zd,List.length_singleton];exact⟨wo_,A0q (7,((wkF w (l.take i)).1.getD (l.getD i 0).toNat dF_).ID) rfl rfl,A22 (wkB ((wkF w (l.take i)).1.getD (l.getD i 0).toNat dF_)) o_ rfl rfl⟩
    ·have he:wkF w (l.take (i+1))=wkF w (l.take i):=by
      rw[E1m hlt,B0j,zb hs]
     rw[zb hs];refine A8 ⟨i+1,o_⟩ (by show l.length-(i+1)<l.length-i;omega) (A9 [] [] ?_);simp only[go_sem,go_sem_proc,he];exact wo_
   ·rename_i hge;obtain rfl:i=l.length:=o_
    simp only[go_sem,go_sem_proc,zn]at hb1 hb2⊢
    try simp only[go_sem,go_sem_proc,hb1]
    (with_reducible and_intros) <;> exact E7k _
theorem D37(w:Api.World)(x:B3)(hw:Wsm w)(hx:Ism x):cA_ 118 [.agg w.enc, .agg x.enc] [] (.tup [.agg (V6 w (B4s w x).1).enc,A4 5 Api.Event.enc dF_ ((B4s w x).2.map evP)]) []:=by
 have hl:=D1g (w:=w) hx;refine S3 119 [(4,some (some 11)),(5,none)] hm A6 Tryz.func118 rfl (st_ ?_);refine B5 [true,true] [] (B2t w x hw hx) p_ g_ g_ p_ (st_ ?_);refine Z7 (A9l w x (A1l w x) hw hx hl (C15 w x)) (A99 w x _) (by simp[go_sem,A1l]) g_ rfl (st_ ?_);cases haw:A6p w x (A1l w x)with
 |false=>
  refine st_ ?_;have hr:B4s w x=(w.cC,[]):=by unfold B4s;rw[haw];rfl
  rw[hr]
  try simp only[go_sem,go_sem_proc]
  (with_reducible and_intros) <;> exact eE_
 |true=>
  refine st_ ?_;have hr:B4s w x=if B0h w x (A1l w x)=true then slF (upF w (A1l w x)) (A1l w x)else(upF w (A1l w x),[]):=by unfold B4s;rw[haw];rfl
  rw[hr];have hin:=C15 w x;generalize hll:A1l w x=l at*;refine B1 hm (ι:= {i:Nat // i<=l.length}) (λi=> [(4, .cA, .ptr 80 0 0 1),(6, .cA, .ptr 6 0 0 1),(26, .cA, .sl 5 0 l.length l.length),(27, .cA,sI l.length),(28, .cA,sI i.1)])
   (λi=>(80, .box World.zero)::D75 w (upF w (l.take i.1)) x l) (λi=>l.length-i.1) ⟨0,o_⟩ ?_ ?_
  ·refine A9 [] [] ?_;simp only[go_sem,go_sem_proc,F5f]
  ·rintro⟨i,hi⟩;have hb1:=E4j w (l.take i);refine st_ ?_;split
   ·rename_i hlt;have hlt:i<l.length:=o_
    obtain⟨hi0,hi1⟩:=hin _ (B6 0 hlt);refine⟨o_,o_,hb1.symm,?_⟩;refine A0 (C7v ((upF w (l.take i)).getD (l.getD i 0).toNat dF_)) rfl (st_ ?_);refine⟨⟨hb1.symm,hi0,hi1⟩,hb1.symm,?_⟩;refine A8 ⟨i+1,o_⟩ (by show l.length-(i+1)<l.length-i;omega) (A9 [] [] ?_);simp only[go_sem,go_sem_proc,F1x hlt];exact⟨wo_,A22 (B3b ((upF w (l.take i)).getD (l.getD i 0).toNat dF_)) o_ rfl rfl⟩
   ·rename_i hge;obtain rfl:i=l.length:=o_
    simp only[go_sem,go_sem_proc,zn]at hb1⊢;have hob:=A99 (V6 w (upF w l)) x l
    have fin:(B0h w x l=false)-> ∀ {σ:St},True:=λ_ _=>trivial;cases hq:(if w.cM.eA<=0 then true else((l.length:Int)==0))with
    |true=>
     have hst:B0h w x l=false:=by
      unfold B0h;by_cases h1:w.cM.eA<=0
      ·rw[zT h1];rfl
      ·rw[zb h1,qc]at hq;have:l.length=0:=o_
       rw[zT this];simp
     rw[zb (c:=B0h w x l=true) (by rw[hst];simp)];refine B1i p_ (sB false) (st_ ?_);refine B1i p_ (sB false) ?_;simp only[go_sem,go_sem_proc]
     try simp only[go_sem,go_sem_proc,hb1]
     simp only[zn,hb1]
     (with_reducible and_intros) <;> exact eE_
    |false=>
     have hst:B0h w x l=(!(l.any λi=>decide ((B3v (V6 w (upF w l)) i).eM<w.cM.eA))&& !(B5c (V6 w (upF w l)) x)):=by
      unfold B0h;by_cases h1:w.cM.eA<=0
      ·rw[zc h1]at hq;cases hq
      ·rw[zb h1,qt]at hq;have: ¬l.length=0:=o_
       rw[zp this,zp h1];rfl
     have hA:=B7g (V6 w (upF w l)) x l 200 (λb=>decide (b.eM<w.cM.eA)) (C1k (V6 w (upF w l)) x l) hl (by show ∀i∈l,0<=i/\i<((upF w l).length:Int);rw[hb1];exact hin)
     have hD:=B4i (V6 w (upF w l)) x l (F71 hw l) hx;generalize(l.any λi=>decide ((B3v (V6 w (upF w l)) i).eM<w.cM.eA))=pa at hst hA;generalize B5c (V6 w (upF w l)) x=pd at hst hD;refine Z7 hA hob (by simp[go_sem,hb1]) g_ rfl ?_;simp only[go_sem,go_sem_proc,hb1];cases pa with
     |true=>
      rw[zb (c:=B0h w x l=true) (by rw[hst];simp)];refine B1i p_ (sB false) ?_;simp only[go_sem,go_sem_proc]
      try simp only[go_sem,go_sem_proc,hb1]
      (with_reducible and_intros) <;> exact eE_
     |false=>
      refine Z7 hD hob (by simp[go_sem,hb1]) g_ rfl ?_;simp only[go_sem,go_sem_proc,hb1];cases pd with
      |true=>
       rw[zb (c:=B0h w x l=true) (by rw[hst];simp)];simp only[go_sem,go_sem_proc]
       try simp only[go_sem,go_sem_proc,hb1]
       (with_reducible and_intros) <;> exact eE_
      |false=>
       rw[zc (c:=B0h w x l=true) (by rw[hst];rfl)];refine st_ ?_;refine B1 hm (ι:= {i:Nat // i<=l.length}) (λi=> [(4, .cA, .ptr 80 0 0 1),(6, .cA, .ptr 6 0 0 1),(9,if i.1=0 then .fA else .cA, .sl 7 0 (slF (upF w l) (l.take i.1)).2.length (slF (upF w l) (l.take i.1)).2.length),(81, .cA, .sl 5 0 l.length l.length),(82, .cA,sI l.length),(83, .cA,sI i.1)])
        (λi=>(80, .box World.zero)::(7, .arr 5 (B0 C8k dF_ (slF (upF w l) (l.take i.1)).2))::D75 w (slF (upF w l) (l.take i.1)).1 x l) (λi=>l.length-i.1) ⟨0,o_⟩ ?_ ?_
       ·refine A9 [] [7] ?_;simp only[go_sem,go_sem_proc,F5b]
       ·rintro⟨i,hi⟩;obtain⟨hc1,hc2⟩:=E4f (upF w l) (l.take i);simp only[zt]at hc2;refine st_ ?_;split
        ·rename_i hlt;have hlt:i<l.length:=o_
         obtain⟨hi0,hi1⟩:=hin _ (B6 0 hlt);have hc3:w.cC.length=(slF (upF w l) (l.take i)).1.length:=by rw[hc1,hb1]
         refine⟨o_,o_,hc3,?_⟩;have he:slF (upF w l) (l.take (i+1))=((slF (upF w l) (l.take i)).1.set (l.getD i 0).toNat (F1s ((slF (upF w l) (l.take i)).1.getD (l.getD i 0).toNat dF_)),(slF (upF w l) (l.take i)).2++ [(6,((slF (upF w l) (l.take i)).1.getD (l.getD i 0).toNat dF_).ID)]):=by rw[F1p hlt,B4p]
         refine⟨hc3,hc3,hc3,bE_,?_⟩;refine A8 ⟨i+1,o_⟩ (by show l.length-(i+1)<l.length-i;omega) (A9 [] [] ?_);simp only[go_sem,go_sem_proc,he,zd,List.length_singleton];exact⟨wo_,A0q (6,((slF (upF w l) (l.take i)).1.getD (l.getD i 0).toNat dF_).ID) rfl rfl,A22 (F1s ((slF (upF w l) (l.take i)).1.getD (l.getD i 0).toNat dF_)) o_ rfl rfl⟩
        ·rename_i hge;obtain rfl:i=l.length:=o_
         simp only[go_sem,go_sem_proc,zn]at hc1 hc2⊢;rw[hb1]at hc1
         try simp only[go_sem,go_sem_proc,hc1]
         (with_reducible and_intros) <;> exact E7k _
def C8l(l:List Api.Event):List AV:= [A4 5 Api.Event.enc dF_ l]
attribute [go_sem] C8l
theorem D1w(n:Nat)(h0:0<n)(hn:n<=4194304):cA_ 208 [.sc (.slice none 0 0),sI n] [] (.sl 1 0 0 n) [(1, .arr 5 ⟨n,λ_=>Api.Event.zero⟩)]:=by
 have w1:IntKind.i64.wrap (0-0)=0:=rfl
 have w2:IntKind.i64.wrap ((n:Int)-0)=n:=wo_;refine I6 hm A6 Tryz.func208 rfl rfl (st_ ?_);rw[zb o_];simp only[w1,w2];rw[zc o_];refine⟨o_,?_⟩;refine⟨o_,?_⟩;simp only[Int.toNat_natCast];refine B8 [.cA] [(1,368)] [] (st_ ?_);simp
theorem C5o(n:Nat)(hn:n<=4194304):cA_ 208 [.sc (.slice none 0 0),sI n] [] (.sl 1 0 0 0) [(1, .arr 5 (B0 Api.Event.enc dF_ []))]:=by
 rcases yk n with rfl |h0
 ·have w1:IntKind.i64.wrap (0-0)=0:=rfl
  refine I6 hm A6 Tryz.func208 rfl rfl (st_ ?_);rw[zb o_];simp only[w1];rw[zb (by decide)];refine B8 [.fA] [] [1] ?_;simp only[go_sem,go_sem_proc]
 ·exact(D1w n h0 hn).shrink rfl _
def A7w(L:List (List Api.Event))(k:Nat):Nat:=((L.take k).flatten).length
theorem D4c {L:List (List Api.Event)}{k:Nat}(h:k<L.length):A7w L (k+1)=A7w L k+(L.getD k dF_).length:=by unfold A7w;rw[K9 dF_ h];simp
theorem C4s(L:List (List Api.Event))(k:Nat):A7w L k<=L.flatten.length:=by
 unfold A7w;have:L.flatten=(L.take k).flatten++(L.drop k).flatten:=by rw[<-List.flatten_append,xa]
 rw[this,zd];omega
theorem C2m(L:List (List Api.Event))(hL:L.flatten.length<=4194304)(hl:L.length<=1000):cA_ 122 [A4 1 C8l dF_ L] [] (A4 5 Api.Event.enc dF_ L.flatten) []:=by
 refine en1 hm A6 Tryz.func122 rfl rfl (st_ ?_);refine B1 hm (ι:= {i:Nat // i<=L.length}) (λi=> [(0, .cA,A4 1 C8l dF_ L),(3, .cA,sI (A7w L i.1)),(9, .cA,A4 1 C8l dF_ L),(10, .cA,sI L.length),(11, .cA,sI i.1)])
  (λi=> []) (λi=>L.length-i.1) ⟨0,o_⟩ ?_ ?_
 ·refine A9 [] [] (st_ ?_);simp[A7w]
 ·rintro⟨i,hi⟩;have hs:=C4s L i;refine st_ ?_;by_cases hlt:(i:Int)<L.length
  ·rw[zc hlt];have hlt:i<L.length:=o_
   have hs2:=C4s L (i+1)
   have he:=D4c hlt;refine⟨o_,?_⟩;have hw:IntKind.i64.wrap ((A7w L i:Int)+((L.getD i dF_).length:Int))=(A7w L (i+1):Int):=by rw[IntKind.wrap_i64,he];omega
   rw[hw,zb o_];refine A8 ⟨i+1,o_⟩ (by show L.length-(i+1)<L.length-i;omega) (A9 [] [] ?_);refine st_ ?_;exact wo_
  ·rw[zb hlt];obtain rfl:i=L.length:=o_
   have hfull:A7w L L.length=L.flatten.length:=by unfold A7w;rw[zn]
   refine B5 [true,true] [(1,7)] (C5o (A7w L L.length) o_) p_ p_ p_ p_ (st_ ?_);refine B1 hm (ι:= {i:Nat // i<=L.length}) (λi=> [(6, .cA, .sl 7 0 (A7w L i.1) (A7w L i.1)),(25, .cA,A4 1 C8l dF_ L),(26, .cA,sI L.length),(27, .cA,sI i.1)])
    (λi=> [(7, .arr 5 (B0 Api.Event.enc dF_ (L.take i.1).flatten))]) (λi=>L.length-i.1) ⟨0,o_⟩ ?_ ?_
   ·refine A9 [] [] (st_ ?_);simp[A7w,go_sem]
   ·rintro⟨i,hi⟩;have hs:=C4s L i;refine st_ ?_;by_cases hlt:(i:Int)<L.length
    ·rw[zc hlt];have hlt:i<L.length:=o_
     have hs2:=C4s L (i+1)
     have he:=D4c hlt
     have hm0:(L.take i).flatten.length=A7w L i:=rfl;refine⟨o_,?_⟩;refine⟨bE_,?_⟩;refine A8 ⟨i+1,o_⟩ (by show L.length-(i+1)<L.length-i;omega) (A9 [] [] ?_);simp only[go_sem,go_sem_proc]
     all_goals((with_reducible and_intros) <;> first |(rw[IntKind.wrap_i64];omega) |exact he.symm |exact A32 (by rw[K9 dF_ hlt];simp))
    ·rw[zb hlt];obtain rfl:i=L.length:=o_
     simp only[go_sem,go_sem_proc,zn];exact⟨hfull,by rw[hfull];exact D0 _⟩
def A93(w:Api.World)(id:Int):Bool:=decide (0<=H5 w id)&&((w.cC.getD (H5 w id).toNat dF_).cS==3)
theorem B2r(w:Api.World)(id:Int)(hw:w.cC.length<=1048576):cA_ 258 [.agg w.enc,sI id] [] (.tup [sI (H5 w id),sB (A93 w id)]) []:=by have hf:=A3e w id;refine enT hm A6 Tryz.func258 rfl rfl (sg_ ?_);refine A0 (T1 w id hw) rfl ?_;simp only[go_sem,C7];refine⟨λh=>ok_,?_⟩;rfl
def rt(g:List Int):Nat->Int->Int
 |0,i=>i
 |k+1,i=>if g.getD i.toNat 0=i then i else rt g k (g.getD i.toNat 0)
def N9(g:List Int)(i:Int):Int:=rt g i.toNat i
def UF(g:List Int):Prop:= ∀i:Nat,i<g.length->0<=g.getD i 0/\g.getD i 0<=(i:Int)
theorem E0s {g:List Int}{i:Int}(h:g.getD i.toNat 0=i): ∀k,rt g k i=i
 |0=>rfl
 |k+1=>by rw[rt,zc h]
theorem C85 {g:List Int}(hg:UF g): ∀(k:Nat) (i:Int),0<=i->i<(g.length:Int)->i.toNat<=k->rt g k i=N9 g i
 |0,i,h0,h1,hk=>by unfold N9;rw[show i.toNat=0 by omega]
 |k+1,i,h0,h1,hk=>by
  obtain⟨a,b⟩:=hg i.toNat o_;unfold N9;by_cases he:g.getD i.toNat 0=i
  ·rw[E0s he,E0s he]
  ·cases hn:i.toNat with
   |zero=>rw[hn]at a b he;omega
   |succ n=>
    have hj:g.getD (n+1) 0≠i:=by rw[hn]at he;exact he
    rw[hn]at a b;rw[rt,rt,hn,zb hj,zb hj,C85 hg k _ a o_ o_,C85 hg n _ a o_ o_]
theorem C0j {g:List Int}(hg:UF g){i:Int}(h0:0<=i)(h1:i<(g.length:Int))(hn:g.getD i.toNat 0≠i):N9 g (g.getD i.toNat 0)=N9 g i:=by obtain⟨a,b⟩:=hg i.toNat o_;have:N9 g i=rt g (i.toNat+1) i:=(C85 hg (i.toNat+1) i h0 h1 o_).symm;rw[this,rt,zb hn,C85 hg _ _ a o_ o_]
theorem B83 {g:List Int}{i:Int}(h:g.getD i.toNat 0=i):N9 g i=i:=E0s h _
theorem E0q {g:List Int}(hg:UF g): ∀(k:Nat) (i:Int),i.toNat<=k->0<=i->i<(g.length:Int)->0<=N9 g i/\N9 g i<=i/\g.getD (N9 g i).toNat 0=N9 g i
 |k,i,hk,h0,h1=>by
  obtain⟨a,b⟩:=hg i.toNat o_;by_cases he:g.getD i.toNat 0=i
  ·rw[B83 he];exact⟨h0,Int.le_refl _,he⟩
  ·rw[<-C0j hg h0 h1 he];cases k with
   |zero=>omega
   |succ k=>have:=E0q hg k (g.getD i.toNat 0) o_ a o_;exact⟨this.1,o_,this.2.2⟩
theorem A9c {g:List Int}(hg:UF g){i:Int}(h0:0<=i)(h1:i<(g.length:Int)):0<=N9 g i/\N9 g i<=i/\g.getD (N9 g i).toNat 0=N9 g i:=E0q hg _ i (ze _) h0 h1
theorem D33(g:List Int)(i:Int)(hg:UF g)(h0:0<=i)(h1:i<(g.length:Int)):cA_ 159 [.sl 1 0 g.length g.length,sI i] [(1, .arr 1 (B0 C8 0 g))] (sI (N9 g i)) [(1, .arr 1 (B0 C8 0 g))]:=by
 refine I6 hm A6 Tryz.func159 rfl rfl (sg_ ?_);refine B1 hm (ι:= {j:Int // 0<=j/\j<(g.length:Int)/\N9 g j=N9 g i}) (λj=> [(0, .cA, .sl 1 0 g.length g.length),(1, .cA,sI j.1)])
  (λ_=> [(1, .arr 1 (B0 C8 0 g))]) (λj=>j.1.toNat) ⟨i,h0,h1,rfl⟩ ?_ ?_
 ·refine D8 [] [] ?_;simp only[go_sem]
 ·rintro⟨j,hj0,hj1,hj⟩;obtain⟨a,b⟩:=hg j.toNat o_;refine sg_ ?_;refine⟨ok_,?_⟩;by_cases he:g.getD j.toNat 0=j
  ·rw[zb (by rw[he];simp)];refine B8 [.cA] [] [] (sg_ ?_);rw[<-hj,B83 he]
  ·rw[zc (by simpa using he)];refine⟨ok_,?_⟩;refine A8 ⟨g.getD j.toNat 0,a,o_,by rw[C0j hg hj0 hj1 he,hj]⟩ (by show(g.getD j.toNat 0).toNat<j.toNat;omega) (D8 [] [] ?_);simp only[go_sem]
theorem D0d(g:List Int)(i:Int)(hg:UF g)(h0:0<=i)(h1:i<(g.length:Int)):cA_ 159 [A4 1 C8 0 g,sI i] [] (sI (N9 g i)) []:=by
 refine en1 hm A6 Tryz.func159 rfl rfl (sg_ ?_);refine B1 hm (ι:= {j:Int // 0<=j/\j<(g.length:Int)/\N9 g j=N9 g i}) (λj=> [(0, .cA,A4 1 C8 0 g),(1, .cA,sI j.1)])
  (λ_=> []) (λj=>j.1.toNat) ⟨i,h0,h1,rfl⟩ ?_ ?_
 ·refine D8 [] [] ?_;simp only[go_sem]
 ·rintro⟨j,hj0,hj1,hj⟩;obtain⟨a,b⟩:=hg j.toNat o_;refine sg_ ?_;refine⟨ok_,?_⟩;by_cases he:g.getD j.toNat 0=j
  ·rw[zb (by rw[he];simp)];rw[<-hj,B83 he]
  ·rw[zc (by simpa using he)];refine⟨ok_,?_⟩;refine A8 ⟨g.getD j.toNat 0,a,o_,by rw[C0j hg hj0 hj1 he,hj]⟩ (by show(g.getD j.toNat 0).toNat<j.toNat;omega) (D8 [] [] ?_);simp only[go_sem]
def B2k(a b:Int):Int:=if a<b then b else a
def B5d(a b:Int):Int:=if b<a then b else a
def uni(w:Api.World)(g:List Int)(a b:Int):List Int:=if(A93 w a&&A93 w b)=true then g.set (B2k (N9 g (H5 w a)) (N9 g (H5 w b))).toNat (B5d (N9 g (H5 w a)) (N9 g (H5 w b)))else g
theorem E4i(w:Api.World)(g:List Int)(a b:Int):(uni w g a b).length=g.length:=by unfold uni;split <;> simp
theorem B2z {w:Api.World}{a:Int}(h:A93 w a=true):0<=H5 w a/\H5 w a<(w.cC.length:Int):=by unfold A93 at h;simp only[zi,zk]at h;exact⟨h.1,(A3e w a).2⟩
theorem E81 {w:Api.World}{g:List Int}(hg:UF g)(hl:g.length=w.cC.length)(a b:Int):UF (uni w g a b):=by
 unfold uni;split
 ·rename_i h;rw[zi]at h;obtain⟨a0,a1⟩:=B2z h.1;obtain⟨b0,b1⟩:=B2z h.2;obtain⟨x0,x1,_⟩:=A9c hg a0 o_;obtain⟨y0,y1,_⟩:=A9c hg b0 o_;intro i hi;rw[zM]at hi;generalize N9 g (H5 w a)=x at*;generalize N9 g (H5 w b)=y at*;have hmm:0<=B5d x y/\B5d x y<=B2k x y/\B2k x y<(g.length:Int):=by unfold B5d B2k;split <;> split <;> omega
  generalize B2k x y=p at*;generalize B5d x y=q at*;rw[C3k _ _ _ _ _ o_];split
  ·rename_i he;subst he;omega
  ·exact hg i hi
 ·exact hg
theorem E4d(w:Api.World)(g:List Int)(a b:Int)(hg:UF g)(hl:g.length=w.cC.length)(hw:w.cC.length<=1048576):
  cA_ 257 [.sl 1 0 g.length g.length, .agg w.enc,sI a,sI b] [(1, .arr 1 (B0 C8 0 g))] (.tup []) [(1, .arr 1 (B0 C8 0 (uni w g a b)))]:=by
 refine A3a hm A6 Tryz.func257 rfl rfl (sg_ ?_);refine A0 (B2r w a hw) rfl (sg_ ?_);refine A0 (B2r w b hw) rfl ?_;simp only[go_sem,C7,C0];cases hd:(A93 w a&&A93 w b)with
 |false=>
  have hu:uni w g a b=g:=by unfold uni;rw[zb (by rw[hd];simp)]
  rw[zb p_];refine B8 [] [] [] ?_;simp only[go_sem,hu]
 |true=>
  have hu:uni w g a b=g.set (B2k (N9 g (H5 w a)) (N9 g (H5 w b))).toNat (B5d (N9 g (H5 w a)) (N9 g (H5 w b))):=by unfold uni;rw[zc hd]
  rw[zc rfl];rw[zi]at hd;obtain⟨a0,a1⟩:=B2z hd.1;obtain⟨b0,b1⟩:=B2z hd.2;obtain⟨x0,x1,_⟩:=A9c hg a0 o_;obtain⟨y0,y1,_⟩:=A9c hg b0 o_;refine P8 (D33 g (H5 w a) hg a0 o_) (by refine⟨p_,?_⟩;simp) rfl g_ g_ rfl ?_;refine sg_ ?_;refine P8 (D33 g (H5 w b) hg b0 o_) (by refine⟨p_,?_⟩;simp) rfl g_ g_ rfl ?_;refine sg_ ?_;have hmx:0<=B2k (N9 g (H5 w a)) (N9 g (H5 w b))/\B2k (N9 g (H5 w a)) (N9 g (H5 w b))<(g.length:Int):=by unfold B2k;split <;> omega
  have e1:(if N9 g (H5 w a)<N9 g (H5 w b)then N9 g (H5 w b)else N9 g (H5 w a))=B2k (N9 g (H5 w a)) (N9 g (H5 w b)):=rfl
  have e2:(if N9 g (H5 w b)<N9 g (H5 w a)then N9 g (H5 w b)else N9 g (H5 w a))=B5d (N9 g (H5 w a)) (N9 g (H5 w b)):=rfl;simp only[e1,e2];refine⟨⟨hmx.1,hmx.2⟩,?_⟩;refine B8 [] [] [] ?_;simp only[go_sem,hu];exact A22 (B5d (N9 g (H5 w a)) (N9 g (H5 w b))) o_ rfl rfl
def idL(n:Nat):List Int:=(List.range n).map λ(i:Nat)=>(i:Int)
theorem A6j(n:Nat):(idL n).length=n:=by simp[idL]
theorem E3s {n i:Nat}(h:i<n):(idL n).getD i 0=i:=by simp[idL,List.getD,h]
theorem F6v(n:Nat):UF (idL n):=λi hi=>by rw[A6j]at hi;rw[E3s hi];omega
def uC(w:Api.World)(g:List Int)(c:cX):List Int:=uni w g c.dU.cU c.dU.cV
def uJ(w:Api.World)(g:List Int)(j:cF):List Int:=uni w g j.cU j.cV
def B3m(w:Api.World)(k:Nat):List Int:=(w.cB.take k).foldl (uC w) (idL w.cC.length)
def B2g(w:Api.World)(k:Nat):List Int:=(w.cD.take k).foldl (uJ w) (B3m w w.cB.length)
def H6(w:Api.World):List Int:=B2g w w.cD.length
def UFn(w:Api.World)(g:List Int):Prop:=UF g/\g.length=w.cC.length
theorem C8d(w:Api.World): ∀k,k<=w.cB.length->UFn w (B3m w k)
 |0,_=>⟨F6v _,A6j _⟩
 |k+1,h=>by
  have ih:=C8d w k o_
  have:B3m w (k+1)=uC w (B3m w k) (w.cB.getD k dF_):=by unfold B3m;rw[K9 dF_ o_,qR];rfl
  rw[this];exact⟨E81 ih.1 ih.2 _ _,by unfold uC;rw[E4i];exact ih.2⟩
theorem C8e(w:Api.World): ∀k,k<=w.cD.length->UFn w (B2g w k)
 |0,_=>C8d w _ (ze _)
 |k+1,h=>by
  have ih:=C8e w k o_
  have:B2g w (k+1)=uJ w (B2g w k) (w.cD.getD k dF_):=by unfold B2g;rw[K9 dF_ o_,qR];rfl
  rw[this];exact⟨E81 ih.1 ih.2 _ _,by unfold uJ;rw[E4i];exact ih.2⟩
theorem E3h(w:Api.World):UFn w (H6 w):=C8e w _ (ze _)
def idP(n i:Nat):List Int:=idL i++List.replicate (n-i) 0
theorem E3t {n i:Nat}(h:i<=n):(idP n i).length=n:=by simp[idP,A6j];omega
theorem F3p {n i:Nat}(h:i<n):(idP n i).set i (i:Int)=idP n (i+1):=by
 apply List.ext_getElem?;intro j;have hr:n-i=(n-(i+1))+1:=o_
 unfold idP;rw[List.getElem?_set];by_cases hj:i=j
 ·subst hj;rw[zc rfl,zc (by simp[A6j];omega),ql (by rw[A6j];omega)];simp[idL]
 ·rw[zb hj];rcases qq j i with h1 |h1
  ·rw[ql (by rw[A6j];exact h1),ql (by rw[A6j];omega)];simp[idL,h1,show j<i+1 by omega]
  ·rw[zY (by rw[A6j];exact h1),zY (by rw[A6j];omega),A6j,A6j];simp only[List.getElem?_replicate];congr 1;simp only[eq_iff_iff];omega
def E4r(w:Api.World):Slots:= [(1, .cA, .ptr 32 0 0 1),(3, .cA, .sl 1 0 w.cC.length w.cC.length)]
attribute [go_sem] E4r
theorem E8s(w:Api.World)(hw:Wsm w):cA_ 158 [.agg w.enc] [] (A4 1 C8 0 (H6 w)) []:=by
 obtain⟨w1,w2,w3,w4,w5,w6⟩:=hw;refine en1 hm A6 Tryz.func158 rfl rfl (sg_ ?_);refine⟨ok_,?_⟩;refine B1 hm (ι:= {i:Nat // i<=w.cC.length}) (λi=>(E4r w++ [(14, .cA,sI w.cC.length),(15, .cA,sI i.1)]))
  (λi=> [(32, .box w.enc),(1, .arr 1 (B0 C8 0 (idP w.cC.length i.1)))]) (λi=>w.cC.length-i.1) ⟨0,o_⟩ ?_ ?_
 ·refine D8 [(1,208)] [] (sg_ ?_);refine⟨rfl,(E3t (zm _)).symm,λk hk=> ?_⟩;have hk:k<w.cC.length:=hk
  have:(idP w.cC.length 0).getD k 0=0:=by simp[idP,idL,List.getD,hk]
  simp only[E7i,B20,this];exact I5 _
 ·rintro⟨i,hi⟩;have hpl:=E3t hi;refine sg_ ?_;by_cases hlt:(i:Int)<w.cC.length
  ·rw[zc hlt];have hlt:i<w.cC.length:=o_
   refine⟨⟨o_,o_,o_⟩,hpl.symm,?_⟩;refine A8 ⟨i+1,o_⟩ (by show w.cC.length-(i+1)<w.cC.length-i;omega) (D8 [] [] ?_);refine sg_ ?_;exact⟨wo_,A22 (i:Int) o_ rfl (F3p hlt)⟩
  ·rw[zb hlt];obtain rfl:i=w.cC.length:=o_
   have hid:idP w.cC.length w.cC.length=idL w.cC.length:=by simp[idP]
   refine B1 hm (ι:= {i:Nat // i<=w.cB.length}) (λi=>(E4r w++ [(24, .cA,A4 7 cX.enc dF_ w.cB),(25, .cA,sI w.cB.length),(26, .cA,sI i.1)]))
    (λi=> [(32, .box w.enc),(1, .arr 1 (B0 C8 0 (B3m w i.1)))]) (λi=>w.cB.length-i.1) ⟨0,o_⟩ ?_ ?_
   ·refine D8 [] [] ?_;simp only[go_sem,hid];exact A32 rfl
   ·rintro⟨i,hi⟩;obtain⟨hu,hl⟩:=C8d w i hi;refine sg_ ?_;by_cases hlt:(i:Int)<w.cB.length
    ·rw[zc hlt];have hlt:i<w.cB.length:=o_
     have hs:B3m w (i+1)=uC w (B3m w i) (w.cB.getD i dF_):=by unfold B3m;rw[K9 dF_ o_,qR];rfl
     have hU:=E4d w (B3m w i) (w.cB.getD i dF_).dU.cU (w.cB.getD i dF_).dU.cV hu hl w1;rw[hl]at hU;refine⟨ok_,?_⟩;refine P8 hU (by refine⟨p_,?_⟩;simp) rfl g_ g_ rfl ?_;refine sg_ ?_;refine A8 ⟨i+1,o_⟩ (by show w.cB.length-(i+1)<w.cB.length-i;omega) (D8 [] [] ?_);refine sg_ ?_;exact⟨wo_,A32 hs.symm⟩
    ·rw[zb hlt];obtain rfl:i=w.cB.length:=o_
     refine B1 hm (ι:= {i:Nat // i<=w.cD.length}) (λi=>(E4r w++ [(41, .cA,A4 24 cF.enc dF_ w.cD),(42, .cA,sI w.cD.length),(43, .cA,sI i.1)]))
      (λi=> [(32, .box w.enc),(1, .arr 1 (B0 C8 0 (B2g w i.1)))]) (λi=>w.cD.length-i.1) ⟨0,o_⟩ ?_ ?_
     ·refine D8 [] [] (sg_ ?_);exact A32 rfl
     ·rintro⟨i,hi⟩;obtain⟨hu,hl⟩:=C8e w i hi;refine sg_ ?_;by_cases hlt:(i:Int)<w.cD.length
      ·rw[zc hlt];have hlt:i<w.cD.length:=o_
       have hs:B2g w (i+1)=uJ w (B2g w i) (w.cD.getD i dF_):=by unfold B2g;rw[K9 dF_ o_,qR];rfl
       have hU:=E4d w (B2g w i) (w.cD.getD i dF_).cU (w.cD.getD i dF_).cV hu hl w1;rw[hl]at hU;refine⟨ok_,?_⟩;refine P8 hU (by refine⟨p_,?_⟩;simp) rfl g_ g_ rfl ?_;refine sg_ ?_;refine A8 ⟨i+1,o_⟩ (by show w.cD.length-(i+1)<w.cD.length-i;omega) (D8 [] [] ?_);refine sg_ ?_;exact⟨wo_,A32 hs.symm⟩
      ·rw[zb hlt];obtain rfl:i=w.cD.length:=o_
       have hcl:=(E3h w).2
       have hcc:B2g w w.cD.length=H6 w:=rfl;simp only[go_sem,hcc,hcl]
def kd(w:Api.World)(i:Nat):Bool:=(w.cC.getD i dF_).cS==3
def DG(w:Api.World)(g:List Int):Prop:= ∀i:Nat,i<g.length->g.getD i 0≠(i:Int)->kd w i=true/\kd w (g.getD i 0).toNat=true
theorem C30 {w:Api.World}{g:List Int}(hg:UF g)(hd:DG w g): ∀(k:Nat) (i:Int),i.toNat<=k->0<=i->i<(g.length:Int)->kd w i.toNat=true->kd w (N9 g i).toNat=true
 |k,i,hk,h0,h1,hi=>by
  obtain⟨a,b⟩:=hg i.toNat o_;by_cases he:g.getD i.toNat 0=i
  ·rw[B83 he];exact hi
  ·rw[<-C0j hg h0 h1 he];obtain⟨d1,d2⟩:=hd i.toNat o_ o_;cases k with
   |zero=>omega
   |succ k=>exact C30 hg hd k _ o_ a o_ d2
theorem D44 {w:Api.World}{a:Int}(h:A93 w a=true):kd w (H5 w a).toNat=true:=by unfold A93 at h;rw[zi]at h;exact h.2
theorem E80 {w:Api.World}{g:List Int}(hg:UF g)(hl:g.length=w.cC.length)(hd:DG w g)(a b:Int):DG w (uni w g a b):=by
 unfold uni;split
 ·rename_i h;rw[zi]at h;obtain⟨a0,a1⟩:=B2z h.1;obtain⟨b0,b1⟩:=B2z h.2;obtain⟨x0,x1,_⟩:=A9c hg a0 o_;obtain⟨y0,y1,_⟩:=A9c hg b0 o_;have k1:=C30 hg hd _ _ (ze _) a0 o_ (D44 h.1)
  have k2:=C30 hg hd _ _ (ze _) b0 o_ (D44 h.2);generalize N9 g (H5 w a)=x at*;generalize N9 g (H5 w b)=y at*;have hmm:0<=B5d x y/\B5d x y<=B2k x y/\B2k x y<(g.length:Int)/\kd w (B2k x y).toNat=true/\kd w (B5d x y).toNat=true:=by unfold B5d B2k;split <;> split <;> (refine⟨o_,o_,o_,?_,?_⟩ <;> assumption)
  generalize B2k x y=p at*;generalize B5d x y=q at*;intro i hi hne;rw[zM]at hi;rw[C3k _ _ _ _ _ o_]at hne⊢;by_cases he:i=p.toNat
  ·rw[zc he]at hne⊢;subst he;exact⟨hmm.2.2.2.1,hmm.2.2.2.2⟩
  ·rw[zb he]at hne⊢;exact hd i hi hne
 ·exact hd
theorem F6u(w:Api.World)(n:Nat):DG w (idL n):=λi hi hne=>by rw[A6j]at hi;exact absurd (E3s hi) hne
theorem E3f(w:Api.World): ∀k,k<=w.cB.length->DG w (B3m w k)
 |0,_=>F6u w _
 |k+1,h=>by
  have ih:=C8d w k o_
  have:B3m w (k+1)=uC w (B3m w k) (w.cB.getD k dF_):=by unfold B3m;rw[K9 dF_ o_,qR];rfl
  rw[this];exact E80 ih.1 ih.2 (E3f w k o_) _ _
theorem E3g(w:Api.World): ∀k,k<=w.cD.length->DG w (B2g w k)
 |0,_=>E3f w _ (ze _)
 |k+1,h=>by
  have ih:=C8e w k o_
  have:B2g w (k+1)=uJ w (B2g w k) (w.cD.getD k dF_):=by unfold B2g;rw[K9 dF_ o_,qR];rfl
  rw[this];exact E80 ih.1 ih.2 (E3g w k o_) _ _
theorem F3e(w:Api.World):DG w (H6 w):=E3g w _ (ze _)
def B14(nm:List (Int×Int))(k:Int):Int:=match nm with
 | []=>0
 |(a,v)::r=>if(k==a)=true then v else B14 r k
def C5y(nm:List (Int×Int))(k v:Int):List (Int×Int):=match nm with
 | []=> [(k,v)]
 |(a,u)::r=>if(k==a)=true then(a,v)::r else(a,u)::C5y r k v
def nmE(nm:List (Int×Int)):List (Int×AV):=nm.map λp=>(p.1,sI p.2)
theorem C3t(k:Int): ∀nm:List (Int×Int),(B63 (nmE nm) k).getD (sI 0)=sI (B14 nm k)
 | []=>rfl
 |(a,v)::r=>by
  have ih:=C3t k r;simp only[nmE,qw,B63,B14]at ih⊢;by_cases h:(k==a)=true
  ·rw[zc h,zc h];rfl
  ·rw[zb h,zb h];exact ih
theorem E0c(k v:Int): ∀nm:List (Int×Int),B3z (nmE nm) k (sI v)=nmE (C5y nm k v)
 | []=>rfl
 |(a,u)::r=>by
  have ih:=E0c k v r;simp only[nmE,qw,B3z,C5y]at ih⊢;by_cases h:(k==a)=true
  ·rw[zc h,zc h];rfl
  ·rw[zb h,zb h,ih];rfl
theorem B7p(k v:Int)(j:Int): ∀nm:List (Int×Int),B14 (C5y nm k v) j=if j=k then v else B14 nm j
 | []=>by simp[C5y,B14]
 |(a,u)::r=>by
  have ih:=B7p k v j r;simp only[C5y];by_cases h:(k==a)=true
  ·rw[zc h];have h:k=a:=by simpa using h
   subst h;simp only[B14,qc];split <;> rfl
  ·rw[zb h];have h:k≠a:=by simpa using h
   simp only[B14,qc,ih];by_cases hj:j=a
   ·subst hj;rw[zc rfl,zb (λe=>h e.symm)];simp
   ·rw[zb hj,zb hj]
def C3n(w:Api.World)(g:List Int)(a b:Int):Option Int:=if A93 w a=true then some (N9 g (H5 w a))else if A93 w b=true then some (N9 g (H5 w b))else none
def B3x(w:Api.World)(g:List Int)(nm:List (Int×Int))(a b:Int):Int×Bool:=match C3n w g a b with
 |some k=>(B14 nm k,true)
 |none=>(0,false)
theorem D3x(w:Api.World)(g:List Int)(nm:List (Int×Int))(a b:Int)(hg:UF g)(hl:g.length=w.cC.length)(hw:w.cC.length<=1048576):
  cA_ 160 [A4 1 C8 0 g, .agg w.enc, .mp 384,sI a,sI b] [(384, .map .i64 (nmE nm))] (.tup [sI ((B3x w g nm a b).1),sB ((B3x w g nm a b).2)]) [(384, .map .i64 (nmE nm))]:=by
 refine A3a hm A6 Tryz.func160 rfl rfl (sg_ ?_);refine B1 hm (ι:= {i:Nat // i<=2/\(0<i->A93 w a=false)/\(1<i->A93 w b=false)}) (λi=> [(0, .cA,A4 1 C8 0 g),(2, .cA, .mp 384),(6, .cA, .ptr 112 0 0 1),(18, .cA, .sl 8 0 2 2),(19, .cA,sI 2),(20, .cA,sI i.1)])
  (λ_=> [(384, .map .i64 (nmE nm)),(112, .box w.enc),(8, .arr 1 (B0 C8 0 [a,b]))]) (λi=>2-i.1) ⟨0,o_,o_,o_⟩ ?_ ?_
 ·refine D8 [(8,304)] [] (sg_ ?_);exact⟨rfl,rfl,B7x (λ_ _=>rfl) rfl rfl⟩
 ·rintro⟨i,hi,h0,h1⟩;refine sg_ ?_;by_cases hlt:(i:Int)<2
  ·rw[zc hlt];refine⟨o_,?_⟩;refine A0 (B2r w ([a,b].getD i 0) hw) rfl (sg_ ?_);cases hd:A93 w ([a,b].getD i 0)with
   |true=>
    obtain⟨d0,d1⟩:=B2z hd;rw[zc rfl];refine A0 (D0d g (H5 w ([a,b].getD i 0)) hg d0 o_) rfl (sg_ ?_);have z0:B6w (.int .i64 0)=sI 0:=rfl;simp only[z0,C3t];have e:B3x w g nm a b=(B14 nm (N9 g (H5 w ([a,b].getD i 0))),true):=by
     unfold B3x C3n;rcases qq 0 i with h |h
     ·obtain rfl:i=1:=o_
      rw[h0 h];have hd:A93 w b=true:=hd;rw[hd];rfl
     ·obtain rfl:i=0:=o_
      have hd:A93 w a=true:=hd;rw[hd];rfl
    refine B8 [.cA, .cA] [] [] ?_;simp only[go_sem,e]
    try exact rfl
   |false=>
    rw[zb p_];refine A8 ⟨i+1,o_,λ_=> ?_,λ_=> ?_⟩ (by show 2-(i+1)<2-i;omega) (D8 [] [] ?_)
    ·rcases qq 0 i with h |h
     ·exact h0 h
     ·obtain rfl:i=0:=o_
      exact hd
    ·obtain rfl:i=1:=o_
     exact hd
    refine sg_ ?_;exact⟨wo_,rfl⟩
  ·rw[zb hlt];obtain rfl:i=2:=o_
   have e:B3x w g nm a b=(0,false):=by unfold B3x C3n;rw[h0 o_,h1 o_];rfl
   refine B8 [.cA, .cA] [] [] ?_;simp only[go_sem,e]
   try exact rfl
end Go.Abs
end
