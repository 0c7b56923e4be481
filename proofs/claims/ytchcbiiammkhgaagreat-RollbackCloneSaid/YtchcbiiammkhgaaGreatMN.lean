/- A part of the proof: contracts of functions that the statement reaches. -/
import Derived.Test.YtchcbiiammkhgaaGreatMM
set_option linter.unusedSimpArgs false
set_option linter.unusedVariables false
set_option linter.unnecessarySimpa false
set_option maxRecDepth 100000
set_option maxHeartbeats 2000000
noncomputable section
namespace Go.Abs
open Go.Proofs
open Api
def zl_Joint:List AV:=([(.int .i64 0),(.int .i64 0),(.int .i64 0),(.int .i64 0),(.int .i64 0),(.int .i64 0),(.int .i64 0),(.int .i64 0),(.int .i64 0),(.int .i64 0),(.int .i64 0),(.bool false),(.int .i64 0),(.int .i64 0),(.bool false),(.int .i64 0),(.int .i64 0),(.int .i64 0),(.int .i64 0),(.bool false),(.int .i64 0),(.int .i64 0),(.int .i64 0),(.int .i64 0)]:List Value).map .sc
def D8q(s:Sq)(i:Nat):Slots:= [(0, .cA, .sl 1 0 s.n s.n),(1, .cA,sI i),(2, .cA,sI (i+1:Nat)),(6, .cA, .sc (.slice none 0 0))]
attribute [go_sem] D8q
theorem C2o(s:Sq)(i:Nat)(hi:i<s.n)(hn:s.n<=1048576):cA_ 290 [.sl 1 0 s.n s.n,sI i,sI (i+1:Nat)] [(1, .arr 24 s)] (.sl 1 0 (s.n-1) s.n)
  [(1, .arr 24 ((s.over i ⟨s.n-(i+1),λk=>s.g (i+1+k)⟩).over (s.n-1) ⟨1,λ_=>zl_Joint⟩))]:=by
 obtain⟨zl,hzl⟩: ∃zl,zl=zl_Joint:=⟨_,rfl⟩;rw[<-hzl];have e1:((i:Int)-0).toNat=i:=o_
 have e2:((s.n:Int)-((i+1:Nat):Int)).toNat=s.n-(i+1):=o_
 have e3:i+(s.n-(i+1))=s.n-1:=o_
 have e4:((s.n:Int)-((s.n-1:Nat):Int)).toNat=1:=o_
 refine A8m hm A6 Tryz.func290 rfl rfl ?_;refine B2 (D8q s i) [(1, .arr 24 s)] (B9 hm ?_) ?_
 ·refine st_ ?_;refine A9 [] [] ?_;simp only[go_sem,go_sem_proc]
 refine B2 (D8q s i) [(1, .arr 24 s)] (C2z 5 ?_) ?_
 ·refine st_ ?_;refine And.intro (by(repeat' apply And.intro) <;> first |trivial |omega) ?_;refine A9 [] [] ?_;simp only[go_sem,go_sem_proc]
 refine B2 (D8q s i) [(1, .arr 24 s)] (B9 hm ?_) ?_
 ·refine st_ ?_;rw[zb (by simp;omega)];refine A9 [] [] ?_;simp only[go_sem,go_sem_proc]
 refine B2 (D8q s i++ [(7, .cA,sI s.n)]) [(1, .arr 24 s)] (B9 hm ?_) ?_
 ·refine st_ ?_;refine A9 [] [] ?_;simp only[go_sem,go_sem_proc]
 refine B2 [(0, .cA, .sl 1 0 (s.n-1) s.n),(1, .cA,sI i),(2, .cA,sI (i+1:Nat)),(6, .cA, .sc (.slice none 0 0)),(7, .cA,sI s.n)] [(1, .arr 24 (s.over i ⟨s.n-(i+1),λk=>s.g (i+1+k)⟩))] (D8s 6 hm ?_) ?_
 ·refine st_ ?_;rw[e1,e2,e3];refine⟨⟨o_,o_,o_⟩,⟨o_,o_,o_⟩,⟨o_,o_,by unfold maxLen;omega⟩,?_⟩;refine A9 [] [] ?_;simp only[go_sem,go_sem_proc]
 refine B2 [(0, .cA, .sl 1 0 (s.n-1) s.n),(1, .cA,sI i),(2, .cA,sI (i+1:Nat)),(6, .cA, .sc (.slice none 0 0))] [(1, .arr 24 ((s.over i ⟨s.n-(i+1),λk=>s.g (i+1+k)⟩).over (s.n-1) ⟨1,λ_=>zl⟩))] (C2z 4 ?_) ?_
 ·refine st_ ?_;rw[e4];refine⟨⟨rfl,o_,o_,o_⟩,rfl,?_⟩;refine A9 [] [] (st_ ?_);subst hzl;exact A24
 refine B9 hm (st_ ?_);refine B8 [.cA] [] [] ?_;simp only[go_sem,go_sem_proc]
def zl_Body:List AV:=([(.int .i64 0),(.int .i64 0),(.int .i64 0),(.int .i64 0),(.int .i64 0),(.int .i64 0),(.int .i64 0),(.int .i64 0),(.int .i64 0),(.int .i64 0),(.int .i64 0),(.int .i64 0),(.int .i64 0),(.int .i64 0),(.bool false),(.bool false),(.bool false),(.bool false),(.int .i64 0),(.slice none 0 0)]:List Value).map .sc
def D8r(s:Sq)(i:Nat):Slots:= [(0, .cA, .sl 1 0 s.n s.n),(1, .cA,sI i),(2, .cA,sI (i+1:Nat)),(6, .cA, .sc (.slice none 0 0))]
attribute [go_sem] D8r
theorem C4f(s:Sq)(i:Nat)(hi:i<s.n)(hn:s.n<=1048576):cA_ 284 [.sl 1 0 s.n s.n,sI i,sI (i+1:Nat)] [(1, .arr 20 s)] (.sl 1 0 (s.n-1) s.n)
  [(1, .arr 20 ((s.over i ⟨s.n-(i+1),λk=>s.g (i+1+k)⟩).over (s.n-1) ⟨1,λ_=>zl_Body⟩))]:=by
 obtain⟨zl,hzl⟩: ∃zl,zl=zl_Body:=⟨_,rfl⟩;rw[<-hzl];have e1:((i:Int)-0).toNat=i:=o_
 have e2:((s.n:Int)-((i+1:Nat):Int)).toNat=s.n-(i+1):=o_
 have e3:i+(s.n-(i+1))=s.n-1:=o_
 have e4:((s.n:Int)-((s.n-1:Nat):Int)).toNat=1:=o_
 refine A8m hm A6 Tryz.func284 rfl rfl ?_;refine B2 (D8r s i) [(1, .arr 20 s)] (B9 hm ?_) ?_
 ·refine st_ ?_;refine A9 [] [] ?_;simp only[go_sem,go_sem_proc]
 refine B2 (D8r s i) [(1, .arr 20 s)] (C2z 5 ?_) ?_
 ·refine st_ ?_;refine And.intro (by(repeat' apply And.intro) <;> first |trivial |omega) ?_;refine A9 [] [] ?_;simp only[go_sem,go_sem_proc]
 refine B2 (D8r s i) [(1, .arr 20 s)] (B9 hm ?_) ?_
 ·refine st_ ?_;rw[zb (by simp;omega)];refine A9 [] [] ?_;simp only[go_sem,go_sem_proc]
 refine B2 (D8r s i++ [(7, .cA,sI s.n)]) [(1, .arr 20 s)] (B9 hm ?_) ?_
 ·refine st_ ?_;refine A9 [] [] ?_;simp only[go_sem,go_sem_proc]
 refine B2 [(0, .cA, .sl 1 0 (s.n-1) s.n),(1, .cA,sI i),(2, .cA,sI (i+1:Nat)),(6, .cA, .sc (.slice none 0 0)),(7, .cA,sI s.n)] [(1, .arr 20 (s.over i ⟨s.n-(i+1),λk=>s.g (i+1+k)⟩))] (D8s 6 hm ?_) ?_
 ·refine st_ ?_;rw[e1,e2,e3];refine⟨⟨o_,o_,o_⟩,⟨o_,o_,o_⟩,⟨o_,o_,by unfold maxLen;omega⟩,?_⟩;refine A9 [] [] ?_;simp only[go_sem,go_sem_proc]
 refine B2 [(0, .cA, .sl 1 0 (s.n-1) s.n),(1, .cA,sI i),(2, .cA,sI (i+1:Nat)),(6, .cA, .sc (.slice none 0 0))] [(1, .arr 20 ((s.over i ⟨s.n-(i+1),λk=>s.g (i+1+k)⟩).over (s.n-1) ⟨1,λ_=>zl⟩))] (C2z 4 ?_) ?_
 ·refine st_ ?_;rw[e4];refine⟨⟨rfl,o_,o_,o_⟩,rfl,?_⟩;refine A9 [] [] (st_ ?_);subst hzl;exact A24
 refine B9 hm (st_ ?_);refine B8 [.cA] [] [] ?_;simp only[go_sem,go_sem_proc]
def A30 {α:Type}(d:α)(p:α->Bool)(j:Nat)(s:Nat×List α):Nat×List α:=if p (s.2.getD j d)then s else(s.1+1,s.2.set s.1 (s.2.getD j d))
def dfR {α:Type}(d:α)(p:α->Bool)(l:List α):Nat->Nat×List α
 |0=>(0,l)
 |j+1=>A30 d p j (dfR d p l j)
theorem B0t {α:Type}{d:α}{p:α->Bool}{l:List α}: ∀j,j<=l.length->(dfR d p l j).1<=j/\(dfR d p l j).2.length=l.length/\(∀k,j<=k->(dfR d p l j).2.getD k d=l.getD k d)/\(dfR d p l j).2.take (dfR d p l j).1=(l.take j).filter λx=> !p x
 |0,_=>⟨ze _,rfl,λ_ _=>rfl,by simp[dfR]⟩
 |j+1,hj=>by
  obtain⟨h1,h2,h3,h4⟩:=B0t (d:=d) (p:=p) (l:=l) j o_;have hg:=h3 j (ze _)
  have ht:l.take (j+1)=l.take j++ [l.getD j d]:=by rw[yW];congr 1;simp[List.getD,zg (show j<l.length by omega)]
  unfold dfR A30;rw[hg];by_cases hp:p (l.getD j d)=true
  ·rw[zc hp];refine⟨o_,h2,λk hk=>h3 k o_,?_⟩;rw[ht,xq,h4,yY,List.filter_nil,hp];simp
  ·rw[zb hp];refine⟨by show(dfR d p l j).1+1<=j+1;omega,by simpa using h2,λk hk=> ?_,?_⟩
   ·show((dfR d p l j).2.set (dfR d p l j).1 (l.getD j d)).getD k d=_;rw[<-h3 k o_];simp only[List.getD,List.getElem?_set];rw[zb o_]
   ·show((dfR d p l j).2.set (dfR d p l j).1 (l.getD j d)).take ((dfR d p l j).1+1)=_;rw[ht,xq,<-h4,yW,List.take_set_of_le (ze _)];have hp':p (l.getD j d)=false:=by simpa using hp
    rw[yY,List.filter_nil,hp'];simp[h2,show(dfR d p l j).1<l.length by omega]
theorem A49 {α:Type}{d:α}{p:α->Bool}{l:List α}: ∀j,j<=l.length->(∀k,k<j->p (l.getD k d)=false)->dfR d p l j=(j,l)
 |0,_,_=>rfl
 |j+1,hj,h=>by
  rw[dfR,A49 j o_ λk hk=>h k o_];unfold A30;simp only[h j o_,zf,zJ,zq,qo];have:l.getD j d=l[j]:=by simp[List.getD,zg (show j<l.length by omega)]
  rw[this,List.set_getElem_self]
def dfQ {α:Type}(enc:α->List AV)(d:α)(p:α->Bool)(l:List α)(zl:List AV):Sq:=(B0 enc d (dfR d p l l.length).2).over (dfR d p l l.length).1 ⟨l.length-(dfR d p l l.length).1,λ_=>zl⟩
theorem F3i {α:Type}{d:α}{p:α->Bool}{l:List α}:(dfR d p l l.length).1=(l.filter λx=> !p x).length:=by obtain⟨h1,h2,h3,h4⟩:=B0t (d:=d) (p:=p) (l:=l) l.length (ze _);rw[zn]at h4;rw[<-h4,zt,h2];omega
theorem C56 {α:Type}{enc:α->List AV}{d:α}{p:α->Bool}{l:List α}{zl:List AV}{z:Nat}{g:Nat->List AV}{m:Nat}(hm:m=(dfR d p l l.length).1)(hg: ∀k,g k=(dfQ enc d p l zl).g k):M9 (.dsl z m g) (A4 z enc d (l.filter λx=> !p x)):=by
 subst hm;unfold A4;rw[U6];refine⟨rfl,F3i,λk hk=> ?_⟩;rw[hg];obtain⟨h1,h2,h3,h4⟩:=B0t (d:=d) (p:=p) (l:=l) l.length (ze _);rw[zn]at h4;have e:(dfQ enc d p l zl).g k=enc ((dfR d p l l.length).2.getD k d):=by show(if _ then _ else _:List AV)=_;rw[zb o_];rfl
 rw[e,I9,<-h4];have:((dfR d p l l.length).2.take (dfR d p l l.length).1).getD k d=(dfR d p l l.length).2.getD k d:=by simp only[List.getD,qX];rw[zc hk]
 rw[this];exact I5 _
theorem A23 {P:Program}{m:Nat->Option A7}{f:FuncId}{avs:List AV}{b:Bool}{Q:ContR}{r:AV}(hc:D5 P f avs [] r [])(ha:F6 avs= [])(hb:b=true)(hK: @Ri Q b ⟨some r,[]⟩): @A25 P m f avs b Q:=
 Z7 hc ⟨yT,λ_ h=>by cases h⟩ (λ_ h=>by cases h) (λa hav i hi=>by obtain⟨k,hk⟩:=zA hav;have:=P7 hk i hi;rw[ha]at this;cases this) hb hK
theorem A8p: ∀(a b:List AV),F6 (a++b)=F6 a++F6 b
 | [],b=>rfl
 |x::a,b=>by rw[List.cons_append,F6,F6,A8p a b,zx]
theorem B3w {α:Type}{d:α}{p:α->Bool}{l:List α}:(A3u d p l= -1/\ ∀j,j<l.length->p (l.getD j d)=false)\/ ∃i:Nat,i<l.length/\A3u d p l=i/\p (l.getD i d)=true/\ ∀j,j<i->p (l.getD j d)=false:=by
 by_cases h: ∀j,j<l.length->p (l.getD j d)=false
 ·exact .inl ⟨A2x h,h⟩
 ·right;have: ∃i,i<l.length/\p (l.getD i d)=true/\ ∀j,j<i->p (l.getD j d)=false:=by
   have hex: ∃i,i<l.length/\p (l.getD i d)=true:=by
    apply yQ;intro hn;refine h λj hj=> ?_;cases hp:p (l.getD j d)with
    |false=>rfl
    |true=>exact absurd ⟨j,hj,hp⟩ hn
   obtain⟨i,hi,hp⟩:=hex;induction i using Nat.strongRecOn with
   |ind i ih=>
    by_cases hs: ∀j,j<i->p (l.getD j d)=false
    ·exact⟨i,hi,hp,hs⟩
    ·have: ∃j,j<i/\p (l.getD j d)=true:=by
      apply yQ;intro hn;refine hs λj hj=> ?_;cases hpj:p (l.getD j d)with
      |false=>rfl
      |true=>exact absurd ⟨j,hj,hpj⟩ hn
     obtain⟨j,hj,hpj⟩:=this;exact ih j hj o_ hpj
  obtain⟨i,hi,hp,hs⟩:=this;exact⟨i,hi,A6k hi hs hp,hp,hs⟩
theorem B8q {α:Type}{enc:α->List AV}{d:α}{p:α->Bool}{l:List α}{zl:List AV}(h: ∀j,j<l.length->p (l.getD j d)=false):dfQ enc d p l zl=B0 enc d l:=by unfold dfQ;rw[A49 l.length (ze _) h];unfold Sq.over B0;congr 1;funext k;rw[zb (by simp only;omega)]
def E21:List AV:=([(.int .i64 0),(.int .i64 0),(.int .i64 0),(.int .i64 0)]:List Value).map .sc
theorem B4m(l:List cR)(f:FuncId)(first cap:List AV)(p:cR->Bool)(hl:l.length<=4194304)(h1:F6 first= [])(h2:F6 cap= [])
  (hp: ∀x∈l,cA_ f (first++ [.agg x.enc]++cap) [] (sB (p x)) []):
  cA_ 239 [.sl 1 0 l.length l.length, .fn (.func f) first cap] [(1, .arr 4 (B0 cR.enc dF_ l))] (sI (A3u dF_ p l)) [(1, .arr 4 (B0 cR.enc dF_ l))]:=by
 refine A8m hm A6 Tryz.func239 rfl rfl ?_;refine B9 hm (st_ ?_);refine B1 hm (ι:= {i:Nat // i<=l.length/\ ∀j,j<i->p (l.getD j dF_)=false}) (λi=> [(0, .cA, .sl 1 0 l.length l.length),(1, .cA, .fn (.func f) first cap),(7, .cA,sI l.length),(8, .cA,sI i.1)])
  (λi=> [(1, .arr 4 (B0 cR.enc dF_ l))]) (λi=>l.length-i.1) ⟨0,o_,λj hj=>by omega⟩ ?_ ?_
 ·refine A9 [] [] (st_ ?_);exact⟨(AV.ren_id (.fn (.func f) first cap)).symm,λi hi=>by rw[h1,h2]at hi;cases hi⟩
 ·rintro⟨i,hi,hs⟩;refine st_ ?_;split
  ·rename_i hlt;have hlt:i<l.length:=o_
   refine⟨bE_,?_⟩;have hx:=hp (l.getD i dF_) (B6 dF_ hlt);rw[zx]at hx;refine A23 hx (by simp[A8p,h1,h2,F6,AV.ids]) rfl (st_ ?_);cases hpx:p (l.getD i dF_)with
   |true=>rw[zc rfl];refine B8 [.cA] [] [] (st_ ?_);exact(A6k hlt hs hpx).symm
   |false=>rw[zb p_];refine A8 ⟨i+1,o_,λj hj=>by rcases zF.1 hj with h |rfl;exact hs j h;exact hpx⟩ (by show l.length-(i+1)<l.length-i;omega) ?_;refine A9 [] [] (st_ ?_);exact⟨(AV.ren_id (.fn (.func f) first cap)).symm,(λi hi=>by rw[h1,h2]at hi;cases hi),wo_⟩
  ·rename_i hge;refine B8 [.cA] [] [] (st_ ?_);exact(A2x λj hj=>hs j o_).symm
theorem B6o(l:List cR)(f:FuncId)(first cap:List AV)(p:cR->Bool)(hl:l.length<=4194304)(h1:F6 first= [])(h2:F6 cap= [])
  (hp: ∀x∈l,cA_ f (first++ [.agg x.enc]++cap) [] (sB (p x)) []):
  cA_ 288 [.sl 1 0 l.length l.length, .fn (.func f) first cap] [(1, .arr 4 (B0 cR.enc dF_ l))] (.sl 1 0 (dfR dF_ p l l.length).1 l.length) [(1, .arr 4 (dfQ cR.enc dF_ p l E21))]:=by
 refine A8m hm A6 Tryz.func288 rfl rfl ?_;refine B9 hm (st_ ?_);refine Z7 (B4m l f first cap p hl h1 h2 hp) (by simp[okO]) (by simp[upd]) ?_ rfl ?_
 ·intro a ha i hi;simp only[zo,zr,zU]at ha;rcases ha with rfl |rfl
  ·simp only[AV.ids,zu]at hi;subst hi;rfl
  ·simp only[AV.ids,h1,h2]at hi;cases hi
 refine st_ ?_;rcases B3w (d:=dF_) (p:=p) (l:=l)with⟨e,h0⟩ |⟨i0,hi0,e,hp0,hs0⟩
 ·rw[e,zc (by decide),B8q h0,A49 l.length (ze _) h0];refine B8 [.cA] [] [] ?_;simp only[go_sem,go_sem_proc]
 rw[e,zb p_];refine B1 hm (ι:= {j:Nat // j<=l.length}) (λj=> [(0, .cA, .sl 1 0 l.length l.length),(1, .cA, .fn (.func f) first cap),(5, .cA,sI ((dfR dF_ p l j.1).1)),(6, .cA,sI j.1)])
  (λj=> [(1, .arr 4 (B0 cR.enc dF_ (dfR dF_ p l j.1).2))]) (λj=>l.length-j.1) ⟨i0+1,hi0⟩ ?_ ?_
 ·have e1:dfR dF_ p l (i0+1)=(i0,l):=by
   rw[dfR,A49 i0 o_ hs0];unfold A30;rw[zc hp0]
  rw[e1];refine A9 [] [] (st_ ?_);exact⟨(AV.ren_id (.fn (.func f) first cap)).symm,(λi hi=>by rw[h1,h2]at hi;cases hi),wo_⟩
 ·rintro⟨j,hj⟩;obtain⟨g1,g2,g3,g4⟩:=B0t (d:=dF_) (p:=p) (l:=l) j hj;dsimp only;have hnext:=λhjl:j<l.length=>(show dfR dF_ p l (j+1)=A30 dF_ p j (dfR dF_ p l j)from rfl);generalize hst:dfR dF_ p l j=st at g1 g2 g3 g4 hnext⊢;obtain⟨i,m⟩:=st;dsimp only at g1 g2 g3 g4 hnext⊢;refine st_ ?_;split
  ·rename_i hlt;have hlt:j<l.length:=o_
   have hgj:=g3 j (ze j)
   have hn:=hnext hlt;simp only[hgj];refine⟨⟨g2.symm,o_,o_⟩,g2.symm,?_⟩;have hx:=hp (l.getD j dF_) (B6 dF_ hlt);rw[zx]at hx;refine A23 hx (by simp[A8p,h1,h2,F6,AV.ids]) rfl (st_ ?_);unfold A30 at hn;dsimp only at hn;rw[hgj]at hn;cases hpx:p (l.getD j dF_)with
   |true=>rw[hpx,zc rfl]at hn;rw[zb p_];refine A8 ⟨j+1,hlt⟩ (by show l.length-(j+1)<l.length-j;omega) ?_;simp only[hn];refine A9 [] [] (st_ ?_);exact⟨(AV.ren_id (.fn (.func f) first cap)).symm,(λi hi=>by rw[h1,h2]at hi;cases hi),wo_⟩
   |false=>rw[hpx,zb p_]at hn;rw[zc rfl];refine⟨⟨g2.symm,o_,o_⟩,g2.symm,?_⟩;refine A8 ⟨j+1,hlt⟩ (by show l.length-(j+1)<l.length-j;omega) ?_;simp only[hn];rw[A67 (l.getD j dF_) o_ (by rw[<-hgj];rfl)];refine A9 [] [] (st_ ?_);exact⟨(AV.ren_id (.fn (.func f) first cap)).symm,(λi hi=>by rw[h1,h2]at hi;cases hi),wo_,wo_⟩
  ·rename_i hge;obtain rfl:j=l.length:=o_
   have e1:((l.length:Int)-(i:Int)).toNat=l.length-i:=o_
   have e2:((i:Int)-0).toNat=i:=o_
   rw[e1,e2];refine⟨⟨g2.symm,o_,o_,o_⟩,g2.symm,⟨g2.symm,o_,o_,o_⟩,?_⟩;unfold dfQ;rw[hst];refine B8 [.cA] [] [] (st_ ?_);exact A24
def D7a:List AV:=([(.int .i64 0),(.int .i64 0),(.int .i64 0),(.int .i64 0),(.int .i64 0),(.int .i64 0),(.int .i64 0),(.int .i64 0),(.int .i64 0),(.int .i64 0),(.int .i64 0),(.bool false),(.int .i64 0),(.int .i64 0),(.bool false),(.int .i64 0),(.int .i64 0),(.int .i64 0),(.int .i64 0),(.bool false),(.int .i64 0),(.int .i64 0),(.int .i64 0),(.int .i64 0)]:List Value).map .sc
theorem B5o(l:List cF)(f:FuncId)(first cap:List AV)(p:cF->Bool)(hl:l.length<=4194304)(h1:F6 first= [])(h2:F6 cap= [])
  (hp: ∀x∈l,cA_ f (first++ [.agg x.enc]++cap) [] (sB (p x)) []):
  cA_ 333 [.sl 1 0 l.length l.length, .fn (.func f) first cap] [(1, .arr 24 (B0 cF.enc dF_ l))] (sI (A3u dF_ p l)) [(1, .arr 24 (B0 cF.enc dF_ l))]:=by
 refine A8m hm A6 Tryz.func333 rfl rfl ?_;refine B9 hm (st_ ?_);refine B1 hm (ι:= {i:Nat // i<=l.length/\ ∀j,j<i->p (l.getD j dF_)=false}) (λi=> [(0, .cA, .sl 1 0 l.length l.length),(1, .cA, .fn (.func f) first cap),(7, .cA,sI l.length),(8, .cA,sI i.1)])
  (λi=> [(1, .arr 24 (B0 cF.enc dF_ l))]) (λi=>l.length-i.1) ⟨0,o_,λj hj=>by omega⟩ ?_ ?_
 ·refine A9 [] [] (st_ ?_);exact⟨(AV.ren_id (.fn (.func f) first cap)).symm,λi hi=>by rw[h1,h2]at hi;cases hi⟩
 ·rintro⟨i,hi,hs⟩;refine st_ ?_;split
  ·rename_i hlt;have hlt:i<l.length:=o_
   refine⟨bE_,?_⟩;have hx:=hp (l.getD i dF_) (B6 dF_ hlt);rw[zx]at hx;refine A23 hx (by simp[A8p,h1,h2,F6,AV.ids]) rfl (st_ ?_);cases hpx:p (l.getD i dF_)with
   |true=>rw[zc rfl];refine B8 [.cA] [] [] (st_ ?_);exact(A6k hlt hs hpx).symm
   |false=>rw[zb p_];refine A8 ⟨i+1,o_,λj hj=>by rcases zF.1 hj with h |rfl;exact hs j h;exact hpx⟩ (by show l.length-(i+1)<l.length-i;omega) ?_;refine A9 [] [] (st_ ?_);exact⟨(AV.ren_id (.fn (.func f) first cap)).symm,(λi hi=>by rw[h1,h2]at hi;cases hi),wo_⟩
  ·rename_i hge;refine B8 [.cA] [] [] (st_ ?_);exact(A2x λj hj=>hs j o_).symm
theorem B72(l:List cF)(f:FuncId)(first cap:List AV)(p:cF->Bool)(hl:l.length<=4194304)(h1:F6 first= [])(h2:F6 cap= [])
  (hp: ∀x∈l,cA_ f (first++ [.agg x.enc]++cap) [] (sB (p x)) []):
  cA_ 202 [.sl 1 0 l.length l.length, .fn (.func f) first cap] [(1, .arr 24 (B0 cF.enc dF_ l))] (.sl 1 0 (dfR dF_ p l l.length).1 l.length) [(1, .arr 24 (dfQ cF.enc dF_ p l D7a))]:=by
 refine A8m hm A6 Tryz.func202 rfl rfl ?_;refine B9 hm (st_ ?_);refine Z7 (B5o l f first cap p hl h1 h2 hp) (by simp[okO]) (by simp[upd]) ?_ rfl ?_
 ·intro a ha i hi;simp only[zo,zr,zU]at ha;rcases ha with rfl |rfl
  ·simp only[AV.ids,zu]at hi;subst hi;rfl
  ·simp only[AV.ids,h1,h2]at hi;cases hi
 refine st_ ?_;rcases B3w (d:=dF_) (p:=p) (l:=l)with⟨e,h0⟩ |⟨i0,hi0,e,hp0,hs0⟩
 ·rw[e,zc (by decide),B8q h0,A49 l.length (ze _) h0];refine B8 [.cA] [] [] ?_;simp only[go_sem,go_sem_proc]
 rw[e,zb p_];refine B1 hm (ι:= {j:Nat // j<=l.length}) (λj=> [(0, .cA, .sl 1 0 l.length l.length),(1, .cA, .fn (.func f) first cap),(5, .cA,sI ((dfR dF_ p l j.1).1)),(6, .cA,sI j.1)])
  (λj=> [(1, .arr 24 (B0 cF.enc dF_ (dfR dF_ p l j.1).2))]) (λj=>l.length-j.1) ⟨i0+1,hi0⟩ ?_ ?_
 ·have e1:dfR dF_ p l (i0+1)=(i0,l):=by
   rw[dfR,A49 i0 o_ hs0];unfold A30;rw[zc hp0]
  rw[e1];refine A9 [] [] (st_ ?_);exact⟨(AV.ren_id (.fn (.func f) first cap)).symm,(λi hi=>by rw[h1,h2]at hi;cases hi),wo_⟩
 ·rintro⟨j,hj⟩;obtain⟨g1,g2,g3,g4⟩:=B0t (d:=dF_) (p:=p) (l:=l) j hj;dsimp only;have hnext:=λhjl:j<l.length=>(show dfR dF_ p l (j+1)=A30 dF_ p j (dfR dF_ p l j)from rfl);generalize hst:dfR dF_ p l j=st at g1 g2 g3 g4 hnext⊢;obtain⟨i,m⟩:=st;dsimp only at g1 g2 g3 g4 hnext⊢;refine st_ ?_;split
  ·rename_i hlt;have hlt:j<l.length:=o_
   have hgj:=g3 j (ze j)
   have hn:=hnext hlt;simp only[hgj];refine⟨⟨g2.symm,o_,o_⟩,g2.symm,?_⟩;have hx:=hp (l.getD j dF_) (B6 dF_ hlt);rw[zx]at hx;refine A23 hx (by simp[A8p,h1,h2,F6,AV.ids]) rfl (st_ ?_);unfold A30 at hn;dsimp only at hn;rw[hgj]at hn;cases hpx:p (l.getD j dF_)with
   |true=>rw[hpx,zc rfl]at hn;rw[zb p_];refine A8 ⟨j+1,hlt⟩ (by show l.length-(j+1)<l.length-j;omega) ?_;simp only[hn];refine A9 [] [] (st_ ?_);exact⟨(AV.ren_id (.fn (.func f) first cap)).symm,(λi hi=>by rw[h1,h2]at hi;cases hi),wo_⟩
   |false=>rw[hpx,zb p_]at hn;rw[zc rfl];refine⟨⟨g2.symm,o_,o_⟩,g2.symm,?_⟩;refine A8 ⟨j+1,hlt⟩ (by show l.length-(j+1)<l.length-j;omega) ?_;simp only[hn];rw[A67 (l.getD j dF_) o_ (by rw[<-hgj];rfl)];refine A9 [] [] (st_ ?_);exact⟨(AV.ren_id (.fn (.func f) first cap)).symm,(λi hi=>by rw[h1,h2]at hi;cases hi),wo_,wo_⟩
  ·rename_i hge;obtain rfl:j=l.length:=o_
   have e1:((l.length:Int)-(i:Int)).toNat=l.length-i:=o_
   have e2:((i:Int)-0).toNat=i:=o_
   rw[e1,e2];refine⟨⟨g2.symm,o_,o_,o_⟩,g2.symm,⟨g2.symm,o_,o_,o_⟩,?_⟩;unfold dfQ;rw[hst];refine B8 [.cA] [] [] (st_ ?_);exact A24
def E2z:List AV:=([(.int .i64 0),(.int .i64 0),(.int .i64 0),(.int .i64 0),(.int .i64 0),(.int .i64 0),(.slice none 0 0)]:List Value).map .sc
theorem B4k(l:List cX)(f:FuncId)(first cap:List AV)(p:cX->Bool)(hl:l.length<=4194304)(h1:F6 first= [])(h2:F6 cap= [])
  (hp: ∀x∈l,cA_ f (first++ [.agg x.enc]++cap) [] (sB (p x)) []):
  cA_ 411 [.sl 1 0 l.length l.length, .fn (.func f) first cap] [(1, .arr 7 (B0 cX.enc dF_ l))] (sI (A3u dF_ p l)) [(1, .arr 7 (B0 cX.enc dF_ l))]:=by
 refine A8m hm A6 Tryz.func411 rfl rfl ?_;refine B9 hm (st_ ?_);refine B1 hm (ι:= {i:Nat // i<=l.length/\ ∀j,j<i->p (l.getD j dF_)=false}) (λi=> [(0, .cA, .sl 1 0 l.length l.length),(1, .cA, .fn (.func f) first cap),(7, .cA,sI l.length),(8, .cA,sI i.1)])
  (λi=> [(1, .arr 7 (B0 cX.enc dF_ l))]) (λi=>l.length-i.1) ⟨0,o_,λj hj=>by omega⟩ ?_ ?_
 ·refine A9 [] [] (st_ ?_);exact⟨(AV.ren_id (.fn (.func f) first cap)).symm,λi hi=>by rw[h1,h2]at hi;cases hi⟩
 ·rintro⟨i,hi,hs⟩;refine st_ ?_;split
  ·rename_i hlt;have hlt:i<l.length:=o_
   refine⟨bE_,?_⟩;have hx:=hp (l.getD i dF_) (B6 dF_ hlt);rw[zx]at hx;refine A23 hx (by simp[A8p,h1,h2,F6,AV.ids]) rfl (st_ ?_);cases hpx:p (l.getD i dF_)with
   |true=>rw[zc rfl];refine B8 [.cA] [] [] (st_ ?_);exact(A6k hlt hs hpx).symm
   |false=>rw[zb p_];refine A8 ⟨i+1,o_,λj hj=>by rcases zF.1 hj with h |rfl;exact hs j h;exact hpx⟩ (by show l.length-(i+1)<l.length-i;omega) ?_;refine A9 [] [] (st_ ?_);exact⟨(AV.ren_id (.fn (.func f) first cap)).symm,(λi hi=>by rw[h1,h2]at hi;cases hi),wo_⟩
  ·rename_i hge;refine B8 [.cA] [] [] (st_ ?_);exact(A2x λj hj=>hs j o_).symm
theorem B6m(l:List cX)(f:FuncId)(first cap:List AV)(p:cX->Bool)(hl:l.length<=4194304)(h1:F6 first= [])(h2:F6 cap= [])
  (hp: ∀x∈l,cA_ f (first++ [.agg x.enc]++cap) [] (sB (p x)) []):
  cA_ 286 [.sl 1 0 l.length l.length, .fn (.func f) first cap] [(1, .arr 7 (B0 cX.enc dF_ l))] (.sl 1 0 (dfR dF_ p l l.length).1 l.length) [(1, .arr 7 (dfQ cX.enc dF_ p l E2z))]:=by
 refine A8m hm A6 Tryz.func286 rfl rfl ?_;refine B9 hm (st_ ?_);refine Z7 (B4k l f first cap p hl h1 h2 hp) (by simp[okO]) (by simp[upd]) ?_ rfl ?_
 ·intro a ha i hi;simp only[zo,zr,zU]at ha;rcases ha with rfl |rfl
  ·simp only[AV.ids,zu]at hi;subst hi;rfl
  ·simp only[AV.ids,h1,h2]at hi;cases hi
 refine st_ ?_;rcases B3w (d:=dF_) (p:=p) (l:=l)with⟨e,h0⟩ |⟨i0,hi0,e,hp0,hs0⟩
 ·rw[e,zc (by decide),B8q h0,A49 l.length (ze _) h0];refine B8 [.cA] [] [] ?_;simp only[go_sem,go_sem_proc]
 rw[e,zb p_];refine B1 hm (ι:= {j:Nat // j<=l.length}) (λj=> [(0, .cA, .sl 1 0 l.length l.length),(1, .cA, .fn (.func f) first cap),(5, .cA,sI ((dfR dF_ p l j.1).1)),(6, .cA,sI j.1)])
  (λj=> [(1, .arr 7 (B0 cX.enc dF_ (dfR dF_ p l j.1).2))]) (λj=>l.length-j.1) ⟨i0+1,hi0⟩ ?_ ?_
 ·have e1:dfR dF_ p l (i0+1)=(i0,l):=by
   rw[dfR,A49 i0 o_ hs0];unfold A30;rw[zc hp0]
  rw[e1];refine A9 [] [] (st_ ?_);exact⟨(AV.ren_id (.fn (.func f) first cap)).symm,(λi hi=>by rw[h1,h2]at hi;cases hi),wo_⟩
 ·rintro⟨j,hj⟩;obtain⟨g1,g2,g3,g4⟩:=B0t (d:=dF_) (p:=p) (l:=l) j hj;dsimp only;have hnext:=λhjl:j<l.length=>(show dfR dF_ p l (j+1)=A30 dF_ p j (dfR dF_ p l j)from rfl);generalize hst:dfR dF_ p l j=st at g1 g2 g3 g4 hnext⊢;obtain⟨i,m⟩:=st;dsimp only at g1 g2 g3 g4 hnext⊢;refine st_ ?_;split
  ·rename_i hlt;have hlt:j<l.length:=o_
   have hgj:=g3 j (ze j)
   have hn:=hnext hlt;simp only[hgj];refine⟨⟨g2.symm,o_,o_⟩,g2.symm,?_⟩;have hx:=hp (l.getD j dF_) (B6 dF_ hlt);rw[zx]at hx;refine A23 hx (by simp[A8p,h1,h2,F6,AV.ids]) rfl (st_ ?_);unfold A30 at hn;dsimp only at hn;rw[hgj]at hn;cases hpx:p (l.getD j dF_)with
   |true=>rw[hpx,zc rfl]at hn;rw[zb p_];refine A8 ⟨j+1,hlt⟩ (by show l.length-(j+1)<l.length-j;omega) ?_;simp only[hn];refine A9 [] [] (st_ ?_);exact⟨(AV.ren_id (.fn (.func f) first cap)).symm,(λi hi=>by rw[h1,h2]at hi;cases hi),wo_⟩
   |false=>rw[hpx,zb p_]at hn;rw[zc rfl];refine⟨⟨g2.symm,o_,o_⟩,g2.symm,?_⟩;refine A8 ⟨j+1,hlt⟩ (by show l.length-(j+1)<l.length-j;omega) ?_;simp only[hn];rw[A67 (l.getD j dF_) o_ (by rw[<-hgj];rfl)];refine A9 [] [] (st_ ?_);exact⟨(AV.ren_id (.fn (.func f) first cap)).symm,(λi hi=>by rw[h1,h2]at hi;cases hi),wo_,wo_⟩
  ·rename_i hge;obtain rfl:j=l.length:=o_
   have e1:((l.length:Int)-(i:Int)).toNat=l.length-i:=o_
   have e2:((i:Int)-0).toNat=i:=o_
   rw[e1,e2];refine⟨⟨g2.symm,o_,o_,o_⟩,g2.symm,⟨g2.symm,o_,o_,o_⟩,?_⟩;unfold dfQ;rw[hst];refine B8 [.cA] [] [] (st_ ?_);exact A24
def uf(k:Int):Bool×Bool×Bool:=if k=1\/k=2\/k=7 then(true,true,false)else if k=3\/k=8 then(true,false,true)else if k=4\/k=5 then(true,true,true)else if k=6\/k=10\/k=12 then(true,false,false)else(false,false,false)
theorem C7i(k:Int):cA_ 211 [sI k] [] (.tup [sB ((uf k).1),sB ((uf k).2.1),sB ((uf k).2.2)]) []:=by
 by_cases h:k=1\/k=2\/k=3\/k=4\/k=5\/k=6\/k=7\/k=8\/k=10\/k=12
 ·rcases h with rfl |rfl |rfl |rfl |rfl |rfl |rfl |rfl |rfl |rfl
  all_goals
   refine enT hm A6 Tryz.func211 rfl rfl ?_;simp only[go_sem,go_sem_proc,Int.reduceBEq];exact⟨rfl,rfl,rfl⟩
 simp only[qy]at h;obtain⟨h1,h2,h3,h4,h5,h6,h7,h8,h10,h12⟩:=h;have hu:uf k=(false,false,false):=by simp[uf, *]
 rw[hu];refine enT hm A6 Tryz.func211 rfl rfl (st_ ?_);simp only[qt.2 h1,qt.2 h2,qt.2 h3,qt.2 h4,qt.2 h5,qt.2 h6,qt.2 h7,qt.2 h8,qt.2 h10,qt.2 h12,h1,h2,h3,h4,h5,h6,h7,h8,h10,h12,go_sem,go_sem_proc]
theorem A3o {α:Type}{z:Nat}{enc:α->List AV}{d:α}{l:List α}{i:Nat}{a:α}(hi:i<l.length)(c:List AV)(hc:c=enc a):M9 (.dsl z l.length ((B0 enc d l).set i c).g) (.dsl z l.length (I9 enc d (l.set i a))):=by subst hc;rw[A67 _ hi rfl];exact D0 _
def A7d(w:Api.World)(id:Int):Api.World:=if 0<=H5 w id/\(w.cC.getD (H5 w id).toNat dF_).cS=3 then {w with cC:=w.cC.set (H5 w id).toNat {(w.cC.getD (H5 w id).toNat dF_)with eX:=false,eM:=0}}else w
theorem A4a(w:Api.World)(id:Int)(hw:Wsm w):cA_ 291 [.agg w.enc,sI id] [] (.agg (A7d w id).enc) []:=by
 have hB:=hw.1
 have hlt:=A3e w id;refine M3 33 [(4,some (some 11))] hm A6 Tryz.func291 rfl (st_ ?_);refine J5 ev_ K1 (U5 w hw) (st_ ?_);refine B8c ev_ K1 (T1 w id hB) (by rfl) (st_ ?_);refine⟨λh=>⟨h,hlt.2⟩,?_⟩;by_cases hc:0<=H5 w id/\(w.cC.getD (H5 w id).toNat dF_).cS=3
 ·have hi:(H5 w id).toNat<w.cC.length:=o_
  rw[zc (by rw[zc hc.1];simpa using hc.2)];refine⟨⟨hc.1,hlt.2⟩,⟨hc.1,hlt.2⟩,?_⟩;simp(disch:=omega) only[A7d,zc hc,A1y,zM,qo,qV];exact⟨A3o hi _ rfl,D0 _,D0 _,D0 _⟩
 ·rw[zb (by intro h;apply hc;split at h <;> simp_all)];simp only[A7d,zb hc,qo,qV];exact⟨D0 _,D0 _,D0 _,D0 _⟩
theorem C7x(l m:List cI)(hl:l.length<=1048576):cA_ 521 [A4 2 cI.enc dF_ l,A4 2 cI.enc dF_ m] [] (sB (decide (l=m))) []:=by
 refine en1 hm A6 Tryz.func521 rfl rfl (sg_ ?_);split
 ·rename_i hne;exact(zp (D1k λe=>by rw[e]at hne;simp at hne)).symm
 ·rename_i hne;have hlen:l.length=m.length:=by simp at hne;omega
  refine B1 hm (ι:= {i:Nat // i<=l.length/\l.take i=m.take i}) (λi=> [(0, .cA,A4 2 cI.enc dF_ l),(1, .cA,A4 2 cI.enc dF_ m),(12, .cA,sI l.length),(13, .cA,sI i.1)])
   (λi=> []) (λi=>l.length-i.1) ⟨0,o_,rfl⟩ ?_ ?_
  ·refine A9 [] [] ?_;simp only[go_sem]
   try trivial
  ·rintro⟨i,hi,ht⟩;simp only[cI.beq,go_sem];split
   ·rename_i hlt;have hlt:i<l.length:=o_
    have hltm:i<m.length:=o_
    refine⟨ok_,ok_,?_⟩;by_cases he:l.getD i dF_=m.getD i dF_
    ·rw[zb (by rw[zT he];simp)];refine A8 ⟨i+1,o_,A4o dF_ ht hlt hltm he⟩ (by show l.length-(i+1)<l.length-i;omega) (D8 [] [] ?_);refine sg_ ?_;exact wo_
    ·rw[zc (by rw[zp he])];exact(zp (D5b dF_ he)).symm
   ·rename_i hge;have hil:i=l.length:=o_
    subst hil;exact(zT (B0z hlen ht)).symm
theorem D7y(x y:Shape)(h:Shape.sm x):cA_ 450 [.agg x.enc, .agg y.enc] [] (sB (decide (x=y))) []:=by refine en1 hm A6 Tryz.func450 rfl rfl (sg_ ?_);refine A0 (C7x x.cK y.cK h) rfl (sg_ ?_);cases x;cases y;rw[qz];simp[xb]
theorem C33(x y:cY)(h:cY.sm x):cA_ 338 [.agg x.enc, .agg y.enc] [] (sB (decide (x=y))) []:=by
 refine en1 hm A6 Tryz.func338 rfl rfl (sg_ ?_);refine A0 (D7y x.Shape y.Shape h) rfl (sg_ ?_);cases x;cases y;rw[qz];simp
 grind
theorem B88(x y:cE)(h:cE.sm x):cA_ 213 [.agg x.enc, .agg y.enc] [] (sB (decide (x=y))) []:=by
 have hb:=h.1;refine en1 hm A6 Tryz.func213 rfl rfl (sg_ ?_);split
 ·rename_i hc;exact(zp λe=>by subst e;simp at hc).symm
 ·rename_i hc;simp at hc;have hlen:x.cH.length=y.cH.length:=o_
  refine B1 hm (ι:= {i:Nat // i<=x.cH.length/\x.cH.take i=y.cH.take i}) (λi=> [(2, .cA, .ptr 48 0 0 1),(3, .cA, .ptr 64 0 0 1),(21, .cA,A4 10 cY.enc dF_ x.cH),(22, .cA,sI x.cH.length),(23, .cA,sI i.1)])
   (λi=> [(48, .box x.enc),(64, .box y.enc)]) (λi=>x.cH.length-i.1) ⟨0,o_,rfl⟩ ?_ ?_
  ·refine A9 [] [] ?_;simp only[go_sem]
   try trivial
  ·rintro⟨i,hi,ht⟩;refine sg_ ?_;by_cases hlt:i<x.cH.length
   ·have hltm:i<y.cH.length:=o_
    rw[zc o_];refine⟨ok_,ok_,?_⟩;refine A0 (C33 (x.cH.getD i dF_) (y.cH.getD i dF_) (h.2 _ (B6 _ hlt))) rfl (sg_ ?_);by_cases he:x.cH.getD i dF_=y.cH.getD i dF_
    ·rw[zb (by rw[zT he];simp)];refine A8 ⟨i+1,o_,A4o dF_ ht hlt hltm he⟩ (by show x.cH.length-(i+1)<x.cH.length-i;omega) (A9 [] [] ?_);refine sg_ ?_;exact wo_
    ·rw[zc (zp he)];exact(zp λe=>he (by rw[e])).symm
   ·rw[zb o_];have hil:i=x.cH.length:=o_
    subst hil;have hp:=B0z hlen ht;clear hc hlen ht hi hlt hb h;obtain⟨x0,x1,⟨⟨x2,x3⟩,x4⟩,⟨x5,x6⟩,x7,⟨x8,x9⟩,x10,x11,x12,x13,x14,x15,x16,x17,x18,x19⟩:=x;obtain⟨y0,y1,⟨⟨y2,y3⟩,y4⟩,⟨y5,y6⟩,y7,⟨y8,y9⟩,y10,y11,y12,y13,y14,y15,y16,y17,y18,y19⟩:=y;simp only at hp;subst hp;rw[qz];simp
    grind
def zBd:cE:=⟨0,0,⟨⟨0,0⟩,0⟩,⟨0,0⟩,0,⟨0,0⟩,0,0,0,0,false,false,false,false,0,[]⟩
theorem D7p(b:cE)(h:cE.sm b):cA_ 213 [.agg b.enc, .agg [sI 0,sI 0,sI 0,sI 0,sI 0,sI 0,sI 0,sI 0,sI 0,sI 0,sI 0,sI 0,sI 0,sI 0,sB false,sB false,sB false,sB false,sI 0, .sc (.slice none 0 0)]] [] (sB (decide (b=(⟨0,0,⟨⟨0,0⟩,0⟩,⟨0,0⟩,0,⟨0,0⟩,0,0,0,0,false,false,false,false,0,[]⟩:cE)))) []:=D5.args_le (B88 b zBd h) ⟨J2.refl _,J2.agg ⟨J2.refl _,J2.refl _,J2.refl _,J2.refl _,J2.refl _,J2.refl _,J2.refl _,J2.refl _,J2.refl _,J2.refl _,J2.refl _,J2.refl _,J2.refl _,J2.refl _,J2.refl _,J2.refl _,J2.refl _,J2.refl _,J2.refl _,J2.nil,trivial⟩,trivial⟩
theorem B3c: ∀(w:Api.World) (id:Int),Wsm w->Wsm (A7d w id):=by
 rintro w id ⟨h1,h2,h3,h4,h5,h6⟩;unfold A7d;split
 ·rename_i hc;refine⟨by simpa using h1,h2,h3,h4,λb hb=> ?_,h6⟩;rcases yz hb with hb |rfl
  ·exact h5 _ hb
  ·have hlt:=A3e w id
   have:=h5 (w.cC.getD (H5 w id).toNat dF_) (B6 dF_ o_);exact⟨this.1,this.2⟩
 ·exact⟨h1,h2,h3,h4,h5,h6⟩
theorem D8i {w:Api.World}(h:Wsm w)(l:List cF)(n f:Int)(hl:l.length<=1048576):Wsm ⟨w.cM,w.cC,l,w.cB,w.cT,n,f⟩:=⟨h.1,hl,h.2.2.1,h.2.2.2.1,h.2.2.2.2.1,h.2.2.2.2.2⟩
theorem F5m {w:Api.World}(h:Wsm w)(i:Nat)(b:cE)(hb:cE.sm b):Wsm ⟨w.cM,w.cC.set i b,w.cD,w.cB,w.cT,w.dK,w.eJ⟩:=⟨by simpa using h.1,h.2.1,h.2.2.1,h.2.2.2.1,λb' hb'=>by rcases yz hb' with k |rfl;exact h.2.2.2.2.1 _ k;exact hb,h.2.2.2.2.2⟩
def A0v(x:Api.Input):Int:=if((decide (x.cS<1))||(decide (12<x.cS)))=true then(10)else(let v1:=(uf x.cS);if(v1.1&&((decide (x.ID<1))||(decide (1099511627776<x.ID))))=true then(if(v1.1&&((decide (x.ID<1))||(decide (1099511627776<x.ID))))=true then(6)else(if((!v1.1)&&(x.ID != 0))=true then(if((!v1.1)&&(x.ID != 0))=true then(3)else(0))else(if((!v1.2.1)&&(!((x.cI.X==0)&&(x.cI.Y==0))))=true then(if((!v1.2.1)&&(!((x.cI.X==0)&&(x.cI.Y==0))))=true then(3)else(0))else(if((!v1.2.2)&&(x.Value != 0))=true then(if((!v1.2.2)&&(x.Value != 0))=true then(3)else(0))else(let v2:=(decide (x.cE=(⟨0,0,(⟨(⟨0,0⟩:cI),0⟩:cJ),(⟨0,0⟩:cI),0,(⟨0,0⟩:cI),0,0,0,0,false,false,false,false,0,([]:List cY)⟩:cE)));if((x.cS != 9)&&(!v2))=true then(if((x.cS != 9)&&(!v2))=true then(3)else(0))else(if((x.cS != 11)&&(!((x.cF.ID==0)&&((x.cF.cS==0)&&((x.cF.cU==0)&&((x.cF.cV==0)&&((x.cF.dP.X==0)&&((x.cF.dP.Y==0)&&((x.cF.dL.X==0)&&((x.cF.dL.Y==0)&&((x.cF.eN.X==0)&&((x.cF.eN.Y==0)&&((x.cF.cW==0)&&((x.cF.dD==false)&&((x.cF.dQ==0)&&((x.cF.dS==0)&&((x.cF.dF==false)&&((x.cF.dN==0)&&((x.cF.dR==0)&&((x.cF.dB==0)&&((x.cF.dH==0)&&((x.cF.cZ==false)&&((x.cF.cP.I0==0)&&((x.cF.cP.I1==0)&&((x.cF.cP.I2==0)&&(x.cF.cP.I3==0))))))))))))))))))))))))))=true then(3)else(0)))))))else(let v3:=(A3x x.cI.X);let v4:=(A3x x.cI.Y);if(v1.2.1&&((!v3)||(!v4)))=true then(if(v1.2.1&&((!v3)||(!v4)))=true then(6)else(if((!v1.1)&&(x.ID != 0))=true then(if((!v1.1)&&(x.ID != 0))=true then(3)else(0))else(if((!v1.2.1)&&(!((x.cI.X==0)&&(x.cI.Y==0))))=true then(if((!v1.2.1)&&(!((x.cI.X==0)&&(x.cI.Y==0))))=true then(3)else(0))else(if((!v1.2.2)&&(x.Value != 0))=true then(if((!v1.2.2)&&(x.Value != 0))=true then(3)else(0))else(let v5:=(decide (x.cE=(⟨0,0,(⟨(⟨0,0⟩:cI),0⟩:cJ),(⟨0,0⟩:cI),0,(⟨0,0⟩:cI),0,0,0,0,false,false,false,false,0,([]:List cY)⟩:cE)));if((x.cS != 9)&&(!v5))=true then(if((x.cS != 9)&&(!v5))=true then(3)else(0))else(if((x.cS != 11)&&(!((x.cF.ID==0)&&((x.cF.cS==0)&&((x.cF.cU==0)&&((x.cF.cV==0)&&((x.cF.dP.X==0)&&((x.cF.dP.Y==0)&&((x.cF.dL.X==0)&&((x.cF.dL.Y==0)&&((x.cF.eN.X==0)&&((x.cF.eN.Y==0)&&((x.cF.cW==0)&&((x.cF.dD==false)&&((x.cF.dQ==0)&&((x.cF.dS==0)&&((x.cF.dF==false)&&((x.cF.dN==0)&&((x.cF.dR==0)&&((x.cF.dB==0)&&((x.cF.dH==0)&&((x.cF.cZ==false)&&((x.cF.cP.I0==0)&&((x.cF.cP.I1==0)&&((x.cF.cP.I2==0)&&(x.cF.cP.I3==0))))))))))))))))))))))))))=true then(3)else(0)))))))else(let v6:=(A3x x.Value);if(v1.2.2&&(!v6))=true then(6)else(if((!v1.1)&&(x.ID != 0))=true then(if((!v1.1)&&(x.ID != 0))=true then(3)else(0))else(if((!v1.2.1)&&(!((x.cI.X==0)&&(x.cI.Y==0))))=true then(if((!v1.2.1)&&(!((x.cI.X==0)&&(x.cI.Y==0))))=true then(3)else(0))else(if((!v1.2.2)&&(x.Value != 0))=true then(if((!v1.2.2)&&(x.Value != 0))=true then(3)else(0))else(let v7:=(decide (x.cE=(⟨0,0,(⟨(⟨0,0⟩:cI),0⟩:cJ),(⟨0,0⟩:cI),0,(⟨0,0⟩:cI),0,0,0,0,false,false,false,false,0,([]:List cY)⟩:cE)));if((x.cS != 9)&&(!v7))=true then(if((x.cS != 9)&&(!v7))=true then(3)else(0))else(if((x.cS != 11)&&(!((x.cF.ID==0)&&((x.cF.cS==0)&&((x.cF.cU==0)&&((x.cF.cV==0)&&((x.cF.dP.X==0)&&((x.cF.dP.Y==0)&&((x.cF.dL.X==0)&&((x.cF.dL.Y==0)&&((x.cF.eN.X==0)&&((x.cF.eN.Y==0)&&((x.cF.cW==0)&&((x.cF.dD==false)&&((x.cF.dQ==0)&&((x.cF.dS==0)&&((x.cF.dF==false)&&((x.cF.dN==0)&&((x.cF.dR==0)&&((x.cF.dB==0)&&((x.cF.dH==0)&&((x.cF.cZ==false)&&((x.cF.cP.I0==0)&&((x.cF.cP.I1==0)&&((x.cF.cP.I2==0)&&(x.cF.cP.I3==0))))))))))))))))))))))))))=true then(3)else(0)))))))))
theorem A00(x:Api.Input)(h0:cE.sm x.cE):cA_ 124 [.agg x.enc] [] (sI (A0v x)) []:=by
 refine en1 hm A6 Tryz.func124 rfl rfl ?_;have:=D7p
 have:=λx1 x2 x3 x4 x5 x6 x7 x8 x9 x10 x11 x12 x13 x14 x15 x16 x17 x18 x19 x20 x21 h0=>cx_ (B88 x1 ⟨x2,x3,⟨⟨x4,x5⟩,x6⟩,⟨x7,x8⟩,x9,⟨x10,x11⟩,x12,x13,x14,x15,x16,x17,x18,x19,x20,x21⟩ h0)
 have:=C7i
 have:=B88
 have:=C5g
 have:=A0v.eq_1 x;exact K2
def X1(b:cE)(x:Api.Input):cE:=if(x.cS==1)=true then(let v1:=(F0 b);let v2:=(A53 b v1 x.cI);v2)else(if(x.cS==3)=true then(let v3:=(A2k b x.Value);v3)else(if(x.cS==2)=true then(let v4:=(A1o b.fF x.cI);(⟨b.ID,b.cS,b.cJ,b.dO,b.dA,v4,b.fG,b.eC,b.dX,b.eF,b.fH,b.eE,b.fD,b.eX,b.eM,b.cH⟩:cE))else(if(x.cS==4)=true then((⟨b.ID,b.cS,(⟨x.cI,x.Value⟩:cJ),b.dO,b.dA,b.fF,b.fG,b.eC,b.dX,b.eF,b.fH,b.eE,b.fD,b.eX,b.eM,b.cH⟩:cE))else(if(x.cS==5)=true then(let v5:=(W8 (⟨b.ID,b.cS,b.cJ,x.cI,x.Value,b.fF,b.fG,b.eC,b.dX,b.eF,b.fH,b.eE,b.fD,b.eX,b.eM,b.cH⟩:cE));v5)else(b)))))
theorem D3w(b:cE)(x:Api.Input)(h0:cE.sm b):cA_ 293 [.agg b.enc, .agg x.enc] [] (.agg (X1 b x).enc) []:=by
 refine M3 48 [(4,some (some 20))] hm A6 Tryz.func293 rfl ?_;have:=h0.2
 have:=λx1 x2 x3 x4 x5 x6 x7 x8 x9 x10 x11 x12 x13 x14 x15 x16 x17 x18 x19 x20=>cx_ (A18 ⟨x1,x2,⟨⟨x3,x4⟩,x5⟩,⟨x6,x7⟩,x8,⟨x9,x10⟩,x11,x12,x13,x14,x15,x16,x17,x18,x19,x20⟩)
 have:=A2z
 have:=C5c
 have:=B65
 have:=A3j
 have:=A18
 have:=X1.eq_1 b x;exact K2
def A4c(l:List Int)(k:Nat)(w:Api.World):Api.World:=if l.getD k 0=0 then w else A7d w (l.getD k 0)
def B5s(w:Api.World)(l:List Int):Api.World:=itr (A4c l) l.length w
theorem C1u(l:List Int){w:Api.World}(hw:Wsm w): ∀n,Wsm (itr (A4c l) n w)
 |0=>hw
 |n+1=>by
  rw[H7];have:=C1u l hw n;unfold A4c;split
  ·exact this
  ·exact B3c _ _ this
def A0r:List AV:= [sI 0,sI 0,sI 0,sI 0,sI 0, .sc (.slice none 0 0), .sc (.slice none 0 0), .sc (.slice none 0 0), .sc (.slice none 0 0),sI 0,sI 0]
theorem B4o(w:Api.World)(l:List Int)(hw:Wsm w)(hl:l.length<=4194304):cA_ 280 [.agg w.enc,A4 1 C8 0 l] [] (.agg (B5s w l).enc) []:=by
 refine M3 20 [(4,some (some 11))] hm A6 Tryz.func280 rfl (st_ ?_);refine B1 hm (ι:= {i:Nat // i<=l.length}) (λi=> [(2, .cA, .ptr 48 0 0 1),(4, .cA, .ptr 80 0 0 1),(7, .cA,A4 1 C8 0 l),(8, .cA,sI l.length),(9, .cA,sI i.1)])
  (λi=> [(48, .box (itr (A4c l) i.1 w).enc),(80, .box A0r)]) (λi=>l.length-i.1) ⟨0,o_⟩ ?_ ?_
 ·refine A9 [] [] ?_;simp only[go_sem,go_sem_proc,A0r,G9]
 ·rintro⟨i,hi⟩;have hs:=C1u l hw i
  have hnext:itr (A4c l) (i+1) w=A4c l i (itr (A4c l) i w):=H7 ..;dsimp only;generalize hv:itr (A4c l) i w=v at hs hnext⊢;have hfin:l.length<=i->v=B5s w l:=λh=>by
   obtain rfl:i=l.length:=o_
   exact hv.symm
  simp only[go_sem,go_sem_proc,A0r];split
  ·rename_i hlt;have hlt:i<l.length:=o_
   refine⟨bE_,?_⟩;have fin: ∀(v':Api.World),v'=itr (A4c l) (i+1) w->True:=λ_ _=>trivial;by_cases h0:l.getD i 0=0
   ·rw[zb (by simpa using h0)];replace hnext:itr (A4c l) (i+1) w=v:=by rw[hnext];unfold A4c;rw[zc h0]
    refine A8 ⟨i+1,hlt⟩ (by show l.length-(i+1)<l.length-i;omega) ?_;simp only[hnext];refine A9 [] [] ?_;simp only[go_sem,go_sem_proc,A0r];exact wo_
   ·rw[zc (by simpa using h0)];replace hnext:itr (A4c l) (i+1) w=A7d v (l.getD i 0):=by rw[hnext];unfold A4c;rw[zb h0]
    refine A0 (A4a v (l.getD i 0) hs) rfl (st_ ?_);refine A8 ⟨i+1,hlt⟩ (by show l.length-(i+1)<l.length-i;omega) ?_;simp only[hnext];refine A9 [] [] ?_;simp only[go_sem,go_sem_proc,A0r];exact wo_
  ·rename_i hge;have hv:=hfin o_;subst hv;exact⟨rfl,rfl,rfl,rfl,rfl,D0 _,D0 _,D0 _,D0 _,rfl,rfl⟩
def zW:Api.World:=⟨⟨0,⟨0,0⟩,0,0⟩,[],[],[],[],0,0⟩
theorem A3k:Wsm zW:=⟨zm _,zm _,zm _,zm _,(λb hb=>by cases hb),(λc hc=>by cases hc)⟩
def bID(b:cE)(n:Int):cE:=⟨n,b.cS,b.cJ,b.dO,b.dA,b.fF,b.fG,b.eC,b.dX,b.eF,b.fH,b.eE,b.fD,b.eX,b.eM,b.cH⟩
theorem D39(w:Api.World)(b:cE)(hw:Wsm w)(hb:cE.sm b): ∃r:Api.World×Int×Int,Wsm r.1/\cA_ 170 [.agg w.enc, .agg b.enc] [] (.tup [.agg r.1.enc,sI r.2.1,sI r.2.2]) []:=by
 have hl:=hw.1
 have hb2:cE.sm (bID b w.dK):=⟨hb.1,hb.2⟩;by_cases h1:(if 32<=(w.cC.length:Int)then true else decide (1099511627776<=w.dK))=true
 ·refine⟨(zW,0,9),A3k,?_⟩;refine S3 41 [(4,some (some 11)),(5,none),(6,none)] hm A6 Tryz.func170 rfl (st_ ?_);rw[zc h1]
  (with_reducible and_intros) <;> first |rfl |exact G5 rfl
 have h3:(w.cC.length:Int)<32:=by
  rcases Int.lt_or_le (w.cC.length:Int) 32 with h |h
  ·exact h
  ·exact absurd (by rw[zc h]) h1
 by_cases h2:W9 (bID b w.dK)=0
 ·refine⟨(⟨w.cM,w.cC++ [bID b w.dK],w.cD,w.cB,w.cT,IntKind.i64.wrap (w.dK+1),w.eJ⟩,w.dK,0),⟨by show(w.cC++ [bID b w.dK]).length<=_;rw[zd,List.length_singleton];omega,hw.2.1,hw.2.2.1,hw.2.2.2.1,λx hx=>by rcases zj.1 hx with k |k;exact hw.2.2.2.2.1 _ k;rw[zu]at k;subst k;exact hb2,hw.2.2.2.2.2⟩,?_⟩;refine S3 41 [(4,some (some 11)),(5,none),(6,none)] hm A6 Tryz.func170 rfl (st_ ?_);rw[zb h1];refine A0 (A40 b hb) rfl (st_ ?_);refine A0 (B37 (bID b w.dK) hb2) rfl (st_ ?_);rw[zb (by simp[h2])];refine J5 ev_ K1 (U5 w hw) (st_ ?_)
  (with_reducible and_intros) <;> first |exact A0l _ rfl rfl rfl rfl |omega |(unfold maxLen;omega)
 ·refine⟨(zW,0,14),A3k,?_⟩;refine S3 41 [(4,some (some 11)),(5,none),(6,none)] hm A6 Tryz.func170 rfl (st_ ?_);rw[zb h1];refine A0 (A40 b hb) rfl (st_ ?_);refine A0 (B37 (bID b w.dK) hb2) rfl (st_ ?_);rw[zc (by simpa using h2)]
  (with_reducible and_intros) <;> first |rfl |exact G5 rfl
def jID(j:cF)(n:Int):cF:=let k:=A70 j;⟨n,k.cS,k.cU,k.cV,k.dP,k.dL,k.eN,k.cW,k.dD,k.dQ,k.dS,k.dF,k.dN,k.dR,k.dB,k.dH,k.cZ,k.cP⟩
theorem C1t {w:Api.World}(hw:Wsm w)(l:List Int):Wsm (B5s w l):=C1u l hw _
theorem A2q {a b:Int}{g:Nat->List AV}(h: ∀i,g i=([AV.sc (.int .i64 a),sI b].drop (i*1)).take 1):M9 (.dsl 1 2 g) (A4 1 C8 0 [a,b]):=by
 unfold A4;rw[U6];refine⟨rfl,rfl,λi hi=> ?_⟩;rw[h];have:i=0\/i=1:=o_
 rcases this with rfl |rfl <;> exact I5 _
theorem D2a(w:Api.World)(j:cF)(hw:Wsm w): ∃r:Api.World×Int×Int,Wsm r.1/\cA_ 171 [.agg w.enc, .agg j.enc] [] (.tup [.agg r.1.enc,sI r.2.1,sI r.2.2]) []:=by
 have hl:=hw.1;by_cases h1:(if 32<=(w.cD.length:Int)then true else decide (1099511627776<=w.dK))=true
 ·refine⟨(zW,0,9),A3k,?_⟩;refine S3 53 [(4,some (some 11)),(5,none),(6,none)] hm A6 Tryz.func171 rfl (st_ ?_);rw[zc h1]
  (with_reducible and_intros) <;> first |with_reducible rfl |rfl |exact D0 _ |exact G5 rfl |exact A0l _ rfl rfl rfl rfl |exact A2q (λ_=>rfl) |omega |(unfold maxLen;omega)
 have h3:(w.cD.length:Int)<32:=by
  rcases Int.lt_or_le (w.cD.length:Int) 32 with h |h
  ·exact h
  ·exact absurd (by rw[zc h]) h1
 by_cases h2:A1v (jID j w.dK)=0/\A1k w (jID j w.dK)=true
 ·have hw2:Wsm ⟨w.cM,w.cC,w.cD++ [jID j w.dK],w.cB,w.cT,IntKind.i64.wrap (w.dK+1),w.eJ⟩:=D8i hw _ _ _ (by rw[zd,List.length_singleton];omega)
  refine⟨(B5s ⟨w.cM,w.cC,w.cD++ [jID j w.dK],w.cB,w.cT,IntKind.i64.wrap (w.dK+1),w.eJ⟩ [(jID j w.dK).cU,(jID j w.dK).cV],w.dK,0),C1t hw2 _,?_⟩;refine S3 53 [(4,some (some 11)),(5,none),(6,none)] hm A6 Tryz.func171 rfl (st_ ?_);rw[zb h1];refine A0 (B29 j) rfl (st_ ?_);refine A0 (A2n (jID j w.dK)) rfl (st_ ?_);refine A0 (A9n w (jID j w.dK) hl) rfl (st_ ?_);rw[zb (by simp[h2])];refine J5 ev_ K1 (U5 w hw) (st_ ?_);refine⟨bE_,?_⟩;refine O6 (B4o ⟨w.cM,w.cC,w.cD++ [jID j w.dK],w.cB,w.cT,IntKind.i64.wrap (w.dK+1),w.eJ⟩ [(jID j w.dK).cU,(jID j w.dK).cV] hw2 p_) ?_;simp only[S2,go_sem,go_sem_proc]
  (with_reducible and_intros) <;> first |with_reducible rfl |rfl |exact D0 _ |exact G5 rfl |exact A0l _ rfl rfl rfl rfl |exact A2q (λ_=>rfl) |omega |(unfold maxLen;omega)
 ·refine⟨(zW,0,15),A3k,?_⟩;refine S3 53 [(4,some (some 11)),(5,none),(6,none)] hm A6 Tryz.func171 rfl (st_ ?_);rw[zb h1];refine A0 (B29 j) rfl (st_ ?_);refine A0 (A2n (jID j w.dK)) rfl (st_ ?_);refine A0 (A9n w (jID j w.dK) hl) rfl (st_ ?_);rw[zc (by
   by_cases h4:A1v (jID j w.dK)=0
   ·have h5:A1k w (jID j w.dK)=false:=by
     cases h6:A1k w (jID j w.dK)with
     |false=>rfl
     |true=>exact absurd ⟨h4,h6⟩ h2
    simp[h4,h5]
   ·simp[h4])]
  (with_reducible and_intros) <;> first |with_reducible rfl |rfl |exact D0 _ |exact G5 rfl |exact A0l _ rfl rfl rfl rfl |exact A2q (λ_=>rfl) |omega |(unfold maxLen;omega)
theorem F0f(w:Api.World)(id:Int): -1<=B3u w id/\B3u w id<w.cD.length:=C8t
theorem D0u {α:Type}{enc:α->List AV}{d:α}{l:List α}{i z m n':Nat}{q:Sq}{g:Nat->List AV}(hi:i<l.length)(hm:m=l.length-1)(hn':n'=(l.eraseIdx i).length)(hg: ∀k,g k=(((B0 enc d l).over i ⟨l.length-(i+1),λk=>(B0 enc d l).g (i+1+k)⟩).over (l.length-1) q).g k):
  M9 (.dsl z m g) (.dsl z n' (I9 enc d (l.eraseIdx i))):=by
 subst hm;subst hn';rw[U6];refine⟨rfl,by rw[yN hi],λk hk=> ?_⟩;rw[hg];have e:(((B0 enc d l).over i ⟨l.length-(i+1),λk=>(B0 enc d l).g (i+1+k)⟩).over (l.length-1) q).g k=I9 enc d (l.eraseIdx i) k:=by
  show(if l.length-1<=k/\_ then _ else if i<=k/\k<i+(l.length-(i+1))then enc (l.getD (i+1+(k-i)) d)else enc (l.getD k d):List AV)=enc ((l.eraseIdx i).getD k d);rw[zb o_];simp only[List.getD,List.getElem?_eraseIdx];by_cases h:k<i
  ·rw[zb o_,zc h]
  ·rw[zc o_,zb h,show i+1+(k-i)=k+1 by omega]
 rw[e];exact I5 _
theorem C5s(w:Api.World)(id:Int)(hw:Wsm w): ∃r:Api.World×Int,Wsm r.1/\cA_ 173 [.agg w.enc,sI id] [] (.tup [.agg r.1.enc,sI r.2]) []:=by
 have hl:=hw.2.1
 have hlt:=F0f w id;by_cases h1:B3u w id<0
 ·refine⟨(zW,8),A3k,?_⟩;refine S3 35 [(4,some (some 11)),(5,none)] hm A6 Tryz.func173 rfl (st_ ?_);refine A0 (A7v w id hl) rfl (st_ ?_);rw[zc h1]
  (with_reducible and_intros) <;> first |with_reducible rfl |rfl |exact D0 _ |exact G5 rfl |exact A0l _ rfl rfl rfl rfl |exact A2q (λ_=>rfl) |exact D0u (by assumption) rfl rfl (λ_=>rfl) |omega |(unfold maxLen;omega)
 obtain⟨i,hi⟩: ∃i:Nat,B3u w id=i:=⟨(B3u w id).toNat,o_⟩;have hil:i<w.cD.length:=o_
 have hw2:Wsm ⟨w.cM,w.cC,w.cD.eraseIdx i,w.cB,w.cT,w.dK,w.eJ⟩:=D8i hw _ _ _ (by rw[yN hil];omega);refine⟨(B5s ⟨w.cM,w.cC,w.cD.eraseIdx i,w.cB,w.cT,w.dK,w.eJ⟩ [(w.cD.getD i dF_).cU,(w.cD.getD i dF_).cV],0),C1t hw2 _,?_⟩;refine S3 35 [(4,some (some 11)),(5,none)] hm A6 Tryz.func173 rfl (st_ ?_);refine A0 (A7v w id hl) rfl (st_ ?_);rw[zb h1];refine J5 ev_ K1 (U5 w hw) ?_;simp only[go_sem,go_sem_proc,hi];refine⟨bE_,?_⟩;rw[show IntKind.i64.wrap ((i:Int)+1)=((i+1:Nat):Int)by rw[IntKind.wrap_i64];omega];refine B5 [true,true,true] [(1,257)] (C2o (B0 cF.enc dF_ w.cD) i hil hl) p_ p_ p_ g_ (st_ ?_);refine O6 (B4o ⟨w.cM,w.cC,w.cD.eraseIdx i,w.cB,w.cT,w.dK,w.eJ⟩ [(w.cD.getD i dF_).cU,(w.cD.getD i dF_).cV] hw2 p_) ?_;simp only[S2,go_sem,go_sem_proc]
 (with_reducible and_intros) <;> first |with_reducible rfl |rfl |exact D0 _ |exact G5 rfl |exact A0l _ rfl rfl rfl rfl |exact A2q (λ_=>rfl) |exact D0u (by assumption) rfl rfl (λ_=>rfl) |omega |(unfold maxLen;omega)
end Go.Abs
end
