/- A part of the proof: contracts of functions that the statement reaches. -/
import Derived.Test.YtchcbiiammkhgaaGreatMG
set_option linter.unusedSimpArgs false
set_option linter.unusedVariables false
set_option linter.unnecessarySimpa false
set_option maxRecDepth 100000
set_option maxHeartbeats 2000000
noncomputable section
namespace Go.Abs
open Go.Proofs
open Api
def C05(n:Nat)(acc:List Int)(i:Int):List Int:=if(0<=i/\i<n)/\ ¬(acc.any λy=>i==y)=true then acc++ [i]else acc
def A94(l:List Int)(n:Nat):List Int:=l.foldl (C05 n) []
theorem D6k {l:List Int}{n k:Nat}(h:k<l.length):A94 (l.take (k+1)) n=C05 n (A94 (l.take k) n) (l.getD k 0):=by rw[K9 0 h];simp[A94]
theorem F0i(n:Nat)(acc:List Int)(i:Int):(C05 n acc i).length<=acc.length+1:=by unfold C05;split <;> simp
theorem C3m(l:List Int)(n:Nat):(A94 l n).length<=l.length:=by
 have: ∀(l acc:List Int),(l.foldl (C05 n) acc).length<=acc.length+l.length:=by
  intro l;induction l with
  |nil=>intro acc;simp
  |cons a l ih=>intro acc;have:=ih (C05 n acc a);have:=F0i n acc a;simp only[List.foldl_cons,List.length_cons];omega
 simpa[A94]using this l []
theorem F0j {l:List Int}{n:Nat}{i:Int}:i∈A94 l n↔i∈l/\0<=i/\i<n:=by
 have: ∀(l acc:List Int),i∈l.foldl (C05 n) acc↔i∈acc\/(i∈l/\0<=i/\i<n):=by
  intro l;induction l with
  |nil=>intro acc;simp
  |cons a l ih=>
   intro acc;rw[List.foldl_cons,ih];unfold C05;split
   ·rename_i h;simp only[zj,zo,zr,zU];constructor
    ·rintro((h1 |rfl) |h1)
     ·exact .inl h1
     ·exact .inr ⟨.inl rfl,h.1⟩
     ·exact .inr ⟨.inr h1.1,h1.2⟩
    ·rintro(h1 |⟨rfl |h1,h2⟩)
     ·exact .inl (.inl h1)
     ·exact .inl (.inr rfl)
     ·exact .inr ⟨h1,h2⟩
   ·rename_i h;simp only[zo];constructor
    ·rintro(h1 |h1)
     ·exact .inl h1
     ·exact .inr ⟨.inr h1.1,h1.2⟩
    ·rintro(h1 |⟨rfl |h1,h2⟩)
     ·exact .inl h1
     ·left;have:(acc.any λy=>i==y)=true:=yQ λhh=>h ⟨h2,hh⟩;rw[List.any_eq_true]at this;obtain⟨y,hy,e⟩:=this;rw[qc]at e;rwa[e]
     ·exact .inr ⟨h1,h2⟩
 simpa[A94]using this l []
def D90(w:Api.World)(x:B3)(n:Nat):List AV:= [sI w.cM.dZ,sI w.cM.eD.X,sI w.cM.eD.Y,sI w.cM.eG,sI w.cM.eA,
 .sl 1 0 w.cC.length w.cC.length, .sl 2 0 w.cD.length w.cD.length, .sl 3 0 w.cB.length w.cB.length, .sl 4 0 w.cT.length w.cT.length,sI w.dK,sI w.eJ,
 A4 1 C8 0 x.cC,A4 1 C8 0 x.cB,A4 1 C8 0 x.cD, .sl 5 0 n n]
def A6c(w:Api.World)(x:B3)(l:List Int):List (Nat×A7):=(6, .box (D90 w x l.length))::(5, .arr 1 (B0 C8 0 l))::D0k w 1 2 3 4
attribute [go_sem] D90 A6c
def Ism(x:B3):Prop:=x.cC.length<=1048576/\x.cB.length<=1048576/\x.cD.length<=1048576
theorem B2t(w:Api.World)(x:B3)(hw:Wsm w)(hx:Ism x):cA_ 161 [.agg w.enc, .agg x.enc] [] (.ptr 6 0 0 1) (A6c w x (A94 x.cC w.cC.length)):=by
 have hx1:=hx.1;refine I6 hm A6 Tryz.func161 rfl rfl (sg_ ?_);refine B5 [true] [] (U5 w hw) p_ g_ g_ p_ (sg_ ?_);refine B1 hm (ι:= {i:Nat // i<=x.cC.length}) (λi=> [(2, .cA, .ptr 48 0 0 1),(3, .cA, .ptr 64 0 0 1),(5, .cA, .ptr 6 0 0 1),(14, .cA,A4 1 C8 0 x.cC),(15, .cA,sI x.cC.length),(16, .cA,sI i.1)])
  (λi=>(48, .box w.enc)::(64, .box x.enc)::A6c w x (A94 (x.cC.take i.1) w.cC.length)) (λi=>x.cC.length-i.1) ⟨0,o_⟩ ?_ ?_
 ·refine D8 [(6,208)] [5] (sg_ ?_);rfl
 ·rintro⟨i,hi⟩;have hn:=C3m (x.cC.take i) w.cC.length
  have hn:(A94 (x.cC.take i) w.cC.length).length<=1048576:=by have:=hx.1;simp at hn;omega
  refine sg_ ?_;split
  ·rename_i hlt;have hlt:i<x.cC.length:=o_
   refine⟨ok_,?_⟩;refine A4d (C2n (A94 (x.cC.take i) w.cC.length) (x.cC.getD i 0) hn) rfl (by simp only[S2,go_sem]) (sg_ ?_);by_cases hc:(0<=x.cC.getD i 0/\x.cC.getD i 0<(w.cC.length:Int))/\ ¬((A94 (x.cC.take i) w.cC.length).any λy=>x.cC.getD i 0==y)=true
   ·have he:A94 (x.cC.take (i+1)) w.cC.length=A94 (x.cC.take i) w.cC.length++ [x.cC.getD i 0]:=by
     rw[D6k hlt];unfold C05;rw[zc hc]
    rw[zc (by obtain⟨⟨c1,c2⟩,c3⟩:=hc;rw[zc c1,zT c2,Bool.eq_false_iff.2 c3];rfl)];refine⟨ok_,?_⟩;refine A8 ⟨i+1,o_⟩ (by show x.cC.length-(i+1)<x.cC.length-i;omega) (D8 [] [] ?_);simp only[go_sem,he,zd,List.length_singleton];exact⟨wo_,A0q (x.cC.getD i 0) rfl rfl⟩
   ·have he:A94 (x.cC.take (i+1)) w.cC.length=A94 (x.cC.take i) w.cC.length:=by
     rw[D6k hlt];unfold C05;rw[zb hc]
    rw[zb (by
     intro h;apply hc;rw[zi,zQ]at h;obtain⟨h1,h2⟩:=h;by_cases c1:0<=x.cC.getD i 0
     ·rw[zc c1]at h1;exact⟨⟨c1,yc h1⟩,Bool.eq_false_iff.1 h2⟩
     ·rw[zb c1]at h1;cases h1)]
    refine A8 ⟨i+1,o_⟩ (by show x.cC.length-(i+1)<x.cC.length-i;omega) (D8 [] [] ?_);simp only[go_sem,he];exact wo_
  ·rename_i hge;obtain rfl:i=x.cC.length:=o_
   refine B8 [.cA] [] [] ?_;simp only[go_sem,zn]
theorem A99(w:Api.World)(x:B3)(l:List Int):okO (A6c w x l):=by refine⟨g_,?_⟩;simp[go_sem]
def B3v(w:Api.World)(i:Int):cE:=w.cC.getD i.toNat dF_
theorem C4b(w:Api.World)(x:B3)(l:List Int)(b:cE):cA_ 260 [.ptr 6 0 0 1, .agg b.enc] (A6c w x l) (sB (!b.eX)) (A6c w x l):=by refine I6 hm A6 Tryz.func260 rfl rfl (sg_ ?_);refine B8 [.cA] [] [] ?_;simp only[go_sem]
theorem C1k(w:Api.World)(x:B3)(l:List Int)(b:cE):cA_ 200 [.ptr 6 0 0 1, .agg b.enc] (A6c w x l) (sB (decide (b.eM<w.cM.eA))) (A6c w x l):=by refine I6 hm A6 Tryz.func200 rfl rfl (sg_ ?_);refine B8 [.cA] [] [] ?_;simp only[go_sem]
def D07(b:cE):Bool:=(b.cS==2)&&(!(b.dO.X==0&&b.dO.Y==0)||b.dA != 0)
theorem C4d(w:Api.World)(x:B3)(l:List Int)(b:cE):cA_ 331 [.ptr 6 0 0 1, .agg b.enc] (A6c w x l) (sB (D07 b)) (A6c w x l):=by
 refine I6 hm A6 Tryz.func331 rfl rfl (sg_ ?_);cases hk:b.cS==2 with
 |true=>refine sg_ ?_;refine B8 [.cA] [] [] (sg_ ?_);simp only[D07,hk,zH]
 |false=>refine sg_ ?_;refine B8 [.cA] [] [] (sg_ ?_);simp only[D07,hk,zI]
def D8z(w:Api.World)(x:B3)(l:List Int)(f:FuncId):List (Nat×A7):=(48, .box [.ptr 6 0 0 1])::(64, .box [.fn (.func f) [.ptr 6 0 0 1] []])::A6c w x l
attribute [go_sem] D8z
theorem E0f(w:Api.World)(x:B3)(l:List Int)(f:FuncId):okO (D8z w x l f):=by refine⟨g_,?_⟩;simp[go_sem]
theorem C4c(w:Api.World)(x:B3)(l:List Int)(f:FuncId)(p:cE->Bool)(hp: ∀b:cE,cA_ f [.ptr 6 0 0 1, .agg b.enc] (A6c w x l) (sB (p b)) (A6c w x l))
  (i:Int)(h0:0<=i)(h1:i<w.cC.length):cA_ 329 [sI i, .ptr 64 0 0 1, .ptr 48 0 0 1] (D8z w x l f) (sB (p (B3v w i))) (D8z w x l f):=by
 refine I6 hm A6 Tryz.func329 rfl rfl (sg_ ?_);refine⟨⟨h0,h1⟩,?_⟩;refine Z7 (hp (B3v w i)) (A99 w x l) g_ g_ rfl (sg_ ?_);refine B8 [.cA] [] [] ?_;simp only[go_sem]
theorem B7g(w:Api.World)(x:B3)(l:List Int)(f:FuncId)(p:cE->Bool)(hp: ∀b:cE,cA_ f [.ptr 6 0 0 1, .agg b.enc] (A6c w x l) (sB (p b)) (A6c w x l))
  (hl:l.length<=1048576)(hi: ∀i∈l,0<=i/\i<w.cC.length):cA_ 199 [.ptr 6 0 0 1, .fn (.func f) [.ptr 6 0 0 1] []] (A6c w x l) (sB (l.any λi=>p (B3v w i))) (A6c w x l):=by
 refine I6 hm A6 Tryz.func199 rfl rfl (sg_ ?_);refine Z7 (B4w 5 l 329 [] [.ptr 64 0 0 1, .ptr 48 0 0 1] (D8z w x l f) (λi=>p (B3v w i)) o_ (E0f w x l f) g_ g_ (λi hm=>C4c w x l f p hp i (hi i hm).1 (hi i hm).2)) (E0f w x l f) g_ g_ rfl (sg_ ?_);refine B8 [.cA] [] [] ?_;simp only[go_sem]
def A3u {α:Type}(d:α)(p:α->Bool)(l:List α):Int:=match(List.range l.length).find? (λi=>p (l.getD i d))with |some i=>i |none=> -1
theorem A6k {α:Type}{d:α}{p:α->Bool}{l:List α}{i:Nat}(hi:i<l.length)(h: ∀j,j<i->p (l.getD j d)=false)(hp:p (l.getD i d)=true):A3u d p l=i:=by
 have:(List.range l.length).find? (λi=>p (l.getD i d))=some i:=by rw[yS];exact⟨hp,by simpa using hi,λj hj=>by simp only[h j hj,zD]⟩
 unfold A3u;rw[this]
theorem A2x {α:Type}{d:α}{p:α->Bool}{l:List α}(h: ∀j,j<l.length->p (l.getD j d)=false):A3u d p l= -1:=by
 have:(List.range l.length).find? (λi=>p (l.getD i d))=none:=by rw[yn];exact λj hj=>by simp only[h j hj,zD]
 unfold A3u;rw[this]
theorem C8t {α:Type}{d:α}{p:α->Bool}{l:List α}: -1<=A3u d p l/\(A3u d p l)<l.length:=by
 unfold A3u;cases hf:(List.range l.length).find? (λi=>p (l.getD i d))with
 |none=>simp;omega
 |some i=>have:=qD hf;rw[xj]at this;simp;omega
theorem B9t(l:List cE)(f:FuncId)(first cap:List AV)(O:List (Nat×A7))(p:cE->Bool)(hl:l.length<=1048576)(hO:okO O)
  (hids: ∀i∈(AV.fn (.func f) first cap).ids,(ofL O i).isSome)
  (hp: ∀x∈l,cA_ f (first++ [.agg x.enc]++cap) O (sB (p x)) O):
  cA_ 232 [A4 20 cE.enc dF_ l, .fn (.func f) first cap] O (sI (A3u dF_ p l)) O:=by
 have hren:(AV.fn (.func f) first cap).ren id= .fn (.func f) first cap:=AV.ren_id _
 have hargs: ∀x:cE,∀a∈first++ [.agg x.enc]++cap,∀i∈a.ids,(ofL O i).isSome:=λx a ha i hi=>by
  simp only[zj,zu]at ha;refine hids i ?_;simp only[AV.ids,zj];rcases ha with(ha |rfl) |ha
  ·obtain⟨k,hk⟩:=zA ha;exact .inl (P7 hk i hi)
  ·simp[go_sem]at hi
  ·obtain⟨k,hk⟩:=zA ha;exact .inr (P7 hk i hi)
 refine I6 hm A6 Tryz.func232 rfl rfl (sg_ ?_);refine B1 hm (ι:= {i:Nat // i<=l.length/\ ∀j,j<i->p (l.getD j dF_)=false}) (λi=> [(0, .cA,A4 20 cE.enc dF_ l),(1, .cA, .fn (.func f) first cap),(7, .cA,sI l.length),(8, .cA,sI i.1)])
  (λi=>O) (λi=>l.length-i.1) ⟨0,o_,λj hj=>by omega⟩ ?_ ?_
 ·refine Y3 hO rfl (sg_ ?_);exact⟨by rw[O3,O3],λi hi=>hids i hi⟩
 ·rintro⟨i,hi,hs⟩;refine sg_ ?_;split
  ·rename_i hlt;have hlt:i<l.length:=o_
   refine⟨ok_,?_⟩;have hx:cA_ f (first++ .agg (l.getD i dF_).enc::cap) O (sB (p (l.getD i dF_))) O:=by have:=hp (l.getD i dF_) (B6 dF_ hlt);rwa[zx]at this
   refine Y4 hx hO rfl (λa ha=>hargs (l.getD i dF_) a (by rw[zx];exact ha)) rfl (sg_ ?_);cases hpx:p (l.getD i dF_)with
   |true=>rw[zc rfl];refine S1 [.cA] rfl rfl hO (W0 hO) (sg_ ?_);exact(A6k hlt hs hpx).symm
   |false=>rw[zb p_];refine A8 ⟨i+1,o_,λj hj=>by rcases zF.1 hj with h |rfl;exact hs j h;exact hpx⟩ (by show l.length-(i+1)<l.length-i;omega) (Y3 hO (W0 hO) ?_);refine sg_ ?_;exact⟨by rw[O3,O3],λi hi=>hids i hi,wo_⟩
  ·rename_i hge;refine S1 [.cA] rfl rfl hO rfl (sg_ ?_);exact(A2x λj hj=>hs j o_).symm
def H5(w:Api.World)(id:Int):Int:=A3u dF_ (λb:cE=>b.ID==id) w.cC
theorem E78(id:Int):okO [(1, .box [sI id])]:=by refine⟨g_,?_⟩;simp[go_sem]
theorem C5r(id:Int)(b:cE):cA_ 233 [.agg b.enc, .ptr 1 0 0 1] [(1, .box [sI id])] (sB (b.ID==id)) [(1, .box [sI id])]:=by refine I6 hm A6 Tryz.func233 rfl rfl (sg_ ?_);refine B8 [.cA] [] [] ?_;simp only[go_sem]
theorem T1(w:Api.World)(id:Int)(hw:w.cC.length<=1048576):cA_ 143 [.agg w.enc,sI id] [] (sI (H5 w id)) []:=by refine I6 hm A6 Tryz.func143 rfl rfl (sg_ ?_);refine B5 [true,true] [(1,64)] (B9t w.cC 233 [] [.ptr 1 0 0 1] [(1, .box [sI id])] (λb=>b.ID==id) hw (E78 id) g_ (λb _=>C5r id b)) p_ p_ p_ g_ (sg_ ?_);refine B8 [.cA] [] [] (sg_ ?_);rfl
attribute [go_sem] Option.toList_none Option.toList_some
theorem B8v {α:Type}{d:α}(p:α->Bool)(l:List α):decide (0<=A3u d p l)=l.any p:=by
 cases h:l.any p with
 |true=>
  rw[List.any_eq_true]at h;obtain⟨x,hx,hp⟩:=h;obtain⟨k,hk,rfl⟩:=qG hx;unfold A3u;cases hf:(List.range l.length).find? (λi=>p (l.getD i d))with
  |none=>rw[yn]at hf;have:=hf k hk;simp[List.getD,hk,hp]at this
  |some i=>simp
 |false=>rw[List.any_eq_false]at h;rw[A2x λj hj=>by simpa using h _ (B6 d hj)];decide
theorem C1m(l:List cI)(f:FuncId)(first cap:List AV)(O:List (Nat×A7))(p:cI->Bool)(hl:l.length<=4194304)(hO:okO O)
  (hids: ∀i∈(AV.fn (.func f) first cap).ids,(ofL O i).isSome)
  (hp: ∀x∈l,cA_ f (first++ [.agg x.enc]++cap) O (sB (p x)) O):
  cA_ 481 [A4 2 cI.enc dF_ l, .fn (.func f) first cap] O (sI (A3u dF_ p l)) O:=by
 have hren:(AV.fn (.func f) first cap).ren id= .fn (.func f) first cap:=AV.ren_id _
 have hargs: ∀x:cI,∀a∈first++ [.agg x.enc]++cap,∀i∈a.ids,(ofL O i).isSome:=λx a ha i hi=>by
  simp only[zj,zu]at ha;refine hids i ?_;simp only[AV.ids,zj];rcases ha with(ha |rfl) |ha
  ·obtain⟨k,hk⟩:=zA ha;exact .inl (P7 hk i hi)
  ·simp[go_sem]at hi
  ·obtain⟨k,hk⟩:=zA ha;exact .inr (P7 hk i hi)
 refine I6 hm A6 Tryz.func481 rfl rfl (sg_ ?_);refine B1 hm (ι:= {i:Nat // i<=l.length/\ ∀j,j<i->p (l.getD j dF_)=false}) (λi=> [(0, .cA,A4 2 cI.enc dF_ l),(1, .cA, .fn (.func f) first cap),(7, .cA,sI l.length),(8, .cA,sI i.1)])
  (λi=>O) (λi=>l.length-i.1) ⟨0,o_,λj hj=>by omega⟩ ?_ ?_
 ·refine Y3 hO rfl (sg_ ?_);exact⟨by rw[O3,O3],λi hi=>hids i hi⟩
 ·rintro⟨i,hi,hs⟩;refine sg_ ?_;split
  ·rename_i hlt;have hlt:i<l.length:=o_
   refine⟨ok_,?_⟩;have hx:cA_ f (first++ .agg (l.getD i dF_).enc::cap) O (sB (p (l.getD i dF_))) O:=by have:=hp (l.getD i dF_) (B6 dF_ hlt);rwa[zx]at this
   refine Y4 hx hO rfl (λa ha=>hargs (l.getD i dF_) a (by rw[zx];exact ha)) rfl (sg_ ?_);cases hpx:p (l.getD i dF_)with
   |true=>rw[zc rfl];refine S1 [.cA] rfl rfl hO (W0 hO) (sg_ ?_);exact(A6k hlt hs hpx).symm
   |false=>rw[zb p_];refine A8 ⟨i+1,o_,λj hj=>by rcases zF.1 hj with h |rfl;exact hs j h;exact hpx⟩ (by show l.length-(i+1)<l.length-i;omega) (Y3 hO (W0 hO) ?_);refine sg_ ?_;exact⟨by rw[O3,O3],λi hi=>hids i hi,wo_⟩
  ·rename_i hge;refine S1 [.cA] rfl rfl hO rfl (sg_ ?_);exact(A2x λj hj=>hs j o_).symm
theorem B71(l:List cI)(f:FuncId)(first cap:List AV)(O:List (Nat×A7))(p:cI->Bool)(hl:l.length<=4194304)(hO:okO O)
  (hids: ∀i∈(AV.fn (.func f) first cap).ids,(ofL O i).isSome)
  (hp: ∀x∈l,cA_ f (first++ [.agg x.enc]++cap) O (sB (p x)) O):
  cA_ 377 [A4 2 cI.enc dF_ l, .fn (.func f) first cap] O (sB (l.any p)) O:=by
 refine I6 hm A6 Tryz.func377 rfl rfl (sg_ ?_);refine Y4 (C1m l f first cap O p hl hO hids hp) hO rfl ?_ rfl ?_
 ·intro a ha;simp only[zo,zr,zU]at ha;rcases ha with rfl |rfl
  ·intro i hi;simp[AV.ids]at hi
  ·exact hids
 ·refine sg_ ?_;refine S1 [.cA] rfl rfl hO (W0 hO) (sg_ ?_);exact B8v p l
theorem A58(l:List cN)(f:FuncId)(first cap:List AV)(O:List (Nat×A7))(p:cN->Bool)(hl:l.length<=4194304)(hO:okO O)
  (hids: ∀i∈(AV.fn (.func f) first cap).ids,(ofL O i).isSome)
  (hp: ∀x∈l,cA_ f (first++ [.agg x.enc]++cap) O (sB (p x)) O):
  cA_ 255 [A4 6 cN.enc dF_ l, .fn (.func f) first cap] O (sI (A3u dF_ p l)) O:=by
 have hren:(AV.fn (.func f) first cap).ren id= .fn (.func f) first cap:=AV.ren_id _
 have hargs: ∀x:cN,∀a∈first++ [.agg x.enc]++cap,∀i∈a.ids,(ofL O i).isSome:=λx a ha i hi=>by
  simp only[zj,zu]at ha;refine hids i ?_;simp only[AV.ids,zj];rcases ha with(ha |rfl) |ha
  ·obtain⟨k,hk⟩:=zA ha;exact .inl (P7 hk i hi)
  ·simp[go_sem]at hi
  ·obtain⟨k,hk⟩:=zA ha;exact .inr (P7 hk i hi)
 refine I6 hm A6 Tryz.func255 rfl rfl (sg_ ?_);refine B1 hm (ι:= {i:Nat // i<=l.length/\ ∀j,j<i->p (l.getD j dF_)=false}) (λi=> [(0, .cA,A4 6 cN.enc dF_ l),(1, .cA, .fn (.func f) first cap),(7, .cA,sI l.length),(8, .cA,sI i.1)])
  (λi=>O) (λi=>l.length-i.1) ⟨0,o_,λj hj=>by omega⟩ ?_ ?_
 ·refine Y3 hO rfl (sg_ ?_);exact⟨by rw[O3,O3],λi hi=>hids i hi⟩
 ·rintro⟨i,hi,hs⟩;refine sg_ ?_;split
  ·rename_i hlt;have hlt:i<l.length:=o_
   refine⟨ok_,?_⟩;have hx:cA_ f (first++ .agg (l.getD i dF_).enc::cap) O (sB (p (l.getD i dF_))) O:=by have:=hp (l.getD i dF_) (B6 dF_ hlt);rwa[zx]at this
   refine Y4 hx hO rfl (λa ha=>hargs (l.getD i dF_) a (by rw[zx];exact ha)) rfl (sg_ ?_);cases hpx:p (l.getD i dF_)with
   |true=>rw[zc rfl];refine S1 [.cA] rfl rfl hO (W0 hO) (sg_ ?_);exact(A6k hlt hs hpx).symm
   |false=>rw[zb p_];refine A8 ⟨i+1,o_,λj hj=>by rcases zF.1 hj with h |rfl;exact hs j h;exact hpx⟩ (by show l.length-(i+1)<l.length-i;omega) (Y3 hO (W0 hO) ?_);refine sg_ ?_;exact⟨by rw[O3,O3],λi hi=>hids i hi,wo_⟩
  ·rename_i hge;refine S1 [.cA] rfl rfl hO rfl (sg_ ?_);exact(A2x λj hj=>hs j o_).symm
theorem B1f(l:List cN)(f:FuncId)(first cap:List AV)(O:List (Nat×A7))(p:cN->Bool)(hl:l.length<=4194304)(hO:okO O)
  (hids: ∀i∈(AV.fn (.func f) first cap).ids,(ofL O i).isSome)
  (hp: ∀x∈l,cA_ f (first++ [.agg x.enc]++cap) O (sB (p x)) O):
  cA_ 235 [A4 6 cN.enc dF_ l, .fn (.func f) first cap] O (sB (l.any p)) O:=by
 refine I6 hm A6 Tryz.func235 rfl rfl (sg_ ?_);refine Y4 (A58 l f first cap O p hl hO hids hp) hO rfl ?_ rfl ?_
 ·intro a ha;simp only[zo,zr,zU]at ha;rcases ha with rfl |rfl
  ·intro i hi;simp[AV.ids]at hi
  ·exact hids
 ·refine sg_ ?_;refine S1 [.cA] rfl rfl hO (W0 hO) (sg_ ?_);exact B8v p l
theorem B7a(l:List cR)(f:FuncId)(first cap:List AV)(O:List (Nat×A7))(p:cR->Bool)(hl:l.length<=4194304)(hO:okO O)
  (hids: ∀i∈(AV.fn (.func f) first cap).ids,(ofL O i).isSome)
  (hp: ∀x∈l,cA_ f (first++ [.agg x.enc]++cap) O (sB (p x)) O):
  cA_ 239 [A4 4 cR.enc dF_ l, .fn (.func f) first cap] O (sI (A3u dF_ p l)) O:=by
 have hren:(AV.fn (.func f) first cap).ren id= .fn (.func f) first cap:=AV.ren_id _
 have hargs: ∀x:cR,∀a∈first++ [.agg x.enc]++cap,∀i∈a.ids,(ofL O i).isSome:=λx a ha i hi=>by
  simp only[zj,zu]at ha;refine hids i ?_;simp only[AV.ids,zj];rcases ha with(ha |rfl) |ha
  ·obtain⟨k,hk⟩:=zA ha;exact .inl (P7 hk i hi)
  ·simp[go_sem]at hi
  ·obtain⟨k,hk⟩:=zA ha;exact .inr (P7 hk i hi)
 refine I6 hm A6 Tryz.func239 rfl rfl (sg_ ?_);refine B1 hm (ι:= {i:Nat // i<=l.length/\ ∀j,j<i->p (l.getD j dF_)=false}) (λi=> [(0, .cA,A4 4 cR.enc dF_ l),(1, .cA, .fn (.func f) first cap),(7, .cA,sI l.length),(8, .cA,sI i.1)])
  (λi=>O) (λi=>l.length-i.1) ⟨0,o_,λj hj=>by omega⟩ ?_ ?_
 ·refine Y3 hO rfl (sg_ ?_);exact⟨by rw[O3,O3],λi hi=>hids i hi⟩
 ·rintro⟨i,hi,hs⟩;refine sg_ ?_;split
  ·rename_i hlt;have hlt:i<l.length:=o_
   refine⟨ok_,?_⟩;have hx:cA_ f (first++ .agg (l.getD i dF_).enc::cap) O (sB (p (l.getD i dF_))) O:=by have:=hp (l.getD i dF_) (B6 dF_ hlt);rwa[zx]at this
   refine Y4 hx hO rfl (λa ha=>hargs (l.getD i dF_) a (by rw[zx];exact ha)) rfl (sg_ ?_);cases hpx:p (l.getD i dF_)with
   |true=>rw[zc rfl];refine S1 [.cA] rfl rfl hO (W0 hO) (sg_ ?_);exact(A6k hlt hs hpx).symm
   |false=>rw[zb p_];refine A8 ⟨i+1,o_,λj hj=>by rcases zF.1 hj with h |rfl;exact hs j h;exact hpx⟩ (by show l.length-(i+1)<l.length-i;omega) (Y3 hO (W0 hO) ?_);refine sg_ ?_;exact⟨by rw[O3,O3],λi hi=>hids i hi,wo_⟩
  ·rename_i hge;refine S1 [.cA] rfl rfl hO rfl (sg_ ?_);exact(A2x λj hj=>hs j o_).symm
theorem B4v(l:List cR)(f:FuncId)(first cap:List AV)(O:List (Nat×A7))(p:cR->Bool)(hl:l.length<=4194304)(hO:okO O)
  (hids: ∀i∈(AV.fn (.func f) first cap).ids,(ofL O i).isSome)
  (hp: ∀x∈l,cA_ f (first++ [.agg x.enc]++cap) O (sB (p x)) O):
  cA_ 146 [A4 4 cR.enc dF_ l, .fn (.func f) first cap] O (sB (l.any p)) O:=by
 refine I6 hm A6 Tryz.func146 rfl rfl (sg_ ?_);refine Y4 (B7a l f first cap O p hl hO hids hp) hO rfl ?_ rfl ?_
 ·intro a ha;simp only[zo,zr,zU]at ha;rcases ha with rfl |rfl
  ·intro i hi;simp[AV.ids]at hi
  ·exact hids
 ·refine sg_ ?_;refine S1 [.cA] rfl rfl hO (W0 hO) (sg_ ?_);exact B8v p l
theorem B0b(l:List cF)(f:FuncId)(first cap:List AV)(O:List (Nat×A7))(p:cF->Bool)(hl:l.length<=4194304)(hO:okO O)
  (hids: ∀i∈(AV.fn (.func f) first cap).ids,(ofL O i).isSome)
  (hp: ∀x∈l,cA_ f (first++ [.agg x.enc]++cap) O (sB (p x)) O):
  cA_ 333 [A4 24 cF.enc dF_ l, .fn (.func f) first cap] O (sI (A3u dF_ p l)) O:=by
 have hren:(AV.fn (.func f) first cap).ren id= .fn (.func f) first cap:=AV.ren_id _
 have hargs: ∀x:cF,∀a∈first++ [.agg x.enc]++cap,∀i∈a.ids,(ofL O i).isSome:=λx a ha i hi=>by
  simp only[zj,zu]at ha;refine hids i ?_;simp only[AV.ids,zj];rcases ha with(ha |rfl) |ha
  ·obtain⟨k,hk⟩:=zA ha;exact .inl (P7 hk i hi)
  ·simp[go_sem]at hi
  ·obtain⟨k,hk⟩:=zA ha;exact .inr (P7 hk i hi)
 refine I6 hm A6 Tryz.func333 rfl rfl (sg_ ?_);refine B1 hm (ι:= {i:Nat // i<=l.length/\ ∀j,j<i->p (l.getD j dF_)=false}) (λi=> [(0, .cA,A4 24 cF.enc dF_ l),(1, .cA, .fn (.func f) first cap),(7, .cA,sI l.length),(8, .cA,sI i.1)])
  (λi=>O) (λi=>l.length-i.1) ⟨0,o_,λj hj=>by omega⟩ ?_ ?_
 ·refine Y3 hO rfl (sg_ ?_);exact⟨by rw[O3,O3],λi hi=>hids i hi⟩
 ·rintro⟨i,hi,hs⟩;refine sg_ ?_;split
  ·rename_i hlt;have hlt:i<l.length:=o_
   refine⟨ok_,?_⟩;have hx:cA_ f (first++ .agg (l.getD i dF_).enc::cap) O (sB (p (l.getD i dF_))) O:=by have:=hp (l.getD i dF_) (B6 dF_ hlt);rwa[zx]at this
   refine Y4 hx hO rfl (λa ha=>hargs (l.getD i dF_) a (by rw[zx];exact ha)) rfl (sg_ ?_);cases hpx:p (l.getD i dF_)with
   |true=>rw[zc rfl];refine S1 [.cA] rfl rfl hO (W0 hO) (sg_ ?_);exact(A6k hlt hs hpx).symm
   |false=>rw[zb p_];refine A8 ⟨i+1,o_,λj hj=>by rcases zF.1 hj with h |rfl;exact hs j h;exact hpx⟩ (by show l.length-(i+1)<l.length-i;omega) (Y3 hO (W0 hO) ?_);refine sg_ ?_;exact⟨by rw[O3,O3],λi hi=>hids i hi,wo_⟩
  ·rename_i hge;refine S1 [.cA] rfl rfl hO rfl (sg_ ?_);exact(A2x λj hj=>hs j o_).symm
theorem B6l(l:List cF)(f:FuncId)(first cap:List AV)(O:List (Nat×A7))(p:cF->Bool)(hl:l.length<=4194304)(hO:okO O)
  (hids: ∀i∈(AV.fn (.func f) first cap).ids,(ofL O i).isSome)
  (hp: ∀x∈l,cA_ f (first++ [.agg x.enc]++cap) O (sB (p x)) O):
  cA_ 469 [A4 24 cF.enc dF_ l, .fn (.func f) first cap] O (sB (l.any p)) O:=by
 refine I6 hm A6 Tryz.func469 rfl rfl (sg_ ?_);refine Y4 (B0b l f first cap O p hl hO hids hp) hO rfl ?_ rfl ?_
 ·intro a ha;simp only[zo,zr,zU]at ha;rcases ha with rfl |rfl
  ·intro i hi;simp[AV.ids]at hi
  ·exact hids
 ·refine sg_ ?_;refine S1 [.cA] rfl rfl hO (W0 hO) (sg_ ?_);exact B8v p l
def D2(a:Int)(b:Int):Int:=(sat (IntKind.i64.wrap ((sat a)+(sat b))))
theorem N2(a:Int)(b:Int):cA_ 299 [sI a,sI b] [] (sI (D2 a b)) []:=by
 refine en1 hm A6 Tryz.func299 rfl rfl ?_;have:=L7
 have:=D2.eq_1 a b;exact E7
def C6(a:Int)(b:Int):Int:=let v3:=(A38 (IntKind.i64.wrap ((sat a)*(sat b))) 65536);(sat v3)
theorem M2(a:Int)(b:Int):cA_ 298 [sI a,sI b] [] (sI (C6 a b)) []:=by
 refine en1 hm A6 Tryz.func298 rfl rfl ?_;have:=L7
 have:=Q8
 have:=C6.eq_1 a b;exact E7
def Q9(x:Int)(low:Int)(high:Int):Int:=if((decide (high<low))||(decide (x<low)))=true then(low)else(if high<x then(high)else(x))
theorem A5a(x:Int)(low:Int)(high:Int):cA_ 186 [sI x,sI low,sI high] [] (sI (Q9 x low high)) []:=by refine en1 hm A6 Tryz.func186 rfl rfl ?_;have:=Q9.eq_1 x low high;exact E7
def A0g(a:Int)(b:Int):Int:=if((sat b)==0)=true then(let v3:=(Q9 (IntKind.i64.wrap ((sat a)*65536)) (-1) 1);(IntKind.i64.wrap (v3*536870911)))else(if(sat b)<0 then(let v4:=(A38 (IntKind.i64.wrap (0-(IntKind.i64.wrap ((sat a)*65536)))) (IntKind.i64.wrap (0-(sat b))));(sat v4))else(let v6:=(A38 (IntKind.i64.wrap ((sat a)*65536)) (sat b));(sat v6)))
theorem A7k(a:Int)(b:Int):cA_ 416 [sI a,sI b] [] (sI (A0g a b)) []:=by
 refine en1 hm A6 Tryz.func416 rfl rfl ?_;have:=L7
 have:=A5a
 have:=Q8
 have:=A0g.eq_1 a b;exact E7
def A8x(n:Int)(d:Int):Int:=if(((decide (d<1))||(decide (4611686018427387904<d)))||(decide (n<1)))=true then(0)else(if d<=n then(65536)else(if d<70368744177664 then(let v1:=(A38 (IntKind.i64.wrap (n*65536)) d);v1)else(let v2:=(A38 d 65536);let v3:=(A38 n v2);(if 65536<v3 then 65536 else v3))))
theorem B68(n:Int)(d:Int):cA_ 486 [sI n,sI d] [] (sI (A8x n d)) []:=by
 refine en1 hm A6 Tryz.func486 rfl rfl ?_;have:=Q8
 have:=A8x.eq_1 n d;exact E7
def B8p(x:Int):Int:=let v2:=(isq (IntKind.i64.wrap ((sat x)*65536)));v2
theorem E00(x:Int):cA_ 437 [sI x] [] (sI (B8p x)) []:=by
 refine en1 hm A6 Tryz.func437 rfl rfl ?_;have:=L7
 have:=B2d
 have:=B8p.eq_1 x;exact E7
def B3o(a:Int)(b:Int)(t:Int):Int:=let v1:=(sat (sat b-sat a));let v2:=(C6 v1 t);let v3:=(D2 a v2);v3
theorem E0z(a:Int)(b:Int)(t:Int):cA_ 400 [sI a,sI b,sI t] [] (sI (B3o a b t)) []:=by
 refine en1 hm A6 Tryz.func400 rfl rfl ?_;have:=R7
 have:=M2
 have:=N2
 have:=B3o.eq_1 a b t;exact E7
def K7(a:Int):Int:=if 205888<=(a.tmod 411776)then((IntKind.i64.wrap ((a.tmod 411776)-411776)))else(if(a.tmod 411776)<(-205888)then((IntKind.i64.wrap ((a.tmod 411776)+411776)))else((a.tmod 411776)))
theorem A5d(a:Int):cA_ 443 [sI a] [] (sI (K7 a)) []:=by refine en1 hm A6 Tryz.func443 rfl rfl ?_;have:=K7.eq_1 a;exact E7
def B5w(x:Int):Int:=if x<0 then((IntKind.i64.wrap (0-x)))else(x)
theorem D0a(x:Int):cA_ 518 [sI x] [] (sI (B5w x)) []:=by refine en1 hm A6 Tryz.func518 rfl rfl ?_;have:=B5w.eq_1 x;exact E7
def B5v(a:Int):Int:=let v1:=(K7 a);let v2:=(B5w v1);if 102944<v2 then(let v3:=(A0g (IntKind.i64.wrap (205888-v2)) 102944);let v4:=(C6 v3 v3);let v5:=(C6 v4 4569);let v6:=(sat (sat 41906-sat v5));let v7:=(C6 v4 v6);let v8:=(sat (sat 102873-sat v7));let v9:=(C6 v3 v8);if v1<0 then((IntKind.i64.wrap (0-v9)))else(v9))else(let v10:=(A0g v2 102944);let v11:=(C6 v10 v10);let v12:=(C6 v11 4569);let v13:=(sat (sat 41906-sat v12));let v14:=(C6 v11 v13);let v15:=(sat (sat 102873-sat v14));let v16:=(C6 v10 v15);if v1<0 then((IntKind.i64.wrap (0-v16)))else(v16))
theorem C99(a:Int):cA_ 445 [sI a] [] (sI (B5v a)) []:=by
 refine en1 hm A6 Tryz.func445 rfl rfl ?_;have:=A5d
 have:=D0a
 have:=A7k
 have:=M2
 have:=R7
 have:=B5v.eq_1 a;exact E7
def C00(a:Int):Int:=let v1:=(K7 a);let v2:=(B5w v1);let v3:=(B5v (IntKind.i64.wrap (102944-v2)));v3
theorem E2k(a:Int):cA_ 444 [sI a] [] (sI (C00 a)) []:=by
 refine en1 hm A6 Tryz.func444 rfl rfl ?_;have:=A5d
 have:=D0a
 have:=C99
 have:=C00.eq_1 a;exact E7
structure Rot where
 gE:Int
 gI:Int
 deriving DecidableEq,Inhabited
def Rot.enc(x:Rot):List AV:=[sI x.gE,sI x.gI]
def Rot.zero:List AV:= [sI 0,sI 0]
attribute [go_sem] Rot.enc Rot.zero
@[go_sem] theorem G0b(x:Rot):Rot.mk x.gE x.gI=x:=rfl
structure fL where
 fV:cI
 fY:cI
 deriving DecidableEq,Inhabited
def fL.enc(x:fL):List AV:=[sI x.fV.X,sI x.fV.Y,sI x.fY.X,sI x.fY.Y]
def fL.zero:List AV:= [sI 0,sI 0,sI 0,sI 0]
attribute [go_sem] fL.enc fL.zero
@[go_sem] theorem F9h(x:fL):fL.mk x.fV x.fY=x:=rfl
def B1k(a:Int):Rot:=let v1:=(C00 a);let v2:=(B5v a);let v3:=(isq (IntKind.i64.wrap ((IntKind.i64.wrap (v1*v1))+(IntKind.i64.wrap (v2*v2)))));let v4:=(A0g v1 v3);let v5:=(A0g v2 v3);(⟨v4,v5⟩:Rot)
theorem C1a(a:Int):cA_ 324 [sI a] [] (.agg (B1k a).enc) []:=by
 refine M3 25 [(2,some (some 2))] hm A6 Tryz.func324 rfl ?_;have:=E2k
 have:=C99
 have:=B2d
 have:=A7k
 have:=B1k.eq_1 a;exact E7
def A04(a:Int)(b:Int):Int:=let v1:=(K7 b);let v2:=(K7 a);let v3:=(K7 (IntKind.i64.wrap (v1-v2)));v3
theorem B87(a:Int)(b:Int):cA_ 447 [sI a,sI b] [] (sI (A04 a b)) []:=by
 refine en1 hm A6 Tryz.func447 rfl rfl ?_;have:=A5d
 have:=A04.eq_1 a b;exact E7
def A5n(n:Int):Int:=let v1:=(A38 n 65536);(sat v1)
theorem B5p(n:Int):cA_ 394 [sI n] [] (sI (A5n n)) []:=by
 refine en1 hm A6 Tryz.func394 rfl rfl ?_;have:=Q8
 have:=L7
 have:=A5n.eq_1 n;exact E7
def A1o(a:cI)(b:cI):cI:=let v1:=(D2 a.X b.X);let v2:=(D2 a.Y b.Y);(⟨v1,v2⟩:cI)
theorem A3j(a:cI)(b:cI):cA_ 278 [.agg a.enc, .agg b.enc] [] (.agg (A1o a b).enc) []:=by
 refine M3 16 [(4,some (some 2))] hm A6 Tryz.func278 rfl ?_;have:=N2
 have:=A1o.eq_1 a b;exact E7
def Q2(v:cI)(k:Int):cI:=let v1:=(C6 v.X k);let v2:=(C6 v.Y k);(⟨v1,v2⟩:cI)
theorem A51(v:cI)(k:Int):cA_ 297 [.agg v.enc,sI k] [] (.agg (Q2 v k).enc) []:=by
 refine M3 14 [(4,some (some 2))] hm A6 Tryz.func297 rfl ?_;have:=M2
 have:=Q2.eq_1 v k;exact E7
def Q1(a:cI)(b:cI):Int:=let v1:=(C1r a);let v2:=(C1r b);let v3:=(A5n (IntKind.i64.wrap ((IntKind.i64.wrap (v1.X*v2.X))+(IntKind.i64.wrap (v1.Y*v2.Y)))));v3
theorem A01(a:cI)(b:cI):cA_ 254 [.agg a.enc, .agg b.enc] [] (sI (Q1 a b)) []:=by
 refine en1 hm A6 Tryz.func254 rfl rfl ?_;have:=A1r
 have:=B5p
 have:=Q1.eq_1 a b;exact E7
def A07(a:cI)(b:cI):Int:=let v1:=(C1r a);let v2:=(C1r b);let v3:=(A5n (IntKind.i64.wrap ((IntKind.i64.wrap (v1.X*v2.Y))-(IntKind.i64.wrap (v1.Y*v2.X)))));v3
theorem A5z(a:cI)(b:cI):cA_ 435 [.agg a.enc, .agg b.enc] [] (sI (A07 a b)) []:=by
 refine en1 hm A6 Tryz.func435 rfl rfl ?_;have:=A1r
 have:=B5p
 have:=A07.eq_1 a b;exact E7
def A36(v:cI):cI:=let v1:=(A97 v);if(v1==0)=true then((⟨0,0⟩:cI))else(let v2:=(A0g v.X v1);let v3:=(A0g v.Y v1);(⟨v2,v3⟩:cI))
theorem A50(v:cI):cA_ 419 [.agg v.enc] [] (.agg (A36 v).enc) []:=by
 refine M3 18 [(2,some (some 2))] hm A6 Tryz.func419 rfl ?_;have:=W6
 have:=A7k
 have:=A36.eq_1 v;exact E7
def A1a(v:cI):cI:=let v1:=(C1r v);(⟨(IntKind.i64.wrap (0-v1.Y)),v1.X⟩:cI)
theorem C1o(v:cI):cA_ 311 [.agg v.enc] [] (.agg (A1a v).enc) []:=by
 refine M3 11 [(2,some (some 2))] hm A6 Tryz.func311 rfl ?_;have:=A1r
 have:=A1a.eq_1 v;exact E7
def A7g(a:cI)(b:cI)(t:Int):cI:=let v1:=(B3o a.X b.X t);let v2:=(B3o a.Y b.Y t);(⟨v1,v2⟩:cI)
theorem B11(a:cI)(b:cI)(t:Int):cA_ 264 [.agg a.enc, .agg b.enc,sI t] [] (.agg (A7g a b t).enc) []:=by
 refine M3 20 [(6,some (some 2))] hm A6 Tryz.func264 rfl ?_;have:=E0z
 have:=A7g.eq_1 a b t;exact E7
def A8z(r:Rot)(v:cI):cI:=let v3:=(C1r v);let v4:=(A5n (IntKind.i64.wrap ((IntKind.i64.wrap ((sat r.gE)*v3.X))-(IntKind.i64.wrap ((sat r.gI)*v3.Y)))));let v5:=(A5n (IntKind.i64.wrap ((IntKind.i64.wrap ((sat r.gI)*v3.X))+(IntKind.i64.wrap ((sat r.gE)*v3.Y)))));(⟨v4,v5⟩:cI)
theorem B7c(r:Rot)(v:cI):cA_ 323 [.agg r.enc, .agg v.enc] [] (.agg (A8z r v).enc) []:=by
 refine M3 36 [(4,some (some 2))] hm A6 Tryz.func323 rfl ?_;have:=L7
 have:=A1r
 have:=B5p
 have:=A8z.eq_1 r v;exact E7
def Z9(t:cJ)(v:cI):cI:=let v1:=(B1k t.eT);let v2:=(A8z v1 v);let v3:=(A1o v2 t.dY);v3
theorem A7u(t:cJ)(v:cI):cA_ 321 [.agg t.enc, .agg v.enc] [] (.agg (Z9 t v).enc) []:=by
 refine M3 13 [(4,some (some 2))] hm A6 Tryz.func321 rfl ?_;have:=C1a
 have:=B7c
 have:=A3j
 have:=Z9.eq_1 t v;exact E7
def A60(a:Int)(d:Int):Int:=let v1:=(K7 a);let v2:=(K7 (IntKind.i64.wrap (v1+d)));v2
theorem B6t(a:Int)(d:Int):cA_ 322 [sI a,sI d] [] (sI (A60 a d)) []:=by
 refine en1 hm A6 Tryz.func322 rfl rfl ?_;have:=A5d
 have:=A60.eq_1 a d;exact E7
def A2a(a:cJ)(b:cJ)(t:Int):cJ:=let v1:=(A04 a.eT b.eT);let v2:=(C6 v1 t);let v3:=(A7g a.dY b.dY t);let v4:=(A60 a.eT v2);(⟨v3,v4⟩:cJ)
theorem B08(a:cJ)(b:cJ)(t:Int):cA_ 326 [.agg a.enc, .agg b.enc,sI t] [] (.agg (A2a a b t).enc) []:=by
 refine M3 26 [(6,some (some 3))] hm A6 Tryz.func326 rfl ?_;have:=B87
 have:=M2
 have:=B11
 have:=B6t
 have:=A2a.eq_1 a b t;exact E7
def A72(t:cJ)(c:cI)(v:cI)(w:Int)(dt:Int):cJ:=let v1:=(Z9 t c);let v2:=(Q2 v dt);let v3:=(A1o v1 v2);let v4:=(C6 w dt);let v5:=(A60 t.eT v4);let v6:=(B1k v5);let v7:=(A8z v6 c);let v8:=(O5 v3 v7);(⟨v8,v5⟩:cJ)
theorem C2q(t:cJ)(c:cI)(v:cI)(w:Int)(dt:Int):cA_ 195 [.agg t.enc, .agg c.enc, .agg v.enc,sI w,sI dt] [] (.agg (A72 t c v w dt).enc) []:=by
 refine M3 34 [(10,some (some 3))] hm A6 Tryz.func195 rfl ?_;have:=A7u
 have:=A51
 have:=A3j
 have:=M2
 have:=B6t
 have:=C1a
 have:=B7c
 have:=L9
 have:=A72.eq_1 t c v w dt;exact E7
def L8(v:cI):cI:=(⟨(sat v.X),(sat v.Y)⟩:cI)
theorem D3u(v:cI):cA_ 408 [.agg v.enc] [] (.agg (L8 v).enc) []:=by
 refine M3 10 [(2,some (some 2))] hm A6 Tryz.func408 rfl ?_;have:=L7
 have:=L8.eq_1 v;exact E7
def A8i(v:cI):Bool:=(((sat v.X)==v.X)&&((sat v.Y)==v.Y))
theorem D1y(v:cI):cA_ 407 [.agg v.enc] [] (sB (A8i v)) []:=by
 refine en1 hm A6 Tryz.func407 rfl rfl ?_;have:=L7
 have:=A8i.eq_1 v;exact E7
def B8n(a:cI)(b:cI):cI:=(⟨(if b.X<a.X then b.X else a.X),(if b.Y<a.Y then b.Y else a.Y)⟩:cI)
theorem C67(a:cI)(b:cI):cA_ 409 [.agg a.enc, .agg b.enc] [] (.agg (B8n a b).enc) []:=by refine M3 16 [(4,some (some 2))] hm A6 Tryz.func409 rfl ?_;have:=B8n.eq_1 a b;exact E7
def B8o(a:cI)(b:cI):cI:=(⟨(if a.X<b.X then b.X else a.X),(if a.Y<b.Y then b.Y else a.Y)⟩:cI)
theorem C68(a:cI)(b:cI):cA_ 410 [.agg a.enc, .agg b.enc] [] (.agg (B8o a b).enc) []:=by refine M3 16 [(4,some (some 2))] hm A6 Tryz.func410 rfl ?_;have:=B8o.eq_1 a b;exact E7
def A4s(b:fL):Bool:=let v1:=(A8i b.fV);let v2:=(A8i b.fY);((((decide (b.fV.X<=b.fY.X))&&(decide (b.fV.Y<=b.fY.Y)))&&v1)&&v2)
theorem B35(b:fL):cA_ 275 [.agg b.enc] [] (sB (A4s b)) []:=by
 refine en1 hm A6 Tryz.func275 rfl rfl ?_;have:=D1y
 have:=A4s.eq_1 b;exact E7
def B3n(a:fL)(b:fL):Bool:=((((decide (a.fV.X<=b.fY.X))&&(decide (b.fV.X<=a.fY.X)))&&(decide (a.fV.Y<=b.fY.Y)))&&(decide (b.fV.Y<=a.fY.Y)))
theorem D3t(a:fL)(b:fL):cA_ 276 [.agg a.enc, .agg b.enc] [] (sB (B3n a b)) []:=by refine en1 hm A6 Tryz.func276 rfl rfl ?_;have:=B3n.eq_1 a b;exact E7
def A27(a:fL)(b:fL):Bool:=let v1:=(A4s a);let v2:=(A4s b);let v3:=(B3n a b);((v1&&v2)&&v3)
theorem C0m(a:fL)(b:fL):cA_ 168 [.agg a.enc, .agg b.enc] [] (sB (A27 a b)) []:=by
 refine en1 hm A6 Tryz.func168 rfl rfl ?_;have:=B35
 have:=D3t
 have:=A27.eq_1 a b;exact E7
def B6y(b:fL)(margin:Int):fL:=let v1:=(A4s b);if v1=false then((⟨(⟨0,0⟩:cI),(⟨0,0⟩:cI)⟩:fL))else(let v2:=(sat (sat b.fV.X-sat margin));let v3:=(sat (sat b.fV.Y-sat margin));let v4:=(D2 b.fY.X margin);let v5:=(D2 b.fY.Y margin);let v6:=(A4s (⟨(⟨v2,v3⟩:cI),(⟨v4,v5⟩:cI)⟩:fL));if v6=false then((⟨(⟨0,0⟩:cI),(⟨0,0⟩:cI)⟩:fL))else((⟨(⟨v2,v3⟩:cI),(⟨v4,v5⟩:cI)⟩:fL)))
theorem D7o(b:fL)(margin:Int):cA_ 464 [.agg b.enc,sI margin] [] (.agg (B6y b margin).enc) []:=by
 refine M3 38 [(4,some (some 4))] hm A6 Tryz.func464 rfl ?_;have:=λx1 x2 x3 x4=>cx_ (B35 ⟨⟨x1,x2⟩,⟨x3,x4⟩⟩)
 have:=B35
 have:=R7
 have:=N2
 have:=B6y.eq_1 b margin;exact E7
def A5(v:cI):cI:=(⟨(sat v.X),(sat v.Y)⟩:cI)
theorem B6j(v:cI):cA_ 484 [.agg v.enc] [] (.agg (A5 v).enc) []:=by
 refine M3 10 [(2,some (some 2))] hm A6 Tryz.func484 rfl ?_;have:=L7
 have:=A5.eq_1 v;exact E7
def A4m(c:cI)(d:cI)(p:cI):Int:=(if(IntKind.i64.wrap ((IntKind.i64.wrap ((IntKind.i64.wrap (d.X-c.X))*(IntKind.i64.wrap (p.Y-c.Y))))-(IntKind.i64.wrap ((IntKind.i64.wrap (d.Y-c.Y))*(IntKind.i64.wrap (p.X-c.X))))))<(IntKind.i64.wrap (0-(IntKind.i64.wrap ((IntKind.i64.wrap ((IntKind.i64.wrap (d.X-c.X))*(IntKind.i64.wrap (p.Y-c.Y))))-(IntKind.i64.wrap ((IntKind.i64.wrap (d.Y-c.Y))*(IntKind.i64.wrap (p.X-c.X))))))))then(IntKind.i64.wrap (0-(IntKind.i64.wrap ((IntKind.i64.wrap ((IntKind.i64.wrap (d.X-c.X))*(IntKind.i64.wrap (p.Y-c.Y))))-(IntKind.i64.wrap ((IntKind.i64.wrap (d.Y-c.Y))*(IntKind.i64.wrap (p.X-c.X))))))))else(IntKind.i64.wrap ((IntKind.i64.wrap ((IntKind.i64.wrap (d.X-c.X))*(IntKind.i64.wrap (p.Y-c.Y))))-(IntKind.i64.wrap ((IntKind.i64.wrap (d.Y-c.Y))*(IntKind.i64.wrap (p.X-c.X)))))))
theorem C1i(c:cI)(d:cI)(p:cI):cA_ 485 [.agg c.enc, .agg d.enc, .agg p.enc] [] (sI (A4m c d p)) []:=by refine en1 hm A6 Tryz.func485 rfl rfl ?_;have:=A4m.eq_1 c d p;exact E7
def B4(a:cI)(b:cI)(p:cI):cI×Int:=let v1:=(A5 a);let v2:=(A5 b);let v3:=(A5 p);let v4:=(B3s v1 v2);let v5:=(A8x (IntKind.i64.wrap ((IntKind.i64.wrap ((IntKind.i64.wrap (v3.X-v1.X))*(IntKind.i64.wrap (v2.X-v1.X))))+(IntKind.i64.wrap ((IntKind.i64.wrap (v3.Y-v1.Y))*(IntKind.i64.wrap (v2.Y-v1.Y)))))) v4);if(v5==0)=true then((v1,v5))else(if(v5==65536)=true then((v2,v5))else(let v6:=(A7g v1 v2 v5);(v6,v5)))
theorem B1y(a:cI)(b:cI)(p:cI):cA_ 487 [.agg a.enc, .agg b.enc, .agg p.enc] [] (.tup [.agg (B4 a b p).1.enc,sI ((B4 a b p).2)]) []:=by
 refine S3 56 [(6,some (some 2)),(7,none)] hm A6 Tryz.func487 rfl ?_;have:=B6j
 have:=Y7
 have:=B68
 have:=B11
 have:=B4.eq_1 a b p;exact E7
def A57(x:Int):Bool:=((decide ((-268435456)<=x))&&(decide (x<=268435456)))
theorem C5q(x:Int):cA_ 463 [sI x] [] (sB (A57 x)) []:=by refine en1 hm A6 Tryz.func463 rfl rfl ?_;have:=A57.eq_1 x;exact E7
def A7p(t:cJ):Bool:=let v1:=(A57 t.dY.X);let v2:=(A57 t.dY.Y);(((v1&&v2)&&(decide ((-205888)<=t.eT)))&&(decide (t.eT<205888)))
theorem B1g(t:cJ):cA_ 359 [.agg t.enc] [] (sB (A7p t)) []:=by
 refine en1 hm A6 Tryz.func359 rfl rfl ?_;have:=C5q
 have:=A7p.eq_1 t;exact E7
def B0q(v:cI)(limit:Int):Bool:=((inR v.X (IntKind.i64.wrap (0-limit)) limit)&&(inR v.Y (IntKind.i64.wrap (0-limit)) limit))
theorem D5v(v:cI)(limit:Int):cA_ 357 [.agg v.enc,sI limit] [] (sB (B0q v limit)) []:=by
 refine en1 hm A6 Tryz.func357 rfl rfl ?_;have:=B66
 have:=B0q.eq_1 v limit;exact E7
def B6z(b:cE):Bool:=((!((b.dO.X==0)&&(b.dO.Y==0)))||(b.dA != 0))
theorem D7q(b:cE):cA_ 360 [.agg b.enc] [] (sB (B6z b)) []:=by refine en1 hm A6 Tryz.func360 rfl rfl ?_;have:=B6z.eq_1 b;exact E7
def B09(b:cE):Bool:=let v1:=(B6z b);if((b.cS==1)&&(v1||((!((b.fF.X==0)&&(b.fF.Y==0)))||(b.fG != 0))))=true then(false)else(if((b.cS != 3)&&(b.eX||b.fH))=true then(false)else(((!b.eX)||(!v1))))
theorem C9b(b:cE):cA_ 228 [.agg b.enc] [] (sB (B09 b)) []:=by
 refine en1 hm A6 Tryz.func228 rfl rfl ?_;have:=D7q
 have:=B09.eq_1 b;exact E7
def A0o(s:Shape):Bool:=if(s.cS==1)=true then(((s.cK.length:Int)==1))else(if(s.cS==2)=true then(((s.cK.length:Int)==2))else(((decide (3<=(s.cK.length:Int)))&&(decide ((s.cK.length:Int)<=8)))))
theorem C7u(s:Shape):cA_ 376 [.agg s.enc] [] (sB (A0o s)) []:=by refine en1 hm A6 Tryz.func376 rfl rfl ?_;have:=A0o.eq_1 s;exact E7
theorem F72(s:Shape):A0o s=true->(s.cS=1->s.cK.length=1)/\(s.cS=2->s.cK.length=2)/\(s.cS=3->3<=s.cK.length):=by
 intro h;unfold A0o at h
 (repeat' split at h) <;> simp only[zi,zk,qc]at* <;> omega
def A6z(n:Int):Bool:=((decide (n<(-1048576)))||(decide (1048576<n)))
theorem C7t(n:Int):cA_ 379 [sI n] [] (sB (A6z n)) []:=by refine en1 hm A6 Tryz.func379 rfl rfl ?_;have:=A6z.eq_1 n;exact E7
def A6b(l:List cI)(i1:Nat)(s1:Unit):(Unit) ⊕ (Bool):=let v1:=(E0m (l.getD i1 dF_));if v1=false then(.inr false)else(.inl ())
def A5f(l:List cI):Bool:=(match I8 (A6b l) l.length ()with | .inr r=>r | .inl s1=>true)
theorem C4a(l:List cI)(hl:l.length<=1048576):cA_ 482 [A4 2 cI.enc dF_ l] [] (sB (A5f l)) []:=by
 refine en1 hm A6 Tryz.func482 rfl rfl ?_;have:=C9l
 have:=A5f.eq_1 l
 have:=λi_ s_=>A6b.eq_1 l i_ s_
 have:=λx_ Q_ σ_=> @lp_ Tryz.prog Tryz.f482.ntmps [] x_ Q_ σ_ hm (IE (A6b l) ()) (λ_=>True) l.length (λi_=> [(5, .cA,A4 2 cI.enc dF_ l),(6, .cA,sI (l.length:Int)),(7, .cA,sI (i_:Int))]) (λi_=> []) [] rfl (λ_ _=>trivial) g_ g_ g_;exact A85
def A9z(k:cR):Bool:=(((((decide (k.cU<k.cV))&&(decide (0<=k.dM)))&&(decide (k.dM<4)))&&(decide (0<=k.dJ)))&&(decide (k.dJ<4)))
theorem C7a(k:cR):cA_ 237 [.agg k.enc] [] (sB (A9z k)) []:=by refine en1 hm A6 Tryz.func237 rfl rfl ?_;have:=A9z.eq_1 k;exact E7
def A0e(vs:List cI)(i1:Nat)(i2:Nat)(s2:Unit):(Unit) ⊕ (Bool):=let v2:=(ori (vs.getD i1 dF_) (vs.getD ((IntKind.i64.wrap ((i1:Int)+1)).tmod (vs.length:Int)).toNat dF_) (vs.getD i2 dF_));if((((i2:Int) != (i1:Int))&&((i2:Int) != ((IntKind.i64.wrap ((i1:Int)+1)).tmod (vs.length:Int))))&&(v2 != 1))=true then(.inr false)else(.inl ())
def A0d(vs:List cI)(i1:Nat)(s1:Unit):(Unit) ⊕ (Bool):=(match I8 (A0e vs i1) vs.length ()with | .inr r=> .inr r | .inl s2=> .inl ())
def M5(vs:List cI):Bool:=let v1:=(A5f vs);if(((decide ((vs.length:Int)<3))||(decide (8<(vs.length:Int))))||(!v1))=true then(false)else((match I8 (A0d vs) vs.length ()with | .inr r=>r | .inl s1=>true))
theorem A7b(vs:List cI)(hn:vs.length<=1048576):cA_ 380 [A4 2 cI.enc dF_ vs] [] (sB (M5 vs)) []:=by
 refine en1 hm A6 Tryz.func380 rfl rfl ?_;simp only[go_sem,D6];refine A0 (C4a vs (by(assumption))) rfl ?_;generalize hv1:(A5f vs)=v1;simp only[go_sem,D6,C0];by_cases h1:(((decide ((vs.length:Int)<3))||(decide (8<(vs.length:Int))))||(!v1))=true
 ·rw[zc h1];have hd:M5 vs=false:=by(unfold M5;exact hd_)
  try rw[hd]
 ·rw[zb h1];refine B1 hm (ι:= {p:Nat×Unit // p.1<=vs.length/\I8 (A0d vs) p.1 ()= .inl p.2}) (λi=> [(0, .cA,A4 2 cI.enc dF_ vs),(3, .cA,sI (vs.length:Int)),(22, .cA,A4 2 cI.enc dF_ vs),(23, .cA,sI (vs.length:Int)),(24, .cA,sI (i.1.1:Int))]) (λi=> []) (λi=>vs.length-i.1.1) ⟨(0,()),o_,rfl⟩ ?_ ?_
  ·refine D8 [] [] ?_;simp only[go_sem]
  ·rintro⟨⟨i1,s1⟩,hi1,hs1⟩;replace hi1:i1<=vs.length:=hi1;replace hs1:I8 (A0d vs) i1 ()= .inl s1:=hs1;refine sg_ ?_;by_cases h2:(i1:Int)<(vs.length:Int)
   ·rw[zc h2];have hlt1:i1<vs.length:=o_
    (repeat(with_reducible refine And.intro ?_ ?_;exact aI_))
    refine B1 hm (ι:= {p:Nat×Unit // p.1<=vs.length/\I8 (A0e vs i1) p.1 ()= .inl p.2}) (λi=> [(0, .cA,A4 2 cI.enc dF_ vs),(3, .cA,sI (vs.length:Int)),(4, .cA,sI (i1:Int)),(5, .cA, .ptr 96 0 0 1),(6, .cA,sI ((IntKind.i64.wrap ((i1:Int)+1)).tmod (vs.length:Int))),(22, .cA,A4 2 cI.enc dF_ vs),(23, .cA,sI (vs.length:Int)),(24, .cA,sI (i1:Int)),(33, .cA,A4 2 cI.enc dF_ vs),(34, .cA,sI (vs.length:Int)),(35, .cA,sI (i.1.1:Int))]) (λi=> [(96, .box [sI ((vs.getD i1 dF_).X),sI ((vs.getD i1 dF_).Y)])]) (λi=>vs.length-i.1.1) ⟨(0,()),o_,rfl⟩ ?_ ?_
    ·refine D8 [] [] ?_;simp only[go_sem]
    ·rintro⟨⟨i2,s2⟩,hi2,hs2⟩;replace hi2:i2<=vs.length:=hi2;replace hs2:I8 (A0e vs i1) i2 ()= .inl s2:=hs2;simp only[go_sem,C7,C0];by_cases h3:(i2:Int)<(vs.length:Int)
     ·rw[zc h3];have hlt2:i2<vs.length:=o_
      (repeat(with_reducible refine And.intro ?_ ?_;exact aI_))
      refine A0 (A20 (vs.getD i1 dF_) (vs.getD ((IntKind.i64.wrap ((i1:Int)+1)).tmod (vs.length:Int)).toNat dF_) (vs.getD i2 dF_)) rfl ?_;generalize hv2:(ori (vs.getD i1 dF_) (vs.getD ((IntKind.i64.wrap ((i1:Int)+1)).tmod (vs.length:Int)).toNat dF_) (vs.getD i2 dF_))=v2;simp only[go_sem,C7,C0];by_cases h4:((((i2:Int) != (i1:Int))&&((i2:Int) != ((IntKind.i64.wrap ((i1:Int)+1)).tmod (vs.length:Int))))&&(v2 != 1))=true
      ·rw[zc h4];have e2:I8 (A0e vs i1) (i2+1) ()= .inr false:=A0f hs2 (by(unfold A0e;exact hd_));replace e2:=A4w e2 (show i2+1<=vs.length by omega);have e1:I8 (A0d vs) (i1+1) ()= .inr false:=A0f hs1 (by(unfold A0d;exact hd_));replace e1:=A4w e1 (show i1+1<=vs.length by omega);have hd:M5 vs=false:=by(unfold M5;exact hd_)
       try rw[hd]
      ·rw[zb h4];have hn:I8 (A0e vs i1) (i2+1) ()= .inl ():=A0f hs2 (by(unfold A0e;exact hd_));refine A8 ⟨(i2+1,()),o_,hn⟩ (by show vs.length-(i2+1)<vs.length-i2;omega) (D8 [] [] ?_);refine sg_ ?_;exact A8n
     ·rw[zb h3];have hge:i2=vs.length:=o_
      subst hge;have hn:I8 (A0d vs) (i1+1) ()= .inl ():=A0f hs1 (by(unfold A0d;exact hd_));refine A8 ⟨(i1+1,()),o_,hn⟩ (by show vs.length-(i1+1)<vs.length-i1;omega) (D8 [] [] ?_);refine sg_ ?_;exact A8n
   ·rw[zb h2];have hge:i1=vs.length:=o_
    subst hge;have hd:M5 vs=true:=by(unfold M5;exact hd_)
    try rw[hd]
theorem B7t(vs:List cI):M5 vs=true->3<=vs.length/\vs.length<=8:=by
 intro h;unfold M5 at h;simp only at h;split at h
 ·cases h
 ·rename_i hc;simp only[zy,zk,qy]at hc;omega
def A5e(vs:List cI)(i1:Nat)(s1:Int):Int:=let v2:=(O5 (vs.getD ((IntKind.i64.wrap ((i1:Int)+1)).tmod (vs.length:Int)).toNat dF_) (vs.getD i1 dF_));let v3:=(A97 v2);(if v3<s1 then v3 else s1)
def A4l(vs:List cI):Int:=let v1:=(M5 vs);if v1=false then(0)else(let s1:=itr (A5e vs) vs.length 536870911;s1)
theorem C1h(vs:List cI)(hn:vs.length<=1048576):cA_ 381 [A4 2 cI.enc dF_ vs] [] (sI (A4l vs)) []:=by
 refine en1 hm A6 Tryz.func381 rfl rfl ?_;have:=B7t vs
 have:=A7b
 have:=L9
 have:=W6
 have:=A4l.eq_1 vs
 have:=λi_ s_=>A5e.eq_1 vs i_ s_
 have:=λx_ Q_ σ_=> @lp_ Tryz.prog Tryz.f381.ntmps [] x_ Q_ σ_ hm (λ_=>True) (λ_=>True) vs.length (λi_=> [(0, .cA,A4 2 cI.enc dF_ vs),(3, .cA,sI (itr (A5e vs) i_ 536870911)),(9, .cA,A4 2 cI.enc dF_ vs),(10, .cA,sI (vs.length:Int)),(11, .cA,sI (i_:Int))]) (λi_=> []) [] trivial (λ_ _=>trivial) g_ g_ g_;exact A85
structure K8 where
 e:cI
 f:cI
 cross:Int
 deriving DecidableEq,Inhabited
def K8.enc(x:K8):List AV:=[sI x.e.X,sI x.e.Y,sI x.f.X,sI x.f.Y,sI x.cross]
def K8.zero:List AV:= [sI 0,sI 0,sI 0,sI 0,sI 0]
attribute [go_sem] K8.enc K8.zero
@[go_sem] theorem E5o(x:K8):K8.mk x.e x.f x.cross=x:=rfl
def U8(vs:List cI)(i1:Nat)(s1:(List K8)×Int):(List K8)×Int:=let v1:=(A38 (IntKind.i64.wrap ((IntKind.i64.wrap ((IntKind.i64.wrap ((vs.getD (i1+1) dF_).X-(vs.getD 0 dF_).X))*(IntKind.i64.wrap ((vs.getD (IntKind.i64.wrap (((i1+1:Nat):Int)+1)).toNat dF_).Y-(vs.getD 0 dF_).Y))))-(IntKind.i64.wrap ((IntKind.i64.wrap ((vs.getD (i1+1) dF_).Y-(vs.getD 0 dF_).Y))*(IntKind.i64.wrap ((vs.getD (IntKind.i64.wrap (((i1+1:Nat):Int)+1)).toNat dF_).X-(vs.getD 0 dF_).X)))))) 65536);((s1.1++ [(⟨(⟨(IntKind.i64.wrap ((vs.getD (i1+1) dF_).X-(vs.getD 0 dF_).X)),(IntKind.i64.wrap ((vs.getD (i1+1) dF_).Y-(vs.getD 0 dF_).Y))⟩:cI),(⟨(IntKind.i64.wrap ((vs.getD (IntKind.i64.wrap (((i1+1:Nat):Int)+1)).toNat dF_).X-(vs.getD 0 dF_).X)),(IntKind.i64.wrap ((vs.getD (IntKind.i64.wrap (((i1+1:Nat):Int)+1)).toNat dF_).Y-(vs.getD 0 dF_).Y))⟩:cI),v1⟩:K8)]),(IntKind.i64.wrap (s1.2+v1)))
def R0(vs:List cI):(List K8)×Int:=let s1:=itr (U8 vs) (vs.length-2) ([],0);(s1.1,s1.2)
theorem C5a(vs:List cI)(hn:vs.length<=1048576)(h0:1<=vs.length):cA_ 483 [A4 2 cI.enc dF_ vs] [] (.tup [A4 5 K8.enc dF_ (R0 vs).1,sI ((R0 vs).2)]) []:=by
 refine enT hm A6 Tryz.func483 rfl rfl (sg_ ?_)
 (repeat(with_reducible refine And.intro ?_ ?_;exact aI_))
 refine B1 hm (ι:= {i:Nat // i<=(vs.length-2)}) (λi=> [(0, .cA,A4 2 cI.enc dF_ vs),(4,if i.1=0 then .fA else .cA, .sl 1004 0 (itr (U8 vs) i.1 ([],0)).1.length (itr (U8 vs) i.1 ([],0)).1.length),(5, .cA,sI ((itr (U8 vs) i.1 ([],0)).2)),(6, .cA, .ptr 112 0 0 1),(7, .cA,sI ((i.1+1:Nat):Int))]) (λi=> [(1004, .arr 5 (B0 K8.enc dF_ (itr (U8 vs) i.1 ([],0)).1)),(112, .box [sI ((vs.getD 0 dF_).X),sI ((vs.getD 0 dF_).Y)])]) (λi=>(vs.length-2)-i.1) ⟨0,o_⟩ ?_ ?_
 ·refine D8 [] [1004] ?_;simp only[go_sem,G9];exact A8n
 ·rintro⟨i1,hi1⟩;dsimp only;generalize hs1:itr (U8 vs) i1 ([],0)=s1;have hl1_0:(s1.1).length<=((([],0):(List K8)×Int).1).length+1*i1:=by rw[<-hs1];exact A89 (λs:(List K8)×Int=>(s.1).length) 1 (λi s=>by(unfold U8;(repeat' split) <;> simp <;> omega)) i1 _
  dsimp only[List.length_nil]at hl1_0;refine sg_ ?_;by_cases h1:(IntKind.i64.wrap (((i1+1:Nat):Int)+1))<(vs.length:Int)
  ·rw[zc h1];have hlt1:i1<(vs.length-2):=by(simp only[IntKind.wrap_i64]at h1;omega)
   (repeat(with_reducible refine And.intro ?_ ?_;exact aI_))
   refine A0 (Q8 (IntKind.i64.wrap ((IntKind.i64.wrap ((IntKind.i64.wrap ((vs.getD (i1+1) dF_).X-(vs.getD 0 dF_).X))*(IntKind.i64.wrap ((vs.getD (IntKind.i64.wrap (((i1+1:Nat):Int)+1)).toNat dF_).Y-(vs.getD 0 dF_).Y))))-(IntKind.i64.wrap ((IntKind.i64.wrap ((vs.getD (i1+1) dF_).Y-(vs.getD 0 dF_).Y))*(IntKind.i64.wrap ((vs.getD (IntKind.i64.wrap (((i1+1:Nat):Int)+1)).toNat dF_).X-(vs.getD 0 dF_).X)))))) 65536) rfl ?_;generalize hv1:(A38 (IntKind.i64.wrap ((IntKind.i64.wrap ((IntKind.i64.wrap ((vs.getD (i1+1) dF_).X-(vs.getD 0 dF_).X))*(IntKind.i64.wrap ((vs.getD (IntKind.i64.wrap (((i1+1:Nat):Int)+1)).toNat dF_).Y-(vs.getD 0 dF_).Y))))-(IntKind.i64.wrap ((IntKind.i64.wrap ((vs.getD (i1+1) dF_).Y-(vs.getD 0 dF_).Y))*(IntKind.i64.wrap ((vs.getD (IntKind.i64.wrap (((i1+1:Nat):Int)+1)).toNat dF_).X-(vs.getD 0 dF_).X)))))) 65536)=v1;refine sg_ ?_
   (repeat(with_reducible refine And.intro ?_ ?_;exact aI_))
   have hn:itr (U8 vs) (i1+1) ([],0)=((s1.1++ [(⟨(⟨(IntKind.i64.wrap ((vs.getD (i1+1) dF_).X-(vs.getD 0 dF_).X)),(IntKind.i64.wrap ((vs.getD (i1+1) dF_).Y-(vs.getD 0 dF_).Y))⟩:cI),(⟨(IntKind.i64.wrap ((vs.getD (IntKind.i64.wrap (((i1+1:Nat):Int)+1)).toNat dF_).X-(vs.getD 0 dF_).X)),(IntKind.i64.wrap ((vs.getD (IntKind.i64.wrap (((i1+1:Nat):Int)+1)).toNat dF_).Y-(vs.getD 0 dF_).Y))⟩:cI),v1⟩:K8)]),(IntKind.i64.wrap (s1.2+v1))):=by rw[H7,hs1];(unfold U8;exact hd_)
   refine A8 ⟨i1+1,o_⟩ (by show(vs.length-2)-(i1+1)<(vs.length-2)-i1;omega) (D8 [] [] ?_);simp only[go_sem,hn]
   all_goals((with_reducible and_intros) <;> first |exact A0q ((⟨(⟨(IntKind.i64.wrap ((vs.getD (i1+1) dF_).X-(vs.getD 0 dF_).X)),(IntKind.i64.wrap ((vs.getD (i1+1) dF_).Y-(vs.getD 0 dF_).Y))⟩:cI),(⟨(IntKind.i64.wrap ((vs.getD (IntKind.i64.wrap (((i1+1:Nat):Int)+1)).toNat dF_).X-(vs.getD 0 dF_).X)),(IntKind.i64.wrap ((vs.getD (IntKind.i64.wrap (((i1+1:Nat):Int)+1)).toNat dF_).Y-(vs.getD 0 dF_).Y))⟩:cI),v1⟩:K8)) rfl rfl |exact A8n)
  ·rw[zb h1];have hge:i1=(vs.length-2):=by(simp only[IntKind.wrap_i64]at h1;omega)
   subst hge;have hd:R0 vs=(s1.1,s1.2):=by(unfold R0;exact hd_)
   try rw[hd]
   try simp only[go_sem]
def A16(vs:List cI):Int:=let v1:=(M5 vs);if v1=false then(0)else(let v2:=(R0 vs);let v3:=(A38 v2.2 2);v3)
theorem C2i(vs:List cI)(hn:vs.length<=1048576):cA_ 382 [A4 2 cI.enc dF_ vs] [] (sI (A16 vs)) []:=by
 refine en1 hm A6 Tryz.func382 rfl rfl (sg_ ?_);have p1:=B7t vs;refine A0 (A7b vs (by(assumption))) rfl ?_;generalize hv1:(M5 vs)=v1 at*;refine sg_ ?_;by_cases h2:v1=false
 ·rw[zc h2];have hd:A16 vs=0:=by(unfold A16;exact hd_)
  try rw[hd]
 ·rw[zb h2];refine A0 (C5a vs (by(assumption)) (by(exact K1))) rfl ?_;generalize hv2:(R0 vs)=v2;refine sg_ ?_;refine A0 (Q8 v2.2 2) rfl ?_;generalize hv3:(A38 v2.2 2)=v3;refine sg_ ?_;have hd:A16 vs=v3:=by(unfold A16;exact hd_)
  try rw[hd]
def B5a(b:cE):Bool:=let v1:=(B0q b.dO 16777216);let v3:=(B0q b.fF 536870911);let v9:=(A7p b.cJ);(((((((inR b.ID 1 1099511627776)&&v9)&&(v1&&(inR b.dA (-4194304) 4194304)))&&(v3&&(inR b.fG (-536870911) 536870911)))&&((inR b.eC 0 65536)&&(inR b.dX 0 65536)))&&(inR b.eF (-262144) 262144))&&(inR b.eM 0 1048576))
theorem D5w(b:cE):cA_ 226 [.agg b.enc] [] (sB (B5a b)) []:=by
 refine en1 hm A6 Tryz.func226 rfl rfl ?_;have:=D5v
 have:=B66
 have:=B1g
 have:=B5a.eq_1 b;exact E7
def A1w(k:Int):Int×Int:=if(k==1)=true then((0,268435456))else(if(k==2)=true then(((-205888),205888))else(((-268435456),268435456)))
theorem B6f(k:Int):cA_ 361 [sI k] [] (.tup [sI ((A1w k).1),sI ((A1w k).2)]) []:=by refine enT hm A6 Tryz.func361 rfl rfl ?_;have:=A1w.eq_1 k;exact E7
def R1(v:cI)(limit:Int):Bool:=((inR v.X (IntKind.i64.wrap (0-limit)) limit)&&(inR v.Y (IntKind.i64.wrap (0-limit)) limit))
theorem A5k(v:cI)(limit:Int):cA_ 363 [.agg v.enc,sI limit] [] (sB (R1 v limit)) []:=by
 refine en1 hm A6 Tryz.func363 rfl rfl ?_;have:=L0
 have:=R1.eq_1 v limit;exact E7
def A9g(j:cF):Bool:=if(j.cS==5)=true then(((j.cU==0)&&(inR j.cV 1 1099511627776)))else((((inR j.cU 1 1099511627776)&&(inR j.cV 1 1099511627776))&&(j.cU != j.cV)))
theorem C5j(j:cF):cA_ 230 [.agg j.enc] [] (sB (A9g j)) []:=by
 refine en1 hm A6 Tryz.func230 rfl rfl ?_;have:=L0
 have:=A9g.eq_1 j;exact E7
def A8j(j:cF):Bool:=if(j.cS==3)=true then(let v1:=(A97 j.eN);(!(inR v1 65520 65552)))else(if(j.cS==1)=true then((((!((j.eN.X==0)&&(j.eN.Y==0)))||j.dF)||(!j.dD)))else(if(j.cS==4)=true then((((!((j.eN.X==0)&&(j.eN.Y==0)))||j.dF)||j.dD))else(if(j.cS==5)=true then((((!((j.eN.X==0)&&(j.eN.Y==0)))||j.dF)||j.dD))else((!((j.eN.X==0)&&(j.eN.Y==0)))))))
theorem C37(j:cF):cA_ 231 [.agg j.enc] [] (sB (A8j j)) []:=by
 refine en1 hm A6 Tryz.func231 rfl rfl ?_;have:=W6
 have:=L0
 have:=A8j.eq_1 j;exact E7
end Go.Abs
end
