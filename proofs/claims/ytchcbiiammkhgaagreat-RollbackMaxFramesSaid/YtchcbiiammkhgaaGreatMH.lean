/- A part of the proof: contracts of functions that the statement reaches. -/
import Derived.Test.YtchcbiiammkhgaaGreatMG
set_option linter.unusedSimpArgs false
set_option linter.unusedVariables false
set_option linter.unnecessarySimpa false
set_option maxRecDepth 100000
set_option maxHeartbeats 2000000
noncomputable section
namespace Go.Abs
open Go.Proofs
open Api
def C3w(n:Nat)(acc:List Int)(i:Int):List Int:=if(0<=i/\i<n)/\ ¬(acc.any λy=>i==y)=true then acc++ [i]else acc
def B0d(l:List Int)(n:Nat):List Int:=l.foldl (C3w n) []
theorem E35 {l:List Int}{n k:Nat}(h:k<l.length):B0d (l.take (k+1)) n=C3w n (B0d (l.take k) n) (l.getD k 0):=by rw[L5 0 h];simp[B0d]
theorem F8n(n:Nat)(acc:List Int)(i:Int):(C3w n acc i).length<=acc.length+1:=by unfold C3w;split <;> simp
theorem C7b(l:List Int)(n:Nat):(B0d l n).length<=l.length:=by
 have: ∀(l acc:List Int),(l.foldl (C3w n) acc).length<=acc.length+l.length:=by
  intro l;induction l with
  |nil=>intro acc;simp
  |cons a l ih=>intro acc;have:=ih (C3w n acc a);have:=F8n n acc a;simp only[List.foldl_cons,List.length_cons];omega
 simpa[B0d]using this l []
theorem F8o {l:List Int}{n:Nat}{i:Int}:i∈B0d l n↔i∈l/\0<=i/\i<n:=by
 have: ∀(l acc:List Int),i∈l.foldl (C3w n) acc↔i∈acc\/(i∈l/\0<=i/\i<n):=by
  intro l;induction l with
  |nil=>intro acc;simp
  |cons a l ih=>
   intro acc;rw[List.foldl_cons,ih];unfold C3w;split
   ·rename_i h;simp only[List.mem_append,List.mem_cons,List.not_mem_nil,or_false];constructor
    ·rintro((h1 |rfl) |h1)
     ·exact .inl h1
     ·exact .inr ⟨.inl rfl,h.1⟩
     ·exact .inr ⟨.inr h1.1,h1.2⟩
    ·rintro(h1 |⟨rfl |h1,h2⟩)
     ·exact .inl (.inl h1)
     ·exact .inl (.inr rfl)
     ·exact .inr ⟨h1,h2⟩
   ·rename_i h;simp only[List.mem_cons];constructor
    ·rintro(h1 |h1)
     ·exact .inl h1
     ·exact .inr ⟨.inr h1.1,h1.2⟩
    ·rintro(h1 |⟨rfl |h1,h2⟩)
     ·exact .inl h1
     ·left;have:(acc.any λy=>i==y)=true:=Classical.byContradiction λhh=>h ⟨h2,hh⟩;rw[List.any_eq_true]at this;obtain⟨y,hy,e⟩:=this;rw[beq_iff_eq]at e;rwa[e]
     ·exact .inr ⟨h1,h2⟩
 simpa[B0d]using this l []
def E74(w:Api.World)(x:B3)(n:Nat):List AV:= [sI w.cM.dZ,sI w.cM.eG.X,sI w.cM.eG.Y,sI w.cM.eL,sI w.cM.eD,
 .sl 1 0 w.cC.length w.cC.length, .sl 2 0 w.cD.length w.cD.length, .sl 3 0 w.cB.length w.cB.length, .sl 4 0 w.cT.length w.cT.length,sI w.dJ,sI w.eK,
 A4 1 C6 0 x.cC,A4 1 C6 0 x.cB,A4 1 C6 0 x.cD, .sl 5 0 n n]
def A58(w:Api.World)(x:B3)(l:List Int):List (Nat×A7):=(6, .box (E74 w x l.length))::(5, .arr 1 (A9 C6 0 l))::D7j w 1 2 3 4
attribute [go_sem] E74 A58
def Ism(x:B3):Prop:=x.cC.length<=1048576/\x.cB.length<=1048576/\x.cD.length<=1048576
theorem B3b(w:Api.World)(x:B3)(hw:Wsm w)(hx:Ism x):cA_ D7a [.agg w.enc, .agg x.enc] [] (.ptr 6 0 0 1) (A58 w x (B0d x.cC w.cC.length)):=by
 have hx1:=hx.1;refine I7 hm A6 Tryz.func161 rfl rfl (sg_ ?_);refine B5 [true] [] (U3 w hw) (by simp) (by simp[go_sem]) (by simp[go_sem]) (by simp) (sg_ ?_);refine B1 hm (ι:= {i:Nat // i<=x.cC.length}) (λi=> [(2, .cA, .ptr 48 0 0 1),(3, .cA, .ptr 64 0 0 1),(5, .cA, .ptr 6 0 0 1),(14, .cA,A4 1 C6 0 x.cC),(15, .cA,sI x.cC.length),(16, .cA,sI i.1)])
  (λi=>(48, .box w.enc)::(64, .box x.enc)::A58 w x (B0d (x.cC.take i.1) w.cC.length)) (λi=>x.cC.length-i.1) ⟨0,by omega⟩ ?_ ?_
 ·refine E0 [(6,208)] [5] (sg_ ?_);rfl
 ·rintro⟨i,hi⟩;have hn:=C7b (x.cC.take i) w.cC.length
  have hn:(B0d (x.cC.take i) w.cC.length).length<=1048576:=by have:=hx.1;simp at hn;omega
  refine sg_ ?_;split
  ·rename_i hlt;have hlt:i<x.cC.length:=by omega
   refine⟨ok_,?_⟩;refine A5i (C5r (B0d (x.cC.take i) w.cC.length) (x.cC.getD i 0) hn) rfl (by simp only[S3,go_sem]) (sg_ ?_);by_cases hc:(0<=x.cC.getD i 0/\x.cC.getD i 0<(w.cC.length:Int))/\ ¬((B0d (x.cC.take i) w.cC.length).any λy=>x.cC.getD i 0==y)=true
   ·have he:B0d (x.cC.take (i+1)) w.cC.length=B0d (x.cC.take i) w.cC.length++ [x.cC.getD i 0]:=by
     rw[E35 hlt];unfold C3w;rw[if_pos hc]
    rw[if_pos (by obtain⟨⟨c1,c2⟩,c3⟩:=hc;rw[if_pos c1,decide_eq_true c2,Bool.eq_false_iff.2 c3];rfl)];refine⟨ok_,?_⟩;refine A8 ⟨i+1,by omega⟩ (by show x.cC.length-(i+1)<x.cC.length-i;omega) (E0 [] [] ?_);simp only[go_sem,he,List.length_append,List.length_singleton];exact⟨(by rw[IntKind.wrap_i64];omega),A1g (x.cC.getD i 0) rfl rfl⟩
   ·have he:B0d (x.cC.take (i+1)) w.cC.length=B0d (x.cC.take i) w.cC.length:=by
     rw[E35 hlt];unfold C3w;rw[if_neg hc]
    rw[if_neg (by
     intro h;apply hc;rw[Bool.and_eq_true,Bool.not_eq_true']at h;obtain⟨h1,h2⟩:=h;by_cases c1:0<=x.cC.getD i 0
     ·rw[if_pos c1]at h1;exact⟨⟨c1,of_decide_eq_true h1⟩,Bool.eq_false_iff.1 h2⟩
     ·rw[if_neg c1]at h1;cases h1)]
    refine A8 ⟨i+1,by omega⟩ (by show x.cC.length-(i+1)<x.cC.length-i;omega) (E0 [] [] ?_);simp only[go_sem,he];exact(by rw[IntKind.wrap_i64];omega)
  ·rename_i hge;obtain rfl:i=x.cC.length:=by omega
   refine B6 [.cA] [] [] ?_;simp only[go_sem,List.take_length]
theorem B0h(w:Api.World)(x:B3)(l:List Int):okO (A58 w x l):=by refine⟨by simp[go_sem],?_⟩;simp[go_sem,F0,AV.ids]
def B4m(w:Api.World)(i:Int):cF:=w.cC.getD i.toNat dF_
theorem C7z(w:Api.World)(x:B3)(l:List Int)(b:cF):cA_ B35 [.ptr 6 0 0 1, .agg b.enc] (A58 w x l) (sB (!b.eU)) (A58 w x l):=by refine I7 hm A6 Tryz.func260 rfl rfl (sg_ ?_);refine B6 [.cA] [] [] ?_;simp only[go_sem]
theorem C4b(w:Api.World)(x:B3)(l:List Int)(b:cF):cA_ B12 [.ptr 6 0 0 1, .agg b.enc] (A58 w x l) (sB (decide (b.eJ<w.cM.eD))) (A58 w x l):=by refine I7 hm A6 Tryz.func200 rfl rfl (sg_ ?_);refine B6 [.cA] [] [] ?_;simp only[go_sem]
def D78(b:cF):Bool:=(b.cS==2)&&(!(b.dL.X==0&&b.dL.Y==0)||b.cZ != 0)
theorem C71(w:Api.World)(x:B3)(l:List Int)(b:cF):cA_ C6j [.ptr 6 0 0 1, .agg b.enc] (A58 w x l) (sB (D78 b)) (A58 w x l):=by
 refine I7 hm A6 Tryz.func331 rfl rfl (sg_ ?_);cases hk:b.cS==2 with
 |true=>refine sg_ ?_;refine B6 [.cA] [] [] (sg_ ?_);simp only[D78,hk,Bool.true_and]
 |false=>refine sg_ ?_;refine B6 [.cA] [] [] (sg_ ?_);simp only[D78,hk,Bool.false_and]
def E66(w:Api.World)(x:B3)(l:List Int)(f:FuncId):List (Nat×A7):=(48, .box [.ptr 6 0 0 1])::(64, .box [.fn (.func f) [.ptr 6 0 0 1] []])::A58 w x l
attribute [go_sem] E66
theorem E8l(w:Api.World)(x:B3)(l:List Int)(f:FuncId):okO (E66 w x l f):=by refine⟨by simp[go_sem],?_⟩;simp[go_sem,F0,AV.ids]
theorem C70(w:Api.World)(x:B3)(l:List Int)(f:FuncId)(p:cF->Bool)(hp: ∀b:cF,cA_ f [.ptr 6 0 0 1, .agg b.enc] (A58 w x l) (sB (p b)) (A58 w x l))
  (i:Int)(h0:0<=i)(h1:i<w.cC.length):cA_ B36 [sI i, .ptr 64 0 0 1, .ptr 48 0 0 1] (E66 w x l f) (sB (p (B4m w i))) (E66 w x l f):=by
 refine I7 hm A6 Tryz.func329 rfl rfl (sg_ ?_);refine⟨⟨h0,h1⟩,?_⟩;refine Z2 (hp (B4m w i)) (B0h w x l) (by simp[go_sem]) (by simp[go_sem,AV.ids]) rfl (sg_ ?_);refine B6 [.cA] [] [] ?_;simp only[go_sem]
theorem B80(w:Api.World)(x:B3)(l:List Int)(f:FuncId)(p:cF->Bool)(hp: ∀b:cF,cA_ f [.ptr 6 0 0 1, .agg b.enc] (A58 w x l) (sB (p b)) (A58 w x l))
  (hl:l.length<=1048576)(hi: ∀i∈l,0<=i/\i<w.cC.length):cA_ D5a [.ptr 6 0 0 1, .fn (.func f) [.ptr 6 0 0 1] []] (A58 w x l) (sB (l.any λi=>p (B4m w i))) (A58 w x l):=by
 refine I7 hm A6 Tryz.func199 rfl rfl (sg_ ?_);refine Z2 (B5r 5 l B36 [] [.ptr 64 0 0 1, .ptr 48 0 0 1] (E66 w x l f) (λi=>p (B4m w i)) (by omega) (E8l w x l f) (by simp[go_sem]) (by simp[go_sem,AV.ids]) (λi hm=>C70 w x l f p hp i (hi i hm).1 (hi i hm).2)) (E8l w x l f) (by simp[go_sem]) (by simp[go_sem,AV.ids]) rfl (sg_ ?_);refine B6 [.cA] [] [] ?_;simp only[go_sem]
def A3t {α:Type}(d:α)(p:α->Bool)(l:List α):Int:=match(List.range l.length).find? (λi=>p (l.getD i d))with |some i=>i |none=> -1
theorem A6g {α:Type}{d:α}{p:α->Bool}{l:List α}{i:Nat}(hi:i<l.length)(h: ∀j,j<i->p (l.getD j d)=false)(hp:p (l.getD i d)=true):A3t d p l=i:=by
 have:(List.range l.length).find? (λi=>p (l.getD i d))=some i:=by rw[List.find?_range_eq_some];exact⟨hp,by simpa using hi,λj hj=>by simp only[h j hj,Bool.not_false]⟩
 unfold A3t;rw[this]
theorem A2t {α:Type}{d:α}{p:α->Bool}{l:List α}(h: ∀j,j<l.length->p (l.getD j d)=false):A3t d p l= -1:=by
 have:(List.range l.length).find? (λi=>p (l.getD i d))=none:=by rw[List.find?_range_eq_none];exact λj hj=>by simp only[h j hj,Bool.not_false]
 unfold A3t;rw[this]
theorem D4b {α:Type}{d:α}{p:α->Bool}{l:List α}: -1<=A3t d p l/\(A3t d p l)<l.length:=by
 unfold A3t;cases hf:(List.range l.length).find? (λi=>p (l.getD i d))with
 |none=>simp;omega
 |some i=>have:=List.mem_of_find?_eq_some hf;rw[List.mem_range]at this;simp;omega
theorem C1z(l:List cF)(f:FuncId)(first cap:List AV)(O:List (Nat×A7))(p:cF->Bool)(hl:l.length<=1048576)(hO:okO O)
  (hids: ∀i∈(AV.fn (.func f) first cap).ids,(ofL O i).isSome)
  (hp: ∀x∈l,cA_ f (first++ [.agg x.enc]++cap) O (sB (p x)) O):
  cA_ C1n [A4 20 cF.enc dF_ l, .fn (.func f) first cap] O (sI (A3t dF_ p l)) O:=by
 have hren:(AV.fn (.func f) first cap).ren id= .fn (.func f) first cap:=AV.ren_id _
 have hargs: ∀x:cF,∀a∈first++ [.agg x.enc]++cap,∀i∈a.ids,(ofL O i).isSome:=λx a ha i hi=>by
  simp only[List.mem_append,List.mem_singleton]at ha;refine hids i ?_;simp only[AV.ids,List.mem_append];rcases ha with(ha |rfl) |ha
  ·obtain⟨k,hk⟩:=List.getElem?_of_mem ha;exact .inl (P6 hk i hi)
  ·simp[AV.ids,go_sem]at hi
  ·obtain⟨k,hk⟩:=List.getElem?_of_mem ha;exact .inr (P6 hk i hi)
 refine I7 hm A6 Tryz.func232 rfl rfl (sg_ ?_);refine B1 hm (ι:= {i:Nat // i<=l.length/\ ∀j,j<i->p (l.getD j dF_)=false}) (λi=> [(0, .cA,A4 20 cF.enc dF_ l),(1, .cA, .fn (.func f) first cap),(7, .cA,sI l.length),(8, .cA,sI i.1)])
  (λi=>O) (λi=>l.length-i.1) ⟨0,by omega,λj hj=>by omega⟩ ?_ ?_
 ·refine X8 hO rfl (sg_ ?_);exact⟨by rw[O5,O5],λi hi=>hids i hi⟩
 ·rintro⟨i,hi,hs⟩;refine sg_ ?_;split
  ·rename_i hlt;have hlt:i<l.length:=by omega
   refine⟨ok_,?_⟩;have hx:cA_ f (first++ .agg (l.getD i dF_).enc::cap) O (sB (p (l.getD i dF_))) O:=by have:=hp (l.getD i dF_) (B8 dF_ hlt);rwa[List.append_assoc]at this
   refine X9 hx hO rfl (λa ha=>hargs (l.getD i dF_) a (by rw[List.append_assoc];exact ha)) rfl (sg_ ?_);cases hpx:p (l.getD i dF_)with
   |true=>rw[if_pos rfl];refine R9 [.cA] rfl rfl hO (V5 hO) (sg_ ?_);exact(A6g hlt hs hpx).symm
   |false=>rw[if_neg (by simp)];refine A8 ⟨i+1,by omega,λj hj=>by rcases Nat.lt_succ_iff_lt_or_eq.1 hj with h |rfl;exact hs j h;exact hpx⟩ (by show l.length-(i+1)<l.length-i;omega) (X8 hO (V5 hO) ?_);refine sg_ ?_;exact⟨by rw[O5,O5],λi hi=>hids i hi,(by rw[IntKind.wrap_i64];omega)⟩
  ·rename_i hge;refine R9 [.cA] rfl rfl hO rfl (sg_ ?_);exact(A2t λj hj=>hs j (by omega)).symm
def H5(w:Api.World)(id:Int):Int:=A3t dF_ (λb:cF=>b.ID==id) w.cC
theorem F6g(id:Int):okO [(1, .box [sI id])]:=by refine⟨by simp[go_sem],?_⟩;simp[go_sem,F0,AV.ids]
theorem D0b(id:Int)(b:cF):cA_ B5v [.agg b.enc, .ptr 1 0 0 1] [(1, .box [sI id])] (sB (b.ID==id)) [(1, .box [sI id])]:=by refine I7 hm A6 Tryz.func233 rfl rfl (sg_ ?_);refine B6 [.cA] [] [] ?_;simp only[go_sem]
theorem T0(w:Api.World)(id:Int)(hw:w.cC.length<=1048576):cA_ D7f [.agg w.enc,sI id] [] (sI (H5 w id)) []:=by refine I7 hm A6 Tryz.func143 rfl rfl (sg_ ?_);refine B5 [true,true] [(1,64)] (C1z w.cC B5v [] [.ptr 1 0 0 1] [(1, .box [sI id])] (λb=>b.ID==id) hw (F6g id) (by simp[go_sem,AV.ids]) (λb _=>D0b id b)) (by simp) (by simp) (by simp) (by simp[go_sem]) (sg_ ?_);refine B6 [.cA] [] [] (sg_ ?_);rfl
attribute [go_sem] Option.toList_none Option.toList_some
theorem C0s {α:Type}{d:α}(p:α->Bool)(l:List α):decide (0<=A3t d p l)=l.any p:=by
 cases h:l.any p with
 |true=>
  rw[List.any_eq_true]at h;obtain⟨x,hx,hp⟩:=h;obtain⟨k,hk,rfl⟩:=List.getElem_of_mem hx;unfold A3t;cases hf:(List.range l.length).find? (λi=>p (l.getD i d))with
  |none=>rw[List.find?_range_eq_none]at hf;have:=hf k hk;simp[List.getD,hk,hp]at this
  |some i=>simp
 |false=>rw[List.any_eq_false]at h;rw[A2t λj hj=>by simpa using h _ (B8 d hj)];decide
theorem C4d(l:List cI)(f:FuncId)(first cap:List AV)(O:List (Nat×A7))(p:cI->Bool)(hl:l.length<=4194304)(hO:okO O)
  (hids: ∀i∈(AV.fn (.func f) first cap).ids,(ofL O i).isSome)
  (hp: ∀x∈l,cA_ f (first++ [.agg x.enc]++cap) O (sB (p x)) O):
  cA_ C3i [A4 2 cI.enc dF_ l, .fn (.func f) first cap] O (sI (A3t dF_ p l)) O:=by
 have hren:(AV.fn (.func f) first cap).ren id= .fn (.func f) first cap:=AV.ren_id _
 have hargs: ∀x:cI,∀a∈first++ [.agg x.enc]++cap,∀i∈a.ids,(ofL O i).isSome:=λx a ha i hi=>by
  simp only[List.mem_append,List.mem_singleton]at ha;refine hids i ?_;simp only[AV.ids,List.mem_append];rcases ha with(ha |rfl) |ha
  ·obtain⟨k,hk⟩:=List.getElem?_of_mem ha;exact .inl (P6 hk i hi)
  ·simp[AV.ids,go_sem]at hi
  ·obtain⟨k,hk⟩:=List.getElem?_of_mem ha;exact .inr (P6 hk i hi)
 refine I7 hm A6 Tryz.func481 rfl rfl (sg_ ?_);refine B1 hm (ι:= {i:Nat // i<=l.length/\ ∀j,j<i->p (l.getD j dF_)=false}) (λi=> [(0, .cA,A4 2 cI.enc dF_ l),(1, .cA, .fn (.func f) first cap),(7, .cA,sI l.length),(8, .cA,sI i.1)])
  (λi=>O) (λi=>l.length-i.1) ⟨0,by omega,λj hj=>by omega⟩ ?_ ?_
 ·refine X8 hO rfl (sg_ ?_);exact⟨by rw[O5,O5],λi hi=>hids i hi⟩
 ·rintro⟨i,hi,hs⟩;refine sg_ ?_;split
  ·rename_i hlt;have hlt:i<l.length:=by omega
   refine⟨ok_,?_⟩;have hx:cA_ f (first++ .agg (l.getD i dF_).enc::cap) O (sB (p (l.getD i dF_))) O:=by have:=hp (l.getD i dF_) (B8 dF_ hlt);rwa[List.append_assoc]at this
   refine X9 hx hO rfl (λa ha=>hargs (l.getD i dF_) a (by rw[List.append_assoc];exact ha)) rfl (sg_ ?_);cases hpx:p (l.getD i dF_)with
   |true=>rw[if_pos rfl];refine R9 [.cA] rfl rfl hO (V5 hO) (sg_ ?_);exact(A6g hlt hs hpx).symm
   |false=>rw[if_neg (by simp)];refine A8 ⟨i+1,by omega,λj hj=>by rcases Nat.lt_succ_iff_lt_or_eq.1 hj with h |rfl;exact hs j h;exact hpx⟩ (by show l.length-(i+1)<l.length-i;omega) (X8 hO (V5 hO) ?_);refine sg_ ?_;exact⟨by rw[O5,O5],λi hi=>hids i hi,(by rw[IntKind.wrap_i64];omega)⟩
  ·rename_i hge;refine R9 [.cA] rfl rfl hO rfl (sg_ ?_);exact(A2t λj hj=>hs j (by omega)).symm
theorem B9r(l:List cI)(f:FuncId)(first cap:List AV)(O:List (Nat×A7))(p:cI->Bool)(hl:l.length<=4194304)(hO:okO O)
  (hids: ∀i∈(AV.fn (.func f) first cap).ids,(ofL O i).isSome)
  (hp: ∀x∈l,cA_ f (first++ [.agg x.enc]++cap) O (sB (p x)) O):
  cA_ B89 [A4 2 cI.enc dF_ l, .fn (.func f) first cap] O (sB (l.any p)) O:=by
 refine I7 hm A6 Tryz.func377 rfl rfl (sg_ ?_);refine X9 (C4d l f first cap O p hl hO hids hp) hO rfl ?_ rfl ?_
 ·intro a ha;simp only[List.mem_cons,List.not_mem_nil,or_false]at ha;rcases ha with rfl |rfl
  ·intro i hi;simp[AV.ids]at hi
  ·exact hids
 ·refine sg_ ?_;refine R9 [.cA] rfl rfl hO (V5 hO) (sg_ ?_);exact C0s p l
theorem A53(l:List cO)(f:FuncId)(first cap:List AV)(O:List (Nat×A7))(p:cO->Bool)(hl:l.length<=4194304)(hO:okO O)
  (hids: ∀i∈(AV.fn (.func f) first cap).ids,(ofL O i).isSome)
  (hp: ∀x∈l,cA_ f (first++ [.agg x.enc]++cap) O (sB (p x)) O):
  cA_ B31 [A4 6 cO.enc dF_ l, .fn (.func f) first cap] O (sI (A3t dF_ p l)) O:=by
 have hren:(AV.fn (.func f) first cap).ren id= .fn (.func f) first cap:=AV.ren_id _
 have hargs: ∀x:cO,∀a∈first++ [.agg x.enc]++cap,∀i∈a.ids,(ofL O i).isSome:=λx a ha i hi=>by
  simp only[List.mem_append,List.mem_singleton]at ha;refine hids i ?_;simp only[AV.ids,List.mem_append];rcases ha with(ha |rfl) |ha
  ·obtain⟨k,hk⟩:=List.getElem?_of_mem ha;exact .inl (P6 hk i hi)
  ·simp[AV.ids,go_sem]at hi
  ·obtain⟨k,hk⟩:=List.getElem?_of_mem ha;exact .inr (P6 hk i hi)
 refine I7 hm A6 Tryz.func255 rfl rfl (sg_ ?_);refine B1 hm (ι:= {i:Nat // i<=l.length/\ ∀j,j<i->p (l.getD j dF_)=false}) (λi=> [(0, .cA,A4 6 cO.enc dF_ l),(1, .cA, .fn (.func f) first cap),(7, .cA,sI l.length),(8, .cA,sI i.1)])
  (λi=>O) (λi=>l.length-i.1) ⟨0,by omega,λj hj=>by omega⟩ ?_ ?_
 ·refine X8 hO rfl (sg_ ?_);exact⟨by rw[O5,O5],λi hi=>hids i hi⟩
 ·rintro⟨i,hi,hs⟩;refine sg_ ?_;split
  ·rename_i hlt;have hlt:i<l.length:=by omega
   refine⟨ok_,?_⟩;have hx:cA_ f (first++ .agg (l.getD i dF_).enc::cap) O (sB (p (l.getD i dF_))) O:=by have:=hp (l.getD i dF_) (B8 dF_ hlt);rwa[List.append_assoc]at this
   refine X9 hx hO rfl (λa ha=>hargs (l.getD i dF_) a (by rw[List.append_assoc];exact ha)) rfl (sg_ ?_);cases hpx:p (l.getD i dF_)with
   |true=>rw[if_pos rfl];refine R9 [.cA] rfl rfl hO (V5 hO) (sg_ ?_);exact(A6g hlt hs hpx).symm
   |false=>rw[if_neg (by simp)];refine A8 ⟨i+1,by omega,λj hj=>by rcases Nat.lt_succ_iff_lt_or_eq.1 hj with h |rfl;exact hs j h;exact hpx⟩ (by show l.length-(i+1)<l.length-i;omega) (X8 hO (V5 hO) ?_);refine sg_ ?_;exact⟨by rw[O5,O5],λi hi=>hids i hi,(by rw[IntKind.wrap_i64];omega)⟩
  ·rename_i hge;refine R9 [.cA] rfl rfl hO rfl (sg_ ?_);exact(A2t λj hj=>hs j (by omega)).symm
theorem B1t(l:List cO)(f:FuncId)(first cap:List AV)(O:List (Nat×A7))(p:cO->Bool)(hl:l.length<=4194304)(hO:okO O)
  (hids: ∀i∈(AV.fn (.func f) first cap).ids,(ofL O i).isSome)
  (hp: ∀x∈l,cA_ f (first++ [.agg x.enc]++cap) O (sB (p x)) O):
  cA_ B1l [A4 6 cO.enc dF_ l, .fn (.func f) first cap] O (sB (l.any p)) O:=by
 refine I7 hm A6 Tryz.func235 rfl rfl (sg_ ?_);refine X9 (A53 l f first cap O p hl hO hids hp) hO rfl ?_ rfl ?_
 ·intro a ha;simp only[List.mem_cons,List.not_mem_nil,or_false]at ha;rcases ha with rfl |rfl
  ·intro i hi;simp[AV.ids]at hi
  ·exact hids
 ·refine sg_ ?_;refine R9 [.cA] rfl rfl hO (V5 hO) (sg_ ?_);exact C0s p l
theorem B8t(l:List cR)(f:FuncId)(first cap:List AV)(O:List (Nat×A7))(p:cR->Bool)(hl:l.length<=4194304)(hO:okO O)
  (hids: ∀i∈(AV.fn (.func f) first cap).ids,(ofL O i).isSome)
  (hp: ∀x∈l,cA_ f (first++ [.agg x.enc]++cap) O (sB (p x)) O):
  cA_ A8v [A4 4 cR.enc dF_ l, .fn (.func f) first cap] O (sI (A3t dF_ p l)) O:=by
 have hren:(AV.fn (.func f) first cap).ren id= .fn (.func f) first cap:=AV.ren_id _
 have hargs: ∀x:cR,∀a∈first++ [.agg x.enc]++cap,∀i∈a.ids,(ofL O i).isSome:=λx a ha i hi=>by
  simp only[List.mem_append,List.mem_singleton]at ha;refine hids i ?_;simp only[AV.ids,List.mem_append];rcases ha with(ha |rfl) |ha
  ·obtain⟨k,hk⟩:=List.getElem?_of_mem ha;exact .inl (P6 hk i hi)
  ·simp[AV.ids,go_sem]at hi
  ·obtain⟨k,hk⟩:=List.getElem?_of_mem ha;exact .inr (P6 hk i hi)
 refine I7 hm A6 Tryz.func239 rfl rfl (sg_ ?_);refine B1 hm (ι:= {i:Nat // i<=l.length/\ ∀j,j<i->p (l.getD j dF_)=false}) (λi=> [(0, .cA,A4 4 cR.enc dF_ l),(1, .cA, .fn (.func f) first cap),(7, .cA,sI l.length),(8, .cA,sI i.1)])
  (λi=>O) (λi=>l.length-i.1) ⟨0,by omega,λj hj=>by omega⟩ ?_ ?_
 ·refine X8 hO rfl (sg_ ?_);exact⟨by rw[O5,O5],λi hi=>hids i hi⟩
 ·rintro⟨i,hi,hs⟩;refine sg_ ?_;split
  ·rename_i hlt;have hlt:i<l.length:=by omega
   refine⟨ok_,?_⟩;have hx:cA_ f (first++ .agg (l.getD i dF_).enc::cap) O (sB (p (l.getD i dF_))) O:=by have:=hp (l.getD i dF_) (B8 dF_ hlt);rwa[List.append_assoc]at this
   refine X9 hx hO rfl (λa ha=>hargs (l.getD i dF_) a (by rw[List.append_assoc];exact ha)) rfl (sg_ ?_);cases hpx:p (l.getD i dF_)with
   |true=>rw[if_pos rfl];refine R9 [.cA] rfl rfl hO (V5 hO) (sg_ ?_);exact(A6g hlt hs hpx).symm
   |false=>rw[if_neg (by simp)];refine A8 ⟨i+1,by omega,λj hj=>by rcases Nat.lt_succ_iff_lt_or_eq.1 hj with h |rfl;exact hs j h;exact hpx⟩ (by show l.length-(i+1)<l.length-i;omega) (X8 hO (V5 hO) ?_);refine sg_ ?_;exact⟨by rw[O5,O5],λi hi=>hids i hi,(by rw[IntKind.wrap_i64];omega)⟩
  ·rename_i hge;refine R9 [.cA] rfl rfl hO rfl (sg_ ?_);exact(A2t λj hj=>hs j (by omega)).symm
theorem B5q(l:List cR)(f:FuncId)(first cap:List AV)(O:List (Nat×A7))(p:cR->Bool)(hl:l.length<=4194304)(hO:okO O)
  (hids: ∀i∈(AV.fn (.func f) first cap).ids,(ofL O i).isSome)
  (hp: ∀x∈l,cA_ f (first++ [.agg x.enc]++cap) O (sB (p x)) O):
  cA_ B5p [A4 4 cR.enc dF_ l, .fn (.func f) first cap] O (sB (l.any p)) O:=by
 refine I7 hm A6 Tryz.func146 rfl rfl (sg_ ?_);refine X9 (B8t l f first cap O p hl hO hids hp) hO rfl ?_ rfl ?_
 ·intro a ha;simp only[List.mem_cons,List.not_mem_nil,or_false]at ha;rcases ha with rfl |rfl
  ·intro i hi;simp[AV.ids]at hi
  ·exact hids
 ·refine sg_ ?_;refine R9 [.cA] rfl rfl hO (V5 hO) (sg_ ?_);exact C0s p l
theorem B0j(l:List cG)(f:FuncId)(first cap:List AV)(O:List (Nat×A7))(p:cG->Bool)(hl:l.length<=4194304)(hO:okO O)
  (hids: ∀i∈(AV.fn (.func f) first cap).ids,(ofL O i).isSome)
  (hp: ∀x∈l,cA_ f (first++ [.agg x.enc]++cap) O (sB (p x)) O):
  cA_ A5n [A4 24 cG.enc dF_ l, .fn (.func f) first cap] O (sI (A3t dF_ p l)) O:=by
 have hren:(AV.fn (.func f) first cap).ren id= .fn (.func f) first cap:=AV.ren_id _
 have hargs: ∀x:cG,∀a∈first++ [.agg x.enc]++cap,∀i∈a.ids,(ofL O i).isSome:=λx a ha i hi=>by
  simp only[List.mem_append,List.mem_singleton]at ha;refine hids i ?_;simp only[AV.ids,List.mem_append];rcases ha with(ha |rfl) |ha
  ·obtain⟨k,hk⟩:=List.getElem?_of_mem ha;exact .inl (P6 hk i hi)
  ·simp[AV.ids,go_sem]at hi
  ·obtain⟨k,hk⟩:=List.getElem?_of_mem ha;exact .inr (P6 hk i hi)
 refine I7 hm A6 Tryz.func333 rfl rfl (sg_ ?_);refine B1 hm (ι:= {i:Nat // i<=l.length/\ ∀j,j<i->p (l.getD j dF_)=false}) (λi=> [(0, .cA,A4 24 cG.enc dF_ l),(1, .cA, .fn (.func f) first cap),(7, .cA,sI l.length),(8, .cA,sI i.1)])
  (λi=>O) (λi=>l.length-i.1) ⟨0,by omega,λj hj=>by omega⟩ ?_ ?_
 ·refine X8 hO rfl (sg_ ?_);exact⟨by rw[O5,O5],λi hi=>hids i hi⟩
 ·rintro⟨i,hi,hs⟩;refine sg_ ?_;split
  ·rename_i hlt;have hlt:i<l.length:=by omega
   refine⟨ok_,?_⟩;have hx:cA_ f (first++ .agg (l.getD i dF_).enc::cap) O (sB (p (l.getD i dF_))) O:=by have:=hp (l.getD i dF_) (B8 dF_ hlt);rwa[List.append_assoc]at this
   refine X9 hx hO rfl (λa ha=>hargs (l.getD i dF_) a (by rw[List.append_assoc];exact ha)) rfl (sg_ ?_);cases hpx:p (l.getD i dF_)with
   |true=>rw[if_pos rfl];refine R9 [.cA] rfl rfl hO (V5 hO) (sg_ ?_);exact(A6g hlt hs hpx).symm
   |false=>rw[if_neg (by simp)];refine A8 ⟨i+1,by omega,λj hj=>by rcases Nat.lt_succ_iff_lt_or_eq.1 hj with h |rfl;exact hs j h;exact hpx⟩ (by show l.length-(i+1)<l.length-i;omega) (X8 hO (V5 hO) ?_);refine sg_ ?_;exact⟨by rw[O5,O5],λi hi=>hids i hi,(by rw[IntKind.wrap_i64];omega)⟩
  ·rename_i hge;refine R9 [.cA] rfl rfl hO rfl (sg_ ?_);exact(A2t λj hj=>hs j (by omega)).symm
theorem B7u(l:List cG)(f:FuncId)(first cap:List AV)(O:List (Nat×A7))(p:cG->Bool)(hl:l.length<=4194304)(hO:okO O)
  (hids: ∀i∈(AV.fn (.func f) first cap).ids,(ofL O i).isSome)
  (hp: ∀x∈l,cA_ f (first++ [.agg x.enc]++cap) O (sB (p x)) O):
  cA_ B7b [A4 24 cG.enc dF_ l, .fn (.func f) first cap] O (sB (l.any p)) O:=by
 refine I7 hm A6 Tryz.func469 rfl rfl (sg_ ?_);refine X9 (B0j l f first cap O p hl hO hids hp) hO rfl ?_ rfl ?_
 ·intro a ha;simp only[List.mem_cons,List.not_mem_nil,or_false]at ha;rcases ha with rfl |rfl
  ·intro i hi;simp[AV.ids]at hi
  ·exact hids
 ·refine sg_ ?_;refine R9 [.cA] rfl rfl hO (V5 hO) (sg_ ?_);exact C0s p l
def D1(a:Int)(b:Int):Int:=(sat (IntKind.i64.wrap ((sat a)+(sat b))))
theorem N2(a:Int)(b:Int):cA_ E9t [sI a,sI b] [] (sI (D1 a b)) []:=by
 refine en1 hm A6 Tryz.func299 rfl rfl ?_;have:=L3
 have:=D1.eq_1 a b;exact E7
def B7(a:Int)(b:Int):Int:=let v3:=(A37 (IntKind.i64.wrap ((sat a)*(sat b))) 65536);(sat v3)
theorem M2(a:Int)(b:Int):cA_ E9v [sI a,sI b] [] (sI (B7 a b)) []:=by
 refine en1 hm A6 Tryz.func298 rfl rfl ?_;have:=L3
 have:=Q5
 have:=B7.eq_1 a b;exact E7
def Q6(x:Int)(low:Int)(high:Int):Int:=if((decide (high<low))||(decide (x<low)))=true then(low)else(if high<x then(high)else(x))
theorem A45(x:Int)(low:Int)(high:Int):cA_ E4y [sI x,sI low,sI high] [] (sI (Q6 x low high)) []:=by refine en1 hm A6 Tryz.func186 rfl rfl ?_;have:=Q6.eq_1 x low high;exact E7
def Z9(a:Int)(b:Int):Int:=if((sat b)==0)=true then(let v3:=(Q6 (IntKind.i64.wrap ((sat a)*65536)) (-1) 1);(IntKind.i64.wrap (v3*536870911)))else(if(sat b)<0 then(let v4:=(A37 (IntKind.i64.wrap (0-(IntKind.i64.wrap ((sat a)*65536)))) (IntKind.i64.wrap (0-(sat b))));(sat v4))else(let v6:=(A37 (IntKind.i64.wrap ((sat a)*65536)) (sat b));(sat v6)))
theorem A7i(a:Int)(b:Int):cA_ E9u [sI a,sI b] [] (sI (Z9 a b)) []:=by
 refine en1 hm A6 Tryz.func416 rfl rfl ?_;have:=L3
 have:=A45
 have:=Q5
 have:=Z9.eq_1 a b;exact E7
def A8w(n:Int)(d:Int):Int:=if(((decide (d<1))||(decide (4611686018427387904<d)))||(decide (n<1)))=true then(0)else(if d<=n then(65536)else(if d<70368744177664 then(let v1:=(A37 (IntKind.i64.wrap (n*65536)) d);v1)else(let v2:=(A37 d 65536);let v3:=(A37 n v2);(if 65536<v3 then 65536 else v3))))
theorem B8s(n:Int)(d:Int):cA_ E40 [sI n,sI d] [] (sI (A8w n d)) []:=by
 refine en1 hm A6 Tryz.func486 rfl rfl ?_;have:=Q5
 have:=A8w.eq_1 n d;exact E7
def C0m(x:Int):Int:=let v2:=(isq (IntKind.i64.wrap ((sat x)*65536)));v2
theorem E82(x:Int):cA_ E6n [sI x] [] (sI (C0m x)) []:=by
 refine en1 hm A6 Tryz.func437 rfl rfl ?_;have:=L3
 have:=B2w
 have:=C0m.eq_1 x;exact E7
def B4h(a:Int)(b:Int)(t:Int):Int:=let v1:=(sat (sat b-sat a));let v2:=(B7 v1 t);let v3:=(D1 a v2);v3
theorem E81(a:Int)(b:Int)(t:Int):cA_ E6m [sI a,sI b,sI t] [] (sI (B4h a b t)) []:=by
 refine en1 hm A6 Tryz.func400 rfl rfl ?_;have:=R3
 have:=M2
 have:=N2
 have:=B4h.eq_1 a b t;exact E7
def K5(a:Int):Int:=if 205888<=(a.tmod 411776)then((IntKind.i64.wrap ((a.tmod 411776)-411776)))else(if(a.tmod 411776)<(-205888)then((IntKind.i64.wrap ((a.tmod 411776)+411776)))else((a.tmod 411776)))
theorem A48(a:Int):cA_ D4t [sI a] [] (sI (K5 a)) []:=by refine en1 hm A6 Tryz.func443 rfl rfl ?_;have:=K5.eq_1 a;exact E7
def B6x(x:Int):Int:=if x<0 then((IntKind.i64.wrap (0-x)))else(x)
theorem D6h(x:Int):cA_ E9s [sI x] [] (sI (B6x x)) []:=by refine en1 hm A6 Tryz.func518 rfl rfl ?_;have:=B6x.eq_1 x;exact E7
def B6w(a:Int):Int:=let v1:=(K5 a);let v2:=(B6x v1);if 102944<v2 then(let v3:=(Z9 (IntKind.i64.wrap (205888-v2)) 102944);let v4:=(B7 v3 v3);let v5:=(B7 v4 4569);let v6:=(sat (sat 41906-sat v5));let v7:=(B7 v4 v6);let v8:=(sat (sat 102873-sat v7));let v9:=(B7 v3 v8);if v1<0 then((IntKind.i64.wrap (0-v9)))else(v9))else(let v10:=(Z9 v2 102944);let v11:=(B7 v10 v10);let v12:=(B7 v11 4569);let v13:=(sat (sat 41906-sat v12));let v14:=(B7 v11 v13);let v15:=(sat (sat 102873-sat v14));let v16:=(B7 v10 v15);if v1<0 then((IntKind.i64.wrap (0-v16)))else(v16))
theorem D6g(a:Int):cA_ E9r [sI a] [] (sI (B6w a)) []:=by
 refine en1 hm A6 Tryz.func445 rfl rfl ?_;have:=A48
 have:=D6h
 have:=A7i
 have:=M2
 have:=R3
 have:=B6w.eq_1 a;exact E7
def C3s(a:Int):Int:=let v1:=(K5 a);let v2:=(B6x v1);let v3:=(B6w (IntKind.i64.wrap (102944-v2)));v3
theorem F0t(a:Int):cA_ E9p [sI a] [] (sI (C3s a)) []:=by
 refine en1 hm A6 Tryz.func444 rfl rfl ?_;have:=A48
 have:=D6h
 have:=D6g
 have:=C3s.eq_1 a;exact E7
structure Rot where
 gE:Int
 gI:Int
 deriving DecidableEq,Inhabited
def Rot.enc(x:Rot):List AV:=[sI x.gE,sI x.gI]
def Rot.zero:List AV:= [sI 0,sI 0]
attribute [go_sem] Rot.enc Rot.zero
@[go_sem] theorem G8o(x:Rot):Rot.mk x.gE x.gI=x:=rfl
structure fK where
 fU:cI
 fX:cI
 deriving DecidableEq,Inhabited
def fK.enc(x:fK):List AV:=[sI x.fU.X,sI x.fU.Y,sI x.fX.X,sI x.fX.Y]
def fK.zero:List AV:= [sI 0,sI 0,sI 0,sI 0]
attribute [go_sem] fK.enc fK.zero
@[go_sem] theorem G7r(x:fK):fK.mk x.fU x.fX=x:=rfl
def B15(a:Int):Rot:=let v1:=(C3s a);let v2:=(B6w a);let v3:=(isq (IntKind.i64.wrap ((IntKind.i64.wrap (v1*v1))+(IntKind.i64.wrap (v2*v2)))));let v4:=(Z9 v1 v3);let v5:=(Z9 v2 v3);(⟨v4,v5⟩:Rot)
theorem C31(a:Int):cA_ E9q [sI a] [] (.agg (B15 a).enc) []:=by
 refine M3 25 [(2,some (some 2))] hm A6 Tryz.func324 rfl ?_;have:=F0t
 have:=D6g
 have:=B2w
 have:=A7i
 have:=B15.eq_1 a;exact E7
def A0u(a:Int)(b:Int):Int:=let v1:=(K5 b);let v2:=(K5 a);let v3:=(K5 (IntKind.i64.wrap (v1-v2)));v3
theorem C02(a:Int)(b:Int):cA_ E6i [sI a,sI b] [] (sI (A0u a b)) []:=by
 refine en1 hm A6 Tryz.func447 rfl rfl ?_;have:=A48
 have:=A0u.eq_1 a b;exact E7
def A5k(n:Int):Int:=let v1:=(A37 n 65536);(sat v1)
theorem B6p(n:Int):cA_ E2a [sI n] [] (sI (A5k n)) []:=by
 refine en1 hm A6 Tryz.func394 rfl rfl ?_;have:=Q5
 have:=L3
 have:=A5k.eq_1 n;exact E7
def A1e(a:cI)(b:cI):cI:=let v1:=(D1 a.X b.X);let v2:=(D1 a.Y b.Y);(⟨v1,v2⟩:cI)
theorem A3h(a:cI)(b:cI):cA_ F20 [.agg a.enc, .agg b.enc] [] (.agg (A1e a b).enc) []:=by
 refine M3 16 [(4,some (some 2))] hm A6 Tryz.func278 rfl ?_;have:=N2
 have:=A1e.eq_1 a b;exact E7
def P9(v:cI)(k:Int):cI:=let v1:=(B7 v.X k);let v2:=(B7 v.Y k);(⟨v1,v2⟩:cI)
theorem A5x(v:cI)(k:Int):cA_ E6s [.agg v.enc,sI k] [] (.agg (P9 v k).enc) []:=by
 refine M3 14 [(4,some (some 2))] hm A6 Tryz.func297 rfl ?_;have:=M2
 have:=P9.eq_1 v k;exact E7
def P8(a:cI)(b:cI):Int:=let v1:=(C4h a);let v2:=(C4h b);let v3:=(A5k (IntKind.i64.wrap ((IntKind.i64.wrap (v1.X*v2.X))+(IntKind.i64.wrap (v1.Y*v2.Y)))));v3
theorem A0r(a:cI)(b:cI):cA_ F21 [.agg a.enc, .agg b.enc] [] (sI (P8 a b)) []:=by
 refine en1 hm A6 Tryz.func254 rfl rfl ?_;have:=A1i
 have:=B6p
 have:=P8.eq_1 a b;exact E7
def A0x(a:cI)(b:cI):Int:=let v1:=(C4h a);let v2:=(C4h b);let v3:=(A5k (IntKind.i64.wrap ((IntKind.i64.wrap (v1.X*v2.Y))-(IntKind.i64.wrap (v1.Y*v2.X)))));v3
theorem A5v(a:cI)(b:cI):cA_ E6r [.agg a.enc, .agg b.enc] [] (sI (A0x a b)) []:=by
 refine en1 hm A6 Tryz.func435 rfl rfl ?_;have:=A1i
 have:=B6p
 have:=A0x.eq_1 a b;exact E7
def A35(v:cI):cI:=let v1:=(B0g v);if(v1==0)=true then((⟨0,0⟩:cI))else(let v2:=(Z9 v.X v1);let v3:=(Z9 v.Y v1);(⟨v2,v3⟩:cI))
theorem A5w(v:cI):cA_ D7d [.agg v.enc] [] (.agg (A35 v).enc) []:=by
 refine M3 18 [(2,some (some 2))] hm A6 Tryz.func419 rfl ?_;have:=V8
 have:=A7i
 have:=A35.eq_1 v;exact E7
def A01(v:cI):cI:=let v1:=(C4h v);(⟨(IntKind.i64.wrap (0-v1.Y)),v1.X⟩:cI)
theorem C4f(v:cI):cA_ E90 [.agg v.enc] [] (.agg (A01 v).enc) []:=by
 refine M3 11 [(2,some (some 2))] hm A6 Tryz.func311 rfl ?_;have:=A1i
 have:=A01.eq_1 v;exact E7
def A7e(a:cI)(b:cI)(t:Int):cI:=let v1:=(B4h a.X b.X t);let v2:=(B4h a.Y b.Y t);(⟨v1,v2⟩:cI)
theorem B2l(a:cI)(b:cI)(t:Int):cA_ E9z [.agg a.enc, .agg b.enc,sI t] [] (.agg (A7e a b t).enc) []:=by
 refine M3 20 [(6,some (some 2))] hm A6 Tryz.func264 rfl ?_;have:=E81
 have:=A7e.eq_1 a b t;exact E7
def A8y(r:Rot)(v:cI):cI:=let v3:=(C4h v);let v4:=(A5k (IntKind.i64.wrap ((IntKind.i64.wrap ((sat r.gE)*v3.X))-(IntKind.i64.wrap ((sat r.gI)*v3.Y)))));let v5:=(A5k (IntKind.i64.wrap ((IntKind.i64.wrap ((sat r.gI)*v3.X))+(IntKind.i64.wrap ((sat r.gE)*v3.Y)))));(⟨v4,v5⟩:cI)
theorem B8v(r:Rot)(v:cI):cA_ E46 [.agg r.enc, .agg v.enc] [] (.agg (A8y r v).enc) []:=by
 refine M3 36 [(4,some (some 2))] hm A6 Tryz.func323 rfl ?_;have:=L3
 have:=A1i
 have:=B6p
 have:=A8y.eq_1 r v;exact E7
def Z4(t:cH)(v:cI):cI:=let v1:=(B15 t.eR);let v2:=(A8y v1 v);let v3:=(A1e v2 t.dY);v3
theorem A7s(t:cH)(v:cI):cA_ D5e [.agg t.enc, .agg v.enc] [] (.agg (Z4 t v).enc) []:=by
 refine M3 13 [(4,some (some 2))] hm A6 Tryz.func321 rfl ?_;have:=C31
 have:=B8v
 have:=A3h
 have:=Z4.eq_1 t v;exact E7
def A6y(a:Int)(d:Int):Int:=let v1:=(K5 a);let v2:=(K5 (IntKind.i64.wrap (v1+d)));v2
theorem B72(a:Int)(d:Int):cA_ D1h [sI a,sI d] [] (sI (A6y a d)) []:=by
 refine en1 hm A6 Tryz.func322 rfl rfl ?_;have:=A48
 have:=A6y.eq_1 a d;exact E7
def A14(a:cH)(b:cH)(t:Int):cH:=let v1:=(A0u a.eR b.eR);let v2:=(B7 v1 t);let v3:=(A7e a.dY b.dY t);let v4:=(A6y a.eR v2);(⟨v3,v4⟩:cH)
theorem B1j(a:cH)(b:cH)(t:Int):cA_ C1s [.agg a.enc, .agg b.enc,sI t] [] (.agg (A14 a b t).enc) []:=by
 refine M3 26 [(6,some (some 3))] hm A6 Tryz.func326 rfl ?_;have:=C02
 have:=M2
 have:=B2l
 have:=B72
 have:=A14.eq_1 a b t;exact E7
def A7z(t:cH)(c:cI)(v:cI)(w:Int)(dt:Int):cH:=let v1:=(Z4 t c);let v2:=(P9 v dt);let v3:=(A1e v1 v2);let v4:=(B7 w dt);let v5:=(A6y t.eR v4);let v6:=(B15 v5);let v7:=(A8y v6 c);let v8:=(O6 v3 v7);(⟨v8,v5⟩:cH)
theorem C5u(t:cH)(c:cI)(v:cI)(w:Int)(dt:Int):cA_ C40 [.agg t.enc, .agg c.enc, .agg v.enc,sI w,sI dt] [] (.agg (A7z t c v w dt).enc) []:=by
 refine M3 34 [(10,some (some 3))] hm A6 Tryz.func195 rfl ?_;have:=A7s
 have:=A5x
 have:=A3h
 have:=M2
 have:=B72
 have:=C31
 have:=B8v
 have:=L7
 have:=A7z.eq_1 t c v w dt;exact E7
def L4(v:cI):cI:=(⟨(sat v.X),(sat v.Y)⟩:cI)
theorem E07(v:cI):cA_ D9g [.agg v.enc] [] (.agg (L4 v).enc) []:=by
 refine M3 10 [(2,some (some 2))] hm A6 Tryz.func408 rfl ?_;have:=L3
 have:=L4.eq_1 v;exact E7
def A8f(v:cI):Bool:=(((sat v.X)==v.X)&&((sat v.Y)==v.Y))
theorem D8v(v:cI):cA_ D6n [.agg v.enc] [] (sB (A8f v)) []:=by
 refine en1 hm A6 Tryz.func407 rfl rfl ?_;have:=L3
 have:=A8f.eq_1 v;exact E7
def C0k(a:cI)(b:cI):cI:=(⟨(if b.X<a.X then b.X else a.X),(if b.Y<a.Y then b.Y else a.Y)⟩:cI)
theorem D2s(a:cI)(b:cI):cA_ E6g [.agg a.enc, .agg b.enc] [] (.agg (C0k a b).enc) []:=by refine M3 16 [(4,some (some 2))] hm A6 Tryz.func409 rfl ?_;have:=C0k.eq_1 a b;exact E7
def C0l(a:cI)(b:cI):cI:=(⟨(if a.X<b.X then b.X else a.X),(if a.Y<b.Y then b.Y else a.Y)⟩:cI)
theorem D2t(a:cI)(b:cI):cA_ E6h [.agg a.enc, .agg b.enc] [] (.agg (C0l a b).enc) []:=by refine M3 16 [(4,some (some 2))] hm A6 Tryz.func410 rfl ?_;have:=C0l.eq_1 a b;exact E7
def A4o(b:fK):Bool:=let v1:=(A8f b.fU);let v2:=(A8f b.fX);((((decide (b.fU.X<=b.fX.X))&&(decide (b.fU.Y<=b.fX.Y)))&&v1)&&v2)
theorem B4y(b:fK):cA_ E6f [.agg b.enc] [] (sB (A4o b)) []:=by
 refine en1 hm A6 Tryz.func275 rfl rfl ?_;have:=D8v
 have:=A4o.eq_1 b;exact E7
def B4g(a:fK)(b:fK):Bool:=((((decide (a.fU.X<=b.fX.X))&&(decide (b.fU.X<=a.fX.X)))&&(decide (a.fU.Y<=b.fX.Y)))&&(decide (b.fU.Y<=a.fX.Y)))
theorem E06(a:fK)(b:fK):cA_ D9f [.agg a.enc, .agg b.enc] [] (sB (B4g a b)) []:=by refine en1 hm A6 Tryz.func276 rfl rfl ?_;have:=B4g.eq_1 a b;exact E7
def A23(a:fK)(b:fK):Bool:=let v1:=(A4o a);let v2:=(A4o b);let v3:=(B4g a b);((v1&&v2)&&v3)
theorem C2t(a:fK)(b:fK):cA_ D9e [.agg a.enc, .agg b.enc] [] (sB (A23 a b)) []:=by
 refine en1 hm A6 Tryz.func168 rfl rfl ?_;have:=B4y
 have:=E06
 have:=A23.eq_1 a b;exact E7
def B8h(b:fK)(margin:Int):fK:=let v1:=(A4o b);if v1=false then((⟨(⟨0,0⟩:cI),(⟨0,0⟩:cI)⟩:fK))else(let v2:=(sat (sat b.fU.X-sat margin));let v3:=(sat (sat b.fU.Y-sat margin));let v4:=(D1 b.fX.X margin);let v5:=(D1 b.fX.Y margin);let v6:=(A4o (⟨(⟨v2,v3⟩:cI),(⟨v4,v5⟩:cI)⟩:fK));if v6=false then((⟨(⟨0,0⟩:cI),(⟨0,0⟩:cI)⟩:fK))else((⟨(⟨v2,v3⟩:cI),(⟨v4,v5⟩:cI)⟩:fK)))
theorem E5j(b:fK)(margin:Int):cA_ E4t [.agg b.enc,sI margin] [] (.agg (B8h b margin).enc) []:=by
 refine M3 38 [(4,some (some 4))] hm A6 Tryz.func464 rfl ?_;have:=λx1 x2 x3 x4=>cx_ (B4y ⟨⟨x1,x2⟩,⟨x3,x4⟩⟩)
 have:=B4y
 have:=R3
 have:=N2
 have:=B8h.eq_1 b margin;exact E7
def A5(v:cI):cI:=(⟨(sat v.X),(sat v.Y)⟩:cI)
theorem B7s(v:cI):cA_ D04 [.agg v.enc] [] (.agg (A5 v).enc) []:=by
 refine M3 10 [(2,some (some 2))] hm A6 Tryz.func484 rfl ?_;have:=L3
 have:=A5.eq_1 v;exact E7
def A4k(c:cI)(d:cI)(p:cI):Int:=(if(IntKind.i64.wrap ((IntKind.i64.wrap ((IntKind.i64.wrap (d.X-c.X))*(IntKind.i64.wrap (p.Y-c.Y))))-(IntKind.i64.wrap ((IntKind.i64.wrap (d.Y-c.Y))*(IntKind.i64.wrap (p.X-c.X))))))<(IntKind.i64.wrap (0-(IntKind.i64.wrap ((IntKind.i64.wrap ((IntKind.i64.wrap (d.X-c.X))*(IntKind.i64.wrap (p.Y-c.Y))))-(IntKind.i64.wrap ((IntKind.i64.wrap (d.Y-c.Y))*(IntKind.i64.wrap (p.X-c.X))))))))then(IntKind.i64.wrap (0-(IntKind.i64.wrap ((IntKind.i64.wrap ((IntKind.i64.wrap (d.X-c.X))*(IntKind.i64.wrap (p.Y-c.Y))))-(IntKind.i64.wrap ((IntKind.i64.wrap (d.Y-c.Y))*(IntKind.i64.wrap (p.X-c.X))))))))else(IntKind.i64.wrap ((IntKind.i64.wrap ((IntKind.i64.wrap (d.X-c.X))*(IntKind.i64.wrap (p.Y-c.Y))))-(IntKind.i64.wrap ((IntKind.i64.wrap (d.Y-c.Y))*(IntKind.i64.wrap (p.X-c.X)))))))
theorem C39(c:cI)(d:cI)(p:cI):cA_ C3d [.agg c.enc, .agg d.enc, .agg p.enc] [] (sI (A4k c d p)) []:=by refine en1 hm A6 Tryz.func485 rfl rfl ?_;have:=A4k.eq_1 c d p;exact E7
def B4(a:cI)(b:cI)(p:cI):cI×Int:=let v1:=(A5 a);let v2:=(A5 b);let v3:=(A5 p);let v4:=(B4k v1 v2);let v5:=(A8w (IntKind.i64.wrap ((IntKind.i64.wrap ((IntKind.i64.wrap (v3.X-v1.X))*(IntKind.i64.wrap (v2.X-v1.X))))+(IntKind.i64.wrap ((IntKind.i64.wrap (v3.Y-v1.Y))*(IntKind.i64.wrap (v2.Y-v1.Y)))))) v4);if(v5==0)=true then((v1,v5))else(if(v5==65536)=true then((v2,v5))else(let v6:=(A7e v1 v2 v5);(v6,v5)))
theorem B2i(a:cI)(b:cI)(p:cI):cA_ C3c [.agg a.enc, .agg b.enc, .agg p.enc] [] (.tup [.agg (B4 a b p).1.enc,sI ((B4 a b p).2)]) []:=by
 refine S1 56 [(6,some (some 2)),(7,none)] hm A6 Tryz.func487 rfl ?_;have:=B7s
 have:=Y2
 have:=B8s
 have:=B2l
 have:=B4.eq_1 a b p;exact E7
def A52(x:Int):Bool:=((decide ((-268435456)<=x))&&(decide (x<=268435456)))
theorem D0a(x:Int):cA_ C9r [sI x] [] (sB (A52 x)) []:=by refine en1 hm A6 Tryz.func463 rfl rfl ?_;have:=A52.eq_1 x;exact E7
def A7n(t:cH):Bool:=let v1:=(A52 t.dY.X);let v2:=(A52 t.dY.Y);(((v1&&v2)&&(decide ((-205888)<=t.eR)))&&(decide (t.eR<205888)))
theorem B1u(t:cH):cA_ D5f [.agg t.enc] [] (sB (A7n t)) []:=by
 refine en1 hm A6 Tryz.func359 rfl rfl ?_;have:=D0a
 have:=A7n.eq_1 t;exact E7
def B0v(v:cI)(limit:Int):Bool:=((inR v.X (IntKind.i64.wrap (0-limit)) limit)&&(inR v.Y (IntKind.i64.wrap (0-limit)) limit))
theorem E3g(v:cI)(limit:Int):cA_ E1x [.agg v.enc,sI limit] [] (sB (B0v v limit)) []:=by
 refine en1 hm A6 Tryz.func357 rfl rfl ?_;have:=B8q
 have:=B0v.eq_1 v limit;exact E7
def B8i(b:cF):Bool:=((!((b.dL.X==0)&&(b.dL.Y==0)))||(b.cZ != 0))
theorem E5l(b:cF):cA_ E4u [.agg b.enc] [] (sB (B8i b)) []:=by refine en1 hm A6 Tryz.func360 rfl rfl ?_;have:=B8i.eq_1 b;exact E7
def B1n(b:cF):Bool:=let v1:=(B8i b);if((b.cS==1)&&(v1||((!((b.fF.X==0)&&(b.fF.Y==0)))||(b.fH != 0))))=true then(false)else(if((b.cS != 3)&&(b.eU||b.fG))=true then(false)else(((!b.eU)||(!v1))))
theorem D5k(b:cF):cA_ D4v [.agg b.enc] [] (sB (B1n b)) []:=by
 refine en1 hm A6 Tryz.func228 rfl rfl ?_;have:=E5l
 have:=B1n.eq_1 b;exact E7
def A0f(s:Shape):Bool:=if(s.cS==1)=true then(((s.cJ.length:Int)==1))else(if(s.cS==2)=true then(((s.cJ.length:Int)==2))else(((decide (3<=(s.cJ.length:Int)))&&(decide ((s.cJ.length:Int)<=8)))))
theorem D3e(s:Shape):cA_ D06 [.agg s.enc] [] (sB (A0f s)) []:=by refine en1 hm A6 Tryz.func376 rfl rfl ?_;have:=A0f.eq_1 s;exact E7
theorem G6d(s:Shape):A0f s=true->(s.cS=1->s.cJ.length=1)/\(s.cS=2->s.cJ.length=2)/\(s.cS=3->3<=s.cJ.length):=by
 intro h;unfold A0f at h
 (repeat' split at h) <;> simp only[Bool.and_eq_true,decide_eq_true_eq,beq_iff_eq]at* <;> omega
def A6x(n:Int):Bool:=((decide (n<(-1048576)))||(decide (1048576<n)))
theorem D3d(n:Int):cA_ D05 [sI n] [] (sB (A6x n)) []:=by refine en1 hm A6 Tryz.func379 rfl rfl ?_;have:=A6x.eq_1 n;exact E7
def A57(l:List cI)(i1:Nat)(s1:Unit):(Unit) ⊕ (Bool):=let v1:=(E8r (l.getD i1 dF_));if v1=false then(.inr false)else(.inl ())
def A5a(l:List cI):Bool:=(match J8 (A57 l) l.length ()with | .inr r=>r | .inl s1=>true)
theorem C7y(l:List cI)(hl:l.length<=1048576):cA_ C6c [A4 2 cI.enc dF_ l] [] (sB (A5a l)) []:=by
 refine en1 hm A6 Tryz.func482 rfl rfl ?_;have:=D5u
 have:=A5a.eq_1 l
 have:=λi_ s_=>A57.eq_1 l i_ s_
 have:=λx_ Q_ σ_=> @lp_ Tryz.prog Tryz.f482.ntmps [] x_ Q_ σ_ hm (IE (A57 l) ()) (λ_=>True) l.length (λi_=> [(5, .cA,A4 2 cI.enc dF_ l),(6, .cA,sI (l.length:Int)),(7, .cA,sI (i_:Int))]) (λi_=> []) [] rfl (λ_ _=>trivial) (by simp[go_sem]) (by simp[go_sem,D3]) (by simp[go_sem]);exact B2n
def A97(k:cR):Bool:=(((((decide (k.cU<k.cV))&&(decide (0<=k.dM)))&&(decide (k.dM<4)))&&(decide (0<=k.dK)))&&(decide (k.dK<4)))
theorem D2v(k:cR):cA_ D0j [.agg k.enc] [] (sB (A97 k)) []:=by refine en1 hm A6 Tryz.func237 rfl rfl ?_;have:=A97.eq_1 k;exact E7
def Z8(vs:List cI)(i1:Nat)(i2:Nat)(s2:Unit):(Unit) ⊕ (Bool):=let v2:=(ori (vs.getD i1 dF_) (vs.getD ((IntKind.i64.wrap ((i1:Int)+1)).tmod (vs.length:Int)).toNat dF_) (vs.getD i2 dF_));if((((i2:Int) != (i1:Int))&&((i2:Int) != ((IntKind.i64.wrap ((i1:Int)+1)).tmod (vs.length:Int))))&&(v2 != 1))=true then(.inr false)else(.inl ())
def Z7(vs:List cI)(i1:Nat)(s1:Unit):(Unit) ⊕ (Bool):=(match J8 (Z8 vs i1) vs.length ()with | .inr r=> .inr r | .inl s2=> .inl ())
def M5(vs:List cI):Bool:=let v1:=(A5a vs);if(((decide ((vs.length:Int)<3))||(decide (8<(vs.length:Int))))||(!v1))=true then(false)else((match J8 (Z7 vs) vs.length ()with | .inr r=>r | .inl s1=>true))
theorem A69(vs:List cI)(hn:vs.length<=1048576):cA_ D00 [A4 2 cI.enc dF_ vs] [] (sB (M5 vs)) []:=by
 refine en1 hm A6 Tryz.func380 rfl rfl ?_;simp only[go_sem,E8];refine A0 (C7y vs (by(assumption))) rfl ?_;generalize hv1:(A5a vs)=v1;simp only[go_sem,E8,C3];by_cases h1:(((decide ((vs.length:Int)<3))||(decide (8<(vs.length:Int))))||(!v1))=true
 ·rw[if_pos h1];have hd:M5 vs=false:=by(unfold M5;exact hd_)
  try rw[hd]
 ·rw[if_neg h1];refine B1 hm (ι:= {p:Nat×Unit // p.1<=vs.length/\J8 (Z7 vs) p.1 ()= .inl p.2}) (λi=> [(0, .cA,A4 2 cI.enc dF_ vs),(3, .cA,sI (vs.length:Int)),(22, .cA,A4 2 cI.enc dF_ vs),(23, .cA,sI (vs.length:Int)),(24, .cA,sI (i.1.1:Int))]) (λi=> []) (λi=>vs.length-i.1.1) ⟨(0,()),by omega,rfl⟩ ?_ ?_
  ·refine E0 [] [] ?_;simp only[go_sem]
  ·rintro⟨⟨i1,s1⟩,hi1,hs1⟩;replace hi1:i1<=vs.length:=hi1;replace hs1:J8 (Z7 vs) i1 ()= .inl s1:=hs1;refine sg_ ?_;by_cases h2:(i1:Int)<(vs.length:Int)
   ·rw[if_pos h2];have hlt1:i1<vs.length:=by omega
    (repeat(with_reducible refine And.intro ?_ ?_;exact aI_))
    refine B1 hm (ι:= {p:Nat×Unit // p.1<=vs.length/\J8 (Z8 vs i1) p.1 ()= .inl p.2}) (λi=> [(0, .cA,A4 2 cI.enc dF_ vs),(3, .cA,sI (vs.length:Int)),(4, .cA,sI (i1:Int)),(5, .cA, .ptr 96 0 0 1),(6, .cA,sI ((IntKind.i64.wrap ((i1:Int)+1)).tmod (vs.length:Int))),(22, .cA,A4 2 cI.enc dF_ vs),(23, .cA,sI (vs.length:Int)),(24, .cA,sI (i1:Int)),(33, .cA,A4 2 cI.enc dF_ vs),(34, .cA,sI (vs.length:Int)),(35, .cA,sI (i.1.1:Int))]) (λi=> [(96, .box [sI ((vs.getD i1 dF_).X),sI ((vs.getD i1 dF_).Y)])]) (λi=>vs.length-i.1.1) ⟨(0,()),by omega,rfl⟩ ?_ ?_
    ·refine E0 [] [] ?_;simp only[go_sem]
    ·rintro⟨⟨i2,s2⟩,hi2,hs2⟩;replace hi2:i2<=vs.length:=hi2;replace hs2:J8 (Z8 vs i1) i2 ()= .inl s2:=hs2;simp only[go_sem,C9,C3];by_cases h3:(i2:Int)<(vs.length:Int)
     ·rw[if_pos h3];have hlt2:i2<vs.length:=by omega
      (repeat(with_reducible refine And.intro ?_ ?_;exact aI_))
      refine A0 (A2w (vs.getD i1 dF_) (vs.getD ((IntKind.i64.wrap ((i1:Int)+1)).tmod (vs.length:Int)).toNat dF_) (vs.getD i2 dF_)) rfl ?_;generalize hv2:(ori (vs.getD i1 dF_) (vs.getD ((IntKind.i64.wrap ((i1:Int)+1)).tmod (vs.length:Int)).toNat dF_) (vs.getD i2 dF_))=v2;simp only[go_sem,C9,C3];by_cases h4:((((i2:Int) != (i1:Int))&&((i2:Int) != ((IntKind.i64.wrap ((i1:Int)+1)).tmod (vs.length:Int))))&&(v2 != 1))=true
      ·rw[if_pos h4];have e2:J8 (Z8 vs i1) (i2+1) ()= .inr false:=A1v hs2 (by(unfold Z8;exact hd_));replace e2:=A5j e2 (show i2+1<=vs.length by omega);have e1:J8 (Z7 vs) (i1+1) ()= .inr false:=A1v hs1 (by(unfold Z7;exact hd_));replace e1:=A5j e1 (show i1+1<=vs.length by omega);have hd:M5 vs=false:=by(unfold M5;exact hd_)
       try rw[hd]
      ·rw[if_neg h4];have hn:J8 (Z8 vs i1) (i2+1) ()= .inl ():=A1v hs2 (by(unfold Z8;exact hd_));refine A8 ⟨(i2+1,()),by omega,hn⟩ (by show vs.length-(i2+1)<vs.length-i2;omega) (E0 [] [] ?_);refine sg_ ?_;exact A8j
     ·rw[if_neg h3];have hge:i2=vs.length:=by omega
      subst hge;have hn:J8 (Z7 vs) (i1+1) ()= .inl ():=A1v hs1 (by(unfold Z7;exact hd_));refine A8 ⟨(i1+1,()),by omega,hn⟩ (by show vs.length-(i1+1)<vs.length-i1;omega) (E0 [] [] ?_);refine sg_ ?_;exact A8j
   ·rw[if_neg h2];have hge:i1=vs.length:=by omega
    subst hge;have hd:M5 vs=true:=by(unfold M5;exact hd_)
    try rw[hd]
theorem B9i(vs:List cI):M5 vs=true->3<=vs.length/\vs.length<=8:=by
 intro h;unfold M5 at h;simp only at h;split at h
 ·cases h
 ·rename_i hc;simp only[Bool.or_eq_true,decide_eq_true_eq,not_or]at hc;omega
def A49(vs:List cI)(i1:Nat)(s1:Int):Int:=let v2:=(O6 (vs.getD ((IntKind.i64.wrap ((i1:Int)+1)).tmod (vs.length:Int)).toNat dF_) (vs.getD i1 dF_));let v3:=(B0g v2);(if v3<s1 then v3 else s1)
def A4j(vs:List cI):Int:=let v1:=(M5 vs);if v1=false then(0)else(let s1:=itr (A49 vs) vs.length 536870911;s1)
theorem C38(vs:List cI)(hn:vs.length<=1048576):cA_ C3a [A4 2 cI.enc dF_ vs] [] (sI (A4j vs)) []:=by
 refine en1 hm A6 Tryz.func381 rfl rfl ?_;have:=B9i vs
 have:=A69
 have:=L7
 have:=V8
 have:=A4j.eq_1 vs
 have:=λi_ s_=>A49.eq_1 vs i_ s_
 have:=λx_ Q_ σ_=> @lp_ Tryz.prog Tryz.f381.ntmps [] x_ Q_ σ_ hm (λ_=>True) (λ_=>True) vs.length (λi_=> [(0, .cA,A4 2 cI.enc dF_ vs),(3, .cA,sI (itr (A49 vs) i_ 536870911)),(9, .cA,A4 2 cI.enc dF_ vs),(10, .cA,sI (vs.length:Int)),(11, .cA,sI (i_:Int))]) (λi_=> []) [] trivial (λ_ _=>trivial) (by simp[go_sem]) (by simp[go_sem,D3]) (by simp[go_sem]);exact B2n
structure K6 where
 e:cI
 f:cI
 cross:Int
 deriving DecidableEq,Inhabited
def K6.enc(x:K6):List AV:=[sI x.e.X,sI x.e.Y,sI x.f.X,sI x.f.Y,sI x.cross]
def K6.zero:List AV:= [sI 0,sI 0,sI 0,sI 0,sI 0]
attribute [go_sem] K6.enc K6.zero
@[go_sem] theorem F3z(x:K6):K6.mk x.e x.f x.cross=x:=rfl
def U6(vs:List cI)(i1:Nat)(s1:(List K6)×Int):(List K6)×Int:=let v1:=(A37 (IntKind.i64.wrap ((IntKind.i64.wrap ((IntKind.i64.wrap ((vs.getD (i1+1) dF_).X-(vs.getD 0 dF_).X))*(IntKind.i64.wrap ((vs.getD (IntKind.i64.wrap (((i1+1:Nat):Int)+1)).toNat dF_).Y-(vs.getD 0 dF_).Y))))-(IntKind.i64.wrap ((IntKind.i64.wrap ((vs.getD (i1+1) dF_).Y-(vs.getD 0 dF_).Y))*(IntKind.i64.wrap ((vs.getD (IntKind.i64.wrap (((i1+1:Nat):Int)+1)).toNat dF_).X-(vs.getD 0 dF_).X)))))) 65536);((s1.1++ [(⟨(⟨(IntKind.i64.wrap ((vs.getD (i1+1) dF_).X-(vs.getD 0 dF_).X)),(IntKind.i64.wrap ((vs.getD (i1+1) dF_).Y-(vs.getD 0 dF_).Y))⟩:cI),(⟨(IntKind.i64.wrap ((vs.getD (IntKind.i64.wrap (((i1+1:Nat):Int)+1)).toNat dF_).X-(vs.getD 0 dF_).X)),(IntKind.i64.wrap ((vs.getD (IntKind.i64.wrap (((i1+1:Nat):Int)+1)).toNat dF_).Y-(vs.getD 0 dF_).Y))⟩:cI),v1⟩:K6)]),(IntKind.i64.wrap (s1.2+v1)))
def Q7(vs:List cI):(List K6)×Int:=let s1:=itr (U6 vs) (vs.length-2) ([],0);(s1.1,s1.2)
theorem C83(vs:List cI)(hn:vs.length<=1048576)(h0:1<=vs.length):cA_ E42 [A4 2 cI.enc dF_ vs] [] (.tup [A4 5 K6.enc dF_ (Q7 vs).1,sI ((Q7 vs).2)]) []:=by
 refine enT hm A6 Tryz.func483 rfl rfl (sg_ ?_)
 (repeat(with_reducible refine And.intro ?_ ?_;exact aI_))
 refine B1 hm (ι:= {i:Nat // i<=(vs.length-2)}) (λi=> [(0, .cA,A4 2 cI.enc dF_ vs),(4,if i.1=0 then .eZ else .cA, .sl 1004 0 (itr (U6 vs) i.1 ([],0)).1.length (itr (U6 vs) i.1 ([],0)).1.length),(5, .cA,sI ((itr (U6 vs) i.1 ([],0)).2)),(6, .cA, .ptr 112 0 0 1),(7, .cA,sI ((i.1+1:Nat):Int))]) (λi=> [(1004, .arr 5 (A9 K6.enc dF_ (itr (U6 vs) i.1 ([],0)).1)),(112, .box [sI ((vs.getD 0 dF_).X),sI ((vs.getD 0 dF_).Y)])]) (λi=>(vs.length-2)-i.1) ⟨0,by omega⟩ ?_ ?_
 ·refine E0 [] [1004] ?_;simp only[go_sem,J3];exact A8j
 ·rintro⟨i1,hi1⟩;dsimp only;generalize hs1:itr (U6 vs) i1 ([],0)=s1;have hl1_0:(s1.1).length<=((([],0):(List K6)×Int).1).length+1*i1:=by rw[<-hs1];exact A87 (λs:(List K6)×Int=>(s.1).length) 1 (λi s=>by(unfold U6;(repeat' split) <;> simp <;> omega)) i1 _
  dsimp only[List.length_nil]at hl1_0;refine sg_ ?_;by_cases h1:(IntKind.i64.wrap (((i1+1:Nat):Int)+1))<(vs.length:Int)
  ·rw[if_pos h1];have hlt1:i1<(vs.length-2):=by(simp only[IntKind.wrap_i64]at h1;omega)
   (repeat(with_reducible refine And.intro ?_ ?_;exact aI_))
   refine A0 (Q5 (IntKind.i64.wrap ((IntKind.i64.wrap ((IntKind.i64.wrap ((vs.getD (i1+1) dF_).X-(vs.getD 0 dF_).X))*(IntKind.i64.wrap ((vs.getD (IntKind.i64.wrap (((i1+1:Nat):Int)+1)).toNat dF_).Y-(vs.getD 0 dF_).Y))))-(IntKind.i64.wrap ((IntKind.i64.wrap ((vs.getD (i1+1) dF_).Y-(vs.getD 0 dF_).Y))*(IntKind.i64.wrap ((vs.getD (IntKind.i64.wrap (((i1+1:Nat):Int)+1)).toNat dF_).X-(vs.getD 0 dF_).X)))))) 65536) rfl ?_;generalize hv1:(A37 (IntKind.i64.wrap ((IntKind.i64.wrap ((IntKind.i64.wrap ((vs.getD (i1+1) dF_).X-(vs.getD 0 dF_).X))*(IntKind.i64.wrap ((vs.getD (IntKind.i64.wrap (((i1+1:Nat):Int)+1)).toNat dF_).Y-(vs.getD 0 dF_).Y))))-(IntKind.i64.wrap ((IntKind.i64.wrap ((vs.getD (i1+1) dF_).Y-(vs.getD 0 dF_).Y))*(IntKind.i64.wrap ((vs.getD (IntKind.i64.wrap (((i1+1:Nat):Int)+1)).toNat dF_).X-(vs.getD 0 dF_).X)))))) 65536)=v1;refine sg_ ?_
   (repeat(with_reducible refine And.intro ?_ ?_;exact aI_))
   have hn:itr (U6 vs) (i1+1) ([],0)=((s1.1++ [(⟨(⟨(IntKind.i64.wrap ((vs.getD (i1+1) dF_).X-(vs.getD 0 dF_).X)),(IntKind.i64.wrap ((vs.getD (i1+1) dF_).Y-(vs.getD 0 dF_).Y))⟩:cI),(⟨(IntKind.i64.wrap ((vs.getD (IntKind.i64.wrap (((i1+1:Nat):Int)+1)).toNat dF_).X-(vs.getD 0 dF_).X)),(IntKind.i64.wrap ((vs.getD (IntKind.i64.wrap (((i1+1:Nat):Int)+1)).toNat dF_).Y-(vs.getD 0 dF_).Y))⟩:cI),v1⟩:K6)]),(IntKind.i64.wrap (s1.2+v1))):=by rw[H6,hs1];(unfold U6;exact hd_)
   refine A8 ⟨i1+1,by omega⟩ (by show(vs.length-2)-(i1+1)<(vs.length-2)-i1;omega) (E0 [] [] ?_);simp only[go_sem,hn]
   all_goals((repeat' (with_reducible apply And.intro)) <;> first |exact A1g ((⟨(⟨(IntKind.i64.wrap ((vs.getD (i1+1) dF_).X-(vs.getD 0 dF_).X)),(IntKind.i64.wrap ((vs.getD (i1+1) dF_).Y-(vs.getD 0 dF_).Y))⟩:cI),(⟨(IntKind.i64.wrap ((vs.getD (IntKind.i64.wrap (((i1+1:Nat):Int)+1)).toNat dF_).X-(vs.getD 0 dF_).X)),(IntKind.i64.wrap ((vs.getD (IntKind.i64.wrap (((i1+1:Nat):Int)+1)).toNat dF_).Y-(vs.getD 0 dF_).Y))⟩:cI),v1⟩:K6)) rfl rfl |exact A8j)
  ·rw[if_neg h1];have hge:i1=(vs.length-2):=by(simp only[IntKind.wrap_i64]at h1;omega)
   subst hge;have hd:Q7 vs=(s1.1,s1.2):=by(unfold Q7;exact hd_)
   try rw[hd]
   try simp only[go_sem]
def A11(vs:List cI):Int:=let v1:=(M5 vs);if v1=false then(0)else(let v2:=(Q7 vs);let v3:=(A37 v2.2 2);v3)
theorem C5n(vs:List cI)(hn:vs.length<=1048576):cA_ E12 [A4 2 cI.enc dF_ vs] [] (sI (A11 vs)) []:=by
 refine en1 hm A6 Tryz.func382 rfl rfl (sg_ ?_);have p1:=B9i vs;refine A0 (A69 vs (by(assumption))) rfl ?_;generalize hv1:(M5 vs)=v1 at*;refine sg_ ?_;by_cases h2:v1=false
 ·rw[if_pos h2];have hd:A11 vs=0:=by(unfold A11;exact hd_)
  try rw[hd]
 ·rw[if_neg h2];refine A0 (C83 vs (by(assumption)) (by(exact K0))) rfl ?_;generalize hv2:(Q7 vs)=v2;refine sg_ ?_;refine A0 (Q5 v2.2 2) rfl ?_;generalize hv3:(A37 v2.2 2)=v3;refine sg_ ?_;have hd:A11 vs=v3:=by(unfold A11;exact hd_)
  try rw[hd]
end Go.Abs
end
