/- A part of the proof: contracts of functions that the statement reaches. -/
import Derived.Test.YtchcbiiammkhgaaGreatMG
set_option linter.unusedSimpArgs false
set_option linter.unusedVariables false
set_option linter.unnecessarySimpa false
set_option maxRecDepth 100000
set_option maxHeartbeats 2000000
noncomputable section
namespace Go.Abs
open Go.Proofs
open Api
def okO(O:List (Nat×A5)):Prop:=(O.map (·.1)).Nodup/\ ∀p∈O,∀cs,p.2= .box cs-> ∀j∈F4 cs,(ofL O j).isSome
theorem B35 {O:List (Nat×A5)}(hn:(O.map (·.1)).Nodup){i:Nat}{o:A5}(h:(i,o)∈O):ofL O i=some o:=by
 rw[B8m O hn];have:O.find? (λp=>p.1==i)=some (i,o):=by
  induction O with
  |nil=>cases h
  |cons p O ih=>
   simp only[List.map_cons,List.nodup_cons]at hn;rcases List.mem_cons.1 h with e |h'
   ·subst e;simp
   ·have hne:p.1≠i:=λe=>hn.1 (e▸List.mem_map_of_mem (f:=(·.1)) h')
    simp only[List.find?_cons,beq_eq_false_iff_ne.2 hne];exact ih hn.2 h'
 rw[this];rfl
theorem D60 {O:List (Nat×A5)}: ∀ {cs:List AV},(∀j∈F4 cs,(ofL O j).isSome)->C0g id [] O cs cs
 | [],_=> .nil
 |c::cs,h=>by refine .cons ?_ (D60 λj hj=>h j (by simp[F4,hj]));have:B8q id [] O (c.ren id) c:= .share λj hj=>⟨h j (by simp[F4,hj]),by simp⟩;rwa[AV.ren_id]at this
theorem D3m {O:List (Nat×A5)}(h:okO O): ∀(l:List (Nat×A5)),(∀p∈l,p∈O)->C9w (ofL O) id [] O l
 | [],_=>trivial
 |(i,o)::l,hl=>by
  refine⟨?_,D3m h l λp hp=>hl p (List.mem_cons_of_mem _ hp)⟩;have hio:=hl (i,o) (List.mem_cons_self ..);rw[if_neg (by simp)];simp only[id,B35 h.1 hio];cases o with
  |box cs=>exact .inl ⟨cs,cs,rfl,rfl,D60 (h.2 _ hio cs rfl)⟩
  |_=>exact .inr ⟨(λcs e=>by cases e),(λcs e=>by cases e), .inl rfl⟩
theorem V9 {σ:St}{T:H6}{O:List (Nat×A5)}(h:okO O)(hobj:σ.objs=ofL O)(hs:A3b σ id [] O T [] λwr=>wr= []):Y5 (O.map (·.1)) σ T O:=by
 refine⟨id,[],h.1,(by have e:(List.map (λx=>x.fst) O).filter (λi=> !([]:List Nat).contains i)=List.map (λx=>x.fst) O:=List.filter_eq_self.2 (λa _=>by simp);simp only[e,List.map_id];exact h.1),λk hk=>⟨by simp,rfl,?_⟩,B3e (λwr hwr=> ?_) T [] hs⟩
 ·rw[List.mem_map]at hk;obtain⟨p,hp,rfl⟩:=hk;rw[B35 h.1 hp];rfl
 ·subst hwr;have:wrm σ.objs []=ofL O:=hobj;rw[this];exact D3m h O λ_ hp=>hp
theorem R3 {σ:St}{ts:List Nat}{rs:List AV}{O:List (Nat×A5)}(md:List C1w)(hm:md.length=ts.length)(hr:rs.length=ts.length)(h:okO O)(hobj:σ.objs=ofL O)(hs:A3b σ id [] O (B9x ts md rs) [] λwr=>wr= []):
  A8c (O.map (·.1)) σ ts rs O:=⟨md,hm,hr,V9 h hobj hs⟩
theorem B5x(o:A5):o.ren id=o:=by cases o <;> simp only[A5.ren];rw[N1]
theorem U8 {O:List (Nat×A5)}(h:okO O):wrm (ofL O) (A3w id O)=ofL O:=by
 rw[D1y];funext x;rw[C4b O _ h.1];cases hf:O.find? (λp=>p.1==x)with
 |none=>rfl
 |some p=>have h1:=List.find?_some hf;simp only[beq_iff_eq]at h1;subst h1;exact(B35 h.1 (List.mem_of_find?_eq_some hf)).symm
theorem B1n {m:Nat->Option A5}{O:List (Nat×A5)}: ∀ {avs:List AV},(∀a∈avs,∀i∈a.ids,(ofL O i).isSome)->R4 m id O (avs.map λ_=>true) avs avs []
 | [],_=>rfl
 |a::avs,h=>⟨AV.ren_id a,h a (List.mem_cons_self ..),B1n λb hb=>h b (List.mem_cons_of_mem _ hb)⟩
theorem W0 {P:Program}{m:Nat->Option A5}{f:FuncId}{avs:List AV}{b:Bool}{Q:ContR}{O:List (Nat×A5)}{r:AV}(hc:A1 P f avs O r O)(h:okO O)(hm:m=ofL O)
  (ha: ∀a∈avs,∀i∈a.ids,(ofL O i).isSome)(hb:b=true)(hK: @Ri Q b ⟨some r,A3w id O⟩): @A4z P m f avs b Q:=by
 refine⟨⟨some r,A3w id O⟩,λ_=> ?_,λ_=>hb,hK⟩;have:=T7.mk (P:=P) (m:=m) (avs.map λ_=>true) avs O r O id [] false hc (B1n ha)
  (λi o hi=>by rw[B5x];subst hm;exact hi)
  (λi cs hi j hj=>h.2 _ (A1i h.1 hi) cs rfl j hj) (λi hi=>hi) (λi hi=> .inl hi) (by simpa using h.1) (λe=>by cases e)
 simpa[AV.ren_id]using this
def B1c(p:Int->Bool)(l:List Int):Int:=match(List.range l.length).find? (λi=>p (l.getD i 0))with |some i=>i |none=> -1
theorem D9k {p:Int->Bool}{l:List Int}{i:Nat}(hi:i<l.length)(h: ∀j,j<i->p (l.getD j 0)=false)(hp:p (l.getD i 0)=true):B1c p l=i:=by
 have:(List.range l.length).find? (λi=>p (l.getD i 0))=some i:=by rw[List.find?_range_eq_some];exact⟨hp,by simpa using hi,λj hj=>by simp only[h j hj,Bool.not_false]⟩
 unfold B1c;rw[this]
theorem C0t {p:Int->Bool}{l:List Int}(h: ∀j,j<l.length->p (l.getD j 0)=false):B1c p l= -1:=by
 have:(List.range l.length).find? (λi=>p (l.getD i 0))=none:=by rw[List.find?_range_eq_none];exact λj hj=>by simp only[h j hj,Bool.not_false]
 unfold B1c;rw[this]
theorem D47(p:Int->Bool)(l:List Int):decide (0<=B1c p l)=l.any p:=by
 cases h:l.any p with
 |true=>
  rw[List.any_eq_true]at h;obtain⟨x,hx,hp⟩:=h;obtain⟨k,hk,rfl⟩:=List.getElem_of_mem hx;unfold B1c;cases hf:(List.range l.length).find? (λi=>p (l.getD i 0))with
  |none=>rw[List.find?_range_eq_none]at hf;have:=hf k hk;simp[List.getD,hk,hp]at this
  |some i=>simp
 |false=>rw[List.any_eq_false]at h;rw[C0t λj hj=>by simpa using h _ (B7 0 hj)];decide
theorem D0x(l:List Int)(x:Int)(hl:l.length<=1048576):A1 Tryz.prog C8u [A2 1 B9 0 l,sI x] [] (sI (B1c (λy=>x==y) l)) []:=by
 refine en1 hm A4 Tryz.func395 rfl rfl ?_;simp only[go_sem];refine B0 hm (ι:= {i:Nat // i<=l.length/\ ∀j,j<i->(x==l.getD j 0)=false}) (λi=> [(0, .share,A2 1 B9 0 l),(1, .share,sI x),(7, .share,sI l.length),(8, .share,sI i.1)])
  (λi=> []) (λi=>l.length-i.1) ⟨0,by omega,λj hj=>by omega⟩ ?_ ?_
 ·refine D7 [] [] ?_;simp only[go_sem]
 ·rintro⟨i,hi,hs⟩;simp only[go_sem];split
  ·rename_i hlt;have hlt:i<l.length:=by omega
   refine⟨ok_,?_⟩;cases hx:(x==l.getD i 0)with
   |true=>rw[if_pos rfl];exact(D9k hlt hs hx).symm
   |false=>rw[if_neg (by simp)];refine A7 ⟨i+1,by omega,λj hj=>by rcases Nat.lt_succ_iff_lt_or_eq.1 hj with h |rfl;exact hs j h;exact hx⟩ (by show l.length-(i+1)<l.length-i;omega) (D7 [] [] ?_);simp only[go_sem];exact(by rw[IntKind.wrap_i64];omega)
  ·rename_i hge;exact(C0t λj hj=>hs j (by omega)).symm
theorem C34(l:List Int)(x:Int)(hl:l.length<=1048576):A1 Tryz.prog C28 [A2 1 B9 0 l,sI x] [] (sB (l.any λy=>x==y)) []:=by refine en1 hm A4 Tryz.func259 rfl rfl ?_;simp only[go_sem];refine A0 (D0x l x hl) rfl ?_;simp only[D47,go_sem]
theorem A69(l:List Int)(f:FuncId)(first cap:List AV)(O:List (Nat×A5))(p:Int->Bool)(hl:l.length<=1000000000)(hO:okO O)
  (hids: ∀i∈(AV.fn (.func f) first cap).ids,(ofL O i).isSome)
  (hp: ∀x∈l,A1 Tryz.prog f (first++ [sI x]++cap) O (sB (p x)) O):
  A1 Tryz.prog B1m [A2 1 B9 0 l, .fn (.func f) first cap] O (sI (B1c p l)) O:=by
 have hren:(AV.fn (.func f) first cap).ren id= .fn (.func f) first cap:=AV.ren_id _
 have hargs: ∀x:Int,∀a∈first++ [sI x]++cap,∀i∈a.ids,(ofL O i).isSome:=λx a ha i hi=>by
  simp only[List.mem_append,List.mem_singleton]at ha;refine hids i ?_;simp only[AV.ids,List.mem_append];rcases ha with(ha |rfl) |ha
  ·obtain⟨k,hk⟩:=List.getElem?_of_mem ha;exact .inl (N3 hk i hi)
  ·simp[AV.ids]at hi
  ·obtain⟨k,hk⟩:=List.getElem?_of_mem ha;exact .inr (N3 hk i hi)
 refine H8 hm A4 Tryz.func190 rfl rfl ?_;simp only[go_sem];refine B0 hm (ι:= {i:Nat // i<=l.length/\ ∀j,j<i->p (l.getD j 0)=false}) (λi=> [(0, .share,A2 1 B9 0 l),(1, .share, .fn (.func f) first cap),(7, .share,sI l.length),(8, .share,sI i.1)])
  (λi=>O) (λi=>l.length-i.1) ⟨0,by omega,λj hj=>by omega⟩ ?_ ?_
 ·refine V9 hO rfl ?_;simp only[go_sem];exact⟨by rw[N1,N1],λi hi=>hids i hi⟩
 ·rintro⟨i,hi,hs⟩;simp only[go_sem];split
  ·rename_i hlt;have hlt:i<l.length:=by omega
   refine⟨ok_,?_⟩;have hx:A1 Tryz.prog f (first++ .sc (.int .i64 (l.getD i 0))::cap) O (sB (p (l.getD i 0))) O:=by have:=hp (l.getD i 0) (B7 0 hlt);rwa[List.append_assoc]at this
   refine W0 hx hO rfl (λa ha=>hargs (l.getD i 0) a (by rw[List.append_assoc];exact ha)) rfl ?_;simp only[go_sem];cases hpx:p (l.getD i 0)with
   |true=>rw[if_pos rfl];refine R3 [.share] rfl rfl hO (U8 hO) ?_;simp only[go_sem];exact(D9k hlt hs hpx).symm
   |false=>rw[if_neg (by simp)];refine A7 ⟨i+1,by omega,λj hj=>by rcases Nat.lt_succ_iff_lt_or_eq.1 hj with h |rfl;exact hs j h;exact hpx⟩ (by show l.length-(i+1)<l.length-i;omega) (V9 hO (U8 hO) ?_);simp only[go_sem];exact⟨by rw[N1,N1],λi hi=>hids i hi,(by rw[IntKind.wrap_i64];omega)⟩
  ·rename_i hge;refine R3 [.share] rfl rfl hO rfl ?_;simp only[go_sem];exact(C0t λj hj=>hs j (by omega)).symm
theorem A5d(l:List Int)(f:FuncId)(first cap:List AV)(O:List (Nat×A5))(p:Int->Bool)(hl:l.length<=1000000000)(hO:okO O)
  (hids: ∀i∈(AV.fn (.func f) first cap).ids,(ofL O i).isSome)
  (hp: ∀x∈l,A1 Tryz.prog f (first++ [sI x]++cap) O (sB (p x)) O):
  A1 Tryz.prog A9j [A2 1 B9 0 l, .fn (.func f) first cap] O (sB (l.any p)) O:=by
 refine H8 hm A4 Tryz.func328 rfl rfl ?_;simp only[go_sem];refine W0 (A69 l f first cap O p hl hO hids hp) hO rfl ?_ rfl ?_
 ·intro a ha;simp only[List.mem_cons,List.not_mem_nil,or_false]at ha;rcases ha with rfl |rfl
  ·intro i hi;simp[AV.ids]at hi
  ·exact hids
 ·simp only[go_sem];refine R3 [.share] rfl rfl hO (U8 hO) ?_;simp only[go_sem];exact D47 p l
mutual
theorem D7k {ρ:Nat->Nat}: ∀(c:AV),c.ids= []->c.ren ρ=c
 | .sc _,_=>rfl
 | .dsl ..,_=>rfl
 | .dslx ..,_=>rfl
 | .sl ..,h=>by simp[AV.ids]at h
 | .ptr ..,h=>by simp[AV.ids]at h
 | .mp _,h=>by simp[AV.ids]at h
 | .fptr _,_=>rfl
 | .own ..,_=>rfl
 | .hole,_=>rfl
 | .agg cs,h=>by simp only[AV.ren,B1w cs (by simpa[AV.ids]using h)]
 | .tup cs,h=>by simp only[AV.ren,B1w cs (by simpa[AV.ids]using h)]
 | .fn f a b,h=>by simp only[AV.ids,List.append_eq_nil_iff]at h;simp only[AV.ren,B1w a h.1,B1w b h.2]
theorem B1w {ρ:Nat->Nat}: ∀(l:List AV),F4 l= []->A7y ρ l=l
 | [],_=>rfl
 |a::l,h=>by simp only[F4,List.append_eq_nil_iff]at h;simp only[A7y,D7k a h.1,B1w l h.2]
end
theorem E6c {P:Program}{m:Nat->Option A5}{f:FuncId}{b:Bool}{Q:ContR}{avs cargs:List AV}{O':List (Nat×A5)}{r:AV}(ρs:List (Nat×Nat))(hc:A1 P f cargs [] r O')
  (hr:r.noDsl=true)(ho: ∀p∈O',p.2.NoDsl)(hnO':(O'.map (·.1)).Nodup)(hnd:(O'.map λp=>A6 ρs p.1).Nodup)
  (ha:A07 m avs cargs [] λ_=>True)(hn:C9u m (A6 ρs) [] O')(hb:b=true)(hK: @Ri Q b ⟨some (r.ren (A6 ρs)),A3w (A6 ρs) O'⟩):
  @A4z P m f avs b Q:=by
 obtain⟨md0,cs,wr,h1,h2,_⟩:=C4z ha;have h1': ∃md,R4 m (A6 ρs) [] md avs cs wr:=by
  clear hc h2 ha;induction avs generalizing md0 cs wr with
  |nil=>cases md0 <;> cases cs <;> first |exact⟨[],h1⟩ |simp[R4]at h1
  |cons a avs ih=>
   cases md0 with
   |nil=>cases cs <;> simp[R4]at h1
   |cons x md=>
    cases cs with
    |nil=>cases x <;> simp[R4]at h1
    |cons c cs=>
     cases x with
     |true=>
      obtain⟨e1,e2,e3⟩:=h1;obtain⟨md',h'⟩:=ih md cs wr e3;refine⟨true::md',?_,e2,h'⟩;have:c.ids= []:=by
       cases hids:c.ids with
       |nil=>rfl
       |cons i l=>have:=e2 i (by rw[hids];simp);simp[ofL,wrm]at this
      rw[AV.ren_id]at e1;rw[<-e1];exact D7k c this
     |false=>obtain⟨p,w1,w2,f1,f2,rfl,f3⟩:=h1;obtain⟨md',h'⟩:=ih md cs w2 f3;exact⟨false::md',p,w1,w2,f1,f2,rfl,h'⟩
 obtain⟨md,h1'⟩:=h1';have:=T7.mk (P:=P) (m:=m) md cs [] r O' (A6 ρs) wr true (hc.args_le h2) h1' (λi o hi=>by simp[ofL,wrm]at hi) (λi cs hi=>by simp[ofL,wrm]at hi) (λi hi=>by simp[ofL,wrm]at hi)
  (λi hi=>by obtain⟨o,ho'⟩:=A88 hi;exact B9e hn i o ho') hnd (λ_=>⟨hr,λi o hi=>ho _ (A1i hnO' hi)⟩)
 exact⟨⟨some (r.ren (A6 ρs)),A3w (A6 ρs) O'⟩,λ_=>(by simpa using this),λ_=>hb,hK⟩
theorem A1k {P:Program}{m:Nat->Option A5}{f:FuncId}{avs:List AV}{b:Bool}{Q:ContR}{O:List (Nat×A5)}{r:AV}(hc:A1 P f avs O r O)(h:okO O)(hm: ∀p∈O,m p.1=some p.2)
  (ha: ∀a∈avs,∀i∈a.ids,(ofL O i).isSome)(hb:b=true)(hK: @Ri Q b ⟨some r,O⟩): @A4z P m f avs b Q:=by
 rw[<-D1y O]at hK;refine⟨⟨some r,A3w id O⟩,λ_=> ?_,λ_=>hb,hK⟩;have:=T7.mk (P:=P) (m:=m) (avs.map λ_=>true) avs O r O id [] false hc (B1n ha)
  (λi o hi=>by rw[B5x];exact hm _ (A1i h.1 hi))
  (λi cs hi j hj=>h.2 _ (A1i h.1 hi) cs rfl j hj) (λi hi=>hi) (λi hi=> .inl hi) (by simpa using h.1) (λe=>by cases e)
 simpa[AV.ren_id]using this
theorem B7i(k:Nat)(l:List Int)(f:FuncId)(first cap:List AV)(O:List (Nat×A5))(p:Int->Bool)(hl:l.length<=1000000000)(hO:okO O)(hk:ofL O k=some (.arr 1 (A8 B9 0 l)))
  (hids: ∀i∈(AV.fn (.func f) first cap).ids,(ofL O i).isSome)
  (hp: ∀x∈l,A1 Tryz.prog f (first++ [sI x]++cap) O (sB (p x)) O):
  A1 Tryz.prog B1m [.sl k 0 l.length l.length, .fn (.func f) first cap] O (sI (B1c p l)) O:=by
 have hren:(AV.fn (.func f) first cap).ren id= .fn (.func f) first cap:=AV.ren_id _
 have hargs: ∀x:Int,∀a∈first++ [sI x]++cap,∀i∈a.ids,(ofL O i).isSome:=λx a ha i hi=>by
  simp only[List.mem_append,List.mem_singleton]at ha;refine hids i ?_;simp only[AV.ids,List.mem_append];rcases ha with(ha |rfl) |ha
  ·obtain⟨k,hk⟩:=List.getElem?_of_mem ha;exact .inl (N3 hk i hi)
  ·simp[AV.ids]at hi
  ·obtain⟨k,hk⟩:=List.getElem?_of_mem ha;exact .inr (N3 hk i hi)
 refine H8 hm A4 Tryz.func190 rfl rfl ?_;simp only[go_sem];refine B0 hm (ι:= {i:Nat // i<=l.length/\ ∀j,j<i->p (l.getD j 0)=false}) (λi=> [(0, .share, .sl k 0 l.length l.length),(1, .share, .fn (.func f) first cap),(7, .share,sI l.length),(8, .share,sI i.1)])
  (λi=>O) (λi=>l.length-i.1) ⟨0,by omega,λj hj=>by omega⟩ ?_ ?_
 ·refine V9 hO rfl ?_;simp only[go_sem];exact⟨rfl,(by show(ofL O k).isSome=true;rw[hk];rfl),hren.symm,λi hi=>hids i hi⟩
 ·rintro⟨i,hi,hs⟩;have hk':=hk;simp only[A14];generalize hmo:ofL O=mo at hk'⊢;simp only[go_sem,hk'];split
  ·rename_i hlt;have hlt:i<l.length:=by omega
   refine⟨ok_,?_⟩;have hx:A1 Tryz.prog f (first++ .sc (.int .i64 (l.getD i 0))::cap) O (sB (p (l.getD i 0))) O:=by have:=hp (l.getD i 0) (B7 0 hlt);rwa[List.append_assoc]at this
   refine W0 hx hO hmo.symm (λa ha=>hargs (l.getD i 0) a (by rw[List.append_assoc];exact ha)) rfl ?_;have hself:wrm mo (A3w id O)=ofL O:=by rw[<-hmo];exact U8 hO
   simp only[go_sem];cases hpx:p (l.getD i 0)with
   |true=>rw[if_pos rfl];refine R3 [.share] rfl rfl hO hself ?_;simp only[go_sem];exact(D9k hlt hs hpx).symm
   |false=>rw[if_neg (by simp)];refine A7 ⟨i+1,by omega,λj hj=>by rcases Nat.lt_succ_iff_lt_or_eq.1 hj with h |rfl;exact hs j h;exact hpx⟩ (by show l.length-(i+1)<l.length-i;omega) (V9 hO hself ?_);simp only[go_sem];exact⟨rfl,(by show(ofL O k).isSome=true;rw[hk];rfl),hren.symm,λi hi=>hids i hi,(by rw[IntKind.wrap_i64];omega)⟩
  ·rename_i hge;refine R3 [.share] rfl rfl hO hmo.symm ?_;simp only[go_sem];exact(C0t λj hj=>hs j (by omega)).symm
theorem B4y(k:Nat)(l:List Int)(f:FuncId)(first cap:List AV)(O:List (Nat×A5))(p:Int->Bool)(hl:l.length<=1000000000)(hO:okO O)(hk:ofL O k=some (.arr 1 (A8 B9 0 l)))
  (hids: ∀i∈(AV.fn (.func f) first cap).ids,(ofL O i).isSome)
  (hp: ∀x∈l,A1 Tryz.prog f (first++ [sI x]++cap) O (sB (p x)) O):
  A1 Tryz.prog A9j [.sl k 0 l.length l.length, .fn (.func f) first cap] O (sB (l.any p)) O:=by
 refine H8 hm A4 Tryz.func328 rfl rfl ?_;simp only[go_sem];refine W0 (B7i k l f first cap O p hl hO hk hids hp) hO rfl ?_ rfl ?_
 ·intro a ha;simp only[List.mem_cons,List.not_mem_nil,or_false]at ha;rcases ha with rfl |rfl
  ·intro i hi;simp only[AV.ids,List.mem_singleton]at hi;subst hi;rw[hk];rfl
  ·exact hids
 ·simp only[go_sem];refine R3 [.share] rfl rfl hO (U8 hO) ?_;simp only[go_sem];exact D47 p l
def inR(x lo hi:Int):Bool:=decide (lo<=x/\x<=hi)
theorem C52(x lo hi:Int):A1 Tryz.prog E9y [sI x,sI lo,sI hi] [] (sB (inR x lo hi)) []:=by
 refine en1 hm A4 Tryz.func86 rfl rfl ?_;simp only[go_sem];by_cases h:lo<=x
 ·simp only[h,if_true,inR,true_and]
 ·simp only[h,if_false,inR,false_and,decide_false]
theorem B7e(x lo hi:Int):A1 Tryz.prog E1l [sI x,sI lo,sI hi] [] (sB (inR x lo hi)) []:=by
 refine en1 hm A4 Tryz.func358 rfl rfl ?_;simp only[go_sem];by_cases h:lo<=x
 ·simp only[h,if_true,inR,true_and]
 ·simp only[h,if_false,inR,false_and,decide_false]
theorem I8(x lo hi:Int):A1 Tryz.prog D57 [sI x,sI lo,sI hi] [] (sB (inR x lo hi)) []:=by
 refine en1 hm A4 Tryz.func362 rfl rfl ?_;simp only[go_sem];by_cases h:lo<=x
 ·simp only[h,if_true,inR,true_and]
 ·simp only[h,if_false,inR,false_and,decide_false]
theorem C5w(x lo hi:Int):A1 Tryz.prog F4q [sI x,sI lo,sI hi] [] (sB (inR x lo hi)) []:=by
 refine en1 hm A4 Tryz.func41 rfl rfl ?_;simp only[go_sem];by_cases h:lo<=x
 ·simp only[h,if_true,inR,true_and]
 ·simp only[h,if_false,inR,false_and,decide_false]
theorem E5r(x lo hi:Int):A1 Tryz.prog F4p [sI x,sI lo,sI hi] [] (sB (inR x lo hi)) []:=by
 refine en1 hm A4 Tryz.func219 rfl rfl ?_;simp only[go_sem];by_cases h:lo<=x
 ·simp only[h,if_true,inR,true_and]
 ·simp only[h,if_false,inR,false_and,decide_false]
theorem O6(x lo hi:Int):A1 Tryz.prog E1y [sI x,sI lo,sI hi] [] (sB (inR x lo hi)) []:=by
 refine en1 hm A4 Tryz.func135 rfl rfl ?_;simp only[go_sem];by_cases h:lo<=x
 ·simp only[h,if_true,inR,true_and]
 ·simp only[h,if_false,inR,false_and,decide_false]
theorem E5q(x m:Int)(h0:0<=m)(h1:m<9223372036854775807):A1 Tryz.prog E3j [sI x,sI m] [] (sB (inR x (-m) m)) []:=by
 refine en1 hm A4 Tryz.func350 rfl rfl ?_;simp only[go_sem];have e:IntKind.i64.wrap (0-m)= -m:=by rw[IntKind.wrap_i64];omega
 rw[e];by_cases h: -m<=x
 ·simp only[h,if_true,inR,true_and]
 ·simp only[h,if_false,inR,false_and,decide_false]
theorem Q9(a b:Int):A1 Tryz.prog E6k [sI a,sI b] [] (sI (sat (sat a-sat b))) []:=by refine en1 hm A4 Tryz.func300 rfl rfl ?_;simp only[go_sem];refine A0 (J7 a) rfl ?_;simp only[go_sem];refine A0 (J7 b) rfl ?_;simp only[go_sem];refine A0 (J7 _) rfl ?_;simp only[go_sem];have:=S4 a;have:=S4 b;rw[show IntKind.i64.wrap (sat a-sat b)=sat a-sat b by rw[IntKind.wrap_i64];omega]
theorem E08(a b:Int):A1 Tryz.prog F10 [sI a,sI b] [] (sI (sat (sat a-sat b))) []:=by refine en1 hm A4 Tryz.func458 rfl rfl ?_;simp only[go_sem];refine A0 (A73 a) rfl ?_;simp only[go_sem];refine A0 (A73 b) rfl ?_;simp only[go_sem];refine A0 (A73 _) rfl ?_;simp only[go_sem];have:=S4 a;have:=S4 b;rw[show IntKind.i64.wrap (sat a-sat b)=sat a-sat b by rw[IntKind.wrap_i64];omega]
def M0(a b:Vec):Vec:=⟨sat (sat a.X-sat b.X),sat (sat a.Y-sat b.Y)⟩
theorem K6(a b:Vec):A1 Tryz.prog E9x [.agg a.enc, .agg b.enc] [] (.agg (M0 a b).enc) []:=by refine L5 16 [(4,some (some 2))] hm A4 Tryz.func272 rfl ?_;simp only[go_sem];refine A0 (Q9 a.X b.X) rfl ?_;simp only[go_sem];refine A0 (Q9 a.Y b.Y) rfl ?_;simp only[M0,go_sem]
theorem E09(a b:Vec):A1 Tryz.prog F11 [.agg a.enc, .agg b.enc] [] (.agg (M0 a b).enc) []:=by refine L5 16 [(4,some (some 2))] hm A4 Tryz.func351 rfl ?_;simp only[go_sem];refine A0 (E08 a.X b.X) rfl ?_;simp only[go_sem];refine A0 (E08 a.Y b.Y) rfl ?_;simp only[M0,go_sem]
theorem E82 {x y m n:Int}(h1: -m<=x)(h2:x<=m)(h3: -n<=y)(h4:y<=n): -(m*n)<=x*y/\x*y<=m*n:=by
 have hm:0<=m:=by omega
 have hn:0<=n:=by omega
 rcases Int.le_total 0 x with hx |hx <;> rcases Int.le_total 0 y with hy |hy
 ·have a:=Int.mul_le_mul h2 h4 hy hm;have b:=Int.mul_nonneg hx hy;omega
 ·have a:=Int.mul_le_mul h2 (show -y<=n by omega) (by omega) hm;have b:=Int.mul_nonneg hx (show 0<= -y by omega);rw[Int.mul_neg]at a b;omega
 ·have a:=Int.mul_le_mul (show -x<=m by omega) h4 hy hm;have b:=Int.mul_nonneg (show 0<= -x by omega) hy;rw[Int.neg_mul]at a b;omega
 ·have a:=Int.mul_le_mul (show -x<=m by omega) (show -y<=n by omega) (by omega) hm;have b:=Int.mul_nonneg (show 0<= -x by omega) (show 0<= -y by omega);rw[Int.neg_mul_neg]at a b;omega
def crs(a b c:Vec):Int:=(sat b.X-sat a.X)*(sat c.Y-sat a.Y)-(sat b.Y-sat a.Y)*(sat c.X-sat a.X)
def ori(a b c:Vec):Int:=if 0<crs a b c then 1 else if crs a b c<0 then -1 else 0
theorem E4e(a b c:Vec):IntKind.i64.wrap (IntKind.i64.wrap (IntKind.i64.wrap (sat b.X-sat a.X)*IntKind.i64.wrap (sat c.Y-sat a.Y))-IntKind.i64.wrap (IntKind.i64.wrap (sat b.Y-sat a.Y)*IntKind.i64.wrap (sat c.X-sat a.X)))=crs a b c:=by
 have h1:=S4 a.X;have h2:=S4 a.Y;have h3:=S4 b.X;have h4:=S4 b.Y;have h5:=S4 c.X;have h6:=S4 c.Y
 have w: ∀x y,-536870911<=x/\x<=536870911-> -536870911<=y/\y<=536870911->IntKind.i64.wrap (x-y)=x-y:=λx y _ _=>by rw[IntKind.wrap_i64];omega
 rw[w _ _ h3 h1,w _ _ h6 h2,w _ _ h4 h2,w _ _ h5 h1];have p1:=E82 (x:=sat b.X-sat a.X) (y:=sat c.Y-sat a.Y) (m:=1073741822) (n:=1073741822) (by omega) (by omega) (by omega) (by omega)
 have p2:=E82 (x:=sat b.Y-sat a.Y) (y:=sat c.X-sat a.X) (m:=1073741822) (n:=1073741822) (by omega) (by omega) (by omega) (by omega);unfold crs;generalize(sat b.X-sat a.X)*(sat c.Y-sat a.Y)=p at*;generalize(sat b.Y-sat a.Y)*(sat c.X-sat a.X)=q at*;simp only[IntKind.wrap_i64];omega
theorem A2p(a b c:Vec):A1 Tryz.prog C81 [.agg a.enc, .agg b.enc, .agg c.enc] [] (sI (ori a b c)) []:=by
 refine en1 hm A4 Tryz.func274 rfl rfl ?_;simp only[go_sem];refine A0 (A03 a) rfl ?_;simp only[go_sem];refine A0 (A03 b) rfl ?_;simp only[go_sem];refine A0 (A03 c) rfl ?_;simp only[B4n,E4e,go_sem];unfold ori
 (repeat' split) <;> omega
theorem D22(a b c:Vec):A1 Tryz.prog D2g [.agg a.enc, .agg b.enc, .agg c.enc] [] (sI (ori a b c)) []:=by
 refine en1 hm A4 Tryz.func460 rfl rfl ?_;simp only[go_sem];refine A0 (A9o a) rfl ?_;simp only[go_sem];refine A0 (A9o b) rfl ?_;simp only[go_sem];refine A0 (A9o c) rfl ?_;simp only[B4n,E4e,go_sem];unfold ori
 (repeat' split) <;> omega
def A7x(v:Vec):Bool:=decide (-1048576<=v.X/\v.X<=1048576/\ -1048576<=v.Y/\v.Y<=1048576)
theorem D21(v:Vec):A1 Tryz.prog D2f [.agg v.enc] [] (sB (A7x v)) []:=by
 refine en1 hm A4 Tryz.func540 rfl rfl ?_;simp only[go_sem];unfold A7x;rw[Bool.eq_iff_iff]
 (repeat' split) <;> simp_all <;> omega
theorem E2n(v:Vec):A1 Tryz.prog E1w [.agg v.enc] [] (sB (A7x v)) []:=by
 refine en1 hm A4 Tryz.func459 rfl rfl ?_;simp only[go_sem];unfold A7x;rw[Bool.eq_iff_iff]
 (repeat' split) <;> simp_all <;> omega
def A1n(n d:Int):Int:=if d<1\/d>4611686018427387904\/n < -4611686018427387904\/n>4611686018427387904 then 0 else
 if n.tmod d>=d-n.tmod d then n.tdiv d+1 else if -(n.tmod d)>=d+n.tmod d then n.tdiv d-1 else n.tdiv d
theorem E56 {n d:Int}(h1:1<=d)(h2: -4611686018427387904<=n)(h3:n<=4611686018427387904): -4611686018427387904<=n.tdiv d/\n.tdiv d<=4611686018427387904/\ -d<n.tmod d/\n.tmod d<d:=by
 have a:=Int.tmod_lt_of_pos n (show 0<d by omega)
 have b:=Int.lt_tmod_of_pos n (show 0<d by omega)
 have e:=Int.mul_tdiv_add_tmod n d
 have hd:(n.tdiv d).natAbs<=n.natAbs:=by rw[Int.natAbs_tdiv];exact Nat.div_le_self _ _
 omega
theorem P9(n d:Int):A1 Tryz.prog D35 [sI n,sI d] [] (sI (A1n n d)) []:=by
 refine en1 hm A4 Tryz.func415 rfl rfl ?_;simp only[go_sem];unfold A1n;by_cases hc:d<1\/d>4611686018427387904\/n < -4611686018427387904\/n>4611686018427387904
 ·rw[if_pos hc,if_pos (by(repeat' split) <;> simp <;> omega)]
 ·rw[if_neg hc,if_neg (by(repeat' split) <;> simp <;> omega)];obtain⟨h1,h2,h3,h4⟩:=E56 (n:=n) (d:=d) (by omega) (by omega) (by omega);have e1:IntKind.i64.wrap (n.tdiv d)=n.tdiv d:=by rw[IntKind.wrap_i64];omega
  rw[e1];have e2:IntKind.i64.wrap (d-n.tmod d)=d-n.tmod d:=by rw[IntKind.wrap_i64];omega
  have e3:IntKind.i64.wrap (d+n.tmod d)=d+n.tmod d:=by rw[IntKind.wrap_i64];omega
  have e4:IntKind.i64.wrap (0-n.tmod d)= -n.tmod d:=by rw[IntKind.wrap_i64];omega
  rw[e2,e3,e4];refine⟨by omega,by omega,?_⟩;split
  ·rw[IntKind.wrap_i64];omega
  ·split
   ·rw[IntKind.wrap_i64];omega
   ·rfl
theorem F3y {n d:Int}(h1:1<=d)(h2:d<=4611686018427387904)(h3: -4611686018427387904<=n)(h4:n<=4611686018427387904):
  A1n n d=if n.tmod d>=d-n.tmod d then n.tdiv d+1 else if -(n.tmod d)>=d+n.tmod d then n.tdiv d-1 else n.tdiv d:=if_neg (by omega)
theorem F6k {n d q r:Int}(h1:1<=d)(h2:d<=4611686018427387904)(h3: -4611686018427387904<=n)(h4:n<=4611686018427387904)(hq:q=(if n<0 then -n else n).tdiv d)(hr:r=(if n<0 then -n else n).tmod d):
  (if n<0 then -(if r>=d-r then q+1 else q)else(if r>=d-r then q+1 else q))=A1n n d:=by
 rw[F3y h1 h2 h3 h4];by_cases h:n<0
 ·rw[if_pos h]at hq hr⊢;rw[Int.neg_tdiv]at hq;rw[Int.neg_tmod]at hr;have hs:n.tmod d<=0:=by
   have:=Int.tmod_nonneg d (show 0<= -n by omega);rw[Int.neg_tmod]at this;omega
  rw[if_neg (c:=n.tmod d>=d-n.tmod d) (by omega)];subst hq;subst hr;split <;> split <;> omega
 ·rw[if_neg h]at hq hr⊢;have hs:=Int.tmod_nonneg d (show 0<=n by omega);subst hq;subst hr;rw[if_neg (c:= -n.tmod d>=d+n.tmod d) (by omega)]
theorem G1p {m d:Int}:m-m.tdiv d*d=m.tmod d:=by have:=Int.mul_tdiv_add_tmod m d;rw[Int.mul_comm]at this;omega
theorem C3z(n d:Int):A1 Tryz.prog D8l [sI n,sI d] [] (sI (A1n n d)) []:=by
 refine en1 hm A4 Tryz.func462 rfl rfl ?_;simp only[go_sem];refine A0 (B2v d) rfl ?_;simp only[go_sem];refine A0 (B2v n) rfl ?_;simp only[go_sem];by_cases hc:d<1\/d>4611686018427387904\/n < -4611686018427387904\/n>4611686018427387904
 ·rw[if_pos (by(repeat' split) <;> simp <;> omega)];unfold A1n;rw[if_pos hc]
 ·rw[if_neg (by(repeat' split) <;> simp <;> omega)];have hg:=λq r=>F6k (n:=n) (d:=d) (q:=q) (r:=r) (by omega) (by omega) (by omega) (by omega)
  have key: ∀m:Int,0<=m->m<=4611686018427387904->IntKind.i64.wrap (m.tdiv d)=m.tdiv d/\IntKind.i64.wrap (m-IntKind.i64.wrap (m.tdiv d*d))=m.tmod d/\IntKind.i64.wrap (d-m.tmod d)=d-m.tmod d/\IntKind.i64.wrap (m.tdiv d+1)=m.tdiv d+1/\
    IntKind.i64.wrap (0-(m.tdiv d+1))= -(m.tdiv d+1)/\IntKind.i64.wrap (0-m.tdiv d)= -m.tdiv d:=λm h0 h1=>by
   obtain⟨a1,a2,a3,a4⟩:=E56 (n:=m) (d:=d) (by omega) (by omega) (by omega);have e:m-m.tdiv d*d=m.tmod d:=G1p
   have e2:IntKind.i64.wrap (m.tdiv d*d)=m.tdiv d*d:=by have:=Int.tmod_nonneg d h0;generalize m.tdiv d*d=z at*;rw[IntKind.wrap_i64];omega
   rw[e2,e];simp only[IntKind.wrap_i64];refine⟨?_,?_,?_,?_,?_,?_⟩ <;> omega
  by_cases hn:n<0
  ·have hm:IntKind.i64.wrap (0-n)= -n:=by rw[IntKind.wrap_i64];omega
   obtain⟨k1,k2,k3,k4,k5,k6⟩:=key (-n) (by omega) (by omega);have h:=hg _ _ rfl rfl;simp only[hn,if_true]at h⊢;rw[<-h];simp only[hm,k1,k2,k3,k4,k5,k6];refine⟨by omega,?_⟩;split <;> rfl
  ·obtain⟨k1,k2,k3,k4,k5,k6⟩:=key n (by omega) (by omega);have h:=hg _ _ rfl rfl;simp only[hn,if_false]at h⊢;rw[<-h];simp only[k1,k2,k3,k4];refine⟨by omega,?_⟩;split <;> rfl
def C16(n:Nat)(acc:List Int)(i:Int):List Int:=if(0<=i/\i<n)/\ ¬(acc.any λy=>i==y)=true then acc++ [i]else acc
def B0a(l:List Int)(n:Nat):List Int:=l.foldl (C16 n) []
theorem E0s {l:List Int}{n k:Nat}(h:k<l.length):B0a (l.take (k+1)) n=C16 n (B0a (l.take k) n) (l.getD k 0):=by rw[K9 0 h];simp[B0a]
theorem F5k(n:Nat)(acc:List Int)(i:Int):(C16 n acc i).length<=acc.length+1:=by unfold C16;split <;> simp
theorem C5b(l:List Int)(n:Nat):(B0a l n).length<=l.length:=by
 have: ∀(l acc:List Int),(l.foldl (C16 n) acc).length<=acc.length+l.length:=by
  intro l;induction l with
  |nil=>intro acc;simp
  |cons a l ih=>intro acc;have:=ih (C16 n acc a);have:=F5k n acc a;simp only[List.foldl_cons,List.length_cons];omega
 simpa[B0a]using this l []
theorem F5l {l:List Int}{n:Nat}{i:Int}:i∈B0a l n↔i∈l/\0<=i/\i<n:=by
 have: ∀(l acc:List Int),i∈l.foldl (C16 n) acc↔i∈acc\/(i∈l/\0<=i/\i<n):=by
  intro l;induction l with
  |nil=>intro acc;simp
  |cons a l ih=>
   intro acc;rw[List.foldl_cons,ih];unfold C16;split
   ·rename_i h;simp only[List.mem_append,List.mem_cons,List.not_mem_nil,or_false];constructor
    ·rintro((h1 |rfl) |h1)
     ·exact .inl h1
     ·exact .inr ⟨.inl rfl,h.1⟩
     ·exact .inr ⟨.inr h1.1,h1.2⟩
    ·rintro(h1 |⟨rfl |h1,h2⟩)
     ·exact .inl (.inl h1)
     ·exact .inl (.inr rfl)
     ·exact .inr ⟨h1,h2⟩
   ·rename_i h;simp only[List.mem_cons];constructor
    ·rintro(h1 |h1)
     ·exact .inl h1
     ·exact .inr ⟨.inr h1.1,h1.2⟩
    ·rintro(h1 |⟨rfl |h1,h2⟩)
     ·exact .inl h1
     ·left;have:(acc.any λy=>i==y)=true:=Classical.byContradiction λhh=>h ⟨h2,hh⟩;rw[List.any_eq_true]at this;obtain⟨y,hy,e⟩:=this;rw[beq_iff_eq]at e;rwa[e]
     ·exact .inr ⟨h1,h2⟩
 simpa[B0a]using this l []
def E4t(w:Api.World)(x:B1)(n:Nat):List AV:= [sI w.Settings.TimeStep,sI w.Settings.Gravity.X,sI w.Settings.Gravity.Y,sI w.Settings.Iterations,sI w.Settings.SleepSteps,
 .sl 1 0 w.Bodies.length w.Bodies.length, .sl 2 0 w.Joints.length w.Joints.length, .sl 3 0 w.Contacts.length w.Contacts.length, .sl 4 0 w.Overlaps.length w.Overlaps.length,sI w.NextID,sI w.Frame,
 A2 1 B9 0 x.Bodies,A2 1 B9 0 x.Contacts,A2 1 B9 0 x.Joints, .sl 5 0 n n]
def A5z(w:Api.World)(x:B1)(l:List Int):List (Nat×A5):=(6, .box (E4t w x l.length))::(5, .arr 1 (A8 B9 0 l))::B2j w 1 2 3 4
attribute [go_sem] E4t A5z
def Ism(x:B1):Prop:=x.Bodies.length<=1048576/\x.Contacts.length<=1048576/\x.Joints.length<=1048576
theorem B2w(w:Api.World)(x:B1)(hw:Wsm w)(hx:Ism x):A1 Tryz.prog D4h [.agg w.enc, .agg x.enc] [] (.ptr 6 0 0 1) (A5z w x (B0a x.Bodies w.Bodies.length)):=by
 have hx1:=hx.1;refine H8 hm A4 Tryz.func161 rfl rfl ?_;simp only[go_sem];refine E3 [true] [] (A57 w hw) (by simp) (by simp[go_sem]) (by simp[go_sem]) (by simp) ?_;simp only[go_sem];refine B0 hm (ι:= {i:Nat // i<=x.Bodies.length}) (λi=> [(2, .share, .ptr 48 0 0 1),(3, .share, .ptr 64 0 0 1),(5, .share, .ptr 6 0 0 1),(14, .share,A2 1 B9 0 x.Bodies),(15, .share,sI x.Bodies.length),(16, .share,sI i.1)])
  (λi=>(48, .box w.enc)::(64, .box x.enc)::A5z w x (B0a (x.Bodies.take i.1) w.Bodies.length)) (λi=>x.Bodies.length-i.1) ⟨0,by omega⟩ ?_ ?_
 ·refine D7 [(6,208)] [5] ?_;simp only[go_sem];rfl
 ·rintro⟨i,hi⟩;have hn:=C5b (x.Bodies.take i) w.Bodies.length
  have hn:(B0a (x.Bodies.take i) w.Bodies.length).length<=1048576:=by have:=hx.1;simp at hn;omega
  simp only[go_sem];split
  ·rename_i hlt;have hlt:i<x.Bodies.length:=by omega
   refine⟨ok_,?_⟩;refine A5i (C34 (B0a (x.Bodies.take i) w.Bodies.length) (x.Bodies.getD i 0) hn) rfl (by simp only[A07,go_sem]) ?_;simp only[go_sem];by_cases hc:(0<=x.Bodies.getD i 0/\x.Bodies.getD i 0<(w.Bodies.length:Int))/\ ¬((B0a (x.Bodies.take i) w.Bodies.length).any λy=>x.Bodies.getD i 0==y)=true
   ·have he:B0a (x.Bodies.take (i+1)) w.Bodies.length=B0a (x.Bodies.take i) w.Bodies.length++ [x.Bodies.getD i 0]:=by
     rw[E0s hlt];unfold C16;rw[if_pos hc]
    rw[if_pos (by obtain⟨⟨c1,c2⟩,c3⟩:=hc;rw[if_pos c1,decide_eq_true c2,Bool.eq_false_iff.2 c3];rfl)];refine⟨ok_,?_⟩;refine A7 ⟨i+1,by omega⟩ (by show x.Bodies.length-(i+1)<x.Bodies.length-i;omega) (D7 [] [] ?_);simp only[go_sem,he,List.length_append,List.length_singleton];exact⟨(by rw[IntKind.wrap_i64];omega),A1q (x.Bodies.getD i 0) rfl rfl⟩
   ·have he:B0a (x.Bodies.take (i+1)) w.Bodies.length=B0a (x.Bodies.take i) w.Bodies.length:=by
     rw[E0s hlt];unfold C16;rw[if_neg hc]
    rw[if_neg (by
     intro h;apply hc;rw[Bool.and_eq_true,Bool.not_eq_true']at h;obtain⟨h1,h2⟩:=h;by_cases c1:0<=x.Bodies.getD i 0
     ·rw[if_pos c1]at h1;exact⟨⟨c1,of_decide_eq_true h1⟩,Bool.eq_false_iff.1 h2⟩
     ·rw[if_neg c1]at h1;cases h1)]
    refine A7 ⟨i+1,by omega⟩ (by show x.Bodies.length-(i+1)<x.Bodies.length-i;omega) (D7 [] [] ?_);simp only[go_sem,he];exact(by rw[IntKind.wrap_i64];omega)
  ·rename_i hge;obtain rfl:i=x.Bodies.length:=by omega
   refine C8 [.share] [] [] rfl rfl (by simp[go_sem]) (by simp[A6,go_sem]) (by simp[go_sem]) ?_;simp only[go_sem,List.take_length]
theorem B0e(w:Api.World)(x:B1)(l:List Int):okO (A5z w x l):=by refine⟨by simp[go_sem],?_⟩;simp[go_sem,F4,AV.ids]
def B30(w:Api.World)(i:Int):Body:=w.Bodies.getD i.toNat default
theorem C5x(w:Api.World)(x:B1)(l:List Int)(b:Body):A1 Tryz.prog B3n [.ptr 6 0 0 1, .agg b.enc] (A5z w x l) (sB (!b.Asleep)) (A5z w x l):=by refine H8 hm A4 Tryz.func260 rfl rfl ?_;simp only[go_sem];refine C8 [.share] [] [] rfl rfl (by simp[go_sem]) (by simp[A6,go_sem]) (by simp[go_sem]) ?_;simp only[go_sem]
theorem C2m(w:Api.World)(x:B1)(l:List Int)(b:Body):A1 Tryz.prog B1l [.ptr 6 0 0 1, .agg b.enc] (A5z w x l) (sB (decide (b.IdleSteps<w.Settings.SleepSteps))) (A5z w x l):=by refine H8 hm A4 Tryz.func200 rfl rfl ?_;simp only[go_sem];refine C8 [.share] [] [] rfl rfl (by simp[go_sem]) (by simp[A6,go_sem]) (by simp[go_sem]) ?_;simp only[go_sem]
def D41(b:Body):Bool:=(b.Kind==2)&&(!(b.Velocity.X==0&&b.Velocity.Y==0)||b.AngularVelocity != 0)
theorem C5z(w:Api.World)(x:B1)(l:List Int)(b:Body):A1 Tryz.prog C4t [.ptr 6 0 0 1, .agg b.enc] (A5z w x l) (sB (D41 b)) (A5z w x l):=by
 refine H8 hm A4 Tryz.func331 rfl rfl ?_;simp only[go_sem];cases hk:b.Kind==2 with
 |true=>simp only[go_sem];refine C8 [.share] [] [] rfl rfl (by simp[go_sem]) (by simp[A6,go_sem]) (by simp[go_sem]) ?_;simp only[go_sem];simp only[D41,hk,Bool.true_and]
 |false=>simp only[go_sem];refine C8 [.share] [] [] rfl rfl (by simp[go_sem]) (by simp[A6,go_sem]) (by simp[go_sem]) ?_;simp only[go_sem];simp only[D41,hk,Bool.false_and]
def E31(w:Api.World)(x:B1)(l:List Int)(f:FuncId):List (Nat×A5):=(48, .box [.ptr 6 0 0 1])::(64, .box [.fn (.func f) [.ptr 6 0 0 1] []])::A5z w x l
attribute [go_sem] E31
theorem E5b(w:Api.World)(x:B1)(l:List Int)(f:FuncId):okO (E31 w x l f):=by refine⟨by simp[go_sem],?_⟩;simp[go_sem,F4,AV.ids]
theorem C5y(w:Api.World)(x:B1)(l:List Int)(f:FuncId)(p:Body->Bool)(hp: ∀b:Body,A1 Tryz.prog f [.ptr 6 0 0 1, .agg b.enc] (A5z w x l) (sB (p b)) (A5z w x l))
  (i:Int)(h0:0<=i)(h1:i<w.Bodies.length):A1 Tryz.prog B3o [sI i, .ptr 64 0 0 1, .ptr 48 0 0 1] (E31 w x l f) (sB (p (B30 w i))) (E31 w x l f):=by
 refine H8 hm A4 Tryz.func329 rfl rfl ?_;simp only[go_sem];refine⟨⟨h0,h1⟩,?_⟩;refine A1k (hp (B30 w i)) (B0e w x l) (by simp[go_sem]) (by simp[go_sem,AV.ids]) rfl ?_;simp only[go_sem];refine C8 [.share] [] [] rfl rfl (by simp[go_sem]) (by simp[A6,go_sem]) (by simp[go_sem]) ?_;simp only[go_sem]
theorem B7q(w:Api.World)(x:B1)(l:List Int)(f:FuncId)(p:Body->Bool)(hp: ∀b:Body,A1 Tryz.prog f [.ptr 6 0 0 1, .agg b.enc] (A5z w x l) (sB (p b)) (A5z w x l))
  (hl:l.length<=1048576)(hi: ∀i∈l,0<=i/\i<w.Bodies.length):A1 Tryz.prog D2n [.ptr 6 0 0 1, .fn (.func f) [.ptr 6 0 0 1] []] (A5z w x l) (sB (l.any λi=>p (B30 w i))) (A5z w x l):=by
 refine H8 hm A4 Tryz.func199 rfl rfl ?_;simp only[go_sem];refine A1k (B4y 5 l B3o [] [.ptr 64 0 0 1, .ptr 48 0 0 1] (E31 w x l f) (λi=>p (B30 w i)) (by omega) (E5b w x l f) (by simp[go_sem]) (by simp[go_sem,AV.ids]) (λi hm=>C5y w x l f p hp i (hi i hm).1 (hi i hm).2)) (E5b w x l f) (by simp[go_sem]) (by simp[go_sem,AV.ids]) rfl ?_;simp only[go_sem];refine C8 [.share] [] [] rfl rfl (by simp[go_sem]) (by simp[A6,go_sem]) (by simp[go_sem]) ?_;simp only[go_sem]
def A48 {α:Type}(d:α)(p:α->Bool)(l:List α):Int:=match(List.range l.length).find? (λi=>p (l.getD i d))with |some i=>i |none=> -1
theorem A86 {α:Type}{d:α}{p:α->Bool}{l:List α}{i:Nat}(hi:i<l.length)(h: ∀j,j<i->p (l.getD j d)=false)(hp:p (l.getD i d)=true):A48 d p l=i:=by
 have:(List.range l.length).find? (λi=>p (l.getD i d))=some i:=by rw[List.find?_range_eq_some];exact⟨hp,by simpa using hi,λj hj=>by simp only[h j hj,Bool.not_false]⟩
 unfold A48;rw[this]
theorem A4j {α:Type}{d:α}{p:α->Bool}{l:List α}(h: ∀j,j<l.length->p (l.getD j d)=false):A48 d p l= -1:=by
 have:(List.range l.length).find? (λi=>p (l.getD i d))=none:=by rw[List.find?_range_eq_none];exact λj hj=>by simp only[h j hj,Bool.not_false]
 unfold A48;rw[this]
theorem E8v {α:Type}{d:α}{p:α->Bool}{l:List α}: -1<=A48 d p l/\(A48 d p l)<l.length:=by
 unfold A48;cases hf:(List.range l.length).find? (λi=>p (l.getD i d))with
 |none=>simp;omega
 |some i=>have:=List.mem_of_find?_eq_some hf;rw[List.mem_range]at this;simp;omega
theorem C0e(l:List Body)(f:FuncId)(first cap:List AV)(O:List (Nat×A5))(p:Body->Bool)(hl:l.length<=1048576)(hO:okO O)
  (hids: ∀i∈(AV.fn (.func f) first cap).ids,(ofL O i).isSome)
  (hp: ∀x∈l,A1 Tryz.prog f (first++ [.agg x.enc]++cap) O (sB (p x)) O):
  A1 Tryz.prog B94 [A2 20 Body.enc default l, .fn (.func f) first cap] O (sI (A48 default p l)) O:=by
 have hren:(AV.fn (.func f) first cap).ren id= .fn (.func f) first cap:=AV.ren_id _
 have hargs: ∀x:Body,∀a∈first++ [.agg x.enc]++cap,∀i∈a.ids,(ofL O i).isSome:=λx a ha i hi=>by
  simp only[List.mem_append,List.mem_singleton]at ha;refine hids i ?_;simp only[AV.ids,List.mem_append];rcases ha with(ha |rfl) |ha
  ·obtain⟨k,hk⟩:=List.getElem?_of_mem ha;exact .inl (N3 hk i hi)
  ·simp[AV.ids,go_sem]at hi
  ·obtain⟨k,hk⟩:=List.getElem?_of_mem ha;exact .inr (N3 hk i hi)
 refine H8 hm A4 Tryz.func232 rfl rfl ?_;simp only[go_sem];refine B0 hm (ι:= {i:Nat // i<=l.length/\ ∀j,j<i->p (l.getD j default)=false}) (λi=> [(0, .share,A2 20 Body.enc default l),(1, .share, .fn (.func f) first cap),(7, .share,sI l.length),(8, .share,sI i.1)])
  (λi=>O) (λi=>l.length-i.1) ⟨0,by omega,λj hj=>by omega⟩ ?_ ?_
 ·refine V9 hO rfl ?_;simp only[go_sem];exact⟨by rw[N1,N1],λi hi=>hids i hi⟩
 ·rintro⟨i,hi,hs⟩;simp only[go_sem];split
  ·rename_i hlt;have hlt:i<l.length:=by omega
   refine⟨ok_,?_⟩;have hx:A1 Tryz.prog f (first++ .agg (l.getD i default).enc::cap) O (sB (p (l.getD i default))) O:=by have:=hp (l.getD i default) (B7 default hlt);rwa[List.append_assoc]at this
   refine W0 hx hO rfl (λa ha=>hargs (l.getD i default) a (by rw[List.append_assoc];exact ha)) rfl ?_;simp only[go_sem];cases hpx:p (l.getD i default)with
   |true=>rw[if_pos rfl];refine R3 [.share] rfl rfl hO (U8 hO) ?_;simp only[go_sem];exact(A86 hlt hs hpx).symm
   |false=>rw[if_neg (by simp)];refine A7 ⟨i+1,by omega,λj hj=>by rcases Nat.lt_succ_iff_lt_or_eq.1 hj with h |rfl;exact hs j h;exact hpx⟩ (by show l.length-(i+1)<l.length-i;omega) (V9 hO (U8 hO) ?_);simp only[go_sem];exact⟨by rw[N1,N1],λi hi=>hids i hi,(by rw[IntKind.wrap_i64];omega)⟩
  ·rename_i hge;refine R3 [.share] rfl rfl hO rfl ?_;simp only[go_sem];exact(A4j λj hj=>hs j (by omega)).symm
def H7(w:Api.World)(id:Int):Int:=A48 default (λb:Body=>b.ID==id) w.Bodies
theorem G1s(id:Int):okO [(1, .box [sI id])]:=by refine⟨by simp[go_sem],?_⟩;simp[go_sem,F4,AV.ids]
theorem C7t(id:Int)(b:Body):A1 Tryz.prog B42 [.agg b.enc, .ptr 1 0 0 1] [(1, .box [sI id])] (sB (b.ID==id)) [(1, .box [sI id])]:=by refine H8 hm A4 Tryz.func233 rfl rfl ?_;simp only[go_sem];refine C8 [.share] [] [] rfl rfl (by simp[go_sem]) (by simp[A6,go_sem]) (by simp[go_sem]) ?_;simp only[go_sem]
theorem A2a(w:Api.World)(id:Int)(hw:w.Bodies.length<=1048576):A1 Tryz.prog D4l [.agg w.enc,sI id] [] (sI (H7 w id)) []:=by refine H8 hm A4 Tryz.func143 rfl rfl ?_;simp only[go_sem];refine E3 [true,true] [(1,64)] (C0e w.Bodies B42 [] [.ptr 1 0 0 1] [(1, .box [sI id])] (λb=>b.ID==id) hw (G1s id) (by simp[go_sem,AV.ids]) (λb _=>C7t id b)) (by simp) (by simp) (by simp) (by simp[go_sem]) ?_;simp only[go_sem];refine C8 [.share] [] [] rfl rfl (by simp[go_sem]) (by simp[A6,go_sem]) (by simp[go_sem]) ?_;simp only[go_sem];rfl
attribute [go_sem] Option.toList_none Option.toList_some
theorem B9c {α:Type}{d:α}(p:α->Bool)(l:List α):decide (0<=A48 d p l)=l.any p:=by
 cases h:l.any p with
 |true=>
  rw[List.any_eq_true]at h;obtain⟨x,hx,hp⟩:=h;obtain⟨k,hk,rfl⟩:=List.getElem_of_mem hx;unfold A48;cases hf:(List.range l.length).find? (λi=>p (l.getD i d))with
  |none=>rw[List.find?_range_eq_none]at hf;have:=hf k hk;simp[List.getD,hk,hp]at this
  |some i=>simp
 |false=>rw[List.any_eq_false]at h;rw[A4j λj hj=>by simpa using h _ (B7 d hj)];decide
theorem C2o(l:List Vec)(f:FuncId)(first cap:List AV)(O:List (Nat×A5))(p:Vec->Bool)(hl:l.length<=4194304)(hO:okO O)
  (hids: ∀i∈(AV.fn (.func f) first cap).ids,(ofL O i).isSome)
  (hp: ∀x∈l,A1 Tryz.prog f (first++ [.agg x.enc]++cap) O (sB (p x)) O):
  A1 Tryz.prog C1s [A2 2 Vec.enc default l, .fn (.func f) first cap] O (sI (A48 default p l)) O:=by
 have hren:(AV.fn (.func f) first cap).ren id= .fn (.func f) first cap:=AV.ren_id _
 have hargs: ∀x:Vec,∀a∈first++ [.agg x.enc]++cap,∀i∈a.ids,(ofL O i).isSome:=λx a ha i hi=>by
  simp only[List.mem_append,List.mem_singleton]at ha;refine hids i ?_;simp only[AV.ids,List.mem_append];rcases ha with(ha |rfl) |ha
  ·obtain⟨k,hk⟩:=List.getElem?_of_mem ha;exact .inl (N3 hk i hi)
  ·simp[AV.ids,go_sem]at hi
  ·obtain⟨k,hk⟩:=List.getElem?_of_mem ha;exact .inr (N3 hk i hi)
 refine H8 hm A4 Tryz.func481 rfl rfl ?_;simp only[go_sem];refine B0 hm (ι:= {i:Nat // i<=l.length/\ ∀j,j<i->p (l.getD j default)=false}) (λi=> [(0, .share,A2 2 Vec.enc default l),(1, .share, .fn (.func f) first cap),(7, .share,sI l.length),(8, .share,sI i.1)])
  (λi=>O) (λi=>l.length-i.1) ⟨0,by omega,λj hj=>by omega⟩ ?_ ?_
 ·refine V9 hO rfl ?_;simp only[go_sem];exact⟨by rw[N1,N1],λi hi=>hids i hi⟩
 ·rintro⟨i,hi,hs⟩;simp only[go_sem];split
  ·rename_i hlt;have hlt:i<l.length:=by omega
   refine⟨ok_,?_⟩;have hx:A1 Tryz.prog f (first++ .agg (l.getD i default).enc::cap) O (sB (p (l.getD i default))) O:=by have:=hp (l.getD i default) (B7 default hlt);rwa[List.append_assoc]at this
   refine W0 hx hO rfl (λa ha=>hargs (l.getD i default) a (by rw[List.append_assoc];exact ha)) rfl ?_;simp only[go_sem];cases hpx:p (l.getD i default)with
   |true=>rw[if_pos rfl];refine R3 [.share] rfl rfl hO (U8 hO) ?_;simp only[go_sem];exact(A86 hlt hs hpx).symm
   |false=>rw[if_neg (by simp)];refine A7 ⟨i+1,by omega,λj hj=>by rcases Nat.lt_succ_iff_lt_or_eq.1 hj with h |rfl;exact hs j h;exact hpx⟩ (by show l.length-(i+1)<l.length-i;omega) (V9 hO (U8 hO) ?_);simp only[go_sem];exact⟨by rw[N1,N1],λi hi=>hids i hi,(by rw[IntKind.wrap_i64];omega)⟩
  ·rename_i hge;refine R3 [.share] rfl rfl hO rfl ?_;simp only[go_sem];exact(A4j λj hj=>hs j (by omega)).symm
theorem B8g(l:List Vec)(f:FuncId)(first cap:List AV)(O:List (Nat×A5))(p:Vec->Bool)(hl:l.length<=4194304)(hO:okO O)
  (hids: ∀i∈(AV.fn (.func f) first cap).ids,(ofL O i).isSome)
  (hp: ∀x∈l,A1 Tryz.prog f (first++ [.agg x.enc]++cap) O (sB (p x)) O):
  A1 Tryz.prog B7z [A2 2 Vec.enc default l, .fn (.func f) first cap] O (sB (l.any p)) O:=by
 refine H8 hm A4 Tryz.func377 rfl rfl ?_;simp only[go_sem];refine W0 (C2o l f first cap O p hl hO hids hp) hO rfl ?_ rfl ?_
 ·intro a ha;simp only[List.mem_cons,List.not_mem_nil,or_false]at ha;rcases ha with rfl |rfl
  ·intro i hi;simp[AV.ids]at hi
  ·exact hids
 ·simp only[go_sem];refine R3 [.share] rfl rfl hO (U8 hO) ?_;simp only[go_sem];exact B9c p l
theorem A5w(l:List ContactPoint)(f:FuncId)(first cap:List AV)(O:List (Nat×A5))(p:ContactPoint->Bool)(hl:l.length<=4194304)(hO:okO O)
  (hids: ∀i∈(AV.fn (.func f) first cap).ids,(ofL O i).isSome)
  (hp: ∀x∈l,A1 Tryz.prog f (first++ [.agg x.enc]++cap) O (sB (p x)) O):
  A1 Tryz.prog B3j [A2 6 ContactPoint.enc default l, .fn (.func f) first cap] O (sI (A48 default p l)) O:=by
 have hren:(AV.fn (.func f) first cap).ren id= .fn (.func f) first cap:=AV.ren_id _
 have hargs: ∀x:ContactPoint,∀a∈first++ [.agg x.enc]++cap,∀i∈a.ids,(ofL O i).isSome:=λx a ha i hi=>by
  simp only[List.mem_append,List.mem_singleton]at ha;refine hids i ?_;simp only[AV.ids,List.mem_append];rcases ha with(ha |rfl) |ha
  ·obtain⟨k,hk⟩:=List.getElem?_of_mem ha;exact .inl (N3 hk i hi)
  ·simp[AV.ids,go_sem]at hi
  ·obtain⟨k,hk⟩:=List.getElem?_of_mem ha;exact .inr (N3 hk i hi)
 refine H8 hm A4 Tryz.func255 rfl rfl ?_;simp only[go_sem];refine B0 hm (ι:= {i:Nat // i<=l.length/\ ∀j,j<i->p (l.getD j default)=false}) (λi=> [(0, .share,A2 6 ContactPoint.enc default l),(1, .share, .fn (.func f) first cap),(7, .share,sI l.length),(8, .share,sI i.1)])
  (λi=>O) (λi=>l.length-i.1) ⟨0,by omega,λj hj=>by omega⟩ ?_ ?_
 ·refine V9 hO rfl ?_;simp only[go_sem];exact⟨by rw[N1,N1],λi hi=>hids i hi⟩
 ·rintro⟨i,hi,hs⟩;simp only[go_sem];split
  ·rename_i hlt;have hlt:i<l.length:=by omega
   refine⟨ok_,?_⟩;have hx:A1 Tryz.prog f (first++ .agg (l.getD i default).enc::cap) O (sB (p (l.getD i default))) O:=by have:=hp (l.getD i default) (B7 default hlt);rwa[List.append_assoc]at this
   refine W0 hx hO rfl (λa ha=>hargs (l.getD i default) a (by rw[List.append_assoc];exact ha)) rfl ?_;simp only[go_sem];cases hpx:p (l.getD i default)with
   |true=>rw[if_pos rfl];refine R3 [.share] rfl rfl hO (U8 hO) ?_;simp only[go_sem];exact(A86 hlt hs hpx).symm
   |false=>rw[if_neg (by simp)];refine A7 ⟨i+1,by omega,λj hj=>by rcases Nat.lt_succ_iff_lt_or_eq.1 hj with h |rfl;exact hs j h;exact hpx⟩ (by show l.length-(i+1)<l.length-i;omega) (V9 hO (U8 hO) ?_);simp only[go_sem];exact⟨by rw[N1,N1],λi hi=>hids i hi,(by rw[IntKind.wrap_i64];omega)⟩
  ·rename_i hge;refine R3 [.share] rfl rfl hO rfl ?_;simp only[go_sem];exact(A4j λj hj=>hs j (by omega)).symm
theorem B1f(l:List ContactPoint)(f:FuncId)(first cap:List AV)(O:List (Nat×A5))(p:ContactPoint->Bool)(hl:l.length<=4194304)(hO:okO O)
  (hids: ∀i∈(AV.fn (.func f) first cap).ids,(ofL O i).isSome)
  (hp: ∀x∈l,A1 Tryz.prog f (first++ [.agg x.enc]++cap) O (sB (p x)) O):
  A1 Tryz.prog B09 [A2 6 ContactPoint.enc default l, .fn (.func f) first cap] O (sB (l.any p)) O:=by
 refine H8 hm A4 Tryz.func235 rfl rfl ?_;simp only[go_sem];refine W0 (A5w l f first cap O p hl hO hids hp) hO rfl ?_ rfl ?_
 ·intro a ha;simp only[List.mem_cons,List.not_mem_nil,or_false]at ha;rcases ha with rfl |rfl
  ·intro i hi;simp[AV.ids]at hi
  ·exact hids
 ·simp only[go_sem];refine R3 [.share] rfl rfl hO (U8 hO) ?_;simp only[go_sem];exact B9c p l
theorem B7h(l:List PairKey)(f:FuncId)(first cap:List AV)(O:List (Nat×A5))(p:PairKey->Bool)(hl:l.length<=4194304)(hO:okO O)
  (hids: ∀i∈(AV.fn (.func f) first cap).ids,(ofL O i).isSome)
  (hp: ∀x∈l,A1 Tryz.prog f (first++ [.agg x.enc]++cap) O (sB (p x)) O):
  A1 Tryz.prog B68 [A2 4 PairKey.enc default l, .fn (.func f) first cap] O (sI (A48 default p l)) O:=by
 have hren:(AV.fn (.func f) first cap).ren id= .fn (.func f) first cap:=AV.ren_id _
 have hargs: ∀x:PairKey,∀a∈first++ [.agg x.enc]++cap,∀i∈a.ids,(ofL O i).isSome:=λx a ha i hi=>by
  simp only[List.mem_append,List.mem_singleton]at ha;refine hids i ?_;simp only[AV.ids,List.mem_append];rcases ha with(ha |rfl) |ha
  ·obtain⟨k,hk⟩:=List.getElem?_of_mem ha;exact .inl (N3 hk i hi)
  ·simp[AV.ids,go_sem]at hi
  ·obtain⟨k,hk⟩:=List.getElem?_of_mem ha;exact .inr (N3 hk i hi)
 refine H8 hm A4 Tryz.func239 rfl rfl ?_;simp only[go_sem];refine B0 hm (ι:= {i:Nat // i<=l.length/\ ∀j,j<i->p (l.getD j default)=false}) (λi=> [(0, .share,A2 4 PairKey.enc default l),(1, .share, .fn (.func f) first cap),(7, .share,sI l.length),(8, .share,sI i.1)])
  (λi=>O) (λi=>l.length-i.1) ⟨0,by omega,λj hj=>by omega⟩ ?_ ?_
 ·refine V9 hO rfl ?_;simp only[go_sem];exact⟨by rw[N1,N1],λi hi=>hids i hi⟩
 ·rintro⟨i,hi,hs⟩;simp only[go_sem];split
  ·rename_i hlt;have hlt:i<l.length:=by omega
   refine⟨ok_,?_⟩;have hx:A1 Tryz.prog f (first++ .agg (l.getD i default).enc::cap) O (sB (p (l.getD i default))) O:=by have:=hp (l.getD i default) (B7 default hlt);rwa[List.append_assoc]at this
   refine W0 hx hO rfl (λa ha=>hargs (l.getD i default) a (by rw[List.append_assoc];exact ha)) rfl ?_;simp only[go_sem];cases hpx:p (l.getD i default)with
   |true=>rw[if_pos rfl];refine R3 [.share] rfl rfl hO (U8 hO) ?_;simp only[go_sem];exact(A86 hlt hs hpx).symm
   |false=>rw[if_neg (by simp)];refine A7 ⟨i+1,by omega,λj hj=>by rcases Nat.lt_succ_iff_lt_or_eq.1 hj with h |rfl;exact hs j h;exact hpx⟩ (by show l.length-(i+1)<l.length-i;omega) (V9 hO (U8 hO) ?_);simp only[go_sem];exact⟨by rw[N1,N1],λi hi=>hids i hi,(by rw[IntKind.wrap_i64];omega)⟩
  ·rename_i hge;refine R3 [.share] rfl rfl hO rfl ?_;simp only[go_sem];exact(A4j λj hj=>hs j (by omega)).symm
theorem B4x(l:List PairKey)(f:FuncId)(first cap:List AV)(O:List (Nat×A5))(p:PairKey->Bool)(hl:l.length<=4194304)(hO:okO O)
  (hids: ∀i∈(AV.fn (.func f) first cap).ids,(ofL O i).isSome)
  (hp: ∀x∈l,A1 Tryz.prog f (first++ [.agg x.enc]++cap) O (sB (p x)) O):
  A1 Tryz.prog B4w [A2 4 PairKey.enc default l, .fn (.func f) first cap] O (sB (l.any p)) O:=by
 refine H8 hm A4 Tryz.func146 rfl rfl ?_;simp only[go_sem];refine W0 (B7h l f first cap O p hl hO hids hp) hO rfl ?_ rfl ?_
 ·intro a ha;simp only[List.mem_cons,List.not_mem_nil,or_false]at ha;rcases ha with rfl |rfl
  ·intro i hi;simp[AV.ids]at hi
  ·exact hids
 ·simp only[go_sem];refine R3 [.share] rfl rfl hO (U8 hO) ?_;simp only[go_sem];exact B9c p l
theorem B9r(l:List Joint)(f:FuncId)(first cap:List AV)(O:List (Nat×A5))(p:Joint->Bool)(hl:l.length<=4194304)(hO:okO O)
  (hids: ∀i∈(AV.fn (.func f) first cap).ids,(ofL O i).isSome)
  (hp: ∀x∈l,A1 Tryz.prog f (first++ [.agg x.enc]++cap) O (sB (p x)) O):
  A1 Tryz.prog A9y [A2 24 Joint.enc default l, .fn (.func f) first cap] O (sI (A48 default p l)) O:=by
 have hren:(AV.fn (.func f) first cap).ren id= .fn (.func f) first cap:=AV.ren_id _
 have hargs: ∀x:Joint,∀a∈first++ [.agg x.enc]++cap,∀i∈a.ids,(ofL O i).isSome:=λx a ha i hi=>by
  simp only[List.mem_append,List.mem_singleton]at ha;refine hids i ?_;simp only[AV.ids,List.mem_append];rcases ha with(ha |rfl) |ha
  ·obtain⟨k,hk⟩:=List.getElem?_of_mem ha;exact .inl (N3 hk i hi)
  ·simp[AV.ids,go_sem]at hi
  ·obtain⟨k,hk⟩:=List.getElem?_of_mem ha;exact .inr (N3 hk i hi)
 refine H8 hm A4 Tryz.func333 rfl rfl ?_;simp only[go_sem];refine B0 hm (ι:= {i:Nat // i<=l.length/\ ∀j,j<i->p (l.getD j default)=false}) (λi=> [(0, .share,A2 24 Joint.enc default l),(1, .share, .fn (.func f) first cap),(7, .share,sI l.length),(8, .share,sI i.1)])
  (λi=>O) (λi=>l.length-i.1) ⟨0,by omega,λj hj=>by omega⟩ ?_ ?_
 ·refine V9 hO rfl ?_;simp only[go_sem];exact⟨by rw[N1,N1],λi hi=>hids i hi⟩
 ·rintro⟨i,hi,hs⟩;simp only[go_sem];split
  ·rename_i hlt;have hlt:i<l.length:=by omega
   refine⟨ok_,?_⟩;have hx:A1 Tryz.prog f (first++ .agg (l.getD i default).enc::cap) O (sB (p (l.getD i default))) O:=by have:=hp (l.getD i default) (B7 default hlt);rwa[List.append_assoc]at this
   refine W0 hx hO rfl (λa ha=>hargs (l.getD i default) a (by rw[List.append_assoc];exact ha)) rfl ?_;simp only[go_sem];cases hpx:p (l.getD i default)with
   |true=>rw[if_pos rfl];refine R3 [.share] rfl rfl hO (U8 hO) ?_;simp only[go_sem];exact(A86 hlt hs hpx).symm
   |false=>rw[if_neg (by simp)];refine A7 ⟨i+1,by omega,λj hj=>by rcases Nat.lt_succ_iff_lt_or_eq.1 hj with h |rfl;exact hs j h;exact hpx⟩ (by show l.length-(i+1)<l.length-i;omega) (V9 hO (U8 hO) ?_);simp only[go_sem];exact⟨by rw[N1,N1],λi hi=>hids i hi,(by rw[IntKind.wrap_i64];omega)⟩
  ·rename_i hge;refine R3 [.share] rfl rfl hO rfl ?_;simp only[go_sem];exact(A4j λj hj=>hs j (by omega)).symm
theorem B6t(l:List Joint)(f:FuncId)(first cap:List AV)(O:List (Nat×A5))(p:Joint->Bool)(hl:l.length<=4194304)(hO:okO O)
  (hids: ∀i∈(AV.fn (.func f) first cap).ids,(ofL O i).isSome)
  (hp: ∀x∈l,A1 Tryz.prog f (first++ [.agg x.enc]++cap) O (sB (p x)) O):
  A1 Tryz.prog B6c [A2 24 Joint.enc default l, .fn (.func f) first cap] O (sB (l.any p)) O:=by
 refine H8 hm A4 Tryz.func469 rfl rfl ?_;simp only[go_sem];refine W0 (B9r l f first cap O p hl hO hids hp) hO rfl ?_ rfl ?_
 ·intro a ha;simp only[List.mem_cons,List.not_mem_nil,or_false]at ha;rcases ha with rfl |rfl
  ·intro i hi;simp[AV.ids]at hi
  ·exact hids
 ·simp only[go_sem];refine R3 [.share] rfl rfl hO (U8 hO) ?_;simp only[go_sem];exact B9c p l
end Go.Abs
end
