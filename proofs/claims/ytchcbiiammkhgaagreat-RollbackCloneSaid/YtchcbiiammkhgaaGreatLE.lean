/- A part of the proof: what a function does, over abstract values and objects, and its ties to the model. -/
import Derived.Test.YtchcbiiammkhgaaGreatLD
import Derived.Shelf.SlSortCmp.NoneTotal
set_option linter.unusedSimpArgs false
set_option linter.unusedVariables false
set_option linter.unnecessarySimpa false
set_option maxRecDepth 100000
set_option maxHeartbeats 2000000
noncomputable section
namespace Go.Abs
open Go.Proofs Go.Shelf Go.RowKit Go.Lib Go.Sort
abbrev KEl(k:Nat):= {l:List Int // l.length=k}
instance(k:Nat):Inhabited (KEl k):=⟨⟨List.replicate k 0,p_⟩⟩
def A5h {k:Nat}(x:KEl k):List Value:=x.1.map (Value.int .i64)
def kav {k:Nat}(x:KEl k):List AV:=x.1.map λz=> .sc (.int .i64 z)
variable {k:Nat}
theorem D6o(x:KEl k):(A5h x).length=k:=by simp[A5h,x.2]
theorem E3w(x:KEl k):(kav x).length=k:=by simp[kav,x.2]
section
variable {P:Program} {G:Nat->Prop} {w:World} {ob:Place}
variable {av:AV} {j:Nat}
theorem D26 {x:KEl k}(h:(kav x)[j]? =some av): ∃z,av= .sc (.int .i64 z)/\(A5h x)[j]? =some (.int .i64 z):=by unfold kav at h;rw[qA,zh]at h;obtain⟨z,hz,rfl⟩:=h;exact⟨z,rfl,by simp[A5h,hz]⟩
theorem E37(x:KEl k):Rel G w ob (.agg (kav x)) (.agg (A5h x).toArray):=by
 refine .agg _ (by simp[kav,A5h]) (λj av hj=> ?_) (λj av hj=> ?_)
 ·obtain⟨z,rfl,_⟩:=D26 hj;rfl
 ·obtain⟨z,rfl,hv⟩:=D26 hj;have:(A5h x).toArray.getD j undef= .int .i64 z:=by simp[qO,hv]
  rw[this];exact .sc rfl
variable {w':World}
theorem E2x {w:World}(hs:w.heap.size<=w'.heap.size)(hh: ∀b,b<w.heap.size->w'.heap[b]? =w.heap[b]?)(ho:w'.os=w.os)(ht:w'.tape=w.tape)
  (hu:w'.output=w.output)(hd:w.drawn<=w'.drawn): ∃q os',w'=grow (w.drewN q) os':=by
 refine⟨w'.drawn-w.drawn,w'.heap.extract w.heap.size w'.heap.size,?_⟩;have h1:w'.heap=w.heap++w'.heap.extract w.heap.size w'.heap.size:=by
  apply Array.ext_getElem?;intro b;by_cases hb:b<w.heap.size
  ·rw[ye hb,hh b hb]
  ·rw[Array.getElem?_append_right o_,Array.getElem?_extract];by_cases hb':b<w'.heap.size
   ·rw[zc o_];congr 1;omega
   ·rw[zb o_,Array.getElem?_eq_none o_]
 have h2:w.drawn+(w'.drawn-w.drawn)=w'.drawn:=o_
 unfold grow World.drewN;cases w' with
 |mk heap tape drawn os output=>simp only at*;rw[<-h1,ho.symm,ht.symm,hu.symm,h2]
theorem E5b {g:FuncId}{cf:KEl k->KEl k->Int}(hg: ∀x y:KEl k,D5 P g [.agg (kav x), .agg (kav y)] [] (.sc (.int .i64 (cf x y))) [])(blk off size:Nat)(w:World):
  CmpLays P g #[] A5h k cf blk off size w:=by
 intro m os dk _ x y;generalize sortWorldK A5h k w blk off m dk os=W;have s0:E8 (λb=>b<W.heap.size) W (λ_=>none) (ofL []):= {dom:=λid=>(by simp[ofL,wrm]),inj:=λ_ _ _ _ _ h=>(by cases h),lt:=λ_ h=>h,own:=λ_ _ _ _ h=>(by cases h),sep:=λ_ _ _ _ _ _ h=>(by cases h)};refine((hg x y).2 (λb=>b<W.heap.size) W (λ_=>none) [.agg (A5h x).toArray, .agg (A5h y).toArray] s0 ⟨rfl,λj av hj=> ?_⟩).mono ?_
 ·cases j with
  |zero=>simp only[List.getElem?_cons_zero,za]at hj;subst hj;exact E37 x
  |succ j=>cases j with
   |zero=>simp only[List.getElem?_cons_succ,List.getElem?_cons_zero,za]at hj;subst hj;exact E37 y
   |succ j=>simp at hj
 ·rintro e w' ⟨v,G',ob',rfl,_,hr,f,_⟩;exact⟨by rw[hr.sc_eq],E2x f.size (λb hb=>f.same b hb (.inl hb)) f.os f.tape f.output f.drawn⟩
variable {s s':Sq}
theorem E08 {id:Nat}{i:L4}(hs:E8 G w ob (ofL [(id, .arr k s)]))(h:ob id=some i)(hn:s'.n=s.n)
  (hsz:w.heap.size<=w'.heap.size)(hh: ∀b,b<w.heap.size->i.blk≠some b->w'.heap[b]? =w.heap[b]?)(ho:P4 G w' ob i (.arr k s')):
  E8 G w' ob (ofL [(id, .arr k s')])/\ ∀b,G b->w'.heap[b]? =w.heap[b]? :=by
 have hm:ofL [(id,A7.arr k s)] id=some (.arr k s):=by simp[ofL,wrm]
 have hG: ∀b,G b->w'.heap[b]? =w.heap[b]? :=λb hb=>hh b (hs.lt b hb) λe=>hs.sep id _ i b hm rfl h (.inl e) hb
 have hup:upd ob id (some i)=ob:=A4b h
 have:=hs.update (w':=w') id (.arr k s') i hsz (λb hb hne=>hh b hb (hne i h)) (λj hj=>by rw[h]at hj;injection hj with hj;exact .inl hj)
  (λb hb=> .inl ⟨i,h,hb⟩) (λj hj b hb hGb=>hG b hGb) (by rw[hup];exact ho) (λ_ b hb=>hs.sep id _ i b hm rfl h (.inl hb)) (λo0 h0=>by rw[hm]at h0;cases h0;rfl)
 rw[hup]at this;refine⟨?_,hG⟩;have e:ofL [(id,A7.arr k s')]=upd (ofL [(id, .arr k s)]) id (some (.arr k s')):=by
  funext x;simp only[ofL,wrm,List.foldl_cons,List.foldl_nil];by_cases hx:x=id
  ·subst hx;simp
  ·rw[J0 hx,J0 hx,J0 hx]
 rw[e];exact this.1
theorem E6l {ρ:Ren}(L:SlLaysF0.n6 P ρ){k:Nat}(hk0:0<k)(hc:A3p P (ρ.f 6)=true)(aE: ∀w,(isAgg (ρ.t 24)).run P w= .ok true w)(zE: ∀w,(Go.sizeOf (ρ.t 24)).run P w= .ok k w)
  (cf:KEl k->KEl k->Int)(hO:SWO (ltOf cf)){g:FuncId}(eg: ∀args w,(callFunc g args).run P w= .ok (.enter g args) w)
  (hg: ∀x y:KEl k,D5 P g [.agg (kav x), .agg (kav y)] [] (.sc (.int .i64 (cf x y))) [])(id:Nat)(xs:Array (KEl k))(hsz:xs.size<4611686018427387904):
  D5 P (ρ.f 6) [.sl id 0 xs.size xs.size, .fn (.func g) [] []] [(id, .arr k ⟨xs.size,λi=>kav xs[i]!⟩)] (.tup [])
   [(id, .arr k ⟨xs.size,λi=>kav (pdq (ltOf cf) xs 0 xs.size (Lib.bitLen xs.size) true true)[i]!⟩)]:=by
 refine⟨hc,λG w ob vals hs hrl=> ?_⟩;obtain⟨v0,v1,rfl⟩: ∃v0 v1,vals= [v0,v1]:=by
  have:=hrl.1
  match vals,this with
  | [a,b],_=>exact⟨a,b,rfl⟩
 have r0:=hrl.2 0 _ rfl
 have r1:=hrl.2 1 _ rfl;simp only[yP,List.getD_cons_succ]at r0 r1;obtain rfl:v1= .func (.func g) #[] #[]:=by
  cases r1 with
  |fn vs us hn hm _ _=>
   have h1:vs= #[]:=qI hn
   have h2:us= #[]:=qI hm;rw[h1,h2]
 cases r0 with
 |sl i h hle hss hv=>
  have hm:ofL [(id,A7.arr k ⟨xs.size,λi=>kav xs[i]!⟩)] id=some (.arr k ⟨xs.size,λi=>kav xs[i]!⟩):=by simp[ofL,wrm]
  obtain⟨hk,he,hl,hcap,hb⟩:=hs.own id _ i hm h;obtain⟨a,c,rfl⟩:=hss;rcases yk xs.size with h0 |hpos
  ·have:=AnyF.slices_SortFunc_none (P:=P) (ρ:=ρ) {L with} a c (.func (.func g) #[] #[]) w
   rw[h0];refine this.mono ?_;rintro e w' ⟨rfl,rfl⟩;refine⟨.tuple #[],G,ob,rfl,?_, .tup #[] rfl (λj av hj=>by simp at hj),Fr.refl _ _ _,D4.refl ob⟩;refine(E08 hs h (s':=⟨0,_⟩) h0.symm (ze _) (λ_ _ _=>rfl) ⟨hk,he,by rw[hl];exact h0,zm _,?_⟩).1;rcases hb with⟨h1,_,h3⟩ |⟨b,arr,T,h1,h2,h3,h4⟩
   ·exact .inl ⟨h1,rfl,h3⟩
   ·exact .inr ⟨b,arr,T,h1,h2,h3,λj hj=>absurd hj p_,λj q av hj=>absurd hj p_⟩
  ·rcases hb with⟨_,h2,_⟩ |⟨b,arr,T,h1,h2,h3,h4,h5⟩
   ·simp only at h2;omega
   obtain⟨_,_,hs3⟩:=hv hl;obtain⟨o,c',he1,hlc,_,ho⟩:=hs3 b h1;obtain⟨rfl,_⟩:=ho rfl;injection he1 with he1 _ he2;subst he1;subst he2;have hbl:b<w.heap.size:=by
    rcases qq b w.heap.size with h |h
    ·exact h
    ·rw[Array.getElem?_eq_none h]at h2;cases h2
   have hzk:arr.size=i.cap*k:=by rw[h3,he]
   have hle':xs.size*k<=arr.size:=by rw[hzk];exact zw _ hcap
   have hH:HoldsK A5h k w b 0 xs:=by
    intro j hj;rw[size_flatK]at hj;have hj1:j / k<xs.size:=(yZ hk0).2 hj
    have hj2:j%k<k:=yF _ hk0;rw[get_flatK _ _ _ _ hj];obtain⟨av,hav⟩: ∃av,(kav xs[j / k]!)[j%k]? =some av:=⟨_,zg (by rw[E3w];exact hj2)⟩;obtain⟨z,rfl,hz⟩:=D26 hav;obtain⟨_,v,hv1,hv2⟩:=h5 (j / k) (j%k) _ hj1 hav;have hv3:=hv2.sc_eq;rw[he,Nat.div_add_mod' j k]at hv1;refine⟨?_,?_⟩
    ·simp only[World.cell?,h2,qk,Option.isSome_none,zf,zJ,id_eq,hv1,hv3];rw[List.getElem!_eq_getElem?_getD,hz];rfl
    ·simp[World.frozen?,h2]
   refine(AnyQ.slices_SortFunc_eq (P:=P) (ρ:=ρ) L k aE zE A5h D6o (λx v hv=>by simp only[A5h,qL]at hv;obtain⟨z,_,rfl⟩:=hv;rfl) cf hO g #[] b 0 c xs w eg (E5b hg b 0 xs.size w) hH hbl hsz).mono ?_;rintro e w' ⟨rfl,n,os,rfl⟩;have hps:(pdq (ltOf cf) xs 0 xs.size (Lib.bitLen xs.size) true true).size=xs.size:=(pdq_sorts (ltOf cf) hO xs 0 xs.size (Lib.bitLen xs.size) true true (zm _) (ze _) (Or.inl rfl)).1.1;generalize hd':pdq (ltOf cf) xs 0 xs.size (Lib.bitLen xs.size) true true=d' at*;have hsz':w.heap.size<=(sortWorldK A5h k w b 0 n d' os).heap.size:=by simp[sortWorldK,grow,putRowK,putRow,mapBlock,Sort.ahead]
   have hoth: ∀q,q<w.heap.size->i.blk≠some q->(sortWorldK A5h k w b 0 n d' os).heap[q]? =w.heap[q]? :=λq hq hne=>by have hne':b≠q:=λe=>hne (by rw[h1,e]);simp only[sortWorldK,grow,putRowK,putRow,mapBlock,Sort.ahead];rw[ye (by simpa using hq),yK,zb hne']
   have hat:(sortWorldK A5h k w b 0 n d' os).heap[b]? =some (.cells (putCells _root_.id 0 (flatK A5h k d') arr) T (0,0)):=by simp only[sortWorldK,grow,putRowK,putRow,mapBlock,Sort.ahead];rw[ye (by simpa using hbl),yK,zc rfl,h2];rfl
   obtain⟨s1,s2⟩:=E08 (w':=sortWorldK A5h k w b 0 n d' os) hs h (s':=⟨xs.size,λi=>kav d'[i]!⟩) rfl hsz' hoth
    ⟨hk,he,hl,hcap, .inr ⟨b,_,T,h1,hat,by simp[putCells,h3],λj hj=>by rw[he];exact E3w _,λj q av hj hq=>by
      obtain⟨z,rfl,hz⟩:=D26 hq;have hqk:q<k:=by
       rcases qq q k with h |h
       ·exact h
       ·rw[qi (by rw[D6o];exact h)]at hz;cases hz
      have hjk:j*k+q<d'.size*k:=by rw[hps];exact A2y hj hqk
      refine⟨rfl, .int .i64 z,?_, .sc rfl⟩;rw[he];have hlt:j*k+q<arr.size:=by rw[hps]at hjk;omega
      simp only[putCells,Array.getElem?_mapIdx,qh hlt,Option.map_some,zm,size_flatK,qk,hjk,yl,zL,Nat.sub_zero,id_eq];rw[get_flatK _ _ _ _ hjk,xf,Nat.add_mul_div_right _ _ hk0,Nat.div_eq_of_lt hqk,qk,Nat.add_mul_mod_self_right,yp hqk,List.getElem!_eq_getElem?_getD,hz];rfl⟩⟩
   refine⟨.tuple #[],G,ob,rfl,s1, .tup #[] rfl (λj av hj=>by simp at hj),Fr.of_heap hsz' (λq hq hc=> ?_) (λ_ h=> .inl h) rfl rfl rfl (by simp[sortWorldK,grow,putRowK,putRow,mapBlock,Sort.ahead]),D4.refl ob⟩;rcases hc with hc |hc
   ·exact s2 q hc
   ·exact hoth q hq λe=>hc ⟨id,i,h, .inl e⟩
end
end Go.Abs
end
noncomputable section
namespace Go.Abs
open Go.Sort Go.Proofs
def B8k(a b:Int):Int:=if a<b then -1 else if b<a then 1 else 0
theorem E5a(a b:Int):(a<b/\B8k a b= -1)\/(b<a/\B8k a b=1)\/(a=b/\B8k a b=0):=by
 unfold B8k;by_cases h1:a<b
 ·exact .inl ⟨h1,by rw[zc h1]⟩
 ·by_cases h2:b<a
  ·exact .inr (.inl ⟨h2,by rw[zb h1,zc h2]⟩)
  ·exact .inr (.inr ⟨o_,by rw[zb h1,zb h2]⟩)
end Go.Abs
end
