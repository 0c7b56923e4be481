/- A part of the proof: what a function does, over abstract values and objects, and its ties to the model. -/
import Derived.Test.YtchcbiiammkhgaaGreatLD
import Derived.Shelf.SlSortCmp.NoneTotal
set_option linter.unusedSimpArgs false
set_option linter.unusedVariables false
set_option linter.unnecessarySimpa false
set_option maxRecDepth 100000
set_option maxHeartbeats 2000000
noncomputable section
namespace Go.Abs
open Go.Proofs Go.Shelf Go.RowKit Go.Lib Go.Sort
abbrev KEl(k:Nat):= {l:List Int // l.length=k}
instance(k:Nat):Inhabited (KEl k):=⟨⟨List.replicate k 0,by simp⟩⟩
def A5c {k:Nat}(x:KEl k):List Value:=x.1.map (Value.int .i64)
def kav {k:Nat}(x:KEl k):List AV:=x.1.map λz=> .sc (.int .i64 z)
variable {k:Nat}
theorem E39(x:KEl k):(A5c x).length=k:=by simp[A5c,x.2]
theorem F14(x:KEl k):(kav x).length=k:=by simp[kav,x.2]
section
variable {P:Program} {G:Nat->Prop} {w:World} {ob:Place}
variable {av:AV} {j:Nat}
theorem E0n {x:KEl k}(h:(kav x)[j]? =some av): ∃z,av= .sc (.int .i64 z)/\(A5c x)[j]? =some (.int .i64 z):=by unfold kav at h;rw[List.getElem?_map,Option.map_eq_some_iff]at h;obtain⟨z,hz,rfl⟩:=h;exact⟨z,rfl,by simp[A5c,hz]⟩
theorem F2f(x:KEl k):Rel G w ob (.agg (kav x)) (.agg (A5c x).toArray):=by
 refine .agg _ (by simp[kav,A5c]) (λj av hj=> ?_) (λj av hj=> ?_)
 ·obtain⟨z,rfl,_⟩:=E0n hj;rfl
 ·obtain⟨z,rfl,hv⟩:=E0n hj;have:(A5c x).toArray.getD j undef= .int .i64 z:=by simp[Array.getD_eq_getD_getElem?,hv]
  rw[this];exact .sc rfl
variable {w':World}
theorem F02 {w:World}(hs:w.heap.size<=w'.heap.size)(hh: ∀b,b<w.heap.size->w'.heap[b]? =w.heap[b]?)(ho:w'.os=w.os)(ht:w'.tape=w.tape)
  (hu:w'.output=w.output)(hd:w.drawn<=w'.drawn): ∃q os',w'=grow (w.drewN q) os':=by
 refine⟨w'.drawn-w.drawn,w'.heap.extract w.heap.size w'.heap.size,?_⟩;have h1:w'.heap=w.heap++w'.heap.extract w.heap.size w'.heap.size:=by
  apply Array.ext_getElem?;intro b;by_cases hb:b<w.heap.size
  ·rw[Array.getElem?_append_left hb,hh b hb]
  ·rw[Array.getElem?_append_right (by omega),Array.getElem?_extract];by_cases hb':b<w'.heap.size
   ·rw[if_pos (by omega)];congr 1;omega
   ·rw[if_neg (by omega),Array.getElem?_eq_none (by omega)]
 have h2:w.drawn+(w'.drawn-w.drawn)=w'.drawn:=by omega
 unfold grow World.drewN;cases w' with
 |mk heap tape drawn os output=>simp only at*;rw[<-h1,ho.symm,ht.symm,hu.symm,h2]
theorem F3o {g:FuncId}{cf:KEl k->KEl k->Int}(hg: ∀x y:KEl k,D5 P g [.agg (kav x), .agg (kav y)] [] (.sc (.int .i64 (cf x y))) [])(blk off size:Nat)(w:World):
  CmpLays P g #[] A5c k cf blk off size w:=by
 intro m os dk _ x y;generalize sortWorldK A5c k w blk off m dk os=W;have s0:E9 (λb=>b<W.heap.size) W (λ_=>none) (ofL []):= {dom:=λid=>(by simp[ofL,wrm]),inj:=λ_ _ _ _ _ h=>(by cases h),lt:=λ_ h=>h,own:=λ_ _ _ _ h=>(by cases h),sep:=λ_ _ _ _ _ _ h=>(by cases h)};refine((hg x y).2 (λb=>b<W.heap.size) W (λ_=>none) [.agg (A5c x).toArray, .agg (A5c y).toArray] s0 ⟨rfl,λj av hj=> ?_⟩).mono ?_
 ·cases j with
  |zero=>simp only[List.getElem?_cons_zero,Option.some.injEq]at hj;subst hj;exact F2f x
  |succ j=>cases j with
   |zero=>simp only[List.getElem?_cons_succ,List.getElem?_cons_zero,Option.some.injEq]at hj;subst hj;exact F2f y
   |succ j=>simp at hj
 ·rintro e w' ⟨v,G',ob',rfl,_,hr,f,_⟩;exact⟨by rw[hr.sc_eq],F02 f.size (λb hb=>f.same b hb (.inl hb)) f.os f.tape f.output f.drawn⟩
variable {s s':Sq}
theorem E88 {id:Nat}{i:L0}(hs:E9 G w ob (ofL [(id, .arr k s)]))(h:ob id=some i)(hn:s'.n=s.n)
  (hsz:w.heap.size<=w'.heap.size)(hh: ∀b,b<w.heap.size->i.blk≠some b->w'.heap[b]? =w.heap[b]?)(ho:P3 G w' ob i (.arr k s')):
  E9 G w' ob (ofL [(id, .arr k s')])/\ ∀b,G b->w'.heap[b]? =w.heap[b]? :=by
 have hm:ofL [(id,A7.arr k s)] id=some (.arr k s):=by simp[ofL,wrm]
 have hG: ∀b,G b->w'.heap[b]? =w.heap[b]? :=λb hb=>hh b (hs.lt b hb) λe=>hs.sep id _ i b hm rfl h (.inl e) hb
 have hup:upd ob id (some i)=ob:=A4a h
 have:=hs.update (w':=w') id (.arr k s') i hsz (λb hb hne=>hh b hb (hne i h)) (λj hj=>by rw[h]at hj;injection hj with hj;exact .inl hj)
  (λb hb=> .inl ⟨i,h,hb⟩) (λj hj b hb hGb=>hG b hGb) (by rw[hup];exact ho) (λ_ b hb=>hs.sep id _ i b hm rfl h (.inl hb)) (λo0 h0=>by rw[hm]at h0;cases h0;rfl)
 rw[hup]at this;refine⟨?_,hG⟩;have e:ofL [(id,A7.arr k s')]=upd (ofL [(id, .arr k s)]) id (some (.arr k s')):=by
  funext x;simp only[ofL,wrm,List.foldl_cons,List.foldl_nil];by_cases hx:x=id
  ·subst hx;simp
  ·rw[J1 hx,J1 hx,J1 hx]
 rw[e];exact this.1
theorem F4t {ρ:Ren}(L:SlLaysF0.n6 P ρ){k:Nat}(hk0:0<k)(hc:A3o P (ρ.f 6)=true)(aE: ∀w,(isAgg (ρ.t 24)).run P w= .ok true w)(zE: ∀w,(Go.sizeOf (ρ.t 24)).run P w= .ok k w)
  (cf:KEl k->KEl k->Int)(hO:SWO (ltOf cf)){g:FuncId}(eg: ∀args w,(callFunc g args).run P w= .ok (.enter g args) w)
  (hg: ∀x y:KEl k,D5 P g [.agg (kav x), .agg (kav y)] [] (.sc (.int .i64 (cf x y))) [])(id:Nat)(xs:Array (KEl k))(hsz:xs.size<4611686018427387904):
  D5 P (ρ.f 6) [.sl id 0 xs.size xs.size, .fn (.func g) [] []] [(id, .arr k ⟨xs.size,λi=>kav xs[i]!⟩)] (.tup [])
   [(id, .arr k ⟨xs.size,λi=>kav (pdq (ltOf cf) xs 0 xs.size (Lib.bitLen xs.size) true true)[i]!⟩)]:=by
 refine⟨hc,λG w ob vals hs hrl=> ?_⟩;obtain⟨v0,v1,rfl⟩: ∃v0 v1,vals= [v0,v1]:=by
  have:=hrl.1
  match vals,this with
  | [a,b],_=>exact⟨a,b,rfl⟩
 have r0:=hrl.2 0 _ rfl
 have r1:=hrl.2 1 _ rfl;simp only[List.getD_cons_zero,List.getD_cons_succ]at r0 r1;obtain rfl:v1= .func (.func g) #[] #[]:=by
  cases r1 with
  |fn vs us hn hm _ _=>
   have h1:vs= #[]:=Array.eq_empty_of_size_eq_zero hn
   have h2:us= #[]:=Array.eq_empty_of_size_eq_zero hm;rw[h1,h2]
 cases r0 with
 |sl i h hle hss hv=>
  have hm:ofL [(id,A7.arr k ⟨xs.size,λi=>kav xs[i]!⟩)] id=some (.arr k ⟨xs.size,λi=>kav xs[i]!⟩):=by simp[ofL,wrm]
  obtain⟨hk,he,hl,hcap,hb⟩:=hs.own id _ i hm h;obtain⟨a,c,rfl⟩:=hss;rcases Nat.eq_zero_or_pos xs.size with h0 |hpos
  ·have:=AnyF.slices_SortFunc_none (P:=P) (ρ:=ρ) {L with} a c (.func (.func g) #[] #[]) w
   rw[h0];refine this.mono ?_;rintro e w' ⟨rfl,rfl⟩;refine⟨.tuple #[],G,ob,rfl,?_, .tup #[] rfl (λj av hj=>by simp at hj),Fr.refl _ _ _,D4.refl ob⟩;refine(E88 hs h (s':=⟨0,_⟩) h0.symm (Nat.le_refl _) (λ_ _ _=>rfl) ⟨hk,he,by rw[hl];exact h0,Nat.zero_le _,?_⟩).1;rcases hb with⟨h1,_,h3⟩ |⟨b,arr,T,h1,h2,h3,h4⟩
   ·exact .inl ⟨h1,rfl,h3⟩
   ·exact .inr ⟨b,arr,T,h1,h2,h3,λj hj=>absurd hj (by simp),λj q av hj=>absurd hj (by simp)⟩
  ·rcases hb with⟨_,h2,_⟩ |⟨b,arr,T,h1,h2,h3,h4,h5⟩
   ·simp only at h2;omega
   obtain⟨_,_,hs3⟩:=hv hl;obtain⟨o,c',he1,hlc,_,ho⟩:=hs3 b h1;obtain⟨rfl,_⟩:=ho rfl;injection he1 with he1 _ he2;subst he1;subst he2;have hbl:b<w.heap.size:=by
    rcases Nat.lt_or_ge b w.heap.size with h |h
    ·exact h
    ·rw[Array.getElem?_eq_none h]at h2;cases h2
   have hzk:arr.size=i.cap*k:=by rw[h3,he]
   have hle':xs.size*k<=arr.size:=by rw[hzk];exact Nat.mul_le_mul_right _ hcap
   have hH:HoldsK A5c k w b 0 xs:=by
    intro j hj;rw[size_flatK]at hj;have hj1:j / k<xs.size:=(Nat.div_lt_iff_lt_mul hk0).2 hj
    have hj2:j%k<k:=Nat.mod_lt _ hk0;rw[get_flatK _ _ _ _ hj];obtain⟨av,hav⟩: ∃av,(kav xs[j / k]!)[j%k]? =some av:=⟨_,List.getElem?_eq_getElem (by rw[F14];exact hj2)⟩;obtain⟨z,rfl,hz⟩:=E0n hav;obtain⟨_,v,hv1,hv2⟩:=h5 (j / k) (j%k) _ hj1 hav;have hv3:=hv2.sc_eq;rw[he,Nat.div_add_mod' j k]at hv1;refine⟨?_,?_⟩
    ·simp only[World.cell?,h2,Nat.zero_add,Option.isSome_none,Bool.false_eq_true,if_false,id_eq,hv1,hv3];rw[List.getElem!_eq_getElem?_getD,hz];rfl
    ·simp[World.frozen?,h2]
   refine(AnyQ.slices_SortFunc_eq (P:=P) (ρ:=ρ) L k aE zE A5c E39 (λx v hv=>by simp only[A5c,List.mem_map]at hv;obtain⟨z,_,rfl⟩:=hv;rfl) cf hO g #[] b 0 c xs w eg (F3o hg b 0 xs.size w) hH hbl hsz).mono ?_;rintro e w' ⟨rfl,n,os,rfl⟩;have hps:(pdq (ltOf cf) xs 0 xs.size (Lib.bitLen xs.size) true true).size=xs.size:=(pdq_sorts (ltOf cf) hO xs 0 xs.size (Lib.bitLen xs.size) true true (Nat.zero_le _) (Nat.le_refl _) (Or.inl rfl)).1.1;generalize hd':pdq (ltOf cf) xs 0 xs.size (Lib.bitLen xs.size) true true=d' at*;have hsz':w.heap.size<=(sortWorldK A5c k w b 0 n d' os).heap.size:=by simp[sortWorldK,grow,putRowK,putRow,mapBlock,Sort.ahead]
   have hoth: ∀q,q<w.heap.size->i.blk≠some q->(sortWorldK A5c k w b 0 n d' os).heap[q]? =w.heap[q]? :=λq hq hne=>by have hne':b≠q:=λe=>hne (by rw[h1,e]);simp only[sortWorldK,grow,putRowK,putRow,mapBlock,Sort.ahead];rw[Array.getElem?_append_left (by simpa using hq),Array.getElem?_modify,if_neg hne']
   have hat:(sortWorldK A5c k w b 0 n d' os).heap[b]? =some (.cells (putCells _root_.id 0 (flatK A5c k d') arr) T (0,0)):=by simp only[sortWorldK,grow,putRowK,putRow,mapBlock,Sort.ahead];rw[Array.getElem?_append_left (by simpa using hbl),Array.getElem?_modify,if_pos rfl,h2];rfl
   obtain⟨s1,s2⟩:=E88 (w':=sortWorldK A5c k w b 0 n d' os) hs h (s':=⟨xs.size,λi=>kav d'[i]!⟩) rfl hsz' hoth
    ⟨hk,he,hl,hcap, .inr ⟨b,_,T,h1,hat,by simp[putCells,h3],λj hj=>by rw[he];exact F14 _,λj q av hj hq=>by
      obtain⟨z,rfl,hz⟩:=E0n hq;have hqk:q<k:=by
       rcases Nat.lt_or_ge q k with h |h
       ·exact h
       ·rw[List.getElem?_eq_none (by rw[E39];exact h)]at hz;cases hz
      have hjk:j*k+q<d'.size*k:=by rw[hps];exact A2u hj hqk
      refine⟨rfl, .int .i64 z,?_, .sc rfl⟩;rw[he];have hlt:j*k+q<arr.size:=by rw[hps]at hjk;omega
      simp only[putCells,Array.getElem?_mapIdx,Array.getElem?_eq_getElem hlt,Option.map_some,Nat.zero_le,size_flatK,Nat.zero_add,hjk,and_self,if_true,Nat.sub_zero,id_eq];rw[get_flatK _ _ _ _ hjk,Nat.add_comm,Nat.add_mul_div_right _ _ hk0,Nat.div_eq_of_lt hqk,Nat.zero_add,Nat.add_mul_mod_self_right,Nat.mod_eq_of_lt hqk,List.getElem!_eq_getElem?_getD,hz];rfl⟩⟩
   refine⟨.tuple #[],G,ob,rfl,s1, .tup #[] rfl (λj av hj=>by simp at hj),Fr.of_heap hsz' (λq hq hc=> ?_) (λ_ h=> .inl h) rfl rfl rfl (by simp[sortWorldK,grow,putRowK,putRow,mapBlock,Sort.ahead]),D4.refl ob⟩;rcases hc with hc |hc
   ·exact s2 q hc
   ·exact hoth q hq λe=>hc ⟨id,i,h, .inl e⟩
end
end Go.Abs
end
noncomputable section
namespace Go.Abs
open Go.Sort Go.Proofs
def C0h(a b:Int):Int:=if a<b then -1 else if b<a then 1 else 0
theorem F3n(a b:Int):(a<b/\C0h a b= -1)\/(b<a/\C0h a b=1)\/(a=b/\C0h a b=0):=by
 unfold C0h;by_cases h1:a<b
 ·exact .inl ⟨h1,by rw[if_pos h1]⟩
 ·by_cases h2:b<a
  ·exact .inr (.inl ⟨h2,by rw[if_neg h1,if_pos h2]⟩)
  ·exact .inr (.inr ⟨by omega,by rw[if_neg h1,if_neg h2]⟩)
end Go.Abs
end
