/- A part of the proof: what a function does, over abstract values and objects, and its ties to the model. -/
import Derived.Test.YtchcbiiammkhgaaGreatLE
set_option linter.unusedSimpArgs false
set_option linter.unusedVariables false
set_option linter.unnecessarySimpa false
set_option maxRecDepth 100000
set_option maxHeartbeats 2000000
noncomputable section
namespace Go.Abs
open Go.Sort Go.Proofs Go.Shelf Go.Lib
def B62 {α:Type}:List (α->Int)->α->α->Int
 | [],_,_=>0
 |p::ps,x,y=>if B8k (p x) (p y)≠0 then B8k (p x) (p y)else B62 ps x y
def A42 {α:Type}:List (α->Int)->α->α->Prop
 | [],_,_=>False
 |p::ps,x,y=>p x<p y\/(p x=p y/\A42 ps x y)
theorem C8w {α:Type}: ∀(ps:List (α->Int)) (x y:α),B62 ps x y<0↔A42 ps x y
 | [],x,y=>by simp[B62,A42]
 |p::ps,x,y=>by
  have ih:=C8w ps x y;unfold B62 A42;rcases E5a (p x) (p y)with⟨h,e⟩ |⟨h,e⟩ |⟨h,e⟩ <;> rw[e]
  ·simp[h]
  ·simp;omega
  ·simp[h,ih]
theorem A42.irrefl {α:Type}: ∀(ps:List (α->Int)) (x:α),¬A42 ps x x
 | [],x,h=>h
 |p::ps,x,h=>by
  rcases h with h |⟨_,h⟩
  ·omega
  ·exact A42.irrefl ps x h
theorem A42.trans {α:Type}: ∀ {ps:List (α->Int)} {x y z:α},A42 ps x y->A42 ps y z->A42 ps x z
 | [],_,_,_,h,_=>h
 |p::ps,x,y,z,h,k=>by
  rcases h with h |⟨h1,h⟩ <;> rcases k with k |⟨k1,k⟩
  ·exact .inl o_
  ·exact .inl o_
  ·exact .inl o_
  ·exact .inr ⟨o_,A42.trans h k⟩
theorem A42.ntrans {α:Type}: ∀ {ps:List (α->Int)} {x y z:α},¬A42 ps x y-> ¬A42 ps y z-> ¬A42 ps x z
 | [],_,_,_,h,_=>h
 |p::ps,x,y,z,h,k=>by
  intro hx;have h1: ¬p x<p y:=λe=>h (.inl e)
  have k1: ¬p y<p z:=λe=>k (.inl e);rcases hx with hx |⟨e,hx⟩
  ·omega
  ·have e1:p x=p y:=o_
   have e2:p y=p z:=o_
   exact A42.ntrans (λe=>h (.inr ⟨e1,e⟩)) (λe=>k (.inr ⟨e2,e⟩)) hx
theorem B0i {α:Type}(ps:List (α->Int)):SWO (ltOf (B62 ps))where
 irrefl x:=by unfold ltOf;rw[zC,C8w];exact A42.irrefl ps x
 trans x y z h k:=by unfold ltOf at*;rw[decide_eq_true_iff,C8w]at*;exact A42.trans h k
 ntrans x y z h k:=by unfold ltOf at*;rw[zC,C8w]at*;exact A42.ntrans h k
variable {β:Type}
theorem E1h {α:Type}(f:β->α){cf:α->α->Int}(h:SWO (ltOf cf)):SWO (ltOf λx y=>cf (f x) (f y)):=⟨λx=>h.irrefl (f x),λx y z=>h.trans (f x) (f y) (f z),λx y z=>h.ntrans (f x) (f y) (f z)⟩
section
variable {α:Type} {k:Nat}
def B12(toK:α->KEl k)(fromK:KEl k->α)(cf:α->α->Int)(l:List α):List α:=(pdq (ltOf λx y:KEl k=>cf (fromK x) (fromK y)) (l.map toK).toArray 0 l.length (Lib.bitLen l.length) true true).toList.map fromK
variable {toK:α->KEl k} {fromK:KEl k->α} {cf:α->α->Int}
theorem B9i(hO:SWO (ltOf cf))(l:List α):(pdq (ltOf λx y:KEl k=>cf (fromK x) (fromK y)) (l.map toK).toArray 0 l.length (Lib.bitLen l.length) true true).size=l.length/\
  (B12 toK fromK cf l).Perm ((l.map toK).map fromK)/\SortedIn (ltOf λx y:KEl k=>cf (fromK x) (fromK y)) 0 l.length (pdq (ltOf λx y:KEl k=>cf (fromK x) (fromK y)) (l.map toK).toArray 0 l.length (Lib.bitLen l.length) true true):=by
 have h:=pdq_sorts (ltOf λx y:KEl k=>cf (fromK x) (fromK y)) (E1h fromK hO) (l.map toK).toArray 0 l.length (Lib.bitLen l.length) true true (zm _) p_ (Or.inl rfl)
 have h1:(pdq (ltOf λx y:KEl k=>cf (fromK x) (fromK y)) (l.map toK).toArray 0 l.length (Lib.bitLen l.length) true true).size=l.length:=by rw[h.1.1];simp
 refine⟨h1,?_,h.2⟩;have h2:=h.1.2.2;unfold B12;generalize pdq (ltOf λx y:KEl k=>cf (fromK x) (fromK y)) (l.map toK).toArray 0 l.length (Lib.bitLen l.length) true true=d at h1 h2⊢;have e1:(d.extract 0 l.length).toList=d.toList:=by rw[<-h1];simp
 have e2:((l.map toK).toArray.extract 0 l.length).toList=l.map toK:=by simp only[List.extract_toArray,List.extract_eq_take_drop,List.drop_zero,Nat.sub_zero];exact List.take_of_length_le p_
 rw[e1,e2]at h2;exact h2.map fromK
theorem B7d(hO:SWO (ltOf cf))(l:List α):(B12 toK fromK cf l).length=l.length:=by have:=(B9i (toK:=toK) (fromK:=fromK) hO l).2.1.length_eq;simpa using this
theorem E2v(hO:SWO (ltOf cf))(hf: ∀x,fromK (toK x)=x)(l:List α):(B12 toK fromK cf l).Perm l:=by have:=(B9i (toK:=toK) (fromK:=fromK) hO l).2.1;rwa[List.map_map,show(fromK∘toK)=id from funext hf,List.map_id]at this
theorem D4b(hO:SWO (ltOf cf))(hf: ∀x,fromK (toK x)=x){l:List α}{x:α}:x∈B12 toK fromK cf l↔x∈l:=(E2v hO hf l).mem_iff
variable {P:Program}
theorem D52 {ρ:Ren}(L:SlLaysF0.n6 P ρ)(hk0:0<k)(hc:A3p P (ρ.f 6)=true)(aE: ∀w,(isAgg (ρ.t 24)).run P w= .ok true w)(zE: ∀w,(Go.sizeOf (ρ.t 24)).run P w= .ok k w)
  {enc:α->List AV}(d:α)(hd:kav (default:KEl k)=enc d)(h1: ∀x,kav (toK x)=enc x)(h2: ∀y,kav y=enc (fromK y))(hO:SWO (ltOf cf)){g:FuncId}(eg: ∀args w,(callFunc g args).run P w= .ok (.enter g args) w)
  (hg: ∀x y:α,D5 P g [.agg (enc x), .agg (enc y)] [] (.sc (.int .i64 (cf x y))) [])(id:Nat)(l:List α)(hl:l.length<4611686018427387904):
  D5 P (ρ.f 6) [.sl id 0 l.length l.length, .fn (.func g) [] []] [(id, .arr k (B0 enc d l))] (.tup []) [(id, .arr k (B0 enc d (B12 toK fromK cf l)))]:=by
 have h:=E6l L hk0 hc aE zE (λx y=>cf (fromK x) (fromK y)) (E1h fromK hO) eg (λx y=>by rw[h2,h2];exact hg _ _) id (l.map toK).toArray (by simp;omega)
 have hf:=B9i (toK:=toK) (fromK:=fromK) hO l;simp only[yI,z7]at h;unfold B12;generalize pdq (ltOf λx y:KEl k=>cf (fromK x) (fromK y)) (l.map toK).toArray 0 l.length (Lib.bitLen l.length) true true=dd at h hf⊢;have hsz:dd.size=l.length:=hf.1
 have e1:(⟨l.length,λi=>kav (l.map toK).toArray[i]!⟩:Sq)=B0 enc d l:=by
  unfold B0 I9;congr 1;funext i;by_cases hi:i<l.length
  ·rw[getElem!_pos _ i (by simpa using hi)];simp[h1,List.getD,hi]
  ·rw[getElem!_neg _ i (by simpa using hi),hd];simp[List.getD,qi (Nat.le_of_not_lt hi)]
 have e2:(⟨l.length,λi=>kav dd[i]!⟩:Sq)=B0 enc d (dd.toList.map fromK):=by
  unfold B0 I9;have hlen:(dd.toList.map fromK).length=l.length:=by rw[z7,Array.length_toList,hsz]
  rw[hlen];congr 1;funext i;by_cases hi:i<dd.size
  ·rw[getElem!_pos _ i hi,h2];simp[List.getD,hi]
  ·rw[getElem!_neg _ i hi,hd];simp[List.getD,qi (by simpa using Nat.le_of_not_lt hi:(dd.toList.map fromK).length<=i)]
 rw[e1,e2]at h;exact h
end
end Go.Abs
end
noncomputable section
namespace Go.Abs
section
variable {P:Program} {N:Nat}
@[reducible] def rbC(X:St->Prop):Cont:=⟨λo τ=>o= .normal/\X τ⟩
variable {σ:St}
theorem F5t {X:St->Prop}: @Qi (rbC X) .normal σ=X σ:=by show(_/\_)=_;simp
@[reducible] def scC(X:St->Prop):ContS:=⟨X⟩
theorem F5z {X:St->Prop}: @Si (scC X) σ=X σ:=rfl
attribute [go_sem] F5t F5z F5v
variable {O:List (Nat×A7)} {K:List Nat} {acA acB:ACode}
theorem F42(h: @Wi P N [] acA (rbC λτ1=> @Wi P N [] acB (rbC λτ2=>V5 K τ2 [] O) τ1) σ):
  W P N [] acA (λo τ1=>o= .normal/\W P N [] acB (λo τ2=>o= .normal/\V5 K τ2 [] O) τ1) σ:=h
variable {Q:Cont}
theorem F43 {as3 as4:List dC}(h: @Wsi P as3 (scC λτ'=> @Wsi P as4 (scC λτ''=> @Qi Q .ret τ'') τ') σ):A5c P as3 (λτ'=>A5c P as4 (λτ''=>Q.q .ret τ'') τ') σ:=h
end
variable {z n:Nat} {f:FuncId} {P:Program} {s:Sq} {args:List AV}
theorem D5.dataRes2 {id:Nat}(h:D5 P f args [] (.sl id 0 n s.n) [(id, .arr z s)]):D5 P f args [] (.dsl z n s.g) []:=by
 refine⟨h.1,λG w ob vals hs hr=>(h.2 G w ob vals hs hr).mono ?_⟩;rintro e w' ⟨v,G',ob',rfl,h1,h2,h3,h4⟩;have mid:ofL [(id,A7.arr z s)] id=some (.arr z s):=by rw[C6z];simp
 obtain⟨G2,a1,a2,a3,_⟩:=h1.freeze mid;have hd:=C8s a1 (A03 _ _ _) (h2.ext a2 (λ_ _=>rfl) (D4.refl ob')) rfl
 have hd:Rel G2 w' ob' (.dsl z n s.g) v:=by simpa using hd
 have hob: ∀q,ob q=none:=λq=>(hs.dom q).1 rfl;refine⟨v,G2,λ_=>none,rfl,⟨λq=>⟨λ_=>rfl,λ_=>rfl⟩,(by intro _ _ _ _ _ h;cases h),a1.lt,(by intro _ _ _ h;cases h),(by intro _ _ _ _ h;cases h)⟩,
  hd.ob_free rfl,⟨h3.size,h3.same,λb hb=> ?_,λb hb=>a2 b (h3.sub b hb),λb hb=> ?_,h3.os,h3.tape,h3.output,h3.drawn⟩,λq j hj=>by rw[hob q]at hj;cases hj⟩
 ·obtain⟨q,j,hj,_⟩:=hb;cases hj
 ·rcases a3 b hb with hb |hb
  ·exact h3.new b hb
  ·rcases h3.blk b hb with hb |hb
   ·exact .inr (.inr hb)
   ·exact .inr (.inl hb)
variable {σ:St} {Q:Cont} {K:List Nat} {N:Nat}
theorem D2p {x:ACode}(id z:Nat)(s:Sq)(hm:σ.objs id=some (.arr z s))(h: @Wpi P N K x Q ⟨σ.env,upd σ.objs id (some (.frz z s))⟩): @Wpi P N K x Q σ:=by
 intro c hc Γ a w ob G hs hΓ;obtain⟨G2,s2,a2,a3,_⟩:=hs.objs.freeze hm;exact h c hc Γ a w ob G2 ⟨hs.size,hs.defers,s2,λt av ht=>let⟨v,hv,hr⟩:=hs.env t av ht;⟨v,hv,hr.ext a2 (λ_ _=>rfl) (D4.refl ob)⟩,hs.env0⟩
  ⟨hΓ.fr.trans ⟨ze _,λ_ _ _=>rfl,λ_ h=> .inl h,a2,λb hb=>(a3 b hb).imp (λh=>h) .inr,rfl,rfl,rfl,ze _⟩,hΓ.ext⟩
variable {p:Prop}
theorem aI_(h:p:=by first |exact K1 |exact ob_):p:=h
abbrev sI(x:Int):AV:= .sc (.int .i64 x)
abbrev sB(b:Bool):AV:= .sc (.bool b)
end Go.Abs
end
