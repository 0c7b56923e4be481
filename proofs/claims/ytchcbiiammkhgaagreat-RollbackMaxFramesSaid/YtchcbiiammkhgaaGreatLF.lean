/- A part of the proof: what a function does, over abstract values and objects, and its ties to the model. -/
import Derived.Test.YtchcbiiammkhgaaGreatLE
set_option linter.unusedSimpArgs false
set_option linter.unusedVariables false
set_option linter.unnecessarySimpa false
set_option maxRecDepth 100000
set_option maxHeartbeats 2000000
noncomputable section
namespace Go.Abs
open Go.Sort Go.Proofs Go.Shelf Go.Lib
def B8m {α:Type}:List (α->Int)->α->α->Int
 | [],_,_=>0
 |p::ps,x,y=>if C0h (p x) (p y)≠0 then C0h (p x) (p y)else B8m ps x y
def A4w {α:Type}:List (α->Int)->α->α->Prop
 | [],_,_=>False
 |p::ps,x,y=>p x<p y\/(p x=p y/\A4w ps x y)
theorem D4e {α:Type}: ∀(ps:List (α->Int)) (x y:α),B8m ps x y<0↔A4w ps x y
 | [],x,y=>by simp[B8m,A4w]
 |p::ps,x,y=>by
  have ih:=D4e ps x y;unfold B8m A4w;rcases F3n (p x) (p y)with⟨h,e⟩ |⟨h,e⟩ |⟨h,e⟩ <;> rw[e]
  ·simp[h]
  ·simp;omega
  ·simp[h,ih]
theorem A4w.irrefl {α:Type}: ∀(ps:List (α->Int)) (x:α),¬A4w ps x x
 | [],x,h=>h
 |p::ps,x,h=>by
  rcases h with h |⟨_,h⟩
  ·omega
  ·exact A4w.irrefl ps x h
theorem A4w.trans {α:Type}: ∀ {ps:List (α->Int)} {x y z:α},A4w ps x y->A4w ps y z->A4w ps x z
 | [],_,_,_,h,_=>h
 |p::ps,x,y,z,h,k=>by
  rcases h with h |⟨h1,h⟩ <;> rcases k with k |⟨k1,k⟩
  ·exact .inl (by omega)
  ·exact .inl (by omega)
  ·exact .inl (by omega)
  ·exact .inr ⟨by omega,A4w.trans h k⟩
theorem A4w.ntrans {α:Type}: ∀ {ps:List (α->Int)} {x y z:α},¬A4w ps x y-> ¬A4w ps y z-> ¬A4w ps x z
 | [],_,_,_,h,_=>h
 |p::ps,x,y,z,h,k=>by
  intro hx;have h1: ¬p x<p y:=λe=>h (.inl e)
  have k1: ¬p y<p z:=λe=>k (.inl e);rcases hx with hx |⟨e,hx⟩
  ·omega
  ·have e1:p x=p y:=by omega
   have e2:p y=p z:=by omega
   exact A4w.ntrans (λe=>h (.inr ⟨e1,e⟩)) (λe=>k (.inr ⟨e2,e⟩)) hx
theorem B0o {α:Type}(ps:List (α->Int)):SWO (ltOf (B8m ps))where
 irrefl x:=by unfold ltOf;rw[decide_eq_false_iff_not,D4e];exact A4w.irrefl ps x
 trans x y z h k:=by unfold ltOf at*;rw[decide_eq_true_iff,D4e]at*;exact A4w.trans h k
 ntrans x y z h k:=by unfold ltOf at*;rw[decide_eq_false_iff_not,D4e]at*;exact A4w.ntrans h k
variable {β:Type}
theorem E9h {α:Type}(f:β->α){cf:α->α->Int}(h:SWO (ltOf cf)):SWO (ltOf λx y=>cf (f x) (f y)):=⟨λx=>h.irrefl (f x),λx y z=>h.trans (f x) (f y) (f z),λx y z=>h.ntrans (f x) (f y) (f z)⟩
section
variable {α:Type} {k:Nat}
def B2m(toK:α->KEl k)(fromK:KEl k->α)(cf:α->α->Int)(l:List α):List α:=(pdq (ltOf λx y:KEl k=>cf (fromK x) (fromK y)) (l.map toK).toArray 0 l.length (Lib.bitLen l.length) true true).toList.map fromK
variable {toK:α->KEl k} {fromK:KEl k->α} {cf:α->α->Int}
theorem C1c(hO:SWO (ltOf cf))(l:List α):(pdq (ltOf λx y:KEl k=>cf (fromK x) (fromK y)) (l.map toK).toArray 0 l.length (Lib.bitLen l.length) true true).size=l.length/\
  (B2m toK fromK cf l).Perm ((l.map toK).map fromK)/\SortedIn (ltOf λx y:KEl k=>cf (fromK x) (fromK y)) 0 l.length (pdq (ltOf λx y:KEl k=>cf (fromK x) (fromK y)) (l.map toK).toArray 0 l.length (Lib.bitLen l.length) true true):=by
 have h:=pdq_sorts (ltOf λx y:KEl k=>cf (fromK x) (fromK y)) (E9h fromK hO) (l.map toK).toArray 0 l.length (Lib.bitLen l.length) true true (Nat.zero_le _) (by simp) (Or.inl rfl)
 have h1:(pdq (ltOf λx y:KEl k=>cf (fromK x) (fromK y)) (l.map toK).toArray 0 l.length (Lib.bitLen l.length) true true).size=l.length:=by rw[h.1.1];simp
 refine⟨h1,?_,h.2⟩;have h2:=h.1.2.2;unfold B2m;generalize pdq (ltOf λx y:KEl k=>cf (fromK x) (fromK y)) (l.map toK).toArray 0 l.length (Lib.bitLen l.length) true true=d at h1 h2⊢;have e1:(d.extract 0 l.length).toList=d.toList:=by rw[<-h1];simp
 have e2:((l.map toK).toArray.extract 0 l.length).toList=l.map toK:=by simp only[List.extract_toArray,List.extract_eq_take_drop,List.drop_zero,Nat.sub_zero];exact List.take_of_length_le (by simp)
 rw[e1,e2]at h2;exact h2.map fromK
theorem B8w(hO:SWO (ltOf cf))(l:List α):(B2m toK fromK cf l).length=l.length:=by have:=(C1c (toK:=toK) (fromK:=fromK) hO l).2.1.length_eq;simpa using this
theorem F00(hO:SWO (ltOf cf))(hf: ∀x,fromK (toK x)=x)(l:List α):(B2m toK fromK cf l).Perm l:=by have:=(C1c (toK:=toK) (fromK:=fromK) hO l).2.1;rwa[List.map_map,show(fromK∘toK)=id from funext hf,List.map_id]at this
theorem E1n(hO:SWO (ltOf cf))(hf: ∀x,fromK (toK x)=x){l:List α}{x:α}:x∈B2m toK fromK cf l↔x∈l:=(F00 hO hf l).mem_iff
variable {P:Program}
theorem E3n {ρ:Ren}(L:SlLaysF0.n6 P ρ)(hk0:0<k)(hc:A3o P (ρ.f 6)=true)(aE: ∀w,(isAgg (ρ.t 24)).run P w= .ok true w)(zE: ∀w,(Go.sizeOf (ρ.t 24)).run P w= .ok k w)
  {enc:α->List AV}(d:α)(hd:kav (default:KEl k)=enc d)(h1: ∀x,kav (toK x)=enc x)(h2: ∀y,kav y=enc (fromK y))(hO:SWO (ltOf cf)){g:FuncId}(eg: ∀args w,(callFunc g args).run P w= .ok (.enter g args) w)
  (hg: ∀x y:α,D5 P g [.agg (enc x), .agg (enc y)] [] (.sc (.int .i64 (cf x y))) [])(id:Nat)(l:List α)(hl:l.length<4611686018427387904):
  D5 P (ρ.f 6) [.sl id 0 l.length l.length, .fn (.func g) [] []] [(id, .arr k (A9 enc d l))] (.tup []) [(id, .arr k (A9 enc d (B2m toK fromK cf l)))]:=by
 have h:=F4t L hk0 hc aE zE (λx y=>cf (fromK x) (fromK y)) (E9h fromK hO) eg (λx y=>by rw[h2,h2];exact hg _ _) id (l.map toK).toArray (by simp;omega)
 have hf:=C1c (toK:=toK) (fromK:=fromK) hO l;simp only[List.size_toArray,List.length_map]at h;unfold B2m;generalize pdq (ltOf λx y:KEl k=>cf (fromK x) (fromK y)) (l.map toK).toArray 0 l.length (Lib.bitLen l.length) true true=dd at h hf⊢;have hsz:dd.size=l.length:=hf.1
 have e1:(⟨l.length,λi=>kav (l.map toK).toArray[i]!⟩:Sq)=A9 enc d l:=by
  unfold A9 I8;congr 1;funext i;by_cases hi:i<l.length
  ·rw[getElem!_pos _ i (by simpa using hi)];simp[h1,List.getD,hi]
  ·rw[getElem!_neg _ i (by simpa using hi),hd];simp[List.getD,List.getElem?_eq_none (Nat.le_of_not_lt hi)]
 have e2:(⟨l.length,λi=>kav dd[i]!⟩:Sq)=A9 enc d (dd.toList.map fromK):=by
  unfold A9 I8;have hlen:(dd.toList.map fromK).length=l.length:=by rw[List.length_map,Array.length_toList,hsz]
  rw[hlen];congr 1;funext i;by_cases hi:i<dd.size
  ·rw[getElem!_pos _ i hi,h2];simp[List.getD,hi]
  ·rw[getElem!_neg _ i hi,hd];simp[List.getD,List.getElem?_eq_none (by simpa using Nat.le_of_not_lt hi:(dd.toList.map fromK).length<=i)]
 rw[e1,e2]at h;exact h
end
end Go.Abs
end
noncomputable section
namespace Go.Abs
section
variable {P:Program} {N:Nat}
@[reducible] def rbC(X:St->Prop):Cont:=⟨λo τ=>o= .normal/\X τ⟩
variable {σ:St}
theorem G31 {X:St->Prop}: @Qi (rbC X) .normal σ=X σ:=by show(_/\_)=_;simp
@[reducible] def scC(X:St->Prop):ContS:=⟨X⟩
theorem G36 {X:St->Prop}: @Si (scC X) σ=X σ:=rfl
attribute [go_sem] G31 G36 F42
variable {O:List (Nat×A7)} {K:List Nat} {acA acB:ACode}
theorem G3a(h: @Wi P N [] acA (rbC λτ1=> @Wi P N [] acB (rbC λτ2=>V9 K τ2 [] O) τ1) σ):
  W P N [] acA (λo τ1=>o= .normal/\W P N [] acB (λo τ2=>o= .normal/\V9 K τ2 [] O) τ1) σ:=h
variable {Q:Cont}
theorem G3b {as3 as4:List dA}(h: @Wsi P as3 (scC λτ'=> @Wsi P as4 (scC λτ''=> @Qi Q .ret τ'') τ') σ):A47 P as3 (λτ'=>A47 P as4 (λτ''=>Q.q .ret τ'') τ') σ:=h
end
variable {z n:Nat} {f:FuncId} {P:Program} {s:Sq} {args:List AV}
theorem D5.dataRes2 {id:Nat}(h:D5 P f args [] (.sl id 0 n s.n) [(id, .arr z s)]):D5 P f args [] (.dsl z n s.g) []:=by
 refine⟨h.1,λG w ob vals hs hr=>(h.2 G w ob vals hs hr).mono ?_⟩;rintro e w' ⟨v,G',ob',rfl,h1,h2,h3,h4⟩;have mid:ofL [(id,A7.arr z s)] id=some (.arr z s):=by rw[D2k];simp
 obtain⟨G2,a1,a2,a3,_⟩:=h1.freeze mid;have hd:=D4a a1 (A0t _ _ _) (h2.ext a2 (λ_ _=>rfl) (D4.refl ob')) rfl
 have hd:Rel G2 w' ob' (.dsl z n s.g) v:=by simpa using hd
 have hob: ∀q,ob q=none:=λq=>(hs.dom q).1 rfl;refine⟨v,G2,λ_=>none,rfl,⟨λq=>⟨λ_=>rfl,λ_=>rfl⟩,(by intro _ _ _ _ _ h;cases h),a1.lt,(by intro _ _ _ h;cases h),(by intro _ _ _ _ h;cases h)⟩,
  hd.ob_free rfl,⟨h3.size,h3.same,λb hb=> ?_,λb hb=>a2 b (h3.sub b hb),λb hb=> ?_,h3.os,h3.tape,h3.output,h3.drawn⟩,λq j hj=>by rw[hob q]at hj;cases hj⟩
 ·obtain⟨q,j,hj,_⟩:=hb;cases hj
 ·rcases a3 b hb with hb |hb
  ·exact h3.new b hb
  ·rcases h3.blk b hb with hb |hb
   ·exact .inr (.inr hb)
   ·exact .inr (.inl hb)
variable {σ:St} {Q:Cont} {K:List Nat} {N:Nat}
theorem D96 {x:ACode}(id z:Nat)(s:Sq)(hm:σ.objs id=some (.arr z s))(h: @Wpi P N K x Q ⟨σ.env,upd σ.objs id (some (.frz z s))⟩): @Wpi P N K x Q σ:=by
 intro c hc Γ a w ob G hs hΓ;obtain⟨G2,s2,a2,a3,_⟩:=hs.objs.freeze hm;exact h c hc Γ a w ob G2 ⟨hs.size,hs.defers,s2,λt av ht=>let⟨v,hv,hr⟩:=hs.env t av ht;⟨v,hv,hr.ext a2 (λ_ _=>rfl) (D4.refl ob)⟩,hs.env0⟩
  ⟨hΓ.fr.trans ⟨Nat.le_refl _,λ_ _ _=>rfl,λ_ h=> .inl h,a2,λb hb=>(a3 b hb).imp (λh=>h) .inr,rfl,rfl,rfl,Nat.le_refl _⟩,hΓ.ext⟩
variable {p:Prop}
theorem aI_(h:p:=by first |exact K0 |exact ob_):p:=h
abbrev sI(x:Int):AV:= .sc (.int .i64 x)
abbrev sB(b:Bool):AV:= .sc (.bool b)
end Go.Abs
end
