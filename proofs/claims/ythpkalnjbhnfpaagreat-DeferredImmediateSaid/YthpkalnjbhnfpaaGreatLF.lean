/- A part of the proof: what a function does, over abstract values and objects, and its ties to the model. -/
import Derived.Test.YthpkalnjbhnfpaaGreatLE
set_option linter.unusedSimpArgs false
set_option linter.unusedVariables false
set_option linter.unnecessarySimpa false
set_option maxRecDepth 100000
set_option maxHeartbeats 2000000
section
namespace Go.Abs
open Go.Sort Go.Proofs Go.Shelf Go.Lib
def B86 {α:Type}:List (α→Int)→α→α→Int
 | [],_,_=>0
 |p::ps,x,y=>if B6o (p x) (p y)≠0 then B6o (p x) (p y)else B86 ps x y
def A1j {α:Type}:List (α→Int)→α→α→Prop
 | [],_,_=>False
 |p::ps,x,y=>p x<p y∨(p x=p y∧A1j ps x y)
theorem C08 {α:Type}: ∀(ps:List (α→Int)) (x y:α),B86 ps x y<0↔A1j ps x y
 | [],x,y=>by simp[B86,A1j]
 |p::ps,x,y=>by
  have ih:=C08 ps x y;unfold B86 A1j;rcases D5v (p x) (p y)with⟨h,e⟩ |⟨h,e⟩ |⟨h,e⟩ <;> rw[e]
  ·simp[h]
  ·simp;omega
  ·simp[h,ih]
theorem A1j.irrefl {α:Type}: ∀(ps:List (α→Int)) (x:α),¬A1j ps x x
 | [],x,h=>h
 |p::ps,x,h=>by
  rcases h with h |⟨_,h⟩
  ·omega
  ·exact A1j.irrefl ps x h
theorem A1j.trans {α:Type}: ∀ {ps:List (α→Int)} {x y z:α},A1j ps x y→A1j ps y z→A1j ps x z
 | [],_,_,_,h,_=>h
 |p::ps,x,y,z,h,k=>by
  rcases h with h |⟨h1,h⟩ <;> rcases k with k |⟨k1,k⟩
  ·exact .inl (by omega)
  ·exact .inl (by omega)
  ·exact .inl (by omega)
  ·exact .inr ⟨by omega,A1j.trans h k⟩
theorem A1j.ntrans {α:Type}: ∀ {ps:List (α→Int)} {x y z:α},¬A1j ps x y→ ¬A1j ps y z→ ¬A1j ps x z
 | [],_,_,_,h,_=>h
 |p::ps,x,y,z,h,k=>by
  intro hx;have h1: ¬p x<p y:=fun e=>h (.inl e)
  have k1: ¬p y<p z:=fun e=>k (.inl e);rcases hx with hx |⟨e,hx⟩
  ·omega
  ·have e1:p x=p y:=by omega
   have e2:p y=p z:=by omega
   exact A1j.ntrans (fun e=>h (.inr ⟨e1,e⟩)) (fun e=>k (.inr ⟨e2,e⟩)) hx
theorem D1x {α:Type}(ps:List (α→Int)):SWO (ltOf (B86 ps))where
 irrefl x:=by unfold ltOf;rw[decide_eq_false_iff_not,C08];exact A1j.irrefl ps x
 trans x y z h k:=by unfold ltOf at*;rw[decide_eq_true_iff,C08]at*;exact A1j.trans h k
 ntrans x y z h k:=by unfold ltOf at*;rw[decide_eq_false_iff_not,C08]at*;exact A1j.ntrans h k
theorem D3a {α β:Type}(f:β→α){cf:α→α→Int}(h:SWO (ltOf cf)):SWO (ltOf fun x y=>cf (f x) (f y)):=⟨fun x=>h.irrefl (f x),fun x y z=>h.trans (f x) (f y) (f z),fun x y z=>h.ntrans (f x) (f y) (f z)⟩
section
variable {α:Type} {k:Nat}
def B43(toK:α→KEl k)(fromK:KEl k→α)(cf:α→α→Int)(l:List α):List α:=(pdq (ltOf fun x y:KEl k=>cf (fromK x) (fromK y)) (l.map toK).toArray 0 l.length (Lib.bitLen l.length) true true).toList.map fromK
variable {toK:α→KEl k} {fromK:KEl k→α} {cf:α→α→Int}
theorem B8w(hO:SWO (ltOf cf))(l:List α):(pdq (ltOf fun x y:KEl k=>cf (fromK x) (fromK y)) (l.map toK).toArray 0 l.length (Lib.bitLen l.length) true true).size=l.length∧
  (B43 toK fromK cf l).Perm ((l.map toK).map fromK)∧SortedIn (ltOf fun x y:KEl k=>cf (fromK x) (fromK y)) 0 l.length (pdq (ltOf fun x y:KEl k=>cf (fromK x) (fromK y)) (l.map toK).toArray 0 l.length (Lib.bitLen l.length) true true):=by
 have h:=pdq_sorts (ltOf fun x y:KEl k=>cf (fromK x) (fromK y)) (D3a fromK hO) (l.map toK).toArray 0 l.length (Lib.bitLen l.length) true true (Nat.zero_le _) (by simp) (Or.inl rfl)
 have h1:(pdq (ltOf fun x y:KEl k=>cf (fromK x) (fromK y)) (l.map toK).toArray 0 l.length (Lib.bitLen l.length) true true).size=l.length:=by rw[h.1.1];simp
 refine⟨h1,?_,h.2⟩;have h2:=h.1.2.2;unfold B43;generalize pdq (ltOf fun x y:KEl k=>cf (fromK x) (fromK y)) (l.map toK).toArray 0 l.length (Lib.bitLen l.length) true true=d at h1 h2⊢;have e1:(d.extract 0 l.length).toList=d.toList:=by rw[←h1];simp
 have e2:((l.map toK).toArray.extract 0 l.length).toList=l.map toK:=by simp only[List.extract_toArray,List.extract_eq_take_drop,List.drop_zero,Nat.sub_zero];exact List.take_of_length_le (by simp)
 rw[e1,e2]at h2;exact h2.map fromK
theorem C9p(hO:SWO (ltOf cf))(l:List α):(B43 toK fromK cf l).length=l.length:=by have:=(B8w (toK:=toK) (fromK:=fromK) hO l).2.1.length_eq;simpa using this
variable {P:Program}
theorem E3w {ρ:Ren}(L:SlLaysF0.n6 P ρ)(hk0:0<k)(hc:Y8 P (ρ.f 6)=true)(aE: ∀w,(isAgg (ρ.t 24)).run P w= .ok true w)(zE: ∀w,(Go.sizeOf (ρ.t 24)).run P w= .ok k w)
  {enc:α→List AV}(d:α)(hd:kav (default:KEl k)=enc d)(h1: ∀x,kav (toK x)=enc x)(h2: ∀y,kav y=enc (fromK y))(hO:SWO (ltOf cf)){g:FuncId}(eg: ∀args w,(callFunc g args).run P w= .ok (.enter g args) w)
  (hg: ∀x y:α,A5 P g [.agg (enc x), .agg (enc y)] [] (.sc (.int .i64 (cf x y))) [])(id:Nat)(l:List α)(hl:l.length<4611686018427387904):
  A5 P (ρ.f 6) [.sl id 0 l.length l.length, .fn (.func g) [] []] [(id, .arr k (D2 enc d l))] (.tup []) [(id, .arr k (D2 enc d (B43 toK fromK cf l)))]:=by
 have h:=D7m L hk0 hc aE zE (fun x y=>cf (fromK x) (fromK y)) (D3a fromK hO) eg (fun x y=>by rw[h2,h2];exact hg _ _) id (l.map toK).toArray (by simp;omega)
 have hf:=B8w (toK:=toK) (fromK:=fromK) hO l;simp only[List.size_toArray,List.length_map]at h;unfold B43;generalize pdq (ltOf fun x y:KEl k=>cf (fromK x) (fromK y)) (l.map toK).toArray 0 l.length (Lib.bitLen l.length) true true=dd at h hf⊢;have hsz:dd.size=l.length:=hf.1
 have e1:(⟨l.length,fun i=>kav (l.map toK).toArray[i]!⟩:Sq)=D2 enc d l:=by
  unfold D2 O6;congr 1;funext i;by_cases hi:i<l.length
  ·rw[getElem!_pos _ i (by simpa using hi)];simp[h1,List.getD,hi]
  ·rw[getElem!_neg _ i (by simpa using hi),hd];simp[List.getD,List.getElem?_eq_none (Nat.le_of_not_lt hi)]
 have e2:(⟨l.length,fun i=>kav dd[i]!⟩:Sq)=D2 enc d (dd.toList.map fromK):=by
  unfold D2 O6;have hlen:(dd.toList.map fromK).length=l.length:=by rw[List.length_map,Array.length_toList,hsz]
  rw[hlen];congr 1;funext i;by_cases hi:i<dd.size
  ·rw[getElem!_pos _ i hi,h2];simp[List.getD,hi]
  ·rw[getElem!_neg _ i hi,hd];simp[List.getD,List.getElem?_eq_none (by simpa using Nat.le_of_not_lt hi:(dd.toList.map fromK).length≤i)]
 rw[e1,e2]at h;exact h
end
end Go.Abs
end
