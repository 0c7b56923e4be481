/- A part of the proof: contracts of functions that the statement reaches. -/
import Derived.Test.YtchcbiiammkhgaaGreatMP
set_option linter.unusedSimpArgs false
set_option linter.unusedVariables false
set_option linter.unnecessarySimpa false
set_option maxRecDepth 100000
set_option maxHeartbeats 2000000
noncomputable section
namespace Go.Abs
open Go.Proofs
open Api
theorem D82(w:Api.World)(x:B3)(hw:Wsm w)(hx:Ism x):cA_ C14 [.agg w.enc, .agg x.enc] [] (A4 1 C6 0 (J5 w x)) []:=by
 have h:=C2z w x hw hx
 have hle:(J5 w x).length<=(A9c w x).length:=by have h1:=C2e (B62 (A9c w x));rw[C2o]at h1;exact h1
 generalize J5 w x=B at h hle⊢;generalize(A9c w x).length=n at h hle;obtain⟨k,rfl⟩: ∃k,n=B.length+k:=⟨n-B.length,by omega⟩;rw[show B.length+k-B.length=k by omega]at h;have e:B.length+k=(A9 C6 0 (B++List.replicate k 0)).n:=by show _=(B++_:List Int).length;rw[List.length_append,List.length_replicate]
 rw[e]at h;refine h.dataRes2.res_le (A6b _ _ ?_);show M9 (.dsl 1 B.length _) (.dsl 1 B.length _);rw[U4];refine⟨rfl,rfl,λi hi=> ?_⟩;show W0 (C6 ((B++List.replicate k 0).getD i 0)) (C6 (B.getD i 0));have e2:(B++List.replicate k (0:Int)).getD i 0=B.getD i 0:=by simp only[List.getD,List.getElem?_append_left hi]
 rw[e2];exact H9 _
def pbC(w:Api.World)(x:B3)(nB:Nat)(S R A:AV):List AV:= [sI w.cM.dZ,sI w.cM.eG.X,sI w.cM.eG.Y,sI w.cM.eL,sI w.cM.eD,A4 20 cF.enc dF_ w.cC,A4 24 cG.enc dF_ w.cD,A4 7 cY.enc dF_ w.cB,A4 4 cR.enc dF_ w.cT,sI w.dJ,sI w.eK,A4 1 C6 0 x.cC,A4 1 C6 0 x.cB,A4 1 C6 0 x.cD, .sl 1 0 nB nB,A4 1 C6 0 (J5 w x),S,R,A]
def pbO(w:Api.World)(x:B3)(B:List cF)(S:List cE)(R:List Row)(A:List Int):List (Nat×A7):=[(6, .box (pbC w x B.length (.sl 3 0 S.length S.length) (.sl 4 0 R.length R.length) (.sl 5 0 A.length A.length))),(1, .arr 20 (A9 cF.enc dF_ B)),(3, .frz 5 (A9 cE.enc dF_ S)),(4, .arr 14 (A9 Row.enc dF_ R)),(5, .arr 1 (A9 C6 0 A))]
attribute [go_sem] pbC pbO
def pfO(w:Api.World)(x:B3)(B:List cF)(S:List cE)(R:List Row)(A:List Int)(id:Int):List (Nat×A7):=(48, .box [.ptr 6 0 0 1])::(64, .box [sI id])::pbO w x B S R A
attribute [go_sem] pfO
theorem A6h {w:Api.World}{x:B3}{B:List cF}{S:List cE}{R:List Row}{A:List Int}:okO (pbO w x B S R A):=by
 refine⟨by simp[pbO],λp hp cs e j hj=> ?_⟩;simp only[pbO,List.mem_cons,List.not_mem_nil,or_false]at hp;rcases hp with rfl |rfl |rfl |rfl |rfl
 ·simp only[A7.box.injEq]at e;subst e;simp[pbC,F0,AV.ids,A4]at hj;rcases hj with rfl |rfl |rfl |rfl <;> rfl
 all_goals cases e
theorem E25 {w:Api.World}{x:B3}{B:List cF}{S:List cE}{R:List Row}{A:List Int}{id:Int}:okO (pfO w x B S R A id):=by
 refine⟨by simp[pfO,pbO],λp hp cs e j hj=> ?_⟩;simp only[pfO,pbO,List.mem_cons,List.not_mem_nil,or_false]at hp;rcases hp with rfl |rfl |rfl |rfl |rfl |rfl |rfl
 ·simp only[A7.box.injEq]at e;subst e;simp[F0,AV.ids]at hj;subst hj;rfl
 ·simp only[A7.box.injEq]at e;subst e;simp[F0,AV.ids]at hj
 ·simp only[A7.box.injEq]at e;subst e;simp[pbC,F0,AV.ids,A4]at hj;rcases hj with rfl |rfl |rfl |rfl <;> rfl
 all_goals cases e
theorem F60(w:Api.World)(x:B3)(B:List cF)(S:List cE)(R:List Row)(A:List Int)(id i:Int)(h0:0<=i)(h1:i<B.length):
  cA_ A4c [sI i, .ptr 48 0 0 1, .ptr 64 0 0 1] (pfO w x B S R A id) (sB ((B.getD i.toNat dF_).ID==id)) (pfO w x B S R A id):=by
 refine I7 hm A6 Tryz.func191 rfl rfl (st_ ?_);refine⟨bE_,?_⟩;refine B6 [.cA] [] [] (st_ ?_);exact eE_
def pfK(w:Api.World)(x:B3)(B:List cF)(id:Int):Int:=B1p (λi=>(B.getD i.toNat dF_).ID==id) (J5 w x)
def pfR(w:Api.World)(x:B3)(B:List cF)(id:Int):cF×Int:=if pfK w x B id<0 then(zB,-1)else(B.getD ((J5 w x).getD (pfK w x B id).toNat 0).toNat dF_,pfK w x B id)
theorem E2w {p:Int->Bool}{l:List Int}: -1<=B1p p l/\B1p p l<l.length:=by
 unfold B1p;split
 ·rename_i i h;have:=List.mem_of_find?_eq_some h;rw[List.mem_range]at this;omega
 ·omega
theorem B53(w:Api.World)(x:B3)(B:List cF)(S:List cE)(R:List Row)(A:List Int)(id:Int)(hb: ∀i∈J5 w x,0<=i/\i<B.length)(hl:(J5 w x).length<=1000000000):
  cA_ B5u [.ptr 6 0 0 1,sI id] (pbO w x B S R A) (.tup [.agg (pfR w x B id).1.enc,sI ((pfR w x B id).2)]) (pbO w x B S R A):=by
 have hF:=A7j (J5 w x) A4c [] [.ptr 48 0 0 1, .ptr 64 0 0 1] (pfO w x B S R A id) (λi=>(B.getD i.toNat dF_).ID==id) hl E25
  (by intro j hj;simp[AV.ids,F0]at hj;rcases hj with rfl |rfl <;> rfl) (λi hi=>F60 w x B S R A id i (hb i hi).1 (hb i hi).2)
 have hr:=pfR.eq_1 w x B id
 have hk:=E2w (p:=λi=>(B.getD i.toNat dF_).ID==id) (l:=J5 w x);rw[show B1p (λi=>(B.getD i.toNat dF_).ID==id) (J5 w x)=pfK w x B id from rfl]at hF hk;generalize pfK w x B id=k at hF hr hk;refine D31 30 [(4,some (some 20)),(5,none)] hm A6 Tryz.func111 rfl (st_ ?_);refine M1 hF E25 E25 (by simp[pfO,pbO]) (by simp[pfO,pbO,pbC,upd,A4,go_sem,go_sem_proc]) (by simp[pfO,pbO]) ?_ rfl ?_
 ·intro a ha j hj;simp only[List.mem_cons,List.not_mem_nil,or_false]at ha;rcases ha with rfl |rfl
  ·simp[AV.ids]at hj
  ·simp[AV.ids,F0]at hj;rcases hj with rfl |rfl <;> rfl
 refine st_ ?_;by_cases hn:k<0
 ·rw[if_pos hn]at hr⊢;rw[hr];refine B6 [.eQ, .cA] [] [] ?_;simp only[go_sem,go_sem_proc,zB];exact eE_
 rw[if_neg hn]at hr⊢;rw[hr];have hbk:=hb _ (B8 (l:=J5 w x) (i:=k.toNat) 0 (by omega));refine⟨by omega,by omega,?_⟩;refine B6 [.cA, .cA] [] [] (st_ ?_);exact eE_
theorem B71(w:Api.World)(x:B3)(B:List cF)(S:List cE)(R:List Row)(A:List Int)(l:List Row)(hR:R.length+l.length<=100000000)(hA:A.length<=100000000):
  cA_ D1f [.ptr 6 0 0 1,A4 14 Row.enc dF_ l] (pbO w x B S R A) (.tup []) (pbO w x B S (R++l) (A++ [(R.length:Int)])):=by
 refine A26 hm A6 Tryz.func181 rfl rfl (st_ ?_);refine⟨bE_,bE_,?_⟩;refine B6 [] [] [] (st_ ?_);exact eE_
def E59(w:Api.World)(i:Nat)(idx:Int)(B:List cF):List cF:=B.set idx.toNat (X0 (B.getD idx.toNat dF_) w.cM)
def vB(w:Api.World)(x:B3)(n:Nat):List cF:=itr (λk B=>E59 w k (x.cC.getD k 0) B) n w.cC
theorem B5l(w:Api.World)(x:B3)(n:Nat):(vB w x n).length=w.cC.length:=U1 (λs:List cF=>s.length) (λi s=>by simp[E59]) n _
theorem G3q(b:cF)(s:cM):(X0 b s).cK=b.cK/\(X0 b s).ID=b.ID/\(X0 b s).cS=b.cS:=by
 unfold X0;dsimp only
 (repeat' split) <;> exact⟨rfl,rfl,rfl⟩
theorem gsS {α:Type}{l:List α}{k:Nat}{v d:α}(h:k<l.length):(l.set k v).getD k d=v:=by simp only[List.getD,List.getElem?_set_self h,Option.getD_some]
theorem gsN {α:Type}{l:List α}{i k:Nat}{v d:α}(h:i≠k):(l.set i v).getD k d=l.getD k d:=by simp only[List.getD,List.getElem?_set_ne h]
theorem E9j(w:Api.World)(x:B3): ∀n k,((vB w x n).getD k dF_).cK=(w.cC.getD k dF_).cK/\((vB w x n).getD k dF_).ID=(w.cC.getD k dF_).ID/\((vB w x n).getD k dF_).cS=(w.cC.getD k dF_).cS
 |0,k=>⟨rfl,rfl,rfl⟩
 |n+1,k=>by
  have ih:=E9j w x n;rw[show vB w x (n+1)=E59 w n (x.cC.getD n 0) (vB w x n)from H6 ..];generalize vB w x n=B at ih⊢;unfold E59;generalize(x.cC.getD n 0).toNat=q;by_cases h:q=k
  ·subst h;by_cases hl:q<B.length
   ·rw[gsS hl];have h1:=G3q (B.getD q dF_) w.cM
    have h2:=ih q;exact⟨h1.1.trans h2.1,h1.2.1.trans h2.2.1,h1.2.2.trans h2.2.2⟩
   ·rw[List.set_eq_of_length_le (by omega)];exact ih q
  ·rw[gsN h];exact ih k
theorem E58 {w:Api.World}(hw:Wsm w)(x:B3)(n:Nat): ∀b∈vB w x n,cF.sm b:=by intro b hb;obtain⟨k,hk,rfl⟩:=List.getElem_of_mem hb;have h:=(E9j w x n k).1;rw[show(vB w x n).getD k dF_=(vB w x n)[k]by simp[List.getD,hk]]at h;rw[B5l]at hk;have h2:=hw.2.2.2.2.1 _ (B8 (l:=w.cC) dF_ hk);unfold cF.sm at h2⊢;rwa[h]
def vS(w:Api.World)(x:B3)(n:Nat):List cE:=((J5 w x).take n).map λi=>A05 ((vB w x x.cC.length).getD i.toNat dF_)
def fB(w:Api.World)(x:B3)(id:Int):cF×Int:=pfR w x (vB w x x.cC.length) id
def S0(w:Api.World)(x:B3):List cE:=vS w x (J5 w x).length
def D18(w:Api.World)(x:B3)(k:Nat):List Row:=L1 (w.cD.getD (x.cD.getD k 0).toNat dF_) (fB w x (w.cD.getD (x.cD.getD k 0).toNat dF_).cU).1 (fB w x (w.cD.getD (x.cD.getD k 0).toNat dF_).cV).1 (fB w x (w.cD.getD (x.cD.getD k 0).toNat dF_).cU).2 (fB w x (w.cD.getD (x.cD.getD k 0).toNat dF_).cV).2 (S0 w x) w.cM.dZ
def A9r(l:List Row)(s:List Row×List Int):List Row×List Int:=(s.1++l,s.2++ [(s.1.length:Int)])
def jRA(w:Api.World)(x:B3)(n:Nat):List Row×List Int:=itr (λk s=>A9r (D18 w x k) s) n ([],[])
def D71(w:Api.World)(x:B3)(k:Nat)(base:Int):List Row:=A4p (w.cB.getD (x.cB.getD k 0).toNat dF_) (fB w x (w.cB.getD (x.cB.getD k 0).toNat dF_).dQ.cU).1 (fB w x (w.cB.getD (x.cB.getD k 0).toNat dF_).dQ.cV).1 (fB w x (w.cB.getD (x.cB.getD k 0).toNat dF_).dQ.cU).2 (fB w x (w.cB.getD (x.cB.getD k 0).toNat dF_).dQ.cV).2 base (S0 w x) w.cM.dZ
def cRA(w:Api.World)(x:B3)(n:Nat):List Row×List Int:=itr (λk s=>A9r (D71 w x k (s.1.length:Int)) s) n (jRA w x x.cD.length)
theorem E20(w:Api.World)(x:B3): ∀n,(jRA w x n).1.length<=4*n/\(jRA w x n).2.length=n
 |0=>⟨Nat.le_refl _,rfl⟩
 |n+1=>by have ih:=E20 w x n;rw[show jRA w x (n+1)=A9r (D18 w x n) (jRA w x n)from H6 ..];have h:(D18 w x n).length<=4:=C7q ..;simp only[A9r,List.length_append,List.length_singleton];omega
theorem E32(c:cY)(a b:cF)(ia ib base:Int)(s:List cE)(dt:Int):(A4p c a b ia ib base s dt).length<=2*c.cL.cP.length:=by
 unfold A4p;dsimp only;split
 ·exact Nat.zero_le _
 ·have: ∀n,(itr (S5 c ia ib base s dt (F2 a) (F2 b) (O8 (C8 a c.dQ.dM).1 (C8 b c.dQ.dK).1) (N1 (C8 a c.dQ.dM).1 (C8 b c.dQ.dK).1) (A01 c.cL.dF)) n []).length<=2*n:=by
   intro n;induction n with
   |zero=>exact Nat.le_refl _
   |succ n ih=>rw[H6];unfold S5 at ih⊢;dsimp only at ih⊢;rw[List.length_append];simp only[List.length_cons,List.length_nil];omega
  exact this _
def pbG(w:Api.World)(x:B3)(B:List cF)(S:List cE)(R:List Row)(A:List Int)(o:A7):List (Nat×A7):=[(6, .box (pbC w x B.length (.sl 3 0 S.length S.length) (.sl 4 0 R.length R.length) (.sl 5 0 A.length A.length))),(1, .arr 20 (A9 cF.enc dF_ B)),(3,o),(4, .arr 14 (A9 Row.enc dF_ R)),(5, .arr 1 (A9 C6 0 A))]
attribute [go_sem] pbG
def pOk(w:Api.World)(x:B3):Prop:=B9 w=0/\S9 x.cC w.cC.length=true/\S9 x.cB w.cB.length=true/\S9 x.cD w.cD.length=true
theorem E5p(w:Api.World)(x:B3)(hw:Wsm w)(hx:Ism x)(h: ¬pOk w x):cA_ B8x [.agg w.enc, .agg x.enc] [] (.sc (.pointer none)) []:=by
 refine en1 hm A6 Tryz.func107 rfl rfl (st_ ?_);refine A0 (I6 w hw) rfl (st_ ?_);refine A0 (A38 x.cC w.cC.length hx.1) rfl (st_ ?_);refine A0 (A38 x.cB w.cB.length hx.2.1) rfl (st_ ?_);refine A0 (A38 x.cD w.cD.length hx.2.2) rfl (st_ ?_);unfold pOk at h;rw[if_pos]
 ·trivial
 ·cases h2:S9 x.cC w.cC.length <;> cases h3:S9 x.cB w.cB.length <;> cases h4:S9 x.cD w.cD.length <;> simp[h2,h3,h4]at h⊢;exact h
theorem C0d {l:List Int}{n:Int}(h:S9 l n=true): ∀i∈l,0<=i/\i<n:=by
 have key: ∀k,k<=l.length-> ∃s,J8 (M8 l n) k (-1)= .inl s/\ -1<=s/\ ∀j,j<k->0<=l.getD j 0/\l.getD j 0<n:=by
  intro k;induction k with
  |zero=>intro _;exact⟨-1,rfl,by omega,λj hj=>by omega⟩
  |succ k ih=>
   intro hk;obtain⟨s,h1,h2,h3⟩:=ih (by omega);have hs:J8 (M8 l n) (k+1) (-1)=M8 l n k s:=A1v h1 rfl;unfold M8 at hs;split at hs
   ·exfalso;have h4:=A5j hs (show k+1<=l.length by omega);unfold S9 at h;rw[show J8 (M8 l n) l.length (-1)= .inr false from h4]at h;cases h
   ·rename_i hc;simp only[Bool.or_eq_true,decide_eq_true_eq,not_or,Int.not_le]at hc;refine⟨_,hs,by omega,λj hj=> ?_⟩;rcases Nat.lt_succ_iff_lt_or_eq.1 hj with hj |rfl
    ·exact h3 j hj
    ·omega
 intro i hi;obtain⟨k,hk,rfl⟩:=List.getElem_of_mem hi;obtain⟨_,_,_,h3⟩:=key l.length (Nat.le_refl _);have:=h3 k hk;rwa[show l.getD k 0=l[k]by simp[List.getD,hk]]at this
theorem E2m(w:Api.World)(x:B3): ∀i∈J5 w x,0<=i/\i<(w.cC.length:Int):=λi hi=>E2k w x i (D70.1 hi)
theorem G3o(w:Api.World)(x:B3){n:Nat}(h:n<(J5 w x).length):vS w x (n+1)=vS w x n++ [A05 ((vB w x x.cC.length).getD ((J5 w x).getD n 0).toNat dF_)]:=by unfold vS;rw[L5 0 h,List.map_append];rfl
theorem F7c(w:Api.World)(x:B3)(n:Nat)(h:n<=(J5 w x).length):(vS w x n).length=n:=by unfold vS;rw[List.length_map,List.length_take];omega
theorem D3u(w:Api.World)(x:B3)(hP: ∀c∈w.cB,c.cL.cP.length<=2)(hC: ∀i∈x.cB,0<=i/\i<(w.cB.length:Int)): ∀n,n<=x.cB.length->(cRA w x n).1.length<=4*x.cD.length+4*n/\(cRA w x n).2.length=x.cD.length+n
 |0,_=>by have:=E20 w x x.cD.length;exact⟨this.1,this.2⟩
 |n+1,h=>by
  have ih:=D3u w x hP hC n (by omega);rw[show cRA w x (n+1)=A9r (D71 w x n ((cRA w x n).1.length:Int)) (cRA w x n)from H6 ..];generalize cRA w x n=s at ih⊢;have h1:=hC _ (B8 (l:=x.cB) (i:=n) 0 (by omega))
  have h2:=hP _ (B8 (l:=w.cB) (i:=(x.cB.getD n 0).toNat) dF_ (by omega))
  have h3:(D71 w x n (s.1.length:Int)).length<=2*(w.cB.getD (x.cB.getD n 0).toNat dF_).cL.cP.length:=E32 ..;simp only[A9r,List.length_append,List.length_singleton];omega
theorem G7a:cF.sm zB:=⟨by decide,λf hf=>by cases hf⟩
theorem D36 {w:Api.World}(hw:Wsm w)(x:B3)(id:Int):cF.sm (fB w x id).1:=by
 unfold fB pfR;have hk:=E2w (p:=λi=>((vB w x x.cC.length).getD i.toNat dF_).ID==id) (l:=J5 w x);rw[show B1p (λi=>((vB w x x.cC.length).getD i.toNat dF_).ID==id) (J5 w x)=pfK w x (vB w x x.cC.length) id from rfl]at hk;split
 ·exact G7a
 ·have hi:=E2m w x _ (B8 (l:=J5 w x) (i:=(pfK w x (vB w x x.cC.length) id).toNat) 0 (by omega))
  exact E58 hw x x.cC.length _ (B8 dF_ (by rw[B5l];omega))
theorem D99 {w:Api.World}{x:B3}{B:List cF}{S:List cE}{R:List Row}{A:List Int}{id:Int}: ∀a∈ [AV.ptr 6 0 0 1,sI id],∀i∈a.ids,(ofL (pbO w x B S R A) i).isSome:=by
 intro a ha j hj;simp only[List.mem_cons,List.not_mem_nil,or_false]at ha;rcases ha with rfl |rfl
 ·simp[AV.ids]at hj;subst hj;rfl
 ·simp[AV.ids]at hj
theorem F1d {w:Api.World}{x:B3}{B:List cF}{S:List cE}{R:List Row}{A:List Int}{l:List Row}: ∀a∈ [AV.ptr 6 0 0 1,A4 14 Row.enc dF_ l],∀i∈a.ids,(ofL (pbO w x B S R A) i).isSome:=by
 intro a ha j hj;simp only[List.mem_cons,List.not_mem_nil,or_false]at ha;rcases ha with rfl |rfl
 ·simp[AV.ids]at hj;subst hj;rfl
 ·simp[AV.ids,A4]at hj
theorem C82(w:Api.World)(x:B3)(hw:Wsm w)(hx:Ism x)(h:pOk w x)(hP: ∀c∈w.cB,c.cL.cP.length<=2):cA_ B8x [.agg w.enc, .agg x.enc] [] (.ptr 6 0 0 1) (pbO w x (vB w x x.cC.length) (S0 w x) (cRA w x x.cB.length).1 (cRA w x x.cB.length).2):=by
 obtain⟨hv,a1,a2,a3⟩:=h;have hBx:=C0d a1
 have hCx:=C0d a2
 have hJx:=C0d a3
 have hbl:=E2m w x
 have hbn:(J5 w x).length<=8000000:=Nat.le_trans (E7g w x) (E7d hx);obtain⟨hx1,hx2,hx3⟩:=hx;refine B0z hm A6 Tryz.func107 rfl rfl ?_;refine B2 [(2, .eQ, .cW w.enc),(3, .eQ, .cW x.enc),(4, .cA, .sc (.pointer none))] [] (C7 hm ?_) ?_
 ·refine st_ ?_;refine B0 [] [] ?_;simp only[go_sem,go_sem_proc,A3e]
 refine B2 [(2, .cA, .cW w.enc),(3, .cA, .cW x.enc)] [] (C7 hm ?_) ?_
 ·refine st_ ?_;refine A0 (I6 w hw) rfl (st_ ?_);refine A0 (A38 x.cC w.cC.length hx1) rfl (st_ ?_);refine A0 (A38 x.cB w.cB.length hx2) rfl (st_ ?_);refine A0 (A38 x.cD w.cD.length hx3) rfl ?_;rw[hv,a1,a2,a3];refine st_ ?_;rw[if_neg (by simp)];refine B0 [] [] ?_;simp only[go_sem,go_sem_proc]
 refine B2 [(2, .cA, .cW w.enc),(3, .cA, .cW x.enc),(5, .cA, .ptr 6 0 0 1)] (pbG w x (w.cC) ([]) ([]) ([]) (.arr 5 (A9 cE.enc dF_ ([])))) (C7 hm ?_) ?_
 ·refine st_ ?_;refine J2 ev_ K0 (A9k w.cC hw.1) (st_ ?_);refine A0 (D82 w x hw ⟨hx1,hx2,hx3⟩) rfl (st_ ?_);refine B0 [(1,944),(6,1024)] [3,4,5] ?_;simp only[go_sem,go_sem_proc]
 refine B2 [(2, .cA, .cW w.enc),(3, .cA, .cW x.enc),(5, .cA, .ptr 6 0 0 1)] (pbG w x (vB w x (x.cC.length)) ([]) ([]) ([]) (.arr 5 (A9 cE.enc dF_ ([])))) (B2 [(2, .cA, .cW w.enc),(3, .cA, .cW x.enc),(5, .cA, .ptr 6 0 0 1),(65, .cA,A4 1 C6 0 x.cC),(66, .cA,sI x.cC.length),(67, .cA,sI (0:Nat))] (pbG w x (w.cC) ([]) ([]) ([]) (.arr 5 (A9 cE.enc dF_ ([])))) (C7 hm ?_) (Y7 ?_)) ?_
 ·refine st_ ?_;refine B0 [] [] ?_;simp only[go_sem,go_sem_proc]
 ·refine B1 hm (ι:= {k:Nat // k<=x.cC.length}) (λk=> [(2, .cA, .cW w.enc),(3, .cA, .cW x.enc),(5, .cA, .ptr 6 0 0 1),(65, .cA,A4 1 C6 0 x.cC),(66, .cA,sI x.cC.length),(67, .cA,sI (k.1:Nat))]) (λk=>pbG w x (vB w x (k.1)) ([]) ([]) ([]) (.arr 5 (A9 cE.enc dF_ ([])))) (λk=>x.cC.length-k.1) ⟨0,Nat.zero_le _⟩ ?_ ?_
  ·refine B0 [] [] (st_ ?_);exact eE_
  ·rintro⟨k,hk⟩;dsimp only;have hn:vB w x (k+1)=(vB w x k).set (x.cC.getD k 0).toNat (X0 ((vB w x k).getD (x.cC.getD k 0).toNat dF_) w.cM):=H6 ..
   have hl:=B5l w x k
   have hsm:=E58 hw x k
   have hfin:x.cC.length<=k->vB w x k=vB w x x.cC.length:=λh=>by rw[show k=x.cC.length by omega]
   generalize vB w x k=B at hn hl hsm hfin⊢;by_cases hlt:k<x.cC.length;rotate_left
   ·refine st_ ?_;rw[if_neg (by omega),<-hfin (by omega)];refine B0 [] [] ?_;simp only[go_sem,go_sem_proc]
   have hi:=hBx _ (B8 (l:=x.cC) (i:=k) 0 hlt);refine st_ ?_;rw[if_pos (by omega)];generalize x.cC.getD k 0=i at hn hi⊢;refine⟨bE_,by omega,?_⟩;refine A0 (C7u (B.getD i.toNat dF_) w.cM (hsm _ (B8 dF_ (by omega))).2) rfl (st_ ?_);refine⟨by omega,?_⟩;refine A8 ⟨k+1,by omega⟩ (by show x.cC.length-(k+1)<x.cC.length-k;omega) ?_;simp only[hn];refine B0 [] [] (st_ ?_)
   (repeat' (with_reducible apply And.intro)) <;> first |exact A2y _ (by omega) rfl rfl |exact eE_
 refine B2 [(2, .cA, .cW w.enc),(3, .cA, .cW x.enc),(5, .cA, .ptr 6 0 0 1)] (pbG w x (vB w x x.cC.length) (vS w x ((J5 w x).length)) ([]) ([]) (.arr 5 (A9 cE.enc dF_ (vS w x ((J5 w x).length))))) (B2 [(2, .cA, .cW w.enc),(3, .cA, .cW x.enc),(5, .cA, .ptr 6 0 0 1),(91, .cA,A4 1 C6 0 (J5 w x)),(92, .cA,sI ((J5 w x).length)),(93, .cA,sI (0:Nat))] (pbG w x (vB w x x.cC.length) (vS w x (0)) ([]) ([]) (.arr 5 (A9 cE.enc dF_ (vS w x (0))))) (C7 hm ?_) (Y7 ?_)) ?_
 ·rw[show vS w x 0= []from rfl];refine st_ ?_;refine B0 [] [] ?_;simp only[go_sem,go_sem_proc]
 ·refine B1 hm (ι:= {k:Nat // k<=(J5 w x).length}) (λk=> [(2, .cA, .cW w.enc),(3, .cA, .cW x.enc),(5, .cA, .ptr 6 0 0 1),(91, .cA,A4 1 C6 0 (J5 w x)),(92, .cA,sI ((J5 w x).length)),(93, .cA,sI (k.1:Nat))]) (λk=>pbG w x (vB w x x.cC.length) (vS w x (k.1)) ([]) ([]) (.arr 5 (A9 cE.enc dF_ (vS w x (k.1))))) (λk=>(J5 w x).length-k.1) ⟨0,Nat.zero_le _⟩ ?_ ?_
  ·refine B0 [] [] ?_;simp only[go_sem,go_sem_proc]
  ·rintro⟨k,hk⟩;dsimp only;have hn:k<(J5 w x).length->vS w x (k+1)=vS w x k++ [A05 ((vB w x x.cC.length).getD ((J5 w x).getD k 0).toNat dF_)]:=λh=>G3o w x h
   have hl:=F7c w x k hk
   have hfin:(J5 w x).length<=k->vS w x k=vS w x (J5 w x).length:=λh=>by rw[show k=(J5 w x).length by omega]
   have hBl:=B5l w x x.cC.length
   have hsm:=E58 hw x x.cC.length;generalize vS w x k=S at hn hl hfin⊢;by_cases hlt:k<(J5 w x).length;rotate_left
   ·refine st_ ?_;rw[if_neg (by omega),<-hfin (by omega)];refine B0 [] [] ?_;simp only[go_sem,go_sem_proc]
   have hi:=hbl _ (B8 (l:=J5 w x) (i:=k) 0 hlt);replace hn:=hn hlt;refine st_ ?_;rw[if_pos (by omega)];generalize(J5 w x).getD k 0=i at hn hi⊢;generalize vB w x x.cC.length=B at hn hBl hsm⊢;refine⟨bE_,by omega,?_⟩;refine A0 (A7q (B.getD i.toNat dF_) (hsm _ (B8 dF_ (by omega))).2) rfl (st_ ?_);refine⟨bE_,?_⟩;refine A8 ⟨k+1,by omega⟩ (by show(J5 w x).length-(k+1)<(J5 w x).length-k;omega) ?_;simp only[hn];refine B0 [] [] (st_ ?_);exact eE_
 refine D96 3 5 (A9 cE.enc dF_ (S0 w x)) (by simp only[go_sem,go_sem_proc,S0]) ?_;rw[show vS w x (J5 w x).length=S0 w x from rfl];refine B2 [(2, .cA, .cW w.enc),(3, .cA, .cW x.enc),(5, .cA, .ptr 6 0 0 1)] (pbG w x (vB w x x.cC.length) (S0 w x) ((jRA w x (x.cD.length)).1) ((jRA w x (x.cD.length)).2) (.frz 5 (A9 cE.enc dF_ (S0 w x)))) (B2 [(2, .cA, .cW w.enc),(3, .cA, .cW x.enc),(5, .cA, .ptr 6 0 0 1),(116, .cA,A4 1 C6 0 x.cD),(117, .cA,sI x.cD.length),(118, .cA,sI (0:Nat))] (pbG w x (vB w x x.cC.length) (S0 w x) ((jRA w x (0)).1) ((jRA w x (0)).2) (.frz 5 (A9 cE.enc dF_ (S0 w x)))) (C7 hm ?_) (Y7 ?_)) ?_
 ·rw[show jRA w x 0=([],[])from rfl];refine st_ ?_;refine B0 [] [] (st_ ?_);exact eE_
 ·refine B1 hm (ι:= {k:Nat // k<=x.cD.length}) (λk=> [(2, .cA, .cW w.enc),(3, .cA, .cW x.enc),(5, .cA, .ptr 6 0 0 1),(116, .cA,A4 1 C6 0 x.cD),(117, .cA,sI x.cD.length),(118, .cA,sI (k.1:Nat))]) (λk=>pbG w x (vB w x x.cC.length) (S0 w x) ((jRA w x (k.1)).1) ((jRA w x (k.1)).2) (.frz 5 (A9 cE.enc dF_ (S0 w x)))) (λk=>x.cD.length-k.1) ⟨0,Nat.zero_le _⟩ ?_ ?_
  ·refine B0 [] [] (st_ ?_);exact eE_
  ·rintro⟨k,hk⟩;dsimp only;have hn:jRA w x (k+1)=A9r (D18 w x k) (jRA w x k):=H6 ..
   have hl:=E20 w x k
   have hfin:x.cD.length<=k->jRA w x k=jRA w x x.cD.length:=λh=>by rw[show k=x.cD.length by omega]
   have hrl:(D18 w x k).length<=4:=C7q ..;generalize jRA w x k=s at hn hl hfin⊢;obtain⟨R,A⟩:=s;dsimp only[A9r]at hn hl hfin⊢;by_cases hlt:k<x.cD.length;rotate_left
   ·refine st_ ?_;rw[if_neg (by omega),<-hfin (by omega)];refine B0 [] [] (st_ ?_);exact eE_
   have hi:=hJx _ (B8 (l:=x.cD) (i:=k) 0 hlt)
   have hr:=D18.eq_1 w x k;refine st_ ?_;rw[if_pos (by omega)];generalize x.cD.getD k 0=i at hr hi⊢;refine⟨bE_,hi,?_⟩;generalize w.cD.getD i.toNat dF_=j at hr⊢;have hF:=λid=>B53 w x (vB w x x.cC.length) (S0 w x) R A id (by rw[B5l];exact hbl) (by omega)
   have hsa:=D36 hw x j.cU
   have hsb:=D36 hw x j.cV;unfold fB at hr hsa hsb;refine M1 (hF j.cU) A6h A6h (by simp[pbO]) (by simp[pbO,pbC,upd,A4,go_sem,go_sem_proc]) (by simp[pbO]) D99 rfl ?_;generalize pfR w x (vB w x x.cC.length) j.cU=a at hr hsa⊢;refine st_ ?_;refine M1 (hF j.cV) A6h A6h (by simp[pbO]) (by simp[pbO,pbC,upd,A4,go_sem,go_sem_proc]) (by simp[pbO]) D99 rfl ?_;generalize pfR w x (vB w x x.cC.length) j.cV=b at hr hsb⊢;refine st_ ?_;refine O7 (A8r j a.1 b.1 a.2 b.2 (S0 w x) w.cM.dZ hsa.2 hsb.2) ?_;rw[<-hr];generalize D18 w x k=l at hn hrl⊢;simp only[S3,go_sem,go_sem_proc];refine M1 (B71 w x (vB w x x.cC.length) (S0 w x) R A l (by omega) (by omega)) A6h A6h (by simp[pbO]) (by simp[pbO,pbC,upd,A4,go_sem,go_sem_proc]) (by simp[pbO]) F1d rfl (st_ ?_);refine A8 ⟨k+1,by omega⟩ (by show x.cD.length-(k+1)<x.cD.length-k;omega) ?_;simp only[hn];refine B0 [] [] (st_ ?_);exact eE_
 refine B2 [(2, .cA, .cW w.enc),(3, .cA, .cW x.enc),(5, .cA, .ptr 6 0 0 1)] (pbG w x (vB w x x.cC.length) (S0 w x) ((cRA w x (x.cB.length)).1) ((cRA w x (x.cB.length)).2) (.frz 5 (A9 cE.enc dF_ (S0 w x)))) (B2 [(2, .cA, .cW w.enc),(3, .cA, .cW x.enc),(5, .cA, .ptr 6 0 0 1),(158, .cA,A4 1 C6 0 x.cB),(159, .cA,sI x.cB.length),(160, .cA,sI (0:Nat))] (pbG w x (vB w x x.cC.length) (S0 w x) ((cRA w x (0)).1) ((cRA w x (0)).2) (.frz 5 (A9 cE.enc dF_ (S0 w x)))) (C7 hm ?_) (Y7 ?_)) ?_
 ·rw[show cRA w x 0=jRA w x x.cD.length from rfl];refine st_ ?_;refine B0 [] [] (st_ ?_);exact eE_
 ·refine B1 hm (ι:= {k:Nat // k<=x.cB.length}) (λk=> [(2, .cA, .cW w.enc),(3, .cA, .cW x.enc),(5, .cA, .ptr 6 0 0 1),(158, .cA,A4 1 C6 0 x.cB),(159, .cA,sI x.cB.length),(160, .cA,sI (k.1:Nat))]) (λk=>pbG w x (vB w x x.cC.length) (S0 w x) ((cRA w x (k.1)).1) ((cRA w x (k.1)).2) (.frz 5 (A9 cE.enc dF_ (S0 w x)))) (λk=>x.cB.length-k.1) ⟨0,Nat.zero_le _⟩ ?_ ?_
  ·refine B0 [] [] (st_ ?_);exact eE_
  ·rintro⟨k,hk⟩;dsimp only;have hn:cRA w x (k+1)=A9r (D71 w x k ((cRA w x k).1.length:Int)) (cRA w x k):=H6 ..
   have hl:=D3u w x hP hCx k hk
   have hfin:x.cB.length<=k->cRA w x k=cRA w x x.cB.length:=λh=>by rw[show k=x.cB.length by omega]
   generalize cRA w x k=s at hn hl hfin⊢;obtain⟨R,A⟩:=s;dsimp only[A9r]at hn hl hfin⊢;by_cases hlt:k<x.cB.length;rotate_left
   ·refine st_ ?_;rw[if_neg (by omega),<-hfin (by omega)];refine B0 [] [] (st_ ?_);exact eE_
   have hi:=hCx _ (B8 (l:=x.cB) (i:=k) 0 hlt)
   have hr:=D71.eq_1 w x k (R.length:Int);refine st_ ?_;rw[if_pos (by omega)];generalize x.cB.getD k 0=i at hr hi⊢;refine⟨bE_,hi,?_⟩;have hpt:=hP _ (B8 (l:=w.cB) (i:=i.toNat) dF_ (by omega));generalize w.cB.getD i.toNat dF_=c at hr hpt⊢;have hF:=λid=>B53 w x (vB w x x.cC.length) (S0 w x) R A id (by rw[B5l];exact hbl) (by omega)
   have hsa:=D36 hw x c.dQ.cU
   have hsb:=D36 hw x c.dQ.cV;unfold fB at hr hsa hsb;refine M1 (hF c.dQ.cU) A6h A6h (by simp[pbO]) (by simp[pbO,pbC,upd,A4,go_sem,go_sem_proc]) (by simp[pbO]) D99 rfl ?_;generalize pfR w x (vB w x x.cC.length) c.dQ.cU=a at hr hsa⊢;refine st_ ?_;refine M1 (hF c.dQ.cV) A6h A6h (by simp[pbO]) (by simp[pbO,pbC,upd,A4,go_sem,go_sem_proc]) (by simp[pbO]) D99 rfl ?_;generalize pfR w x (vB w x x.cC.length) c.dQ.cV=b at hr hsb⊢;refine st_ ?_;refine O7 (D2z c a.1 b.1 a.2 b.2 (R.length:Int) (S0 w x) w.cM.dZ (by omega) hsa.2 hsb.2) ?_;have hrl:=E32 c a.1 b.1 a.2 b.2 (R.length:Int) (S0 w x) w.cM.dZ;rw[<-hr]at hrl⊢;generalize D71 w x k (R.length:Int)=l at hn hrl⊢;simp only[S3,go_sem,go_sem_proc];refine M1 (B71 w x (vB w x x.cC.length) (S0 w x) R A l (by omega) (by omega)) A6h A6h (by simp[pbO]) (by simp[pbO,pbC,upd,A4,go_sem,go_sem_proc]) (by simp[pbO]) F1d rfl (st_ ?_);refine A8 ⟨k+1,by omega⟩ (by show x.cB.length-(k+1)<x.cB.length-k;omega) ?_;simp only[hn];refine B0 [] [] (st_ ?_);exact eE_
 refine C7 hm (st_ ?_);refine B6 [.cA] [] [] (st_ ?_);exact eE_
theorem E9b(j:cG)(a b:cF):P1 j a b=(L1 (⟨j.ID,j.cS,j.cU,j.cV,j.dW,j.dR,j.eS,j.cX,j.dE,j.dN,j.dS,j.dH,j.dP,j.dU,j.dD,j.dI,j.dC,(⟨0,1,2,3⟩:Four)⟩:cG) a b 0 0 ([]:List cE) 65536).map (·.fM):=by
 unfold P1;simp only;generalize L1 _ a b 0 0 ([]:List cE) 65536=l;have h: ∀n,n<=l.length->itr (T6 l) n []=(l.take n).map (·.fM):=by
  intro n;induction n with
  |zero=>intro _;simp[itr]
  |succ n ih=>intro hn;rw[itr,ih (by omega),T6,List.take_succ_eq_append_getElem (by omega:n<l.length)];simp only[List.map_append,List.map_cons,List.map_nil,List.getD,List.getElem?_eq_getElem (by omega:n<l.length),Option.getD_some]
 rw[h _ (Nat.le_refl _),List.take_length]
theorem F65(j:cG)(a b:cF):(P1 j a b).length<=4:=by rw[E9b,List.length_map];exact C7q _ _ _ _ _ _ _
theorem F9x(j:cG)(a b:cF): ∀x∈P1 j a b,0<=x/\x<4:=by rw[E9b];intro x hx;obtain⟨r,hr,rfl⟩:=List.mem_map.1 hx;have:=F9p _ _ _ _ _ _ _ r hr;simp only[B2t]at this;omega
theorem F9w(j:cG)(a b:cF)(i:Nat):0<=(P1 j a b).getD i 0/\(P1 j a b).getD i 0<4:=by
 by_cases h:i<(P1 j a b).length
 ·exact F9x j a b _ (B8 0 h)
 ·simp[List.getD,List.getElem?_eq_none (by omega:(P1 j a b).length<=i)]
def G58(f:Four)(i v:Int):Four:=if i=0 then⟨v,f.I1,f.I2,f.I3⟩else if i=1 then⟨f.I0,v,f.I2,f.I3⟩else if i=2 then⟨f.I0,f.I1,v,f.I3⟩else⟨f.I0,f.I1,f.I2,v⟩
def jsS(sl:List Int)(rs:List Row)(base:Int)(k:Nat)(f:Four):Four:=if 0<=base+(k:Nat)/\base+(k:Nat)<rs.length then G58 f (sl.getD k 0) (rs.getD (base+(k:Nat)).toNat dF_).fM else f
def G45(j:cG)(a b:cF)(rs:List Row)(base:Int):Four:=itr (jsS (P1 j a b) rs base) (P1 j a b).length ⟨0,0,0,0⟩
def jst(j:cG)(a b:cF)(rs:List Row)(base:Int):cG:= {j with cQ:=G45 j a b rs base}
theorem D5s(j:cG)(a b:cF)(rs:List Row)(base:Int)(ha: ∀f∈a.cK,f.Shape.cJ.length<=1048576)(hb: ∀f∈b.cK,f.Shape.cJ.length<=1048576)(h0:0<=base/\base<=100000000):
  cA_ D47 [.agg j.enc, .agg a.enc, .agg b.enc,A4 14 Row.enc dF_ rs,sI base] [] (.agg (jst j a b rs base).enc) []:=by
 have hsl:=F65 j a b
 have hat:=F9w j a b;unfold jst G45;refine M3 48 [(10,some (some 24))] hm A6 Tryz.func112 rfl (st_ ?_);refine A0 (D5r j a b ha hb) rfl ?_;generalize P1 j a b=sl at hsl hat⊢;refine st_ ?_;refine B1 hm (ι:= {i:Nat // i<=sl.length}) (λi=> [(3, .cA,A4 14 Row.enc dF_ rs),(4, .cA,sI base),(5, .cA, .ptr 96 0 0 1),(10, .cA, .ptr 176 0 0 1),(11, .cA, .ptr 192 0 0 1),(19, .cA,A4 1 C6 0 sl),(20, .cA,sI sl.length),(21, .cA,sI (i.1:Nat))]) (λi=> [(96, .box j.enc),(176, .box cG.zero),(192, .box [sI ((itr (jsS sl rs base) i.1 ⟨0,0,0,0⟩).I0),sI ((itr (jsS sl rs base) i.1 ⟨0,0,0,0⟩).I1),sI ((itr (jsS sl rs base) i.1 ⟨0,0,0,0⟩).I2),sI ((itr (jsS sl rs base) i.1 ⟨0,0,0,0⟩).I3)])]) (λi=>sl.length-i.1) ⟨0,Nat.zero_le _⟩ ?_ ?_
 ·simp only[J3,cG.zero];refine B0 [] [] ?_;simp only[go_sem,go_sem_proc]
 ·rintro⟨k,hk⟩;dsimp only;have hn:itr (jsS sl rs base) (k+1) ⟨0,0,0,0⟩=jsS sl rs base k (itr (jsS sl rs base) k ⟨0,0,0,0⟩):=H6 ..
  have hfin:sl.length<=k->itr (jsS sl rs base) k ⟨0,0,0,0⟩=itr (jsS sl rs base) sl.length ⟨0,0,0,0⟩:=λh=>by rw[show k=sl.length by omega]
  generalize itr (jsS sl rs base) k ⟨0,0,0,0⟩=f at hn hfin⊢;have hw:IntKind.i64.wrap (base+(k:Nat))=base+(k:Nat):=by rw[IntKind.wrap_i64];omega
  simp only[go_sem,go_sem_proc,cG.zero,hw];by_cases hlt:k<sl.length;rotate_left
  ·rw[if_neg (by omega),<-hfin (by omega)];exact eE_
  rw[if_pos (by omega)];refine⟨bE_,?_⟩;have hs:=hat k;rw[jsS.eq_1 sl rs base k f]at hn;generalize sl.getD k 0=s at hs hn⊢;by_cases hc:0<=base+(k:Nat)/\base+(k:Nat)<rs.length
  ·rw[if_pos (by simpa using hc)];rw[if_pos hc]at hn;refine⟨by omega,by omega,?_⟩;obtain rfl |rfl |rfl |rfl:s=0\/s=1\/s=2\/s=3:=by omega
   all_goals
    simp only[G58,Int.reduceEq,if_true,if_false]at hn;refine st_ ?_;refine A8 ⟨k+1,by omega⟩ (by show sl.length-(k+1)<sl.length-k;omega) ?_;simp only[hn];exact B0 [] [] se_
  ·rw[if_neg (by simpa using hc)];rw[if_neg hc]at hn;refine A8 ⟨k+1,by omega⟩ (by show sl.length-(k+1)<sl.length-k;omega) ?_;simp only[hn];refine B0 [] [] (st_ ?_);exact eE_
def csP(rs:List Row)(base:Int)(i:Nat)(p:cO):cO:=⟨p.eY,p.fA,p.ID,A4y rs (base+2*(i:Nat)) p.eM,A4y rs (base+2*(i:Nat)+1) p.eW⟩
def csS(rs:List Row)(base:Int)(i:Nat)(s:List cO):List cO:=s.set i (csP rs base i (s.getD i dF_))
def E7n(l:List cO)(rs:List Row)(base:Int):List cO:=if(rs.length:Int)<base then l else itr (csS rs base) l.length l
def cst(c:cY)(rs:List Row)(base:Int):cY:=⟨c.dQ,⟨c.cL.dF,E7n c.cL.cP rs base⟩⟩
theorem F1o(rs:List Row)(base:Int)(n:Nat)(l:List cO):(itr (csS rs base) n l).length=l.length:=U1 (λs:List cO=>s.length) (λi s=>by simp[csS]) n l
theorem E7o(l:List cO)(rs:List Row)(base:Int):(E7n l rs base).length=l.length:=by unfold E7n;split;rfl;exact F1o ..
theorem C9y(c:cY)(rs:List Row)(base:Int)(hp:c.cL.cP.length<=1048576)(h0:0<=base/\base<=100000000):
  cA_ C9b [.agg c.enc,A4 14 Row.enc dF_ rs,sI base] [] (.agg (cst c rs base).enc) []:=by
 have hlP:=E7o c.cL.cP rs base
 have hcP:=E7n.eq_1 c.cL.cP rs base;unfold cst;refine M3 63 [(6,some (some 7))] hm A6 Tryz.func113 rfl ?_;simp only[go_sem,go_sem_proc,AV.offId];refine⟨bE_,?_⟩;refine B1 hm (ι:= {i:Nat // i<=c.cL.cP.length/\(0<i-> ¬(rs.length:Int)<base)}) (λi=> [(1, .cA,A4 14 Row.enc dF_ rs),(2, .cA,sI base),(3, .cA, .ptr 64 0 0 1),(6, .cA, .ptr 112 0 0 1),(7, .cA, .sl 240 0 c.cL.cP.length c.cL.cP.length),(21, .cA,sI c.cL.cP.length),(22, .cA,sI (i.1:Nat))]) (λi=> [(64, .box c.enc),(112, .box cY.zero),(240, .arr 6 (A9 cO.enc dF_ (itr (csS rs base) i.1 c.cL.cP)))]) (λi=>c.cL.cP.length-i.1) ⟨0,Nat.zero_le _,λh=>by omega⟩ ?_ ?_
 ·simp only[J3,cY.zero];refine B0 [] [] (st_ ?_)
  (repeat' (with_reducible apply And.intro)) <;> (exact⟨rfl,rfl,λi hi=>by dsimp only at hi⊢;rw[if_pos (by omega),Nat.sub_zero];exact H9 _⟩)
 ·rintro⟨k,hk,hkb⟩;dsimp only;have hn:itr (csS rs base) (k+1) c.cL.cP=(itr (csS rs base) k c.cL.cP).set k (csP rs base k ((itr (csS rs base) k c.cL.cP).getD k dF_)):=H6 ..
  have hl:=F1o rs base k c.cL.cP
  have hfin:c.cL.cP.length<=k->itr (csS rs base) k c.cL.cP=itr (csS rs base) c.cL.cP.length c.cL.cP:=λh=>by rw[show k=c.cL.cP.length by omega]
  have hz:k=0->itr (csS rs base) k c.cL.cP=c.cL.cP:=λh=>by subst h;rfl
  generalize itr (csS rs base) k c.cL.cP=v at hn hl hfin hz⊢;simp only[go_sem,go_sem_proc,cY.zero];by_cases hlt:k<c.cL.cP.length;rotate_left
  ·rw[if_neg (by omega)];have hv:v=E7n c.cL.cP rs base:=by
    rw[hcP];by_cases hz2:k=0
    ·have h0:c.cL.cP= []:=List.length_eq_zero_iff.1 (by omega)
     have:=hz hz2;rw[this];split
     ·rfl
     ·rw[h0];rfl
    ·rw[if_neg (hkb (by omega))];exact hfin (by omega)
   rw[<-hv,hl];exact⟨rfl,D0 _⟩
  rw[if_pos (by omega)];by_cases hbl:(rs.length:Int)<base
  ·rw[if_pos (by simpa using hbl)];have hk0:k=0:=by
    rcases Nat.eq_zero_or_pos k with h |h
    ·exact h
    ·exact absurd hbl (hkb h)
   rw[hcP,if_pos hbl,hz hk0];exact⟨rfl,D0 _⟩
  rw[if_neg (by simpa using hbl)];refine⟨bE_,bE_,?_⟩;have hw1:IntKind.i64.wrap (2*(k:Nat))=2*(k:Nat):=by rw[IntKind.wrap_i64];omega
  have hw2:IntKind.i64.wrap (base+2*(k:Nat))=base+2*(k:Nat):=by rw[IntKind.wrap_i64];omega
  have hw3:IntKind.i64.wrap (base+2*(k:Nat)+1)=base+2*(k:Nat)+1:=by rw[IntKind.wrap_i64];omega
  simp only[hw1,hw2];refine A0 (B3s rs (base+2*(k:Nat)) (v.getD k dF_).eM) rfl ?_;simp only[go_sem,go_sem_proc,hw1,hw2,hw3];refine⟨⟨hl.symm,bE_⟩,hl.symm,⟨hl.symm,bE_⟩,hl.symm,?_⟩;refine A0 (B3s rs (base+2*(k:Nat)+1) (v.getD k dF_).eW) rfl (st_ ?_);refine⟨⟨hl.symm,bE_⟩,hl.symm,?_⟩;refine A8 ⟨k+1,by omega,λ_=>hbl⟩ (by show c.cL.cP.length-(k+1)<c.cL.cP.length-k;omega) ?_;simp only[hn];refine B0 [] [] (st_ ?_)
  (repeat' (with_reducible apply And.intro)) <;> first |exact A2y _ (by omega) rfl rfl |exact eE_
def B0x(x:Int)(y:Int):Bool:=let v1:=(A18 x);let v2:=(A18 y);((v1&&(!v2))||(decide (x<y)))
theorem E3j(x:Int)(y:Int):cA_ E10 [sI x,sI y] [] (sB (B0x x y)) []:=by
 refine en1 hm A6 Tryz.func188 rfl rfl ?_;have:=C2w
 have:=B0x.eq_1 x y;exact K1
theorem G6x(x y:Int):B0x x y=decide (x<y):=by unfold B0x A18;simp
theorem B70(x:Int):cA_ D1c [sI x] [] (sB false) []:=by refine en1 hm A6 Tryz.func189 rfl rfl (st_ ?_);simp
def F7s(l:List Int):Prop:= ∀i j:Nat,i<j->j<l.length->l.getD i 0<l.getD j 0
theorem G47(x:Int)(l:List Int)(ha:F7s l): ∃i,i<=l.length/\(∀k,k<i->l.getD k 0<x)/\ ∀k,i<=k->k<l.length->x<=l.getD k 0:=by
 have key: ∀n,n<=l.length-> ∃i,i<=n/\(∀k,k<i->l.getD k 0<x)/\ ∀k,i<=k->k<n->x<=l.getD k 0:=by
  intro n;induction n with
  |zero=>intro _;exact⟨0,Nat.le_refl _,λk h=>by omega,λk _ h=>by omega⟩
  |succ n ih=>
   intro hn;obtain⟨i,h1,h2,h3⟩:=ih (by omega);by_cases h:l.getD n 0<x
   ·refine⟨n+1,Nat.le_refl _,λk hk=> ?_,λk h1 h2=>by omega⟩;rcases Nat.lt_succ_iff_lt_or_eq.1 hk with hk |rfl
    ·have:=ha k n hk (by omega);omega
    ·exact h
   ·refine⟨i,by omega,h2,λk hk hkn=> ?_⟩;rcases Nat.lt_succ_iff_lt_or_eq.1 hkn with hk2 |rfl
    ·exact h3 k hk hk2
    ·omega
 exact key l.length (Nat.le_refl _)
theorem E3d(l:List Int)(x:Int)(hl:l.length<=1048576)(ha:F7s l): ∃i:Nat,cA_ B87 [A4 1 C6 0 l,sI x] [] (.tup [sI (i:Nat),sB (l.contains x)]) []:=by
 obtain⟨i,h1,h2,h3⟩:=G47 x l ha;have hc:l.contains x=(decide (i<l.length)&&(l.getD i 0==x)):=by
  rw[Bool.eq_iff_iff];simp only[List.contains_iff_mem,Bool.and_eq_true,decide_eq_true_eq,beq_iff_eq];constructor
  ·intro hm;obtain⟨k,hk,hx⟩:=List.getElem_of_mem hm;have hx':l.getD k 0=x:=by simp[List.getD,hk,hx]
   have:i=k:=by
    rcases Nat.lt_trichotomy i k with h |h |h
    ·have g1:=h3 i (Nat.le_refl _) (by omega)
     have g2:=ha i k h hk;omega
    ·exact h
    ·have:=h2 k h;omega
   subst this;exact⟨hk,hx'⟩
  ·rintro⟨hk,rfl⟩;exact B8 0 hk
 refine⟨i,?_⟩;rw[hc];refine enT hm A6 Tryz.func109 rfl rfl (st_ ?_);refine B1 hm (ι:= {p:Nat×Nat // p.1<=i/\i<=p.2/\p.2<=l.length}) (λp=> [(0, .cA,A4 1 C6 0 l),(1, .cA,sI x),(6, .cA,sI l.length),(7, .cA,sI (p.1.1:Nat)),(8, .cA,sI (p.1.2:Nat))]) (λ_=> []) (λp=>p.1.2-p.1.1) ⟨(0,l.length),Nat.zero_le _,h1,Nat.le_refl _⟩ ?_ ?_
 ·refine B0 [] [] ?_;simp only[go_sem,go_sem_proc]
 ·rintro⟨⟨a,b⟩,q1,q2,q3⟩;dsimp only at q1 q2 q3⊢;refine st_ ?_;by_cases hab:a<b;rotate_left
  ·obtain⟨rfl,rfl⟩:a=i/\i=b:=⟨by omega,by omega⟩;rw[if_neg (by exact_mod_cast hab)];refine⟨λ_=>by omega,λe=>by simp only[Bool.and_eq_true,decide_eq_true_eq]at e;omega,?_⟩;refine A0 (B70 (l.getD a 0)) rfl (st_ ?_);refine A0 (B70 x) rfl (st_ ?_);refine⟨λg=>⟨g,λe=> ?_⟩,?_⟩
   ·rw[e,decide_eq_true (by omega)];rfl
   ·by_cases g:a<l.length
    ·rw[if_pos (by omega),decide_eq_true g,Bool.true_and]
    ·rw[if_neg (by omega),decide_eq_false g,Bool.false_and]
  rw[if_pos (by omega)];have hw:IntKind.i64.wrap ((IntKind.u64.wrap (IntKind.i64.wrap ((a:Int)+(b:Int)))).fdiv (2^min 1 64))=(((a+b) / 2:Nat):Int):=by rw[F4z (n:=(a:Int)+b) (by omega) (by omega),G3s (n:=(a:Int)+b) (by omega) (by omega),show((2:Int)^min 1 64)=2 by rfl,Int.fdiv_eq_ediv_of_nonneg _ (by omega),F4z (by omega) (by omega)];omega
  rw[hw];have q4:a<=(a+b) / 2/\(a+b) / 2<b:=by omega
  generalize(a+b) / 2=h at q4;refine⟨by omega,by omega,?_⟩;rw[Int.toNat_natCast];refine A0 (E3j (l.getD h 0) x) rfl ?_;rw[G6x];refine st_ ?_;by_cases hx:l.getD h 0<x
  ·rw[if_pos hx];have:h<i:=by
    rcases Nat.lt_or_ge h i with g |g
    ·exact g
    ·have:=h3 h g (by omega);omega
   refine A8 ⟨(h+1,b),by dsimp only;omega,by dsimp only;omega,by dsimp only;omega⟩ (by show b-(h+1)<b-a;omega) ?_;refine B0 [] [] (st_ ?_);exact eE_
  ·rw[if_neg hx];have:i<=h:=by
    rcases Nat.lt_or_ge h i with g |g
    ·exact absurd (h2 h g) hx
    ·exact g
   refine A8 ⟨(a,h),by dsimp only;omega,by dsimp only;omega,by dsimp only;omega⟩ (by show h-a<b-a;omega) ?_;refine B0 [] [] ?_;simp only[go_sem,go_sem_proc]
def A3d(w:Api.World)(x:B3)(B:List cF)(S:List cE)(R:List Row)(A:List Int):List (Nat×A7):=[(6, .box (pbC w x B.length (.sl 3 0 S.length S.length) (.sl 4 0 R.length R.length) (.sl 5 0 A.length A.length))),(1, .arr 20 (A9 cF.enc dF_ B)),(3, .frz 5 (A9 cE.enc dF_ S)),(4, .frz 14 (A9 Row.enc dF_ R)),(5, .arr 1 (A9 C6 0 A))]
attribute [go_sem] pbC A3d
def C3y(w:Api.World)(x:B3)(B:List cF)(S:List cE)(R:List Row)(A:List Int)(id:Int):List (Nat×A7):=(48, .box [.ptr 6 0 0 1])::(64, .box [sI id])::A3d w x B S R A
attribute [go_sem] C3y
theorem C7i {w:Api.World}{x:B3}{B:List cF}{S:List cE}{R:List Row}{A:List Int}:okO (A3d w x B S R A):=by
 refine⟨by simp[A3d],λp hp cs e j hj=> ?_⟩;simp only[A3d,List.mem_cons,List.not_mem_nil,or_false]at hp;rcases hp with rfl |rfl |rfl |rfl |rfl
 ·simp only[A7.box.injEq]at e;subst e;simp[pbC,F0,AV.ids,A4]at hj;rcases hj with rfl |rfl |rfl |rfl <;> rfl
 all_goals cases e
theorem D8o {w:Api.World}{x:B3}{B:List cF}{S:List cE}{R:List Row}{A:List Int}{id:Int}:okO (C3y w x B S R A id):=by
 refine⟨by simp[C3y,A3d],λp hp cs e j hj=> ?_⟩;simp only[C3y,A3d,List.mem_cons,List.not_mem_nil,or_false]at hp;rcases hp with rfl |rfl |rfl |rfl |rfl |rfl |rfl
 ·simp only[A7.box.injEq]at e;subst e;simp[F0,AV.ids]at hj;subst hj;rfl
 ·simp only[A7.box.injEq]at e;subst e;simp[F0,AV.ids]at hj
 ·simp only[A7.box.injEq]at e;subst e;simp[pbC,F0,AV.ids,A4]at hj;rcases hj with rfl |rfl |rfl |rfl <;> rfl
 all_goals cases e
theorem F4q(w:Api.World)(x:B3)(B:List cF)(S:List cE)(R:List Row)(A:List Int)(id i:Int)(h0:0<=i)(h1:i<B.length):
  cA_ A4c [sI i, .ptr 48 0 0 1, .ptr 64 0 0 1] (C3y w x B S R A id) (sB ((B.getD i.toNat dF_).ID==id)) (C3y w x B S R A id):=by
 refine I7 hm A6 Tryz.func191 rfl rfl (st_ ?_);refine⟨bE_,?_⟩;refine B6 [.cA] [] [] (st_ ?_);exact eE_
theorem C75(w:Api.World)(x:B3)(B:List cF)(S:List cE)(R:List Row)(A:List Int)(id:Int)(hb: ∀i∈J5 w x,0<=i/\i<B.length)(hl:(J5 w x).length<=1000000000):
  cA_ B5u [.ptr 6 0 0 1,sI id] (A3d w x B S R A) (.tup [.agg (pfR w x B id).1.enc,sI ((pfR w x B id).2)]) (A3d w x B S R A):=by
 have hF:=A7j (J5 w x) A4c [] [.ptr 48 0 0 1, .ptr 64 0 0 1] (C3y w x B S R A id) (λi=>(B.getD i.toNat dF_).ID==id) hl D8o
  (by intro j hj;simp[AV.ids,F0]at hj;rcases hj with rfl |rfl <;> rfl) (λi hi=>F4q w x B S R A id i (hb i hi).1 (hb i hi).2)
 have hr:=pfR.eq_1 w x B id
 have hk:=E2w (p:=λi=>(B.getD i.toNat dF_).ID==id) (l:=J5 w x);rw[show B1p (λi=>(B.getD i.toNat dF_).ID==id) (J5 w x)=pfK w x B id from rfl]at hF hk;generalize pfK w x B id=k at hF hr hk;refine D31 30 [(4,some (some 20)),(5,none)] hm A6 Tryz.func111 rfl (st_ ?_);refine M1 hF D8o D8o (by simp[C3y,A3d]) (by simp[C3y,A3d,pbC,upd,A4,go_sem,go_sem_proc]) (by simp[C3y,A3d]) ?_ rfl ?_
 ·intro a ha j hj;simp only[List.mem_cons,List.not_mem_nil,or_false]at ha;rcases ha with rfl |rfl
  ·simp[AV.ids]at hj
  ·simp[AV.ids,F0]at hj;rcases hj with rfl |rfl <;> rfl
 refine st_ ?_;by_cases hn:k<0
 ·rw[if_pos hn]at hr⊢;rw[hr];refine B6 [.eQ, .cA] [] [] ?_;simp only[go_sem,go_sem_proc,zB];exact eE_
 rw[if_neg hn]at hr⊢;rw[hr];have hbk:=hb _ (B8 (l:=J5 w x) (i:=k.toNat) 0 (by omega));refine⟨by omega,by omega,?_⟩;refine B6 [.cA, .cA] [] [] (st_ ?_);exact eE_
theorem F1e {w:Api.World}{x:B3}{B:List cF}{S:List cE}{R:List Row}{A:List Int}{id:Int}: ∀a∈ [AV.ptr 6 0 0 1,sI id],∀i∈a.ids,(ofL (A3d w x B S R A) i).isSome:=by
 intro a ha j hj;simp only[List.mem_cons,List.not_mem_nil,or_false]at ha;rcases ha with rfl |rfl
 ·simp[AV.ids]at hj;subst hj;rfl
 ·simp[AV.ids]at hj
def E0c(s:List Row×List Int):Prop:= ∀a∈s.2,0<=a/\a<=(s.1.length:Int)
theorem E65 {l:List Row}{s:List Row×List Int}(h:E0c s):E0c (A9r l s):=by
 intro a ha;simp only[A9r,List.mem_append,List.mem_singleton,List.length_append]at ha⊢;rcases ha with ha |rfl
 ·have:=h a ha;omega
 ·omega
theorem F53(w:Api.World)(x:B3): ∀n,E0c (jRA w x n)
 |0=>λa ha=>by cases ha
 |n+1=>by rw[show jRA w x (n+1)=A9r (D18 w x n) (jRA w x n)from H6 ..];exact E65 (F53 w x n)
theorem F5e(w:Api.World)(x:B3): ∀n,E0c (cRA w x n)
 |0=>F53 w x _
 |n+1=>by rw[show cRA w x (n+1)=A9r (D71 w x n ((cRA w x n).1.length:Int)) (cRA w x n)from H6 ..];exact E65 (F5e w x n)
theorem F7y(w:Api.World)(x:B3):E2e (J5 w x):=E99 (F82 _)
theorem D7s {l:List Int}{n:Int}(h:S9 l n=true):F7s l/\l.length<=n.toNat:=by
 have key: ∀k,k<=l.length-> ∃s,J8 (M8 l n) k (-1)= .inl s/\(k:Int)-1<=s/\(0<k->s<n)/\(∀j,j<k->l.getD j 0<=s)/\ ∀i j:Nat,i<j->j<k->l.getD i 0<l.getD j 0:=by
  intro k;induction k with
  |zero=>intro _;exact⟨-1,rfl,by omega,λh=>by omega,λj hj=>by omega,λi j hi hj=>by omega⟩
  |succ k ih=>
   intro hk;obtain⟨s,h1,h2,h3,h4,h5⟩:=ih (by omega);have hs:J8 (M8 l n) (k+1) (-1)=M8 l n k s:=A1v h1 rfl;unfold M8 at hs;split at hs
   ·exfalso;have h4:=A5j hs (show k+1<=l.length by omega);unfold S9 at h;rw[show J8 (M8 l n) l.length (-1)= .inr false from h4]at h;cases h
   ·rename_i hc;simp only[Bool.or_eq_true,decide_eq_true_eq,not_or,Int.not_le]at hc;refine⟨_,hs,by omega,λ_=>by omega,λj hj=> ?_,λi j hi hj=> ?_⟩
    ·rcases Nat.lt_succ_iff_lt_or_eq.1 hj with hj |rfl
     ·have:=h4 j hj;omega
     ·omega
    ·rcases Nat.lt_succ_iff_lt_or_eq.1 hj with hj |rfl
     ·exact h5 i j hi hj
     ·have:=h4 i hi;omega
 obtain⟨s,_,h2,h3,_,h5⟩:=key l.length (Nat.le_refl _);refine⟨h5,?_⟩;rcases Nat.eq_zero_or_pos l.length with h |h
 ·omega
 ·have:=h3 h;omega
theorem F2n: ∀ {l:List Int} {a n:Nat},E2e l->(∀y∈l,(a:Int)<=y/\y<(n:Int))->l.length<=n-a
 | [],_,_,_,_=>Nat.zero_le _
 |b::l,a,n,h,hb=>by
  have hb0:=hb b (List.mem_cons_self ..)
  have h2:=(List.pairwise_cons.1 h)
  have:=F2n (l:=l) (a:=b.toNat+1) (n:=n) h2.2 (λy hy=>⟨by have:=h2.1 y hy;omega,(hb y (List.mem_cons_of_mem _ hy)).2⟩);rw[List.length_cons];omega
theorem G6r {P:Program}{L:List (Nat×List Bool)}{f:FuncId}{fn:Func}{ac:ACode}{args:List AV}{r:AV}(N:Nat)(rvs:List (Nat×Option (Option Nat)))(hm:P.follows .mixedOrders=true)(hL:okE P L=true)(hf:P.funcs[f]? =some fn)(hc:N9 P L fn.ntmps (fn.body.getD .skip)=some ac)
  (h: @Wpi P N [] ac (C2p N rvs [r]) (A0s args []))(hN:fn.ntmps=N:=by kernel_rfl)(hts:A6a P fn.results.toList=some rvs:=by kernel_rfl)(hb:fn.body=some (fn.body.getD .skip):=by kernel_rfl)(hname:(fn.name != "runtime.NumGoroutine")=true:=by kernel_rfl)(hlt:(rvs.all λp=>p.1.blt N)=true:=by decide)(hl:(args.length.ble N)=true:=by kernel_rfl):
  D5 P f args [] r []:=B6u (ac:= .mark ac) hm hf hb hname (have e:F9 P fn.ntmps (fn.body.getD .skip)=some ac.strip:=cs2 hL hc;e) hN hts hlt hl h
def sol(w:Api.World)(x:B3):List Row×List cE:=A00 (cRA w x x.cB.length).1 (S0 w x) w.cM.eL
def G6a(b:cF)(s:cE):cF:=W6 {b with dL:=s.dL,cZ:=s.cZ}
def A7k(w:Api.World)(x:B3)(n:Nat):List cF:=itr (λk B=>if(x.cC.contains ((J5 w x).getD k 0)&&(B.getD ((J5 w x).getD k 0).toNat dF_).cS==3)=true then B.set ((J5 w x).getD k 0).toNat (G6a ((vB w x x.cC.length).getD ((J5 w x).getD k 0).toNat dF_) ((sol w x).2.getD k dF_))else B) n w.cC
def G6b(w:Api.World)(x:B3)(k:Nat)(j:cG):cG:=jst j (fB w x j.cU).1 (fB w x j.cV).1 (sol w x).1 ((cRA w x x.cB.length).2.getD k 0)
def B0l(w:Api.World)(x:B3)(n:Nat):List cG:=itr (λk J=>J.set (x.cD.getD k 0).toNat (G6b w x k (w.cD.getD (x.cD.getD k 0).toNat dF_))) n w.cD
def B0k(w:Api.World)(x:B3)(n:Nat):List cY:=itr (λk C=>C.set (x.cB.getD k 0).toNat (cst (w.cB.getD (x.cB.getD k 0).toNat dF_) (sol w x).1 ((cRA w x x.cB.length).2.getD (x.cD.length+k) 0))) n w.cB
theorem E89(w:Api.World)(x:B3)(n:Nat):(A7k w x n).length=w.cC.length:=U1 (λs:List cF=>s.length) (λi s=>by split <;> simp) n _
theorem C8g(w:Api.World)(x:B3)(n:Nat):(B0l w x n).length=w.cD.length:=U1 (λs:List cG=>s.length) (λi s=>by simp) n _
theorem C8f(w:Api.World)(x:B3)(n:Nat):(B0k w x n).length=w.cB.length:=U1 (λs:List cY=>s.length) (λi s=>by simp) n _
theorem G3k(w:Api.World)(x:B3):(sol w x).1.length=(cRA w x x.cB.length).1.length/\(sol w x).2.length=(S0 w x).length:=by
 have h:=λk=>U1 (λs:(List Row)×(List cE)=>s.1.length) (f:=M4) (λi s=>by unfold M4;simp) k
 have h2:=λk=>U1 (λs:(List Row)×(List cE)=>s.2.length) (f:=M4) (λi s=>by unfold M4;simp) k;unfold sol A00;exact⟨(h _ _).trans (E38 _),(h2 _ _).trans (E8d _ _)⟩
instance(w:Api.World)(x:B3):Decidable (pOk w x):=inferInstanceAs (Decidable (_/\_/\_/\_))
def D89(w:Api.World)(x:B3):Api.World:=
 if A6o w x (A1b w x)=false then w
 else if ¬pOk w x\/(S0 w x).length=0 then w
 else {w with cC:=A7k w x (J5 w x).length,cD:=B0l w x x.cD.length,cB:=B0k w x x.cB.length}
theorem E02(w:Api.World)(x:B3)(hw:Wsm w)(hx:Ism x)(h:A6o w x (A1b w x)=false):cA_ A4n [.agg w.enc, .agg x.enc] [] (.agg w.enc) []:=by have hA:=A9t w x hw hx;rw[h]at hA;refine M3 189 [(4,some (some 11))] hm A6 Tryz.func57 rfl (st_ ?_);refine J2 ev_ K0 (U3 w hw) (st_ ?_);refine A0 hA rfl ?_;simp only[go_sem,go_sem_proc]
theorem E03(w:Api.World)(x:B3)(hw:Wsm w)(hx:Ism x)(ha:A6o w x (A1b w x)=true)(h: ¬pOk w x):cA_ A4n [.agg w.enc, .agg x.enc] [] (.agg w.enc) []:=by have hA:=A9t w x hw hx;rw[ha]at hA;refine M3 189 [(4,some (some 11))] hm A6 Tryz.func57 rfl (st_ ?_);refine J2 ev_ K0 (U3 w hw) (st_ ?_);refine A0 hA rfl (st_ ?_);refine A0 (E5p w x hw hx h) rfl ?_;simp only[go_sem,go_sem_proc]
theorem E04(w:Api.World)(x:B3)(hw:Wsm w)(hx:Ism x)(ha:A6o w x (A1b w x)=true)(h:pOk w x)(h0:(S0 w x).length=0)(hP: ∀c∈w.cB,c.cL.cP.length<=2):cA_ A4n [.agg w.enc, .agg x.enc] [] (.agg w.enc) []:=by
 have hA:=A9t w x hw hx;rw[ha]at hA;refine M3 189 [(4,some (some 11))] hm A6 Tryz.func57 rfl (st_ ?_);refine J2 ev_ K0 (U3 w hw) (st_ ?_);refine A0 hA rfl (st_ ?_);have hN:=C82 w x hw hx h hP
 have hE:S0 w x= []:=List.length_eq_zero_iff.1 h0;rw[hE]at hN;refine J2 ev_ K0 hN (st_ ?_);rw[if_pos (by rfl)];trivial
end Go.Abs
end
