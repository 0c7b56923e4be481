/- A part of the proof: contracts of functions that the statement reaches. -/
import Derived.Test.YtchcbiiammkhgaaGreatMQ
set_option linter.unusedSimpArgs false
set_option linter.unusedVariables false
set_option linter.unnecessarySimpa false
set_option maxRecDepth 100000
set_option maxHeartbeats 2000000
noncomputable section
namespace Go.Abs
open Go.Proofs
open Api
def pbG(w:Api.World)(x:B1)(B:List Body)(S:List SolverBody)(R:List Row)(A:List Int)(o:A5):List (Nat×A5):=[(6, .box (pbC w x B.length (.sl 3 0 S.length S.length) (.sl 4 0 R.length R.length) (.sl 5 0 A.length A.length))),(1, .arr 20 (A8 Body.enc default B)),(3,o),(4, .arr 14 (A8 Row.enc default R)),(5, .arr 1 (A8 B9 0 A))]
attribute [go_sem] pbG
def pOk(w:Api.World)(x:B1):Prop:=F2 w=0/\S2 x.Bodies w.Bodies.length=true/\S2 x.Contacts w.Contacts.length=true/\S2 x.Joints w.Joints.length=true
theorem E2m(w:Api.World)(x:B1)(hw:Wsm w)(hx:Ism x)(h: ¬pOk w x):A1 Tryz.prog B7m [.agg w.enc, .agg x.enc] [] (.sc (.pointer none)) []:=by
 refine en1 hm A4 Tryz.func107 rfl rfl ?_;simp only[go_sem,go_sem_proc];refine A0 (S3 w hw) rfl ?_;simp only[go_sem,go_sem_proc];refine A0 (A3x x.Bodies w.Bodies.length hx.1) rfl ?_;simp only[go_sem,go_sem_proc];refine A0 (A3x x.Contacts w.Contacts.length hx.2.1) rfl ?_;simp only[go_sem,go_sem_proc];refine A0 (A3x x.Joints w.Joints.length hx.2.2) rfl ?_;simp only[go_sem,go_sem_proc];unfold pOk at h;rw[if_pos]
 ·trivial
 ·cases h2:S2 x.Bodies w.Bodies.length <;> cases h3:S2 x.Contacts w.Contacts.length <;> cases h4:S2 x.Joints w.Joints.length <;> simp[h2,h3,h4]at h⊢;exact h
theorem B8z {l:List Int}{n:Int}(h:S2 l n=true): ∀i∈l,0<=i/\i<n:=by
 have key: ∀k,k<=l.length-> ∃s,D4 (L2 l n) k (-1)= .inl s/\ -1<=s/\ ∀j,j<k->0<=l.getD j 0/\l.getD j 0<n:=by
  intro k;induction k with
  |zero=>intro _;exact⟨-1,rfl,by omega,λj hj=>by omega⟩
  |succ k ih=>
   intro hk;obtain⟨s,h1,h2,h3⟩:=ih (by omega);have hs:D4 (L2 l n) (k+1) (-1)=L2 l n k s:=N2 h1 rfl;unfold L2 at hs;split at hs
   ·exfalso;have h4:=Z2 hs (show k+1<=l.length by omega);unfold S2 at h;rw[show D4 (L2 l n) l.length (-1)= .inr false from h4]at h;cases h
   ·rename_i hc;simp only[Bool.or_eq_true,decide_eq_true_eq,not_or,Int.not_le]at hc;refine⟨_,hs,by omega,λj hj=> ?_⟩;rcases Nat.lt_succ_iff_lt_or_eq.1 hj with hj |rfl
    ·exact h3 j hj
    ·omega
 intro i hi;obtain⟨k,hk,rfl⟩:=List.getElem_of_mem hi;obtain⟨_,_,_,h3⟩:=key l.length (Nat.le_refl _);have:=h3 k hk;rwa[show l.getD k 0=l[k]by simp[List.getD,hk]]at this
theorem D9b(w:Api.World)(x:B1): ∀i∈H4 w x,0<=i/\i<(w.Bodies.length:Int):=λi hi=>D9a w x i (D4x.1 hi)
theorem G0g(w:Api.World)(x:B1){n:Nat}(h:n<(H4 w x).length):vS w x (n+1)=vS w x n++ [A3c ((vB w x x.Bodies.length).getD ((H4 w x).getD n 0).toNat default)]:=by unfold vS;rw[K9 0 h,List.map_append];rfl
theorem F4h(w:Api.World)(x:B1)(n:Nat)(h:n<=(H4 w x).length):(vS w x n).length=n:=by unfold vS;rw[List.length_map,List.length_take];omega
theorem D06(w:Api.World)(x:B1)(hP: ∀c∈w.Contacts,c.Manifold.Points.length<=2)(hC: ∀i∈x.Contacts,0<=i/\i<(w.Contacts.length:Int)): ∀n,n<=x.Contacts.length->(cRA w x n).1.length<=4*x.Joints.length+4*n/\(cRA w x n).2.length=x.Joints.length+n
 |0,_=>by have:=D9m w x x.Joints.length;exact⟨this.1,this.2⟩
 |n+1,h=>by
  have ih:=D06 w x hP hC n (by omega);rw[show cRA w x (n+1)=A9k (D4y w x n ((cRA w x n).1.length:Int)) (cRA w x n)from E4 ..];generalize cRA w x n=s at ih⊢;have h1:=hC _ (B7 (l:=x.Contacts) (i:=n) 0 (by omega))
  have h2:=hP _ (B7 (l:=w.Contacts) (i:=(x.Contacts.getD n 0).toNat) default (by omega))
  have h3:(D4y w x n (s.1.length:Int)).length<=2*(w.Contacts.getD (x.Contacts.getD n 0).toNat default).Manifold.Points.length:=E0p ..;simp only[A9k,List.length_append,List.length_singleton];omega
theorem F1y:Body.sm zB:=⟨by decide,λf hf=>by cases hf⟩
theorem D1j {w:Api.World}(hw:Wsm w)(x:B1)(id:Int):Body.sm (fB w x id).1:=by
 unfold fB pfR;have hk:=D9l (p:=λi=>((vB w x x.Bodies.length).getD i.toNat default).ID==id) (l:=H4 w x);rw[show B1c (λi=>((vB w x x.Bodies.length).getD i.toNat default).ID==id) (H4 w x)=pfK w x (vB w x x.Bodies.length) id from rfl]at hk;split
 ·exact F1y
 ·have hi:=D9b w x _ (B7 (l:=H4 w x) (i:=(pfK w x (vB w x x.Bodies.length) id).toNat) 0 (by omega))
  exact E27 hw x x.Bodies.length _ (B7 default (by rw[B4t];omega))
theorem D6w {w:Api.World}{x:B1}{B:List Body}{S:List SolverBody}{R:List Row}{A:List Int}{id:Int}: ∀a∈ [AV.ptr 6 0 0 1,sI id],∀i∈a.ids,(ofL (pbO w x B S R A) i).isSome:=by
 intro a ha j hj;simp only[List.mem_cons,List.not_mem_nil,or_false]at ha;rcases ha with rfl |rfl
 ·simp[AV.ids]at hj;subst hj;rfl
 ·simp[AV.ids]at hj
theorem E8b {w:Api.World}{x:B1}{B:List Body}{S:List SolverBody}{R:List Row}{A:List Int}{l:List Row}: ∀a∈ [AV.ptr 6 0 0 1,A2 14 Row.enc default l],∀i∈a.ids,(ofL (pbO w x B S R A) i).isSome:=by
 intro a ha j hj;simp only[List.mem_cons,List.not_mem_nil,or_false]at ha;rcases ha with rfl |rfl
 ·simp[AV.ids]at hj;subst hj;rfl
 ·simp[AV.ids,A2]at hj
theorem C6s(w:Api.World)(x:B1)(hw:Wsm w)(hx:Ism x)(h:pOk w x)(hP: ∀c∈w.Contacts,c.Manifold.Points.length<=2):A1 Tryz.prog B7m [.agg w.enc, .agg x.enc] [] (.ptr 6 0 0 1) (pbO w x (vB w x x.Bodies.length) (S0 w x) (cRA w x x.Contacts.length).1 (cRA w x x.Contacts.length).2):=by
 obtain⟨hv,a1,a2,a3⟩:=h;have hBx:=B8z a1
 have hCx:=B8z a2
 have hJx:=B8z a3
 have hbl:=D9b w x
 have hbn:(H4 w x).length<=8000000:=Nat.le_trans (E39 w x) (E38 hx);obtain⟨hx1,hx2,hx3⟩:=hx;refine F0n hm A4 Tryz.func107 rfl rfl ?_;refine C4 [(2, .thaw, .fptr w.enc),(3, .thaw, .fptr x.enc),(4, .share, .sc (.pointer none))] [] (E0 hm ?_) ?_
 ·simp only[go_sem,go_sem_proc];refine C0 [] [] ?_;simp only[go_sem,go_sem_proc,A0g]
 refine C4 [(2, .share, .fptr w.enc),(3, .share, .fptr x.enc)] [] (E0 hm ?_) ?_
 ·simp only[go_sem,go_sem_proc];refine A0 (S3 w hw) rfl ?_;simp only[go_sem,go_sem_proc];refine A0 (A3x x.Bodies w.Bodies.length hx1) rfl ?_;simp only[go_sem,go_sem_proc];refine A0 (A3x x.Contacts w.Contacts.length hx2) rfl ?_;simp only[go_sem,go_sem_proc];refine A0 (A3x x.Joints w.Joints.length hx3) rfl ?_;rw[hv,a1,a2,a3];simp only[go_sem,go_sem_proc];rw[if_neg (by simp)];refine C0 [] [] ?_;simp only[go_sem,go_sem_proc]
 refine C4 [(2, .share, .fptr w.enc),(3, .share, .fptr x.enc),(5, .share, .ptr 6 0 0 1)] (pbG w x (w.Bodies) ([]) ([]) ([]) (.arr 5 (A8 SolverBody.enc default ([])))) (E0 hm ?_) ?_
 ·simp only[go_sem,go_sem_proc];refine K1 ev_ J8 (A9g w.Bodies hw.1) ?_;simp only[go_sem,go_sem_proc];refine A0 (D5o w x hw ⟨hx1,hx2,hx3⟩) rfl ?_;simp only[go_sem,go_sem_proc];refine C0 [(1,944),(6,1024)] [3,4,5] ?_;simp only[go_sem,go_sem_proc]
 refine C4 [(2, .share, .fptr w.enc),(3, .share, .fptr x.enc),(5, .share, .ptr 6 0 0 1)] (pbG w x (vB w x (x.Bodies.length)) ([]) ([]) ([]) (.arr 5 (A8 SolverBody.enc default ([])))) (C4 [(2, .share, .fptr w.enc),(3, .share, .fptr x.enc),(5, .share, .ptr 6 0 0 1),(65, .share,A2 1 B9 0 x.Bodies),(66, .share,sI x.Bodies.length),(67, .share,sI (0:Nat))] (pbG w x (w.Bodies) ([]) ([]) ([]) (.arr 5 (A8 SolverBody.enc default ([])))) (E0 hm ?_) (A3f ?_)) ?_
 ·simp only[go_sem,go_sem_proc];refine C0 [] [] ?_;simp only[go_sem,go_sem_proc]
 ·refine B0 hm (ι:= {k:Nat // k<=x.Bodies.length}) (λk=> [(2, .share, .fptr w.enc),(3, .share, .fptr x.enc),(5, .share, .ptr 6 0 0 1),(65, .share,A2 1 B9 0 x.Bodies),(66, .share,sI x.Bodies.length),(67, .share,sI (k.1:Nat))]) (λk=>pbG w x (vB w x (k.1)) ([]) ([]) ([]) (.arr 5 (A8 SolverBody.enc default ([])))) (λk=>x.Bodies.length-k.1) ⟨0,Nat.zero_le _⟩ ?_ ?_
  ·refine C0 [] [] ?_;simp only[go_sem,go_sem_proc];exact eE_
  ·rintro⟨k,hk⟩;dsimp only;have hn:vB w x (k+1)=(vB w x k).set (x.Bodies.getD k 0).toNat (V1 ((vB w x k).getD (x.Bodies.getD k 0).toNat default) w.Settings):=E4 ..
   have hl:=B4t w x k
   have hsm:=E27 hw x k
   have hfin:x.Bodies.length<=k->vB w x k=vB w x x.Bodies.length:=λh=>by rw[show k=x.Bodies.length by omega]
   generalize vB w x k=B at hn hl hsm hfin⊢;by_cases hlt:k<x.Bodies.length;rotate_left
   ·simp only[go_sem,go_sem_proc];rw[if_neg (by omega),<-hfin (by omega)];refine C0 [] [] ?_;simp only[go_sem,go_sem_proc]
   have hi:=hBx _ (B7 (l:=x.Bodies) (i:=k) 0 hlt);simp only[go_sem,go_sem_proc];rw[if_pos (by omega)];generalize x.Bodies.getD k 0=i at hn hi⊢;refine⟨bE_,by omega,?_⟩;refine A0 (C5r (B.getD i.toNat default) w.Settings (hsm _ (B7 default (by omega))).2) rfl ?_;simp only[go_sem,go_sem_proc];refine⟨by omega,?_⟩;refine A7 ⟨k+1,by omega⟩ (by show x.Bodies.length-(k+1)<x.Bodies.length-k;omega) ?_;simp only[hn];refine C0 [] [] ?_;simp only[go_sem,go_sem_proc]
   (repeat' (with_reducible apply And.intro)) <;> first |exact A2q _ (by omega) rfl rfl |exact eE_
 refine C4 [(2, .share, .fptr w.enc),(3, .share, .fptr x.enc),(5, .share, .ptr 6 0 0 1)] (pbG w x (vB w x x.Bodies.length) (vS w x ((H4 w x).length)) ([]) ([]) (.arr 5 (A8 SolverBody.enc default (vS w x ((H4 w x).length))))) (C4 [(2, .share, .fptr w.enc),(3, .share, .fptr x.enc),(5, .share, .ptr 6 0 0 1),(91, .share,A2 1 B9 0 (H4 w x)),(92, .share,sI ((H4 w x).length)),(93, .share,sI (0:Nat))] (pbG w x (vB w x x.Bodies.length) (vS w x (0)) ([]) ([]) (.arr 5 (A8 SolverBody.enc default (vS w x (0))))) (E0 hm ?_) (A3f ?_)) ?_
 ·rw[show vS w x 0= []from rfl];simp only[go_sem,go_sem_proc];refine C0 [] [] ?_;simp only[go_sem,go_sem_proc]
 ·refine B0 hm (ι:= {k:Nat // k<=(H4 w x).length}) (λk=> [(2, .share, .fptr w.enc),(3, .share, .fptr x.enc),(5, .share, .ptr 6 0 0 1),(91, .share,A2 1 B9 0 (H4 w x)),(92, .share,sI ((H4 w x).length)),(93, .share,sI (k.1:Nat))]) (λk=>pbG w x (vB w x x.Bodies.length) (vS w x (k.1)) ([]) ([]) (.arr 5 (A8 SolverBody.enc default (vS w x (k.1))))) (λk=>(H4 w x).length-k.1) ⟨0,Nat.zero_le _⟩ ?_ ?_
  ·refine C0 [] [] ?_;simp only[go_sem,go_sem_proc]
  ·rintro⟨k,hk⟩;dsimp only;have hn:k<(H4 w x).length->vS w x (k+1)=vS w x k++ [A3c ((vB w x x.Bodies.length).getD ((H4 w x).getD k 0).toNat default)]:=λh=>G0g w x h
   have hl:=F4h w x k hk
   have hfin:(H4 w x).length<=k->vS w x k=vS w x (H4 w x).length:=λh=>by rw[show k=(H4 w x).length by omega]
   have hBl:=B4t w x x.Bodies.length
   have hsm:=E27 hw x x.Bodies.length;generalize vS w x k=S at hn hl hfin⊢;by_cases hlt:k<(H4 w x).length;rotate_left
   ·simp only[go_sem,go_sem_proc];rw[if_neg (by omega),<-hfin (by omega)];refine C0 [] [] ?_;simp only[go_sem,go_sem_proc]
   have hi:=hbl _ (B7 (l:=H4 w x) (i:=k) 0 hlt);replace hn:=hn hlt;simp only[go_sem,go_sem_proc];rw[if_pos (by omega)];generalize(H4 w x).getD k 0=i at hn hi⊢;generalize vB w x x.Bodies.length=B at hn hBl hsm⊢;refine⟨bE_,by omega,?_⟩;refine A0 (B7n (B.getD i.toNat default) (hsm _ (B7 default (by omega))).2) rfl ?_;simp only[go_sem,go_sem_proc];refine⟨bE_,?_⟩;refine A7 ⟨k+1,by omega⟩ (by show(H4 w x).length-(k+1)<(H4 w x).length-k;omega) ?_;simp only[hn];refine C0 [] [] ?_;simp only[go_sem,go_sem_proc];exact eE_
 refine E91 3 5 (A8 SolverBody.enc default (S0 w x)) (by simp only[go_sem,go_sem_proc,S0]) ?_;rw[show vS w x (H4 w x).length=S0 w x from rfl];refine C4 [(2, .share, .fptr w.enc),(3, .share, .fptr x.enc),(5, .share, .ptr 6 0 0 1)] (pbG w x (vB w x x.Bodies.length) (S0 w x) ((jRA w x (x.Joints.length)).1) ((jRA w x (x.Joints.length)).2) (.frz 5 (A8 SolverBody.enc default (S0 w x)))) (C4 [(2, .share, .fptr w.enc),(3, .share, .fptr x.enc),(5, .share, .ptr 6 0 0 1),(116, .share,A2 1 B9 0 x.Joints),(117, .share,sI x.Joints.length),(118, .share,sI (0:Nat))] (pbG w x (vB w x x.Bodies.length) (S0 w x) ((jRA w x (0)).1) ((jRA w x (0)).2) (.frz 5 (A8 SolverBody.enc default (S0 w x)))) (E0 hm ?_) (A3f ?_)) ?_
 ·rw[show jRA w x 0=([],[])from rfl];simp only[go_sem,go_sem_proc];refine C0 [] [] ?_;simp only[go_sem,go_sem_proc];exact eE_
 ·refine B0 hm (ι:= {k:Nat // k<=x.Joints.length}) (λk=> [(2, .share, .fptr w.enc),(3, .share, .fptr x.enc),(5, .share, .ptr 6 0 0 1),(116, .share,A2 1 B9 0 x.Joints),(117, .share,sI x.Joints.length),(118, .share,sI (k.1:Nat))]) (λk=>pbG w x (vB w x x.Bodies.length) (S0 w x) ((jRA w x (k.1)).1) ((jRA w x (k.1)).2) (.frz 5 (A8 SolverBody.enc default (S0 w x)))) (λk=>x.Joints.length-k.1) ⟨0,Nat.zero_le _⟩ ?_ ?_
  ·refine C0 [] [] ?_;simp only[go_sem,go_sem_proc];exact eE_
  ·rintro⟨k,hk⟩;dsimp only;have hn:jRA w x (k+1)=A9k (C9l w x k) (jRA w x k):=E4 ..
   have hl:=D9m w x k
   have hfin:x.Joints.length<=k->jRA w x k=jRA w x x.Joints.length:=λh=>by rw[show k=x.Joints.length by omega]
   have hrl:(C9l w x k).length<=4:=C5o ..;generalize jRA w x k=s at hn hl hfin⊢;obtain⟨R,A⟩:=s;dsimp only[A9k]at hn hl hfin⊢;by_cases hlt:k<x.Joints.length;rotate_left
   ·simp only[go_sem,go_sem_proc];rw[if_neg (by omega),<-hfin (by omega)];refine C0 [] [] ?_;simp only[go_sem,go_sem_proc];exact eE_
   have hi:=hJx _ (B7 (l:=x.Joints) (i:=k) 0 hlt)
   have hr:=C9l.eq_1 w x k;simp only[go_sem,go_sem_proc];rw[if_pos (by omega)];generalize x.Joints.getD k 0=i at hr hi⊢;refine⟨bE_,hi,?_⟩;generalize w.Joints.getD i.toNat default=j at hr⊢;have hF:=λid=>B5a w x (vB w x x.Bodies.length) (S0 w x) R A id (by rw[B4t];exact hbl) (by omega)
   have hsa:=D1j hw x j.BodyA
   have hsb:=D1j hw x j.BodyB;unfold fB at hr hsa hsb;refine E6 (hF j.BodyA) A55 A55 (by simp[pbO]) (by simp[pbO,pbC,upd,A2,go_sem,go_sem_proc]) (by simp[pbO]) D6w rfl ?_;generalize pfR w x (vB w x x.Bodies.length) j.BodyA=a at hr hsa⊢;simp only[go_sem,go_sem_proc];refine E6 (hF j.BodyB) A55 A55 (by simp[pbO]) (by simp[pbO,pbC,upd,A2,go_sem,go_sem_proc]) (by simp[pbO]) D6w rfl ?_;generalize pfR w x (vB w x x.Bodies.length) j.BodyB=b at hr hsb⊢;simp only[go_sem,go_sem_proc];refine A5j (A8q j a.1 b.1 a.2 b.2 (S0 w x) w.Settings.TimeStep hsa.2 hsb.2) ?_;rw[<-hr];generalize C9l w x k=l at hn hrl⊢;simp only[A07,go_sem,go_sem_proc];refine E6 (B6y w x (vB w x x.Bodies.length) (S0 w x) R A l (by omega) (by omega)) A55 A55 (by simp[pbO]) (by simp[pbO,pbC,upd,A2,go_sem,go_sem_proc]) (by simp[pbO]) E8b rfl ?_;simp only[go_sem,go_sem_proc];refine A7 ⟨k+1,by omega⟩ (by show x.Joints.length-(k+1)<x.Joints.length-k;omega) ?_;simp only[hn];refine C0 [] [] ?_;simp only[go_sem,go_sem_proc];exact eE_
 refine C4 [(2, .share, .fptr w.enc),(3, .share, .fptr x.enc),(5, .share, .ptr 6 0 0 1)] (pbG w x (vB w x x.Bodies.length) (S0 w x) ((cRA w x (x.Contacts.length)).1) ((cRA w x (x.Contacts.length)).2) (.frz 5 (A8 SolverBody.enc default (S0 w x)))) (C4 [(2, .share, .fptr w.enc),(3, .share, .fptr x.enc),(5, .share, .ptr 6 0 0 1),(158, .share,A2 1 B9 0 x.Contacts),(159, .share,sI x.Contacts.length),(160, .share,sI (0:Nat))] (pbG w x (vB w x x.Bodies.length) (S0 w x) ((cRA w x (0)).1) ((cRA w x (0)).2) (.frz 5 (A8 SolverBody.enc default (S0 w x)))) (E0 hm ?_) (A3f ?_)) ?_
 ·rw[show cRA w x 0=jRA w x x.Joints.length from rfl];simp only[go_sem,go_sem_proc];refine C0 [] [] ?_;simp only[go_sem,go_sem_proc];exact eE_
 ·refine B0 hm (ι:= {k:Nat // k<=x.Contacts.length}) (λk=> [(2, .share, .fptr w.enc),(3, .share, .fptr x.enc),(5, .share, .ptr 6 0 0 1),(158, .share,A2 1 B9 0 x.Contacts),(159, .share,sI x.Contacts.length),(160, .share,sI (k.1:Nat))]) (λk=>pbG w x (vB w x x.Bodies.length) (S0 w x) ((cRA w x (k.1)).1) ((cRA w x (k.1)).2) (.frz 5 (A8 SolverBody.enc default (S0 w x)))) (λk=>x.Contacts.length-k.1) ⟨0,Nat.zero_le _⟩ ?_ ?_
  ·refine C0 [] [] ?_;simp only[go_sem,go_sem_proc];exact eE_
  ·rintro⟨k,hk⟩;dsimp only;have hn:cRA w x (k+1)=A9k (D4y w x k ((cRA w x k).1.length:Int)) (cRA w x k):=E4 ..
   have hl:=D06 w x hP hCx k hk
   have hfin:x.Contacts.length<=k->cRA w x k=cRA w x x.Contacts.length:=λh=>by rw[show k=x.Contacts.length by omega]
   generalize cRA w x k=s at hn hl hfin⊢;obtain⟨R,A⟩:=s;dsimp only[A9k]at hn hl hfin⊢;by_cases hlt:k<x.Contacts.length;rotate_left
   ·simp only[go_sem,go_sem_proc];rw[if_neg (by omega),<-hfin (by omega)];refine C0 [] [] ?_;simp only[go_sem,go_sem_proc];exact eE_
   have hi:=hCx _ (B7 (l:=x.Contacts) (i:=k) 0 hlt)
   have hr:=D4y.eq_1 w x k (R.length:Int);simp only[go_sem,go_sem_proc];rw[if_pos (by omega)];generalize x.Contacts.getD k 0=i at hr hi⊢;refine⟨bE_,hi,?_⟩;have hpt:=hP _ (B7 (l:=w.Contacts) (i:=i.toNat) default (by omega));generalize w.Contacts.getD i.toNat default=c at hr hpt⊢;have hF:=λid=>B5a w x (vB w x x.Bodies.length) (S0 w x) R A id (by rw[B4t];exact hbl) (by omega)
   have hsa:=D1j hw x c.Key.BodyA
   have hsb:=D1j hw x c.Key.BodyB;unfold fB at hr hsa hsb;refine E6 (hF c.Key.BodyA) A55 A55 (by simp[pbO]) (by simp[pbO,pbC,upd,A2,go_sem,go_sem_proc]) (by simp[pbO]) D6w rfl ?_;generalize pfR w x (vB w x x.Bodies.length) c.Key.BodyA=a at hr hsa⊢;simp only[go_sem,go_sem_proc];refine E6 (hF c.Key.BodyB) A55 A55 (by simp[pbO]) (by simp[pbO,pbC,upd,A2,go_sem,go_sem_proc]) (by simp[pbO]) D6w rfl ?_;generalize pfR w x (vB w x x.Bodies.length) c.Key.BodyB=b at hr hsb⊢;simp only[go_sem,go_sem_proc];refine A5j (D0b c a.1 b.1 a.2 b.2 (R.length:Int) (S0 w x) w.Settings.TimeStep (by omega) hsa.2 hsb.2) ?_;have hrl:=E0p c a.1 b.1 a.2 b.2 (R.length:Int) (S0 w x) w.Settings.TimeStep;rw[<-hr]at hrl⊢;generalize D4y w x k (R.length:Int)=l at hn hrl⊢;simp only[A07,go_sem,go_sem_proc];refine E6 (B6y w x (vB w x x.Bodies.length) (S0 w x) R A l (by omega) (by omega)) A55 A55 (by simp[pbO]) (by simp[pbO,pbC,upd,A2,go_sem,go_sem_proc]) (by simp[pbO]) E8b rfl ?_;simp only[go_sem,go_sem_proc];refine A7 ⟨k+1,by omega⟩ (by show x.Contacts.length-(k+1)<x.Contacts.length-k;omega) ?_;simp only[hn];refine C0 [] [] ?_;simp only[go_sem,go_sem_proc];exact eE_
 refine E0 hm ?_;simp only[go_sem,go_sem_proc];refine V7 [.share] [] [] ?_;simp only[go_sem,go_sem_proc];exact eE_
theorem E50(j:Joint)(a b:Body):N9 j a b=(J5 (⟨j.ID,j.Kind,j.BodyA,j.BodyB,j.AnchorA,j.AnchorB,j.Axis,j.ReferenceAngle,j.EnableLimit,j.Lower,j.Upper,j.EnableMotor,j.MotorSpeed,j.MaxForce,j.Softness,j.BreakForce,j.CollideConnected,(⟨0,1,2,3⟩:Four)⟩:Joint) a b 0 0 ([]:List SolverBody) 65536).map (·.Impulse):=by
 unfold N9;simp only;generalize J5 _ a b 0 0 ([]:List SolverBody) 65536=l;have h: ∀n,n<=l.length->itr (S7 l) n []=(l.take n).map (·.Impulse):=by
  intro n;induction n with
  |zero=>intro _;simp[itr]
  |succ n ih=>intro hn;rw[itr,ih (by omega),S7,List.take_succ_eq_append_getElem (by omega:n<l.length)];simp only[List.map_append,List.map_cons,List.map_nil,List.getD,List.getElem?_eq_getElem (by omega:n<l.length),Option.getD_some]
 rw[h _ (Nat.le_refl _),List.take_length]
theorem F4a(j:Joint)(a b:Body):(N9 j a b).length<=4:=by rw[E50,List.length_map];exact C5o _ _ _ _ _ _ _
theorem F6y(j:Joint)(a b:Body): ∀x∈N9 j a b,0<=x/\x<4:=by rw[E50];intro x hx;obtain⟨r,hr,rfl⟩:=List.mem_map.1 hx;have:=F6o _ _ _ _ _ _ _ r hr;simp only[B2f]at this;omega
theorem F6x(j:Joint)(a b:Body)(i:Nat):0<=(N9 j a b).getD i 0/\(N9 j a b).getD i 0<4:=by
 by_cases h:i<(N9 j a b).length
 ·exact F6y j a b _ (B7 0 h)
 ·simp[List.getD,List.getElem?_eq_none (by omega:(N9 j a b).length<=i)]
def G2o(f:Four)(i v:Int):Four:=if i=0 then⟨v,f.I1,f.I2,f.I3⟩else if i=1 then⟨f.I0,v,f.I2,f.I3⟩else if i=2 then⟨f.I0,f.I1,v,f.I3⟩else⟨f.I0,f.I1,f.I2,v⟩
def jsS(sl:List Int)(rs:List Row)(base:Int)(k:Nat)(f:Four):Four:=if 0<=base+(k:Nat)/\base+(k:Nat)<rs.length then G2o f (sl.getD k 0) (rs.getD (base+(k:Nat)).toNat default).Impulse else f
def G1l(j:Joint)(a b:Body)(rs:List Row)(base:Int):Four:=itr (jsS (N9 j a b) rs base) (N9 j a b).length ⟨0,0,0,0⟩
def jst(j:Joint)(a b:Body)(rs:List Row)(base:Int):Joint:= {j with Impulses:=G1l j a b rs base}
theorem D2z(j:Joint)(a b:Body)(rs:List Row)(base:Int)(ha: ∀f∈a.Fixtures,f.Shape.Vertices.length<=1048576)(hb: ∀f∈b.Fixtures,f.Shape.Vertices.length<=1048576)(h0:0<=base/\base<=100000000):
  A1 Tryz.prog D2e [.agg j.enc, .agg a.enc, .agg b.enc,A2 14 Row.enc default rs,sI base] [] (.agg (jst j a b rs base).enc) []:=by
 have hsl:=F4a j a b
 have hat:=F6x j a b;unfold jst G1l;refine L5 48 [(10,some (some 24))] hm A4 Tryz.func112 rfl ?_;simp only[go_sem,go_sem_proc];refine A0 (D2y j a b ha hb) rfl ?_;generalize N9 j a b=sl at hsl hat⊢;simp only[go_sem,go_sem_proc];refine B0 hm (ι:= {i:Nat // i<=sl.length}) (λi=> [(3, .share,A2 14 Row.enc default rs),(4, .share,sI base),(5, .share, .ptr 96 0 0 1),(10, .share, .ptr 176 0 0 1),(11, .share, .ptr 192 0 0 1),(19, .share,A2 1 B9 0 sl),(20, .share,sI sl.length),(21, .share,sI (i.1:Nat))]) (λi=> [(96, .box j.enc),(176, .box Joint.zero),(192, .box [sI ((itr (jsS sl rs base) i.1 ⟨0,0,0,0⟩).I0),sI ((itr (jsS sl rs base) i.1 ⟨0,0,0,0⟩).I1),sI ((itr (jsS sl rs base) i.1 ⟨0,0,0,0⟩).I2),sI ((itr (jsS sl rs base) i.1 ⟨0,0,0,0⟩).I3)])]) (λi=>sl.length-i.1) ⟨0,Nat.zero_le _⟩ ?_ ?_
 ·simp only[H3,Joint.zero];refine C0 [] [] ?_;simp only[go_sem,go_sem_proc]
 ·rintro⟨k,hk⟩;dsimp only;have hn:itr (jsS sl rs base) (k+1) ⟨0,0,0,0⟩=jsS sl rs base k (itr (jsS sl rs base) k ⟨0,0,0,0⟩):=E4 ..
  have hfin:sl.length<=k->itr (jsS sl rs base) k ⟨0,0,0,0⟩=itr (jsS sl rs base) sl.length ⟨0,0,0,0⟩:=λh=>by rw[show k=sl.length by omega]
  generalize itr (jsS sl rs base) k ⟨0,0,0,0⟩=f at hn hfin⊢;have hw:IntKind.i64.wrap (base+(k:Nat))=base+(k:Nat):=by rw[IntKind.wrap_i64];omega
  simp only[go_sem,go_sem_proc,Joint.zero,hw];by_cases hlt:k<sl.length;rotate_left
  ·rw[if_neg (by omega),<-hfin (by omega)];exact eE_
  rw[if_pos (by omega)];refine⟨bE_,?_⟩;have hs:=hat k;rw[jsS.eq_1 sl rs base k f]at hn;generalize sl.getD k 0=s at hs hn⊢;by_cases hc:0<=base+(k:Nat)/\base+(k:Nat)<rs.length
  ·rw[if_pos (by simpa using hc)];rw[if_pos hc]at hn;refine⟨by omega,by omega,?_⟩;obtain rfl |rfl |rfl |rfl:s=0\/s=1\/s=2\/s=3:=by omega
   all_goals
    simp only[G2o,Int.reduceEq,if_true,if_false]at hn;simp only[go_sem,go_sem_proc];refine A7 ⟨k+1,by omega⟩ (by show sl.length-(k+1)<sl.length-k;omega) ?_;simp only[hn];refine C0 [] [] ?_;simp only[go_sem,go_sem_proc]
    all_goals exact eE_
  ·rw[if_neg (by simpa using hc)];rw[if_neg hc]at hn;refine A7 ⟨k+1,by omega⟩ (by show sl.length-(k+1)<sl.length-k;omega) ?_;simp only[hn];refine C0 [] [] ?_;simp only[go_sem,go_sem_proc];exact eE_
def csP(rs:List Row)(base:Int)(i:Nat)(p:ContactPoint):ContactPoint:=⟨p.Point,p.Separation,p.ID,A4p rs (base+2*(i:Nat)) p.NormalImpulse,A4p rs (base+2*(i:Nat)+1) p.TangentImpulse⟩
def csS(rs:List Row)(base:Int)(i:Nat)(s:List ContactPoint):List ContactPoint:=s.set i (csP rs base i (s.getD i default))
def E4f(l:List ContactPoint)(rs:List Row)(base:Int):List ContactPoint:=if(rs.length:Int)<base then l else itr (csS rs base) l.length l
def cst(c:Contact)(rs:List Row)(base:Int):Contact:=⟨c.Key,⟨c.Manifold.Normal,E4f c.Manifold.Points rs base⟩⟩
theorem E8l(rs:List Row)(base:Int)(n:Nat)(l:List ContactPoint):(itr (csS rs base) n l).length=l.length:=T4 (λs:List ContactPoint=>s.length) (λi s=>by simp[csS]) n l
theorem E4g(l:List ContactPoint)(rs:List Row)(base:Int):(E4f l rs base).length=l.length:=by unfold E4f;split;rfl;exact E8l ..
theorem C7i(c:Contact)(rs:List Row)(base:Int)(hp:c.Manifold.Points.length<=1048576)(h0:0<=base/\base<=100000000):
  A1 Tryz.prog C60 [.agg c.enc,A2 14 Row.enc default rs,sI base] [] (.agg (cst c rs base).enc) []:=by
 have hlP:=E4g c.Manifold.Points rs base
 have hcP:=E4f.eq_1 c.Manifold.Points rs base;unfold cst;refine L5 63 [(6,some (some 7))] hm A4 Tryz.func113 rfl ?_;simp only[go_sem,go_sem_proc,AV.offId];refine⟨bE_,?_⟩;refine B0 hm (ι:= {i:Nat // i<=c.Manifold.Points.length/\(0<i-> ¬(rs.length:Int)<base)}) (λi=> [(1, .share,A2 14 Row.enc default rs),(2, .share,sI base),(3, .share, .ptr 64 0 0 1),(6, .share, .ptr 112 0 0 1),(7, .share, .sl 240 0 c.Manifold.Points.length c.Manifold.Points.length),(21, .share,sI c.Manifold.Points.length),(22, .share,sI (i.1:Nat))]) (λi=> [(64, .box c.enc),(112, .box Contact.zero),(240, .arr 6 (A8 ContactPoint.enc default (itr (csS rs base) i.1 c.Manifold.Points)))]) (λi=>c.Manifold.Points.length-i.1) ⟨0,Nat.zero_le _,λh=>by omega⟩ ?_ ?_
 ·simp only[H3,Contact.zero];refine C0 [] [] ?_;simp only[go_sem,go_sem_proc]
  (repeat' (with_reducible apply And.intro)) <;> (exact⟨rfl,rfl,λi hi=>by dsimp only at hi⊢;rw[if_pos (by omega),Nat.sub_zero];exact L3 _⟩)
 ·rintro⟨k,hk,hkb⟩;dsimp only;have hn:itr (csS rs base) (k+1) c.Manifold.Points=(itr (csS rs base) k c.Manifold.Points).set k (csP rs base k ((itr (csS rs base) k c.Manifold.Points).getD k default)):=E4 ..
  have hl:=E8l rs base k c.Manifold.Points
  have hfin:c.Manifold.Points.length<=k->itr (csS rs base) k c.Manifold.Points=itr (csS rs base) c.Manifold.Points.length c.Manifold.Points:=λh=>by rw[show k=c.Manifold.Points.length by omega]
  have hz:k=0->itr (csS rs base) k c.Manifold.Points=c.Manifold.Points:=λh=>by subst h;rfl
  generalize itr (csS rs base) k c.Manifold.Points=v at hn hl hfin hz⊢;simp only[go_sem,go_sem_proc,Contact.zero];by_cases hlt:k<c.Manifold.Points.length;rotate_left
  ·rw[if_neg (by omega)];have hv:v=E4f c.Manifold.Points rs base:=by
    rw[hcP];by_cases hz2:k=0
    ·have h0:c.Manifold.Points= []:=List.length_eq_zero_iff.1 (by omega)
     have:=hz hz2;rw[this];split
     ·rfl
     ·rw[h0];rfl
    ·rw[if_neg (hkb (by omega))];exact hfin (by omega)
   rw[<-hv,hl];exact⟨rfl,I4 _⟩
  rw[if_pos (by omega)];by_cases hbl:(rs.length:Int)<base
  ·rw[if_pos (by simpa using hbl)];have hk0:k=0:=by
    rcases Nat.eq_zero_or_pos k with h |h
    ·exact h
    ·exact absurd hbl (hkb h)
   rw[hcP,if_pos hbl,hz hk0];exact⟨rfl,I4 _⟩
  rw[if_neg (by simpa using hbl)];refine⟨bE_,bE_,?_⟩;have hw1:IntKind.i64.wrap (2*(k:Nat))=2*(k:Nat):=by rw[IntKind.wrap_i64];omega
  have hw2:IntKind.i64.wrap (base+2*(k:Nat))=base+2*(k:Nat):=by rw[IntKind.wrap_i64];omega
  have hw3:IntKind.i64.wrap (base+2*(k:Nat)+1)=base+2*(k:Nat)+1:=by rw[IntKind.wrap_i64];omega
  simp only[hw1,hw2];refine A0 (B3b rs (base+2*(k:Nat)) (v.getD k default).NormalImpulse) rfl ?_;simp only[go_sem,go_sem_proc,hw1,hw2,hw3];refine⟨⟨hl.symm,bE_⟩,hl.symm,⟨hl.symm,bE_⟩,hl.symm,?_⟩;refine A0 (B3b rs (base+2*(k:Nat)+1) (v.getD k default).TangentImpulse) rfl ?_;simp only[go_sem,go_sem_proc];refine⟨⟨hl.symm,bE_⟩,hl.symm,?_⟩;refine A7 ⟨k+1,by omega,λ_=>hbl⟩ (by show c.Manifold.Points.length-(k+1)<c.Manifold.Points.length-k;omega) ?_;simp only[hn];refine C0 [] [] ?_;simp only[go_sem,go_sem_proc]
  (repeat' (with_reducible apply And.intro)) <;> first |exact A2q _ (by omega) rfl rfl |exact eE_
def B0t(x:Int)(y:Int):Bool:=let v1:=(A00 x);let v2:=(A00 y);((v1&&(!v2))||(decide (x<y)))
theorem D94(x:Int)(y:Int):A1 Tryz.prog D8i [sI x,sI y] [] (sB (B0t x y)) []:=by
 refine en1 hm A4 Tryz.func188 rfl rfl ?_;have:=C03
 have:=B0t.eq_1 x y;exact J1
theorem G3f(x y:Int):B0t x y=decide (x<y):=by unfold B0t A00;simp
theorem B6x(x:Int):A1 Tryz.prog C8v [sI x] [] (sB false) []:=by refine en1 hm A4 Tryz.func189 rfl rfl ?_;simp only[go_sem,go_sem_proc];simp
def F42(l:List Int):Prop:= ∀i j:Nat,i<j->j<l.length->l.getD i 0<l.getD j 0
theorem G1m(x:Int)(l:List Int)(ha:F42 l): ∃i,i<=l.length/\(∀k,k<i->l.getD k 0<x)/\ ∀k,i<=k->k<l.length->x<=l.getD k 0:=by
 have key: ∀n,n<=l.length-> ∃i,i<=n/\(∀k,k<i->l.getD k 0<x)/\ ∀k,i<=k->k<n->x<=l.getD k 0:=by
  intro n;induction n with
  |zero=>intro _;exact⟨0,Nat.le_refl _,λk h=>by omega,λk _ h=>by omega⟩
  |succ n ih=>
   intro hn;obtain⟨i,h1,h2,h3⟩:=ih (by omega);by_cases h:l.getD n 0<x
   ·refine⟨n+1,Nat.le_refl _,λk hk=> ?_,λk h1 h2=>by omega⟩;rcases Nat.lt_succ_iff_lt_or_eq.1 hk with hk |rfl
    ·have:=ha k n hk (by omega);omega
    ·exact h
   ·refine⟨i,by omega,h2,λk hk hkn=> ?_⟩;rcases Nat.lt_succ_iff_lt_or_eq.1 hkn with hk2 |rfl
    ·exact h3 k hk hk2
    ·omega
 exact key l.length (Nat.le_refl _)
theorem D9z(l:List Int)(x:Int)(hl:l.length<=1048576)(ha:F42 l): ∃i:Nat,A1 Tryz.prog B7x [A2 1 B9 0 l,sI x] [] (.tup [sI (i:Nat),sB (l.contains x)]) []:=by
 obtain⟨i,h1,h2,h3⟩:=G1m x l ha;have hc:l.contains x=(decide (i<l.length)&&(l.getD i 0==x)):=by
  rw[Bool.eq_iff_iff];simp only[List.contains_iff_mem,Bool.and_eq_true,decide_eq_true_eq,beq_iff_eq];constructor
  ·intro hm;obtain⟨k,hk,hx⟩:=List.getElem_of_mem hm;have hx':l.getD k 0=x:=by simp[List.getD,hk,hx]
   have:i=k:=by
    rcases Nat.lt_trichotomy i k with h |h |h
    ·have g1:=h3 i (Nat.le_refl _) (by omega)
     have g2:=ha i k h hk;omega
    ·exact h
    ·have:=h2 k h;omega
   subst this;exact⟨hk,hx'⟩
  ·rintro⟨hk,rfl⟩;exact B7 0 hk
 refine⟨i,?_⟩;rw[hc];refine enT hm A4 Tryz.func109 rfl rfl ?_;simp only[go_sem,go_sem_proc];refine B0 hm (ι:= {p:Nat×Nat // p.1<=i/\i<=p.2/\p.2<=l.length}) (λp=> [(0, .share,A2 1 B9 0 l),(1, .share,sI x),(6, .share,sI l.length),(7, .share,sI (p.1.1:Nat)),(8, .share,sI (p.1.2:Nat))]) (λ_=> []) (λp=>p.1.2-p.1.1) ⟨(0,l.length),Nat.zero_le _,h1,Nat.le_refl _⟩ ?_ ?_
 ·refine C0 [] [] ?_;simp only[go_sem,go_sem_proc]
 ·rintro⟨⟨a,b⟩,q1,q2,q3⟩;dsimp only at q1 q2 q3⊢;simp only[go_sem,go_sem_proc];by_cases hab:a<b;rotate_left
  ·obtain⟨rfl,rfl⟩:a=i/\i=b:=⟨by omega,by omega⟩;rw[if_neg (by exact_mod_cast hab)];refine⟨λ_=>by omega,λe=>by simp only[Bool.and_eq_true,decide_eq_true_eq]at e;omega,?_⟩;refine A0 (B6x (l.getD a 0)) rfl ?_;simp only[go_sem,go_sem_proc];refine A0 (B6x x) rfl ?_;simp only[go_sem,go_sem_proc];refine⟨λg=>⟨g,λe=> ?_⟩,?_⟩
   ·rw[e,decide_eq_true (by omega)];rfl
   ·by_cases g:a<l.length
    ·rw[if_pos (by omega),decide_eq_true g,Bool.true_and]
    ·rw[if_neg (by omega),decide_eq_false g,Bool.false_and]
  rw[if_pos (by omega)];have hw:IntKind.i64.wrap ((IntKind.u64.wrap (IntKind.i64.wrap ((a:Int)+(b:Int)))).fdiv (2^min 1 64))=(((a+b) / 2:Nat):Int):=by rw[D8d (n:=(a:Int)+b) (by omega) (by omega),G0j (n:=(a:Int)+b) (by omega) (by omega),show((2:Int)^min 1 64)=2 by rfl,Int.fdiv_eq_ediv_of_nonneg _ (by omega),D8d (by omega) (by omega)];omega
  rw[hw];have q4:a<=(a+b) / 2/\(a+b) / 2<b:=by omega
  generalize(a+b) / 2=h at q4;refine⟨by omega,by omega,?_⟩;rw[Int.toNat_natCast];refine A0 (D94 (l.getD h 0) x) rfl ?_;rw[G3f];simp only[go_sem,go_sem_proc];by_cases hx:l.getD h 0<x
  ·rw[if_pos hx];have:h<i:=by
    rcases Nat.lt_or_ge h i with g |g
    ·exact g
    ·have:=h3 h g (by omega);omega
   refine A7 ⟨(h+1,b),by dsimp only;omega,by dsimp only;omega,by dsimp only;omega⟩ (by show b-(h+1)<b-a;omega) ?_;refine C0 [] [] ?_;simp only[go_sem,go_sem_proc];exact eE_
  ·rw[if_neg hx];have:i<=h:=by
    rcases Nat.lt_or_ge h i with g |g
    ·exact absurd (h2 h g) hx
    ·exact g
   refine A7 ⟨(a,h),by dsimp only;omega,by dsimp only;omega,by dsimp only;omega⟩ (by show h-a<b-a;omega) ?_;refine C0 [] [] ?_;simp only[go_sem,go_sem_proc]
def A28(w:Api.World)(x:B1)(B:List Body)(S:List SolverBody)(R:List Row)(A:List Int):List (Nat×A5):=[(6, .box (pbC w x B.length (.sl 3 0 S.length S.length) (.sl 4 0 R.length R.length) (.sl 5 0 A.length A.length))),(1, .arr 20 (A8 Body.enc default B)),(3, .frz 5 (A8 SolverBody.enc default S)),(4, .frz 14 (A8 Row.enc default R)),(5, .arr 1 (A8 B9 0 A))]
attribute [go_sem] pbC A28
def C19(w:Api.World)(x:B1)(B:List Body)(S:List SolverBody)(R:List Row)(A:List Int)(id:Int):List (Nat×A5):=(48, .box [.ptr 6 0 0 1])::(64, .box [sI id])::A28 w x B S R A
attribute [go_sem] C19
theorem C5g {w:Api.World}{x:B1}{B:List Body}{S:List SolverBody}{R:List Row}{A:List Int}:okO (A28 w x B S R A):=by
 refine⟨by simp[A28],λp hp cs e j hj=> ?_⟩;simp only[A28,List.mem_cons,List.not_mem_nil,or_false]at hp;rcases hp with rfl |rfl |rfl |rfl |rfl
 ·simp only[A5.box.injEq]at e;subst e;simp[pbC,F4,AV.ids,A2]at hj;rcases hj with rfl |rfl |rfl |rfl <;> rfl
 all_goals cases e
theorem D5d {w:Api.World}{x:B1}{B:List Body}{S:List SolverBody}{R:List Row}{A:List Int}{id:Int}:okO (C19 w x B S R A id):=by
 refine⟨by simp[C19,A28],λp hp cs e j hj=> ?_⟩;simp only[C19,A28,List.mem_cons,List.not_mem_nil,or_false]at hp;rcases hp with rfl |rfl |rfl |rfl |rfl |rfl |rfl
 ·simp only[A5.box.injEq]at e;subst e;simp[F4,AV.ids]at hj;subst hj;rfl
 ·simp only[A5.box.injEq]at e;subst e;simp[F4,AV.ids]at hj
 ·simp only[A5.box.injEq]at e;subst e;simp[pbC,F4,AV.ids,A2]at hj;rcases hj with rfl |rfl |rfl |rfl <;> rfl
 all_goals cases e
theorem F1h(w:Api.World)(x:B1)(B:List Body)(S:List SolverBody)(R:List Row)(A:List Int)(id i:Int)(h0:0<=i)(h1:i<B.length):
  A1 Tryz.prog A30 [sI i, .ptr 48 0 0 1, .ptr 64 0 0 1] (C19 w x B S R A id) (sB ((B.getD i.toNat default).ID==id)) (C19 w x B S R A id):=by
 refine H8 hm A4 Tryz.func191 rfl rfl ?_;simp only[go_sem,go_sem_proc];refine⟨bE_,?_⟩;refine V7 [.share] [] [] ?_;simp only[go_sem,go_sem_proc];exact eE_
theorem C51(w:Api.World)(x:B1)(B:List Body)(S:List SolverBody)(R:List Row)(A:List Int)(id:Int)(hb: ∀i∈H4 w x,0<=i/\i<B.length)(hl:(H4 w x).length<=1000000000):
  A1 Tryz.prog B41 [.ptr 6 0 0 1,sI id] (A28 w x B S R A) (.tup [.agg (pfR w x B id).1.enc,sI ((pfR w x B id).2)]) (A28 w x B S R A):=by
 have hF:=A69 (H4 w x) A30 [] [.ptr 48 0 0 1, .ptr 64 0 0 1] (C19 w x B S R A id) (λi=>(B.getD i.toNat default).ID==id) hl D5d
  (by intro j hj;simp[AV.ids,F4]at hj;rcases hj with rfl |rfl <;> rfl) (λi hi=>F1h w x B S R A id i (hb i hi).1 (hb i hi).2)
 have hr:=pfR.eq_1 w x B id
 have hk:=D9l (p:=λi=>(B.getD i.toNat default).ID==id) (l:=H4 w x);rw[show B1c (λi=>(B.getD i.toNat default).ID==id) (H4 w x)=pfK w x B id from rfl]at hF hk;generalize pfK w x B id=k at hF hr hk;refine C0q 30 [(4,some (some 20)),(5,none)] hm A4 Tryz.func111 rfl ?_;simp only[go_sem,go_sem_proc];refine E6 hF D5d D5d (by simp[C19,A28]) (by simp[C19,A28,pbC,upd,A2,go_sem,go_sem_proc]) (by simp[C19,A28]) ?_ rfl ?_
 ·intro a ha j hj;simp only[List.mem_cons,List.not_mem_nil,or_false]at ha;rcases ha with rfl |rfl
  ·simp[AV.ids]at hj
  ·simp[AV.ids,F4]at hj;rcases hj with rfl |rfl <;> rfl
 simp only[go_sem,go_sem_proc];by_cases hn:k<0
 ·rw[if_pos hn]at hr⊢;rw[hr];refine V7 [.thaw, .share] [] [] ?_;simp only[go_sem,go_sem_proc,zB];exact eE_
 rw[if_neg hn]at hr⊢;rw[hr];have hbk:=hb _ (B7 (l:=H4 w x) (i:=k.toNat) 0 (by omega));refine⟨by omega,by omega,?_⟩;refine V7 [.share, .share] [] [] ?_;simp only[go_sem,go_sem_proc];exact eE_
theorem E8c {w:Api.World}{x:B1}{B:List Body}{S:List SolverBody}{R:List Row}{A:List Int}{id:Int}: ∀a∈ [AV.ptr 6 0 0 1,sI id],∀i∈a.ids,(ofL (A28 w x B S R A) i).isSome:=by
 intro a ha j hj;simp only[List.mem_cons,List.not_mem_nil,or_false]at ha;rcases ha with rfl |rfl
 ·simp[AV.ids]at hj;subst hj;rfl
 ·simp[AV.ids]at hj
def D6z(s:List Row×List Int):Prop:= ∀a∈s.2,0<=a/\a<=(s.1.length:Int)
theorem E30 {l:List Row}{s:List Row×List Int}(h:D6z s):D6z (A9k l s):=by
 intro a ha;simp only[A9k,List.mem_append,List.mem_singleton,List.length_append]at ha⊢;rcases ha with ha |rfl
 ·have:=h a ha;omega
 ·omega
theorem F24(w:Api.World)(x:B1): ∀n,D6z (jRA w x n)
 |0=>λa ha=>by cases ha
 |n+1=>by rw[show jRA w x (n+1)=A9k (C9l w x n) (jRA w x n)from E4 ..];exact E30 (F24 w x n)
theorem F2e(w:Api.World)(x:B1): ∀n,D6z (cRA w x n)
 |0=>F24 w x _
 |n+1=>by rw[show cRA w x (n+1)=A9k (D4y w x n ((cRA w x n).1.length:Int)) (cRA w x n)from E4 ..];exact E30 (F2e w x n)
theorem F47(w:Api.World)(x:B1):D83 (H4 w x):=E66 (F5y _)
theorem D4r {l:List Int}{n:Int}(h:S2 l n=true):F42 l/\l.length<=n.toNat:=by
 have key: ∀k,k<=l.length-> ∃s,D4 (L2 l n) k (-1)= .inl s/\(k:Int)-1<=s/\(0<k->s<n)/\(∀j,j<k->l.getD j 0<=s)/\ ∀i j:Nat,i<j->j<k->l.getD i 0<l.getD j 0:=by
  intro k;induction k with
  |zero=>intro _;exact⟨-1,rfl,by omega,λh=>by omega,λj hj=>by omega,λi j hi hj=>by omega⟩
  |succ k ih=>
   intro hk;obtain⟨s,h1,h2,h3,h4,h5⟩:=ih (by omega);have hs:D4 (L2 l n) (k+1) (-1)=L2 l n k s:=N2 h1 rfl;unfold L2 at hs;split at hs
   ·exfalso;have h4:=Z2 hs (show k+1<=l.length by omega);unfold S2 at h;rw[show D4 (L2 l n) l.length (-1)= .inr false from h4]at h;cases h
   ·rename_i hc;simp only[Bool.or_eq_true,decide_eq_true_eq,not_or,Int.not_le]at hc;refine⟨_,hs,by omega,λ_=>by omega,λj hj=> ?_,λi j hi hj=> ?_⟩
    ·rcases Nat.lt_succ_iff_lt_or_eq.1 hj with hj |rfl
     ·have:=h4 j hj;omega
     ·omega
    ·rcases Nat.lt_succ_iff_lt_or_eq.1 hj with hj |rfl
     ·exact h5 i j hi hj
     ·have:=h4 i hi;omega
 obtain⟨s,_,h2,h3,_,h5⟩:=key l.length (Nat.le_refl _);refine⟨h5,?_⟩;rcases Nat.eq_zero_or_pos l.length with h |h
 ·omega
 ·have:=h3 h;omega
theorem E9h: ∀ {l:List Int} {a n:Nat},D83 l->(∀y∈l,(a:Int)<=y/\y<(n:Int))->l.length<=n-a
 | [],_,_,_,_=>Nat.zero_le _
 |b::l,a,n,h,hb=>by
  have hb0:=hb b (List.mem_cons_self ..)
  have h2:=(List.pairwise_cons.1 h)
  have:=E9h (l:=l) (a:=b.toNat+1) (n:=n) h2.2 (λy hy=>⟨by have:=h2.1 y hy;omega,(hb y (List.mem_cons_of_mem _ hy)).2⟩);rw[List.length_cons];omega
theorem G28 {P:Program}{L:List (Nat×List Bool)}{f:FuncId}{fn:Func}{ac:ACode}{args:List AV}{r:AV}(N:Nat)(rvs:List (Nat×Option (Option Nat)))(hm:P.follows .mixedOrders=true)(hL:okE P L=true)(hf:P.funcs[f]? =some fn)(hc:M5 P L fn.ntmps (fn.body.getD .skip)=some ac)
  (h: @Wpi P N [] ac (C0x N rvs [r]) (A0b args []))(hN:fn.ntmps=N:=by kernel_rfl)(hts:A51 P fn.results.toList=some rvs:=by kernel_rfl)(hb:fn.body=some (fn.body.getD .skip):=by kernel_rfl)(hname:(fn.name != "runtime.NumGoroutine")=true:=by kernel_rfl)(hlt:(rvs.all λp=>p.1.blt N)=true:=by decide)(hl:(args.length.ble N)=true:=by kernel_rfl):
  A1 P f args [] r []:=B5y (ac:= .mark ac) hm hf hb hname (have e:D9 P fn.ntmps (fn.body.getD .skip)=some ac.strip:=cs2 hL hc;e) hN hts hlt hl h
def sol(w:Api.World)(x:B1):List Row×List SolverBody:=A0k (cRA w x x.Contacts.length).1 (S0 w x) w.Settings.Iterations
def G2q(b:Body)(s:SolverBody):Body:=A2s {b with Velocity:=s.Velocity,AngularVelocity:=s.AngularVelocity}
def A7a(w:Api.World)(x:B1)(n:Nat):List Body:=itr (λk B=>if(x.Bodies.contains ((H4 w x).getD k 0)&&(B.getD ((H4 w x).getD k 0).toNat default).Kind==3)=true then B.set ((H4 w x).getD k 0).toNat (G2q ((vB w x x.Bodies.length).getD ((H4 w x).getD k 0).toNat default) ((sol w x).2.getD k default))else B) n w.Bodies
def G2r(w:Api.World)(x:B1)(k:Nat)(j:Joint):Joint:=jst j (fB w x j.BodyA).1 (fB w x j.BodyB).1 (sol w x).1 ((cRA w x x.Contacts.length).2.getD k 0)
def B0h(w:Api.World)(x:B1)(n:Nat):List Joint:=itr (λk J=>J.set (x.Joints.getD k 0).toNat (G2r w x k (w.Joints.getD (x.Joints.getD k 0).toNat default))) n w.Joints
def B0g(w:Api.World)(x:B1)(n:Nat):List Contact:=itr (λk C=>C.set (x.Contacts.getD k 0).toNat (cst (w.Contacts.getD (x.Contacts.getD k 0).toNat default) (sol w x).1 ((cRA w x x.Contacts.length).2.getD (x.Joints.length+k) 0))) n w.Contacts
theorem E5y(w:Api.World)(x:B1)(n:Nat):(A7a w x n).length=w.Bodies.length:=T4 (λs:List Body=>s.length) (λi s=>by split <;> simp) n _
theorem C6a(w:Api.World)(x:B1)(n:Nat):(B0h w x n).length=w.Joints.length:=T4 (λs:List Joint=>s.length) (λi s=>by simp) n _
theorem C59(w:Api.World)(x:B1)(n:Nat):(B0g w x n).length=w.Contacts.length:=T4 (λs:List Contact=>s.length) (λi s=>by simp) n _
theorem G0d(w:Api.World)(x:B1):(sol w x).1.length=(cRA w x x.Contacts.length).1.length/\(sol w x).2.length=(S0 w x).length:=by
 have h:=λk=>T4 (λs:(List Row)×(List SolverBody)=>s.1.length) (f:=K8) (λi s=>by unfold K8;simp) k
 have h2:=λk=>T4 (λs:(List Row)×(List SolverBody)=>s.2.length) (f:=K8) (λi s=>by unfold K8;simp) k;unfold sol A0k;exact⟨(h _ _).trans (E0w _),(h2 _ _).trans (E45 _ _)⟩
instance(w:Api.World)(x:B1):Decidable (pOk w x):=inferInstanceAs (Decidable (_/\_/\_/\_))
def D5v(w:Api.World)(x:B1):Api.World:=
 if A6c w x (A0z w x)=false then w
 else if ¬pOk w x\/(S0 w x).length=0 then w
 else {w with Bodies:=A7a w x (H4 w x).length,Joints:=B0h w x x.Joints.length,Contacts:=B0g w x x.Contacts.length}
theorem D7n(w:Api.World)(x:B1)(hw:Wsm w)(hx:Ism x)(h:A6c w x (A0z w x)=false):A1 Tryz.prog A4a [.agg w.enc, .agg x.enc] [] (.agg w.enc) []:=by have hA:=A9p w x hw hx;rw[h]at hA;refine L5 189 [(4,some (some 11))] hm A4 Tryz.func57 rfl ?_;simp only[go_sem,go_sem_proc];refine K1 ev_ J8 (A57 w hw) ?_;simp only[go_sem,go_sem_proc];refine A0 hA rfl ?_;simp only[go_sem,go_sem_proc]
theorem D7o(w:Api.World)(x:B1)(hw:Wsm w)(hx:Ism x)(ha:A6c w x (A0z w x)=true)(h: ¬pOk w x):A1 Tryz.prog A4a [.agg w.enc, .agg x.enc] [] (.agg w.enc) []:=by have hA:=A9p w x hw hx;rw[ha]at hA;refine L5 189 [(4,some (some 11))] hm A4 Tryz.func57 rfl ?_;simp only[go_sem,go_sem_proc];refine K1 ev_ J8 (A57 w hw) ?_;simp only[go_sem,go_sem_proc];refine A0 hA rfl ?_;simp only[go_sem,go_sem_proc];refine A0 (E2m w x hw hx h) rfl ?_;simp only[go_sem,go_sem_proc]
theorem D7p(w:Api.World)(x:B1)(hw:Wsm w)(hx:Ism x)(ha:A6c w x (A0z w x)=true)(h:pOk w x)(h0:(S0 w x).length=0)(hP: ∀c∈w.Contacts,c.Manifold.Points.length<=2):A1 Tryz.prog A4a [.agg w.enc, .agg x.enc] [] (.agg w.enc) []:=by
 have hA:=A9p w x hw hx;rw[ha]at hA;refine L5 189 [(4,some (some 11))] hm A4 Tryz.func57 rfl ?_;simp only[go_sem,go_sem_proc];refine K1 ev_ J8 (A57 w hw) ?_;simp only[go_sem,go_sem_proc];refine A0 hA rfl ?_;simp only[go_sem,go_sem_proc];have hN:=C6s w x hw hx h hP
 have hE:S0 w x= []:=List.length_eq_zero_iff.1 h0;rw[hE]at hN;refine K1 ev_ J8 hN ?_;simp only[go_sem,go_sem_proc];rw[if_pos (by rfl)];trivial
end Go.Abs
end
