/- A part of the proof: contracts of functions that the statement reaches. -/
import Derived.Test.YtchcbiiammkhgaaGreatMR
set_option linter.unusedSimpArgs false
set_option linter.unusedVariables false
set_option linter.unnecessarySimpa false
set_option maxRecDepth 100000
set_option maxHeartbeats 2000000
noncomputable section
namespace Go.Abs
open Go.Proofs
open Api
def B2q(w:Api.World)(B:List Body)(J:List Joint)(C:List Contact):List (Nat×A5):= [(80, .box World.zero),(96, .box [sI w.Settings.TimeStep,sI w.Settings.Gravity.X,sI w.Settings.Gravity.Y,sI w.Settings.Iterations,sI w.Settings.SleepSteps, .sl 7 0 w.Bodies.length w.Bodies.length, .sl 8 0 w.Joints.length w.Joints.length, .sl 9 0 w.Contacts.length w.Contacts.length, .sl 10 0 w.Overlaps.length w.Overlaps.length,sI w.NextID,sI w.Frame]),(7, .arr 20 (A8 Body.enc default B)),(8, .arr 24 (A8 Joint.enc default J)),(9, .arr 7 (A8 Contact.enc default C)),(10, .arr 4 (A8 PairKey.enc default w.Overlaps))]
attribute [go_sem] B2q
theorem D7q(w:Api.World)(x:B1)(hw:Wsm w)(hx:Ism x)(ha:A6c w x (A0z w x)=true)(h:pOk w x)(h0:(S0 w x).length≠0)(hP: ∀c∈w.Contacts,c.Manifold.Points.length<=2)(hR:(cRA w x x.Contacts.length).1.length<=1048576):A1 Tryz.prog A4a [.agg w.enc, .agg x.enc] [] (.agg ({w with Bodies:=A7a w x (H4 w x).length,Joints:=B0h w x x.Joints.length,Contacts:=B0g w x x.Contacts.length}:Api.World).enc) []:=by
 have hA:=A9p w x hw hx;rw[ha]at hA;have hN:=C6s w x hw hx h hP
 have hbl:=D9b w x
 have hS0:(S0 w x).length=(H4 w x).length:=F4h w x _ (Nat.le_refl _)
 have hbn:(H4 w x).length<=1048576:=by
  have:=E9h (a:=0) (n:=w.Bodies.length) (F47 w x) (λy hy=>by have:=hbl y hy;omega)
  have:=hw.1;omega
 have hV:=E0b (cRA w x x.Contacts.length).1 (S0 w x) w.Settings.Iterations (by omega) hR;rw[show A0k (cRA w x x.Contacts.length).1 (S0 w x) w.Settings.Iterations=sol w x from rfl]at hV;obtain⟨hs1,hs2⟩:=G0d w x;have hbase:=F2e w x x.Contacts.length
 have hra:=D06 w x hP (B8z h.2.2.1) x.Contacts.length (Nat.le_refl _);obtain⟨hv,a1,a2,a3⟩:=h;have hCx:=B8z a2
 have hJx:=B8z a3
 have a1':=D4r a1;obtain⟨hx1,hx2,hx3⟩:=hx;refine G28 189 [(4,some (some 11))] hm A4 Tryz.func57 rfl ?_;refine C4 [(2, .thaw, .fptr w.enc),(3, .thaw, .fptr x.enc),(4, .share, .ptr 80 0 0 1)] [(80, .box World.zero)] (E0 hm ?_) ?_
 ·simp only[go_sem,go_sem_proc,World.zero];refine C0 [] [] ?_;simp only[go_sem,go_sem_proc];exact eE_
 refine C4 [(2, .share, .fptr w.enc),(3, .share, .fptr x.enc),(4, .share, .ptr 80 0 0 1),(5, .share, .ptr 96 0 0 1)] (B2q w (w.Bodies) (w.Joints) (w.Contacts)) (E0 hm ?_) ?_
 ·simp only[go_sem,go_sem_proc];refine K1 ev_ J8 (A57 w hw) ?_;simp only[go_sem,go_sem_proc,World.zero];refine C0 [(7,400),(8,401),(9,402),(10,403)] [] ?_;simp only[go_sem,go_sem_proc]
 refine C4 [(2, .share, .fptr w.enc),(3, .share, .fptr x.enc),(4, .share, .ptr 80 0 0 1),(5, .share, .ptr 96 0 0 1)] (B2q w (w.Bodies) (w.Joints) (w.Contacts)) (E0 hm ?_) ?_
 ·simp only[go_sem,go_sem_proc];refine A0 hA rfl ?_;simp only[go_sem,go_sem_proc,World.zero];refine C0 [] [] ?_;simp only[go_sem,go_sem_proc]
 refine C4 [(2, .share, .fptr w.enc),(3, .share, .fptr x.enc),(4, .share, .ptr 80 0 0 1),(5, .share, .ptr 96 0 0 1),(6, .share, .ptr 6 0 0 1)] (B2q w (w.Bodies) (w.Joints) (w.Contacts)++pbO w x (vB w x x.Bodies.length) (S0 w x) (cRA w x x.Contacts.length).1 (cRA w x x.Contacts.length).2) (E0 hm ?_) ?_
 ·simp only[go_sem,go_sem_proc];refine K1 ev_ J8 hN ?_;simp only[go_sem,go_sem_proc,World.zero];refine C0 [(6,533),(1,528),(3,530),(4,531),(5,532)] [] ?_;simp only[go_sem,go_sem_proc];exact eE_
 refine C4 [(2, .share, .fptr w.enc),(3, .share, .fptr x.enc),(4, .share, .ptr 80 0 0 1),(5, .share, .ptr 96 0 0 1),(6, .share, .ptr 6 0 0 1)] (B2q w (w.Bodies) (w.Joints) (w.Contacts)++pbO w x (vB w x x.Bodies.length) (S0 w x) (cRA w x x.Contacts.length).1 (cRA w x x.Contacts.length).2) (E0 hm ?_) ?_
 ·simp only[go_sem,go_sem_proc];rw[if_neg (by simpa using h0)];refine C0 [] [] ?_;simp only[go_sem,go_sem_proc];exact eE_
 refine C4 [(2, .share, .fptr w.enc),(3, .share, .fptr x.enc),(4, .share, .ptr 80 0 0 1),(5, .share, .ptr 96 0 0 1),(6, .share, .ptr 6 0 0 1),(7, .thaw,A2 14 Row.enc default (sol w x).1),(8, .thaw,A2 5 SolverBody.enc default (sol w x).2)] (B2q w (w.Bodies) (w.Joints) (w.Contacts)++A28 w x (vB w x x.Bodies.length) (S0 w x) (cRA w x x.Contacts.length).1 (cRA w x x.Contacts.length).2) (E0 hm ?_) ?_
 ·simp only[go_sem,go_sem_proc];refine K1 ev_ J8 hV ?_;simp only[go_sem,go_sem_proc,World.zero];refine C0 [] [] ?_;simp only[go_sem,go_sem_proc];exact eE_
 refine C4 [(2, .share, .fptr w.enc),(3, .share, .fptr x.enc),(4, .share, .ptr 80 0 0 1),(5, .share, .ptr 96 0 0 1),(6, .share, .ptr 6 0 0 1),(7, .share,A2 14 Row.enc default (sol w x).1),(8, .share,A2 5 SolverBody.enc default (sol w x).2)] (B2q w (A7a w x ((H4 w x).length)) (w.Joints) (w.Contacts)++A28 w x (vB w x x.Bodies.length) (S0 w x) (cRA w x x.Contacts.length).1 (cRA w x x.Contacts.length).2) (C4 [(2, .share, .fptr w.enc),(3, .share, .fptr x.enc),(4, .share, .ptr 80 0 0 1),(5, .share, .ptr 96 0 0 1),(6, .share, .ptr 6 0 0 1),(7, .share,A2 14 Row.enc default (sol w x).1),(8, .share,A2 5 SolverBody.enc default (sol w x).2),(62, .share,A2 1 B9 0 (H4 w x)),(63, .share,sI ((H4 w x).length)),(64, .share,sI (0:Nat))] (B2q w (A7a w x (0)) (w.Joints) (w.Contacts)++A28 w x (vB w x x.Bodies.length) (S0 w x) (cRA w x x.Contacts.length).1 (cRA w x x.Contacts.length).2) (E0 hm ?_) (A3f ?_)) ?_
 ·rw[show A7a w x 0=w.Bodies from rfl];simp only[go_sem,go_sem_proc];refine C0 [] [] ?_;simp only[go_sem,go_sem_proc];exact eE_
 ·refine B0 hm (ι:= {k:Nat // k<=(H4 w x).length}) (λk=> [(2, .share, .fptr w.enc),(3, .share, .fptr x.enc),(4, .share, .ptr 80 0 0 1),(5, .share, .ptr 96 0 0 1),(6, .share, .ptr 6 0 0 1),(7, .share,A2 14 Row.enc default (sol w x).1),(8, .share,A2 5 SolverBody.enc default (sol w x).2),(62, .share,A2 1 B9 0 (H4 w x)),(63, .share,sI ((H4 w x).length)),(64, .share,sI (k.1:Nat))]) (λk=>B2q w (A7a w x (k.1)) (w.Joints) (w.Contacts)++A28 w x (vB w x x.Bodies.length) (S0 w x) (cRA w x x.Contacts.length).1 (cRA w x x.Contacts.length).2) (λk=>(H4 w x).length-k.1) ⟨0,Nat.zero_le _⟩ ?_ ?_
  ·refine C0 [] [] ?_;simp only[go_sem,go_sem_proc];exact eE_
  ·rintro⟨k,hk⟩;dsimp only;have hn:A7a w x (k+1)=_:=E4 ..
   have hl:=E5y w x k
   have hfin:(H4 w x).length<=k->A7a w x k=A7a w x (H4 w x).length:=λh=>by rw[show k=(H4 w x).length by omega]
   rw[show itr _ k w.Bodies=A7a w x k from rfl]at hn;generalize A7a w x k=B at hn hl hfin⊢;by_cases hlt:k<(H4 w x).length;rotate_left
   ·simp only[go_sem,go_sem_proc];rw[if_neg (by omega),<-hfin (by omega)];refine C0 [] [] ?_;simp only[go_sem,go_sem_proc];exact eE_
   have hi:=hbl _ (B7 (l:=H4 w x) (i:=k) 0 hlt);simp only[go_sem,go_sem_proc];rw[if_pos (by omega)];generalize(H4 w x).getD k 0=i at hn hi⊢;refine⟨bE_,?_⟩;obtain⟨q,hq⟩:=D9z x.Bodies i hx1 a1'.1;refine A0 hq rfl ?_;simp only[go_sem,go_sem_proc];refine⟨λ_=>⟨hl.symm,by omega⟩,λ_=>hl.symm,?_⟩;by_cases hc:(x.Bodies.contains i&&(B.getD i.toNat default).Kind==3)=true;rotate_left
   ·rw[if_neg hc]at hn⊢;refine A7 ⟨k+1,by omega⟩ (by show(H4 w x).length-(k+1)<(H4 w x).length-k;omega) ?_;simp only[hn];refine C0 [] [] ?_;simp only[go_sem,go_sem_proc];exact eE_
   rw[if_pos hc]at hn⊢;refine⟨⟨hi.1,by rw[B4t];exact hi.2⟩,?_⟩;have hbm:=E27 hw x x.Bodies.length _ (B7 (l:=vB w x x.Bodies.length) (i:=i.toNat) default (by rw[B4t];omega));unfold G2q at hn;generalize(vB w x x.Bodies.length).getD i.toNat default=b at hn hbm⊢;refine A0 (A71 b hbm) rfl ?_;simp only[go_sem,go_sem_proc];refine⟨bE_,bE_,?_⟩;refine A0 (A8p {b with Velocity:=((sol w x).2.getD k default).Velocity,AngularVelocity:=((sol w x).2.getD k default).AngularVelocity}) rfl ?_;simp only[go_sem,go_sem_proc];refine⟨⟨hl.symm,by omega⟩,hl.symm,?_⟩;refine A7 ⟨k+1,by omega⟩ (by show(H4 w x).length-(k+1)<(H4 w x).length-k;omega) ?_;simp only[hn];refine C0 [] [] ?_;simp only[go_sem,go_sem_proc]
   (repeat' (with_reducible apply And.intro)) <;> first |exact A2q _ (by omega) rfl rfl |exact eE_
 refine C4 [(2, .share, .fptr w.enc),(3, .share, .fptr x.enc),(4, .share, .ptr 80 0 0 1),(5, .share, .ptr 96 0 0 1),(6, .share, .ptr 6 0 0 1),(7, .share,A2 14 Row.enc default (sol w x).1),(8, .share,A2 5 SolverBody.enc default (sol w x).2)] (B2q w (A7a w x (H4 w x).length) (B0h w x (x.Joints.length)) (w.Contacts)++A28 w x (vB w x x.Bodies.length) (S0 w x) (cRA w x x.Contacts.length).1 (cRA w x x.Contacts.length).2) (C4 [(2, .share, .fptr w.enc),(3, .share, .fptr x.enc),(4, .share, .ptr 80 0 0 1),(5, .share, .ptr 96 0 0 1),(6, .share, .ptr 6 0 0 1),(7, .share,A2 14 Row.enc default (sol w x).1),(8, .share,A2 5 SolverBody.enc default (sol w x).2),(114, .share,A2 1 B9 0 x.Joints),(115, .share,sI x.Joints.length),(116, .share,sI (0:Nat))] (B2q w (A7a w x (H4 w x).length) (B0h w x (0)) (w.Contacts)++A28 w x (vB w x x.Bodies.length) (S0 w x) (cRA w x x.Contacts.length).1 (cRA w x x.Contacts.length).2) (E0 hm ?_) (A3f ?_)) ?_
 ·rw[show B0h w x 0=w.Joints from rfl];simp only[go_sem,go_sem_proc];refine C0 [] [] ?_;simp only[go_sem,go_sem_proc];exact eE_
 ·refine B0 hm (ι:= {k:Nat // k<=x.Joints.length}) (λk=> [(2, .share, .fptr w.enc),(3, .share, .fptr x.enc),(4, .share, .ptr 80 0 0 1),(5, .share, .ptr 96 0 0 1),(6, .share, .ptr 6 0 0 1),(7, .share,A2 14 Row.enc default (sol w x).1),(8, .share,A2 5 SolverBody.enc default (sol w x).2),(114, .share,A2 1 B9 0 x.Joints),(115, .share,sI x.Joints.length),(116, .share,sI (k.1:Nat))]) (λk=>B2q w (A7a w x (H4 w x).length) (B0h w x (k.1)) (w.Contacts)++A28 w x (vB w x x.Bodies.length) (S0 w x) (cRA w x x.Contacts.length).1 (cRA w x x.Contacts.length).2) (λk=>x.Joints.length-k.1) ⟨0,Nat.zero_le _⟩ ?_ ?_
  ·refine C0 [] [] ?_;simp only[go_sem,go_sem_proc];exact eE_
  ·rintro⟨k,hk⟩;dsimp only;have hn:B0h w x (k+1)=_:=E4 ..
   have hl:=C6a w x k
   have hfin:x.Joints.length<=k->B0h w x k=B0h w x x.Joints.length:=λh=>by rw[show k=x.Joints.length by omega]
   rw[show itr _ k w.Joints=B0h w x k from rfl]at hn;generalize B0h w x k=J at hn hl hfin⊢;by_cases hlt:k<x.Joints.length;rotate_left
   ·simp only[go_sem,go_sem_proc];rw[if_neg (by omega),<-hfin (by omega)];refine C0 [] [] ?_;simp only[go_sem,go_sem_proc];exact eE_
   have hi:=hJx _ (B7 (l:=x.Joints) (i:=k) 0 hlt)
   have hb0:=hbase _ (B7 (l:=(cRA w x x.Contacts.length).2) (i:=k) 0 (by omega));simp only[go_sem,go_sem_proc];rw[if_pos (by omega)];generalize x.Joints.getD k 0=i at hn hi⊢;refine⟨bE_,hi,?_⟩;unfold G2r at hn;generalize w.Joints.getD i.toNat default=j at hn⊢;have hF:=λid=>C51 w x (vB w x x.Bodies.length) (S0 w x) (cRA w x x.Contacts.length).1 (cRA w x x.Contacts.length).2 id (by rw[B4t];exact hbl) (by omega)
   have hsa:=D1j hw x j.BodyA
   have hsb:=D1j hw x j.BodyB;unfold fB at hn hsa hsb;refine E6 (hF j.BodyA) C5g C5g (by simp[A28]) (by simp[A28,pbC,upd,A2,go_sem,go_sem_proc]) (by simp[A28]) E8c rfl ?_;generalize pfR w x (vB w x x.Bodies.length) j.BodyA=a at hn hsa⊢;simp only[go_sem,go_sem_proc];refine E6 (hF j.BodyB) C5g C5g (by simp[A28]) (by simp[A28,pbC,upd,A2,go_sem,go_sem_proc]) (by simp[A28]) E8c rfl ?_;generalize pfR w x (vB w x x.Bodies.length) j.BodyB=b at hn hsb⊢;simp only[go_sem,go_sem_proc];refine⟨bE_,?_⟩;refine A0 (D2z j a.1 b.1 (sol w x).1 ((cRA w x x.Contacts.length).2.getD k 0) hsa.2 hsb.2 (by omega)) rfl ?_;simp only[go_sem,go_sem_proc];refine⟨⟨hl.symm,by omega⟩,hl.symm,?_⟩;refine A7 ⟨k+1,by omega⟩ (by show x.Joints.length-(k+1)<x.Joints.length-k;omega) ?_;simp only[hn];refine C0 [] [] ?_;simp only[go_sem,go_sem_proc]
   (repeat' (with_reducible apply And.intro)) <;> first |exact A2q _ (by omega) rfl rfl |exact eE_
 refine C4 [(2, .share, .fptr w.enc),(3, .share, .fptr x.enc),(4, .share, .ptr 80 0 0 1),(5, .share, .ptr 96 0 0 1),(6, .share, .ptr 6 0 0 1),(7, .share,A2 14 Row.enc default (sol w x).1),(8, .share,A2 5 SolverBody.enc default (sol w x).2)] (B2q w (A7a w x (H4 w x).length) (B0h w x x.Joints.length) (B0g w x (x.Contacts.length))++A28 w x (vB w x x.Bodies.length) (S0 w x) (cRA w x x.Contacts.length).1 (cRA w x x.Contacts.length).2) (C4 [(2, .share, .fptr w.enc),(3, .share, .fptr x.enc),(4, .share, .ptr 80 0 0 1),(5, .share, .ptr 96 0 0 1),(6, .share, .ptr 6 0 0 1),(7, .share,A2 14 Row.enc default (sol w x).1),(8, .share,A2 5 SolverBody.enc default (sol w x).2),(158, .share,A2 1 B9 0 x.Contacts),(159, .share,sI x.Contacts.length),(160, .share,sI (0:Nat))] (B2q w (A7a w x (H4 w x).length) (B0h w x x.Joints.length) (B0g w x (0))++A28 w x (vB w x x.Bodies.length) (S0 w x) (cRA w x x.Contacts.length).1 (cRA w x x.Contacts.length).2) (E0 hm ?_) (A3f ?_)) ?_
 ·rw[show B0g w x 0=w.Contacts from rfl];simp only[go_sem,go_sem_proc];refine C0 [] [] ?_;simp only[go_sem,go_sem_proc];exact eE_
 ·refine B0 hm (ι:= {k:Nat // k<=x.Contacts.length}) (λk=> [(2, .share, .fptr w.enc),(3, .share, .fptr x.enc),(4, .share, .ptr 80 0 0 1),(5, .share, .ptr 96 0 0 1),(6, .share, .ptr 6 0 0 1),(7, .share,A2 14 Row.enc default (sol w x).1),(8, .share,A2 5 SolverBody.enc default (sol w x).2),(158, .share,A2 1 B9 0 x.Contacts),(159, .share,sI x.Contacts.length),(160, .share,sI (k.1:Nat))]) (λk=>B2q w (A7a w x (H4 w x).length) (B0h w x x.Joints.length) (B0g w x (k.1))++A28 w x (vB w x x.Bodies.length) (S0 w x) (cRA w x x.Contacts.length).1 (cRA w x x.Contacts.length).2) (λk=>x.Contacts.length-k.1) ⟨0,Nat.zero_le _⟩ ?_ ?_
  ·refine C0 [] [] ?_;simp only[go_sem,go_sem_proc];exact eE_
  ·rintro⟨k,hk⟩;dsimp only;have hn:B0g w x (k+1)=_:=E4 ..
   have hl:=C59 w x k
   have hfin:x.Contacts.length<=k->B0g w x k=B0g w x x.Contacts.length:=λh=>by rw[show k=x.Contacts.length by omega]
   rw[show itr _ k w.Contacts=B0g w x k from rfl]at hn;generalize B0g w x k=C at hn hl hfin⊢;by_cases hlt:k<x.Contacts.length;rotate_left
   ·simp only[go_sem,go_sem_proc];rw[if_neg (by omega),<-hfin (by omega)];refine C0 [] [] ?_;simp only[go_sem,go_sem_proc];exact eE_
   have hi:=hCx _ (B7 (l:=x.Contacts) (i:=k) 0 hlt)
   have hb0:=hbase _ (B7 (l:=(cRA w x x.Contacts.length).2) (i:=x.Joints.length+k) 0 (by omega));simp only[go_sem,go_sem_proc];rw[if_pos (by omega)];generalize x.Contacts.getD k 0=i at hn hi⊢;have hpt:=hP _ (B7 (l:=w.Contacts) (i:=i.toNat) default (by omega));generalize w.Contacts.getD i.toNat default=c at hn hpt⊢;have hw1:IntKind.i64.wrap ((x.Joints.length:Int)+(k:Nat))=((x.Joints.length+k:Nat):Int):=by rw[D8d (by omega) (by omega)];omega
   simp only[hw1,Int.toNat_natCast];refine⟨bE_,hi,bE_,?_⟩;refine A0 (C7i c (sol w x).1 ((cRA w x x.Contacts.length).2.getD (x.Joints.length+k) 0) (by omega) (by omega)) rfl ?_;simp only[go_sem,go_sem_proc];refine⟨⟨hl.symm,by omega⟩,hl.symm,?_⟩;refine A7 ⟨k+1,by omega⟩ (by show x.Contacts.length-(k+1)<x.Contacts.length-k;omega) ?_;simp only[hn];refine C0 [] [] ?_;simp only[go_sem,go_sem_proc]
   (repeat' (with_reducible apply And.intro)) <;> first |exact A2q _ (by omega) rfl rfl |exact eE_
 refine E0 hm ?_;have hq1:=E5y w x (H4 w x).length
 have hq2:=C6a w x x.Joints.length
 have hq3:=C59 w x x.Contacts.length;simp only[go_sem,go_sem_proc];rw[hq1,hq2,hq3];exact⟨⟨rfl,rfl,rfl⟩,I4 _,I4 _,I4 _⟩
theorem D0z(w:Api.World)(x:B1)(hw:Wsm w)(hx:Ism x)(hP:F2 w=0-> ∀c∈w.Contacts,c.Manifold.Points.length<=2)(hJ:w.Joints.length<=20000)(hC:w.Contacts.length<=230400):A1 Tryz.prog A4a [.agg w.enc, .agg x.enc] [] (.agg (D5v w x).enc) []:=by
 unfold D5v;by_cases ha:A6c w x (A0z w x)=false
 ·rw[if_pos ha];exact D7n w x hw hx ha
 rw[if_neg ha];have ha:=Bool.not_eq_false _▸ha;by_cases hp:pOk w x;rotate_left
 ·rw[if_pos (.inl hp)];exact D7o w x hw hx ha hp
 have hP:=hP hp.1;by_cases h0:(S0 w x).length=0
 ·rw[if_pos (.inr h0)];exact D7p w x hw hx ha hp h0 hP
 rw[if_neg (λh=>h.elim (λh=>h hp) h0)];refine D7q w x hw hx ha hp h0 hP ?_;have h1:=D06 w x hP (B8z hp.2.2.1) x.Contacts.length (Nat.le_refl _)
 have h2:=(D4r hp.2.2.1).2
 have h3:=(D4r hp.2.2.2).2;omega
def D1f(e:Int×Int):List AV:= [sI e.1,sI e.2,sI 0,sI 0,sI 0]
attribute [go_sem] D1f
def wkB(b:Body):Body:= {b with Asleep:=false,IdleSteps:=0}
def B0l(s:List Body×List (Int×Int))(i:Int):List Body×List (Int×Int):=if(s.1.getD i.toNat default).Asleep=true then(s.1.set i.toNat (wkB (s.1.getD i.toNat default)),s.2++ [(7,(s.1.getD i.toNat default).ID)])else s
def wkF(w:Api.World)(l:List Int):List Body×List (Int×Int):=l.foldl B0l (w.Bodies,[])
theorem G0i(w:Api.World):wkF w []=(w.Bodies,[]):=rfl
theorem E6a {w:Api.World}{l:List Int}{k:Nat}(h:k<l.length):wkF w (l.take (k+1))=B0l (wkF w (l.take k)) (l.getD k 0):=by unfold wkF;rw[K9 0 h];simp
theorem F1v(s:List Body×List (Int×Int))(i:Int):(B0l s i).1.length=s.1.length/\(B0l s i).2.length<=s.2.length+1:=by unfold B0l;split <;> simp
theorem E9l(w:Api.World)(l:List Int):(wkF w l).1.length=w.Bodies.length/\(wkF w l).2.length<=l.length:=by
 have: ∀(l:List Int) (s:List Body×List (Int×Int)),(l.foldl B0l s).1.length=s.1.length/\(l.foldl B0l s).2.length<=s.2.length+l.length:=by
  intro l;induction l with
  |nil=>intro s;simp
  |cons a l ih=>intro s;have h1:=ih (B0l s a);have h2:=F1v s a;simp only[List.foldl_cons,List.length_cons];omega
 have:=this l (w.Bodies,[]);simpa[wkF]using this
def U4(w:Api.World)(bs:List Body):Api.World:= {w with Bodies:=bs}
def G3b(k:Nat)(e:List (Int×Int)):List (Nat×A5):= [(k, .arr 5 (A8 D1f default e))]
attribute [go_sem] G3b U4
def E2x(w:Api.World)(bs:List Body)(x:B1)(l:List Int):List (Nat×A5):= [(6, .box (E4t w x l.length)),(5, .arr 1 (A8 B9 0 l)),(1, .arr 20 (A8 Body.enc default bs)),(2, .arr 24 (A8 Joint.enc default w.Joints)),(3, .arr 7 (A8 Contact.enc default w.Contacts)),(4, .arr 4 (A8 PairKey.enc default w.Overlaps))]
attribute [go_sem] E2x
def wkR(w:Api.World)(x:B1):List Body×List (Int×Int):=if A6c w x (A0z w x)=true then wkF w (A0z w x)else(w.Bodies,[])
def upF(w:Api.World)(l:List Int):List Body:=l.foldl (λbs i=>bs.set i.toNat (B3g (bs.getD i.toNat default))) w.Bodies
theorem G0f(w:Api.World):upF w []=w.Bodies:=rfl
theorem F63 {w:Api.World}{l:List Int}{k:Nat}(h:k<l.length):upF w (l.take (k+1))=(upF w (l.take k)).set (l.getD k 0).toNat (B3g ((upF w (l.take k)).getD (l.getD k 0).toNat default)):=by unfold upF;rw[K9 0 h];simp
theorem E9k(w:Api.World)(l:List Int):(upF w l).length=w.Bodies.length:=by
 have: ∀(l:List Int) (s:List Body),(l.foldl (λbs i=>bs.set i.toNat (B3g (bs.getD i.toNat default))) s).length=s.length:=by
  intro l;induction l with
  |nil=>intro s;rfl
  |cons a l ih=>intro s;rw[List.foldl_cons,ih];simp
 exact this l w.Bodies
theorem E7b {α:Type}(l:List α)(k:Nat)(d:α):l.getD k d∈l\/l.getD k d=d:=by
 by_cases h:k<l.length
 ·exact .inl (B7 d h)
 ·right;simp[List.getD,Nat.le_of_not_lt h]
theorem G2t {w:Api.World}(hw:Wsm w)(l:List Int):Wsm (U4 w (upF w l)):=by
 obtain⟨w1,w2,w3,w4,w5,w6⟩:=hw;have hd:Body.sm default:=⟨by decide,λf hf=>by cases hf⟩
 have: ∀(l:List Int) (s:List Body),(∀b∈s,Body.sm b)-> ∀b∈l.foldl (λbs i=>bs.set i.toNat (B3g (bs.getD i.toNat default))) s,Body.sm b:=by
  intro l;induction l with
  |nil=>exact λs h=>h
  |cons a l ih=>
   intro s h;refine ih _ λb hb=> ?_;rcases List.mem_or_eq_of_mem_set hb with h1 |rfl
   ·exact h b h1
   ·show Body.sm (s.getD a.toNat default);rcases E7b s a.toNat default with h2 |h2
    ·exact h _ h2
    ·rw[h2];exact hd
 refine⟨?_,w2,w3,w4,this l _ w5,w6⟩;show(upF w l).length<=_;rw[E9k];exact w1
def F6z(b:Body):Body:= {b with Asleep:=true,Velocity:=⟨0,0⟩,AngularVelocity:=0}
def B4o(s:List Body×List (Int×Int))(i:Int):List Body×List (Int×Int):=(s.1.set i.toNat (F6z (s.1.getD i.toNat default)),s.2++ [(6,(s.1.getD i.toNat default).ID)])
def slF(bs:List Body)(l:List Int):List Body×List (Int×Int):=l.foldl B4o (bs,[])
theorem G0b(bs:List Body):slF bs []=(bs,[]):=rfl
theorem F6w {bs:List Body}{l:List Int}{k:Nat}(h:k<l.length):slF bs (l.take (k+1))=B4o (slF bs (l.take k)) (l.getD k 0):=by unfold slF;rw[K9 0 h];simp
theorem E9g(bs:List Body)(l:List Int):(slF bs l).1.length=bs.length/\(slF bs l).2.length<=l.length:=by
 have: ∀(l:List Int) (s:List Body×List (Int×Int)),(l.foldl B4o s).1.length=s.1.length/\(l.foldl B4o s).2.length<=s.2.length+l.length:=by
  intro l;induction l with
  |nil=>intro s;simp
  |cons a l ih=>intro s;have h1:=ih (B4o s a);simp only[B4o,List.length_set,List.length_append,List.length_singleton]at h1;simp only[List.foldl_cons,List.length_cons,B4o];omega
 have:=this l (bs,[]);simpa[slF]using this
def B0j(w:Api.World)(x:B1)(l:List Int):Bool:=!(decide (w.Settings.SleepSteps<=0))&& !(decide (l.length=0))&& !(l.any λi=>decide ((B30 (U4 w (upF w l)) i).IdleSteps<w.Settings.SleepSteps))&& !(B5h (U4 w (upF w l)) x)
def B4s(w:Api.World)(x:B1):List Body×List (Int×Int):=if A6c w x (A0z w x)=true then(if B0j w x (A0z w x)=true then slF (upF w (A0z w x)) (A0z w x)else(upF w (A0z w x),[]))else(w.Bodies,[])
def eB(g:Body->Body)(l:List Body)(i:Nat):List Body:=(l.take i).map g++l.drop i
theorem G06(g:Body->Body)(l:List Body)(i:Nat):(eB g l i).length=l.length:=by simp[eB];omega
theorem G26(g:Body->Body){l:List Body}{i:Nat}(h:i<l.length):(eB g l i).getD i default=l.getD i default:=by
 unfold eB;have hq:((l.take i).map g).length=i:=by simp;omega
 simp only[List.getD];rw[List.getElem?_append_right (by omega),hq,Nat.sub_self,List.getElem?_drop,Nat.add_zero]
theorem G07(g:Body->Body){l:List Body}{i:Nat}(h:i<l.length):eB g l (i+1)=(eB g l i).set i (g (l.getD i default)):=by
 unfold eB;have hq:((l.take i).map g).length=i:=by simp;omega
 rw[K9 default h,List.map_append,List.map_singleton,List.set_append_right _ _ (by omega),hq,Nat.sub_self,List.append_assoc];congr 1;rw[List.drop_eq_getElem_cons h];rfl
theorem D3v(w:Api.World)(hw:Wsm w)(f:FuncId)(cap:List AV)(g:Body->Body)(h2:F4 cap= [])(hr: ∀ρ,A7y ρ cap=cap)
  (hp: ∀b∈w.Bodies,A1 Tryz.prog f (.agg b.enc::cap) [] (.agg (g b).enc) []):
  A1 Tryz.prog E6u [.agg w.enc, .fn (.func f) [] cap] [] (.agg (U4 w (w.Bodies.map g)).enc) []:=by
 have hbn:=hw.1;refine L5 26 [(4,some (some 11))] hm A4 Tryz.func114 rfl ?_;simp only[go_sem,go_sem_proc];refine K1 ev_ J8 (A57 w hw) ?_;simp only[go_sem,go_sem_proc];refine B0 hm (ι:= {i:Nat // i<=w.Bodies.length}) (λi=> [(1, .share, .fn (.func f) [] cap),(2, .share, .ptr 48 0 0 1),(4, .share, .ptr 80 0 0 1),(10, .share, .sl 1 0 w.Bodies.length w.Bodies.length),(11, .share,sI w.Bodies.length),(12, .share,sI (i.1:Nat))]) (λi=> [(48, .box [sI w.Settings.TimeStep,sI w.Settings.Gravity.X,sI w.Settings.Gravity.Y,sI w.Settings.Iterations,sI w.Settings.SleepSteps, .sl 1 0 w.Bodies.length w.Bodies.length, .sl 2 0 w.Joints.length w.Joints.length, .sl 3 0 w.Contacts.length w.Contacts.length, .sl 4 0 w.Overlaps.length w.Overlaps.length,sI w.NextID,sI w.Frame]),(80, .box World.zero),(1, .arr 20 (A8 Body.enc default (eB g w.Bodies i.1))),(2, .arr 24 (A8 Joint.enc default w.Joints)),(3, .arr 7 (A8 Contact.enc default w.Contacts)),(4, .arr 4 (A8 PairKey.enc default w.Overlaps))]) (λi=>w.Bodies.length-i.1) ⟨0,Nat.zero_le _⟩ ?_ ?_
 ·rw[show eB g w.Bodies 0=w.Bodies from rfl];simp only[World.zero];refine C0 [(1,144),(2,145),(3,146),(4,147)] [] ?_;simp only[go_sem,go_sem_proc];exact⟨by rw[hr],λi hi=>by rw[h2]at hi;cases hi⟩
 ·rintro⟨k,hk⟩;dsimp only;have hn:=λh=>G07 g (l:=w.Bodies) (i:=k) h
  have hat:=λh=>G26 g (l:=w.Bodies) (i:=k) h
  have hl:=G06 g w.Bodies k
  have hfin:w.Bodies.length<=k->eB g w.Bodies k=w.Bodies.map g:=λh=>by simp[eB,show k=w.Bodies.length by omega]
  generalize eB g w.Bodies k=B at hn hat hl hfin⊢;simp only[go_sem,go_sem_proc];by_cases hlt:k<w.Bodies.length;rotate_left
  ·rw[if_neg (by omega),hfin (by omega),List.length_map];exact⟨rfl,I4 _⟩
  rw[if_pos (by omega)];refine⟨⟨hl.symm,by omega⟩,hl.symm,?_⟩;rw[hat hlt];replace hn:=hn hlt;have hx:=hp _ (B7 (l:=w.Bodies) (i:=k) default hlt);generalize w.Bodies.getD k default=b at hn hx⊢;refine B5w hx (by simp[h2,F4,AV.ids]) rfl ?_;simp only[go_sem,go_sem_proc];refine⟨⟨hl.symm,by omega⟩,hl.symm,?_⟩;refine A7 ⟨k+1,by omega⟩ (by show w.Bodies.length-(k+1)<w.Bodies.length-k;omega) ?_;simp only[hn];refine C0 [] [] ?_;simp only[go_sem,go_sem_proc];exact⟨by rw[hr],(λi hi=>by rw[h2]at hi;cases hi),bE_,A2q _ (by omega) rfl rfl⟩
def brk(w:Api.World)(j:Joint):Bool:=A6h j w.Settings.TimeStep
def F48(j:Joint):Api.Event:=⟨5,⟨j.ID,0,0,0⟩⟩
def bkL(w:Api.World)(l:List Joint):List Api.Event:=(l.filter (brk w)).map F48
def bjO(w:Api.World)(e:List Api.Event):List (Nat×A5):= [(8, .box w.enc),(9, .box [.sl 7 0 e.length e.length]),(7, .arr 5 (A8 Api.Event.enc default e))]
attribute [go_sem] bjO
theorem D1u {w:Api.World}{e:List Api.Event}:okO (bjO w e):=by
 refine⟨by simp[bjO],λp hp cs ee j hj=> ?_⟩;simp only[bjO,List.mem_cons,List.not_mem_nil,or_false]at hp;rcases hp with rfl |rfl |rfl
 ·simp only[A5.box.injEq]at ee;subst ee;simp[World.enc,F4,AV.ids,A2]at hj
 ·simp only[A5.box.injEq]at ee;subst ee;simp[F4,AV.ids]at hj;subst hj;rfl
 ·cases ee
theorem D4u {w:Api.World}{l:List Joint}{k:Nat}(h:k<l.length):bkL w (l.take (k+1))=if brk w (l.getD k default)=true then bkL w (l.take k)++ [F48 (l.getD k default)]else bkL w (l.take k):=by
 unfold bkL;rw[K9 default h,List.filter_append,List.map_append];split
 ·rename_i hp;rw[List.filter_cons_of_pos hp];rfl
 ·rename_i hp;rw[List.filter_cons_of_neg hp];simp
theorem D89 {w:Api.World}{l:List Joint}:(bkL w l).length<=l.length:=by unfold bkL;rw[List.length_map];exact List.length_filter_le ..
theorem E37 {w:Api.World}{l:List Joint}{k:Nat}(h: ∀j,j<k->brk w (l.getD j default)=false)(hk:k<=l.length):bkL w (l.take k)= []:=by
 induction k with
 |zero=>rfl
 |succ k ih=>rw[D4u (by omega),if_neg (by rw[h k (by omega)];simp),ih (λj hj=>h j (by omega)) (by omega)]
theorem E9d(w:Api.World)(j:Joint)(e:List Api.Event)(he:e.length<=4194304):
  A1 Tryz.prog A04 [.agg j.enc, .ptr 8 0 0 1, .ptr 9 0 0 1] (bjO w e) (sB (brk w j)) (bjO w (if brk w j=true then e++ [F48 j]else e)):=by
 refine H8 hm A4 Tryz.func203 rfl rfl ?_;simp only[go_sem,go_sem_proc];refine A0 (D0f j w.Settings.TimeStep) rfl ?_;rw[show A6h j w.Settings.TimeStep=brk w j from rfl];generalize brk w j=p;simp only[go_sem,go_sem_proc];cases p with
 |false=>rw[if_neg (by simp),if_neg (by simp)];refine V7 [.share] [] [] ?_;simp only[go_sem,go_sem_proc]
 |true=>rw[if_pos rfl,if_pos rfl];refine⟨bE_,?_⟩;refine V7 [.share] [] [] ?_;simp only[go_sem,go_sem_proc];exact eE_
theorem F16 {w:Api.World}{e:List Api.Event}{j:Joint}: ∀a∈ [AV.agg j.enc, .ptr 8 0 0 1, .ptr 9 0 0 1],∀i∈a.ids,(ofL (bjO w e) i).isSome:=by
 intro a ha i hi;simp only[List.mem_cons,List.not_mem_nil,or_false]at ha;rcases ha with rfl |rfl |rfl
 ·simp[AV.ids,Joint.enc,F4]at hi
 ·simp[AV.ids]at hi;subst hi;rfl
 ·simp[AV.ids]at hi;subst hi;rfl
def dfO(w:Api.World)(l:List Joint)(e:List Api.Event):List (Nat×A5):=(1, .arr 24 (A8 Joint.enc default l))::bjO w e
attribute [go_sem] dfO
theorem E87 {w:Api.World}{l:List Joint}{e:List Api.Event}:okO (dfO w l e):=by
 refine⟨by simp[dfO,bjO],λp hp cs ee j hj=> ?_⟩;simp only[dfO,bjO,List.mem_cons,List.not_mem_nil,or_false]at hp;rcases hp with rfl |rfl |rfl |rfl
 ·cases ee
 ·simp only[A5.box.injEq]at ee;subst ee;simp[World.enc,F4,AV.ids,A2]at hj
 ·simp only[A5.box.injEq]at ee;subst ee;simp[F4,AV.ids]at hj;subst hj;rfl
 ·cases ee
theorem B6v(w:Api.World)(l:List Joint)(hl:l.length<=4000000):
  A1 Tryz.prog A9y [.sl 1 0 l.length l.length, .fn (.func A04) [] [.ptr 8 0 0 1, .ptr 9 0 0 1]] (dfO w l []) (sI (A48 default (brk w) l)) (dfO w l (bkL w (if A48 default (brk w) l= -1 then l else l.take (A48 default (brk w) l+1).toNat))):=by
 refine H8 hm A4 Tryz.func333 rfl rfl ?_;simp only[go_sem,go_sem_proc];refine B0 hm (ι:= {i:Nat // i<=l.length/\ ∀j,j<i->brk w (l.getD j default)=false}) (λi=> [(0, .share, .sl 1 0 l.length l.length),(1, .share, .fn (.func A04) [] [.ptr 8 0 0 1, .ptr 9 0 0 1]),(7, .share,sI l.length),(8, .share,sI i.1)])
  (λi=>dfO w l []) (λi=>l.length-i.1) ⟨0,by omega,λj hj=>by omega⟩ ?_ ?_
 ·refine C0 [] [] ?_;simp only[go_sem,go_sem_proc]
 ·rintro⟨i,hi,hs⟩;simp only[go_sem,go_sem_proc];split
  ·rename_i hlt;have hlt:i<l.length:=by omega
   refine⟨⟨by omega,by omega⟩,?_⟩;have hx:=E9d w (l.getD i default) [] (by simp)
   have hb:=D4u (w:=w) (l:=l) hlt;rw[E37 hs (by omega)]at hb;rw[<-hb]at hx;refine E6 hx D1u D1u (by simp[bjO]) (by simp[bjO,World.enc,upd,A2,go_sem,go_sem_proc]) (by simp[bjO]) F16 rfl ?_;simp only[go_sem,go_sem_proc];cases hpx:brk w (l.getD i default)with
   |true=>rw[if_pos rfl,A86 hlt hs hpx,if_neg (by omega),show((i:Int)+1).toNat=i+1 by omega];refine V7 [.share] [] [] ?_;simp only[go_sem,go_sem_proc]
   |false=>rw[hpx,if_neg (by simp)]at hb;rw[if_neg (by simp),hb];refine A7 ⟨i+1,by omega,λj hj=>by rcases Nat.lt_succ_iff_lt_or_eq.1 hj with h |rfl;exact hs j h;exact hpx⟩ (by show l.length-(i+1)<l.length-i;omega) ?_;refine C0 [] [] ?_;simp only[go_sem,go_sem_proc];exact eE_
  ·rename_i hge;rw[A4j λj hj=>hs j (by omega),if_pos rfl];have hb:=E37 (w:=w) (l:=l) hs (by omega);rw[show i=l.length by omega,List.take_length]at hb;rw[hb];refine V7 [.share] [] [] ?_;simp only[go_sem,go_sem_proc]
theorem G02 {w:Api.World}{l:List Joint}{e:List Api.Event}: ∀a∈ [AV.sl 1 0 l.length l.length, .fn (.func A04) [] [.ptr 8 0 0 1, .ptr 9 0 0 1]],∀i∈a.ids,(ofL (dfO w l e) i).isSome:=by
 intro a ha i hi;simp only[List.mem_cons,List.not_mem_nil,or_false]at ha;rcases ha with rfl |rfl
 ·simp[AV.ids]at hi;subst hi;rfl
 ·simp[AV.ids,F4]at hi;rcases hi with rfl |rfl <;> rfl
theorem B5s(w:Api.World)(l:List Joint)(hl:l.length<=4000000):
  A1 Tryz.prog B70 [.sl 1 0 l.length l.length, .fn (.func A04) [] [.ptr 8 0 0 1, .ptr 9 0 0 1]] (dfO w l []) (.sl 1 0 (dfR default (brk w) l l.length).1 l.length) ((1, .arr 24 (dfQ Joint.enc default (brk w) l F4n))::bjO w (bkL w l)):=by
 refine H8 hm A4 Tryz.func202 rfl rfl ?_;simp only[go_sem,go_sem_proc];refine E6 (B6v w l hl) E87 E87 (by simp[dfO,bjO]) (by simp[dfO,bjO,World.enc,upd,A2,go_sem,go_sem_proc]) (by simp[dfO,bjO]) G02 rfl ?_;simp only[go_sem,go_sem_proc];rcases D67 (d:=default) (p:=brk w) (l:=l)with⟨e,h0⟩ |⟨i0,hi0,e,hp0,hs0⟩
 ·rw[e,if_pos (by decide),E4i h0,B5g l.length (Nat.le_refl _) h0,if_pos rfl];refine V7 [.share] [] [] ?_;simp only[go_sem,go_sem_proc]
 rw[e,if_neg (by simp),if_neg (by omega),show((i0:Int)+1).toNat=i0+1 by omega];refine B0 hm (ι:= {j:Nat // j<=l.length}) (λj=> [(0, .share, .sl 1 0 l.length l.length),(1, .share, .fn (.func A04) [] [.ptr 8 0 0 1, .ptr 9 0 0 1]),(5, .share,sI ((dfR default (brk w) l j.1).1)),(6, .share,sI j.1)])
  (λj=>dfO w (dfR default (brk w) l j.1).2 (bkL w (l.take j.1))) (λj=>l.length-j.1) ⟨i0+1,hi0⟩ ?_ ?_
 ·have e1:dfR default (brk w) l (i0+1)=(i0,l):=by
   rw[dfR,B5g i0 (by omega) hs0];unfold B3z;rw[if_pos hp0]
  rw[e1];refine C0 [] [] ?_;simp only[go_sem,go_sem_proc];exact eE_
 ·rintro⟨j,hj⟩;obtain⟨g1,g2,g3,g4⟩:=B8k (d:=default) (p:=brk w) (l:=l) j hj;dsimp only;have hnext:=λhjl:j<l.length=>(show dfR default (brk w) l (j+1)=B3z default (brk w) j (dfR default (brk w) l j)from rfl);generalize hst:dfR default (brk w) l j=st at g1 g2 g3 g4 hnext⊢;obtain⟨i,m⟩:=st;dsimp only at g1 g2 g3 g4 hnext⊢;simp only[go_sem,go_sem_proc];split
  ·rename_i hlt;have hlt:j<l.length:=by omega
   have hgj:=g3 j (Nat.le_refl j)
   have hn:=hnext hlt;simp only[hgj];refine⟨⟨g2.symm,by omega,by omega⟩,g2.symm,?_⟩;have hbl:(bkL w (l.take j)).length<=4194304:=by
    have h1:=D89 (w:=w) (l:=l.take j)
    have h2:(l.take j).length<=l.length:=by rw[List.length_take];omega
    omega
   have hx:=E9d w (l.getD j default) (bkL w (l.take j)) hbl
   have hb:=D4u (w:=w) (l:=l) hlt;rw[<-hb]at hx;refine E6 hx D1u D1u (by simp[bjO]) (by simp[bjO,World.enc,upd,A2,go_sem,go_sem_proc]) (by simp[bjO]) F16 rfl ?_;simp only[go_sem,go_sem_proc];unfold B3z at hn;dsimp only at hn;rw[hgj]at hn;cases hpx:brk w (l.getD j default)with
   |true=>rw[hpx,if_pos rfl]at hn;rw[if_neg (by simp)];refine A7 ⟨j+1,hlt⟩ (by show l.length-(j+1)<l.length-j;omega) ?_;simp only[hn];refine C0 [] [] ?_;simp only[go_sem,go_sem_proc];exact eE_
   |false=>rw[hpx,if_neg (by simp)]at hn;rw[if_pos rfl];refine⟨⟨g2.symm,by omega,by omega⟩,g2.symm,?_⟩;refine A7 ⟨j+1,hlt⟩ (by show l.length-(j+1)<l.length-j;omega) ?_;simp only[hn];rw[B1v (l.getD j default) (by omega) (by rw[<-hgj];rfl)];refine C0 [] [] ?_;simp only[go_sem,go_sem_proc];exact eE_
  ·rename_i hge;obtain rfl:j=l.length:=by omega
   have e1:((l.length:Int)-(i:Int)).toNat=l.length-i:=by omega
   have e2:((i:Int)-0).toNat=i:=by omega
   rw[e1,e2,List.take_length];refine⟨⟨g2.symm,by omega,by omega,by omega⟩,g2.symm,⟨g2.symm,by omega,by omega,by omega⟩,?_⟩;unfold dfQ;rw[hst];refine V7 [.share] [] [] ?_;simp only[go_sem,go_sem_proc]
   all_goals exact B1t
def bkW(w:Api.World):Api.World:= {w with Joints:=w.Joints.filter λj=> !brk w j}
theorem D00(w:Api.World)(hw:Wsm w):A1 Tryz.prog C8x [.agg w.enc] [] (.tup [.agg (bkW w).enc,A2 5 Api.Event.enc default (bkL w w.Joints)]) []:=by
 have hjn:w.Joints.length<=1048576:=hw.2.1
 have hD:=B5s w w.Joints (by omega);refine F7e 13 [(2,some (some 11)),(3,none)] hm A4 Tryz.func119 rfl ?_;refine C4 [(1, .share, .ptr 8 0 0 1),(2, .share, .ptr 48 0 0 1),(3, .share, .sc (.slice none 0 0))] [(8, .box w.enc),(48, .box World.zero)] (E0 hm ?_) ?_
 ·simp only[go_sem,go_sem_proc,World.zero];refine C0 [(8,32)] [] ?_;simp only[go_sem,go_sem_proc]
 refine C4 [(1, .share, .ptr 8 0 0 1),(2, .share, .ptr 48 0 0 1),(4, .share, .ptr 9 0 0 1)] ([(48, .box World.zero)]++bjO w []) (E0 hm ?_) ?_
 ·simp only[go_sem,go_sem_proc,World.zero];refine C0 [(9,80)] [7] ?_;simp only[go_sem,go_sem_proc]
 refine E0 hm ?_;simp only[go_sem,go_sem_proc];refine K1 ev_ J8 (A8s w.Joints hjn) ?_;simp only[go_sem,go_sem_proc];refine E3 [true,true] [(1,128)] hD (by simp[dfO,bjO]) (by simp[bjO]) (by simp[bjO,A6]) (by simp[dfO,bjO,go_sem]) ?_;simp only[go_sem,go_sem_proc];exact⟨F7c.symm,rfl,rfl,rfl,rfl,rfl,I4 _,F2n rfl λ_=>rfl,I4 _,I4 _,rfl,rfl⟩
def evP(p:Int×Int):Api.Event:=⟨p.1,⟨p.2,0,0,0⟩⟩
theorem F2u(l:List (Int×Int)):M4 (A2 5 D1f default l) (A2 5 Api.Event.enc default (l.map evP)):=by
 unfold A2;rw[A11];refine⟨rfl,by rw[List.length_map],λi hi=> ?_⟩;show A08 (D1f (l.getD i default)) (Api.Event.enc ((l.map evP).getD i default));have hi':i<l.length:=hi
 have e:(l.map evP).getD i default=evP (l.getD i default):=by simp only[List.getD,List.getElem?_map,List.getElem?_eq_getElem hi',Option.map_some,Option.getD_some]
 rw[e];exact L3 _
theorem E2r(w:Api.World)(x:B1)(hw:Wsm w)(hx:Ism x):A1 Tryz.prog E3m [.agg w.enc, .agg x.enc] [] (.tup [.agg (U4 w (wkR w x).1).enc,A2 5 Api.Event.enc default ((wkR w x).2.map evP)]) []:=by
 have hl:=D48 (w:=w) hx;refine A63 62 [(4,some (some 11)),(5,none)] hm A4 Tryz.func99 rfl ?_;simp only[go_sem,go_sem_proc];refine E3 [true,true] [] (B2w w x hw hx) (by simp) (by simp[go_sem]) (by simp[go_sem]) (by simp) ?_;simp only[go_sem,go_sem_proc];refine A1k (A9f w x (A0z w x) hw hx hl (C3l w x)) (B0e w x _) (by simp[go_sem,A0z]) (by simp[go_sem,AV.ids]) rfl ?_;simp only[go_sem,go_sem_proc];cases haw:A6c w x (A0z w x)with
 |false=>
  simp only[go_sem,go_sem_proc];have hr:wkR w x=(w.Bodies,[]):=by unfold wkR;rw[haw];rfl
  rw[hr]
  try simp only[go_sem,go_sem_proc]
  (repeat' (with_reducible apply And.intro)) <;> exact eE_
 |true=>
  simp only[go_sem,go_sem_proc];have hr:wkR w x=wkF w (A0z w x):=by unfold wkR;rw[haw];rfl
  rw[hr];have hin:=C3l w x;generalize hll:A0z w x=l at*;refine B0 hm (ι:= {i:Nat // i<=l.length}) (λi=> [(4, .share, .ptr 80 0 0 1),(6, .share, .ptr 6 0 0 1),(7,if i.1=0 then .adopt else .share, .sl 7 0 (wkF w (l.take i.1)).2.length (wkF w (l.take i.1)).2.length),(24, .share, .sl 5 0 l.length l.length),(25, .share,sI l.length),(26, .share,sI i.1)])
   (λi=>(80, .box World.zero)::(7, .arr 5 (A8 D1f default (wkF w (l.take i.1)).2))::E2x w (wkF w (l.take i.1)).1 x l) (λi=>l.length-i.1) ⟨0,by omega⟩ ?_ ?_
  ·refine B6 [] [7] (by simp[go_sem]) (by simp[A6,go_sem]) (by simp[go_sem]) ?_;simp only[go_sem,go_sem_proc,G0i]
  ·rintro⟨i,hi⟩;obtain⟨hb1,hb2⟩:=E9l w (l.take i);simp only[List.length_take]at hb2;simp only[go_sem,go_sem_proc];split
   ·rename_i hlt;have hlt:i<l.length:=by omega
    obtain⟨hi0,hi1⟩:=hin _ (B7 0 hlt);refine⟨(by(repeat' (with_reducible apply And.intro)) <;> omega),(by(repeat' (with_reducible apply And.intro)) <;> omega),hb1.symm,?_⟩;by_cases hs:((wkF w (l.take i)).1.getD (l.getD i 0).toNat default).Asleep=true
    ·have he:wkF w (l.take (i+1))=((wkF w (l.take i)).1.set (l.getD i 0).toNat (wkB ((wkF w (l.take i)).1.getD (l.getD i 0).toNat default)),(wkF w (l.take i)).2++ [(7,((wkF w (l.take i)).1.getD (l.getD i 0).toNat default).ID)]):=by
      rw[E6a hlt,B0l,if_pos hs]
     rw[if_pos hs];refine⟨hb1.symm,hb1.symm,hb1.symm,(by(repeat' (with_reducible apply And.intro)) <;> first |omega |(simp only[maxLen];omega)),?_⟩;refine A7 ⟨i+1,by omega⟩ (by show l.length-(i+1)<l.length-i;omega) (B6 [] [] (by simp[go_sem]) (by simp[go_sem]) (by simp[go_sem]) ?_);simp only[go_sem,go_sem_proc,he,List.length_append,List.length_singleton];exact⟨(by rw[IntKind.wrap_i64];omega),A1q (7,((wkF w (l.take i)).1.getD (l.getD i 0).toNat default).ID) rfl rfl,A2q (wkB ((wkF w (l.take i)).1.getD (l.getD i 0).toNat default)) (by omega) rfl rfl⟩
    ·have he:wkF w (l.take (i+1))=wkF w (l.take i):=by
      rw[E6a hlt,B0l,if_neg hs]
     rw[if_neg hs];refine A7 ⟨i+1,by omega⟩ (by show l.length-(i+1)<l.length-i;omega) (B6 [] [] (by simp[go_sem]) (by simp[go_sem]) (by simp[go_sem]) ?_);simp only[go_sem,go_sem_proc,he];exact(by rw[IntKind.wrap_i64];omega)
   ·rename_i hge;obtain rfl:i=l.length:=by omega
    simp only[go_sem,go_sem_proc,List.take_length]at hb1 hb2⊢
    try simp only[go_sem,go_sem_proc,hb1]
    (repeat' (with_reducible apply And.intro)) <;> exact F2u _
theorem D75(w:Api.World)(x:B1)(hw:Wsm w)(hx:Ism x):A1 Tryz.prog D8y [.agg w.enc, .agg x.enc] [] (.tup [.agg (U4 w (B4s w x).1).enc,A2 5 Api.Event.enc default ((B4s w x).2.map evP)]) []:=by
 have hl:=D48 (w:=w) hx;refine A63 119 [(4,some (some 11)),(5,none)] hm A4 Tryz.func118 rfl ?_;simp only[go_sem,go_sem_proc];refine E3 [true,true] [] (B2w w x hw hx) (by simp) (by simp[go_sem]) (by simp[go_sem]) (by simp) ?_;simp only[go_sem,go_sem_proc];refine A1k (A9f w x (A0z w x) hw hx hl (C3l w x)) (B0e w x _) (by simp[go_sem,A0z]) (by simp[go_sem,AV.ids]) rfl ?_;simp only[go_sem,go_sem_proc];cases haw:A6c w x (A0z w x)with
 |false=>
  simp only[go_sem,go_sem_proc];have hr:B4s w x=(w.Bodies,[]):=by unfold B4s;rw[haw];rfl
  rw[hr]
  try simp only[go_sem,go_sem_proc]
  (repeat' (with_reducible apply And.intro)) <;> exact eE_
 |true=>
  simp only[go_sem,go_sem_proc];have hr:B4s w x=if B0j w x (A0z w x)=true then slF (upF w (A0z w x)) (A0z w x)else(upF w (A0z w x),[]):=by unfold B4s;rw[haw];rfl
  rw[hr];have hin:=C3l w x;generalize hll:A0z w x=l at*;refine B0 hm (ι:= {i:Nat // i<=l.length}) (λi=> [(4, .share, .ptr 80 0 0 1),(6, .share, .ptr 6 0 0 1),(26, .share, .sl 5 0 l.length l.length),(27, .share,sI l.length),(28, .share,sI i.1)])
   (λi=>(80, .box World.zero)::E2x w (upF w (l.take i.1)) x l) (λi=>l.length-i.1) ⟨0,by omega⟩ ?_ ?_
  ·refine B6 [] [] (by simp[go_sem]) (by simp[A6,go_sem]) (by simp[go_sem]) ?_;simp only[go_sem,go_sem_proc,G0f]
  ·rintro⟨i,hi⟩;have hb1:=E9k w (l.take i);simp only[go_sem,go_sem_proc];split
   ·rename_i hlt;have hlt:i<l.length:=by omega
    obtain⟨hi0,hi1⟩:=hin _ (B7 0 hlt);refine⟨(by(repeat' (with_reducible apply And.intro)) <;> omega),(by(repeat' (with_reducible apply And.intro)) <;> omega),hb1.symm,?_⟩;refine A0 (D0v ((upF w (l.take i)).getD (l.getD i 0).toNat default)) rfl ?_;simp only[go_sem,go_sem_proc];refine⟨⟨hb1.symm,hi0,hi1⟩,hb1.symm,?_⟩;refine A7 ⟨i+1,by omega⟩ (by show l.length-(i+1)<l.length-i;omega) (B6 [] [] (by simp[go_sem]) (by simp[go_sem]) (by simp[go_sem]) ?_);simp only[go_sem,go_sem_proc,F63 hlt];exact⟨(by rw[IntKind.wrap_i64];omega),A2q (B3g ((upF w (l.take i)).getD (l.getD i 0).toNat default)) (by omega) rfl rfl⟩
   ·rename_i hge;obtain rfl:i=l.length:=by omega
    simp only[go_sem,go_sem_proc,List.take_length]at hb1⊢;have hob:=B0e (U4 w (upF w l)) x l
    have fin:(B0j w x l=false)-> ∀ {σ:St},True:=λ_ _=>trivial;cases hq:(if w.Settings.SleepSteps<=0 then true else((l.length:Int)==0))with
    |true=>
     have hst:B0j w x l=false:=by
      unfold B0j;by_cases h1:w.Settings.SleepSteps<=0
      ·rw[decide_eq_true h1];rfl
      ·rw[if_neg h1,beq_iff_eq]at hq;have:l.length=0:=by omega
       rw[decide_eq_true this];simp
     rw[if_neg (c:=B0j w x l=true) (by rw[hst];simp)];refine B1h (by simp) (sB false) ?_;simp only[go_sem,go_sem_proc];refine B1h (by simp) (sB false) ?_;simp only[go_sem,go_sem_proc]
     try simp only[go_sem,go_sem_proc,hb1]
     simp only[List.take_length,hb1]
     (repeat' (with_reducible apply And.intro)) <;> exact eE_
    |false=>
     have hst:B0j w x l=(!(l.any λi=>decide ((B30 (U4 w (upF w l)) i).IdleSteps<w.Settings.SleepSteps))&& !(B5h (U4 w (upF w l)) x)):=by
      unfold B0j;by_cases h1:w.Settings.SleepSteps<=0
      ·rw[if_pos h1]at hq;cases hq
      ·rw[if_neg h1,beq_eq_false_iff_ne]at hq;have: ¬l.length=0:=by omega
       rw[decide_eq_false this,decide_eq_false h1];rfl
     have hA:=B7q (U4 w (upF w l)) x l B1l (λb=>decide (b.IdleSteps<w.Settings.SleepSteps)) (C2m (U4 w (upF w l)) x l) hl (by show ∀i∈l,0<=i/\i<((upF w l).length:Int);rw[hb1];exact hin)
     have hD:=B4j (U4 w (upF w l)) x l (G2t hw l) hx;generalize(l.any λi=>decide ((B30 (U4 w (upF w l)) i).IdleSteps<w.Settings.SleepSteps))=pa at hst hA;generalize B5h (U4 w (upF w l)) x=pd at hst hD;refine A1k hA hob (by simp[go_sem,hb1]) (by simp[go_sem,AV.ids]) rfl ?_;simp only[go_sem,go_sem_proc,hb1];cases pa with
     |true=>
      rw[if_neg (c:=B0j w x l=true) (by rw[hst];simp)];refine B1h (by simp) (sB false) ?_;simp only[go_sem,go_sem_proc]
      try simp only[go_sem,go_sem_proc,hb1]
      (repeat' (with_reducible apply And.intro)) <;> exact eE_
     |false=>
      refine A1k hD hob (by simp[go_sem,hb1]) (by simp[go_sem,AV.ids]) rfl ?_;simp only[go_sem,go_sem_proc,hb1];cases pd with
      |true=>
       rw[if_neg (c:=B0j w x l=true) (by rw[hst];simp)];simp only[go_sem,go_sem_proc]
       try simp only[go_sem,go_sem_proc,hb1]
       (repeat' (with_reducible apply And.intro)) <;> exact eE_
      |false=>
       rw[if_pos (c:=B0j w x l=true) (by rw[hst];rfl)];simp only[go_sem,go_sem_proc];refine B0 hm (ι:= {i:Nat // i<=l.length}) (λi=> [(4, .share, .ptr 80 0 0 1),(6, .share, .ptr 6 0 0 1),(9,if i.1=0 then .adopt else .share, .sl 7 0 (slF (upF w l) (l.take i.1)).2.length (slF (upF w l) (l.take i.1)).2.length),(81, .share, .sl 5 0 l.length l.length),(82, .share,sI l.length),(83, .share,sI i.1)])
        (λi=>(80, .box World.zero)::(7, .arr 5 (A8 D1f default (slF (upF w l) (l.take i.1)).2))::E2x w (slF (upF w l) (l.take i.1)).1 x l) (λi=>l.length-i.1) ⟨0,by omega⟩ ?_ ?_
       ·refine B6 [] [7] (by simp[go_sem]) (by simp[A6,go_sem]) (by simp[go_sem]) ?_;simp only[go_sem,go_sem_proc,G0b]
       ·rintro⟨i,hi⟩;obtain⟨hc1,hc2⟩:=E9g (upF w l) (l.take i);simp only[List.length_take]at hc2;simp only[go_sem,go_sem_proc];split
        ·rename_i hlt;have hlt:i<l.length:=by omega
         obtain⟨hi0,hi1⟩:=hin _ (B7 0 hlt);have hc3:w.Bodies.length=(slF (upF w l) (l.take i)).1.length:=by rw[hc1,hb1]
         refine⟨(by(repeat' (with_reducible apply And.intro)) <;> omega),(by(repeat' (with_reducible apply And.intro)) <;> omega),hc3,?_⟩;have he:slF (upF w l) (l.take (i+1))=((slF (upF w l) (l.take i)).1.set (l.getD i 0).toNat (F6z ((slF (upF w l) (l.take i)).1.getD (l.getD i 0).toNat default)),(slF (upF w l) (l.take i)).2++ [(6,((slF (upF w l) (l.take i)).1.getD (l.getD i 0).toNat default).ID)]):=by rw[F6w hlt,B4o]
         refine⟨hc3,hc3,hc3,(by(repeat' (with_reducible apply And.intro)) <;> first |omega |(simp only[maxLen];omega)),?_⟩;refine A7 ⟨i+1,by omega⟩ (by show l.length-(i+1)<l.length-i;omega) (B6 [] [] (by simp[go_sem]) (by simp[go_sem]) (by simp[go_sem]) ?_);simp only[go_sem,go_sem_proc,he,List.length_append,List.length_singleton];exact⟨(by rw[IntKind.wrap_i64];omega),A1q (6,((slF (upF w l) (l.take i)).1.getD (l.getD i 0).toNat default).ID) rfl rfl,A2q (F6z ((slF (upF w l) (l.take i)).1.getD (l.getD i 0).toNat default)) (by omega) rfl rfl⟩
        ·rename_i hge;obtain rfl:i=l.length:=by omega
         simp only[go_sem,go_sem_proc,List.take_length]at hc1 hc2⊢;rw[hb1]at hc1
         try simp only[go_sem,go_sem_proc,hc1]
         (repeat' (with_reducible apply And.intro)) <;> exact F2u _
def D1g(l:List Api.Event):List AV:= [A2 5 Api.Event.enc default l]
attribute [go_sem] D1g
theorem D5i(n:Nat)(h0:0<n)(hn:n<=4194304):A1 Tryz.prog B40 [.sc (.slice none 0 0),sI n] [] (.sl 1 0 0 n) [(1, .arr 5 ⟨n,λ_=>Api.Event.zero⟩)]:=by
 have w1:IntKind.i64.wrap (0-0)=0:=rfl
 have w2:IntKind.i64.wrap ((n:Int)-0)=n:=by rw[IntKind.wrap_i64];omega
 refine H8 hm A4 Tryz.func208 rfl rfl ?_;simp only[go_sem,go_sem_proc];rw[if_neg (by omega)];simp only[w1,w2];rw[if_pos (by omega)];refine⟨(by(repeat' (with_reducible apply And.intro)) <;> omega),?_⟩;refine⟨by omega,?_⟩;simp only[Int.toNat_natCast];refine C8 [.share] [(1,368)] [] rfl rfl (by simp) (by simp) (by simp) ?_;simp only[go_sem,go_sem_proc];simp
theorem C7r(n:Nat)(hn:n<=4194304):A1 Tryz.prog B40 [.sc (.slice none 0 0),sI n] [] (.sl 1 0 0 0) [(1, .arr 5 (A8 Api.Event.enc default []))]:=by
 rcases Nat.eq_zero_or_pos n with rfl |h0
 ·have w1:IntKind.i64.wrap (0-0)=0:=rfl
  refine H8 hm A4 Tryz.func208 rfl rfl ?_;simp only[go_sem,go_sem_proc];rw[if_neg (by omega)];simp only[w1];rw[if_neg (by decide)];refine C8 [.adopt] [] [1] rfl rfl (by simp) (by simp[A6]) (by simp) ?_;simp only[go_sem,go_sem_proc]
 ·exact(D5i n h0 hn).shrink rfl _
def A7i(L:List (List Api.Event))(k:Nat):Nat:=((L.take k).flatten).length
theorem D78 {L:List (List Api.Event)}{k:Nat}(h:k<L.length):A7i L (k+1)=A7i L k+(L.getD k default).length:=by unfold A7i;rw[K9 default h];simp
theorem C6c(L:List (List Api.Event))(k:Nat):A7i L k<=L.flatten.length:=by
 unfold A7i;have:L.flatten=(L.take k).flatten++(L.drop k).flatten:=by rw[<-List.flatten_append,List.take_append_drop]
 rw[this,List.length_append];omega
theorem C33(L:List (List Api.Event))(hL:L.flatten.length<=4194304)(hl:L.length<=1000):A1 Tryz.prog C27 [A2 1 D1g default L] [] (A2 5 Api.Event.enc default L.flatten) []:=by
 refine en1 hm A4 Tryz.func122 rfl rfl ?_;simp only[go_sem,go_sem_proc];refine B0 hm (ι:= {i:Nat // i<=L.length}) (λi=> [(0, .share,A2 1 D1g default L),(3, .share,sI (A7i L i.1)),(9, .share,A2 1 D1g default L),(10, .share,sI L.length),(11, .share,sI i.1)])
  (λi=> []) (λi=>L.length-i.1) ⟨0,by omega⟩ ?_ ?_
 ·refine B6 [] [] (by simp[go_sem]) (by simp[A6,go_sem]) (by simp[go_sem]) ?_;simp only[go_sem,go_sem_proc];simp[A7i]
 ·rintro⟨i,hi⟩;have hs:=C6c L i;simp only[go_sem,go_sem_proc];by_cases hlt:(i:Int)<L.length
  ·rw[if_pos hlt];have hlt:i<L.length:=by omega
   have hs2:=C6c L (i+1)
   have he:=D78 hlt;refine⟨(by(repeat' (with_reducible apply And.intro)) <;> omega),?_⟩;have hw:IntKind.i64.wrap ((A7i L i:Int)+((L.getD i default).length:Int))=(A7i L (i+1):Int):=by rw[IntKind.wrap_i64,he];omega
   rw[hw,if_neg (by omega)];refine A7 ⟨i+1,by omega⟩ (by show L.length-(i+1)<L.length-i;omega) (B6 [] [] (by simp[go_sem]) (by simp[go_sem]) (by simp[go_sem]) ?_);simp only[go_sem,go_sem_proc];exact(by rw[IntKind.wrap_i64];omega)
  ·rw[if_neg hlt];obtain rfl:i=L.length:=by omega
   have hfull:A7i L L.length=L.flatten.length:=by unfold A7i;rw[List.take_length]
   refine E3 [true,true] [(1,7)] (C7r (A7i L L.length) (by omega)) (by simp) (by simp) (by simp) (by simp) ?_;simp only[go_sem,go_sem_proc];refine B0 hm (ι:= {i:Nat // i<=L.length}) (λi=> [(6, .share, .sl 7 0 (A7i L i.1) (A7i L i.1)),(25, .share,A2 1 D1g default L),(26, .share,sI L.length),(27, .share,sI i.1)])
    (λi=> [(7, .arr 5 (A8 Api.Event.enc default (L.take i.1).flatten))]) (λi=>L.length-i.1) ⟨0,by omega⟩ ?_ ?_
   ·refine B6 [] [] (by simp[go_sem]) (by simp[A6,go_sem]) (by simp[go_sem]) ?_;simp only[go_sem,go_sem_proc];simp[A7i,List.take_zero,go_sem]
   ·rintro⟨i,hi⟩;have hs:=C6c L i;simp only[go_sem,go_sem_proc];by_cases hlt:(i:Int)<L.length
    ·rw[if_pos hlt];have hlt:i<L.length:=by omega
     have hs2:=C6c L (i+1)
     have he:=D78 hlt
     have hm0:(L.take i).flatten.length=A7i L i:=rfl;refine⟨(by(repeat' (with_reducible apply And.intro)) <;> omega),?_⟩;refine⟨⟨by omega,by omega,by omega,by simp only[maxLen];omega⟩,?_⟩;refine A7 ⟨i+1,by omega⟩ (by show L.length-(i+1)<L.length-i;omega) (B6 [] [] (by simp[go_sem]) (by simp[go_sem]) (by simp[go_sem]) ?_);simp only[go_sem,go_sem_proc]
     all_goals((repeat' (with_reducible apply And.intro)) <;> first |(rw[IntKind.wrap_i64];omega) |exact he.symm |exact A3p (by rw[K9 default hlt];simp))
    ·rw[if_neg hlt];obtain rfl:i=L.length:=by omega
     simp only[go_sem,go_sem_proc,List.take_length];exact⟨hfull,by rw[hfull];exact I4 _⟩
end Go.Abs
end
