/- A part of the proof: contracts of functions that the statement reaches. -/
import Derived.Test.YtchcbiiammkhgaaGreatMU
set_option linter.unusedSimpArgs false
set_option linter.unusedVariables false
set_option linter.unnecessarySimpa false
set_option maxRecDepth 100000
set_option maxHeartbeats 2000000
noncomputable section
namespace Go.Abs
open Go.Proofs
open Api
def okX(w:Api.World):Prop:=Wsm w/\Wfw w
def exS(q:List Request)(k:Nat)(s:Api.World×List Response):Api.World×List Response:=((exR s.1 (q.getD k default)).1,s.2++ [(exR s.1 (q.getD k default)).2])
def exN(q:List Request)(w:Api.World)(n:Nat):Api.World×List Response:=itr (exS q) n (w,[])
theorem E4p(q:List Request)(w:Api.World)(n:Nat):exN q w (n+1)=exS q n (exN q w n):=E4 ..
theorem G1f {w:Api.World}(h:okX w)(r:Request):okX (exR w r).1:=by
 unfold exR;split
 ·exact h
 ·exact⟨F4k,⟨Nat.zero_le _,λb hb=>by cases hb⟩⟩
theorem E4o {w:Api.World}(h:okX w)(q:List Request): ∀n,okX (exN q w n).1/\(exN q w n).2.length=n
 |0=>⟨h,rfl⟩
 |n+1=>by obtain⟨h1,h2⟩:=E4o h q n;rw[E4p];refine⟨G1f h1 _,?_⟩;show((exN q w n).2++ [_]).length=_;rw[List.length_append,h2];rfl
theorem F5i {w:Api.World}(hw:Wsm w)(hf:Wfw w):(B1b w).2.length<=4000000:=by
 unfold B1b;split
 ·have h1:=D1d hw hf (D0 w).length (Nat.le_refl _)
  have h2:=B0p w
  have h3:=hf.1
  have h4:=D89 (w:=(eWn w (D0 w).length).1) (l:=(eWn w (D0 w).length).1.Joints)
  have h5:(eWn w (D0 w).length).1.Joints=w.Joints:=by rw[(B8l w _).2];rfl
  have h6:=hw.2.1
  have l1:=B8j (ovL (eW2 w)) (λk=>w.Overlaps.contains k) 3
  have l2:=B8j w.Overlaps (λk=>(ovL (eW2 w)).contains k) 4
  have l3:(ovL (eW2 w)).length<=230400:=D9t _ (by
   obtain⟨hi1,hi2⟩:=B8l w (D0 w).length;have hsf:Wfw (eWn w (D0 w).length).1:=by rw[hi2];exact C0k hf hi1
   exact C0k (w:=bkW (eWn w (D0 w).length).1) hsf (C55 (g:=H2) (λ_=>rfl) _))
  have h7:=hw.2.2.2.1;show(E4l w).length<=_;unfold E4l C57;simp only[List.flatten_cons,List.flatten_nil,List.append_nil,List.length_append];rw[h5]at h4⊢;omega
 ·exact Nat.zero_le _
theorem E5m(w g:Api.World)(I:List B1)(E:List Api.Event)(q:List Request)(hg:PW g)(hI: ∀x∈I,Ism x)(hIl:I.length<=1000)(hE:E.length<=3000000)(hq: ∀r∈q,r.Kind=2)(hql:q.length<=64):
  ∃E':List Api.Event,A1 Tryz.prog B1k [.ptr 1 0 0 1] (sqO w g I E q) (.tup [.sl 5 0 q.length q.length, .sl 3 0 E'.length E'.length,sI 0]) ([(1, .box (M7 (exN q (B1b (gN g I I.length)).1 q.length).1)),(5, .arr 11 (A8 Response.enc default (exN q (B1b (gN g I I.length)).1 q.length).2)),(3, .arr 5 (A8 Api.Event.enc default E')),(2, .arr 1 ⟨I.length,λ_=> [sB false]⟩),(4, .arr 1 (A8 B0u default q))]):=by
 refine⟨E++(B1b (gN g I I.length)).2,?_⟩;have hgn:=E9z hg I;refine G27 hm A4 Tryz.func18 rfl rfl ?_;refine C4 [(0, .share, .ptr 1 0 0 1)] (sqO w g I E q) (E0 hm ?_) ?_
 ·simp only[go_sem,go_sem_proc];refine C0 [] [] ?_;simp only[go_sem,go_sem_proc]
 refine C4 [(0, .share, .ptr 1 0 0 1)] (sqO w g I E q) (E0 hm ?_) ?_
 ·simp only[go_sem,go_sem_proc];refine E6 (A5o w g I E q) S6 S6 (by simp[sqO]) (by simp[sqO,sqC,upd,A2,go_sem,go_sem_proc]) (by simp[sqO]) A6a rfl ?_;simp only[go_sem,go_sem_proc];refine C0 [] [] ?_;simp only[go_sem,go_sem_proc]
 refine C4 [(0, .share, .ptr 1 0 0 1)] (sqO w g I E q) (E0 hm ?_) ?_
 ·simp only[go_sem,go_sem_proc];refine C0 [] [] ?_;simp only[go_sem,go_sem_proc]
 refine C4 [(0, .share, .ptr 1 0 0 1)] (sqO w (gN g I (I.length)) I E q) (C4 [(0, .share, .ptr 1 0 0 1),(25, .share, .sl 2 0 I.length I.length),(26, .share,sI I.length),(27, .share,sI (0:Nat))] (sqO w (gN g I (0)) I E q) (E0 hm ?_) (A3f ?_)) ?_
 ·rw[show gN g I 0=g from rfl];simp only[go_sem,go_sem_proc];refine C0 [] [] ?_;simp only[go_sem,go_sem_proc]
 ·refine B0 hm (ι:= {k:Nat // k<=I.length}) (λk=> [(0, .share, .ptr 1 0 0 1),(25, .share, .sl 2 0 I.length I.length),(26, .share,sI I.length),(27, .share,sI (k.1:Nat))]) (λk=>sqO w (gN g I (k.1)) I E q) (λk=>I.length-k.1) ⟨0,Nat.zero_le _⟩ ?_ ?_
  ·refine C0 [] [] ?_;simp only[go_sem,go_sem_proc]
  ·rintro⟨k,hk⟩;dsimp only;have hn:=E8q g I k
   have hp:=hgn k
   have hfin:I.length<=k->gN g I k=gN g I I.length:=λh=>by rw[show k=I.length by omega]
   generalize gN g I k=a at hn hp hfin⊢;by_cases hlt:k<I.length;rotate_left
   ·simp only[go_sem,go_sem_proc];rw[if_neg (by omega),<-hfin (by omega)];refine C0 [] [] ?_;simp only[go_sem,go_sem_proc]
   have hx:=hI _ (B7 (l:=I) (i:=k) default hlt);simp only[go_sem,go_sem_proc];rw[if_pos (by omega)];generalize I.getD k default=x at hn hx⊢;refine⟨bE_,bE_,?_⟩;refine A0 (D0z a x hp.1 hx (λ_=>hp.2.2.2.2) hp.2.2.1 hp.2.2.2.1) rfl ?_;generalize D5v a x=b at hn;simp only[go_sem,go_sem_proc];refine A7 ⟨k+1,by omega⟩ (by show I.length-(k+1)<I.length-k;omega) ?_;simp only[hn];refine C0 [] [] ?_;simp only[go_sem,go_sem_proc];exact eE_
 have hp:=hgn I.length;generalize gN g I I.length=a at hp⊢;have hEn:=F1n a hp.1 hp.2.1
 have hx0:=F14 hp.1 hp.2.1
 have hev:=F5i hp.1 hp.2.1;generalize B1b a=v at hEn hx0 hev⊢;refine C4 [(0, .share, .ptr 1 0 0 1),(7, .share, .ptr 128 0 0 1),(8, .share,A2 5 Api.Event.enc default v.2)] ([(128, .box v.1.enc)]++sqO w a I E q) (E0 hm ?_) ?_
 ·simp only[go_sem,go_sem_proc];refine A0 hEn rfl ?_;simp only[go_sem,go_sem_proc];refine C0 [] [] ?_;simp only[go_sem,go_sem_proc]
 refine C4 [(0, .share, .ptr 1 0 0 1),(7, .share, .ptr 128 0 0 1),(9, .share, .sl 3 0 (E++v.2).length (E++v.2).length)] ([(128, .box v.1.enc),(1, .box (sqC w a I E.length q.length)),(2, .arr 1 ⟨I.length,λ_=> [sB false]⟩),(3, .arr 5 (A8 Api.Event.enc default (E++v.2))),(4, .arr 1 (A8 B0u default q))]) (E0 hm ?_) ?_
 ·simp only[go_sem,go_sem_proc];refine⟨⟨by omega,by simp only[maxLen];omega⟩,?_⟩;refine C0 [] [] ?_;simp only[go_sem,go_sem_proc,List.length_append]
 refine C4 [(0, .share, .ptr 1 0 0 1),(7, .share, .ptr 128 0 0 1),(9, .share, .sl 3 0 (E++v.2).length (E++v.2).length),(10, .adopt, .sl 5 0 (exN q v.1 0).2.length (exN q v.1 0).2.length)] ([(128, .box (exN q v.1 0).1.enc),(1, .box (sqC w a I E.length q.length)),(2, .arr 1 ⟨I.length,λ_=> [sB false]⟩),(3, .arr 5 (A8 Api.Event.enc default (E++v.2))),(4, .arr 1 (A8 B0u default q)),(5, .arr 11 (A8 Response.enc default (exN q v.1 0).2))]) (E0 hm ?_) ?_
 ·rw[show exN q v.1 0=(v.1,[])from rfl];simp only[go_sem,go_sem_proc];refine C0 [] [5] ?_;simp only[go_sem,go_sem_proc]
 refine C4 [(0, .share, .ptr 1 0 0 1),(7, .share, .ptr 128 0 0 1),(9, .share, .sl 3 0 (E++v.2).length (E++v.2).length),(10, .share, .sl 5 0 (exN q v.1 q.length).2.length (exN q v.1 q.length).2.length)] ([(128, .box (exN q v.1 q.length).1.enc),(1, .box (sqC w a I E.length q.length)),(2, .arr 1 ⟨I.length,λ_=> [sB false]⟩),(3, .arr 5 (A8 Api.Event.enc default (E++v.2))),(4, .arr 1 (A8 B0u default q)),(5, .arr 11 (A8 Response.enc default (exN q v.1 q.length).2))]) (C4 [(0, .share, .ptr 1 0 0 1),(7, .share, .ptr 128 0 0 1),(9, .share, .sl 3 0 (E++v.2).length (E++v.2).length),(10, .share, .sl 5 0 (exN q v.1 0).2.length (exN q v.1 0).2.length),(67, .share, .sl 4 0 q.length q.length),(68, .share,sI q.length),(69, .share,sI (0:Nat))] ([(128, .box (exN q v.1 0).1.enc),(1, .box (sqC w a I E.length q.length)),(2, .arr 1 ⟨I.length,λ_=> [sB false]⟩),(3, .arr 5 (A8 Api.Event.enc default (E++v.2))),(4, .arr 1 (A8 B0u default q)),(5, .arr 11 (A8 Response.enc default (exN q v.1 0).2))]) (E0 hm ?_) (A3f ?_)) ?_
 ·generalize exN q v.1 0=s;simp only[go_sem,go_sem_proc];refine C0 [] [] ?_;simp only[go_sem,go_sem_proc]
 ·refine B0 hm (ι:= {k:Nat // k<=q.length}) (λk=> [(0, .share, .ptr 1 0 0 1),(7, .share, .ptr 128 0 0 1),(9, .share, .sl 3 0 (E++v.2).length (E++v.2).length),(10, .share, .sl 5 0 (exN q v.1 k.1).2.length (exN q v.1 k.1).2.length),(67, .share, .sl 4 0 q.length q.length),(68, .share,sI q.length),(69, .share,sI (k.1:Nat))]) (λk=> [(128, .box (exN q v.1 k.1).1.enc),(1, .box (sqC w a I E.length q.length)),(2, .arr 1 ⟨I.length,λ_=> [sB false]⟩),(3, .arr 5 (A8 Api.Event.enc default (E++v.2))),(4, .arr 1 (A8 B0u default q)),(5, .arr 11 (A8 Response.enc default (exN q v.1 k.1).2))]) (λk=>q.length-k.1) ⟨0,Nat.zero_le _⟩ ?_ ?_
  ·refine C0 [] [] ?_;simp only[go_sem,go_sem_proc]
  ·rintro⟨k,hk⟩;dsimp only;have hn:=E4p q v.1 k;obtain⟨hk1,hk2⟩:=E4o hx0 q k;have hfin:q.length<=k->exN q v.1 k=exN q v.1 q.length:=λh=>by rw[show k=q.length by omega]
   generalize exN q v.1 k=s at hn hk1 hk2 hfin⊢;by_cases hlt:k<q.length;rotate_left
   ·simp only[go_sem,go_sem_proc];rw[if_neg (by omega),<-hfin (by omega)];refine C0 [] [] ?_;simp only[go_sem,go_sem_proc]
   have hr:=hq _ (B7 (l:=q) (i:=k) default hlt);simp only[go_sem,go_sem_proc];rw[if_pos (by omega)];unfold exS at hn;have hC:=F6q s.1 (q.getD k default) hk1.1 hr (λb hb=>by have:=hk1.2.2 b hb;omega) (by have:=hk1.2.1;omega);generalize exR s.1 (q.getD k default)=y at hn hC;generalize q.getD k default=r at hn hr hC⊢;refine⟨bE_,?_⟩;refine A0 hC rfl ?_;simp only[go_sem,go_sem_proc];refine⟨⟨by omega,by simp only[maxLen];omega⟩,?_⟩;refine A7 ⟨k+1,by omega⟩ (by show q.length-(k+1)<q.length-k;omega) ?_;simp only[hn];refine C0 [] [] ?_;simp only[go_sem,go_sem_proc]
   (repeat' (with_reducible apply And.intro)) <;> first |exact A1q y.2 rfl rfl |(rw[List.length_append];rfl) |exact eE_
 obtain⟨_,hk2⟩:=E4o hx0 q q.length;generalize exN q v.1 q.length=s at hk2⊢;rw[hk2];refine E0 hm ?_;simp only[go_sem,go_sem_proc];refine V7 [.share, .share, .share] [] [] ?_;simp only[go_sem,go_sem_proc,M7]
theorem E71(s:Settings):A1e s=A13 s:=by unfold A1e A13;cases inR s.TimeStep 64 8192 <;> cases inR s.Gravity.X (-16777216) 16777216 <;> cases inR s.Gravity.Y (-16777216) 16777216 <;> cases inR s.Iterations 1 32 <;> cases inR s.SleepSteps 0 1048576 <;> rfl
theorem E98(v:Vec):A5k v 16777216=(inR v.X (-16777216) 16777216&&inR v.Y (-16777216) 16777216):=rfl
theorem E99(v:Vec):A5k v 536870911=(inR v.X (-536870911) 536870911&&inR v.Y (-536870911) 536870911):=rfl
theorem F0w(b:Body):A7n b=A52 b:=by unfold A7n A52;simp only[E98,E99];generalize A0u b.Transform=t;cases t <;> simp <;> grind
theorem F5c(s:Shape)(h: ¬(s.Kind<1\/3<s.Kind)):Z0 s=A1b s:=by
 unfold Z0 A1b;rw[Bool.eq_iff_iff];simp
 try grind
theorem F29(s:Shape):(s.Vertices.any λx=>A1y x)=s.Vertices.any λv=>(!(inR v.X (-1048576) 1048576))||(!(inR v.Y (-1048576) 1048576)):=by congr 1;funext v;unfold A1y A4i inR;rw[Bool.eq_iff_iff];simp
theorem E05(vs:List Vec):D4 (A1o vs) vs.length ()=if vs.any (λv=> !(A7x v))=true then .inr false else .inl ():=by rw[B0c (r:=false) (p:=λi=> !(A7x (vs.getD i default))) (λi=>by simp only[A1o];cases A7x (vs.getD i default) <;> rfl),B6k (p:=λv:Vec=> !(A7x v))]
theorem F1b(vs:List Vec):D4 (A0p vs) vs.length ()=if vs.any (λv=> !(A7x v))=true then .inr false else .inl ():=E05 vs
theorem C89(vs:List Vec):I9 vs=N0 vs:=by unfold I9 N0 A2v;rw[E05,F1b];have hL:U2 vs=A0q vs:=rfl;rw[hL];cases(vs.any λv=> !(A7x v)) <;> cases(decide ((vs.length:Int)<3)) <;> cases(decide (8<(vs.length:Int))) <;> rfl
theorem D3l(v:Vec):0<=A4k v:=by
 unfold A4k isq;split
 ·exact Int.le_refl _
 ·exact Int.natCast_nonneg _
theorem E8o(vs:List Vec): ∀n,(itr (P7 vs) n ([],0)).2=itr (A4w vs) n 0
 |0=>rfl
 |n+1=>by rw[E4,E4,<-E8o vs n];simp only[P7,A4w,B1p,Int.toNat_natCast]
theorem F79(vs:List Vec):X9 vs=A6k vs:=by unfold X9 A6k;simp only[C89,O5,E8o]
theorem E4k(vs:List Vec): ∀n,itr (W7 vs) (n+1) 536870911=min 536870911 (itr (R6 vs) (n+1) (-1))/\0<=itr (R6 vs) (n+1) (-1)
 |0=>by
  have h:=D3l (M0 (vs.getD (((IntKind.i64.wrap (((0:Nat):Int)+1)).tmod (vs.length:Int)).toNat) default) (vs.getD 0 default));simp only[E4,H3,W7,R6];generalize A4k (M0 (vs.getD (((IntKind.i64.wrap (((0:Nat):Int)+1)).tmod (vs.length:Int)).toNat) default) (vs.getD 0 default))=e at h⊢;simp;refine⟨?_,h⟩
  grind
 |n+1=>by
  obtain⟨h1,h2⟩:=E4k vs n;rw[E4,E4 (R6 vs),h1];generalize itr (R6 vs) (n+1) (-1)=r at h2⊢;have h:=D3l (M0 (vs.getD (((IntKind.i64.wrap (((n+1:Nat):Int)+1)).tmod (vs.length:Int)).toNat) default) (vs.getD (n+1) default));simp only[W7,R6];generalize A4k (M0 (vs.getD (((IntKind.i64.wrap (((n+1:Nat):Int)+1)).tmod (vs.length:Int)).toNat) default) (vs.getD (n+1) default))=e at h⊢;have hr: ¬r<0:=by omega
  simp[hr];constructor
  ·grind
  ·grind
theorem F8l(vs:List Vec):decide (A0h vs<4096)=decide (A4g vs<4096):=by
 unfold A0h A4g;simp only[C89];by_cases hc:N0 vs=false
 ·rw[if_pos hc,if_pos hc]
 ·rw[if_neg hc,if_neg hc];cases hn:vs.length with
  |zero=>exfalso;apply hc;unfold N0;rw[hn];rfl
  |succ n=>obtain⟨h1,h2⟩:=E4k vs n;rw[h1,decide_eq_decide];omega
theorem E7e(s:Shape):D4 (A7e s) s.Vertices.length ()=if(s.Vertices.any λv=>(!(inR v.X (-1048576) 1048576))||(!(inR v.Y (-1048576) 1048576)))=true then .inr 6 else .inl ():=by rw[B0c (r:=(6:Int)) (p:=λi=>(!(inR (s.Vertices.getD i default).X (-1048576) 1048576))||(!(inR (s.Vertices.getD i default).Y (-1048576) 1048576))) (λi=>rfl),B6k (p:=λv:Vec=>(!(inR v.X (-1048576) 1048576))||(!(inR v.Y (-1048576) 1048576)))]
theorem F6v(s:Shape):E7 s=A7p s:=by
 unfold E7 A7p;simp only[F29,E7e,C89,F79,F8l];by_cases hk:((decide (s.Kind<1))||(decide (3<s.Kind)))=true
 ·rw[if_pos hk,if_pos hk]
 ·rw[if_neg hk,if_neg hk,F5c s (by simpa using hk)];split
  ·rfl
  ·by_cases ha:(s.Vertices.any λv=>(!(inR v.X (-1048576) 1048576))||(!(inR v.Y (-1048576) 1048576)))=true
   ·rw[if_pos ha,if_pos ha]
   ·rw[if_neg ha,if_neg ha];simp only[];cases(s.Kind==3) <;> cases(s.Radius != 0) <;> simp
theorem F0t(f:Fixture):A12 f=A2m f:=by
 unfold A12 A2m;simp only[F6v];split
 ·rfl
 ·generalize inR f.Density 0 262144=a;generalize inR f.Friction 0 131072=b;generalize inR f.Restitution 0 65536=c;generalize inR f.Category 0 65535=d;generalize inR f.Mask 0 65535=e;generalize inR f.Group (-32) 32=g;cases a <;> cases b <;> cases c <;> cases d <;> cases e <;> cases g <;> rfl
theorem F8a(b:Body):A4o b=A0i b:=by
 unfold A4o A0i;have hL:A4c b=A3d b:=by funext i s;simp only[A4c,A3d,F0t]
 simp only[F0w,hL];split
 ·rfl
 split
 ·rfl
 split
 ·rfl
 cases D4 (A3d b) b.Fixtures.length ()with
 |inr r=>rfl
 |inl s=>
  simp only[A7d,B2c]
  grind
theorem F6i(v:Vec)(m:Int):N7 v m=Y2 v m:=rfl
theorem F0z(j:Joint):((inR j.Lower (O4 j.Kind).1 (O4 j.Kind).2)&&(inR j.Upper (O4 j.Kind).1 (O4 j.Kind).2)&&(decide (j.Lower<=j.Upper)))=A0r j:=by unfold O4 A0r inR;by_cases h1:j.Kind=1 <;> by_cases h2:j.Kind=2 <;> simp[h1,h2] <;> grind
theorem F02(j:Joint):L0 j=K2 j:=by
 unfold L0 K2;have hL:P3 j=N8 j:=rfl
 have hL2:P4 j=Q1 j:=rfl;rw[hL,hL2];simp only[F6i,<-F0z];cases D4 (N8 j) 4 () <;> cases D4 (Q1 j) 4 () <;> grind
theorem F5n(j:Joint):A3s j=Y1 j:=by
 unfold A3s Y1;simp only[F02];split
 ·rfl
 rename_i hk;split
 ·rfl
 unfold A5r A46;have hk:j.Kind=1\/j.Kind=2\/j.Kind=3\/j.Kind=4\/j.Kind=5:=by simp at hk;omega
 rcases hk with hk |hk |hk |hk |hk <;> simp[hk] <;> grind
theorem F7k(j:Joint):D4 (N8 j) 4 ()=if((List.range 4).any (λi=> !(inR ([j.Impulses.I0,j.Impulses.I1,j.Impulses.I2,j.Impulses.I3].getD i 0) (-536870911) 536870911)))=true then .inr false else .inl ():=B0c (r:=false) (p:=λi=> !(inR ([j.Impulses.I0,j.Impulses.I1,j.Impulses.I2,j.Impulses.I3].getD i 0) (-536870911) 536870911)) (λi=>by simp only[N8];cases inR ([j.Impulses.I0,j.Impulses.I1,j.Impulses.I2,j.Impulses.I3].getD i 0) (-536870911) 536870911 <;> rfl) 4
theorem G3n(j:Joint):D4 (Q1 j) 4 ()=if((List.range 4).any (λi=> !(inR ([j.Impulses.I0,j.Impulses.I1,j.Impulses.I2,j.Impulses.I3].getD i 0) (-536870911) 536870911)))=true then .inr false else .inl ():=F7k j
theorem E0u {j:Joint}(h:Y1 j=0):1<=j.ID/\1<=j.BodyB/\(j.Kind=5->j.BodyA=0)/\(j.Kind≠5->1<=j.BodyA):=by
 unfold Y1 at h;split at h
 ·cases h
 simp only[]at h;split at h
 ·cases h
 rename_i hr;split at h
 ·cases h
 rename_i hb;have hid:1<=j.ID:=by unfold K2 at hr;rw[F7k,G3n]at hr;revert hr;generalize(List.range 4).any (λi=> !(inR ([j.Impulses.I0,j.Impulses.I1,j.Impulses.I2,j.Impulses.I3].getD i 0) (-536870911) 536870911))=q;cases q <;> simp[inR] <;> grind
 unfold inR at hb;refine⟨hid,?_⟩
 grind
theorem F8g(w:Api.World){j:Joint}(hj:Y1 j=0):A1z w j=A4s w j:=by
 obtain⟨_,h1,h2,h3⟩:=E0u hj;unfold A1z A4s;simp only[];have hb:(j.BodyB==0)=false:=by simp;omega
 rw[hb];by_cases hk:j.Kind=5
 ·simp[hk,h2 hk]
 ·have ha:(j.BodyA==0)=false:=by have:=h3 hk;simp;omega
  have hk':(j.Kind==5)=false:=by simpa using hk
  rw[ha,hk'];cases decide (0<=H7 w j.BodyA) <;> cases decide (0<=H7 w j.BodyB) <;> rfl
theorem C17 {S R:Type}{f g:Nat->S->S ⊕ R}{s0:S}(h: ∀i s,(i=0->s=s0)->f i s=g i s): ∀n,D4 f n s0=D4 g n s0
 |0=>rfl
 |n+1=>by
  have ih:=C17 h n;simp only[D4,ih];cases hn:D4 g n s0 with
  |inr r=>rfl
  |inl s=>refine h n s λh0=> ?_;subst h0;simp only[D4]at hn;injection hn with hn;exact hn.symm
theorem F8b {b:Body}(h:A0i b=0):1<=b.ID:=by
 unfold A0i at h;split at h
 ·cases h
 simp only[]at h;split at h
 ·cases h
 rename_i hr;unfold A52 inR at hr
 grind
theorem F2c(w:Api.World):X0 w=A0s w:=by
 unfold X0 A0s;rw[C17 (f:=Q5 w) (g:=S9 w)];intro i s hi;simp only[Q5,S9,F8a];by_cases hv:A0i (w.Bodies.getD i default)=0
 ·have hid:=F8b hv
  by_cases h0:i=0
  ·have:=hi h0
   subst this;have e:decide ((w.Bodies.getD i default).ID<=0)=false:=by rw[decide_eq_false_iff_not];omega
   rw[e,Bool.and_false]
  ·have e:decide (0<(i:Int))=true:=by rw[decide_eq_true_iff];omega
   rw[e,Bool.true_and]
 ·have e:(A0i (w.Bodies.getD i default) != 0)=true:=by simpa using hv
  rw[e];simp
theorem F25(w:Api.World):X1 w=A0t w:=by
 unfold X1 A0t;rw[C17 (f:=Q6 w) (g:=T0 w)];intro i s hi;simp only[Q6,T0,F5n];by_cases hv:Y1 (w.Joints.getD i default)=0
 ·have hid:=(E0u hv).1
  rw[F8g w hv];by_cases h0:i=0
  ·have:=hi h0
   subst this;have e:decide ((w.Joints.getD i default).ID<=0)=false:=by rw[decide_eq_false_iff_not];omega
   rw[e,Bool.and_false]
  ·have e:decide (0<(i:Int))=true:=by rw[decide_eq_true_iff];omega
   rw[e,Bool.true_and]
 ·have e:(Y1 (w.Joints.getD i default) != 0)=true:=by simpa using hv
  rw[e];simp
theorem F8e(x y:Int):H1 x y=if x<y then -1 else if y<x then 1 else 0:=by unfold H1 A00;simp
theorem G13(a b c d:Int):X6 [a,b,c,d]=if a≠0 then a else if b≠0 then b else if c≠0 then c else d:=by unfold X6;show(match D4 (A2t [a,b,c,d]) 4 ()with | .inr r=>r | .inl s1=>0)=_;simp only[D4,A2t];by_cases ha:a=0 <;> by_cases hb:b=0 <;> by_cases hc:c=0 <;> by_cases hd:d=0 <;> simp[ha,hb,hc,hd]
theorem F8t(a b:PairKey):A40 a b=A47 a b:=by
 unfold A40 Z6 A47;simp only[G13,F8e]
 grind
theorem F4i(k:PairKey):(!(A4d k))=(((((decide (k.BodyB<=k.BodyA))||(decide (k.FixtureA<0)))||(decide (3<k.FixtureA)))||(decide (k.FixtureB<0)))||(decide (3<k.FixtureB))):=by
 unfold A4d;rw[Bool.eq_iff_iff];simp
 grind
theorem F27(p k:PairKey):(((k.BodyA==p.BodyA)&&((k.FixtureA==p.FixtureA)&&((k.BodyB==p.BodyB)&&(k.FixtureB==p.FixtureB))))|| !(A47 p k))= !(A47 p k):=by
 unfold A47
 grind
def F1r(k:PairKey):Int×Int×Int×Int:=(k.BodyA,k.FixtureA,k.BodyB,k.FixtureB)
theorem E0v(l:List PairKey): ∀n,n<=4194304->match D4 (K3 l) n (0,0,0,0)with
  | .inl s=>D4 (A2l l) n ()= .inl ()/\(0<n->s=F1r (l.getD (n-1) default))
  | .inr r=>D4 (A2l l) n ()= .inr r
 |0,_=>⟨rfl,λh=>absurd h (by omega)⟩
 |n+1,hb=>by
  have ih:=E0v l n (by omega);simp only[D4];cases hn:D4 (K3 l) n (0,0,0,0)with
  |inr r=>rw[hn]at ih;simp only[ih]
  |inl s=>
   rw[hn]at ih;obtain⟨h1,h2⟩:=ih;simp only[h1];have hwr:(IntKind.i64.wrap ((n:Int)-1)).toNat=n-1:=by rw[IntKind.wrap_i64];omega
   simp only[K3,A2l,hwr,F8t,F4i];by_cases h0:0<n
   ·have hs:=h2 h0
    subst hs;have e:decide (0<(n:Int))=true:=by rw[decide_eq_true_iff];omega
    have:=F27 (l.getD (n-1) default) (l.getD n default);simp only[F1r,e,Bool.true_and,this];split <;> rename_i heq <;> split at heq <;> simp_all [F1r]
   ·have e:decide (0<(n:Int))=false:=by rw[decide_eq_false_iff_not];omega
    simp only[e,Bool.false_and];split <;> rename_i heq <;> split at heq <;> simp_all [F1r]
theorem E41(l:List PairKey)(h:l.length<=4194304):N4 l=T5 l:=by
 have:=E0v l l.length h;unfold N4 T5;cases hn:D4 (K3 l) l.length (0,0,0,0)with
 |inr r=>rw[hn]at this;rw[this]
 |inl s=>rw[hn]at this;rw[this.1]
theorem F38(l:List Int):A0w l=l.all λn=>inR n (-536870911) 536870911:=by
 unfold A0w A2z;induction l with
 |nil=>rfl
 |cons a l ih=>simp only[List.any_cons,List.all_cons,<-ih];cases inR a (-536870911) 536870911 <;> simp
theorem E7m(m:Manifold):D4 (A2x m) m.Points.length ()=if(m.Points.any λp=>K0 p)=true then .inr false else .inl ():=by
 rw[B0c (r:=false) (p:=λi=>K0 (m.Points.getD i default)),B6k (p:=λp:ContactPoint=>K0 p)];intro i;simp only[A2x,K0,F38,A2w,List.all_cons,List.all_nil,Bool.and_true];generalize m.Points.getD i default=p;have e:inR p.NormalImpulse 0 536870911=(!(decide (p.NormalImpulse<0))&&inR p.NormalImpulse (-536870911) 536870911):=by unfold inR;rw[Bool.eq_iff_iff];simp;grind
 rw[e]
 grind
theorem E7f(m:Manifold):G8 m=A1t m:=by
 unfold G8 A1t;rw[E7m];simp only[F38,A2w,List.all_cons,List.all_nil,Bool.and_true]
 grind
theorem F5p(l:List Contact):A36 l=l.map λc=>c.Key:=by
 have h: ∀n,n<=l.length->itr (A17 l) n []=(l.take n).map λc=>c.Key:=by
  intro n;induction n with
  |zero=>intro _;rfl
  |succ n ih=>intro hn;rw[E4,ih (by omega),K9 default (by omega),List.map_append];rfl
 unfold A36;simp only[h l.length (Nat.le_refl _),List.take_length]
theorem E42 {l:List PairKey}(h:T5 l=true): ∀k∈l,0<=k.FixtureA/\0<=k.FixtureB:=by
 unfold T5 at h;rw[B0c (r:=false) (p:=λi=>((((((decide ((l.getD i default).BodyB<=(l.getD i default).BodyA))||(decide ((l.getD i default).FixtureA<0)))||(decide (3<(l.getD i default).FixtureA)))||(decide ((l.getD i default).FixtureB<0)))||(decide (3<(l.getD i default).FixtureB)))||((decide (0<(i:Int)))&&(!(A47 (l.getD (IntKind.i64.wrap ((i:Int)-1)).toNat default) (l.getD i default)))))) (λi=>rfl)]at h;intro k hk;obtain⟨i,hi,rfl⟩:=List.getElem_of_mem hk;generalize hx:(List.range l.length).any _=A at h;cases A with
 |true=>cases h
 |false=>
  rw[List.any_eq_false]at hx;have:=hx i (List.mem_range.2 hi)
  have hg:l.getD i default=l[i]:=by simp[List.getD,hi]
  rw[hg]at this
  grind
theorem D3p(w:Api.World)(l:List PairKey)(h: ∀k∈l,0<=k.FixtureA/\0<=k.FixtureB):A2n w l= !(l.any (A99 w)):=by
 unfold A2n;rw[B0c (r:=false) (p:=λi=>(!(A1c w (l.getD i default).BodyA (l.getD i default).FixtureA))||(!(A1c w (l.getD i default).BodyB (l.getD i default).FixtureB))) (λi=>rfl),
  B6k (p:=λk:PairKey=>(!(A1c w k.BodyA k.FixtureA))||(!(A1c w k.BodyB k.FixtureB)))]
 have e:(l.any λk:PairKey=>(!(A1c w k.BodyA k.FixtureA))||(!(A1c w k.BodyB k.FixtureB)))=l.any (A99 w):=by
  induction l with
  |nil=>rfl
  |cons k l ih=>
   rw[List.any_cons,List.any_cons,ih λk hk=>h k (List.mem_cons_of_mem _ hk)];obtain⟨h1,h2⟩:=h k (List.mem_cons_self ..);congr 1;unfold A99 A4v A1c;simp only[];have e1:decide (0<=k.FixtureA)=true:=decide_eq_true h1
   have e2:decide (0<=k.FixtureB)=true:=decide_eq_true h2;rw[e1,e2];cases decide (0<=H7 w k.BodyA) <;> cases decide (0<=H7 w k.BodyB) <;> simp
 rw[e];cases l.any (A99 w) <;> rfl
theorem F2k(w:Api.World):D4 (Q2 w) w.Contacts.length ()=if(w.Contacts.any λc=> !(G8 c.Manifold))=true then .inr false else .inl ():=by rw[B0c (r:=false) (p:=λi=> !(G8 (w.Contacts.getD i default).Manifold)),B6k (p:=λc:Contact=> !(G8 c.Manifold))];intro i;simp only[Q2,E7f];cases A1t (w.Contacts.getD i default).Manifold <;> rfl
theorem E67(w:Api.World)(hc:w.Contacts.length<=4194304)(ho:w.Overlaps.length<=4194304):A8m w=R8 w:=by
 unfold A8m R8;rw[F2k];have hk:A36 w.Contacts=A5u w:=F5p _;simp only[hk];rw[E41 (A5u w) (by simp[A5u];omega),E41 w.Overlaps ho,List.any_append];have ha:(w.Contacts.all λc=>G8 c.Manifold)= !(w.Contacts.any λc=> !(G8 c.Manifold)):=by rw[List.all_eq_not_any_not]
 rw[ha];cases h1:T5 (A5u w)with
 |false=>simp
 |true=>
  cases h2:T5 w.Overlaps with
  |false=>simp
  |true=>rw[D3p w _ (E42 h1),D3p w _ (E42 h2)];generalize(A5u w).any (A99 w)=a;generalize w.Overlaps.any (A99 w)=b;generalize(w.Contacts.any λc=> !(G8 c.Manifold))=c;cases a <;> cases b <;> cases c <;> rfl
theorem E74(w:Api.World):F2 w=A7q w:=by
 unfold F2 A7q;simp only[E71,F2c,F25];split
 ·rfl
 ·split
  ·rfl
  ·rename_i h;have h1:w.Contacts.length<=4194304:=by simp at h;omega
   have h2:w.Overlaps.length<=4194304:=by simp at h;omega
   rw[E67 w h1 h2]
theorem D95(w:Api.World): ∃b:Bool,(b=true->B4p w)/\A1 Tryz.prog E1t [.agg w.enc, .sc (.slice none 0 0)] [] (sB b) []:=by
 by_cases h:B4p w
 ·refine⟨decide (w.Contacts.length<=20/\w.Overlaps.length<=20),λ_=>h,?_⟩;refine en1 hm A4 Tryz.func8 rfl rfl ?_;simp only[go_sem,go_sem_proc];refine D6u hm 1 ?_;simp only[E3w,go_sem,go_sem_proc];rw[if_neg (by simp)];refine A0 (C6v w) rfl ?_;rw[decide_eq_true h];simp only[go_sem,go_sem_proc];refine A0 (E7x w h) rfl ?_;simp only[go_sem,go_sem_proc];by_cases hc:w.Contacts.length<=20/\w.Overlaps.length<=20
  ·rw[if_pos hc,decide_eq_true hc];rfl
  ·rw[if_neg hc,decide_eq_false hc]
 ·refine⟨false,(by simp),?_⟩;refine en1 hm A4 Tryz.func8 rfl rfl ?_;simp only[go_sem,go_sem_proc];refine D6u hm 1 ?_;simp only[E3w,go_sem,go_sem_proc];rw[if_neg (by simp)];refine A0 (C6v w) rfl ?_;rw[decide_eq_false h];simp only[go_sem,go_sem_proc];refine D5x (sB true) ?_;simp only[go_sem,go_sem_proc]
theorem G0c {w:Api.World}(h:B4p w):Wfw w:=⟨by have:=h.1.1;omega,λb hb=>by have:=(h.2.1 b hb).1;omega⟩
def C5j(p:Vec):Request:=⟨2,p,⟨0,0⟩,65535,⟨0,0,⟨0,0⟩,0,zB,⟨0,0,0,0,⟨0,0⟩,⟨0,0⟩,⟨0,0⟩,0,false,0,0,false,0,0,0,0,false,⟨0,0,0,0⟩⟩⟩⟩
def qz(p:Vec)(i:Nat):List Request:=List.replicate (min i 64) (C5j p)
theorem F3x(p:Vec)(i:Nat):(qz p i).length=min i 64:=List.length_replicate ..
theorem G3k(p:Vec){i:Nat}(h:i<64):qz p (i+1)=qz p i++ [C5j p]:=by unfold qz;rw[show min (i+1) 64=i+1 by omega,show min i 64=i by omega];exact List.replicate_succ'
theorem G3j(p:Vec){i:Nat}(h:64<=i):qz p (i+1)=qz p i:=by unfold qz;rw[show min (i+1) 64=64 by omega,show min i 64=64 by omega]
theorem E36 {w:Api.World}(hw:Wsm w)(hf:Wfw w):(C1z w).length<=2100000:=by
 have h:=D87 hw hf (D0 (bg0 w)).length (Nat.le_refl _)
 have h2:=B0p (bg0 w)
 have h3:(bg0 w).Bodies.length<=60:=hf.1;show(bWn w _).2.length<=_;omega
def fdB:Body:=⟨1,3,⟨⟨0,65536⟩,0⟩,⟨0,-524288⟩,0,⟨0,0⟩,0,0,0,0,false,false,false,false,0,[⟨⟨1,32768,[⟨0,0⟩]⟩,65536,0,0,false,1,1,0⟩]⟩
def fd:Api.World:=⟨⟨8192,⟨0,0⟩,1,0⟩,[fdB],[],[],[],2,0⟩
def rq1:Request:=⟨2,⟨0,0⟩,⟨0,0⟩,1,(C5j ⟨0,0⟩).Input⟩
theorem fd1:F2 fd=0:=by kernel_rfl
theorem fd2:D88 fd ⟨0,0⟩ 1= []:=by kernel_rfl
theorem fd4:(D0 (bg0 fd)).length=1:=by kernel_rfl
def fdN:Api.World:=gN (C10 fd) (D0 (bg0 fd)) 1
theorem fd5:F2 fdN=0:=by kernel_rfl
def fdE:Api.World:=E4m fdN
theorem fd6:F2 fdE=0:=by kernel_rfl
theorem fd7:D88 fdE ⟨0,0⟩ 1= [1]:=by kernel_rfl
theorem fd8:fdE.Frame=1:=by kernel_rfl
theorem F5t {z:Nat}{g:Nat->List AV}{α:Type}{enc:α->List AV}{d x:α}(h:A08 (g 0) (enc x)):M4 (.dsl z 1 g) (.dsl z 1 (L7 enc d [x])):=by
 rw[A11];refine⟨rfl,rfl,λi hi=> ?_⟩;obtain rfl:i=0:=by omega
 exact h
theorem D6y {a b:AV}{l m:List AV}(h:M4 a b)(h2:A08 l m):A08 (a::l) (b::m):=⟨h,h2⟩
theorem E2j:A1 Tryz.prog C64 [] [] (.agg fd.enc) []:=by
 refine L5 15 [(0,some (some 11))] hm A4 Tryz.func45 rfl ?_;simp only[go_sem,go_sem_proc,fd,fdB];refine⟨F5t ?_,O9 rfl,O9 rfl,O9 rfl⟩
 (repeat(refine D6y (I4 _) ?_))
 refine D6y (F5t ?_) trivial
 (repeat(refine D6y (I4 _) ?_))
 refine D6y (F5t ?_) ?_
 ·exact L3 _
 ·exact L3 _
theorem F96:A1 Tryz.prog E1s [A2 1 B9 0 [1]] [] (sB true) []:=by refine en1 hm A4 Tryz.func46 rfl rfl ?_;simp only[go_sem,go_sem_proc];exact eE_
theorem G3c:Wsm fd/\Wfw fd:=by
 refine⟨⟨by decide,by decide,by decide,by decide,λb hb=> ?_,λc hc=>by cases hc⟩,by decide,λb hb=> ?_⟩
 ·rw[show b=fdB from List.mem_singleton.1 hb];exact⟨by decide,λf hf=>by rw[List.mem_singleton.1 hf];show(1:Nat)<=_;decide⟩
 ·rw[show b=fdB from List.mem_singleton.1 hb];decide
theorem E0c(ρ:Nat->Nat)(w:Api.World):A7y ρ (M7 w)=M7 w:=by simp[M7,A7y,AV.ren,A2]
theorem F99(w:Api.World):F4 (M7 w)= []:=by simp[M7,F4,AV.ids,A2]
theorem E88 {w:Api.World}{n:Nat}{l:List Response}{E:List Api.Event}{q:List Request}:okO [(1, .box (M7 w)),(5, .arr 11 (A8 Response.enc default l)),(3, .arr 5 (A8 Api.Event.enc default E)),(2, .arr 1 ⟨n,λ_=> [sB false]⟩),(4, .arr 1 (A8 B0u default q))]:=by
 refine⟨by simp,λp hp cs ee j hj=> ?_⟩;simp only[List.mem_cons,List.not_mem_nil,or_false]at hp;rcases hp with rfl |rfl |rfl |rfl |rfl
 ·simp only[A5.box.injEq]at ee;subst ee;simp[M7,F4,AV.ids,A2]at hj
 all_goals cases ee
theorem A9m:A1 Tryz.prog D58 [] [] (sB true) []:=by
 obtain⟨hw,hf⟩:=G3c;have hB:=D3q fd hw hf fd1 (by decide)
 have hpw:=F12 hw hf (by decide)
 have hI:=λx hx=>(B23 (C3e hw hf) x hx).1
 have hE:=E36 hw hf
 have hS1:=E5l fd rq1 (exR fd rq1) (D7m fd rq1 hw rfl (λb hb=>by have:=hf.2 b hb;omega) (by have:=hf.1;omega));rw[show exR fd rq1=(fd,⟨rZ,false,[],0,0⟩)by unfold exR;rw[if_pos fd1,show rq1.From=⟨0,0⟩from rfl,show rq1.Mask=1 from rfl,fd2];rfl]at hS1;obtain⟨E',hEnd⟩:=E5m fd (C10 fd) (D0 (bg0 fd)) (C1z fd) [rq1] hpw hI (by rw[fd4];decide) (by omega) (λr hr=>by rw[List.mem_singleton.1 hr];rfl) (by decide);have hpn:=E9z hpw (D0 (bg0 fd)) 1
 have hend:=F14 hpn.1 hpn.2.1;rw[fd4]at hEnd;rw[show gN (C10 fd) (D0 (bg0 fd)) 1=fdN from rfl]at hEnd hpn hend;have he:(B1b fdN).1=fdE:=by unfold B1b;rw[if_pos fd5];rfl
 rw[he]at hEnd hend;have hx:exN [rq1] fdE [rq1].length=(fdE,[⟨rZ,true,[1],0,0⟩]):=by
  show exS [rq1] 0 (fdE,[])=_;unfold exS;rw[show(exR fdE ([rq1].getD 0 default))=(fdE,⟨rZ,true,[1],0,0⟩)by unfold exR;rw[if_pos fd6,show([rq1].getD 0 default).From=⟨0,0⟩from rfl,show([rq1].getD 0 default).Mask=1 from rfl,fd7];rfl]
  rfl
 have hx':exN [rq1] fdE 1=(fdE,[⟨rZ,true,[1],0,0⟩]):=hx;simp only[List.length_singleton,hx']at hEnd;have hF:=fd8;rw[fd4]at hB;generalize fdE=w2 at hEnd hend hF;generalize C10 fd=g at hB hEnd;generalize C1z fd=E at hB hE hEnd;generalize D0 (bg0 fd)=I at hB hEnd;have z1:((0:Int) != 0)=false:=rfl;refine F5f hm A4 Tryz.func10 rfl rfl ?_;refine C4 [] [] (E0 hm ?_) ?_
 ·simp only[go_sem,go_sem_proc];refine C0 [] [] ?_;simp only[go_sem,go_sem_proc]
 refine C4 [(1, .share, .ptr 1 0 0 1),(2, .share,sI 0)] [(1, .box (M7 fd))] (E0 hm ?_) ?_
 ·simp only[go_sem,go_sem_proc];refine A0 E2j rfl ?_;simp only[go_sem,go_sem_proc];refine K1 ev_ J8 (E07 fd hw fd1) ?_;simp only[go_sem,go_sem_proc,E0c];refine C0 [(1,288)] [] ?_;simp only[go_sem,go_sem_proc,M7]
 refine C4 [(1, .share, .ptr 1 0 0 1)] [(1, .box (M7 fd))] (E0 hm ?_) ?_
 ·simp only[go_sem,go_sem_proc,z1];refine C0 [] [] ?_;simp only[go_sem,go_sem_proc,M7]
 refine C4 [(1, .share, .ptr 1 0 0 1),(3, .share, .ptr 64 0 0 1),(4, .share,sB true)] [(64, .box A5v.enc),(1, .box (M7 fd))] (E0 hm ?_) ?_
 ·simp only[go_sem,go_sem_proc];refine E3 [true,false] [] hS1 (by simp) (by simp) (by simp[A6]) (by simp[go_sem]) ?_;simp only[go_sem,go_sem_proc,rq1,C5j,zB,A5v,rZ,E0c,F99];refine⟨O9 rfl,?_⟩;refine C0 [] [] ?_;simp only[go_sem,go_sem_proc,M7]
 refine C4 [(1, .share, .ptr 1 0 0 1),(3, .share, .ptr 64 0 0 1),(4, .share,sB true),(6, .share,sI 1),(7, .share,sI 0)] ([(64, .box A5v.enc)]++sqO fd g I E []) (E0 hm ?_) ?_
 ·simp only[go_sem,go_sem_proc];refine E6 hB A10 S6 (by simp[sqO]) (by simp[upd,go_sem,go_sem_proc]) (by simp[sqO,upd]) A84 rfl ?_;simp only[go_sem,go_sem_proc,A5v,rZ];refine C0 [] [] ?_;simp only[go_sem,go_sem_proc];exact eE_
 refine C4 [(1, .share, .ptr 1 0 0 1),(3, .share, .ptr 64 0 0 1),(4, .share,sB true),(6, .share,sI 1),(7, .share,sI 0),(9, .share,sB false),(10, .share,sI 0)] ([(64, .box A5v.enc)]++sqO fd g I E [rq1]) (E0 hm ?_) ?_
 ·simp only[go_sem,go_sem_proc,A5v,rZ];refine E3 [true,false] [] (D3r fd g I E [] rq1 (by decide) F1y) (by simp[sqO]) (by simp[sqO]) (by simp[sqO,A6]) (by simp[sqO,go_sem]) ?_;simp only[go_sem,go_sem_proc,rq1,C5j,zB,A5v,rZ];refine⟨O9 rfl,?_⟩;refine C0 [] [] ?_;simp only[go_sem,go_sem_proc]
 refine C4 [(1, .share, .ptr 1 0 0 1),(3, .share, .ptr 64 0 0 1),(4, .share,sB true),(6, .share,sI 1),(7, .share,sI 0),(9, .share,sB false),(10, .share,sI 0),(11, .share,sI 1)] ([(64, .box A5v.enc)]++sqO fd g I E [rq1]) (E0 hm ?_) ?_
 ·simp only[go_sem,go_sem_proc,A5v,rZ];refine E6 (C94 fd g I E [rq1]) S6 S6 (by simp[sqO]) (by simp[sqO,sqC,upd,A2,go_sem,go_sem_proc]) (by simp[sqO]) A6a rfl ?_;simp only[go_sem,go_sem_proc];refine C0 [] [] ?_;simp only[go_sem,go_sem_proc];exact eE_
 refine C4 [(1, .share, .ptr 1 0 0 1),(3, .share, .ptr 64 0 0 1),(4, .share,sB true),(6, .share,sI 1),(7, .share,sI 0),(9, .share,sB false),(10, .share,sI 0),(11, .share,sI 1),(12, .share, .sl 5 0 1 1),(14, .share,sI 0)] [(64, .box A5v.enc),(1, .box (M7 w2)),(5, .arr 11 (A8 Response.enc default [⟨rZ,true,[1],0,0⟩])),(3, .arr 5 (A8 Api.Event.enc default E')),(2, .arr 1 ⟨1,λ_=> [sB false]⟩),(4, .arr 1 (A8 B0u default [rq1]))] (E0 hm ?_) ?_
 ·simp only[go_sem,go_sem_proc,A5v,rZ];refine E6 hEnd S6 E88 (by simp[sqO]) (by simp[sqO,sqC,upd,A2,go_sem,go_sem_proc]) (by simp[sqO,upd]) A6a rfl ?_;simp only[go_sem,go_sem_proc];refine C0 [] [] ?_;simp only[go_sem,go_sem_proc,M7,rZ];exact eE_
 refine C4 [(1, .share, .ptr 1 0 0 1),(3, .share, .ptr 64 0 0 1),(4, .share,sB true),(6, .share,sI 1),(7, .share,sI 0),(9, .share,sB false),(10, .share,sI 0),(11, .share,sI 1),(12, .share, .sl 5 0 1 1),(14, .share,sI 0)] [(64, .box A5v.enc),(1, .box (M7 w2)),(5, .arr 11 (A8 Response.enc default [⟨rZ,true,[1],0,0⟩])),(3, .arr 5 (A8 Api.Event.enc default E')),(2, .arr 1 ⟨1,λ_=> [sB false]⟩),(4, .arr 1 (A8 B0u default [rq1]))] (E0 hm ?_) ?_
 ·simp only[go_sem,go_sem_proc,A5v,rZ];refine C0 [] [] ?_;simp only[go_sem,go_sem_proc,M7]
 have y0:((0:Int)==0)=true:=rfl
 have y1:((1:Int)==1)=true:=rfl;refine E0 hm ?_;simp only[go_sem,go_sem_proc,A5v,rZ,y0,y1,List.getD_cons_zero,Bool.and_true];refine⟨⟨by decide,by decide⟩,⟨by decide,by decide⟩,?_⟩;refine A0 F96 rfl ?_;simp only[go_sem,go_sem_proc,Bool.and_true];refine E6 (E7o w2 hend.1) A10 A10 (by simp) (by simp[upd,go_sem,go_sem_proc]) (by simp) A84 rfl ?_;simp only[go_sem,go_sem_proc,hF,y1,Bool.and_true];refine E6 (C3r w2) A10 A10 (by simp) (by simp[upd,go_sem,go_sem_proc]) (by simp) A84 rfl ?_;simp only[go_sem,go_sem_proc,Bool.and_true]
theorem C3u(w:Api.World)(p:Vec)(m:Int)(hm0:0<=m/\m<256):A1 Tryz.prog C21 [.agg w.enc, .agg p.enc, .sc (.int .u8 m)] [] (sB true) []:=by
 obtain⟨b,hb,hS⟩:=D95 w;cases b with
 |false=>refine en1 hm A4 Tryz.func3 rfl rfl ?_;simp only[go_sem,go_sem_proc];refine A0 hS rfl ?_;simp only[go_sem,go_sem_proc];refine D5x (sI 0) ?_;simp only[go_sem,go_sem_proc];refine A0 A9m rfl ?_;simp only[go_sem,go_sem_proc]
 |true=>
 have h40:=hb rfl
 have hw:=F60 h40
 have hf:=G0c h40;by_cases hv:A7q w=0;rotate_left
 ·refine en1 hm A4 Tryz.func3 rfl rfl ?_;simp only[go_sem,go_sem_proc];refine A0 hS rfl ?_;simp only[go_sem,go_sem_proc];refine A0 (B5r w hw) rfl ?_;simp only[go_sem,go_sem_proc];rw[if_pos (by simp[hv])];refine A0 A9m rfl ?_;simp only[go_sem,go_sem_proc]
 by_cases hF:w.Frame=1099511627776
 ·refine en1 hm A4 Tryz.func3 rfl rfl ?_;simp only[go_sem,go_sem_proc];refine A0 hS rfl ?_;simp only[go_sem,go_sem_proc];refine A0 (B5r w hw) rfl ?_;simp only[go_sem,go_sem_proc];rw[if_pos (by simp[hF])];refine A0 A9m rfl ?_;simp only[go_sem,go_sem_proc]
 have hv2:F2 w=0:=by rw[E74];exact hv
 have hB:=D3q w hw hf hv2 hF
 have hpw:=F12 hw hf (by have:=h40.1.2.1;omega)
 have hI:=λx hx=>(B23 (C3e hw hf) x hx).1
 have hIl:(D0 (bg0 w)).length<=1000:=by
  have h1:=B0p (bg0 w)
  have h2:(bg0 w).Bodies.length<=60:=hf.1;omega
 have hE:=E36 hw hf;generalize C10 w=g at hB hpw;generalize C1z w=E at hB hE;generalize D0 (bg0 w)=I at hB hI hIl;obtain⟨N,hN,hN1,hN2⟩: ∃N:Nat,IntKind.i64.wrap (61+IntKind.i64.wrap (m.tmod 6))=N/\61<=N/\N<=66:=by have h1:m.tmod 6=m%6:=Int.tmod_eq_emod_of_nonneg hm0.1;refine⟨(61+m%6).toNat,?_,by omega,by omega⟩;rw[h1,D8d (n:=m%6) (by omega) (by omega),D8d (by omega) (by omega)];omega
 refine F5f hm A4 Tryz.func3 rfl rfl ?_;refine C4 [(2, .share, .sc (.int .u8 m)),(3, .thaw, .fptr w.enc),(4, .thaw, .fptr p.enc)] [] (E0 hm ?_) ?_
 ·simp only[go_sem,go_sem_proc];refine C0 [] [] ?_;simp only[go_sem,go_sem_proc];exact eE_
 refine C4 [(2, .share, .sc (.int .u8 m)),(3, .share, .fptr w.enc),(4, .share, .fptr p.enc)] [] (E0 hm ?_) ?_
 ·simp only[go_sem,go_sem_proc];refine A0 hS rfl ?_;simp only[go_sem,go_sem_proc];refine A0 (B5r w hw) rfl ?_;simp only[go_sem,go_sem_proc];rw[if_neg (by simp[hv,hF])];refine C0 [] [] ?_;simp only[go_sem,go_sem_proc]
 refine C4 [(2, .share, .sc (.int .u8 m)),(3, .share, .fptr w.enc),(4, .share, .fptr p.enc),(7, .share, .ptr 1 0 0 1),(8, .share,sI 0)] [(1, .box (M7 w))] (E0 hm ?_) ?_
 ·simp only[go_sem,go_sem_proc];refine K1 ev_ J8 (E07 w hw hv2) ?_;simp only[go_sem,go_sem_proc,E0c];refine C0 [(1,672)] [] ?_;simp only[go_sem,go_sem_proc,M7]
 refine C4 [(2, .share, .sc (.int .u8 m)),(3, .share, .fptr w.enc),(4, .share, .fptr p.enc),(7, .share, .ptr 1 0 0 1)] [(1, .box (M7 w))] (E0 hm ?_) ?_
 ·simp only[go_sem,go_sem_proc];refine C0 [] [] ?_;simp only[go_sem,go_sem_proc,M7]
 refine C4 [(2, .share, .sc (.int .u8 m)),(3, .share, .fptr w.enc),(4, .share, .fptr p.enc),(7, .share, .ptr 1 0 0 1)] (sqO w g I E ([])) (E0 hm ?_) ?_
 ·simp only[go_sem,go_sem_proc];refine E6 hB A10 S6 (by simp[sqO]) (by simp[upd,go_sem,go_sem_proc]) (by simp[sqO,upd]) A84 rfl ?_;simp only[go_sem,go_sem_proc];refine C0 [] [] ?_;simp only[go_sem,go_sem_proc]
 refine C4 [(2, .share, .sc (.int .u8 m)),(3, .share, .fptr w.enc),(4, .share, .fptr p.enc),(7, .share, .ptr 1 0 0 1),(11, .share,sI (N:Nat))] (sqO w g I E ([])) (E0 hm ?_) ?_
 ·simp only[go_sem,go_sem_proc];refine⟨bE_,?_⟩;refine C0 [] [] ?_;simp only[go_sem,go_sem_proc]
  (repeat' (with_reducible apply And.intro)) <;> exact hN
 refine C4 [(2, .share, .sc (.int .u8 m)),(3, .share, .fptr w.enc),(4, .share, .fptr p.enc),(7, .share, .ptr 1 0 0 1),(11, .share,sI (N:Nat))] (sqO w g I E (qz p N)) (C4 [(2, .share, .sc (.int .u8 m)),(3, .share, .fptr w.enc),(4, .share, .fptr p.enc),(7, .share, .ptr 1 0 0 1),(11, .share,sI (N:Nat)),(12, .share,sI (0:Nat))] (sqO w g I E (qz p 0)) (E0 hm ?_) (A3f ?_)) ?_
 ·rw[show qz p 0= []from rfl];simp only[go_sem,go_sem_proc];refine C0 [] [] ?_;simp only[go_sem,go_sem_proc]
 ·refine B0 hm (ι:= {k:Nat // k<=N}) (λk=> [(2, .share, .sc (.int .u8 m)),(3, .share, .fptr w.enc),(4, .share, .fptr p.enc),(7, .share, .ptr 1 0 0 1),(11, .share,sI (N:Nat)),(12, .share,sI (k.1:Nat))]) (λk=>sqO w g I E (qz p k.1)) (λk=>N-k.1) ⟨0,Nat.zero_le _⟩ ?_ ?_
  ·refine C0 [] [] ?_;simp only[go_sem,go_sem_proc]
  ·rintro⟨k,hk⟩;dsimp only;have hl:=F3x p k
   have hfin:N<=k->qz p k=qz p N:=λh=>by rw[show k=N by omega]
   have hn1:=λh=>G3k p (i:=k) h
   have hn2:=λh=>G3j p (i:=k) h;generalize qz p k=q at hl hfin hn1 hn2⊢;by_cases hlt:k<N;rotate_left
   ·simp only[go_sem,go_sem_proc];rw[if_neg (by omega),<-hfin (by omega)];refine C0 [] [] ?_;simp only[go_sem,go_sem_proc]
   simp only[go_sem,go_sem_proc];rw[if_pos (by omega)];have z1:((0:Int) != 0)=false:=rfl
   have z2:((9:Int) != 9)=false:=rfl;by_cases h64:k<64
   ·replace hn1:=hn1 h64;have hC:=D3r w g I E q (C5j p) (by omega) F1y
    have e1:((k:Int)<64):=by omega
    have e2: ¬(64<=(k:Int)):=by omega
    refine E3 [true,false] [] hC (by simp[sqO]) (by simp[sqO]) (by simp[sqO,A6]) (by simp[sqO,go_sem]) ?_;rw[<-hn1];simp only[go_sem,go_sem_proc,C5j,zB,e1,e2,z1,decide_true,decide_false,Bool.and_false,Bool.not_false];refine⟨O9 rfl,?_⟩;refine A7 ⟨k+1,hlt⟩ (by show N-(k+1)<N-k;omega) ?_;refine C0 [] [] ?_;simp only[go_sem,go_sem_proc];exact eE_
   ·replace hn2:=hn2 (by omega);have hC:=F31 w g I E q (C5j p) (by omega)
    have e1: ¬((k:Int)<64):=by omega
    have e2:(64<=(k:Int)):=by omega
    refine E3 [true,false] [] hC (by simp[sqO]) (by simp[sqO]) (by simp[sqO,A6]) (by simp[sqO,go_sem]) ?_;rw[<-hn2];simp only[go_sem,go_sem_proc,C5j,zB,e1,e2,z2,decide_true,decide_false,Bool.and_false,Bool.not_false];refine⟨O9 rfl,?_⟩;refine A7 ⟨k+1,hlt⟩ (by show N-(k+1)<N-k;omega) ?_;refine C0 [] [] ?_;simp only[go_sem,go_sem_proc];exact eE_
 have hql:=F3x p N
 have hqk: ∀r∈qz p N,r.Kind=2:=λr hr=>by rw[(List.mem_replicate.1 hr).2];rfl
 generalize qz p N=q at hql hqk⊢;obtain⟨E',hEnd⟩:=E5m w g I E q hpw hI hIl (by omega) hqk (by omega);generalize hw2:(exN q (B1b (gN g I I.length)).1 q.length).1=w2 at hEnd;generalize(exN q (B1b (gN g I I.length)).1 q.length).2=l at hEnd;have hmin:(if 64<(N:Int)then 64 else(N:Int))=(q.length:Int):=by split <;> omega
 refine C4 [(2, .share, .sc (.int .u8 m)),(3, .share, .fptr w.enc),(4, .share, .fptr p.enc),(7, .share, .ptr 1 0 0 1),(11, .share,sI (N:Nat)),(16, .share,sI 0),(17, .share,sI 23)] (sqO w g I E (q)) (E0 hm ?_) ?_
 ·simp only[go_sem,go_sem_proc];refine E6 (F30 w g I E q) S6 S6 (by simp[sqO]) (by simp[sqO,sqC,upd,A2,go_sem,go_sem_proc]) (by simp[sqO]) A6a rfl ?_;simp only[go_sem,go_sem_proc];refine C0 [] [] ?_;simp only[go_sem,go_sem_proc]
 refine C4 [(2, .share, .sc (.int .u8 m)),(3, .share, .fptr w.enc),(4, .share, .fptr p.enc),(7, .share, .ptr 1 0 0 1),(17, .share,sI 23),(18, .share,sI q.length)] (sqO w g I E (q)) (E0 hm ?_) ?_
 ·simp only[go_sem,go_sem_proc];rw[hmin];refine C0 [] [] ?_;simp only[go_sem,go_sem_proc]
 have z1:((23:Int) != 23)=false:=rfl
 have z2:((q.length:Int) != q.length)=false:=bne_self_eq_false _;refine C4 [(2, .share, .sc (.int .u8 m)),(3, .share, .fptr w.enc),(4, .share, .fptr p.enc),(7, .share, .ptr 1 0 0 1),(18, .share,sI q.length)] (sqO w g I E (q)) (E0 hm ?_) ?_
 ·simp only[go_sem,go_sem_proc,z1];refine E6 (C94 w g I E q) S6 S6 (by simp[sqO]) (by simp[sqO,sqC,upd,A2,go_sem,go_sem_proc]) (by simp[sqO]) A6a rfl ?_;simp only[go_sem,go_sem_proc,z2];refine E6 (F1f w g I E q hw) S6 S6 (by simp[sqO]) (by simp[sqO,sqC,upd,A2,go_sem,go_sem_proc]) (by simp[sqO]) A6a rfl ?_;simp only[go_sem,go_sem_proc];refine A0 (E7w w w hw) rfl ?_;simp only[go_sem,go_sem_proc,decide_true];refine E6 (E2f w g I E q) S6 S6 (by simp[sqO]) (by simp[sqO,sqC,upd,A2,go_sem,go_sem_proc]) (by simp[sqO]) A6a rfl ?_;simp only[go_sem,go_sem_proc];refine C0 [] [] ?_;simp only[go_sem,go_sem_proc]
 refine C4 [(2, .share, .sc (.int .u8 m)),(3, .share, .fptr w.enc),(4, .share, .fptr p.enc),(7, .share, .ptr 1 0 0 1),(18, .share,sI q.length),(19, .share, .sl 5 0 q.length q.length),(21, .share,sI 0)] [(1, .box (M7 w2)),(5, .arr 11 (A8 Response.enc default l)),(3, .arr 5 (A8 Api.Event.enc default E')),(2, .arr 1 ⟨I.length,λ_=> [sB false]⟩),(4, .arr 1 (A8 B0u default q))] (E0 hm ?_) ?_
 ·simp only[go_sem,go_sem_proc];refine E6 hEnd S6 E88 (by simp[sqO]) (by simp[sqO,sqC,upd,A2,go_sem,go_sem_proc]) (by simp[sqO,upd]) A6a rfl ?_;simp only[go_sem,go_sem_proc];refine C0 [] [] ?_;simp only[go_sem,go_sem_proc,M7]
 refine C4 [(2, .share, .sc (.int .u8 m)),(3, .share, .fptr w.enc),(4, .share, .fptr p.enc),(7, .share, .ptr 1 0 0 1),(18, .share,sI q.length),(19, .share, .sl 5 0 q.length q.length),(21, .share,sI 0),(24, .share,sI 24)] [(1, .box (M7 w2)),(5, .arr 11 (A8 Response.enc default l)),(3, .arr 5 (A8 Api.Event.enc default E')),(2, .arr 1 ⟨I.length,λ_=> [sB false]⟩),(4, .arr 1 (A8 B0u default q))] (E0 hm ?_) ?_
 ·simp only[go_sem,go_sem_proc];refine E6 (F1e w2) A10 A10 (by simp) (by simp[upd,go_sem,go_sem_proc]) (by simp) A84 rfl ?_;simp only[go_sem,go_sem_proc];refine C0 [] [] ?_;simp only[go_sem,go_sem_proc,M7]
 refine E0 hm ?_;have y0:((0:Int)==0)=true:=rfl
 have y1:((q.length:Int)==q.length)=true:=beq_self_eq_true _
 have y2:((24:Int)==24)=true:=rfl;simp only[go_sem,go_sem_proc,y0,y1,y2];refine E6 (E2e w2) A10 A10 (by simp) (by simp[upd,go_sem,go_sem_proc]) (by simp) A84 rfl ?_;simp only[go_sem,go_sem_proc,y0];refine E6 (C3r w2) A10 A10 (by simp) (by simp[upd,go_sem,go_sem_proc]) (by simp) A84 rfl ?_;simp only[go_sem,go_sem_proc];refine A0 A9m rfl ?_;simp only[go_sem,go_sem_proc]
theorem G2s {a:Int}(h:(Lit.int .u8 a).wf=true):0<=a/\a<256:=by simp only[Lit.wf,IntKind.min,IntKind.max,Bool.and_eq_true]at h;simp[IntKind.bits,IntKind.signed]at h;omega
end Go.Abs
end
