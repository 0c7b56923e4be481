/- A part of the proof: contracts of functions that the statement reaches. -/
import Derived.Test.YthpkalnjbhnfpaaGreatMI
set_option linter.unusedSimpArgs false
set_option linter.unusedVariables false
set_option linter.unnecessarySimpa false
set_option maxRecDepth 100000
set_option maxHeartbeats 2000000
section
namespace Go.Abs
open Go.Proofs
open Api
theorem D4m(w:Api.World)(h:A9j w):A5 Tryz.prog D3m [.agg w.enc] [] (.sc (.bool (decide (w.Contacts.length≤20∧w.Overlaps.length≤20)))) []:=by
 obtain⟨⟨h1,h2,h3,h4,_⟩,h5,h6⟩:=h;refine en1 hm A1 Tryz.func22 rfl rfl ?_;simp only[go_sem,go_sem_proc];refine C6 hm (ι:= {k:Nat // k≤w.Bodies.length}) (fun k=> [(1, .thaw, .fptr w.enc),(3, .share, .sc (.int .i64 (k.1:Nat)))]) (fun _=> []) (fun k=>w.Bodies.length-k.1) ⟨0,Nat.zero_le _⟩ ?_ ?_
 ·refine B3 [] [] (by simp) (by simp[A9]) (by simp) ?_;simp only[go_sem,go_sem_proc,Q4]
 ·rintro⟨k,hk⟩;simp only[go_sem,go_sem_proc];by_cases hlt:k<w.Bodies.length
  ·obtain⟨b1,b2⟩:=h5 _ (D6 default hlt);generalize w.Bodies.getD k default=b at b1 b2⊢;rw[if_pos (by rw[if_pos (by omega)];exact decide_eq_true (by omega))];refine⟨⟨by omega,by omega⟩,?_⟩;refine C6 hm (ι:= {q:Nat // q≤b.Fixtures.length}) (fun q=> [(1, .share, .fptr w.enc),(3, .share, .sc (.int .i64 (k:Nat))),(4, .thaw, .fptr b.enc),(5, .share, .sc (.int .i64 (q.1:Nat)))]) (fun _=> []) (fun q=>b.Fixtures.length-q.1) ⟨0,Nat.zero_le _⟩ ?_ ?_
   ·refine B3 [] [] (by simp) (by simp[A9]) (by simp) ?_;simp only[go_sem,go_sem_proc,Q4]
   ·rintro⟨q,hq⟩;simp only[go_sem,go_sem_proc];by_cases hlq:q<b.Fixtures.length
    ·have:=b2 _ (D6 default hlq)
     rw[if_pos (by rw[if_pos (by omega)];exact decide_eq_true (by omega))];refine⟨⟨by omega,by omega⟩,?_⟩;rw[if_neg (by omega)];refine B8 ⟨q+1,hlq⟩ (by show b.Fixtures.length-(q+1)<b.Fixtures.length-q;omega) (B3 [] [] (by simp) (by simp[A9]) (by simp) ?_);simp only[go_sem,go_sem_proc,Q4];exact(by rw[IntKind.wrap_i64];omega)
    ·rw[if_neg (by rw[if_neg (by omega)];simp)];rw[if_neg (by omega)];refine B8 ⟨k+1,hlt⟩ (by show w.Bodies.length-(k+1)<w.Bodies.length-k;omega) (B3 [] [] (by simp) (by simp[A9]) (by simp) ?_);simp only[go_sem,go_sem_proc,Q4];exact(by rw[IntKind.wrap_i64];omega)
  ·rw[if_neg (by rw[if_neg (by omega)];simp)];refine C6 hm (ι:= {k:Nat // k≤w.Contacts.length}) (fun k=> [(1, .thaw, .fptr w.enc),(6, .share, .sc (.int .i64 (k.1:Nat)))]) (fun _=> []) (fun k=>w.Contacts.length-k.1) ⟨0,Nat.zero_le _⟩ ?_ ?_
   ·refine B3 [] [] (by simp) (by simp[A9]) (by simp) ?_;simp only[go_sem,go_sem_proc,Q4]
   ·rintro⟨q,hq⟩;simp only[go_sem,go_sem_proc];by_cases hlq:q<w.Contacts.length∧q<20
    ·have:=h6 _ (D6 default hlq.1)
     rw[if_pos (by rw[if_pos (by omega)];exact decide_eq_true (by omega))];refine⟨⟨by omega,by omega⟩,?_⟩;rw[if_neg (by omega)];refine B8 ⟨q+1,hlq.1⟩ (by show w.Contacts.length-(q+1)<w.Contacts.length-q;omega) (B3 [] [] (by simp) (by simp[A9]) (by simp) ?_);simp only[go_sem,go_sem_proc,Q4];exact(by rw[IntKind.wrap_i64];omega)
    ·rw[if_neg (by intro hh;split at hh <;> simp at hh;omega)];rw[if_pos (by omega),decide_eq_true (show(w.Joints.length:Int)≤8 by omega),Bool.true_and,Bool.eq_iff_iff];simp;omega
theorem C51 {P:Program}{m:Nat→Option A8}{f:FuncId}{avs:List AV}{Q:ContR}(v:AV)(hK: @Ri Q false ⟨some v,[]⟩): @A4w P m f avs false Q:=⟨⟨some v,[]⟩,(fun h=>by cases h),(fun h=>absurd rfl h),hK⟩
theorem C9c(w:Api.World)(r:Request): ∃b:Bool,(b=true→A9j w∧r.Input.Body.Fixtures.length≤6∧ ∀f∈r.Input.Body.Fixtures,f.Shape.Vertices.length≤12)∧A5 Tryz.prog B7s [.agg w.enc,B4 55 Request.enc default [r]] [] (.sc (.bool b)) []:=by
 by_cases hi:smI r.Input.Body.Fixtures=true
 ·by_cases h:A9j w
  ·refine⟨decide (w.Contacts.length≤20∧w.Overlaps.length≤20),fun _=>⟨h,?_⟩,?_⟩
   ·unfold smI at hi;simp only[Bool.and_eq_true,decide_eq_true_eq,List.all_eq_true]at hi;obtain⟨hi1,hi2⟩:=hi;rw[List.take_of_length_le hi2]at hi1;exact⟨hi2,fun f hf=>of_decide_eq_true (hi1 f hf)⟩
   ·refine en1 hm A1 Tryz.func5 rfl rfl ?_;simp only[go_sem,go_sem_proc];refine B07 hm 2 ?_;simp only[A66,List.length_cons,List.length_nil,go_sem,go_sem_proc];rw[if_pos (by simp)];refine⟨⟨by omega,by omega⟩,?_⟩;refine P2 (A5s r.Input) ?_;simp only[P9,go_sem,go_sem_proc];refine⟨R5 (l:= [r.Input]) (fun _ _=>rfl) rfl rfl rfl,?_⟩;rw[hi];rw[if_neg (by simp)];have e:IntKind.i64.wrap (0+1)=1:=by decide
    simp only[A66,e,go_sem,go_sem_proc];rw[if_neg (by simp)];refine A0 (B7t w) rfl ?_;rw[decide_eq_true h];simp only[go_sem,go_sem_proc];refine A0 (D4m w h) rfl ?_;simp only[go_sem,go_sem_proc];by_cases hc:w.Contacts.length≤20∧w.Overlaps.length≤20
    ·rw[if_pos hc,decide_eq_true hc];rfl
    ·rw[if_neg hc,decide_eq_false hc]
  ·refine⟨false,(by simp),?_⟩;refine en1 hm A1 Tryz.func5 rfl rfl ?_;simp only[go_sem,go_sem_proc];refine B07 hm 2 ?_;simp only[A66,List.length_cons,List.length_nil,go_sem,go_sem_proc];rw[if_pos (by simp)];refine⟨⟨by omega,by omega⟩,?_⟩;refine P2 (A5s r.Input) ?_;simp only[P9,go_sem,go_sem_proc];refine⟨R5 (l:= [r.Input]) (fun _ _=>rfl) rfl rfl rfl,?_⟩;rw[hi];rw[if_neg (by simp)];have e:IntKind.i64.wrap (0+1)=1:=by decide
   simp only[A66,e,go_sem,go_sem_proc];rw[if_neg (by simp)];refine A0 (B7t w) rfl ?_;rw[decide_eq_false h];simp only[go_sem,go_sem_proc];refine C51 (.sc (.bool true)) ?_;simp only[go_sem,go_sem_proc]
 ·refine⟨false,(by simp),?_⟩;have hi:smI r.Input.Body.Fixtures=false:=by simpa using hi
  refine en1 hm A1 Tryz.func5 rfl rfl ?_;simp only[go_sem,go_sem_proc];refine B07 hm 2 ?_;simp only[A66,List.length_cons,List.length_nil,go_sem,go_sem_proc];rw[if_pos (by simp)];refine⟨⟨by omega,by omega⟩,?_⟩;refine P2 (A5s r.Input) ?_;simp only[P9,go_sem,go_sem_proc];refine⟨R5 (l:= [r.Input]) (fun _ _=>rfl) rfl rfl rfl,?_⟩;rw[hi];rw[if_pos (by simp)];trivial
end Go.Abs
end
section
namespace Go.Abs
open Go.Proofs
open Api
theorem D4t(s:Settings):V0 s=X4 s:=by unfold V0 X4;cases inR s.TimeStep 64 8192 <;> cases inR s.Gravity.X (-16777216) 16777216 <;> cases inR s.Gravity.Y (-16777216) 16777216 <;> cases inR s.Iterations 1 32 <;> cases inR s.SleepSteps 0 1048576 <;> rfl
theorem D7w(v:Vec):A2b v 16777216=(inR v.X (-16777216) 16777216&&inR v.Y (-16777216) 16777216):=rfl
theorem D7n(v:Vec):A2b v 536870911=(inR v.X (-536870911) 536870911&&inR v.Y (-536870911) 536870911):=rfl
theorem D7i(b:Body):A3w b=A2r b:=by unfold A3w A2r;simp only[D7w,D7n];generalize Q5 b.Transform=t;cases t <;> simp <;> grind
theorem E1h(s:Shape)(h: ¬(s.Kind<1∨3<s.Kind)):R4 s=U7 s:=by
 unfold R4 U7;rw[Bool.eq_iff_iff];simp
 try grind
theorem D79(s:Shape):(s.Vertices.any fun x=>W8 x)=s.Vertices.any fun v=>(!(inR v.X (-1048576) 1048576))||(!(inR v.Y (-1048576) 1048576)):=by
 congr 1;funext v;unfold W8 A1g inR;rw[Bool.eq_iff_iff];simp
 try grind
theorem C8n(vs:List Vec):D0 (V7 vs) vs.length ()=if vs.any (fun v=> !(A3y v))=true then .inr false else .inl ():=by rw[A5q (r:=false) (p:=fun i=> !(A3y (vs.getD i default))) (fun i=>by simp only[V7];cases A3y (vs.getD i default) <;> rfl),A9s (p:=fun v:Vec=> !(A3y v))]
theorem D6j(vs:List Vec):D0 (S8 vs) vs.length ()=if vs.any (fun v=> !(A3y v))=true then .inr false else .inl ():=C8n vs
theorem C0q(vs:List Vec):F6 vs=J2 vs:=by unfold F6 J2 A0c;rw[C8n,D6j];have hL:N7 vs=T7 vs:=rfl;rw[hL];cases(vs.any fun v=> !(A3y v)) <;> cases(decide ((vs.length:Int)<3)) <;> cases(decide (8<(vs.length:Int))) <;> rfl
theorem C2u(v:Vec):0≤A4c v:=by
 unfold A4c isq;split
 ·exact Int.le_refl _
 ·exact Int.natCast_nonneg _
theorem D5p(vs:List Vec): ∀n,(itr (K7 vs) n ([],0)).2=itr (A1p vs) n 0
 |0=>rfl
 |n+1=>by rw[H7,H7,←D5p vs n];simp only[K7,A1p,A6l,Int.toNat_natCast]
theorem E2h(vs:List Vec):R3 vs=A22 vs:=by unfold R3 A22;simp only[C0q,K1,D5p]
theorem D1p(vs:List Vec): ∀n,itr (P8 vs) (n+1) 536870911=min 536870911 (itr (L8 vs) (n+1) (-1))∧0≤itr (L8 vs) (n+1) (-1)
 |0=>by
  have h:=C2u (J8 (vs.getD (((IntKind.i64.wrap (((0:Nat):Int)+1)).tmod (vs.length:Int)).toNat) default) (vs.getD 0 default));simp only[H7,B6,P8,L8];generalize A4c (J8 (vs.getD (((IntKind.i64.wrap (((0:Nat):Int)+1)).tmod (vs.length:Int)).toNat) default) (vs.getD 0 default))=e at h⊢;simp;refine⟨?_,h⟩
  grind
 |n+1=>by
  obtain⟨h1,h2⟩:=D1p vs n;rw[H7,H7 (L8 vs),h1];generalize itr (L8 vs) (n+1) (-1)=r at h2⊢;have h:=C2u (J8 (vs.getD (((IntKind.i64.wrap (((n+1:Nat):Int)+1)).tmod (vs.length:Int)).toNat) default) (vs.getD (n+1) default));simp only[P8,L8];generalize A4c (J8 (vs.getD (((IntKind.i64.wrap (((n+1:Nat):Int)+1)).tmod (vs.length:Int)).toNat) default) (vs.getD (n+1) default))=e at h⊢;have hr: ¬r<0:=by omega
  simp[hr];constructor
  ·grind
  ·grind
theorem E4l(vs:List Vec):decide (S4 vs<4096)=decide (A1a vs<4096):=by
 unfold S4 A1a;simp only[C0q];by_cases hc:J2 vs=false
 ·rw[if_pos hc,if_pos hc]
 ·rw[if_neg hc,if_neg hc];cases hn:vs.length with
  |zero=>exfalso;apply hc;unfold J2;rw[hn];rfl
  |succ n=>obtain⟨h1,h2⟩:=D1p vs n;rw[h1,decide_eq_decide];omega
theorem D4c(s:Shape):D0 (A3k s) s.Vertices.length ()=if(s.Vertices.any fun v=>(!(inR v.X (-1048576) 1048576))||(!(inR v.Y (-1048576) 1048576)))=true then .inr 6 else .inl ():=by rw[A5q (r:=(6:Int)) (p:=fun i=>(!(inR (s.Vertices.getD i default).X (-1048576) 1048576))||(!(inR (s.Vertices.getD i default).Y (-1048576) 1048576))) (fun i=>rfl),A9s (p:=fun v:Vec=>(!(inR v.X (-1048576) 1048576))||(!(inR v.Y (-1048576) 1048576)))]
theorem E0g(s:Shape):J7 s=A3q s:=by
 unfold J7 A3q;simp only[D79,D4c,C0q,E2h,E4l];by_cases hk:((decide (s.Kind<1))||(decide (3<s.Kind)))=true
 ·rw[if_pos hk,if_pos hk]
 ·rw[if_neg hk,if_neg hk,E1h s (by simpa using hk)];split
  ·rfl
  ·by_cases ha:(s.Vertices.any fun v=>(!(inR v.X (-1048576) 1048576))||(!(inR v.Y (-1048576) 1048576)))=true
   ·rw[if_pos ha,if_pos ha]
   ·rw[if_neg ha,if_neg ha];simp only[];cases(s.Kind==3) <;> cases(s.Radius != 0) <;> simp
theorem D71(f:Fixture):X0 f=Y5 f:=by
 unfold X0 Y5;simp only[E0g];split
 ·rfl
 ·generalize inR f.Density 0 262144=a;generalize inR f.Friction 0 131072=b;generalize inR f.Restitution 0 65536=c;generalize inR f.Category 0 65535=d;generalize inR f.Mask 0 65535=e;generalize inR f.Group (-32) 32=g;cases a <;> cases b <;> cases c <;> cases d <;> cases e <;> cases g <;> rfl
theorem E3o(b:Body):A0a b=S5 b:=by
 unfold A0a S5;have hL:A1d b=A0l b:=by funext i s;simp only[A1d,A0l,D71]
 simp only[D7i,hL];split
 ·rfl
 split
 ·rfl
 split
 ·rfl
 cases D0 (A0l b) b.Fixtures.length ()with
 |inr r=>rfl
 |inl s=>
  simp only[A3l,A6x]
  grind
end Go.Abs
end
section
namespace Go.Abs
open Go.Proofs
open Api
theorem E1i(v:Vec)(m:Int):J6 v m=Q8 v m:=rfl
theorem D7g(j:Joint):((inR j.Lower (J9 j.Kind).1 (J9 j.Kind).2)&&(inR j.Upper (J9 j.Kind).1 (J9 j.Kind).2)&&(decide (j.Lower≤j.Upper)))=T4 j:=by unfold J9 T4 inR;by_cases h1:j.Kind=1 <;> by_cases h2:j.Kind=2 <;> simp[h1,h2] <;> grind
theorem D7d(j:Joint):H9 j=H2 j:=by
 unfold H9 H2;have hL:K5 j=J4 j:=rfl
 have hL2:K6 j=L3 j:=rfl;rw[hL,hL2];simp only[E1i,←D7g];cases D0 (J4 j) 4 () <;> cases D0 (L3 j) 4 () <;> grind
theorem D9w(j:Joint):P3 j=Q9 j:=by
 unfold P3 Q9;simp only[D7d];split
 ·rfl
 rename_i hk;split
 ·rfl
 unfold A2n A14;have hk:j.Kind=1∨j.Kind=2∨j.Kind=3∨j.Kind=4∨j.Kind=5:=by simp at hk;omega
 rcases hk with hk |hk |hk |hk |hk <;> simp[hk] <;> grind
theorem E2d(j:Joint):D0 (J4 j) 4 ()=if((List.range 4).any (fun i=> !(inR ([j.Impulses.I0,j.Impulses.I1,j.Impulses.I2,j.Impulses.I3].getD i 0) (-536870911) 536870911)))=true then .inr false else .inl ():=A5q (r:=false) (p:=fun i=> !(inR ([j.Impulses.I0,j.Impulses.I1,j.Impulses.I2,j.Impulses.I3].getD i 0) (-536870911) 536870911)) (fun i=>by simp only[J4];cases inR ([j.Impulses.I0,j.Impulses.I1,j.Impulses.I2,j.Impulses.I3].getD i 0) (-536870911) 536870911 <;> rfl) 4
theorem E9t(j:Joint):D0 (L3 j) 4 ()=if((List.range 4).any (fun i=> !(inR ([j.Impulses.I0,j.Impulses.I1,j.Impulses.I2,j.Impulses.I3].getD i 0) (-536870911) 536870911)))=true then .inr false else .inl ():=E2d j
theorem C8e {j:Joint}(h:Q9 j=0):1≤j.ID∧1≤j.BodyB∧(j.Kind=5→j.BodyA=0)∧(j.Kind≠5→1≤j.BodyA):=by
 unfold Q9 at h;split at h
 ·cases h
 simp only[]at h;split at h
 ·cases h
 rename_i hr;split at h
 ·cases h
 rename_i hb;have hid:1≤j.ID:=by unfold H2 at hr;rw[E2d,E9t]at hr;revert hr;generalize(List.range 4).any (fun i=> !(inR ([j.Impulses.I0,j.Impulses.I1,j.Impulses.I2,j.Impulses.I3].getD i 0) (-536870911) 536870911))=q;cases q <;> simp[inR] <;> grind
 unfold inR at hb;refine⟨hid,?_⟩
 grind
theorem E2t(w:Api.World){j:Joint}(hj:Q9 j=0):N5 w j=A1n w j:=by
 obtain⟨_,h1,h2,h3⟩:=C8e hj;unfold N5 A1n;simp only[];have hb:(j.BodyB==0)=false:=by simp;omega
 rw[hb];by_cases hk:j.Kind=5
 ·simp[hk,h2 hk]
 ·have ha:(j.BodyA==0)=false:=by have:=h3 hk;simp;omega
  have hk':(j.Kind==5)=false:=by simpa using hk
  rw[ha,hk'];cases decide (0≤Q7 w j.BodyA) <;> cases decide (0≤Q7 w j.BodyB) <;> rfl
theorem B3y {S R:Type}{f g:Nat→S→S ⊕ R}{s0:S}(h: ∀i s,(i=0→s=s0)→f i s=g i s): ∀n,D0 f n s0=D0 g n s0
 |0=>rfl
 |n+1=>by
  have ih:=B3y h n;simp only[D0,ih];cases hn:D0 g n s0 with
  |inr r=>rfl
  |inl s=>refine h n s fun h0=> ?_;subst h0;simp only[D0]at hn;injection hn with hn;exact hn.symm
theorem E3m {b:Body}(h:S5 b=0):1≤b.ID:=by
 unfold S5 at h;split at h
 ·cases h
 simp only[]at h;split at h
 ·cases h
 rename_i hr;unfold A2r inR at hr
 grind
theorem D8i(w:Api.World):Q2 w=T3 w:=by
 unfold Q2 T3;rw[B3y (f:=L1 w) (g:=M5 w)];intro i s hi;simp only[L1,M5,E3o];by_cases hv:S5 (w.Bodies.getD i default)=0
 ·have hid:=E3m hv
  by_cases h0:i=0
  ·have:=hi h0
   subst this;have e:decide ((w.Bodies.getD i default).ID≤0)=false:=by rw[decide_eq_false_iff_not];omega
   rw[e,Bool.and_false]
  ·have e:decide (0<(i:Int))=true:=by rw[decide_eq_true_iff];omega
   rw[e,Bool.true_and]
 ·have e:(S5 (w.Bodies.getD i default) != 0)=true:=by simpa using hv
  rw[e];simp
theorem D8y(w:Api.World):Q1 w=S7 w:=by
 unfold Q1 S7;rw[B3y (f:=L4 w) (g:=M4 w)];intro i s hi;simp only[L4,M4,D9w];by_cases hv:Q9 (w.Joints.getD i default)=0
 ·have hid:=(C8e hv).1
  rw[E2t w hv];by_cases h0:i=0
  ·have:=hi h0
   subst this;have e:decide ((w.Joints.getD i default).ID≤0)=false:=by rw[decide_eq_false_iff_not];omega
   rw[e,Bool.and_false]
  ·have e:decide (0<(i:Int))=true:=by rw[decide_eq_true_iff];omega
   rw[e,Bool.true_and]
 ·have e:(Q9 (w.Joints.getD i default) != 0)=true:=by simpa using hv
  rw[e];simp
end Go.Abs
end
section
namespace Go.Abs
open Go.Proofs
open Api
theorem E2s(x y:Int):E6 x y=if x<y then -1 else if y<x then 1 else 0:=by unfold E6 A1o;simp
theorem E5p(a b c d:Int):W9 [a,b,c,d]=if a≠0 then a else if b≠0 then b else if c≠0 then c else d:=by unfold W9;show(match D0 (A1l [a,b,c,d]) 4 ()with | .inr r=>r | .inl s1=>0)=_;simp only[D0,A1l];by_cases ha:a=0 <;> by_cases hb:b=0 <;> by_cases hc:c=0 <;> by_cases hd:d=0 <;> simp[ha,hb,hc,hd]
theorem E3d(a b:B2):A10 a b=A16 a b:=by
 unfold A10 A0f A16;simp only[E5p,E2s]
 grind
theorem D82(k:B2):(!(A1f k))=(((((decide (k.BodyB≤k.BodyA))||(decide (k.FixtureA<0)))||(decide (3<k.FixtureA)))||(decide (k.FixtureB<0)))||(decide (3<k.FixtureB))):=by
 unfold A1f;rw[Bool.eq_iff_iff];simp
 grind
theorem D8z(p k:B2):(((k.BodyA==p.BodyA)&&((k.FixtureA==p.FixtureA)&&((k.BodyB==p.BodyB)&&(k.FixtureB==p.FixtureB))))|| !(A16 p k))= !(A16 p k):=by
 unfold A16
 grind
def D6f(k:B2):Int×Int×Int×Int:=(k.BodyA,k.FixtureA,k.BodyB,k.FixtureB)
theorem C8s(l:List B2): ∀n,n≤4194304→match D0 (H6 l) n (0,0,0,0)with
  | .inl s=>D0 (Y3 l) n ()= .inl ()∧(0<n→s=D6f (l.getD (n-1) default))
  | .inr r=>D0 (Y3 l) n ()= .inr r
 |0,_=>⟨rfl,fun h=>absurd h (by omega)⟩
 |n+1,hb=>by
  have ih:=C8s l n (by omega);simp only[D0];cases hn:D0 (H6 l) n (0,0,0,0)with
  |inr r=>rw[hn]at ih;simp only[ih]
  |inl s=>
   rw[hn]at ih;obtain⟨h1,h2⟩:=ih;simp only[h1];have hwr:(IntKind.i64.wrap ((n:Int)-1)).toNat=n-1:=by rw[IntKind.wrap_i64];omega
   simp only[H6,Y3,hwr,E3d,D82];by_cases h0:0<n
   ·have hs:=h2 h0
    subst hs;have e:decide (0<(n:Int))=true:=by rw[decide_eq_true_iff];omega
    have:=D8z (l.getD (n-1) default) (l.getD n default);simp only[D6f,e,Bool.true_and,this];split <;> rename_i heq <;> split at heq <;> simp_all [D6f]
   ·have e:decide (0<(n:Int))=false:=by rw[decide_eq_false_iff_not];omega
    simp only[e,Bool.false_and];split <;> rename_i heq <;> split at heq <;> simp_all [D6f]
theorem D2y(l:List B2)(h:l.length≤4194304):J3 l=M9 l:=by
 have:=C8s l l.length h;unfold J3 M9;cases hn:D0 (H6 l) l.length (0,0,0,0)with
 |inr r=>rw[hn]at this;rw[this]
 |inl s=>rw[hn]at this;rw[this.1]
theorem D9i(l:List Int):T5 l=l.all fun n=>inR n (-536870911) 536870911:=by
 unfold T5 A0i;induction l with
 |nil=>rfl
 |cons a l ih=>simp only[List.any_cons,List.all_cons,←ih];cases inR a (-536870911) 536870911 <;> simp
theorem D30(m:Manifold):D0 (Z9 m) m.Points.length ()=if(m.Points.any fun p=>H1 p)=true then .inr false else .inl ():=by
 rw[A5q (r:=false) (p:=fun i=>H1 (m.Points.getD i default)),A9s (p:=fun p:C4=>H1 p)];intro i;simp only[Z9,H1,D9i,Z7,List.all_cons,List.all_nil,Bool.and_true];generalize m.Points.getD i default=p;have e:inR p.NormalImpulse 0 536870911=(!(decide (p.NormalImpulse<0))&&inR p.NormalImpulse (-536870911) 536870911):=by unfold inR;rw[Bool.eq_iff_iff];simp;grind
 rw[e]
 grind
theorem D3v(m:Manifold):D7 m=W2 m:=by
 unfold D7 W2;rw[D30];simp only[D9i,Z7,List.all_cons,List.all_nil,Bool.and_true]
 grind
end Go.Abs
end
section
namespace Go.Abs
open Go.Proofs
open Api
theorem E03(l:List D5):A03 l=l.map fun c=>c.Key:=by
 have h: ∀n,n≤l.length→itr (X6 l) n []=(l.take n).map fun c=>c.Key:=by
  intro n;induction n with
  |zero=>intro _;rfl
  |succ n ih=>intro hn;rw[H7,ih (by omega),A1e default (by omega),List.map_append];rfl
 unfold A03;simp only[h l.length (Nat.le_refl _),List.take_length]
theorem D28 {l:List B2}(h:M9 l=true): ∀k∈l,0≤k.FixtureA∧0≤k.FixtureB:=by
 unfold M9 at h;rw[A5q (r:=false) (p:=fun i=>((((((decide ((l.getD i default).BodyB≤(l.getD i default).BodyA))||(decide ((l.getD i default).FixtureA<0)))||(decide (3<(l.getD i default).FixtureA)))||(decide ((l.getD i default).FixtureB<0)))||(decide (3<(l.getD i default).FixtureB)))||((decide (0<(i:Int)))&&(!(A16 (l.getD (IntKind.i64.wrap ((i:Int)-1)).toNat default) (l.getD i default)))))) (fun i=>rfl)]at h;intro k hk;obtain⟨i,hi,rfl⟩:=List.getElem_of_mem hk;generalize hx:(List.range l.length).any _=A at h;cases A with
 |true=>cases h
 |false=>
  rw[List.any_eq_false]at hx;have:=hx i (List.mem_range.2 hi)
  have hg:l.getD i default=l[i]:=by simp[List.getD,hi]
  rw[hg]at this
  grind
theorem C2p(w:Api.World)(l:List B2)(h: ∀k∈l,0≤k.FixtureA∧0≤k.FixtureB):Z2 w l= !(l.any (A5f w)):=by
 unfold Z2;rw[A5q (r:=false) (p:=fun i=>(!(U8 w (l.getD i default).BodyA (l.getD i default).FixtureA))||(!(U8 w (l.getD i default).BodyB (l.getD i default).FixtureB))) (fun i=>rfl),
  A9s (p:=fun k:B2=>(!(U8 w k.BodyA k.FixtureA))||(!(U8 w k.BodyB k.FixtureB)))]
 have e:(l.any fun k:B2=>(!(U8 w k.BodyA k.FixtureA))||(!(U8 w k.BodyB k.FixtureB)))=l.any (A5f w):=by
  induction l with
  |nil=>rfl
  |cons k l ih=>
   rw[List.any_cons,List.any_cons,ih fun k hk=>h k (List.mem_cons_of_mem _ hk)];obtain⟨h1,h2⟩:=h k (List.mem_cons_self ..);congr 1;unfold A5f A1k U8;simp only[];have e1:decide (0≤k.FixtureA)=true:=decide_eq_true h1
   have e2:decide (0≤k.FixtureB)=true:=decide_eq_true h2;rw[e1,e2];cases decide (0≤Q7 w k.BodyA) <;> cases decide (0≤Q7 w k.BodyB) <;> simp
 rw[e];cases l.any (A5f w) <;> rfl
theorem D8c(w:Api.World):D0 (L2 w) w.Contacts.length ()=if(w.Contacts.any fun c=> !(D7 c.Manifold))=true then .inr false else .inl ():=by rw[A5q (r:=false) (p:=fun i=> !(D7 (w.Contacts.getD i default).Manifold)),A9s (p:=fun c:D5=> !(D7 c.Manifold))];intro i;simp only[L2,D3v];cases W2 (w.Contacts.getD i default).Manifold <;> rfl
theorem D3l(w:Api.World)(hc:w.Contacts.length≤4194304)(ho:w.Overlaps.length≤4194304):A4j w=M1 w:=by
 unfold A4j M1;rw[D8c];have hk:A03 w.Contacts=A2m w:=E03 _;simp only[hk];rw[D2y (A2m w) (by simp[A2m];omega),D2y w.Overlaps ho,List.any_append];have ha:(w.Contacts.all fun c=>D7 c.Manifold)= !(w.Contacts.any fun c=> !(D7 c.Manifold)):=by rw[List.all_eq_not_any_not]
 rw[ha];cases h1:M9 (A2m w)with
 |false=>simp
 |true=>
  cases h2:M9 w.Overlaps with
  |false=>simp
  |true=>rw[C2p w _ (D28 h1),C2p w _ (D28 h2)];generalize(A2m w).any (A5f w)=a;generalize w.Overlaps.any (A5f w)=b;generalize(w.Contacts.any fun c=> !(D7 c.Manifold))=c;cases a <;> cases b <;> cases c <;> rfl
theorem D4s(w:Api.World):P5 w=A3t w:=by
 unfold P5 A3t;simp only[D4t,D8i,D8y];split
 ·rfl
 ·split
  ·rfl
  ·rename_i h;have h1:w.Contacts.length≤4194304:=by simp at h;omega
   have h2:w.Overlaps.length≤4194304:=by simp at h;omega
   rw[D3l w h1 h2]
end Go.Abs
end
section
namespace Go.Abs
open Go.Proofs
noncomputable def g_7:FnG Tryz.prog 7:=mkG Tryz.f7.ntmps [(0,none)] A1 Tryz.func7 rfl
noncomputable def g_8:FnG Tryz.prog 8:=mkG Tryz.f8.ntmps [(2,none),(3,none)] A1 Tryz.func8 rfl
noncomputable def g_9:FnG Tryz.prog 9:=mkG 53 [(4,some (some 11)),(5,none),(6,none)] A1 Tryz.func9 rfl
noncomputable def F9r:FnG Tryz.prog 11:=mkG 81 [(4,some (some 11)),(5,some (some 11))] A1 Tryz.func11 rfl
noncomputable def G00:FnG Tryz.prog 15:=mkG 11 [(2,some (some 11))] A1 Tryz.func15 rfl
noncomputable def F97:FnG Tryz.prog 16:=mkG Tryz.f16.ntmps [(2,none)] A1 Tryz.func16 rfl
noncomputable def G0h:FnG Tryz.prog 17:=mkG Tryz.f17.ntmps [(2,none),(3,none)] A1 Tryz.func17 rfl
noncomputable def G0i:FnG Tryz.prog 18:=mkG Tryz.f18.ntmps [(2,none)] A1 Tryz.func18 rfl
noncomputable def F8y:FnG Tryz.prog 19:=mkG Tryz.f19.ntmps [(2,none),(3,none),(4,none)] A1 Tryz.func19 rfl
noncomputable def G0u:FnG Tryz.prog 28:=mkG 15 [(0,some (some 11))] A1 Tryz.func28 rfl
noncomputable def G0a:FnG Tryz.prog 29:=mkG Tryz.f29.ntmps [(2,none)] A1 Tryz.func29 rfl
noncomputable def F82:FnG Tryz.prog 30:=mkG Tryz.f30.ntmps [(2,none)] A1 Tryz.func30 rfl
noncomputable def F81:FnG Tryz.prog 31:=mkG 56 [(2,some (some 11))] A1 Tryz.func31 rfl
noncomputable def G0d:FnG Tryz.prog 32:=mkG Tryz.f32.ntmps [(2,none)] A1 Tryz.func32 rfl
noncomputable def F9d:FnG Tryz.prog 33:=mkG 8 [(2,some (some 49))] A1 Tryz.func33 rfl
noncomputable def G0p:FnG Tryz.prog 34:=mkG 10 [(3,some (some 11)),(4,some (some 11))] A1 Tryz.func34 rfl
noncomputable def F9g:FnG Tryz.prog 35:=mkG 23 [(8,some (some 7)),(9,none)] A1 Tryz.func35 rfl
noncomputable def G0l:FnG Tryz.prog 36:=mkG 8 [(2,some (some 11))] A1 Tryz.func36 rfl
noncomputable def G0s:FnG Tryz.prog 37:=mkG Tryz.f37.ntmps [(6,none)] A1 Tryz.func37 rfl
noncomputable def F9h:FnG Tryz.prog 38:=mkG Tryz.f38.ntmps [(6,none)] A1 Tryz.func38 rfl
noncomputable def F9i:FnG Tryz.prog 39:=mkG 87 [(4,some (some 11)),(5,none),(6,none)] A1 Tryz.func39 rfl
noncomputable def F9x:FnG Tryz.prog 44:=mkG 49 [(2,some (some 11)),(3,none),(4,none)] A1 Tryz.func44 rfl
noncomputable def G0k:FnG Tryz.prog 45:=mkG 189 [(4,some (some 11))] A1 Tryz.func45 rfl
noncomputable def G0x:FnG Tryz.prog 46:=mkG 78 [(2,some (some 11)),(3,none)] A1 Tryz.func46 rfl
noncomputable def G0n:FnG Tryz.prog 56:=mkG Tryz.f56.ntmps [(2,none)] A1 Tryz.func56 rfl
noncomputable def F9p:FnG Tryz.prog 57:=mkG Tryz.f57.ntmps [(6,none)] A1 Tryz.func57 rfl
noncomputable def F9a:FnG Tryz.prog 58:=mkG Tryz.f58.ntmps [(2,none)] A1 Tryz.func58 rfl
noncomputable def F8w:FnG Tryz.prog 59:=mkG Tryz.f59.ntmps [(2,none)] A1 Tryz.func59 rfl
noncomputable def F85:FnG Tryz.prog 60:=mkG Tryz.f60.ntmps [(2,none)] A1 Tryz.func60 rfl
noncomputable def F86:FnG Tryz.prog 61:=mkG Tryz.f61.ntmps [(2,none)] A1 Tryz.func61 rfl
noncomputable def G0e:FnG Tryz.prog 62:=mkG Tryz.f62.ntmps [(2,none)] A1 Tryz.func62 rfl
noncomputable def G0f:FnG Tryz.prog 63:=mkG Tryz.f63.ntmps [(2,none)] A1 Tryz.func63 rfl
noncomputable def F9m:FnG Tryz.prog 64:=mkG Tryz.f64.ntmps [(2,none)] A1 Tryz.func64 rfl
noncomputable def G0b:FnG Tryz.prog 65:=mkG 25 [(2,some (some 20))] A1 Tryz.func65 rfl
noncomputable def G0r:FnG Tryz.prog 66:=mkG 8 [(2,some (some 3))] A1 Tryz.func66 rfl
noncomputable def F90:FnG Tryz.prog 67:=mkG Tryz.f67.ntmps [(8,none)] A1 Tryz.func67 rfl
noncomputable def F9j:FnG Tryz.prog 68:=mkG Tryz.f68.ntmps [(6,none)] A1 Tryz.func68 rfl
noncomputable def G0c:FnG Tryz.prog 69:=mkG Tryz.f69.ntmps [(5,none)] A1 Tryz.func69 rfl
noncomputable def F80:FnG Tryz.prog 70:=mkG Tryz.f70.ntmps [(6,none)] A1 Tryz.func70 rfl
noncomputable def F9u:FnG Tryz.prog 71:=mkG Tryz.f71.ntmps [(5,none)] A1 Tryz.func71 rfl
noncomputable def F8z:FnG Tryz.prog 72:=mkG Tryz.f72.ntmps [(4,none)] A1 Tryz.func72 rfl
noncomputable def G0g:FnG Tryz.prog 73:=mkG 32 [(4,some (some 4))] A1 Tryz.func73 rfl
noncomputable def G0m:FnG Tryz.prog 74:=mkG Tryz.f74.ntmps [(2,none)] A1 Tryz.func74 rfl
noncomputable def F9b:FnG Tryz.prog 75:=mkG 41 [(4,some (some 11)),(5,none),(6,none)] A1 Tryz.func75 rfl
noncomputable def F9y:FnG Tryz.prog 76:=mkG 53 [(4,some (some 11)),(5,none),(6,none)] A1 Tryz.func76 rfl
noncomputable def G0j:FnG Tryz.prog 77:=mkG 90 [(4,some (some 11)),(5,none)] A1 Tryz.func77 rfl
noncomputable def F9v:FnG Tryz.prog 78:=mkG 35 [(4,some (some 11)),(5,none)] A1 Tryz.func78 rfl
noncomputable def F89:FnG Tryz.prog 79:=mkG 56 [(4,some (some 11)),(5,none)] A1 Tryz.func79 rfl
noncomputable def F93:FnG Tryz.prog 80:=mkG 44 [(4,some (some 11)),(5,none)] A1 Tryz.func80 rfl
noncomputable def G01:FnG Tryz.prog 82:=mkG Tryz.f82.ntmps [(2,none)] A1 Tryz.func82 rfl
noncomputable def G0w:FnG Tryz.prog 83:=mkG Tryz.f83.ntmps [(4,none)] A1 Tryz.func83 rfl
noncomputable def F98:FnG Tryz.prog 84:=mkG Tryz.f84.ntmps [(2,none)] A1 Tryz.func84 rfl
noncomputable def G02:FnG Tryz.prog 85:=mkG 62 [(4,some (some 11)),(5,none)] A1 Tryz.func85 rfl
noncomputable def F84:FnG Tryz.prog 86:=mkG Tryz.f86.ntmps [(4,none)] A1 Tryz.func86 rfl
noncomputable def F99:FnG Tryz.prog 87:=mkG Tryz.f87.ntmps [(4,none)] A1 Tryz.func87 rfl
noncomputable def G0o:FnG Tryz.prog 88:=mkG Tryz.f88.ntmps [(6,none),(7,none)] A1 Tryz.func88 rfl
noncomputable def F9f:FnG Tryz.prog 89:=mkG Tryz.f89.ntmps [(4,none),(5,none)] A1 Tryz.func89 rfl
noncomputable def F87:FnG Tryz.prog 90:=mkG 20 [(2,some (some 20))] A1 Tryz.func90 rfl
noncomputable def F8v:FnG Tryz.prog 91:=mkG 30 [(4,some (some 20)),(5,none)] A1 Tryz.func91 rfl
noncomputable def F9t:FnG Tryz.prog 92:=mkG 48 [(10,some (some 24))] A1 Tryz.func92 rfl
noncomputable def F9c:FnG Tryz.prog 93:=mkG 63 [(6,some (some 7))] A1 Tryz.func93 rfl
noncomputable def G0q:FnG Tryz.prog 94:=mkG 26 [(4,some (some 11))] A1 Tryz.func94 rfl
noncomputable def F9o:FnG Tryz.prog 95:=mkG 9 [(3,some (some 20))] A1 Tryz.func95 rfl
noncomputable def G0z:FnG Tryz.prog 96:=mkG 69 [(4,some (some 20))] A1 Tryz.func96 rfl
noncomputable def F8x:FnG Tryz.prog 97:=mkG Tryz.f97.ntmps [(6,none),(7,none)] A1 Tryz.func97 rfl
noncomputable def F83:FnG Tryz.prog 98:=mkG 119 [(4,some (some 11)),(5,none)] A1 Tryz.func98 rfl
noncomputable def F9n:FnG Tryz.prog 99:=mkG 13 [(2,some (some 11)),(3,none)] A1 Tryz.func99 rfl
noncomputable def F09:FnG Tryz.prog 100:=mkG 7 [(2,some (some 20))] A1 Tryz.func100 rfl
noncomputable def F5m:FnG Tryz.prog 101:=mkG Tryz.f101.ntmps [(2,none)] A1 Tryz.func101 rfl
noncomputable def E8q:FnG Tryz.prog 102:=mkG Tryz.f102.ntmps [(2,none)] A1 Tryz.func102 rfl
noncomputable def E7h:FnG Tryz.prog 103:=mkG Tryz.f103.ntmps [(4,none)] A1 Tryz.func103 rfl
noncomputable def E81:FnG Tryz.prog 112:=mkG Tryz.f112.ntmps [(2,none)] A1 Tryz.func112 rfl
noncomputable def F7a:FnG Tryz.prog 113:=mkG Tryz.f113.ntmps [(2,none)] A1 Tryz.func113 rfl
noncomputable def F6j:FnG Tryz.prog 114:=mkG Tryz.f114.ntmps [(4,none)] A1 Tryz.func114 rfl
noncomputable def F5k:FnG Tryz.prog 115:=mkG Tryz.f115.ntmps [(4,none)] A1 Tryz.func115 rfl
noncomputable def F2h:FnG Tryz.prog 116:=mkG Tryz.f116.ntmps [(2,none)] A1 Tryz.func116 rfl
noncomputable def E70:FnG Tryz.prog 117:=mkG Tryz.f117.ntmps [(2,none)] A1 Tryz.func117 rfl
noncomputable def E8z:FnG Tryz.prog 118:=mkG Tryz.f118.ntmps [(4,none)] A1 Tryz.func118 rfl
noncomputable def E71:FnG Tryz.prog 119:=mkG Tryz.f119.ntmps [(2,none)] A1 Tryz.func119 rfl
noncomputable def E8c:FnG Tryz.prog 120:=mkG Tryz.f120.ntmps [(3,none)] A1 Tryz.func120 rfl
noncomputable def F6z:FnG Tryz.prog 121:=mkG Tryz.f121.ntmps [(4,none)] A1 Tryz.func121 rfl
noncomputable def F39:FnG Tryz.prog 122:=mkG 8 [(2,some (some 3))] A1 Tryz.func122 rfl
noncomputable def F03:FnG Tryz.prog 123:=mkG Tryz.f123.ntmps [(2,none)] A1 Tryz.func123 rfl
noncomputable def F58:FnG Tryz.prog 124:=mkG Tryz.f124.ntmps [] A1 Tryz.func124 rfl
noncomputable def F05:FnG Tryz.prog 125:=mkG Tryz.f125.ntmps [] A1 Tryz.func125 rfl
noncomputable def F6c:FnG Tryz.prog 126:=mkG 62 [(8,none),(9,some (some 2)),(10,none)] A1 Tryz.func126 rfl
noncomputable def F0p:FnG Tryz.prog 127:=mkG 20 [(6,some (some 2))] A1 Tryz.func127 rfl
noncomputable def F6s:FnG Tryz.prog 128:=mkG Tryz.f128.ntmps [] A1 Tryz.func128 rfl
noncomputable def F0n:FnG Tryz.prog 129:=mkG Tryz.f129.ntmps [(4,none)] A1 Tryz.func129 rfl
noncomputable def F5f:FnG Tryz.prog 130:=mkG Tryz.f130.ntmps [] A1 Tryz.func130 rfl
noncomputable def F01:FnG Tryz.prog 131:=mkG Tryz.f131.ntmps [] A1 Tryz.func131 rfl
noncomputable def F71:FnG Tryz.prog 132:=mkG Tryz.f132.ntmps [(2,none)] A1 Tryz.func132 rfl
noncomputable def E75:FnG Tryz.prog 133:=mkG Tryz.f133.ntmps [(4,none)] A1 Tryz.func133 rfl
noncomputable def F5y:FnG Tryz.prog 134:=mkG Tryz.f134.ntmps [(2,none)] A1 Tryz.func134 rfl
noncomputable def F2c:FnG Tryz.prog 135:=mkG 16 [(4,some (some 2))] A1 Tryz.func135 rfl
noncomputable def F7h:FnG Tryz.prog 136:=mkG Tryz.f136.ntmps [(8,none)] A1 Tryz.func136 rfl
noncomputable def E8b:FnG Tryz.prog 137:=mkG Tryz.f137.ntmps [(6,none)] A1 Tryz.func137 rfl
noncomputable def F1v:FnG Tryz.prog 138:=mkG Tryz.f138.ntmps [(2,none)] A1 Tryz.func138 rfl
noncomputable def F7z:FnG Tryz.prog 139:=mkG Tryz.f139.ntmps [(4,none)] A1 Tryz.func139 rfl
noncomputable def F47:FnG Tryz.prog 140:=mkG 40 [(2,some (some 4)),(3,none)] A1 Tryz.func140 rfl
noncomputable def E9j:FnG Tryz.prog 141:=mkG 16 [(4,some (some 2))] A1 Tryz.func141 rfl
noncomputable def F14:FnG Tryz.prog 143:=mkG Tryz.f143.ntmps [(2,none)] A1 Tryz.func143 rfl
noncomputable def E86:FnG Tryz.prog 144:=mkG Tryz.f144.ntmps [(4,none)] A1 Tryz.func144 rfl
noncomputable def E9b:FnG Tryz.prog 145:=mkG 11 [(2,some (some 24))] A1 Tryz.func145 rfl
noncomputable def F0q:FnG Tryz.prog 146:=mkG 20 [(4,some (some 11))] A1 Tryz.func146 rfl
noncomputable def F0s:FnG Tryz.prog 147:=mkG Tryz.f147.ntmps [(3,none)] A1 Tryz.func147 rfl
noncomputable def F2m:FnG Tryz.prog 148:=mkG Tryz.f148.ntmps [(4,none)] A1 Tryz.func148 rfl
noncomputable def E8l:FnG Tryz.prog 149:=mkG Tryz.f149.ntmps [(6,none)] A1 Tryz.func149 rfl
noncomputable def F3g:FnG Tryz.prog 150:=mkG Tryz.f150.ntmps [(6,none)] A1 Tryz.func150 rfl
noncomputable def E7s:FnG Tryz.prog 151:=mkG Tryz.f151.ntmps [(4,none)] A1 Tryz.func151 rfl
noncomputable def F4z:FnG Tryz.prog 152:=mkG Tryz.f152.ntmps [(3,none)] A1 Tryz.func152 rfl
noncomputable def F19:FnG Tryz.prog 153:=mkG Tryz.f153.ntmps [(4,none)] A1 Tryz.func153 rfl
noncomputable def F4w:FnG Tryz.prog 154:=mkG Tryz.f154.ntmps [(3,none)] A1 Tryz.func154 rfl
noncomputable def F2o:FnG Tryz.prog 155:=mkG Tryz.f155.ntmps [(4,none)] A1 Tryz.func155 rfl
noncomputable def F4f:FnG Tryz.prog 156:=mkG Tryz.f156.ntmps [(4,none)] A1 Tryz.func156 rfl
noncomputable def E9u:FnG Tryz.prog 157:=mkG Tryz.f157.ntmps [(6,none)] A1 Tryz.func157 rfl
noncomputable def F7c:FnG Tryz.prog 158:=mkG 33 [(4,some (some 11))] A1 Tryz.func158 rfl
noncomputable def F1p:FnG Tryz.prog 159:=mkG Tryz.f159.ntmps [(4,none)] A1 Tryz.func159 rfl
noncomputable def F10:FnG Tryz.prog 160:=mkG 48 [(4,some (some 20))] A1 Tryz.func160 rfl
noncomputable def E8w:FnG Tryz.prog 162:=mkG Tryz.f162.ntmps [(2,none)] A1 Tryz.func162 rfl
noncomputable def F4u:FnG Tryz.prog 163:=mkG Tryz.f163.ntmps [(4,none)] A1 Tryz.func163 rfl
noncomputable def E9n:FnG Tryz.prog 164:=mkG 47 [(6,some (some 10)),(7,some (some 3)),(8,none)] A1 Tryz.func164 rfl
noncomputable def E7v:FnG Tryz.prog 165:=mkG 67 [(8,some (some 3)),(9,none)] A1 Tryz.func165 rfl
noncomputable def F8k:FnG Tryz.prog 166:=mkG 63 [(4,some (some 3))] A1 Tryz.func166 rfl
noncomputable def F6n:FnG Tryz.prog 167:=mkG Tryz.f167.ntmps [(6,none)] A1 Tryz.func167 rfl
noncomputable def F43:FnG Tryz.prog 168:=mkG Tryz.f168.ntmps [(2,none)] A1 Tryz.func168 rfl
noncomputable def F3m:FnG Tryz.prog 169:=mkG Tryz.f169.ntmps [(4,none)] A1 Tryz.func169 rfl
noncomputable def E7n:FnG Tryz.prog 170:=mkG Tryz.f170.ntmps [(10,none),(11,none)] A1 Tryz.func170 rfl
noncomputable def F7d:FnG Tryz.prog 171:=mkG Tryz.f171.ntmps [(4,none)] A1 Tryz.func171 rfl
noncomputable def E84:FnG Tryz.prog 172:=mkG Tryz.f172.ntmps [(2,none)] A1 Tryz.func172 rfl
noncomputable def F8i:FnG Tryz.prog 173:=mkG Tryz.f173.ntmps [(4,none)] A1 Tryz.func173 rfl
noncomputable def F3q:FnG Tryz.prog 174:=mkG Tryz.f174.ntmps [(4,none)] A1 Tryz.func174 rfl
noncomputable def E7z:FnG Tryz.prog 175:=mkG 73 [(4,some (some 20))] A1 Tryz.func175 rfl
noncomputable def F68:FnG Tryz.prog 176:=mkG 22 [(2,some (some 5))] A1 Tryz.func176 rfl
noncomputable def F3d:FnG Tryz.prog 177:=mkG Tryz.f177.ntmps [] A1 Tryz.func177 rfl
noncomputable def F27:FnG Tryz.prog 178:=mkG Tryz.f178.ntmps [(14,none)] A1 Tryz.func178 rfl
noncomputable def F6l:FnG Tryz.prog 179:=mkG Tryz.f179.ntmps [(16,none)] A1 Tryz.func179 rfl
noncomputable def E9z:FnG Tryz.prog 180:=mkG Tryz.f180.ntmps [(2,none)] A1 Tryz.func180 rfl
noncomputable def E7p:FnG Tryz.prog 181:=mkG Tryz.f181.ntmps [(4,none)] A1 Tryz.func181 rfl
noncomputable def F5j:FnG Tryz.prog 182:=mkG Tryz.f182.ntmps [(6,none)] A1 Tryz.func182 rfl
noncomputable def E7x:FnG Tryz.prog 183:=mkG Tryz.f183.ntmps [(4,none),(5,none)] A1 Tryz.func183 rfl
noncomputable def E82:FnG Tryz.prog 184:=mkG Tryz.f184.ntmps [(4,none)] A1 Tryz.func184 rfl
noncomputable def F69:FnG Tryz.prog 185:=mkG Tryz.f185.ntmps [(2,none)] A1 Tryz.func185 rfl
noncomputable def F0x:FnG Tryz.prog 186:=mkG Tryz.f186.ntmps [(4,none)] A1 Tryz.func186 rfl
noncomputable def F6q:FnG Tryz.prog 187:=mkG Tryz.f187.ntmps [(4,none)] A1 Tryz.func187 rfl
noncomputable def F40:FnG Tryz.prog 188:=mkG Tryz.f188.ntmps [(6,none)] A1 Tryz.func188 rfl
noncomputable def F3z:FnG Tryz.prog 189:=mkG Tryz.f189.ntmps [(6,none)] A1 Tryz.func189 rfl
noncomputable def E7w:FnG Tryz.prog 190:=mkG 6 [(2,some (some 4))] A1 Tryz.func190 rfl
noncomputable def F59:FnG Tryz.prog 191:=mkG 34 [(10,some (some 3))] A1 Tryz.func191 rfl
noncomputable def E94:FnG Tryz.prog 192:=mkG Tryz.f192.ntmps [(4,none),(5,none)] A1 Tryz.func192 rfl
noncomputable def F28:FnG Tryz.prog 193:=mkG 48 [(8,some (some 20)),(9,none)] A1 Tryz.func193 rfl
noncomputable def E7m:FnG Tryz.prog 194:=mkG 12 [(2,some (some 20))] A1 Tryz.func194 rfl
noncomputable def F6f:FnG Tryz.prog 195:=mkG Tryz.f195.ntmps [(4,none)] A1 Tryz.func195 rfl
noncomputable def F2w:FnG Tryz.prog 196:=mkG Tryz.f196.ntmps [(4,none)] A1 Tryz.func196 rfl
noncomputable def E7f:FnG Tryz.prog 197:=mkG Tryz.f197.ntmps [(2,none)] A1 Tryz.func197 rfl
noncomputable def F7s:FnG Tryz.prog 198:=mkG Tryz.f198.ntmps [(4,none)] A1 Tryz.func198 rfl
noncomputable def F1o:FnG Tryz.prog 199:=mkG Tryz.f199.ntmps [(4,none)] A1 Tryz.func199 rfl
noncomputable def E9q:FnG Tryz.prog 200:=mkG 45 [(4,some (some 10)),(5,some (some 10)),(6,none)] A1 Tryz.func200 rfl
noncomputable def F7e:FnG Tryz.prog 201:=mkG Tryz.f201.ntmps [(8,none)] A1 Tryz.func201 rfl
noncomputable def F0r:FnG Tryz.prog 202:=mkG 13 [(4,some (some 3))] A1 Tryz.func202 rfl
noncomputable def E73:FnG Tryz.prog 203:=mkG Tryz.f203.ntmps [(4,none)] A1 Tryz.func203 rfl
noncomputable def E9e:FnG Tryz.prog 204:=mkG Tryz.f204.ntmps [(6,none)] A1 Tryz.func204 rfl
noncomputable def F3s:FnG Tryz.prog 205:=mkG Tryz.f205.ntmps [(2,none)] A1 Tryz.func205 rfl
noncomputable def F24:FnG Tryz.prog 213:=mkG Tryz.f213.ntmps [(2,none)] A1 Tryz.func213 rfl
noncomputable def F4m:FnG Tryz.prog 214:=mkG Tryz.f214.ntmps [(2,none)] A1 Tryz.func214 rfl
noncomputable def E9m:FnG Tryz.prog 215:=mkG Tryz.f215.ntmps [(2,none)] A1 Tryz.func215 rfl
noncomputable def F6i:FnG Tryz.prog 216:=mkG Tryz.f216.ntmps [(2,none)] A1 Tryz.func216 rfl
noncomputable def F4r:FnG Tryz.prog 217:=mkG Tryz.f217.ntmps [(2,none)] A1 Tryz.func217 rfl
noncomputable def F2b:FnG Tryz.prog 218:=mkG Tryz.f218.ntmps [(2,none)] A1 Tryz.func218 rfl
noncomputable def E8h:FnG Tryz.prog 219:=mkG Tryz.f219.ntmps [(4,none)] A1 Tryz.func219 rfl
noncomputable def F3p:FnG Tryz.prog 220:=mkG Tryz.f220.ntmps [(3,none)] A1 Tryz.func220 rfl
noncomputable def F5h:FnG Tryz.prog 221:=mkG Tryz.f221.ntmps [(2,none)] A1 Tryz.func221 rfl
noncomputable def F1x:FnG Tryz.prog 222:=mkG Tryz.f222.ntmps [(4,none)] A1 Tryz.func222 rfl
noncomputable def F3h:FnG Tryz.prog 223:=mkG Tryz.f223.ntmps [(2,none)] A1 Tryz.func223 rfl
noncomputable def F0w:FnG Tryz.prog 224:=mkG Tryz.f224.ntmps [(2,none)] A1 Tryz.func224 rfl
noncomputable def F0b:FnG Tryz.prog 225:=mkG Tryz.f225.ntmps [(4,none)] A1 Tryz.func225 rfl
noncomputable def F7v:FnG Tryz.prog 226:=mkG Tryz.f226.ntmps [(4,none)] A1 Tryz.func226 rfl
noncomputable def F7l:FnG Tryz.prog 227:=mkG Tryz.f227.ntmps [(4,none)] A1 Tryz.func227 rfl
noncomputable def F33:FnG Tryz.prog 228:=mkG Tryz.f228.ntmps [(2,none)] A1 Tryz.func228 rfl
noncomputable def F76:FnG Tryz.prog 229:=mkG Tryz.f229.ntmps [(4,none)] A1 Tryz.func229 rfl
noncomputable def F25:FnG Tryz.prog 230:=mkG 85 [(8,none),(9,some (some 2)),(10,none)] A1 Tryz.func230 rfl
noncomputable def F7g:FnG Tryz.prog 231:=mkG 99 [(10,none),(11,some (some 2)),(12,none)] A1 Tryz.func231 rfl
noncomputable def E7g:FnG Tryz.prog 232:=mkG 114 [(6,none),(7,some (some 2)),(8,none)] A1 Tryz.func232 rfl
noncomputable def F6t:FnG Tryz.prog 233:=mkG Tryz.f233.ntmps [(6,none)] A1 Tryz.func233 rfl
noncomputable def F06:FnG Tryz.prog 234:=mkG Tryz.f234.ntmps [] A1 Tryz.func234 rfl
noncomputable def F8b:FnG Tryz.prog 235:=mkG Tryz.f235.ntmps [(2,none)] A1 Tryz.func235 rfl
noncomputable def F0a:FnG Tryz.prog 236:=mkG Tryz.f236.ntmps [(2,none)] A1 Tryz.func236 rfl
noncomputable def F15:FnG Tryz.prog 237:=mkG Tryz.f237.ntmps [(4,none)] A1 Tryz.func237 rfl
noncomputable def F7p:FnG Tryz.prog 238:=mkG Tryz.f238.ntmps [] A1 Tryz.func238 rfl
noncomputable def F7i:FnG Tryz.prog 239:=mkG Tryz.f239.ntmps [(2,none)] A1 Tryz.func239 rfl
noncomputable def F5n:FnG Tryz.prog 240:=mkG 13 [(4,some (some 2))] A1 Tryz.func240 rfl
noncomputable def F5g:FnG Tryz.prog 241:=mkG Tryz.f241.ntmps [(2,none)] A1 Tryz.func241 rfl
noncomputable def E9w:FnG Tryz.prog 242:=mkG Tryz.f242.ntmps [(4,none)] A1 Tryz.func242 rfl
noncomputable def F52:FnG Tryz.prog 243:=mkG Tryz.f243.ntmps [(4,none)] A1 Tryz.func243 rfl
noncomputable def F1u:FnG Tryz.prog 244:=mkG Tryz.f244.ntmps [(8,none)] A1 Tryz.func244 rfl
noncomputable def E90:FnG Tryz.prog 245:=mkG Tryz.f245.ntmps [(2,none)] A1 Tryz.func245 rfl
noncomputable def F5i:FnG Tryz.prog 246:=mkG 118 [(8,some (some 2)),(9,some (some 2))] A1 Tryz.func246 rfl
noncomputable def F5u:FnG Tryz.prog 247:=mkG 10 [(2,some (some 2))] A1 Tryz.func247 rfl
noncomputable def F4k:FnG Tryz.prog 248:=mkG Tryz.f248.ntmps [(2,none)] A1 Tryz.func248 rfl
noncomputable def F5c:FnG Tryz.prog 249:=mkG 10 [(2,some (some 2))] A1 Tryz.func249 rfl
noncomputable def F0u:FnG Tryz.prog 250:=mkG 16 [(4,some (some 2))] A1 Tryz.func250 rfl
noncomputable def E7u:FnG Tryz.prog 251:=mkG 16 [(4,some (some 2))] A1 Tryz.func251 rfl
noncomputable def F4b:FnG Tryz.prog 252:=mkG Tryz.f252.ntmps [(4,none)] A1 Tryz.func252 rfl
noncomputable def F5w:FnG Tryz.prog 253:=mkG Tryz.f253.ntmps [(4,none)] A1 Tryz.func253 rfl
noncomputable def F5x:FnG Tryz.prog 254:=mkG Tryz.f254.ntmps [(4,none)] A1 Tryz.func254 rfl
noncomputable def F1m:FnG Tryz.prog 255:=mkG Tryz.f255.ntmps [(4,none)] A1 Tryz.func255 rfl
noncomputable def F6p:FnG Tryz.prog 256:=mkG Tryz.f256.ntmps [(3,none)] A1 Tryz.func256 rfl
noncomputable def F35:FnG Tryz.prog 257:=mkG Tryz.f257.ntmps [(2,none)] A1 Tryz.func257 rfl
noncomputable def F3j:FnG Tryz.prog 258:=mkG 39 [(6,some (some 20))] A1 Tryz.func258 rfl
noncomputable def F3i:FnG Tryz.prog 259:=mkG 9 [(2,some (some 2))] A1 Tryz.func259 rfl
noncomputable def F6y:FnG Tryz.prog 260:=mkG 20 [(4,some (some 20))] A1 Tryz.func260 rfl
noncomputable def F1a:FnG Tryz.prog 262:=mkG 58 [(4,some (some 4))] A1 Tryz.func262 rfl
noncomputable def F3r:FnG Tryz.prog 264:=mkG Tryz.f264.ntmps [(6,none)] A1 Tryz.func264 rfl
noncomputable def F7x:FnG Tryz.prog 265:=mkG 40 [(6,some (some 4))] A1 Tryz.func265 rfl
noncomputable def F51:FnG Tryz.prog 266:=mkG Tryz.f266.ntmps [] A1 Tryz.func266 rfl
noncomputable def F29:FnG Tryz.prog 267:=mkG Tryz.f267.ntmps [(4,none)] A1 Tryz.func267 rfl
noncomputable def E7j:FnG Tryz.prog 268:=mkG 13 [(4,some (some 3))] A1 Tryz.func268 rfl
noncomputable def F5t:FnG Tryz.prog 269:=mkG 74 [(4,some (some 3)),(5,none)] A1 Tryz.func269 rfl
noncomputable def F4g:FnG Tryz.prog 270:=mkG 63 [(4,some (some 3)),(5,none)] A1 Tryz.func270 rfl
noncomputable def F0y:FnG Tryz.prog 271:=mkG 11 [(4,some (some 3)),(5,none)] A1 Tryz.func271 rfl
noncomputable def F3t:FnG Tryz.prog 272:=mkG 78 [(4,some (some 3)),(5,none)] A1 Tryz.func272 rfl
noncomputable def F26:FnG Tryz.prog 273:=mkG Tryz.f273.ntmps [(4,none)] A1 Tryz.func273 rfl
noncomputable def E8e:FnG Tryz.prog 274:=mkG Tryz.f274.ntmps [(4,none)] A1 Tryz.func274 rfl
noncomputable def E9k:FnG Tryz.prog 275:=mkG Tryz.f275.ntmps [(3,none)] A1 Tryz.func275 rfl
noncomputable def E9s:FnG Tryz.prog 276:=mkG Tryz.f276.ntmps [] A1 Tryz.func276 rfl
noncomputable def F1b:FnG Tryz.prog 277:=mkG Tryz.f277.ntmps [(4,none),(5,none)] A1 Tryz.func277 rfl
noncomputable def F2z:FnG Tryz.prog 278:=mkG Tryz.f278.ntmps [(4,none)] A1 Tryz.func278 rfl
noncomputable def F67:FnG Tryz.prog 279:=mkG Tryz.f279.ntmps [(4,none)] A1 Tryz.func279 rfl
noncomputable def E97:FnG Tryz.prog 280:=mkG Tryz.f280.ntmps [] A1 Tryz.func280 rfl
noncomputable def F1i:FnG Tryz.prog 281:=mkG Tryz.f281.ntmps [] A1 Tryz.func281 rfl
noncomputable def F1s:FnG Tryz.prog 282:=mkG 14 [(4,some (some 2))] A1 Tryz.func282 rfl
noncomputable def F2f:FnG Tryz.prog 283:=mkG Tryz.f283.ntmps [(4,none)] A1 Tryz.func283 rfl
noncomputable def E85:FnG Tryz.prog 284:=mkG Tryz.f284.ntmps [(6,none),(7,none)] A1 Tryz.func284 rfl
noncomputable def F8j:FnG Tryz.prog 285:=mkG Tryz.f285.ntmps [(14,none)] A1 Tryz.func285 rfl
noncomputable def F4d:FnG Tryz.prog 286:=mkG Tryz.f286.ntmps [(14,none)] A1 Tryz.func286 rfl
noncomputable def F6m:FnG Tryz.prog 287:=mkG Tryz.f287.ntmps [(14,none)] A1 Tryz.func287 rfl
noncomputable def F41:FnG Tryz.prog 288:=mkG Tryz.f288.ntmps [(14,none)] A1 Tryz.func288 rfl
noncomputable def F0h:FnG Tryz.prog 289:=mkG Tryz.f289.ntmps [(10,none)] A1 Tryz.func289 rfl
noncomputable def F6h:FnG Tryz.prog 290:=mkG 21 [(4,some (some 10)),(5,none)] A1 Tryz.func290 rfl
noncomputable def F7t:FnG Tryz.prog 291:=mkG Tryz.f291.ntmps [(4,none)] A1 Tryz.func291 rfl
noncomputable def F4e:FnG Tryz.prog 292:=mkG Tryz.f292.ntmps [(4,none)] A1 Tryz.func292 rfl
noncomputable def F0t:FnG Tryz.prog 293:=mkG 11 [(2,some (some 2))] A1 Tryz.func293 rfl
noncomputable def E8f:FnG Tryz.prog 294:=mkG 32 [(6,some (some 14))] A1 Tryz.func294 rfl
noncomputable def F7q:FnG Tryz.prog 295:=mkG Tryz.f295.ntmps [(10,none)] A1 Tryz.func295 rfl
noncomputable def E95:FnG Tryz.prog 296:=mkG Tryz.f296.ntmps [(2,none)] A1 Tryz.func296 rfl
noncomputable def F2x:FnG Tryz.prog 297:=mkG Tryz.f297.ntmps [(4,none),(5,none)] A1 Tryz.func297 rfl
noncomputable def E8k:FnG Tryz.prog 298:=mkG Tryz.f298.ntmps [(2,none)] A1 Tryz.func298 rfl
noncomputable def E7q:FnG Tryz.prog 299:=mkG Tryz.f299.ntmps [(6,none)] A1 Tryz.func299 rfl
noncomputable def F02:FnG Tryz.prog 300:=mkG Tryz.f300.ntmps [(6,none),(7,none)] A1 Tryz.func300 rfl
noncomputable def F1e:FnG Tryz.prog 301:=mkG Tryz.f301.ntmps [(2,none)] A1 Tryz.func301 rfl
noncomputable def F18:FnG Tryz.prog 302:=mkG 30 [(2,some (some 4))] A1 Tryz.func302 rfl
noncomputable def E8i:FnG Tryz.prog 303:=mkG Tryz.f303.ntmps [(4,none)] A1 Tryz.func303 rfl
noncomputable def F6w:FnG Tryz.prog 304:=mkG 36 [(4,some (some 2))] A1 Tryz.func304 rfl
noncomputable def F0c:FnG Tryz.prog 305:=mkG 25 [(2,some (some 2))] A1 Tryz.func305 rfl
noncomputable def F2j:FnG Tryz.prog 306:=mkG Tryz.f306.ntmps [(8,none),(9,none)] A1 Tryz.func306 rfl
noncomputable def F70:FnG Tryz.prog 307:=mkG 26 [(6,some (some 3))] A1 Tryz.func307 rfl
noncomputable def E98:FnG Tryz.prog 308:=mkG Tryz.f308.ntmps [(2,none)] A1 Tryz.func308 rfl
noncomputable def F17:FnG Tryz.prog 309:=mkG Tryz.f309.ntmps [(4,none)] A1 Tryz.func309 rfl
noncomputable def F4v:FnG Tryz.prog 310:=mkG Tryz.f310.ntmps [(4,none)] A1 Tryz.func310 rfl
noncomputable def E7k:FnG Tryz.prog 311:=mkG Tryz.f311.ntmps [(3,none)] A1 Tryz.func311 rfl
noncomputable def F4y:FnG Tryz.prog 312:=mkG Tryz.f312.ntmps [(4,none)] A1 Tryz.func312 rfl
noncomputable def F4t:FnG Tryz.prog 313:=mkG Tryz.f313.ntmps [(3,none)] A1 Tryz.func313 rfl
noncomputable def F1f:FnG Tryz.prog 314:=mkG Tryz.f314.ntmps [(2,none)] A1 Tryz.func314 rfl
noncomputable def F5a:FnG Tryz.prog 315:=mkG 10 [(2,some (some 10))] A1 Tryz.func315 rfl
noncomputable def F5o:FnG Tryz.prog 316:=mkG Tryz.f316.ntmps [(2,none)] A1 Tryz.func316 rfl
noncomputable def F7j:FnG Tryz.prog 317:=mkG Tryz.f317.ntmps [(8,none)] A1 Tryz.func317 rfl
noncomputable def F4i:FnG Tryz.prog 327:=mkG Tryz.f327.ntmps [(4,none)] A1 Tryz.func327 rfl
noncomputable def E8n:FnG Tryz.prog 328:=mkG Tryz.f328.ntmps [(6,none)] A1 Tryz.func328 rfl
noncomputable def F3f:FnG Tryz.prog 329:=mkG Tryz.f329.ntmps [(2,none)] A1 Tryz.func329 rfl
noncomputable def F2l:FnG Tryz.prog 330:=mkG Tryz.f330.ntmps [(2,none),(3,none)] A1 Tryz.func330 rfl
noncomputable def F23:FnG Tryz.prog 331:=mkG Tryz.f331.ntmps [(6,none)] A1 Tryz.func331 rfl
noncomputable def E9f:FnG Tryz.prog 332:=mkG Tryz.f332.ntmps [(4,none)] A1 Tryz.func332 rfl
noncomputable def F0j:FnG Tryz.prog 333:=mkG Tryz.f333.ntmps [(2,none)] A1 Tryz.func333 rfl
noncomputable def F65:FnG Tryz.prog 334:=mkG 10 [(2,some (some 2))] A1 Tryz.func334 rfl
noncomputable def F7f:FnG Tryz.prog 335:=mkG 18 [(2,some (some 2))] A1 Tryz.func335 rfl
noncomputable def F3o:FnG Tryz.prog 336:=mkG Tryz.f336.ntmps [(4,none)] A1 Tryz.func336 rfl
noncomputable def E9x:FnG Tryz.prog 337:=mkG Tryz.f337.ntmps [(4,none)] A1 Tryz.func337 rfl
noncomputable def F60:FnG Tryz.prog 338:=mkG 23 [(4,some (some 2))] A1 Tryz.func338 rfl
noncomputable def F5d:FnG Tryz.prog 339:=mkG Tryz.f339.ntmps [(4,none)] A1 Tryz.func339 rfl
noncomputable def E93:FnG Tryz.prog 340:=mkG Tryz.f340.ntmps [] A1 Tryz.func340 rfl
noncomputable def E88:FnG Tryz.prog 341:=mkG Tryz.f341.ntmps [] A1 Tryz.func341 rfl
noncomputable def F6b:FnG Tryz.prog 342:=mkG Tryz.f342.ntmps [] A1 Tryz.func342 rfl
noncomputable def F2p:FnG Tryz.prog 343:=mkG Tryz.f343.ntmps [(8,none),(9,none)] A1 Tryz.func343 rfl
noncomputable def F62:FnG Tryz.prog 344:=mkG Tryz.f344.ntmps [] A1 Tryz.func344 rfl
noncomputable def E80:FnG Tryz.prog 345:=mkG Tryz.f345.ntmps [(8,none)] A1 Tryz.func345 rfl
noncomputable def E9g:FnG Tryz.prog 346:=mkG Tryz.f346.ntmps [(10,none)] A1 Tryz.func346 rfl
noncomputable def F8l:FnG Tryz.prog 347:=mkG Tryz.f347.ntmps [(10,none),(11,none)] A1 Tryz.func347 rfl
noncomputable def F0o:FnG Tryz.prog 348:=mkG Tryz.f348.ntmps [(2,none)] A1 Tryz.func348 rfl
noncomputable def F5q:FnG Tryz.prog 349:=mkG Tryz.f349.ntmps [(2,none)] A1 Tryz.func349 rfl
noncomputable def E8a:FnG Tryz.prog 350:=mkG Tryz.f350.ntmps [] A1 Tryz.func350 rfl
noncomputable def F1w:FnG Tryz.prog 351:=mkG Tryz.f351.ntmps [] A1 Tryz.func351 rfl
noncomputable def E8o:FnG Tryz.prog 352:=mkG Tryz.f352.ntmps [] A1 Tryz.func352 rfl
noncomputable def F4a:FnG Tryz.prog 353:=mkG Tryz.f353.ntmps [(6,none),(7,none)] A1 Tryz.func353 rfl
noncomputable def F1j:FnG Tryz.prog 354:=mkG Tryz.f354.ntmps [] A1 Tryz.func354 rfl
noncomputable def F7n:FnG Tryz.prog 355:=mkG Tryz.f355.ntmps [(6,none)] A1 Tryz.func355 rfl
noncomputable def E8s:FnG Tryz.prog 356:=mkG Tryz.f356.ntmps [(8,none)] A1 Tryz.func356 rfl
noncomputable def F1g:FnG Tryz.prog 357:=mkG Tryz.f357.ntmps [(8,none),(9,none)] A1 Tryz.func357 rfl
noncomputable def F2a:FnG Tryz.prog 358:=mkG Tryz.f358.ntmps [(2,none)] A1 Tryz.func358 rfl
noncomputable def F6e:FnG Tryz.prog 359:=mkG Tryz.f359.ntmps [(4,none)] A1 Tryz.func359 rfl
noncomputable def F5r:FnG Tryz.prog 360:=mkG Tryz.f360.ntmps [(2,none)] A1 Tryz.func360 rfl
noncomputable def F4c:FnG Tryz.prog 361:=mkG Tryz.f361.ntmps [(2,none)] A1 Tryz.func361 rfl
noncomputable def E91:FnG Tryz.prog 362:=mkG Tryz.f362.ntmps [(2,none)] A1 Tryz.func362 rfl
noncomputable def E8y:FnG Tryz.prog 363:=mkG Tryz.f363.ntmps [(2,none)] A1 Tryz.func363 rfl
noncomputable def E96:FnG Tryz.prog 364:=mkG Tryz.f364.ntmps [(2,none)] A1 Tryz.func364 rfl
noncomputable def F2u:FnG Tryz.prog 365:=mkG 10 [(2,some (some 2))] A1 Tryz.func365 rfl
noncomputable def E89:FnG Tryz.prog 366:=mkG Tryz.f366.ntmps [(6,none)] A1 Tryz.func366 rfl
noncomputable def F2i:FnG Tryz.prog 367:=mkG 56 [(6,some (some 2)),(7,none)] A1 Tryz.func367 rfl
noncomputable def F34:FnG Tryz.prog 368:=mkG Tryz.f368.ntmps [(4,none)] A1 Tryz.func368 rfl
noncomputable def E9o:FnG Tryz.prog 369:=mkG Tryz.f369.ntmps [(2,none)] A1 Tryz.func369 rfl
noncomputable def F5v:FnG Tryz.prog 370:=mkG 8 [(2,some (some 20))] A1 Tryz.func370 rfl
noncomputable def F1q:FnG Tryz.prog 371:=mkG 19 [(4,some (some 6))] A1 Tryz.func371 rfl
noncomputable def E9d:FnG Tryz.prog 372:=mkG Tryz.f372.ntmps [(2,none)] A1 Tryz.func372 rfl
noncomputable def F0m:FnG Tryz.prog 373:=mkG Tryz.f373.ntmps [(2,none)] A1 Tryz.func373 rfl
noncomputable def E7i:FnG Tryz.prog 374:=mkG Tryz.f374.ntmps [] A1 Tryz.func374 rfl
noncomputable def F3l:FnG Tryz.prog 375:=mkG Tryz.f375.ntmps [(4,none)] A1 Tryz.func375 rfl
noncomputable def E9r:FnG Tryz.prog 376:=mkG Tryz.f376.ntmps [(4,none)] A1 Tryz.func376 rfl
noncomputable def E9h:FnG Tryz.prog 377:=mkG Tryz.f377.ntmps [(6,none)] A1 Tryz.func377 rfl
noncomputable def F2k:FnG Tryz.prog 378:=mkG Tryz.f378.ntmps [] A1 Tryz.func378 rfl
noncomputable def F61:FnG Tryz.prog 379:=mkG 15 [(4,some (some 2)),(5,none)] A1 Tryz.func379 rfl
noncomputable def F30:FnG Tryz.prog 380:=mkG Tryz.f380.ntmps [(2,none),(3,none)] A1 Tryz.func380 rfl
noncomputable def F8d:FnG Tryz.prog 381:=mkG Tryz.f381.ntmps [(2,none)] A1 Tryz.func381 rfl
noncomputable def F7m:FnG Tryz.prog 382:=mkG 14 [(2,some (some 3)),(3,none)] A1 Tryz.func382 rfl
noncomputable def F2e:FnG Tryz.prog 383:=mkG Tryz.f383.ntmps [(4,none),(5,none)] A1 Tryz.func383 rfl
noncomputable def E7r:FnG Tryz.prog 384:=mkG 53 [(4,some (some 2))] A1 Tryz.func384 rfl
noncomputable def F2y:FnG Tryz.prog 385:=mkG 16 [(2,some (some 3))] A1 Tryz.func385 rfl
noncomputable def F8a:FnG Tryz.prog 386:=mkG 80 [(6,some (some 3)),(7,none)] A1 Tryz.func386 rfl
noncomputable def F36:FnG Tryz.prog 387:=mkG Tryz.f387.ntmps [(2,none)] A1 Tryz.func387 rfl
noncomputable def F42:FnG Tryz.prog 388:=mkG Tryz.f388.ntmps [(4,none)] A1 Tryz.func388 rfl
noncomputable def F1d:FnG Tryz.prog 389:=mkG Tryz.f389.ntmps [(4,none)] A1 Tryz.func389 rfl
noncomputable def F46:FnG Tryz.prog 390:=mkG Tryz.f390.ntmps [(6,none)] A1 Tryz.func390 rfl
noncomputable def E8d:FnG Tryz.prog 391:=mkG 19 [(6,some (some 2))] A1 Tryz.func391 rfl
noncomputable def E76:FnG Tryz.prog 392:=mkG 50 [(14,some (some 14))] A1 Tryz.func392 rfl
noncomputable def E72:FnG Tryz.prog 393:=mkG Tryz.f393.ntmps [(4,none)] A1 Tryz.func393 rfl
noncomputable def E7y:FnG Tryz.prog 394:=mkG Tryz.f394.ntmps [(6,none)] A1 Tryz.func394 rfl
noncomputable def F13:FnG Tryz.prog 395:=mkG 19 [(8,some (some 14))] A1 Tryz.func395 rfl
noncomputable def F00:FnG Tryz.prog 396:=mkG Tryz.f396.ntmps [(6,none)] A1 Tryz.func396 rfl
noncomputable def F20:FnG Tryz.prog 397:=mkG Tryz.f397.ntmps [(14,none)] A1 Tryz.func397 rfl
noncomputable def F79:FnG Tryz.prog 398:=mkG Tryz.f398.ntmps [(6,none)] A1 Tryz.func398 rfl
noncomputable def F8f:FnG Tryz.prog 399:=mkG Tryz.f399.ntmps [(14,none)] A1 Tryz.func399 rfl
noncomputable def F4n:FnG Tryz.prog 400:=mkG 12 [(4,some (some 2))] A1 Tryz.func400 rfl
noncomputable def E92:FnG Tryz.prog 401:=mkG 23 [(14,some (some 14))] A1 Tryz.func401 rfl
noncomputable def F44:FnG Tryz.prog 402:=mkG Tryz.f402.ntmps [(6,none)] A1 Tryz.func402 rfl
noncomputable def F0e:FnG Tryz.prog 403:=mkG 57 [(16,some (some 14))] A1 Tryz.func403 rfl
noncomputable def F2t:FnG Tryz.prog 404:=mkG Tryz.f404.ntmps [(6,none)] A1 Tryz.func404 rfl
noncomputable def F1z:FnG Tryz.prog 405:=mkG 27 [(6,some (some 2)),(7,some (some 2))] A1 Tryz.func405 rfl
noncomputable def F77:FnG Tryz.prog 406:=mkG 40 [(13,some (some 14))] A1 Tryz.func406 rfl
noncomputable def F32:FnG Tryz.prog 407:=mkG Tryz.f407.ntmps [(4,none)] A1 Tryz.func407 rfl
noncomputable def F4l:FnG Tryz.prog 408:=mkG Tryz.f408.ntmps [(2,none)] A1 Tryz.func408 rfl
noncomputable def F6u:FnG Tryz.prog 409:=mkG Tryz.f409.ntmps [(4,none)] A1 Tryz.func409 rfl
noncomputable def F6a:FnG Tryz.prog 410:=mkG Tryz.f410.ntmps [(2,none)] A1 Tryz.func410 rfl
noncomputable def F38:FnG Tryz.prog 411:=mkG Tryz.f411.ntmps [(2,none)] A1 Tryz.func411 rfl
noncomputable def F2g:FnG Tryz.prog 412:=mkG 32 [(4,some (some 4))] A1 Tryz.func412 rfl
noncomputable def E8x:FnG Tryz.prog 413:=mkG 91 [(2,some (some 4))] A1 Tryz.func413 rfl
noncomputable def E78:FnG Tryz.prog 414:=mkG Tryz.f414.ntmps [(2,none)] A1 Tryz.func414 rfl
noncomputable def F8g:FnG Tryz.prog 415:=mkG Tryz.f415.ntmps [(2,none)] A1 Tryz.func415 rfl
noncomputable def E9a:FnG Tryz.prog 416:=mkG Tryz.f416.ntmps [(2,none)] A1 Tryz.func416 rfl
noncomputable def F6k:FnG Tryz.prog 417:=mkG Tryz.f417.ntmps [(6,none)] A1 Tryz.func417 rfl
noncomputable def F6d:FnG Tryz.prog 418:=mkG Tryz.f418.ntmps [(4,none)] A1 Tryz.func418 rfl
noncomputable def F72:FnG Tryz.prog 419:=mkG Tryz.f419.ntmps [(4,none)] A1 Tryz.func419 rfl
noncomputable def E9y:FnG Tryz.prog 420:=mkG Tryz.f420.ntmps [(4,none)] A1 Tryz.func420 rfl
noncomputable def F0d:FnG Tryz.prog 426:=mkG 33 [(4,some (some 2)),(5,none)] A1 Tryz.func426 rfl
noncomputable def E7e:FnG Tryz.prog 427:=mkG Tryz.f427.ntmps [] A1 Tryz.func427 rfl
noncomputable def E9i:FnG Tryz.prog 428:=mkG Tryz.f428.ntmps [(2,none)] A1 Tryz.func428 rfl
noncomputable def F5s:FnG Tryz.prog 429:=mkG Tryz.f429.ntmps [(2,none)] A1 Tryz.func429 rfl
noncomputable def F7o:FnG Tryz.prog 430:=mkG Tryz.f430.ntmps [(8,none)] A1 Tryz.func430 rfl
noncomputable def F1h:FnG Tryz.prog 431:=mkG Tryz.f431.ntmps [(12,none)] A1 Tryz.func431 rfl
noncomputable def F3y:FnG Tryz.prog 432:=mkG Tryz.f432.ntmps [] A1 Tryz.func432 rfl
noncomputable def F7w:FnG Tryz.prog 433:=mkG Tryz.f433.ntmps [(6,none)] A1 Tryz.func433 rfl
noncomputable def E8u:FnG Tryz.prog 434:=mkG Tryz.f434.ntmps [(10,none)] A1 Tryz.func434 rfl
noncomputable def F1y:FnG Tryz.prog 435:=mkG Tryz.f435.ntmps [(4,none)] A1 Tryz.func435 rfl
noncomputable def E8t:FnG Tryz.prog 436:=mkG Tryz.f436.ntmps [(2,none)] A1 Tryz.func436 rfl
noncomputable def F21:FnG Tryz.prog 437:=mkG Tryz.f437.ntmps [(2,none),(3,none)] A1 Tryz.func437 rfl
noncomputable def E77:FnG Tryz.prog 438:=mkG Tryz.f438.ntmps [(4,none)] A1 Tryz.func438 rfl
noncomputable def F0k:FnG Tryz.prog 439:=mkG 38 [(4,some (some 4))] A1 Tryz.func439 rfl
noncomputable def F4h:FnG Tryz.prog 440:=mkG Tryz.f440.ntmps [] A1 Tryz.func440 rfl
noncomputable def F0i:FnG Tryz.prog 441:=mkG Tryz.f441.ntmps [] A1 Tryz.func441 rfl
noncomputable def F2d:FnG Tryz.prog 442:=mkG Tryz.f442.ntmps [(4,none)] A1 Tryz.func442 rfl
noncomputable def F4o:FnG Tryz.prog 443:=mkG Tryz.f443.ntmps [] A1 Tryz.func443 rfl
noncomputable def F5b:FnG Tryz.prog 444:=mkG Tryz.f444.ntmps [(4,none)] A1 Tryz.func444 rfl
noncomputable def F73:FnG Tryz.prog 445:=mkG Tryz.f445.ntmps [(3,none)] A1 Tryz.func445 rfl
noncomputable def E9l:FnG Tryz.prog 446:=mkG Tryz.f446.ntmps [] A1 Tryz.func446 rfl
noncomputable def F3u:FnG Tryz.prog 447:=mkG Tryz.f447.ntmps [] A1 Tryz.func447 rfl
noncomputable def E9p:FnG Tryz.prog 448:=mkG Tryz.f448.ntmps [] A1 Tryz.func448 rfl
noncomputable def F5l:FnG Tryz.prog 449:=mkG Tryz.f449.ntmps [(8,none),(9,none)] A1 Tryz.func449 rfl
noncomputable def F8n:FnG Tryz.prog 450:=mkG Tryz.f450.ntmps [] A1 Tryz.func450 rfl
noncomputable def F22:FnG Tryz.prog 451:=mkG Tryz.f451.ntmps [(8,none)] A1 Tryz.func451 rfl
noncomputable def F63:FnG Tryz.prog 452:=mkG Tryz.f452.ntmps [(10,none)] A1 Tryz.func452 rfl
noncomputable def F7u:FnG Tryz.prog 453:=mkG Tryz.f453.ntmps [(10,none),(11,none)] A1 Tryz.func453 rfl
noncomputable def F1k:FnG Tryz.prog 454:=mkG Tryz.f454.ntmps [] A1 Tryz.func454 rfl
noncomputable def F4j:FnG Tryz.prog 455:=mkG Tryz.f455.ntmps [(6,none)] A1 Tryz.func455 rfl
noncomputable def F8c:FnG Tryz.prog 456:=mkG Tryz.f456.ntmps [(4,none)] A1 Tryz.func456 rfl
noncomputable def E7l:FnG Tryz.prog 457:=mkG Tryz.f457.ntmps [(8,none)] A1 Tryz.func457 rfl
noncomputable def F3e:FnG Tryz.prog 458:=mkG 18 [(4,some (some 5))] A1 Tryz.func458 rfl
noncomputable def F78:FnG Tryz.prog 459:=mkG Tryz.f459.ntmps [(4,none)] A1 Tryz.func459 rfl
noncomputable def F3b:FnG Tryz.prog 460:=mkG 26 [(4,some (some 4))] A1 Tryz.func460 rfl
noncomputable def F1r:FnG Tryz.prog 461:=mkG 59 [(4,some (some 4))] A1 Tryz.func461 rfl
noncomputable def E9c:FnG Tryz.prog 462:=mkG 79 [(4,some (some 4))] A1 Tryz.func462 rfl
noncomputable def E74:FnG Tryz.prog 463:=mkG Tryz.f463.ntmps [(4,none)] A1 Tryz.func463 rfl
noncomputable def F57:FnG Tryz.prog 464:=mkG Tryz.f464.ntmps [(2,none)] A1 Tryz.func464 rfl
noncomputable def F56:FnG Tryz.prog 465:=mkG Tryz.f465.ntmps [(2,none)] A1 Tryz.func465 rfl
noncomputable def F7k:FnG Tryz.prog 466:=mkG Tryz.f466.ntmps [(2,none)] A1 Tryz.func466 rfl
noncomputable def E8j:FnG Tryz.prog 467:=mkG Tryz.f467.ntmps [(12,none),(13,none)] A1 Tryz.func467 rfl
noncomputable def F12:FnG Tryz.prog 468:=mkG Tryz.f468.ntmps [(10,none),(11,none)] A1 Tryz.func468 rfl
noncomputable def F5p:FnG Tryz.prog 469:=mkG Tryz.f469.ntmps [(8,none),(9,none)] A1 Tryz.func469 rfl
noncomputable def F4p:FnG Tryz.prog 470:=mkG Tryz.f470.ntmps [(2,none)] A1 Tryz.func470 rfl
noncomputable def F6o:FnG Tryz.prog 471:=mkG Tryz.f471.ntmps [] A1 Tryz.func471 rfl
noncomputable def F16:FnG Tryz.prog 472:=mkG Tryz.f472.ntmps [] A1 Tryz.func472 rfl
noncomputable def F8e:FnG Tryz.prog 473:=mkG Tryz.f473.ntmps [] A1 Tryz.func473 rfl
noncomputable def F8h:FnG Tryz.prog 474:=mkG Tryz.f474.ntmps [] A1 Tryz.func474 rfl
noncomputable def F1c:FnG Tryz.prog 475:=mkG Tryz.f475.ntmps [(8,none),(9,none)] A1 Tryz.func475 rfl
noncomputable def F53:FnG Tryz.prog 476:=mkG Tryz.f476.ntmps [] A1 Tryz.func476 rfl
noncomputable def E8r:FnG Tryz.prog 477:=mkG Tryz.f477.ntmps [(8,none)] A1 Tryz.func477 rfl
noncomputable def F2r:FnG Tryz.prog 478:=mkG Tryz.f478.ntmps [(10,none)] A1 Tryz.func478 rfl
noncomputable def F8m:FnG Tryz.prog 479:=mkG Tryz.f479.ntmps [(10,none),(11,none)] A1 Tryz.func479 rfl
noncomputable def F74:FnG Tryz.prog 480:=mkG Tryz.f480.ntmps [] A1 Tryz.func480 rfl
noncomputable def F2v:FnG Tryz.prog 481:=mkG Tryz.f481.ntmps [(8,none)] A1 Tryz.func481 rfl
noncomputable def F5e:FnG Tryz.prog 482:=mkG Tryz.f482.ntmps [(12,none)] A1 Tryz.func482 rfl
noncomputable def F3w:FnG Tryz.prog 483:=mkG 18 [(4,some (some 2))] A1 Tryz.func483 rfl
noncomputable def E87:FnG Tryz.prog 484:=mkG Tryz.f484.ntmps [(6,none)] A1 Tryz.func484 rfl
noncomputable def E8v:FnG Tryz.prog 485:=mkG 73 [(2,some (some 2))] A1 Tryz.func485 rfl
noncomputable def F2q:FnG Tryz.prog 486:=mkG Tryz.f486.ntmps [(4,none)] A1 Tryz.func486 rfl
noncomputable def E83:FnG Tryz.prog 487:=mkG Tryz.f487.ntmps [(4,none)] A1 Tryz.func487 rfl
noncomputable def F4q:FnG Tryz.prog 488:=mkG Tryz.f488.ntmps [(2,none)] A1 Tryz.func488 rfl
noncomputable def E7t:FnG Tryz.prog 489:=mkG Tryz.f489.ntmps [(2,none)] A1 Tryz.func489 rfl
noncomputable def F75:FnG Tryz.prog 490:=mkG Tryz.f490.ntmps [(6,none)] A1 Tryz.func490 rfl
noncomputable def F08:FnG Tryz.prog 491:=mkG Tryz.f491.ntmps [] A1 Tryz.func491 rfl
noncomputable def F6x:FnG Tryz.prog 492:=mkG Tryz.f492.ntmps [] A1 Tryz.func492 rfl
noncomputable def F0z:FnG Tryz.prog 493:=mkG Tryz.f493.ntmps [] A1 Tryz.func493 rfl
noncomputable def F49:FnG Tryz.prog 494:=mkG Tryz.f494.ntmps [(8,none),(9,none)] A1 Tryz.func494 rfl
noncomputable def F6v:FnG Tryz.prog 495:=mkG Tryz.f495.ntmps [] A1 Tryz.func495 rfl
noncomputable def F3c:FnG Tryz.prog 496:=mkG Tryz.f496.ntmps [(8,none)] A1 Tryz.func496 rfl
noncomputable def F2n:FnG Tryz.prog 497:=mkG Tryz.f497.ntmps [(10,none)] A1 Tryz.func497 rfl
noncomputable def F31:FnG Tryz.prog 498:=mkG Tryz.f498.ntmps [(10,none),(11,none)] A1 Tryz.func498 rfl
noncomputable def F7b:FnG Tryz.prog 499:=mkG Tryz.f499.ntmps [] A1 Tryz.func499 rfl
noncomputable def F37:FnG Tryz.prog 500:=mkG Tryz.f500.ntmps [(8,none)] A1 Tryz.func500 rfl
noncomputable def F55:FnG Tryz.prog 501:=mkG Tryz.f501.ntmps [(12,none)] A1 Tryz.func501 rfl
noncomputable def F7r:FnG Tryz.prog 502:=mkG Tryz.f502.ntmps [(10,none),(11,none)] A1 Tryz.func502 rfl
noncomputable def F04:FnG Tryz.prog 503:=mkG 21 [(8,some (some 3))] A1 Tryz.func503 rfl
noncomputable def F0l:FnG Tryz.prog 504:=mkG Tryz.f504.ntmps [(4,none)] A1 Tryz.func504 rfl
noncomputable def F3x:FnG Tryz.prog 505:=mkG Tryz.f505.ntmps [(2,none)] A1 Tryz.func505 rfl
noncomputable def F2s:FnG Tryz.prog 506:=mkG Tryz.f506.ntmps [] A1 Tryz.func506 rfl
noncomputable def F48:FnG Tryz.prog 507:=mkG Tryz.f507.ntmps [(8,none)] A1 Tryz.func507 rfl
noncomputable def E8m:FnG Tryz.prog 508:=mkG Tryz.f508.ntmps [(12,none)] A1 Tryz.func508 rfl
noncomputable def E79:FnG Tryz.prog 509:=mkG Tryz.f509.ntmps [(10,none),(11,none)] A1 Tryz.func509 rfl
noncomputable def F3v:FnG Tryz.prog 510:=mkG Tryz.f510.ntmps [(10,none),(11,none)] A1 Tryz.func510 rfl
noncomputable def tab:Tab Tryz.prog:=(.node 274 E8e (.node 152 F4z (.node 88 G0o (.node 59 F8w (.node 32 G0d (.node 17 G0h (.node 11 F9r (.node 8 g_8 (.node 7 g_7 .leaf .leaf) (.node 9 g_9 .leaf .leaf)) (.node 16 F97 (.node 15 G00 .leaf .leaf) .leaf)) (.node 29 G0a (.node 19 F8y (.node 18 G0i .leaf .leaf) (.node 28 G0u .leaf .leaf)) (.node 31 F81 (.node 30 F82 .leaf .leaf) .leaf))) (.node 39 F9i (.node 36 G0l (.node 34 G0p (.node 33 F9d .leaf .leaf) (.node 35 F9g .leaf .leaf)) (.node 38 F9h (.node 37 G0s .leaf .leaf) .leaf)) (.node 56 G0n (.node 45 G0k (.node 44 F9x .leaf .leaf) (.node 46 G0x .leaf .leaf)) (.node 58 F9a (.node 57 F9p .leaf .leaf) .leaf)))) (.node 73 G0g (.node 66 G0r (.node 63 G0f (.node 61 F86 (.node 60 F85 .leaf .leaf) (.node 62 G0e .leaf .leaf)) (.node 65 G0b (.node 64 F9m .leaf .leaf) .leaf)) (.node 70 F80 (.node 68 F9j (.node 67 F90 .leaf .leaf) (.node 69 G0c .leaf .leaf)) (.node 72 F8z (.node 71 F9u .leaf .leaf) .leaf))) (.node 80 F93 (.node 77 G0j (.node 75 F9b (.node 74 G0m .leaf .leaf) (.node 76 F9y .leaf .leaf)) (.node 79 F89 (.node 78 F9v .leaf .leaf) .leaf)) (.node 85 G02 (.node 83 G0w (.node 82 G01 .leaf .leaf) (.node 84 F98 .leaf .leaf)) (.node 87 F99 (.node 86 F84 .leaf .leaf) .leaf))))) (.node 124 F58 (.node 102 E8q (.node 95 F9o (.node 92 F9t (.node 90 F87 (.node 89 F9f .leaf .leaf) (.node 91 F8v .leaf .leaf)) (.node 94 G0q (.node 93 F9c .leaf .leaf) .leaf)) (.node 99 F9n (.node 97 F8x (.node 96 G0z .leaf .leaf) (.node 98 F83 .leaf .leaf)) (.node 101 F5m (.node 100 F09 .leaf .leaf) .leaf))) (.node 117 E70 (.node 114 F6j (.node 112 E81 (.node 103 E7h .leaf .leaf) (.node 113 F7a .leaf .leaf)) (.node 116 F2h (.node 115 F5k .leaf .leaf) .leaf)) (.node 121 F6z (.node 119 E71 (.node 118 E8z .leaf .leaf) (.node 120 E8c .leaf .leaf)) (.node 123 F03 (.node 122 F39 .leaf .leaf) .leaf)))) (.node 138 F1v (.node 131 F01 (.node 128 F6s (.node 126 F6c (.node 125 F05 .leaf .leaf) (.node 127 F0p .leaf .leaf)) (.node 130 F5f (.node 129 F0n .leaf .leaf) .leaf)) (.node 135 F2c (.node 133 E75 (.node 132 F71 .leaf .leaf) (.node 134 F5y .leaf .leaf)) (.node 137 E8b (.node 136 F7h .leaf .leaf) .leaf))) (.node 145 E9b (.node 142 E10 (.node 140 F47 (.node 139 F7z .leaf .leaf) (.node 141 E9j .leaf .leaf)) (.node 144 E86 (.node 143 F14 .leaf .leaf) .leaf)) (.node 149 E8l (.node 147 F0s (.node 146 F0q .leaf .leaf) (.node 148 F2m .leaf .leaf)) (.node 151 E7s (.node 150 F3g .leaf .leaf) .leaf)))))) (.node 216 F6i (.node 181 E7p (.node 167 F6n (.node 159 F1p (.node 156 F4f (.node 154 F4w (.node 153 F19 .leaf .leaf) (.node 155 F2o .leaf .leaf)) (.node 158 F7c (.node 157 E9u .leaf .leaf) .leaf)) (.node 164 E9n (.node 162 E8w (.node 160 F10 .leaf .leaf) (.node 163 F4u .leaf .leaf)) (.node 166 F8k (.node 165 E7v .leaf .leaf) .leaf))) (.node 174 F3q (.node 171 F7d (.node 169 F3m (.node 168 F43 .leaf .leaf) (.node 170 E7n .leaf .leaf)) (.node 173 F8i (.node 172 E84 .leaf .leaf) .leaf)) (.node 178 F27 (.node 176 F68 (.node 175 E7z .leaf .leaf) (.node 177 F3d .leaf .leaf)) (.node 180 E9z (.node 179 F6l .leaf .leaf) .leaf)))) (.node 195 F6f (.node 188 F40 (.node 185 F69 (.node 183 E7x (.node 182 F5j .leaf .leaf) (.node 184 E82 .leaf .leaf)) (.node 187 F6q (.node 186 F0x .leaf .leaf) .leaf)) (.node 192 E94 (.node 190 E7w (.node 189 F3z .leaf .leaf) (.node 191 F59 .leaf .leaf)) (.node 194 E7m (.node 193 F28 .leaf .leaf) .leaf))) (.node 202 F0r (.node 199 F1o (.node 197 E7f (.node 196 F2w .leaf .leaf) (.node 198 F7s .leaf .leaf)) (.node 201 F7e (.node 200 E9q .leaf .leaf) .leaf)) (.node 213 F24 (.node 204 E9e (.node 203 E73 .leaf .leaf) (.node 205 F3s .leaf .leaf)) (.node 215 E9m (.node 214 F4m .leaf .leaf) .leaf))))) (.node 244 F1u (.node 230 F25 (.node 223 F3h (.node 220 F3p (.node 218 F2b (.node 217 F4r .leaf .leaf) (.node 219 E8h .leaf .leaf)) (.node 222 F1x (.node 221 F5h .leaf .leaf) .leaf)) (.node 227 F7l (.node 225 F0b (.node 224 F0w .leaf .leaf) (.node 226 F7v .leaf .leaf)) (.node 229 F76 (.node 228 F33 .leaf .leaf) .leaf))) (.node 237 F15 (.node 234 F06 (.node 232 E7g (.node 231 F7g .leaf .leaf) (.node 233 F6t .leaf .leaf)) (.node 236 F0a (.node 235 F8b .leaf .leaf) .leaf)) (.node 241 F5g (.node 239 F7i (.node 238 F7p .leaf .leaf) (.node 240 F5n .leaf .leaf)) (.node 243 F52 (.node 242 E9w .leaf .leaf) .leaf)))) (.node 258 F3j (.node 251 E7u (.node 248 F4k (.node 246 F5i (.node 245 E90 .leaf .leaf) (.node 247 F5u .leaf .leaf)) (.node 250 F0u (.node 249 F5c .leaf .leaf) .leaf)) (.node 255 F1m (.node 253 F5w (.node 252 F4b .leaf .leaf) (.node 254 F5x .leaf .leaf)) (.node 257 F35 (.node 256 F6p .leaf .leaf) .leaf))) (.node 267 F29 (.node 264 F3r (.node 260 F6y (.node 259 F3i .leaf .leaf) (.node 262 F1a .leaf .leaf)) (.node 266 F51 (.node 265 F7x .leaf .leaf) .leaf)) (.node 271 F0y (.node 269 F5t (.node 268 E7j .leaf .leaf) (.node 270 F4g .leaf .leaf)) (.node 273 F26 (.node 272 F3t .leaf .leaf) .leaf))))))) (.node 395 F13 (.node 339 F5d (.node 302 F18 (.node 288 F41 (.node 281 F1i (.node 278 F2z (.node 276 E9s (.node 275 E9k .leaf .leaf) (.node 277 F1b .leaf .leaf)) (.node 280 E97 (.node 279 F67 .leaf .leaf) .leaf)) (.node 285 F8j (.node 283 F2f (.node 282 F1s .leaf .leaf) (.node 284 E85 .leaf .leaf)) (.node 287 F6m (.node 286 F4d .leaf .leaf) .leaf))) (.node 295 F7q (.node 292 F4e (.node 290 F6h (.node 289 F0h .leaf .leaf) (.node 291 F7t .leaf .leaf)) (.node 294 E8f (.node 293 F0t .leaf .leaf) .leaf)) (.node 299 E7q (.node 297 F2x (.node 296 E95 .leaf .leaf) (.node 298 E8k .leaf .leaf)) (.node 301 F1e (.node 300 F02 .leaf .leaf) .leaf)))) (.node 316 F5o (.node 309 F17 (.node 306 F2j (.node 304 F6w (.node 303 E8i .leaf .leaf) (.node 305 F0c .leaf .leaf)) (.node 308 E98 (.node 307 F70 .leaf .leaf) .leaf)) (.node 313 F4t (.node 311 E7k (.node 310 F4v .leaf .leaf) (.node 312 F4y .leaf .leaf)) (.node 315 F5a (.node 314 F1f .leaf .leaf) .leaf))) (.node 332 E9f (.node 329 F3f (.node 327 F4i (.node 317 F7j .leaf .leaf) (.node 328 E8n .leaf .leaf)) (.node 331 F23 (.node 330 F2l .leaf .leaf) .leaf)) (.node 336 F3o (.node 334 F65 (.node 333 F0j .leaf .leaf) (.node 335 F7f .leaf .leaf)) (.node 338 F60 (.node 337 E9x .leaf .leaf) .leaf))))) (.node 367 F2i (.node 353 F4a (.node 346 E9g (.node 343 F2p (.node 341 E88 (.node 340 E93 .leaf .leaf) (.node 342 F6b .leaf .leaf)) (.node 345 E80 (.node 344 F62 .leaf .leaf) .leaf)) (.node 350 E8a (.node 348 F0o (.node 347 F8l .leaf .leaf) (.node 349 F5q .leaf .leaf)) (.node 352 E8o (.node 351 F1w .leaf .leaf) .leaf))) (.node 360 F5r (.node 357 F1g (.node 355 F7n (.node 354 F1j .leaf .leaf) (.node 356 E8s .leaf .leaf)) (.node 359 F6e (.node 358 F2a .leaf .leaf) .leaf)) (.node 364 E96 (.node 362 E91 (.node 361 F4c .leaf .leaf) (.node 363 E8y .leaf .leaf)) (.node 366 E89 (.node 365 F2u .leaf .leaf) .leaf)))) (.node 381 F8d (.node 374 E7i (.node 371 F1q (.node 369 E9o (.node 368 F34 .leaf .leaf) (.node 370 F5v .leaf .leaf)) (.node 373 F0m (.node 372 E9d .leaf .leaf) .leaf)) (.node 378 F2k (.node 376 E9r (.node 375 F3l .leaf .leaf) (.node 377 E9h .leaf .leaf)) (.node 380 F30 (.node 379 F61 .leaf .leaf) .leaf))) (.node 388 F42 (.node 385 F2y (.node 383 F2e (.node 382 F7m .leaf .leaf) (.node 384 E7r .leaf .leaf)) (.node 387 F36 (.node 386 F8a .leaf .leaf) .leaf)) (.node 392 E76 (.node 390 F46 (.node 389 F1d .leaf .leaf) (.node 391 E8d .leaf .leaf)) (.node 394 E7y (.node 393 E72 .leaf .leaf) .leaf)))))) (.node 456 F8c (.node 428 E9i (.node 409 F6u (.node 402 F44 (.node 399 F8f (.node 397 F20 (.node 396 F00 .leaf .leaf) (.node 398 F79 .leaf .leaf)) (.node 401 E92 (.node 400 F4n .leaf .leaf) .leaf)) (.node 406 F77 (.node 404 F2t (.node 403 F0e .leaf .leaf) (.node 405 F1z .leaf .leaf)) (.node 408 F4l (.node 407 F32 .leaf .leaf) .leaf))) (.node 416 E9a (.node 413 E8x (.node 411 F38 (.node 410 F6a .leaf .leaf) (.node 412 F2g .leaf .leaf)) (.node 415 F8g (.node 414 E78 .leaf .leaf) .leaf)) (.node 420 E9y (.node 418 F6d (.node 417 F6k .leaf .leaf) (.node 419 F72 .leaf .leaf)) (.node 427 E7e (.node 426 F0d .leaf .leaf) .leaf)))) (.node 442 F2d (.node 435 F1y (.node 432 F3y (.node 430 F7o (.node 429 F5s .leaf .leaf) (.node 431 F1h .leaf .leaf)) (.node 434 E8u (.node 433 F7w .leaf .leaf) .leaf)) (.node 439 F0k (.node 437 F21 (.node 436 E8t .leaf .leaf) (.node 438 E77 .leaf .leaf)) (.node 441 F0i (.node 440 F4h .leaf .leaf) .leaf))) (.node 449 F5l (.node 446 E9l (.node 444 F5b (.node 443 F4o .leaf .leaf) (.node 445 F73 .leaf .leaf)) (.node 448 E9p (.node 447 F3u .leaf .leaf) .leaf)) (.node 453 F7u (.node 451 F22 (.node 450 F8n .leaf .leaf) (.node 452 F63 .leaf .leaf)) (.node 455 F4j (.node 454 F1k .leaf .leaf) .leaf))))) (.node 484 E87 (.node 470 F4p (.node 463 E74 (.node 460 F3b (.node 458 F3e (.node 457 E7l .leaf .leaf) (.node 459 F78 .leaf .leaf)) (.node 462 E9c (.node 461 F1r .leaf .leaf) .leaf)) (.node 467 E8j (.node 465 F56 (.node 464 F57 .leaf .leaf) (.node 466 F7k .leaf .leaf)) (.node 469 F5p (.node 468 F12 .leaf .leaf) .leaf))) (.node 477 E8r (.node 474 F8h (.node 472 F16 (.node 471 F6o .leaf .leaf) (.node 473 F8e .leaf .leaf)) (.node 476 F53 (.node 475 F1c .leaf .leaf) .leaf)) (.node 481 F2v (.node 479 F8m (.node 478 F2r .leaf .leaf) (.node 480 F74 .leaf .leaf)) (.node 483 F3w (.node 482 F5e .leaf .leaf) .leaf)))) (.node 498 F31 (.node 491 F08 (.node 488 F4q (.node 486 F2q (.node 485 E8v .leaf .leaf) (.node 487 E83 .leaf .leaf)) (.node 490 F75 (.node 489 E7t .leaf .leaf) .leaf)) (.node 495 F6v (.node 493 F0z (.node 492 F6x .leaf .leaf) (.node 494 F49 .leaf .leaf)) (.node 497 F2n (.node 496 F3c .leaf .leaf) .leaf))) (.node 505 F3x (.node 502 F7r (.node 500 F37 (.node 499 F7b .leaf .leaf) (.node 501 F55 .leaf .leaf)) (.node 504 F0l (.node 503 F04 .leaf .leaf) .leaf)) (.node 508 E8m (.node 507 F48 (.node 506 F2s .leaf .leaf) .leaf) (.node 510 F3v (.node 509 E79 .leaf .leaf) .leaf))))))))
end Go.Abs
end
section
namespace Go.Abs
open Go.Proofs
theorem mkR {P:Program}{L:List (Nat×List Bool)}{f:FuncId}{fn:Func}(N:Nat)(rvs:List (Nat×Option (Option Nat))){i0 i1 i2 i3 i4 j gx:Nat}{o0 o1 o2 o3 o4:Array Oper}{ps:Array Tmp}{asg bd:Code}{a0 a1 a2 a3 a4:List AOper}
  (hL:okE P L=true)(hf:P.funcs[f]? =some fn)
  (hb:fn.body=some (.seq (.region i0 o0 false) (.seq (.region i1 o1 false) (.seq (.seq (.region i2 o2 false) (.block j (.rangeFunc (.tmp gx) ps asg bd))) (.seq (.region i3 o3 false) (.seq (.region i4 o4 false) .ret))))))
  (h0:A56 P L N o0 o0.toList=some a0)(h1:A56 P L N o1 o1.toList=some a1)(h2:A56 P L N o2 o2.toList=some a2)(h3:A56 P L N o3 o3.toList=some a3)(h4:A56 P L N o4 o4.toList=some a4)
  (hN:fn.ntmps=N:=by kernel_rfl)(hts:A29 P fn.results.toList=some rvs:=by kernel_rfl)
  (hname:(fn.name != "runtime.NumGoroutine")=true:=by kernel_rfl)(hlt:(rvs.all fun p=>p.1.blt N)=true:=by decide):C96 P f ⟨N,a0,a1,a2,gx,a3,a4,rvs⟩:=by
 subst hN;exact⟨fn,i0,i1,i2,i3,i4,j,o0,o1,o2,o3,o4,ps,asg,bd,hf,hb,hname,A4n hL h0,A4n hL h1,A4n hL h2,A4n hL h3,A4n hL h4,hts,hlt,rfl⟩
noncomputable def C8t: {R:RfT // C96 Tryz.prog 263 R}:=⟨_,mkR Tryz.f263.ntmps [(2,none)] A1 Tryz.func263 rfl rfl rfl rfl rfl rfl⟩
noncomputable def F0g:A1m Tryz.prog:=E6y hm tab 60 263 C8t.1 C8t.2
end Go.Abs
end
