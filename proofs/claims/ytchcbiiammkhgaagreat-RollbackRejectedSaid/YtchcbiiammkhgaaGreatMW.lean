/- A part of the proof: contracts of functions that the statement reaches. -/
import Derived.Test.YtchcbiiammkhgaaGreatMV
set_option linter.unusedSimpArgs false
set_option linter.unusedVariables false
set_option linter.unnecessarySimpa false
set_option maxRecDepth 100000
set_option maxHeartbeats 2000000
noncomputable section
namespace Go.Abs
open Go.Proofs
open Api
theorem D9t {i:List (List Api.Input)}{h:List Int}{re:Int}{w:List Api.World}(hi:i.length<=4096)(hh:h.length=i.length)(hw:0<w.length/\w.length<=65)(hs: ∀x∈w,Wsm x)(hm: ∀x∈i,A1z x):A4e ⟨i,h,re,w,8⟩:=⟨by show(1:Int)<=8/\(8:Int)<=64;decide,hi,hh,hw,hs,hm⟩
theorem D0m {i:List (List Api.Input)}{h:List Int}{re:Int}{w:List Api.World}{last x:Api.World}{E:List Api.Event}(k:A4e ⟨i,h,re,w,8⟩)(hn:i.length<4096)(hl:w.getD (w.length-1) dF_=last)(he:X9 last []=(x,E,0))(hp:(w.length:Int)+1<=8+1):
  cA_ 20 [.ptr 1 0 0 1, .sc (.slice none 0 0)] (rsO ⟨i,h,re,w,8⟩) (sI 0) (rsO ⟨i++ [[]],h++ [ofW x],re,w++ [x],8⟩):=by
 have h2:X9 (A0a ⟨i,h,re,w,8⟩) []=(x,E,0):=by rw[show A0a ⟨i,h,re,w,8⟩=last from hl];exact he
 have h3:=F24 k hn h2 (show(0:Int)=0 from rfl) hp;dsimp only at h3;exact h3
def C6c(a b c:Api.World):Ses:=⟨[[],[],[]],[ofW a,ofW b,ofW c],0,[iw,a,b,c],8⟩
def exA(a x y:Api.World):Acc:=([[],[inE],[]],[ofW a,ofW x,ofW y],[iw,a,x,y])
def A9j(a x y:Api.World):Ses:=⟨[[],[inE],[]],[ofW a,ofW x,ofW y],2,[iw,a,x,y],8⟩
theorem F6q {a b c x y:Api.World}{E1 E2 E3 E4 E5:List Api.Event}(e1:X9 iw []=(a,E1,0))(e2:X9 a []=(b,E2,0))(e3:X9 b []=(c,E3,0))(e4:X9 a [inE]=(x,E4,0))(e5:X9 x []=(y,E5,0))
  (ha:Wsm a)(hb:Wsm b)(hc:Wsm c)(hx:Wsm x)(hy:Wsm y)(l1:y.cC.length=1)(l2:(y.cC.getD 0 dF_).dO.X=65536):cA_ 24 [] [] (sB true) []:=by
 have k0:A4e ⟨[],[],0,[iw],8⟩:=D9t p_ rfl ⟨p_,p_⟩ (by simpa using C3p) p_
 have k1:A4e ⟨[[]],[ofW a],0,[iw,a],8⟩:=D9t (by decide) rfl ⟨p_,p_⟩ (by simpa using⟨C3p,ha⟩) (by simpa using C6x)
 have k2:A4e ⟨[[],[]],[ofW a,ofW b],0,[iw,a,b],8⟩:=D9t (by decide) rfl ⟨p_,p_⟩ (by simpa using⟨C3p,ha,hb⟩) (by simpa using C6x)
 have k3:A4e (C6c a b c):=D9t (by decide) rfl ⟨p_,p_⟩ (by simpa using⟨C3p,ha,hb,hc⟩) (by simpa using C6x)
 have k4:A4e (A9j a x y):=D9t (by decide) rfl ⟨p_,p_⟩ (by simpa using⟨C3p,ha,hx,hy⟩) (by simpa using⟨C6x,D24,C6x⟩)
 have A1:cA_ 20 [.ptr 1 0 0 1, .sc (.slice none 0 0)] (rsO (C76 iw 8)) (sI 0) (rsO ⟨[[]],[ofW a],0,[iw,a],8⟩):=D0m (last:=iw) k0 p_ rfl e1 (by show(1:Int)+1<=8+1;decide)
 have A2:cA_ 20 [.ptr 1 0 0 1, .sc (.slice none 0 0)] (rsO ⟨[[]],[ofW a],0,[iw,a],8⟩) (sI 0) (rsO ⟨[[],[]],[ofW a,ofW b],0,[iw,a,b],8⟩):=D0m (last:=a) k1 p_ rfl e2 (by show(2:Int)+1<=8+1;decide)
 have A3:cA_ 20 [.ptr 1 0 0 1, .sc (.slice none 0 0)] (rsO ⟨[[],[]],[ofW a,ofW b],0,[iw,a,b],8⟩) (sI 0) (rsO (C6c a b c)):=D0m (last:=b) k2 p_ rfl e3 (by show(3:Int)+1<=8+1;decide)
 have I1:cA_ 33 [.ptr 1 0 0 1,sI 1,A4 49 Api.Input.enc dF_ [inE]] (rsO (C6c a b c)) (sI 0) (B8w (C6c a b c) 1 (exA a x y)):=by
  have hE:C6l (C6c a b c) 1 [inE]= .inl (exA a x y):=F6p e4 e5 rfl rfl
  have:=C98 (C6c a b c) 1 [inE] k3 D24 (by show 1<3;decide) (by show(max 0 ((3:Int)-8))<=1;decide) F9x (by show 3-1<4;decide) (by show(4:Int)<=8+1;decide);unfold D1h D1i at this;rw[hE]at this;exact this
 have I2:cA_ 33 [.ptr 1 0 0 1,sI 3,A4 49 Api.Input.enc dF_ [inE]] (rsO (A9j a x y)) (sI 21) (rsO (A9j a x y)):=C97 (A9j a x y) 3 [inE] k4 (.inr (by show(3:Int)<=3;decide))
 have w4:(A9j a x y).win≠0:=by show(8:Int)≠0;decide
 have R4:cA_ 30 [.ptr 1 0 0 1] (rsO (A9j a x y)) (sI 2) (rsO (A9j a x y)):=B86 _ w4
 have F4:cA_ 21 [.ptr 1 0 0 1] (rsO (A9j a x y)) (sI 3) (rsO (A9j a x y)):=D3n _ w4
 have O4:cA_ 22 [.ptr 1 0 0 1] (rsO (A9j a x y)) (sI 0) (rsO (A9j a x y)):=A8t _ k4.win (by show 3<=100000;decide)
 have H4:cA_ 28 [.ptr 1 0 0 1] (rsO (A9j a x y)) (A4 1 A0h 0 [ofW a,ofW x,ofW y]) (rsO (A9j a x y)):=C96 _ w4 (by show 3<=100000;decide)
 have W4:cA_ 23 [.ptr 1 0 0 1] (rsO (A9j a x y)) (.agg y.enc) (rsO (A9j a x y)):=D3o (A9j a x y) w4 (by show 0<4;decide) (by show 4<=100000;decide) hy;refine E5h hm A6 Tryz.func24 rfl rfl ?_;refine B2 [] [] (B9 hm ?_) ?_
 ·refine st_ ?_;exact A9 [] [] se_
 refine B2 [(1, .cA, .ptr 1 0 0 1),(2, .cA,sI 0)] (rsO (C76 iw 8)) (B9 hm ?_) ?_
 ·refine st_ ?_;refine A0 D3z rfl (st_ ?_);refine K6 (O:= []) (E0v iw 8 C3p F6s (by decide)) ⟨p_,p_⟩ A5o p_ p_ p_ (by simp[AV.ids,F6,World.enc,A4]) rfl (st_ ?_);exact A9 [] [] se_
 refine B2 [(1, .cA, .ptr 1 0 0 1)] (rsO (C6c a b c)) (B9 hm ?_) ?_
 ·refine st_ ?_;refine Y9 (A1) (B15 rfl rfl) (st_ ?_);refine Y9 (A2) (B15 rfl rfl) (st_ ?_);refine Y9 (A3) (B15 rfl rfl) (st_ ?_);exact A9 [] [] se_
 refine B2 [(1, .cA, .ptr 1 0 0 1),(3, .eP,A4 49 Api.Input.enc dF_ [inE])] (rsO (C6c a b c)) (B9 hm ?_) ?_
 ·refine st_ ?_;refine A9 [] [] ?_;simp only[go_sem,go_sem_proc]
  all_goals first |exact eE_ |(refine F60 ?_;simp only[inE,go_sem,go_sem_proc];(repeat(first |refine D2u (D0 _) ?_ |refine D2u (G5 rfl) ?_));trivial)
 refine B2 [(1, .cA, .ptr 1 0 0 1),(4, .cA,sI 0),(5, .cA,sI 21)] (rsO (A9j a x y)) (B9 hm ?_) ?_
 ·refine st_ ?_;refine K6 I1 A5o E0g (by simp[rsO,B8w]) (by simp[upd,go_sem,go_sem_proc]) (by simp[rsO,B8w,upd]) (B15 rfl rfl) rfl (st_ ?_);refine B5 [true,true,false] [(2,8),(3,9),(4,6)] I2 (by simp[rsO]) (by simp[rsO]) (by simp[rsO,J1]) (by simp[A9j,exA,B0x,go_sem]) (st_ ?_);refine⟨⟨rfl,rfl,rfl,rfl⟩,?_⟩;exact A9 [(2,8),(3,9),(4,6)] [] se_
 refine B9 hm (st_ ?_);refine V4 R4 (st_ ?_);refine V4 F4 (st_ ?_);refine V4 O4 (st_ ?_);refine V4 H4 (st_ ?_);refine V4 W4 (st_ ?_);refine V4 W4 ?_;simp only[go_sem,go_sem_proc,l1,l2];exact⟨λ_=>by simp,p_⟩
theorem D3y:cA_ 24 [] [] (sB true) []:=by
 have p1:Wsm A7h:=B9j C3p
 have p2:Wsm D46:=B9j p1
 have p3:Wsm F6r:=B9j p2
 have hE:=D24.2 inE (zu.2 rfl)
 have e4:X9 A7h [inE]=A0i E5q:=F0h p1 F6t hE F9s (by decide) F9t F9u
 have q1:Wsm D45:=by have:=B77 p1 D24;rw[e4]at this;exact this
 have q2:Wsm E5r:=B9j q1;refine F6q (a:=A7h) (b:=D46) (c:=F6r) (x:=D45) (y:=E5r) (E1:=(A0i iw).2.1) (E2:=(A0i A7h).2.1) (E3:=(A0i D46).2.1) (E4:=(A0i E5q).2.1) (E5:=(A0i D45).2.1) ?_ ?_ ?_ ?_ ?_ p1 p2 p3 q1 q2 F9v F9w
 ·rw[C3i F6s,<-F9n];rfl
 ·rw[C3i F6t,<-F9o];rfl
 ·rw[C3i F9l,<-F9p];rfl
 ·rw[e4,<-F9q];rfl
 ·rw[C3i F9m,<-F9r];rfl
theorem E86 {w:Api.World}(hw:C5w w)(h:B7 w=0):Wsm w:=by
 obtain⟨h1,h2,h3,h4,h5,-⟩:=hw;refine⟨h1,h2,h3,h4,h5,λc hc=> ?_⟩;unfold B7 at h;dsimp only at h
 (repeat' split at h) <;> first |omega |skip
 rename_i h6;have h7:A5i w=true:=by simpa using h6
 unfold A5i at h7;simp only[zi]at h7;have:=E87 (qm.1 h7.1.1.1 c hc);show c.cL.cQ.length<=1048576;omega
theorem E0w(w:Api.World)(win:Int)(hw:C5w w)(hv:B7 w≠0):cA_ 19 [.agg w.enc,sI win] [] (.tup [.sc (.pointer none),sI 18]) []:=by
 refine enT hm A6 Tryz.func19 rfl rfl (st_ ?_);refine A0 (B7i w hw) rfl (st_ ?_);rw[zc (by simpa using hv)]
 all_goals exact eE_
theorem D9v {l:List Api.Input}(h:V3 l=true):A1z l:=by
 unfold V3 at h;split at h
 ·rename_i r hr;subst h;exfalso;have key: ∀n,I8 (P3 l) n ()≠ .inr true:=by
   intro n;induction n with
   |zero=>intro h;cases h
   |succ n ih=>
    intro h;rw[I8]at h;split at h
    ·unfold P3 at h;dsimp only at h;split at h
     ·injection h with h;cases h
     ·cases h
    ·rename_i h';injection h with h;subst h;exact ih h'
  exact key _ hr
 ·rename_i hi;have hl:l.length<=4:=by have:=yc h;omega
  refine⟨o_,λx hx=> ?_⟩;obtain⟨k,hk,rfl⟩:=qG hx;obtain⟨a,b,hab⟩:=C16 hi k hk;unfold P3 at hab;dsimp only at hab;split at hab
  ·cases hab
  ·rename_i hc;simp only[zy,zQ,zk,qy,qK]at hc;have:=(D9u hc.1).2 (l.getD k dF_).cE (zu.2 rfl);rwa[show l.getD k dF_=l[k]by simp[List.getD,hk]]at this
theorem F1t {w:Api.World}{calls:List Api.Call}(h:A6f w calls=true):C5w w/\calls.length<=7/\ ∀c∈calls,A1z c.fI:=by
 unfold A6f at h;dsimp only at h;split at h
 ·cases h
 rename_i h1;simp only[zy,zQ,zk,qy,qK]at h1;obtain⟨⟨⟨⟨⟨g1,g2⟩,g3⟩,g4⟩,g5⟩,g6⟩:=h1;obtain⟨f1,f2⟩:=D9u g1;split at h
 ·rename_i r hr;subst h;exfalso;have key: ∀n,I8 (A5s w) n ()≠ .inr true:=by
   intro n;induction n with
   |zero=>intro h;cases h
   |succ n ih=>
    intro h;rw[I8]at h;split at h
    ·unfold A5s at h;split at h
     ·injection h with h;cases h
     ·cases h
    ·rename_i h';injection h with h;subst h;exact ih h'
  exact key _ hr
 split at h
 ·rename_i r hr;subst h;exfalso;have key: ∀n,I8 (A35 calls) n ()≠ .inr true:=by
   intro n;induction n with
   |zero=>intro h;cases h
   |succ n ih=>
    intro h;rw[I8]at h;split at h
    ·unfold A35 at h;dsimp only at h;split at h
     ·injection h with h;cases h
     ·cases h
    ·rename_i h';injection h with h;subst h;exact ih h'
  exact key _ hr
 rename_i hi;refine⟨⟨o_,o_,o_,o_,f2,trivial⟩,o_,λc hc=> ?_⟩
 ·obtain⟨k,hk,rfl⟩:=qG hc;obtain⟨a,b,hab⟩:=C16 hi k hk;unfold A35 at hab;dsimp only at hab;split at hab
  ·cases hab
  ·rename_i hn;rw[show calls.getD k dF_=calls[k]by simp[List.getD,hk]]at hn;exact D9v (by simpa using hn)
theorem F0k(x:Api.Input):B1l x x=true:=by simp[B1l]
theorem E7p(l:List Api.Input):B3q l l=true:=by
 have key: ∀n,I8 (A6x l l) n ()= .inl ():=by
  intro n;induction n with
  |zero=>rfl
  |succ n ih=>rw[A0f ih (r:= .inl ())];simp[A6x,F0k]
 unfold B3q;rw[key];simp
theorem F0l {l:List (List Api.Input)}(h: ∀x∈l,A1z x){k:Nat}(hk:k<l.length):(l.getD k dF_).length<=1048576/\ ∀i,i<(l.getD k dF_).length->cE.sm ((l.getD k dF_).getD i dF_).cE:=
 have:=h _ (B6 dF_ hk)
 ⟨by have:=this.1;omega,B5f this⟩
theorem E01(l:List (List Api.Input))(hl:l.length<=4096)(h: ∀x∈l,A1z x):cA_ 32 [A4 1 X7 dF_ l,A4 1 X7 dF_ l] [] (sB true) []:=by
 refine en1 hm A6 Tryz.func32 rfl rfl (st_ ?_);rw[zb p_];refine B1 hm (ι:= {k:Nat // k<=l.length}) (λk=> [(0, .cA,A4 1 X7 dF_ l),(1, .cA,A4 1 X7 dF_ l),(5, .cA,sI (k.1:Nat))]) (λ_=> []) (λk=>l.length-k.1) ⟨0,zm _⟩ ?_ ?_
 ·exact A9 [] [] se_
 ·rintro⟨k,hk⟩;dsimp only;refine st_ ?_;by_cases hlt:k<l.length
  ·rw[zc o_];obtain⟨g1,g2⟩:=F0l h hlt;refine⟨⟨o_,o_⟩,⟨o_,o_⟩,?_⟩;have hC:=E02 (l.getD k dF_) (l.getD k dF_) g1 rfl g2;rw[E7p]at hC;refine A0 hC rfl (st_ ?_);refine A8 ⟨k+1,o_⟩ (by show l.length-(k+1)<l.length-k;omega) ?_;exact A9 [] [] se_
  ·rw[zb o_]
   all_goals exact eE_
theorem F3o(l:List Int)(hl:l.length<=100000):cA_ 31 [A4 1 A0h 0 l,A4 1 A0h 0 l] [] (sI (-1)) []:=by have:=C2j l l o_ o_;rw[C13 (λj hj=>by simp[B0c];omega)]at this;exact this
def C09(s:Ses)(l:List Api.Call)(k:Nat):Ses:=itr (λi s=>(B8h s (l.getD i dF_)).2) k s
theorem D6x(s:Ses)(l:List Api.Call)(k:Nat):C09 s l (k+1)=(B8h (C09 s l k) (l.getD k dF_)).2:=H7 ..
theorem E39 {s:Ses}(h:B9y s){l:List Api.Call}(hl: ∀c∈l,A1z c.fI): ∀k,k<=l.length->B9y (C09 s l k)
 |0,_=>h
 |k+1,hk=>by rw[D6x];exact(E3d (E39 h hl k o_) (hl _ (B6 dF_ o_))).1
theorem F49 {w:Api.World}{win:Int}(hw:Wsm w)(hn:1<=win/\win<=64):B9y (C76 w win):=by refine⟨⟨hn,zm _,rfl,⟨by show 0<1;decide,by show 1<=65;decide⟩,λx hx=>by rw[zu.1 hx];exact hw,λx hx=>by cases hx⟩,?_⟩;show(1:Int)=min 0 win+1;omega
def C2w(w:Api.World)(win:Int)(calls:List Api.Call)(last:Api.Call):Slots:= [(1, .cA,sI win),(2, .cA,A4 3 Api.Call.enc dF_ calls),(4, .cA, .dE w.enc),(7, .cA, .dE last.enc),(9, .cA, .ptr 1 0 0 1)]
attribute [go_sem] C2w
theorem B9e(w:Api.World)(win:Int)(calls:List Api.Call)(last:Api.Call)(hb:w.cC.length<=9223372036854775807)(hcl:calls.length<=9223372036854775807)(hci: ∀i,i<calls.length->(calls.getD i dF_).fI.length<=9223372036854775807)(hli:last.fI.length<=9223372036854775807):
  cA_ 5 [.agg w.enc,sI win,A4 3 Api.Call.enc dF_ calls, .agg last.enc] [] (sB true) []:=by
 have hS:=D7u w calls hb hcl hci
 have hF:=D0b last.fI hli
 have hX:=D3y;refine E5h hm A6 Tryz.func5 rfl rfl ?_;refine B2 [(1, .cA,sI win),(2, .cA,A4 3 Api.Call.enc dF_ calls),(4, .eP, .dE w.enc),(7, .eP, .dE last.enc)] [] (B9 hm ?_) ?_
 ·refine st_ ?_;refine A9 [] [] ?_;simp only[go_sem,go_sem_proc,A2m]
  all_goals exact eE_
 by_cases hd:A6f w calls=true/\V3 last.fI=true;rotate_left
 ·refine B9 hm (st_ ?_);refine A0 hS rfl (st_ ?_);cases h1:A6f w calls with
  |false=>
   (try simp only[go_sem,go_sem_proc])
   refine D2e (sB false) (st_ ?_);exact A0 hX rfl se_
  |true=>
   (try simp only[go_sem,go_sem_proc])
   refine A0 hF rfl ?_;have h2:V3 last.fI=false:=by simpa[h1]using hd
   simp only[go_sem,go_sem_proc,h2];exact A0 hX rfl se_
 obtain⟨hd1,hd2⟩:=hd;rw[hd1]at hS;rw[hd2]at hF;obtain⟨hw0,hc7,hcs⟩:=F1t hd1;have hls:=D9v hd2;refine B2 [(1, .cA,sI win),(2, .cA,A4 3 Api.Call.enc dF_ calls),(4, .cA, .dE w.enc),(7, .cA, .dE last.enc)] [] (B9 hm ?_) ?_
 ·refine st_ ?_;refine A0 hS rfl (st_ ?_);refine A0 hF rfl (st_ ?_);exact A9 [] [] se_
 by_cases hv:B7 w=0/\(1<=win/\win<=64);rotate_left
 ·refine B9 hm (st_ ?_);have hN: ∃c:Int,c≠0/\cA_ 19 [.agg w.enc,sI win] [] (.tup [.sc (.pointer none),sI c]) []:=by
   by_cases h1:B7 w=0
   ·exact⟨2,by decide,E2h w win (E86 hw0 h1) h1 (λh=>hv ⟨h1,h⟩)⟩
   ·exact⟨18,by decide,E0w w win hw0 h1⟩
  obtain⟨c,hc,hN⟩:=hN;refine A0 hN rfl (st_ ?_);exact A0 hX rfl se_
 obtain⟨hv,hn⟩:=hv;have hw:=E86 hw0 hv
 have hI:=F49 hw hn;refine B2 (C2w w win calls last++ [(10, .cA,sI 0)]) (rsO (C76 w win)) (B9 hm ?_) ?_
 ·refine st_ ?_;refine K6 (O:= []) (E0v w win hw hv hn) ⟨p_,p_⟩ A5o p_ p_ p_ (by simp[AV.ids,F6,World.enc,A4]) rfl (st_ ?_);exact A9 [] [] se_
 refine B2 (C2w w win calls last) (rsO (C76 w win)) (B9 hm ?_) ?_
 ·refine st_ ?_;exact A9 [] [] se_
 generalize C76 w win=s0 at hI⊢;have hR:=E39 hI hcs;refine B2 (C2w w win calls last) (rsO (C09 s0 calls calls.length)) (B2 (C2w w win calls last++ [(11, .cA,sI (0:Nat))]) (rsO s0) (B9 hm ?_) (V0 ?_)) ?_
 ·refine st_ ?_;exact A9 [] [] se_
 ·refine B1 hm (ι:= {k:Nat // k<=calls.length}) (λk=>(C2w w win calls last++ [(11, .cA,sI (k.1:Nat))])) (λk=>rsO (C09 s0 calls k.1)) (λk=>calls.length-k.1) ⟨0,zm _⟩ ?_ ?_
  ·show V5 _ _ (C2w w win calls last++ [(11, .cA,sI (0:Nat))]) (rsO s0);exact A9 [] [] se_
  ·rintro⟨k,hk⟩;dsimp only;have hRk:=hR k hk;by_cases hlt:k<calls.length
   ·obtain⟨O,hO1,hO2⟩:=C48 (C09 s0 calls k) (calls.getD k dF_) hRk (hcs _ (B6 dF_ hlt));rw[<-D6x]at hO1;generalize(B8h (C09 s0 calls k) (calls.getD k dF_)).1=e at hO2;generalize C09 s0 calls k=s at hO2 hRk⊢;refine st_ ?_;rw[zc o_];refine⟨bE_,?_⟩;refine K6 hO2 A5o hO1.ok (λi hi=>hO1.keys.1 i (by simpa[rsO]using hi)) (by simp[upd,go_sem,go_sem_proc]) (λi hi hn=>by have:=hO1.keys.2 i hi;simp[rsO]at hn;simp[upd,rsO];(repeat' split) <;> first |omega |rfl) (B15 rfl (by simp[F6,AV.ids,A4])) rfl (st_ ?_);refine A8 ⟨k+1,o_⟩ (by show calls.length-(k+1)<calls.length-k;omega) ?_;generalize C09 s0 calls (k+1)=s' at hO1⊢;rcases hO1 with rfl |⟨old,rfl⟩ |⟨s1,f1,a1,e1,rfl⟩
    ·exact A9 [] [] se_
    ·exact A9 [(4,5)] [] se_
    ·refine A9 [(2,8),(3,9),(4,6)] [] ?_;simp only[go_sem,go_sem_proc,e1,D25]
     all_goals exact eE_
   ·obtain rfl:k=calls.length:=o_
    refine st_ ?_;rw[zb o_];exact A9 [] [] se_
 have hRn:=hR calls.length (ze _);generalize C09 s0 calls calls.length=s at hRn⊢;have hok:=hRn.ok
 have hw1:s.win≠0:=by have:=hok.win;omega
 have hWl:=hok.last
 have C1:=D3o s hw1 hok.ws.1 (by have:=hok.ws;omega) hWl;rw[show s.ws.getD (s.ws.length-1) dF_=A0a s from rfl]at C1;have C2:=C96 s hw1 (by have:=hok.hs;have:=hok.ins;omega)
 have C3:=D5t s hw1 hok.ins hok.im
 have C4:=D3n s hw1
 have C5:=B86 s hw1;generalize A0a s=x at hWl C1;refine B2 [(7, .cA, .dE last.enc),(9, .cA, .ptr 1 0 0 1),(12, .eP, .dE x.enc),(13, .cA,A4 1 A0h 0 s.hs),(14, .cA,A4 1 X7 dF_ s.ins),(15, .cA,sI s.ins.length),(16, .cA,sI s.re)] (rsO s) (B9 hm ?_) ?_
 ·refine st_ ?_;refine V4 C1 (st_ ?_);refine V4 C2 (st_ ?_);refine V4 C3 (st_ ?_);refine V4 C4 (st_ ?_);refine V4 C5 (st_ ?_);refine A9 [] [] ?_;simp only[go_sem,go_sem_proc,A2m]
  all_goals exact eE_
 obtain⟨O,hO1,hO2⟩:=C48 s last hRn hls;have hst:=(E3d hRn hls).2;generalize B8h s last=p at hO1 hO2 hst;by_cases he:p.1=0
 ·refine B9 hm (st_ ?_);refine K6 hO2 A5o hO1.ok (λi hi=>hO1.keys.1 i (by simpa[rsO]using hi)) (by simp[upd,go_sem,go_sem_proc]) (λi hi hn=>by have:=hO1.keys.2 i hi;simp[rsO]at hn;simp[upd,rsO];(repeat' split) <;> first |omega |rfl) (B15 rfl (by simp[F6,AV.ids,A4])) rfl (st_ ?_);rw[zc (by simp[he])];exact A0 hX rfl se_
 have hs2:=hst he;rw[hs2]at hO1;refine B2 [(7, .cA, .dE last.enc),(9, .cA, .ptr 1 0 0 1),(12, .cA, .dE x.enc),(13, .cA,A4 1 A0h 0 s.hs),(14, .cA,A4 1 X7 dF_ s.ins),(15, .cA,sI s.ins.length),(16, .cA,sI s.re)] (rsO s) (B9 hm ?_) ?_
 ·refine st_ ?_;refine K6 hO2 A5o hO1.ok (λi hi=>hO1.keys.1 i (by simpa[rsO]using hi)) (by simp[upd,go_sem,go_sem_proc]) (λi hi hn=>by have:=hO1.keys.2 i hi;simp[rsO]at hn;simp[upd,rsO];(repeat' split) <;> first |omega |rfl) (B15 rfl (by simp[F6,AV.ids,A4])) rfl (st_ ?_);rw[zb (by simp[he])];rcases hO1 with rfl |⟨old,rfl⟩ |⟨s1,f1,a1,e1,rfl⟩
  ·exact A9 [] [] se_
  ·exact A9 [(4,5)] [] se_
  ·refine A9 [(2,8),(3,9),(4,6)] [] ?_;simp only[go_sem,go_sem_proc,e1,D25]
   all_goals exact eE_
 have E1:=E2p x x hWl;rw[zT rfl]at E1;have E2:=F3o s.hs (by have:=hok.hs;have:=hok.ins;omega)
 have E3:=E01 s.ins hok.ins hok.im;refine B9 hm (st_ ?_);refine V4 C1 (st_ ?_);refine A0 E1 rfl (st_ ?_);refine V4 C2 (st_ ?_);refine A0 E2 rfl (st_ ?_);refine V4 C3 (st_ ?_);refine A0 E3 rfl (st_ ?_);refine V4 C4 (st_ ?_);refine V4 C5 (st_ ?_);exact A0 hX rfl se_
end Go.Abs
end
