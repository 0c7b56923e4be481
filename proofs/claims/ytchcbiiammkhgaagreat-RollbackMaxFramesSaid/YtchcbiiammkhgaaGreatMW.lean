/- A part of the proof: contracts of functions that the statement reaches. -/
import Derived.Test.YtchcbiiammkhgaaGreatMV
set_option linter.unusedSimpArgs false
set_option linter.unusedVariables false
set_option linter.unnecessarySimpa false
set_option maxRecDepth 100000
set_option maxHeartbeats 2000000
noncomputable section
namespace Go.Abs
open Go.Proofs
open Api
theorem G49 {z:Nat}{g:Nat->List AV}{α:Type}{enc:α->List AV}{d x:α}(h:W0 (g 0) (enc x)):M9 (.dsl z 1 g) (.dsl z 1 (I8 enc d [x])):=by
 rw[U4];refine⟨rfl,rfl,λi hi=> ?_⟩;obtain rfl:i=0:=by omega
 exact h
theorem E0b {a b:AV}{l m:List AV}(h:M9 a b)(h2:W0 l m):W0 (a::l) (b::m):=⟨h,h2⟩
def ib:cF:=⟨1,3,⟨⟨0,0⟩,0⟩,⟨0,0⟩,0,⟨0,0⟩,0,0,0,0,false,false,false,false,0,[]⟩
def iw:Api.World:=⟨⟨1024,⟨0,0⟩,1,0⟩,[ib],[],[],[],2,0⟩
def inE:Api.Input:=⟨5,1,⟨65536,0⟩,0,⟨0,0,⟨⟨0,0⟩,0⟩,⟨0,0⟩,0,⟨0,0⟩,0,0,0,0,false,false,false,false,0,[]⟩,⟨0,0,0,0,⟨0,0⟩,⟨0,0⟩,⟨0,0⟩,0,false,0,0,false,0,0,0,0,false,⟨0,0,0,0⟩⟩⟩
theorem E1c:cA_ D9o [] [] (.agg iw.enc) []:=by
 refine M3 5 [(0,some (some 11))] hm A6 Tryz.func67 rfl ?_;simp only[go_sem,go_sem_proc,iw,ib];refine⟨G49 ?_,G8 rfl,G8 rfl,G8 rfl⟩
 (repeat(refine E0b (D0 _) ?_))
 exact E0b (G8 rfl) trivial
theorem C0r {w:Api.World}(hv:B9 w=0):V1 w []=X7 w:=by unfold V1;rw[if_neg (by simpa using hv)];rfl
theorem F8m {w:Api.World}{x:Api.Input}(hw:Wsm w)(hv:B9 w=0)(hx:cF.sm x.cF)(hi:A0l x=0)(hk:x.cS<7)(hf:0<=H5 w x.ID)(hc:A16 (w.cC.getD (H5 w x.ID).toNat dF_) x=0):
  V1 w [x]=X7 (A7b ⟨w.cM,w.cC.set (H5 w x.ID).toNat (W9 (w.cC.getD (H5 w x.ID).toNat dF_) x),w.cD,w.cB,w.cT,w.dJ,w.eK⟩ x.ID):=by
 have h:=((D7p hw hx).2.1 hv hi hk).1 hf hc
 have h1:=congrArg Prod.fst h
 have h2:=congrArg Prod.snd h;dsimp only at h1 h2;unfold V1;rw[if_neg (by simpa using hv)];show X7 (apN [x] w (0+1)).1=_;rw[D7o];show X7 (if(apR w x).2.2=0 then(apR w x).1 else w)=_;rw[if_pos h2,h1]
theorem G1b {s:Ses}(h:A4x s)(hn:s.ins.length<4096){r:Api.World×List Api.Event×Int}(he:V1 (Y5 s) []=r)(hz:r.2.2=0)(hp:(s.ws.length:Int)+1<=s.win+1):
  cA_ L6 [.ptr 1 0 0 1, .sc (.slice none 0 0)] (rsO s) (sI 0) (rsO {s with ins:=s.ins++ [[]],hs:=s.hs++ [ofW r.1],ws:=s.ws++ [r.1]}):=by
 subst he;have hc:I4 [] []=0:=by kernel_rfl
 have:=D6f s [] h ⟨Nat.zero_le _,λx hx=>by cases hx⟩ hn hc hz hp;exact this.args_le ⟨J0.refl _,J0.nil,trivial⟩
def A7f:Api.World:=(X7 iw).1
def E2t:Api.World:=(X7 A7f).1
def G4z:Api.World:=(X7 E2t).1
def F31:Api.World:=A7b ⟨A7f.cM,A7f.cC.set (H5 A7f inE.ID).toNat (W9 (A7f.cC.getD (H5 A7f inE.ID).toNat dF_) inE),A7f.cD,A7f.cB,A7f.cT,A7f.dJ,A7f.eK⟩ inE.ID
def E2s:Api.World:=(X7 F31).1
def F32:Api.World:=(X7 E2s).1
theorem G40:B9 iw=0:=by kernel_rfl
theorem G41:B9 A7f=0:=by kernel_rfl
theorem G7v:B9 E2t=0:=by kernel_rfl
theorem G7w:B9 E2s=0:=by kernel_rfl
theorem G7x:(X7 iw).2.2=0:=by kernel_rfl
theorem G7y:(X7 A7f).2.2=0:=by kernel_rfl
theorem G7z:(X7 E2t).2.2=0:=by kernel_rfl
theorem G70:(X7 F31).2.2=0:=by kernel_rfl
theorem G71:(X7 E2s).2.2=0:=by kernel_rfl
theorem G72:A0l inE=0:=by kernel_rfl
theorem G73:0<=H5 A7f inE.ID:=by
 have:decide (0<=H5 A7f inE.ID)=true:=by kernel_rfl
 exact of_decide_eq_true this
theorem G74:A16 (A7f.cC.getD (H5 A7f inE.ID).toNat dF_) inE=0:=by kernel_rfl
theorem G75:F32.cC.length=1:=by kernel_rfl
theorem G76:(F32.cC.getD 0 dF_).dL.X=65536:=by kernel_rfl
theorem G77:I4 [] [inE]=0:=by kernel_rfl
theorem C7e:Wsm iw:=⟨by decide,by decide,by decide,by decide,λb hb=>by rw[show b=ib from List.mem_singleton.1 hb];exact⟨by decide,λf hf=>by cases hf⟩,λc hc=>by cases hc⟩
theorem E0m:A5r [inE]:=⟨by decide,λx hx=>by rw[List.mem_singleton.1 hx];exact⟨by decide,λf hf=>by cases hf⟩⟩
theorem C0w:A5r []:=⟨by decide,λx hx=>by cases hx⟩
theorem G4x {a b c d:Api.World}{h1 h2 h3:Int}{r1 r2:Api.World×List Api.Event×Int}(e1:V1 b [inE]=r1)(e2:V1 r1.1 []=r2)(c1:r1.2.2=0)(c2:r2.2.2=0):
  D17 ⟨[[],[],[]],[h1,h2,h3],0,[a,b,c,d],8⟩ 1 [inE]= .inl ([[],[inE],[]],[h1,ofW r1.1,ofW r2.1],[a,b,r1.1,r2.1]):=by
 show J8 (B6f _ 1 [inE]) 2 _=_;have s0:B6f ⟨[[],[],[]],[h1,h2,h3],0,[a,b,c,d],8⟩ 1 [inE] 0 ([[]],[h1],[a,b])= .inl ([[],[inE]],[h1,ofW r1.1],[a,b,r1.1]):=by unfold B6f;rw[show A73 ⟨[[],[],[]],[h1,h2,h3],0,[a,b,c,d],8⟩ 1 [inE] (1+0)= [inE]from rfl,show B60 (([[]],[h1],[a,b]):Acc).2.2=b from rfl,e1,if_pos c1];rfl
 have s1:B6f ⟨[[],[],[]],[h1,h2,h3],0,[a,b,c,d],8⟩ 1 [inE] 1 ([[],[inE]],[h1,ofW r1.1],[a,b,r1.1])= .inl ([[],[inE],[]],[h1,ofW r1.1,ofW r2.1],[a,b,r1.1,r2.1]):=by unfold B6f;rw[show A73 ⟨[[],[],[]],[h1,h2,h3],0,[a,b,c,d],8⟩ 1 [inE] (1+1)= []from rfl,show B60 (([[],[inE]],[h1,ofW r1.1],[a,b,r1.1]):Acc).2.2=r1.1 from rfl,e2,if_pos c2];rfl
 rw[show J8 (B6f _ 1 [inE]) 2 (B24 ⟨[[],[],[]],[h1,h2,h3],0,[a,b,c,d],8⟩ 1)=_ from A1v (A1v rfl s0) s1]
theorem E70 {i:List (List Api.Input)}{h:List Int}{re:Int}{w:List Api.World}(hi:i.length<=4096)(hh:h.length=i.length)(hw:0<w.length/\w.length<=65)(hs: ∀x∈w,Wsm x)(hm: ∀x∈i,A5r x):A4x ⟨i,h,re,w,8⟩:=⟨by show(1:Int)<=8/\(8:Int)<=64;decide,hi,hh,hw,hs,hm⟩
theorem D7m {i:List (List Api.Input)}{h:List Int}{re:Int}{w:List Api.World}{last x:Api.World}{E:List Api.Event}(k:A4x ⟨i,h,re,w,8⟩)(hn:i.length<4096)(hl:w.getD (w.length-1) dF_=last)(he:V1 last []=(x,E,0))(hp:(w.length:Int)+1<=8+1):
  cA_ L6 [.ptr 1 0 0 1, .sc (.slice none 0 0)] (rsO ⟨i,h,re,w,8⟩) (sI 0) (rsO ⟨i++ [[]],h++ [ofW x],re,w++ [x],8⟩):=by
 have h2:V1 (Y5 ⟨i,h,re,w,8⟩) []=(x,E,0):=by rw[show Y5 ⟨i,h,re,w,8⟩=last from hl];exact he
 have h3:=G1b k hn h2 (show(0:Int)=0 from rfl) hp;dsimp only at h3;exact h3
def D1z(a b c:Api.World):Ses:=⟨[[],[],[]],[ofW a,ofW b,ofW c],0,[iw,a,b,c],8⟩
def exA(a x y:Api.World):Acc:=([[],[inE],[]],[ofW a,ofW x,ofW y],[iw,a,x,y])
def A9h(a x y:Api.World):Ses:=⟨[[],[inE],[]],[ofW a,ofW x,ofW y],2,[iw,a,x,y],8⟩
theorem G4y {a b c x y:Api.World}{E1 E2 E3 E4 E5:List Api.Event}(e1:V1 iw []=(a,E1,0))(e2:V1 a []=(b,E2,0))(e3:V1 b []=(c,E3,0))(e4:V1 a [inE]=(x,E4,0))(e5:V1 x []=(y,E5,0))
  (ha:Wsm a)(hb:Wsm b)(hc:Wsm c)(hx:Wsm x)(hy:Wsm y)(l1:y.cC.length=1)(l2:(y.cC.getD 0 dF_).dL.X=65536):cA_ C16 [] [] (sB true) []:=by
 have k0:A4x ⟨[],[],0,[iw],8⟩:=E70 (by simp) rfl ⟨by simp,by simp⟩ (by simpa using C7e) (by simp)
 have k1:A4x ⟨[[]],[ofW a],0,[iw,a],8⟩:=E70 (by decide) rfl ⟨by simp,by simp⟩ (by simpa using⟨C7e,ha⟩) (by simpa using C0w)
 have k2:A4x ⟨[[],[]],[ofW a,ofW b],0,[iw,a,b],8⟩:=E70 (by decide) rfl ⟨by simp,by simp⟩ (by simpa using⟨C7e,ha,hb⟩) (by simpa using C0w)
 have k3:A4x (D1z a b c):=E70 (by decide) rfl ⟨by simp,by simp⟩ (by simpa using⟨C7e,ha,hb,hc⟩) (by simpa using C0w)
 have k4:A4x (A9h a x y):=E70 (by decide) rfl ⟨by simp,by simp⟩ (by simpa using⟨C7e,ha,hx,hy⟩) (by simpa using⟨C0w,E0m,C0w⟩)
 have A1:cA_ L6 [.ptr 1 0 0 1, .sc (.slice none 0 0)] (rsO (C8d iw 8)) (sI 0) (rsO ⟨[[]],[ofW a],0,[iw,a],8⟩):=D7m (last:=iw) k0 (by simp) rfl e1 (by show(1:Int)+1<=8+1;decide)
 have A2:cA_ L6 [.ptr 1 0 0 1, .sc (.slice none 0 0)] (rsO ⟨[[]],[ofW a],0,[iw,a],8⟩) (sI 0) (rsO ⟨[[],[]],[ofW a,ofW b],0,[iw,a,b],8⟩):=D7m (last:=a) k1 (by simp) rfl e2 (by show(2:Int)+1<=8+1;decide)
 have A3:cA_ L6 [.ptr 1 0 0 1, .sc (.slice none 0 0)] (rsO ⟨[[],[]],[ofW a,ofW b],0,[iw,a,b],8⟩) (sI 0) (rsO (D1z a b c)):=D7m (last:=b) k2 (by simp) rfl e3 (by show(3:Int)+1<=8+1;decide)
 have I1:cA_ A1m [.ptr 1 0 0 1,sI 1,A4 49 Api.Input.enc dF_ [inE]] (rsO (D1z a b c)) (sI 0) (B8k (D1z a b c) 1 (exA a x y)):=by
  have hE:D17 (D1z a b c) 1 [inE]= .inl (exA a x y):=G4x e4 e5 rfl rfl
  have:=F0s (D1z a b c) 1 [inE] k3 E0m (by show 1<3;decide) (by show(max 0 ((3:Int)-8))<=1;decide) G77 (by show 3-1<4;decide) (by show(4:Int)<=8+1;decide);unfold E2x E2y at this;rw[hE]at this;exact this
 have I2:cA_ A1m [.ptr 1 0 0 1,sI 3,A4 49 Api.Input.enc dF_ [inE]] (rsO (A9h a x y)) (sI 21) (rsO (A9h a x y)):=F0r (A9h a x y) 3 [inE] k4 (.inr (by show(3:Int)<=3;decide))
 have w4:(A9h a x y).win≠0:=by show(8:Int)≠0;decide
 have R4:cA_ A6l [.ptr 1 0 0 1] (rsO (A9h a x y)) (sI 2) (rsO (A9h a x y)):=D8u _ w4
 have F4:cA_ A9y [.ptr 1 0 0 1] (rsO (A9h a x y)) (sI 3) (rsO (A9h a x y)):=E00 _ w4
 have O4:cA_ A6k [.ptr 1 0 0 1] (rsO (A9h a x y)) (sI 0) (rsO (A9h a x y)):=A8q _ k4.win (by show 3<=100000;decide)
 have H4:cA_ A9o [.ptr 1 0 0 1] (rsO (A9h a x y)) (A4 1 A1n 0 [ofW a,ofW x,ofW y]) (rsO (A9h a x y)):=F0q _ w4 (by show 3<=100000;decide)
 have W4:cA_ A9z [.ptr 1 0 0 1] (rsO (A9h a x y)) (.agg y.enc) (rsO (A9h a x y)):=E01 (A9h a x y) w4 (by show 0<4;decide) (by show 4<=100000;decide) hy;refine F8c hm A6 Tryz.func24 rfl rfl ?_;refine B2 [] [] (C7 hm ?_) ?_
 ·refine st_ ?_;exact B0 [] [] se_
 refine B2 [(1, .cA, .ptr 1 0 0 1),(2, .cA,sI 0)] (rsO (C8d iw 8)) (C7 hm ?_) ?_
 ·refine st_ ?_;refine A0 E1c rfl (st_ ?_);refine M1 (O:= []) (E8y iw 8 C7e G40 (by decide)) ⟨by simp,by simp⟩ B07 (by simp) (by simp) (by simp) (by simp[AV.ids,F0,World.enc,A4]) rfl (st_ ?_);exact B0 [] [] se_
 refine B2 [(1, .cA, .ptr 1 0 0 1)] (rsO (D1z a b c)) (C7 hm ?_) ?_
 ·refine st_ ?_;refine V6 (A1) (B9e rfl rfl) (st_ ?_);refine V6 (A2) (B9e rfl rfl) (st_ ?_);refine V6 (A3) (B9e rfl rfl) (st_ ?_);exact B0 [] [] se_
 refine B2 [(1, .cA, .ptr 1 0 0 1),(3, .eQ,A4 49 Api.Input.enc dF_ [inE])] (rsO (D1z a b c)) (C7 hm ?_) ?_
 ·refine st_ ?_;refine B0 [] [] ?_;simp only[go_sem,go_sem_proc]
  all_goals first |exact eE_ |(refine G49 ?_;simp only[inE,go_sem,go_sem_proc];(repeat(first |refine E0b (D0 _) ?_ |refine E0b (G8 rfl) ?_));trivial)
 refine B2 [(1, .cA, .ptr 1 0 0 1),(4, .cA,sI 0),(5, .cA,sI 21)] (rsO (A9h a x y)) (C7 hm ?_) ?_
 ·refine st_ ?_;refine M1 I1 B07 E8m (by simp[rsO,B8k]) (by simp[rsO,rsC,upd,go_sem,go_sem_proc]) (by simp[rsO,B8k,upd]) (B9e rfl rfl) rfl (st_ ?_);refine B5 [true,true,false] [(2,8),(3,9),(4,6)] I2 (by simp[rsO]) (by simp[rsO]) (by simp[rsO,D3]) (by simp[rsO,rsC,A9h,exA,B04,go_sem]) (st_ ?_);refine⟨⟨rfl,rfl,rfl,rfl⟩,?_⟩;exact B0 [(2,8),(3,9),(4,6)] [] se_
 refine C7 hm (st_ ?_);refine A3v R4 (st_ ?_);refine A3v F4 (st_ ?_);refine A3v O4 (st_ ?_);refine A3v H4 (st_ ?_);refine A3v W4 (st_ ?_);refine A3v W4 ?_;simp only[go_sem,go_sem_proc,l1,l2];exact⟨λ_=>by simp,by simp⟩
theorem E1b:cA_ C16 [] [] (sB true) []:=by
 have p1:Wsm A7f:=C1d C7e
 have p2:Wsm E2t:=C1d p1
 have p3:Wsm G4z:=C1d p2
 have hE:=E0m.2 inE (List.mem_singleton.2 rfl)
 have e4:V1 A7f [inE]=X7 F31:=F8m p1 G41 hE G72 (by decide) G73 G74
 have q1:Wsm E2s:=by have:=B9x p1 E0m;rw[e4]at this;exact this
 have q2:Wsm F32:=C1d q1;refine G4y (a:=A7f) (b:=E2t) (c:=G4z) (x:=E2s) (y:=F32) (E1:=(X7 iw).2.1) (E2:=(X7 A7f).2.1) (E3:=(X7 E2t).2.1) (E4:=(X7 F31).2.1) (E5:=(X7 E2s).2.1) ?_ ?_ ?_ ?_ ?_ p1 p2 p3 q1 q2 G75 G76
 ·rw[C0r G40,<-G7x];rfl
 ·rw[C0r G41,<-G7y];rfl
 ·rw[C0r G7v,<-G7z];rfl
 ·rw[e4,<-G70];rfl
 ·rw[C0r G7w,<-G71];rfl
theorem G3h {w:Api.World}{win:Int}(hw:Wsm w)(hn:1<=win/\win<=64):D94 (C8d w win):=by refine⟨⟨hn,Nat.zero_le _,rfl,⟨by show 0<1;decide,by show 1<=65;decide⟩,λx hx=>by rw[List.mem_singleton.1 hx];exact hw,λx hx=>by cases hx⟩,?_⟩;show(1:Int)=min 0 win+1;omega
def mW(k:Int):Api.World:=⟨⟨1024,⟨0,0⟩,1,0⟩,[],[],[],[],1,k⟩
theorem G8g:(λk:Int=>B9 (mW k))=λk=>if(!(inR k 0 1099511627776))=true then 6 else 0:=by kernel_rfl
theorem G5c:fpL [] []= []:=by kernel_rfl
theorem G8f(k:Int):B1w (mW k)= []:=by unfold B1w;rw[show fpL (mW k).cC (mW k).cD= []from G5c];split <;> rfl
theorem G8e(k:Int):ovL (mW k)= []:=by unfold ovL;rw[show fpL (mW k).cC (mW k).cD= []from G5c];split <;> rfl
theorem F8x(k:Int):D6 (mW k)= []:=by unfold D6;rw[show nb (mW k) (H3 (mW k)) (mW k).cC.length=0 from rfl];split <;> rfl
theorem F8w(k:Int):bg0 (mW k)=mW k:=by unfold bg0;rw[G8f];rfl
theorem G8c(k:Int):D1n (mW k)=mW k:=by unfold D1n;rw[F8w,F8x];exact F8w k
theorem G6y:(λk:Int=>(eW0 (mW k)).1)=λk=>mW k:=by kernel_rfl
theorem G8d(k:Int):D8c (mW k)=mW (min (IntKind.i64.wrap (k+1)) 1099511627776):=by
 have h:eW2 (mW k)=mW k:=by unfold eW2;rw[F8x];show(λa:Api.World=>U8 a (a.cC.map I9)) (bkW (eW0 (mW k)).1)=mW k;rw[congrFun G6y k];rfl
 unfold D8c;rw[h,G8e];rfl
theorem E8f {k:Int}(h:0<=k/\k<=4096):B9 (mW k)=0:=by rw[congrFun G8g k,if_neg];simp[inR];omega
theorem G10 {k:Int}(h:0<=k/\k<4096):(X7 (mW k)).1=mW (k+1)/\(X7 (mW k)).2.2=0:=by have hv:=E8f (k:=k) (by omega);unfold X7;rw[if_neg (by simpa using hv),if_neg (by show ¬k=1099511627776;omega)];refine⟨?_,rfl⟩;dsimp only;rw[F8w,F8x,G8c];show(B6d (mW k)).1=_;unfold B6d;rw[if_pos hv];show D8c (mW k)=_;rw[G8d,IntKind.wrap_i64];congr 1;omega
theorem G5b {k:Int}(h:0<=k/\k<4096):(V1 (mW k) []).1=mW (k+1)/\(V1 (mW k) []).2.2=0:=by rw[C0r (E8f (by omega))];exact G10 h
theorem G0j(k:Int):Wsm (mW k):=⟨Nat.zero_le _,Nat.zero_le _,Nat.zero_le _,Nat.zero_le _,(λb hb=>by cases hb),(λc hc=>by cases hc)⟩
theorem C8w {α:Type}{l:List α}{x d:α}{i:Nat}(h:i=l.length):(l++ [x]).getD i d=x:=by subst h;simp[List.getD]
def aS(s:Ses)(k:Nat):Ses:=itr (λ_ s=>(C0c s []).2) k s
theorem F08(s:Ses)(k:Nat):aS s (k+1)=(C0c (aS s k) []).2:=H6 ..
theorem F09(s:Ses):aS s 0=s:=J3 ..
structure E6d (n:Int) (k:Nat) (s:Ses):Prop where
 i:D94 s
 l:s.ins.length=k
 w:Y5 s=mW k
 n:s.win=n
theorem F43 {n:Int}{k:Nat}{s:Ses}(h:E6d n k s)(hk:k<4096):(C0c s []).1=0/\E6d n (k+1) (C0c s []).2:=by
 obtain⟨h1,h2,h3,h4⟩:=h;have hc:I4 [] []=0:=by kernel_rfl
 obtain⟨g1,g2⟩:=G5b (k:=k) (by omega);have hi:=(G1k (c:=⟨false,0,[]⟩) h1 C0w).1;rw[show(E7j s ⟨false,0,[]⟩)=C0c s []from if_neg (by simp)]at hi;have hws:=h1.ok.ws;unfold C0c at hi⊢;rw[if_neg (by omega),if_neg (by simpa using hc),h3,if_neg (by simpa using g2),g1]at hi⊢;refine⟨rfl,hi,by simp[h2],?_,h4⟩;unfold Y5;dsimp only;split
 ·rw[C8w (by rw[List.length_append,List.length_singleton];omega)];congr 1
 ·rw[List.length_drop,List.length_append,List.length_singleton];rw[show((s.ws++ [mW (k+1)]).drop 1).getD (s.ws.length+1-1-1) dF_=(s.ws++ [mW (k+1)]).getD (1+(s.ws.length+1-1-1)) dF_ by simp only[List.getD,List.getElem?_drop]];rw[C8w (by omega)];congr 1
theorem G0d {n:Int}{s:Ses}(h:E6d n 0 s): ∀k,k<=4096->E6d n k (aS s k)
 |0,_=>by rw[F09];exact h
 |k+1,hk=>by rw[F08];exact(F43 (G0d h k (by omega)) (by omega)).2
theorem B9p(x:Int)(hx:0<=x/\x<256):cA_ B85 [.sc (.int .u8 x)] [] (sB true) []:=by
 have hX:=E1b
 have hn:1<=IntKind.i64.wrap (1+Int.tmod x 64)/\IntKind.i64.wrap (1+Int.tmod x 64)<=64:=by
  have h1:=Int.tmod_nonneg (a:=x) 64 hx.1
  have h2:=Int.tmod_lt_of_pos x (b:=64) (by omega);rw[IntKind.wrap_i64];omega
 refine F8c hm A6 Tryz.func4 rfl rfl ?_;refine B2 [(0, .cA, .sc (.int .u8 x))] [] (C7 hm ?_) ?_
 ·refine st_ ?_;exact B0 [] [] se_
 refine B2 [(3, .cA,sI (IntKind.i64.wrap (1+Int.tmod x 64)))] [] (C7 hm ?_) ?_
 ·refine st_ ?_;refine⟨by omega,?_⟩;refine B0 [] [] (st_ ?_);rw[show IntKind.i64.wrap x=x by rw[IntKind.wrap_i64];omega]
 generalize IntKind.i64.wrap (1+Int.tmod x 64)=n at hn⊢;have hN:=E8y (mW 0) n (G0j 0) (E8f (by omega)) hn
 have h0:E6d n 0 (C8d (mW 0) n):=⟨G3h (G0j 0) hn,rfl,rfl,rfl⟩;refine B2 [(3, .cA,sI n),(4, .cA, .ptr 1 0 0 1),(5, .cA,sI 0)] (rsO (C8d (mW 0) n)) (C7 hm ?_) ?_
 ·refine st_ ?_;refine M1 (O:= []) (hN.args_le (args:= [.agg [sI 1024,sI 0,sI 0,sI 1,sI 0, .sc (.slice none 0 0), .sc (.slice none 0 0), .sc (.slice none 0 0), .sc (.slice none 0 0),sI 1,sI 0],sI n]) ⟨A6b _ _ (by simp[World.enc,mW,M9,W0,A4]),J0.refl _,trivial⟩) ⟨by simp,by simp⟩ B07 (by simp) (by simp) (by simp) (by simp[AV.ids,F0]) rfl (st_ ?_);exact B0 [] [] se_
 refine B2 [(3, .cA,sI n),(4, .cA, .ptr 1 0 0 1)] (rsO (C8d (mW 0) n)) (C7 hm ?_) ?_
 ·refine st_ ?_;exact B0 [] [] se_
 generalize C8d (mW 0) n=s0 at h0⊢;have hA:=G0d h0;refine D7k (B2 [(3, .cA,sI n),(4, .cA, .ptr 1 0 0 1),(6, .cA,sI (0:Nat))] (rsO s0) (C7 hm ?_) (Y7 ?_))
 ·refine st_ ?_;exact B0 [] [] se_
 refine E3u (ι:= {k:Nat // k<=4096}) (λk=> [(3, .cA,sI n),(4, .cA, .ptr 1 0 0 1),(6, .cA,sI (k.1:Nat))]) (λk=>rsO (aS s0 k.1)) (λk=>4096-k.1) ⟨0,Nat.zero_le _⟩ ?_ ?_
 ·show V9 _ _ [(3, .cA,sI n),(4, .cA, .ptr 1 0 0 1),(6, .cA,sI (0:Nat))] (rsO (aS s0 0));rw[F09];exact B0 [] [] se_
 rintro⟨k,hk⟩;dsimp only;have hAk:=hA k hk;by_cases hlt:k<4096
 ·obtain⟨O,hO1,hO2⟩:=G64 (aS s0 k) [] hAk.i C0w;obtain⟨g1,g2⟩:=F43 hAk hlt;rw[<-F08]at hO1;rw[g1]at hO2;refine C7 hm ?_;generalize aS s0 k=s at hO2 hAk⊢;refine st_ ?_;rw[if_pos (by omega)];refine M1 (hO2.args_le (args:= [.ptr 1 0 0 1, .sc (.slice none 0 0)]) ⟨J0.refl _,J0.nil,trivial⟩) B07 hO1.ok (λi hi=>hO1.keys.1 i (by simpa[rsO]using hi)) (by simp[rsO,rsC,upd,go_sem,go_sem_proc]) (λi hi hn=>by have:=hO1.keys.2 i hi;simp[rsO]at hn;simp[upd,rsO];(repeat' split) <;> first |omega |rfl) (B9e rfl (by simp[F0,AV.ids,A4])) rfl (st_ ?_);rw[if_neg (by simp)]
  (try simp only[go_sem,go_sem_proc])
  refine A8 ⟨k+1,hlt⟩ (by dsimp only;omega) ?_;dsimp only;generalize aS s0 (k+1)=s' at hO1⊢;rcases hO1 with rfl |⟨old,rfl⟩ |⟨s1,f1,a1,e1,rfl⟩
  ·exact B0 [] [] se_
  ·exact B0 [(4,5)] [] se_
  ·refine B0 [(2,8),(3,9),(4,6)] [] ?_;simp only[go_sem,go_sem_proc,e1,E76]
   all_goals exact eE_
 obtain rfl:k=4096:=by omega
 refine C7 hm ?_;obtain⟨a1,a2,a3,a4⟩:=hAk;generalize aS s0 4096=s at a1 a2 a3 a4⊢;have hok:=a1.ok
 have hw1:s.win≠0:=by omega
 have C0:=D2r s [] hok (by omega)
 have C1:=E01 s hw1 hok.ws.1 (by have:=hok.ws;omega) hok.last;rw[show s.ws.getD (s.ws.length-1) dF_=Y5 s from rfl,a3]at C1;have C4:=E00 s hw1;rw[a2]at C4;have C5:=A8q s hok.win (by omega)
 have ho:C7j s=4096-n:=by unfold C7j;rw[a2,a4];omega
 rw[ho]at C5;have hwr:IntKind.i64.wrap (4096-n)=4096-n:=by rw[IntKind.wrap_i64];omega
 refine st_ ?_;rw[if_neg (by omega)]
 (try simp only[go_sem,go_sem_proc])
 refine E60 (T:= [(3, .cA,sI n),(4, .cA, .ptr 1 0 0 1)]) (O:=rsO s) ?_ (C7 hm ?_)
 ·exact B0 [] [] se_
 refine st_ ?_;refine V6 (C0.args_le (args:= [.ptr 1 0 0 1, .sc (.slice none 0 0)]) ⟨J0.refl _,J0.nil,trivial⟩) (B9e rfl rfl) (st_ ?_);refine A3v C4 (st_ ?_);refine A3v C5 ?_;simp only[go_sem,go_sem_proc,hwr];refine A3v C1 (st_ ?_);refine A0 hX rfl (st_ ?_);simp;rfl
end Go.Abs
end
