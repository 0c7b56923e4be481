/- A part of the proof: contracts of functions that the statement reaches. -/
import Derived.Test.YtchcbiiammkhgaaGreatMS
set_option linter.unusedSimpArgs false
set_option linter.unusedVariables false
set_option linter.unnecessarySimpa false
set_option maxRecDepth 100000
set_option maxHeartbeats 2000000
noncomputable section
namespace Go.Abs
open Go.Proofs
open Api
def A98(w:Api.World)(id:Int):Bool:=decide (0<=H7 w id)&&((w.Bodies.getD (H7 w id).toNat default).Kind==3)
theorem B2t(w:Api.World)(id:Int)(hw:w.Bodies.length<=1048576):A1 Tryz.prog D38 [.agg w.enc,sI id] [] (.tup [sI (H7 w id),sB (A98 w id)]) []:=by have hf:=A24 w id;refine enT hm A4 Tryz.func258 rfl rfl ?_;simp only[go_sem];refine A0 (A2a w id hw) rfl ?_;simp only[go_sem,B4];refine⟨λh=>ok_,?_⟩;rfl
def rt(g:List Int):Nat->Int->Int
 |0,i=>i
 |k+1,i=>if g.getD i.toNat 0=i then i else rt g k (g.getD i.toNat 0)
def M6(g:List Int)(i:Int):Int:=rt g i.toNat i
def UF(g:List Int):Prop:= ∀i:Nat,i<g.length->0<=g.getD i 0/\g.getD i 0<=(i:Int)
theorem E5k {g:List Int}{i:Int}(h:g.getD i.toNat 0=i): ∀k,rt g k i=i
 |0=>rfl
 |k+1=>by rw[rt,if_pos h]
theorem D1z {g:List Int}(hg:UF g): ∀(k:Nat) (i:Int),0<=i->i<(g.length:Int)->i.toNat<=k->rt g k i=M6 g i
 |0,i,h0,h1,hk=>by unfold M6;rw[show i.toNat=0 by omega]
 |k+1,i,h0,h1,hk=>by
  obtain⟨a,b⟩:=hg i.toNat (by omega);unfold M6;by_cases he:g.getD i.toNat 0=i
  ·rw[E5k he,E5k he]
  ·cases hn:i.toNat with
   |zero=>rw[hn]at a b he;omega
   |succ n=>
    have hj:g.getD (n+1) 0≠i:=by rw[hn]at he;exact he
    rw[hn]at a b;rw[rt,rt,hn,if_neg hj,if_neg hj,D1z hg k _ a (by omega) (by omega),D1z hg n _ a (by omega) (by omega)]
theorem C0y {g:List Int}(hg:UF g){i:Int}(h0:0<=i)(h1:i<(g.length:Int))(hn:g.getD i.toNat 0≠i):M6 g (g.getD i.toNat 0)=M6 g i:=by obtain⟨a,b⟩:=hg i.toNat (by omega);have:M6 g i=rt g (i.toNat+1) i:=(D1z hg (i.toNat+1) i h0 h1 (by omega)).symm;rw[this,rt,if_neg hn,D1z hg _ _ a (by omega) (by omega)]
theorem B9h {g:List Int}{i:Int}(h:g.getD i.toNat 0=i):M6 g i=i:=E5k h _
theorem E5j {g:List Int}(hg:UF g): ∀(k:Nat) (i:Int),i.toNat<=k->0<=i->i<(g.length:Int)->0<=M6 g i/\M6 g i<=i/\g.getD (M6 g i).toNat 0=M6 g i
 |k,i,hk,h0,h1=>by
  obtain⟨a,b⟩:=hg i.toNat (by omega);by_cases he:g.getD i.toNat 0=i
  ·rw[B9h he];exact⟨h0,Int.le_refl _,he⟩
  ·rw[<-C0y hg h0 h1 he];cases k with
   |zero=>omega
   |succ k=>have:=E5j hg k (g.getD i.toNat 0) (by omega) a (by omega);exact⟨this.1,by omega,this.2.2⟩
theorem A89 {g:List Int}(hg:UF g){i:Int}(h0:0<=i)(h1:i<(g.length:Int)):0<=M6 g i/\M6 g i<=i/\g.getD (M6 g i).toNat 0=M6 g i:=E5j hg _ i (Nat.le_refl _) h0 h1
theorem D71(g:List Int)(i:Int)(hg:UF g)(h0:0<=i)(h1:i<(g.length:Int)):A1 Tryz.prog B01 [.sl 1 0 g.length g.length,sI i] [(1, .arr 1 (A8 B9 0 g))] (sI (M6 g i)) [(1, .arr 1 (A8 B9 0 g))]:=by
 refine H8 hm A4 Tryz.func159 rfl rfl ?_;simp only[go_sem];refine B0 hm (ι:= {j:Int // 0<=j/\j<(g.length:Int)/\M6 g j=M6 g i}) (λj=> [(0, .share, .sl 1 0 g.length g.length),(1, .share,sI j.1)])
  (λ_=> [(1, .arr 1 (A8 B9 0 g))]) (λj=>j.1.toNat) ⟨i,h0,h1,rfl⟩ ?_ ?_
 ·refine D7 [] [] ?_;simp only[go_sem]
 ·rintro⟨j,hj0,hj1,hj⟩;obtain⟨a,b⟩:=hg j.toNat (by omega);simp only[go_sem];refine⟨ok_,?_⟩;by_cases he:g.getD j.toNat 0=j
  ·rw[if_neg (by rw[he];simp)];refine C8 [.share] [] [] rfl rfl (by simp[go_sem]) (by simp[A6,go_sem]) (by simp[go_sem]) ?_;simp only[go_sem];rw[<-hj,B9h he]
  ·rw[if_pos (by simpa using he)];refine⟨ok_,?_⟩;refine A7 ⟨g.getD j.toNat 0,a,by omega,by rw[C0y hg hj0 hj1 he,hj]⟩ (by show(g.getD j.toNat 0).toNat<j.toNat;omega) (D7 [] [] ?_);simp only[go_sem]
theorem D3u(g:List Int)(i:Int)(hg:UF g)(h0:0<=i)(h1:i<(g.length:Int)):A1 Tryz.prog B01 [A2 1 B9 0 g,sI i] [] (sI (M6 g i)) []:=by
 refine en1 hm A4 Tryz.func159 rfl rfl ?_;simp only[go_sem];refine B0 hm (ι:= {j:Int // 0<=j/\j<(g.length:Int)/\M6 g j=M6 g i}) (λj=> [(0, .share,A2 1 B9 0 g),(1, .share,sI j.1)])
  (λ_=> []) (λj=>j.1.toNat) ⟨i,h0,h1,rfl⟩ ?_ ?_
 ·refine D7 [] [] ?_;simp only[go_sem]
 ·rintro⟨j,hj0,hj1,hj⟩;obtain⟨a,b⟩:=hg j.toNat (by omega);simp only[go_sem];refine⟨ok_,?_⟩;by_cases he:g.getD j.toNat 0=j
  ·rw[if_neg (by rw[he];simp)];rw[<-hj,B9h he]
  ·rw[if_pos (by simpa using he)];refine⟨ok_,?_⟩;refine A7 ⟨g.getD j.toNat 0,a,by omega,by rw[C0y hg hj0 hj1 he,hj]⟩ (by show(g.getD j.toNat 0).toNat<j.toNat;omega) (D7 [] [] ?_);simp only[go_sem]
def B2o(a b:Int):Int:=if a<b then b else a
def B5i(a b:Int):Int:=if b<a then b else a
def uni(w:Api.World)(g:List Int)(a b:Int):List Int:=if(A98 w a&&A98 w b)=true then g.set (B2o (M6 g (H7 w a)) (M6 g (H7 w b))).toNat (B5i (M6 g (H7 w a)) (M6 g (H7 w b)))else g
theorem E9j(w:Api.World)(g:List Int)(a b:Int):(uni w g a b).length=g.length:=by unfold uni;split <;> simp
theorem B25 {w:Api.World}{a:Int}(h:A98 w a=true):0<=H7 w a/\H7 w a<(w.Bodies.length:Int):=by unfold A98 at h;simp only[Bool.and_eq_true,decide_eq_true_eq]at h;exact⟨h.1,(A24 w a).2⟩
theorem F4d {w:Api.World}{g:List Int}(hg:UF g)(hl:g.length=w.Bodies.length)(a b:Int):UF (uni w g a b):=by
 unfold uni;split
 ·rename_i h;rw[Bool.and_eq_true]at h;obtain⟨a0,a1⟩:=B25 h.1;obtain⟨b0,b1⟩:=B25 h.2;obtain⟨x0,x1,_⟩:=A89 hg a0 (by omega);obtain⟨y0,y1,_⟩:=A89 hg b0 (by omega);intro i hi;rw[List.length_set]at hi;generalize M6 g (H7 w a)=x at*;generalize M6 g (H7 w b)=y at*;have hmm:0<=B5i x y/\B5i x y<=B2o x y/\B2o x y<(g.length:Int):=by unfold B5i B2o;split <;> split <;> omega
  generalize B2o x y=p at*;generalize B5i x y=q at*;rw[C5a _ _ _ _ _ (by omega)];split
  ·rename_i he;subst he;omega
  ·exact hg i hi
 ·exact hg
theorem E9e(w:Api.World)(g:List Int)(a b:Int)(hg:UF g)(hl:g.length=w.Bodies.length)(hw:w.Bodies.length<=1048576):
  A1 Tryz.prog B8t [.sl 1 0 g.length g.length, .agg w.enc,sI a,sI b] [(1, .arr 1 (A8 B9 0 g))] (.tup []) [(1, .arr 1 (A8 B9 0 (uni w g a b)))]:=by
 refine A7s hm A4 Tryz.func257 rfl rfl ?_;simp only[go_sem];refine A0 (B2t w a hw) rfl ?_;simp only[go_sem];refine A0 (B2t w b hw) rfl ?_;simp only[go_sem,B4,A9];cases hd:(A98 w a&&A98 w b)with
 |false=>
  have hu:uni w g a b=g:=by unfold uni;rw[if_neg (by rw[hd];simp)]
  rw[if_neg (by simp)];refine C8 [] [] [] rfl rfl (by simp[go_sem]) (by simp[A6,go_sem]) (by simp[go_sem]) ?_;simp only[go_sem,hu]
 |true=>
  have hu:uni w g a b=g.set (B2o (M6 g (H7 w a)) (M6 g (H7 w b))).toNat (B5i (M6 g (H7 w a)) (M6 g (H7 w b))):=by unfold uni;rw[if_pos hd]
  rw[if_pos rfl];rw[Bool.and_eq_true]at hd;obtain⟨a0,a1⟩:=B25 hd.1;obtain⟨b0,b1⟩:=B25 hd.2;obtain⟨x0,x1,_⟩:=A89 hg a0 (by omega);obtain⟨y0,y1,_⟩:=A89 hg b0 (by omega);refine Y4 (D71 g (H7 w a) hg a0 (by omega)) (by refine⟨by simp,?_⟩;simp) rfl (by simp[go_sem]) (by simp[go_sem,AV.ids]) rfl ?_;simp only[go_sem];refine Y4 (D71 g (H7 w b) hg b0 (by omega)) (by refine⟨by simp,?_⟩;simp) rfl (by simp[go_sem]) (by simp[go_sem,AV.ids]) rfl ?_;simp only[go_sem];have hmx:0<=B2o (M6 g (H7 w a)) (M6 g (H7 w b))/\B2o (M6 g (H7 w a)) (M6 g (H7 w b))<(g.length:Int):=by unfold B2o;split <;> omega
  have e1:(if M6 g (H7 w a)<M6 g (H7 w b)then M6 g (H7 w b)else M6 g (H7 w a))=B2o (M6 g (H7 w a)) (M6 g (H7 w b)):=rfl
  have e2:(if M6 g (H7 w b)<M6 g (H7 w a)then M6 g (H7 w b)else M6 g (H7 w a))=B5i (M6 g (H7 w a)) (M6 g (H7 w b)):=rfl;simp only[e1,e2];refine⟨⟨hmx.1,hmx.2⟩,?_⟩;refine C8 [] [] [] rfl rfl (by simp[go_sem]) (by simp[A6,go_sem]) (by simp[go_sem]) ?_;simp only[go_sem,hu];exact A2q (B5i (M6 g (H7 w a)) (M6 g (H7 w b))) (by omega) rfl rfl
def idL(n:Nat):List Int:=(List.range n).map λ(i:Nat)=>(i:Int)
theorem A54(n:Nat):(idL n).length=n:=by simp[idL]
theorem E8t {n i:Nat}(h:i<n):(idL n).getD i 0=i:=by simp[idL,List.getD,h]
theorem G1k(n:Nat):UF (idL n):=λi hi=>by rw[A54]at hi;rw[E8t hi];omega
def uC(w:Api.World)(g:List Int)(c:Contact):List Int:=uni w g c.Key.BodyA c.Key.BodyB
def uJ(w:Api.World)(g:List Int)(j:Joint):List Int:=uni w g j.BodyA j.BodyB
def B3u(w:Api.World)(k:Nat):List Int:=(w.Contacts.take k).foldl (uC w) (idL w.Bodies.length)
def B2k(w:Api.World)(k:Nat):List Int:=(w.Joints.take k).foldl (uJ w) (B3u w w.Contacts.length)
def F1(w:Api.World):List Int:=B2k w w.Joints.length
def UFn(w:Api.World)(g:List Int):Prop:=UF g/\g.length=w.Bodies.length
theorem D08(w:Api.World): ∀k,k<=w.Contacts.length->UFn w (B3u w k)
 |0,_=>⟨G1k _,A54 _⟩
 |k+1,h=>by
  have ih:=D08 w k (by omega)
  have:B3u w (k+1)=uC w (B3u w k) (w.Contacts.getD k default):=by unfold B3u;rw[K9 default (by omega),List.foldl_append];rfl
  rw[this];exact⟨F4d ih.1 ih.2 _ _,by unfold uC;rw[E9j];exact ih.2⟩
theorem D09(w:Api.World): ∀k,k<=w.Joints.length->UFn w (B2k w k)
 |0,_=>D08 w _ (Nat.le_refl _)
 |k+1,h=>by
  have ih:=D09 w k (by omega)
  have:B2k w (k+1)=uJ w (B2k w k) (w.Joints.getD k default):=by unfold B2k;rw[K9 default (by omega),List.foldl_append];rfl
  rw[this];exact⟨F4d ih.1 ih.2 _ _,by unfold uJ;rw[E9j];exact ih.2⟩
theorem E8k(w:Api.World):UFn w (F1 w):=D09 w _ (Nat.le_refl _)
def idP(n i:Nat):List Int:=idL i++List.replicate (n-i) 0
theorem E8u {n i:Nat}(h:i<=n):(idP n i).length=n:=by simp[idP,A54];omega
theorem F8q {n i:Nat}(h:i<n):(idP n i).set i (i:Int)=idP n (i+1):=by
 apply List.ext_getElem?;intro j;have hr:n-i=(n-(i+1))+1:=by omega
 unfold idP;rw[List.getElem?_set];by_cases hj:i=j
 ·subst hj;rw[if_pos rfl,if_pos (by simp[A54];omega),List.getElem?_append_left (by rw[A54];omega)];simp[idL]
 ·rw[if_neg hj];rcases Nat.lt_or_ge j i with h1 |h1
  ·rw[List.getElem?_append_left (by rw[A54];exact h1),List.getElem?_append_left (by rw[A54];omega)];simp[idL,h1,show j<i+1 by omega]
  ·rw[List.getElem?_append_right (by rw[A54];exact h1),List.getElem?_append_right (by rw[A54];omega),A54,A54];simp only[List.getElem?_replicate];congr 1;simp only[eq_iff_iff];omega
theorem F33(w:Api.World)(hw:Wsm w):A1 Tryz.prog D37 [.agg w.enc] [] (A2 1 B9 0 (F1 w)) []:=by
 obtain⟨w1,w2,w3,w4,w5,w6⟩:=hw;refine en1 hm A4 Tryz.func158 rfl rfl ?_;simp only[go_sem];refine⟨ok_,?_⟩;refine B0 hm (ι:= {i:Nat // i<=w.Bodies.length}) (λi=> [(1, .share, .ptr 32 0 0 1),(3, .share, .sl 1 0 w.Bodies.length w.Bodies.length),(14, .share,sI w.Bodies.length),(15, .share,sI i.1)])
  (λi=> [(32, .box w.enc),(1, .arr 1 (A8 B9 0 (idP w.Bodies.length i.1)))]) (λi=>w.Bodies.length-i.1) ⟨0,by omega⟩ ?_ ?_
 ·refine D7 [(1,208)] [] ?_;simp only[go_sem];refine⟨rfl,(E8u (Nat.zero_le _)).symm,λk hk=> ?_⟩;have hk:k<w.Bodies.length:=hk
  have:(idP w.Bodies.length 0).getD k 0=0:=by simp[idP,idL,List.getD,hk]
  simp only[F2s,C9c,this];exact L3 _
 ·rintro⟨i,hi⟩;have hpl:=E8u hi;simp only[go_sem];by_cases hlt:(i:Int)<w.Bodies.length
  ·rw[if_pos hlt];have hlt:i<w.Bodies.length:=by omega
   refine⟨⟨by omega,by omega,by omega⟩,hpl.symm,?_⟩;refine A7 ⟨i+1,by omega⟩ (by show w.Bodies.length-(i+1)<w.Bodies.length-i;omega) (D7 [] [] ?_);simp only[go_sem];exact⟨(by rw[IntKind.wrap_i64];omega),A2q (i:Int) (by omega) rfl (F8q hlt)⟩
  ·rw[if_neg hlt];obtain rfl:i=w.Bodies.length:=by omega
   have hid:idP w.Bodies.length w.Bodies.length=idL w.Bodies.length:=by simp[idP]
   refine B0 hm (ι:= {i:Nat // i<=w.Contacts.length}) (λi=> [(1, .share, .ptr 32 0 0 1),(3, .share, .sl 1 0 w.Bodies.length w.Bodies.length),(24, .share,A2 7 Contact.enc default w.Contacts),(25, .share,sI w.Contacts.length),(26, .share,sI i.1)])
    (λi=> [(32, .box w.enc),(1, .arr 1 (A8 B9 0 (B3u w i.1)))]) (λi=>w.Contacts.length-i.1) ⟨0,by omega⟩ ?_ ?_
   ·refine D7 [] [] ?_;simp only[go_sem,hid];exact A3p rfl
   ·rintro⟨i,hi⟩;obtain⟨hu,hl⟩:=D08 w i hi;simp only[go_sem];by_cases hlt:(i:Int)<w.Contacts.length
    ·rw[if_pos hlt];have hlt:i<w.Contacts.length:=by omega
     have hs:B3u w (i+1)=uC w (B3u w i) (w.Contacts.getD i default):=by unfold B3u;rw[K9 default (by omega),List.foldl_append];rfl
     have hU:=E9e w (B3u w i) (w.Contacts.getD i default).Key.BodyA (w.Contacts.getD i default).Key.BodyB hu hl w1;rw[hl]at hU;refine⟨ok_,?_⟩;refine Y4 hU (by refine⟨by simp,?_⟩;simp) rfl (by simp[go_sem]) (by simp[go_sem,AV.ids]) rfl ?_;simp only[go_sem];refine A7 ⟨i+1,by omega⟩ (by show w.Contacts.length-(i+1)<w.Contacts.length-i;omega) (D7 [] [] ?_);simp only[go_sem];exact⟨(by rw[IntKind.wrap_i64];omega),A3p hs.symm⟩
    ·rw[if_neg hlt];obtain rfl:i=w.Contacts.length:=by omega
     refine B0 hm (ι:= {i:Nat // i<=w.Joints.length}) (λi=> [(1, .share, .ptr 32 0 0 1),(3, .share, .sl 1 0 w.Bodies.length w.Bodies.length),(41, .share,A2 24 Joint.enc default w.Joints),(42, .share,sI w.Joints.length),(43, .share,sI i.1)])
      (λi=> [(32, .box w.enc),(1, .arr 1 (A8 B9 0 (B2k w i.1)))]) (λi=>w.Joints.length-i.1) ⟨0,by omega⟩ ?_ ?_
     ·refine D7 [] [] ?_;simp only[go_sem];exact A3p rfl
     ·rintro⟨i,hi⟩;obtain⟨hu,hl⟩:=D09 w i hi;simp only[go_sem];by_cases hlt:(i:Int)<w.Joints.length
      ·rw[if_pos hlt];have hlt:i<w.Joints.length:=by omega
       have hs:B2k w (i+1)=uJ w (B2k w i) (w.Joints.getD i default):=by unfold B2k;rw[K9 default (by omega),List.foldl_append];rfl
       have hU:=E9e w (B2k w i) (w.Joints.getD i default).BodyA (w.Joints.getD i default).BodyB hu hl w1;rw[hl]at hU;refine⟨ok_,?_⟩;refine Y4 hU (by refine⟨by simp,?_⟩;simp) rfl (by simp[go_sem]) (by simp[go_sem,AV.ids]) rfl ?_;simp only[go_sem];refine A7 ⟨i+1,by omega⟩ (by show w.Joints.length-(i+1)<w.Joints.length-i;omega) (D7 [] [] ?_);simp only[go_sem];exact⟨(by rw[IntKind.wrap_i64];omega),A3p hs.symm⟩
      ·rw[if_neg hlt];obtain rfl:i=w.Joints.length:=by omega
       have hcl:=(E8k w).2
       have hcc:B2k w w.Joints.length=F1 w:=rfl;simp only[go_sem,hcc,hcl]
def kd(w:Api.World)(i:Nat):Bool:=(w.Bodies.getD i default).Kind==3
def DG(w:Api.World)(g:List Int):Prop:= ∀i:Nat,i<g.length->g.getD i 0≠(i:Int)->kd w i=true/\kd w (g.getD i 0).toNat=true
theorem C5m {w:Api.World}{g:List Int}(hg:UF g)(hd:DG w g): ∀(k:Nat) (i:Int),i.toNat<=k->0<=i->i<(g.length:Int)->kd w i.toNat=true->kd w (M6 g i).toNat=true
 |k,i,hk,h0,h1,hi=>by
  obtain⟨a,b⟩:=hg i.toNat (by omega);by_cases he:g.getD i.toNat 0=i
  ·rw[B9h he];exact hi
  ·rw[<-C0y hg h0 h1 he];obtain⟨d1,d2⟩:=hd i.toNat (by omega) (by omega);cases k with
   |zero=>omega
   |succ k=>exact C5m hg hd k _ (by omega) a (by omega) d2
theorem D9g {w:Api.World}{a:Int}(h:A98 w a=true):kd w (H7 w a).toNat=true:=by unfold A98 at h;rw[Bool.and_eq_true]at h;exact h.2
theorem F4c {w:Api.World}{g:List Int}(hg:UF g)(hl:g.length=w.Bodies.length)(hd:DG w g)(a b:Int):DG w (uni w g a b):=by
 unfold uni;split
 ·rename_i h;rw[Bool.and_eq_true]at h;obtain⟨a0,a1⟩:=B25 h.1;obtain⟨b0,b1⟩:=B25 h.2;obtain⟨x0,x1,_⟩:=A89 hg a0 (by omega);obtain⟨y0,y1,_⟩:=A89 hg b0 (by omega);have k1:=C5m hg hd _ _ (Nat.le_refl _) a0 (by omega) (D9g h.1)
  have k2:=C5m hg hd _ _ (Nat.le_refl _) b0 (by omega) (D9g h.2);generalize M6 g (H7 w a)=x at*;generalize M6 g (H7 w b)=y at*;have hmm:0<=B5i x y/\B5i x y<=B2o x y/\B2o x y<(g.length:Int)/\kd w (B2o x y).toNat=true/\kd w (B5i x y).toNat=true:=by unfold B5i B2o;split <;> split <;> (refine⟨by omega,by omega,by omega,?_,?_⟩ <;> assumption)
  generalize B2o x y=p at*;generalize B5i x y=q at*;intro i hi hne;rw[List.length_set]at hi;rw[C5a _ _ _ _ _ (by omega)]at hne⊢;by_cases he:i=p.toNat
  ·rw[if_pos he]at hne⊢;subst he;exact⟨hmm.2.2.2.1,hmm.2.2.2.2⟩
  ·rw[if_neg he]at hne⊢;exact hd i hi hne
 ·exact hd
theorem G1j(w:Api.World)(n:Nat):DG w (idL n):=λi hi hne=>by rw[A54]at hi;exact absurd (E8t hi) hne
theorem E8i(w:Api.World): ∀k,k<=w.Contacts.length->DG w (B3u w k)
 |0,_=>G1j w _
 |k+1,h=>by
  have ih:=D08 w k (by omega)
  have:B3u w (k+1)=uC w (B3u w k) (w.Contacts.getD k default):=by unfold B3u;rw[K9 default (by omega),List.foldl_append];rfl
  rw[this];exact F4c ih.1 ih.2 (E8i w k (by omega)) _ _
theorem E8j(w:Api.World): ∀k,k<=w.Joints.length->DG w (B2k w k)
 |0,_=>E8i w _ (Nat.le_refl _)
 |k+1,h=>by
  have ih:=D09 w k (by omega)
  have:B2k w (k+1)=uJ w (B2k w k) (w.Joints.getD k default):=by unfold B2k;rw[K9 default (by omega),List.foldl_append];rfl
  rw[this];exact F4c ih.1 ih.2 (E8j w k (by omega)) _ _
theorem F8f(w:Api.World):DG w (F1 w):=E8j w _ (Nat.le_refl _)
def B18(nm:List (Int×Int))(k:Int):Int:=match nm with
 | []=>0
 |(a,v)::r=>if(k==a)=true then v else B18 r k
def C83(nm:List (Int×Int))(k v:Int):List (Int×Int):=match nm with
 | []=> [(k,v)]
 |(a,u)::r=>if(k==a)=true then(a,v)::r else(a,u)::C83 r k v
def nmE(nm:List (Int×Int)):List (Int×AV):=nm.map λp=>(p.1,sI p.2)
theorem C5f(k:Int): ∀nm:List (Int×Int),(B7c (nmE nm) k).getD (sI 0)=sI (B18 nm k)
 | []=>rfl
 |(a,v)::r=>by
  have ih:=C5f k r;simp only[nmE,List.map_cons,B7c,B18]at ih⊢;by_cases h:(k==a)=true
  ·rw[if_pos h,if_pos h];rfl
  ·rw[if_neg h,if_neg h];exact ih
theorem E49(k v:Int): ∀nm:List (Int×Int),B32 (nmE nm) k (sI v)=nmE (C83 nm k v)
 | []=>rfl
 |(a,u)::r=>by
  have ih:=E49 k v r;simp only[nmE,List.map_cons,B32,C83]at ih⊢;by_cases h:(k==a)=true
  ·rw[if_pos h,if_pos h];rfl
  ·rw[if_neg h,if_neg h,ih];rfl
theorem B74(k v:Int)(j:Int): ∀nm:List (Int×Int),B18 (C83 nm k v) j=if j=k then v else B18 nm j
 | []=>by simp[C83,B18]
 |(a,u)::r=>by
  have ih:=B74 k v j r;simp only[C83];by_cases h:(k==a)=true
  ·rw[if_pos h];have h:k=a:=by simpa using h
   subst h;simp only[B18,beq_iff_eq];split <;> rfl
  ·rw[if_neg h];have h:k≠a:=by simpa using h
   simp only[B18,beq_iff_eq,ih];by_cases hj:j=a
   ·subst hj;rw[if_pos rfl,if_neg (λe=>h e.symm)];simp
   ·rw[if_neg hj,if_neg hj]
def C5c(w:Api.World)(g:List Int)(a b:Int):Option Int:=if A98 w a=true then some (M6 g (H7 w a))else if A98 w b=true then some (M6 g (H7 w b))else none
def B31(w:Api.World)(g:List Int)(nm:List (Int×Int))(a b:Int):Int×Bool:=match C5c w g a b with
 |some k=>(B18 nm k,true)
 |none=>(0,false)
theorem D7u(w:Api.World)(g:List Int)(nm:List (Int×Int))(a b:Int)(hg:UF g)(hl:g.length=w.Bodies.length)(hw:w.Bodies.length<=1048576):
  A1 Tryz.prog B58 [A2 1 B9 0 g, .agg w.enc, .mp 384,sI a,sI b] [(384, .map .i64 (nmE nm))] (.tup [sI ((B31 w g nm a b).1),sB ((B31 w g nm a b).2)]) [(384, .map .i64 (nmE nm))]:=by
 refine A7s hm A4 Tryz.func160 rfl rfl ?_;simp only[go_sem];refine B0 hm (ι:= {i:Nat // i<=2/\(0<i->A98 w a=false)/\(1<i->A98 w b=false)}) (λi=> [(0, .share,A2 1 B9 0 g),(2, .share, .mp 384),(6, .share, .ptr 112 0 0 1),(18, .share, .sl 8 0 2 2),(19, .share,sI 2),(20, .share,sI i.1)])
  (λ_=> [(384, .map .i64 (nmE nm)),(112, .box w.enc),(8, .arr 1 (A8 B9 0 [a,b]))]) (λi=>2-i.1) ⟨0,by omega,by omega,by omega⟩ ?_ ?_
 ·refine D7 [(8,304)] [] ?_;simp only[go_sem];exact⟨rfl,rfl,B8c (λ_ _=>rfl) rfl rfl⟩
 ·rintro⟨i,hi,h0,h1⟩;simp only[go_sem];by_cases hlt:(i:Int)<2
  ·rw[if_pos hlt];refine⟨by omega,?_⟩;refine A0 (B2t w ([a,b].getD i 0) hw) rfl ?_;simp only[go_sem];cases hd:A98 w ([a,b].getD i 0)with
   |true=>
    obtain⟨d0,d1⟩:=B25 hd;rw[if_pos rfl];refine A0 (D3u g (H7 w ([a,b].getD i 0)) hg d0 (by omega)) rfl ?_;simp only[go_sem];have z0:B62 (.int .i64 0)=sI 0:=rfl;simp only[z0,C5f];have e:B31 w g nm a b=(B18 nm (M6 g (H7 w ([a,b].getD i 0))),true):=by
     unfold B31 C5c;rcases Nat.lt_or_ge 0 i with h |h
     ·obtain rfl:i=1:=by omega
      rw[h0 h];have hd:A98 w b=true:=hd;rw[hd];rfl
     ·obtain rfl:i=0:=by omega
      have hd:A98 w a=true:=hd;rw[hd];rfl
    refine C8 [.share, .share] [] [] rfl rfl (by simp[go_sem]) (by simp[A6,go_sem]) (by simp[go_sem]) ?_;simp only[go_sem,e]
    try exact rfl
   |false=>
    rw[if_neg (by simp)];refine A7 ⟨i+1,by omega,λ_=> ?_,λ_=> ?_⟩ (by show 2-(i+1)<2-i;omega) (D7 [] [] ?_)
    ·rcases Nat.lt_or_ge 0 i with h |h
     ·exact h0 h
     ·obtain rfl:i=0:=by omega
      exact hd
    ·obtain rfl:i=1:=by omega
     exact hd
    simp only[go_sem];exact⟨(by rw[IntKind.wrap_i64];omega),rfl⟩
  ·rw[if_neg hlt];obtain rfl:i=2:=by omega
   have e:B31 w g nm a b=(0,false):=by unfold B31 C5c;rw[h0 (by omega),h1 (by omega)];rfl
   refine C8 [.share, .share] [] [] rfl rfl (by simp[go_sem]) (by simp[A6,go_sem]) (by simp[go_sem]) ?_;simp only[go_sem,e]
   try exact rfl
def U6(p:Nat->Option Nat)(q:Nat):Nat->List Int
 |0=> []
 |k+1=>if p k=some q then U6 p q k++ [(k:Int)]else U6 p q k
theorem B2p(p:Nat->Option Nat)(q:Nat): ∀k,(U6 p q k).length<=k
 |0=>Nat.le_refl _
 |k+1=>by have:=B2p p q k;unfold U6;split <;> simp <;> omega
theorem E0z {p:Nat->Option Nat}{q:Nat}: ∀ {k},(∀j,j<k->p j≠some q)->U6 p q k= []
 |0,_=>rfl
 |k+1,h=>by unfold U6;rw[if_neg (h k (by omega)),E0z λj hj=>h j (by omega)]
theorem D1r {p:Nat->Option Nat}{q k:Nat}(h:p k≠some q):U6 p q k=U6 p q (k+1):=by rw[U6.eq_2,if_neg h]
theorem E47 {p:Nat->Option Nat}{q k:Nat}(h:p k=some q):U6 p q (k+1)=U6 p q k++ [(k:Int)]:=by rw[U6.eq_2,if_pos h]
def B0b(m:Nat)(B C J:Nat->List Int):Sq:=⟨m,λq=> [.own 1 (B q).length (L7 B9 0 (B q)), .own 1 (C q).length (L7 B9 0 (C q)), .own 1 (J q).length (L7 B9 0 (J q))]⟩
theorem F21(m:Nat)(B C J:Nat->List Int):(B0b m B C J).n=m:=rfl
theorem A7v(m:Nat)(B C J:Nat->List Int)(q:Nat):(B0b m B C J).g q= [.own 1 (B q).length (L7 B9 0 (B q)), .own 1 (C q).length (L7 B9 0 (C q)), .own 1 (J q).length (L7 B9 0 (J q))]:=rfl
attribute [go_sem] F21 A7v
theorem F5m(m:Nat)(B C J:Nat->List Int)(t:Sq):((B0b m B C J).app t).g m=t.g 0:=by simp[Sq.app,B0b]
theorem Sq.app_n(s t:Sq):(s.app t).n=s.n+t.n:=rfl
def isR(w:Api.World)(g:List Int)(j:Nat):Bool:=kd w j&&(g.getD j 0==(j:Int))
def nb(w:Api.World)(g:List Int):Nat->Nat
 |0=>0
 |i+1=>if isR w g i=true then nb w g i+1 else nb w g i
def nmB(w:Api.World)(g:List Int):Nat->List (Int×Int)
 |0=> []
 |i+1=>if isR w g i=true then C83 (nmB w g i) (i:Int) (nb w g i:Int)else nmB w g i
def pB(w:Api.World)(g:List Int)(j:Nat):Option Nat:=if kd w j=true then some (nb w g (M6 g (j:Int)).toNat)else none
def pC(w:Api.World)(g:List Int)(k:Nat):Option Nat:=(C5c w g (w.Contacts.getD k default).Key.BodyA (w.Contacts.getD k default).Key.BodyB).map λr=>nb w g r.toNat
def pJ(w:Api.World)(g:List Int)(k:Nat):Option Nat:=(C5c w g (w.Joints.getD k default).BodyA (w.Joints.getD k default).BodyB).map λr=>nb w g r.toNat
theorem E84(w:Api.World)(g:List Int){i:Nat}: ∀ {j:Nat},i<=j->nb w g i<=nb w g j
 |0,h=>by obtain rfl:i=0:=by omega
          exact Nat.le_refl _
 |j+1,h=>by
  rcases Nat.lt_or_ge i (j+1)with h1 |h1
  ·have:=E84 w g (show i<=j by omega)
   show _<=if isR w g j=true then nb w g j+1 else nb w g j;split <;> omega
  ·obtain rfl:i=j+1:=by omega
   exact Nat.le_refl _
theorem E23(w:Api.World)(g:List Int): ∀j:Nat,nb w g j<=j
 |0=>Nat.le_refl _
 |j+1=>by have:=E23 w g j;show(if isR w g j=true then nb w g j+1 else nb w g j)<=_;split <;> omega
theorem E86 {w:Api.World}{g:List Int}{i:Nat}(h:isR w g i=true):nb w g (i+1)=nb w g i+1:=by show(if isR w g i=true then nb w g i+1 else nb w g i)=_;rw[if_pos h]
theorem E24 {w:Api.World}{g:List Int}{i j:Nat}(h:isR w g i=true)(hj:i<j):nb w g i<nb w g j:=by have:=E84 w g (show i+1<=j by omega);rw[E86 h]at this;omega
theorem C3m {w:Api.World}{g:List Int}{r:Nat}(hr:isR w g r=true): ∀ {i:Nat},r<i->B18 (nmB w g i) (r:Int)=nb w g r
 |i+1,h=>by
  show B18 (if isR w g i=true then C83 (nmB w g i) (i:Int) (nb w g i:Int)else nmB w g i) (r:Int)=_;rcases Nat.lt_or_ge r i with h1 |h1
  ·split
   ·rw[B74,if_neg (by omega),C3m hr h1]
   ·exact C3m hr h1
  ·obtain rfl:r=i:=by omega
   rw[if_pos hr,B74,if_pos rfl]
theorem C5n {w:Api.World}{g:List Int}(hg:UF g)(hd:DG w g){i:Int}(h0:0<=i)(h1:i<(g.length:Int))(hk:kd w i.toNat=true):isR w g (M6 g i).toNat=true:=by obtain⟨a,b,c⟩:=A89 hg h0 h1;unfold isR;rw[C5m hg hd _ _ (Nat.le_refl _) h0 h1 hk,c];simp;omega
theorem E85 {w:Api.World}{g:List Int}{i:Nat}(h:isR w g i=false):nb w g (i+1)=nb w g i:=by show(if isR w g i=true then nb w g i+1 else nb w g i)=_;rw[if_neg (by rw[h];simp)]
theorem B1r {ρ:Nat->Nat}{s:Sq}{m:Nat}{B C J:Nat->List Int}(hn:s.n=m)(h: ∀q,q<m->C3f (s.g q) ((B0b m B C J).g q)):A3o ρ (.arrP 3 s) (.arrP 3 (B0b m B C J)):=⟨rfl,hn,λi hi=>h i (by omega)⟩
theorem A8o {n:Nat}{g:Nat->List AV}:B75 (.own 1 n g) (.own 1 n g):=⟨rfl,rfl,λ_ _=>L3 _⟩
theorem B1x {B B' C C' J J':List Int}(b:B=B')(c:C=C')(j:J=J'):C3f [.own 1 B.length (L7 B9 0 B), .own 1 C.length (L7 B9 0 C), .own 1 J.length (L7 B9 0 J)] [.own 1 B'.length (L7 B9 0 B'), .own 1 C'.length (L7 B9 0 C'), .own 1 J'.length (L7 B9 0 J')]:=by subst b c j;exact⟨A8o,A8o,A8o,trivial⟩
theorem D9u(a:Int){l:List Int}:B75 (.own 1 ((A8 B9 0 l).app ⟨1,λi=>List.take 1 (List.drop (i*1) [AV.sc (.int .i64 a)])⟩).n ((A8 B9 0 l).app ⟨1,λi=>List.take 1 (List.drop (i*1) [AV.sc (.int .i64 a)])⟩).g) (.own 1 (l++ [a]).length (L7 B9 0 (l++ [a]))):=by have h:A3o id (.arr 1 ((A8 B9 0 l).app ⟨1,λi=>List.take 1 (List.drop (i*1) [AV.sc (.int .i64 a)])⟩)) (.arr 1 (A8 B9 0 (l++ [a]))):=A1q a rfl rfl;obtain⟨_,h1,h2⟩:=h;exact⟨rfl,h1,h2⟩
theorem Sq.set_same {s:Sq}{k:Nat}{c:List AV}:(s.set k c).g k=c:=by simp[Sq.set]
theorem Sq.set_ne {s:Sq}{k q:Nat}{c:List AV}(h:q≠k):(s.set k c).g q=s.g q:=by simp[Sq.set,h]
theorem E7c {m q:Nat}{B C J:Nat->List Int}{t:Sq}(h:q<m):((B0b m B C J).app t).g q=(B0b m B C J).g q:=by simp[Sq.app,B0b,h]
theorem F20 {w:Api.World}{g:List Int}(hg:UF g)(hgl:g.length=w.Bodies.length)(hd:DG w g){a b r:Int}(h:C5c w g a b=some r): ∃k:Nat,r=(k:Int)/\k<g.length/\isR w g k=true:=by
 have key: ∀x,A98 w x=true-> ∃k:Nat,M6 g (H7 w x)=(k:Int)/\k<g.length/\isR w g k=true:=λx hx=>by obtain⟨d0,d1⟩:=B25 hx;obtain⟨ra,rb,rc⟩:=A89 hg d0 (by omega);have hR:=C5n hg hd d0 (by omega) (D9g hx);exact⟨(M6 g (H7 w x)).toNat,(Int.toNat_of_nonneg ra).symm,by omega,hR⟩
 unfold C5c at h;split at h
 ·rename_i hx;injection h with h;subst h;exact key a hx
 ·split at h
  ·rename_i hx;injection h with h;subst h;exact key b hx
  ·cases h
def G14(w:Api.World)(i:Nat):Sq:=B0b (nb w (F1 w) i) (λq=>U6 (pB w (F1 w)) q i) (λ_=> []) (λ_=> [])
attribute [go_sem] G14
def G1g(w:Api.World)(i:Nat):List (Nat×A5):= [(32, .box w.enc),(384, .map .i64 (nmE (nmB w (F1 w) i))),(1, .arrP 3 (G14 w i))]
attribute [go_sem] G1g
def G1h(w:Api.World)(k:Nat):List (Nat×A5):= [(32, .box w.enc),(384, .map .i64 (nmE (nmB w (F1 w) w.Bodies.length))),(1, .arrP 3 (B0b (nb w (F1 w) w.Bodies.length) (λq=>U6 (pB w (F1 w)) q w.Bodies.length) (λq=>U6 (pC w (F1 w)) q k) (λ_=> [])))]
attribute [go_sem] G1h
def G1i(w:Api.World)(k:Nat):List (Nat×A5):= [(32, .box w.enc),(384, .map .i64 (nmE (nmB w (F1 w) w.Bodies.length))),(1, .arrP 3 (B0b (nb w (F1 w) w.Bodies.length) (λq=>U6 (pB w (F1 w)) q w.Bodies.length) (λq=>U6 (pC w (F1 w)) q w.Contacts.length) (λq=>U6 (pJ w (F1 w)) q k)))]
attribute [go_sem] G1i
theorem E2d(w:Api.World)(hw:Wsm w)(hv:F2 w=0):A1 Tryz.prog C2z [.agg w.enc] [] (.sl 1 0 (nb w (F1 w) w.Bodies.length) (nb w (F1 w) w.Bodies.length))
  [(1, .arrP 3 (B0b (nb w (F1 w) w.Bodies.length) (λq=>U6 (pB w (F1 w)) q w.Bodies.length) (λq=>U6 (pC w (F1 w)) q w.Contacts.length) (λq=>U6 (pJ w (F1 w)) q w.Joints.length)))]:=by
 have hw':=hw;obtain⟨w1,w2,w3,w4,w5,w6⟩:=hw;obtain⟨hg,hgl⟩:=E8k w;have hgd:=F8f w;refine H8 hm A4 Tryz.func98 rfl rfl ?_;simp only[go_sem,B4,C3,A9,C5];refine A0 (S3 w hw') rfl ?_;simp only[go_sem,B4,C3,A9,C5,hv];rw[if_neg (by simp)];refine A0 (F33 w hw') rfl ?_;simp only[go_sem,B4,C3,A9,C5];refine B0 hm (ι:= {i:Nat // i<=w.Bodies.length}) (λi=> [(1, .share, .ptr 32 0 0 1),(3, .share,A2 1 B9 0 (F1 w)),(4, .share, .mp 384),(5,if i.1=0 then .adopt else .share, .sl 1 0 (nb w (F1 w) i.1) (nb w (F1 w) i.1)),(25, .share,A2 20 Body.enc default w.Bodies),(26, .share,sI w.Bodies.length),(27, .share,sI i.1)])
  (λi=>G1g w i.1) (λi=>w.Bodies.length-i.1) ⟨0,by omega⟩ ?_ ?_
 ·refine D7 [] [1] ?_;have n0:nb w (F1 w) 0=0:=rfl;simp only[go_sem,B4,C3,A9,C5,n0]
  first |rfl |exact⟨by simp,rfl⟩
 ·rintro⟨i,hi⟩;have hnb:=E23 w (F1 w) i;simp only[go_sem,B4,C3,A9,C5];by_cases hlt:(i:Int)<w.Bodies.length
  ·rw[if_pos hlt];have hlt:i<w.Bodies.length:=by omega
   refine⟨ok_,?_⟩;by_cases hk:(w.Bodies.getD i default).Kind=3
   ·rw[if_neg (by rw[hk];simp)];refine A0 (D3u (F1 w) i hg (by omega) (by omega)) rfl ?_;simp only[go_sem,B4,C3,A9,C5];have z0:B62 (.int .i64 0)=sI 0:=rfl;by_cases hr:M6 (F1 w) i=i
    ·rw[if_pos (by simpa using hr)];refine⟨ok_,?_⟩;simp only[E49,C5f,z0,hr,B74];simp only[go_sem,B4,C3,A9,C5,F5m,Sq.app_n];have hR:isR w (F1 w) i=true:=by
      have:=C5n hg hgd (i:=(i:Int)) (by omega) (by omega) (by unfold kd;rw[Int.toNat_natCast,hk];rfl);rw[hr]at this;simpa using this
     have hn1:=E86 hR;refine⟨⟨by omega,by omega⟩,by omega,by decide,⟨by omega,by omega⟩,by omega,?_⟩;refine A7 ⟨i+1,by omega⟩ (by show w.Bodies.length-(i+1)<w.Bodies.length-i;omega) (D7 [] [] ?_);simp only[go_sem,B4,C3,A9,C5];have hp:pB w (F1 w) i=some (nb w (F1 w) i):=by unfold pB kd;rw[hk,hr];rfl
     have hz:U6 (pB w (F1 w)) (nb w (F1 w) i) i= []:=E0z λj hj hh=>by
      unfold pB at hh;split at hh
      ·rename_i hkj;obtain⟨ra,rb,rc⟩:=A89 hg (i:=(j:Int)) (by omega) (by omega);have hR2:isR w (F1 w) (M6 (F1 w) j).toNat=true:=C5n hg hgd (i:=(j:Int)) (by omega) (by omega) (by rw[Int.toNat_natCast];exact hkj)
       have:=E24 hR2 (j:=i) (by omega);injection hh with hh;omega
      ·cases hh
     refine⟨hn1.symm,(by rw[IntKind.wrap_i64];omega),?_,B1r hn1.symm λq hq=> ?_⟩
     ·show A5.map _ _=A5.map _ _;show _=A5.map _ (nmE (if isR w (F1 w) i=true then _ else _));rw[if_pos hR]
     ·by_cases hqm:q=nb w (F1 w) i
      ·subst hqm;simp only[Sq.set_same,A7v];have:U6 (pB w (F1 w)) (nb w (F1 w) i) (i+1)= [(i:Int)]:=by unfold U6;rw[if_pos hp,hz];rfl
       rw[this];exact⟨⟨rfl,rfl,λk hk=>by obtain rfl:k=0:=by omega
                                         exact L3 _⟩,⟨rfl,rfl⟩,⟨rfl,rfl⟩,trivial⟩
      ·simp only[Sq.set_ne hqm,A7v];rw[E7c (by omega),A7v];have:U6 (pB w (F1 w)) q (i+1)=U6 (pB w (F1 w)) q i:=by rw[U6,if_neg];rw[hp];intro e;injection e with e;exact hqm e.symm
       rw[this];exact B1x rfl rfl rfl
    ·rw[if_neg (by simpa using hr)];obtain⟨ra,rb,rc⟩:=A89 hg (i:=(i:Int)) (by omega) (by omega);have hR:isR w (F1 w) (M6 (F1 w) i).toNat=true:=C5n hg hgd (i:=(i:Int)) (by omega) (by omega) (by unfold kd;rw[Int.toNat_natCast,hk];rfl);obtain⟨r,hrr⟩: ∃r:Nat,M6 (F1 w) i=r:=⟨_,(Int.toNat_of_nonneg ra).symm⟩;rw[hrr]at hr rb hR;rw[Int.toNat_natCast]at hR;have hlook:=C3m hR (i:=i) (by omega)
     have hlt2:=E24 hR (j:=i) (by omega)
     have hml:=B2p (pB w (F1 w)) (nb w (F1 w) r) i;simp only[C5f,z0,hrr,hlook];simp only[go_sem,B4,C3,A9,C5];refine⟨⟨by omega,by omega⟩,by omega,ok_,(by omega),(by first |exact⟨by omega,rfl⟩ |omega),?_⟩;refine A7 ⟨i+1,by omega⟩ (by show w.Bodies.length-(i+1)<w.Bodies.length-i;omega) (D7 [] [] ?_);simp only[go_sem,B4,C3,A9,C5];have hp:pB w (F1 w) i=some (nb w (F1 w) r):=by unfold pB kd;rw[hk,hrr];rfl
     have hR0:isR w (F1 w) i=false:=by
      cases h:isR w (F1 w) i with
      |false=>rfl
      |true=>unfold isR at h;rw[Bool.and_eq_true,beq_iff_eq]at h;have:=B9h (g:=F1 w) (i:=(i:Int)) (by rw[Int.toNat_natCast];exact h.2);rw[hrr]at this;exact absurd this hr
     have hn0:=E85 hR0;refine⟨hn0.symm,(by rw[IntKind.wrap_i64];omega),?_,B1r hn0.symm λq hq=> ?_⟩
     ·show A5.map _ _=A5.map _ _;show _=A5.map _ (nmE (if isR w (F1 w) i=true then _ else _));rw[if_neg (by rw[hR0];simp)]
     ·by_cases hqm:q=nb w (F1 w) r
      ·subst hqm;simp only[Sq.set_same,A7v,List.tail_cons];have:U6 (pB w (F1 w)) (nb w (F1 w) r) (i+1)=U6 (pB w (F1 w)) (nb w (F1 w) r) i++ [(i:Int)]:=by rw[U6,if_pos hp]
       rw[this];exact⟨D9u i,A8o,A8o,trivial⟩
      ·simp only[Sq.set_ne hqm,A7v];have:U6 (pB w (F1 w)) q (i+1)=U6 (pB w (F1 w)) q i:=by rw[U6,if_neg];rw[hp];intro e;injection e with e;exact hqm e.symm
       rw[this];exact B1x rfl rfl rfl
   ·rw[if_pos (by simpa using hk)];refine A7 ⟨i+1,by omega⟩ (by show w.Bodies.length-(i+1)<w.Bodies.length-i;omega) (D7 [] [] ?_);simp only[go_sem,B4,C3,A9,C5];have hk':kd w i=false:=by unfold kd;simpa using hk
    have hp:pB w (F1 w) i=none:=by unfold pB;rw[hk'];rfl
    have hR0:isR w (F1 w) i=false:=by unfold isR;rw[hk'];rfl
    have hn0:=E85 hR0;refine⟨hn0.symm,(by rw[IntKind.wrap_i64];omega),?_,B1r hn0.symm λq hq=> ?_⟩
    ·show A5.map _ _=A5.map _ _;show _=A5.map _ (nmE (if isR w (F1 w) i=true then _ else _));rw[if_neg (by rw[hR0];simp)]
    ·simp only[A7v];have:U6 (pB w (F1 w)) q (i+1)=U6 (pB w (F1 w)) q i:=by rw[U6,if_neg];rw[hp];simp
     rw[this];exact B1x rfl rfl rfl
  ·rw[if_neg hlt];obtain rfl:i=w.Bodies.length:=by omega
   have hnb2:=E23 w (F1 w) w.Bodies.length;refine B0 hm (ι:= {k:Nat // k<=w.Contacts.length}) (λk=> [(1, .share, .ptr 32 0 0 1),(3, .share,A2 1 B9 0 (F1 w)),(4, .share, .mp 384),(5, .share, .sl 1 0 (nb w (F1 w) w.Bodies.length) (nb w (F1 w) w.Bodies.length)),(66, .share,A2 7 Contact.enc default w.Contacts),(67, .share,sI w.Contacts.length),(68, .share,sI k.1)])
    (λk=>G1h w k.1) (λk=>w.Contacts.length-k.1) ⟨0,by omega⟩ ?_ ?_
   ·refine D7 [] [] ?_;simp only[go_sem,B4,C3,A9,C5];exact⟨rfl,B1r rfl λq hq=>B1x rfl rfl rfl⟩
   ·rintro⟨k,hk⟩;simp only[go_sem,B4,C3,A9,C5];by_cases hlt:(k:Int)<w.Contacts.length
    ·rw[if_pos hlt];have hlt:k<w.Contacts.length:=by omega
     refine⟨ok_,?_⟩;refine Y4 (D7u w (F1 w) (nmB w (F1 w) w.Bodies.length) (w.Contacts.getD k default).Key.BodyA (w.Contacts.getD k default).Key.BodyB hg hgl w1) (by refine⟨by simp,?_⟩;simp) rfl (by simp[go_sem]) (by simp[go_sem,AV.ids]) rfl ?_;simp only[go_sem,B4,C3,A9,C5];cases hi2:C5c w (F1 w) (w.Contacts.getD k default).Key.BodyA (w.Contacts.getD k default).Key.BodyB with
     |none=>
      have e:B31 w (F1 w) (nmB w (F1 w) w.Bodies.length) (w.Contacts.getD k default).Key.BodyA (w.Contacts.getD k default).Key.BodyB=(0,false):=by unfold B31;rw[hi2]
      have hp:pC w (F1 w) k=none:=by unfold pC;rw[hi2];rfl
      simp only[e];rw[if_neg (by simp)];refine A7 ⟨k+1,by omega⟩ (by show w.Contacts.length-(k+1)<w.Contacts.length-k;omega) (D7 [] [] ?_);simp only[go_sem,B4,C3,A9,C5];refine⟨(by rw[IntKind.wrap_i64];omega),rfl,B1r rfl λq hq=>B1x rfl ?_ rfl⟩;exact D1r (by rw[hp];simp)
     |some r=>
      obtain⟨r,rfl,hrl,hR⟩:=F20 hg hgl hgd hi2;have hlook:=C3m hR (i:=w.Bodies.length) (by omega)
      have hlt2:=E24 hR (j:=w.Bodies.length) (by omega)
      have e:B31 w (F1 w) (nmB w (F1 w) w.Bodies.length) (w.Contacts.getD k default).Key.BodyA (w.Contacts.getD k default).Key.BodyB=((nb w (F1 w) r:Int),true):=by unfold B31;rw[hi2];simp only[hlook]
      have hp:pC w (F1 w) k=some (nb w (F1 w) r):=by unfold pC;rw[hi2];rfl
      have hml:=B2p (pC w (F1 w)) (nb w (F1 w) r) k;simp only[e];rw[if_pos trivial];simp only[go_sem,B4,C3,A9,C5];refine⟨⟨by omega,by omega⟩,by omega,ok_,(by omega),(by first |exact⟨by omega,rfl⟩ |omega),?_⟩;refine A7 ⟨k+1,by omega⟩ (by show w.Contacts.length-(k+1)<w.Contacts.length-k;omega) (D7 [] [] ?_);simp only[go_sem,B4,C3,A9,C5];refine⟨(by rw[IntKind.wrap_i64];omega),rfl,B1r rfl λq hq=> ?_⟩;by_cases hqm:q=nb w (F1 w) r
      ·subst hqm;simp only[Sq.set_same,A7v,List.tail_cons];rw[E47 hp];exact⟨A8o,D9u k,A8o,trivial⟩
      ·simp only[Sq.set_ne hqm,A7v];refine B1x rfl ?_ rfl;exact D1r (by rw[hp];intro e;injection e with e;exact hqm e.symm)
    ·rw[if_neg hlt];obtain rfl:k=w.Contacts.length:=by omega
     refine B0 hm (ι:= {k:Nat // k<=w.Joints.length}) (λk=> [(1, .share, .ptr 32 0 0 1),(3, .share,A2 1 B9 0 (F1 w)),(4, .share, .mp 384),(5, .share, .sl 1 0 (nb w (F1 w) w.Bodies.length) (nb w (F1 w) w.Bodies.length)),(101, .share,A2 24 Joint.enc default w.Joints),(102, .share,sI w.Joints.length),(103, .share,sI k.1)])
      (λk=>G1i w k.1) (λk=>w.Joints.length-k.1) ⟨0,by omega⟩ ?_ ?_
     ·refine D7 [] [] ?_;simp only[go_sem,B4,C3,A9,C5];exact⟨rfl,B1r rfl λq hq=>B1x rfl rfl rfl⟩
     ·rintro⟨k,hk⟩;simp only[go_sem,B4,C3,A9,C5];by_cases hlt:(k:Int)<w.Joints.length
      ·rw[if_pos hlt];have hlt:k<w.Joints.length:=by omega
       refine⟨ok_,?_⟩;refine Y4 (D7u w (F1 w) (nmB w (F1 w) w.Bodies.length) (w.Joints.getD k default).BodyA (w.Joints.getD k default).BodyB hg hgl w1) (by refine⟨by simp,?_⟩;simp) rfl (by simp[go_sem]) (by simp[go_sem,AV.ids]) rfl ?_;simp only[go_sem,B4,C3,A9,C5];cases hi2:C5c w (F1 w) (w.Joints.getD k default).BodyA (w.Joints.getD k default).BodyB with
       |none=>
        have e:B31 w (F1 w) (nmB w (F1 w) w.Bodies.length) (w.Joints.getD k default).BodyA (w.Joints.getD k default).BodyB=(0,false):=by unfold B31;rw[hi2]
        have hp:pJ w (F1 w) k=none:=by unfold pJ;rw[hi2];rfl
        simp only[e];rw[if_neg (by simp)];refine A7 ⟨k+1,by omega⟩ (by show w.Joints.length-(k+1)<w.Joints.length-k;omega) (D7 [] [] ?_);simp only[go_sem,B4,C3,A9,C5];refine⟨(by rw[IntKind.wrap_i64];omega),rfl,B1r rfl λq hq=>B1x rfl rfl ?_⟩;exact D1r (by rw[hp];simp)
       |some r=>
        obtain⟨r,rfl,hrl,hR⟩:=F20 hg hgl hgd hi2;have hlook:=C3m hR (i:=w.Bodies.length) (by omega)
        have hlt2:=E24 hR (j:=w.Bodies.length) (by omega)
        have e:B31 w (F1 w) (nmB w (F1 w) w.Bodies.length) (w.Joints.getD k default).BodyA (w.Joints.getD k default).BodyB=((nb w (F1 w) r:Int),true):=by unfold B31;rw[hi2];simp only[hlook]
        have hp:pJ w (F1 w) k=some (nb w (F1 w) r):=by unfold pJ;rw[hi2];rfl
        have hml:=B2p (pJ w (F1 w)) (nb w (F1 w) r) k;simp only[e];rw[if_pos trivial];simp only[go_sem,B4,C3,A9,C5];refine⟨⟨by omega,by omega⟩,by omega,ok_,(by omega),(by first |exact⟨by omega,rfl⟩ |omega),?_⟩;refine A7 ⟨k+1,by omega⟩ (by show w.Joints.length-(k+1)<w.Joints.length-k;omega) (D7 [] [] ?_);simp only[go_sem,B4,C3,A9,C5];refine⟨(by rw[IntKind.wrap_i64];omega),rfl,B1r rfl λq hq=> ?_⟩;by_cases hqm:q=nb w (F1 w) r
        ·subst hqm;simp only[Sq.set_same,A7v,List.tail_cons];rw[E47 hp];exact⟨A8o,A8o,D9u k,trivial⟩
        ·simp only[Sq.set_ne hqm,A7v];refine B1x rfl rfl ?_;exact D1r (by rw[hp];intro e;injection e with e;exact hqm e.symm)
      ·rw[if_neg hlt];obtain rfl:k=w.Joints.length:=by omega
       refine C8 [.share] [] [] rfl rfl (by simp[go_sem]) (by simp[A6,go_sem]) (by simp[go_sem]) ?_;simp only[go_sem,B4,C3,A9,C5];exact B1r rfl λq hq=>B1x rfl rfl rfl
def D0(w:Api.World):List B1:=if F2 w=0 then(List.range (nb w (F1 w) w.Bodies.length)).map λq=>⟨U6 (pB w (F1 w)) q w.Bodies.length,U6 (pC w (F1 w)) q w.Contacts.length,U6 (pJ w (F1 w)) q w.Joints.length⟩else []
theorem E9c(w:Api.World)(hw:Wsm w):A1 Tryz.prog C2z [.agg w.enc] [] (A2 3 B1.enc default (D0 w)) []:=by
 by_cases hv:F2 w=0
 ·have h:=E2d w hw hv
  generalize hB:(λq=>U6 (pB w (F1 w)) q w.Bodies.length)=B at h;generalize hC:(λq=>U6 (pC w (F1 w)) q w.Contacts.length)=C at h;generalize hJ:(λq=>U6 (pJ w (F1 w)) q w.Joints.length)=J at h;generalize hm:nb w (F1 w) w.Bodies.length=m at h;have hl:D0 w=(List.range m).map λq=>⟨B q,C q,J q⟩:=by unfold D0;rw[if_pos hv,hm,<-hB,<-hC,<-hJ]
  have h2:=A1.settle (O2:= [(1, .arr 3 ⟨m,λk=>((B0b m B C J).g k).map B8n⟩)]) h (id:=1) (z:=3) (s:=B0b m B C J) (by rw[C9x];simp) (λk j _=>by
   rw[A7v]
   match j with
   |0=>simp
   |1=>simp
   |2=>simp
   |j+3=>simp) (by
   rw[C9x,C9x];funext x;by_cases hx:x=1
   ·subst hx;simp[F21]
   ·rw[G9 hx,G9 hx,G9 hx])
  have h3:=A1.dataRes (s:=⟨m,λk=>((B0b m B C J).g k).map B8n⟩) h2;refine h3.res_le (A7m _ _ ?_);rw[hl];refine⟨rfl,by simp,λi hi=> ?_⟩;have hi:i<m:=hi
  have:L7 B1.enc default ((List.range m).map λq=>(⟨B q,C q,J q⟩:B1)) i=((B0b m B C J).g i).map B8n:=by rw[C9c];simp[List.getD,hi,B1.enc,A7v,B8n,A2]
  rw[this];exact L3 _
 ·have hl:D0 w= []:=by unfold D0;rw[if_neg hv]
  rw[hl];refine en1 hm A4 Tryz.func98 rfl rfl ?_;simp only[go_sem,B4,C3,A9,C5];refine A0 (S3 w hw) rfl ?_;simp only[go_sem,B4,C3,A9,C5];rw[if_pos (by simpa using hv)]
  first |exact⟨rfl,rfl⟩ |simp[M4]
def A2b(a b:List Body):Prop:=a.length=b.length/\ ∀k:Nat,(a.getD k default).Fixtures=(b.getD k default).Fixtures
theorem A2b.refl(a:List Body):A2b a a:=⟨rfl,λ_=>rfl⟩
theorem A2b.trans {a b c:List Body}(h:A2b a b)(h2:A2b b c):A2b a c:=⟨h.1.trans h2.1,λk=>(h.2 k).trans (h2.2 k)⟩
theorem C55 {g:Body->Body}(hg: ∀b,(g b).Fixtures=b.Fixtures)(l:List Body):A2b (l.map g) l:=by
 refine⟨List.length_map ..,λk=> ?_⟩;by_cases h:k<l.length
 ·have e:(l.map g).getD k default=g (l.getD k default):=by
   simp only[List.getD,List.getElem?_map,List.getElem?_eq_getElem h,Option.map_some,Option.getD_some]
  rw[e,hg]
 ·simp only[List.getD];rw[List.getElem?_eq_none (by rw[List.length_map];omega),List.getElem?_eq_none (by omega)]
theorem C56 {l:List Body}{k:Nat}{v:Body}(h:v.Fixtures=(l.getD k default).Fixtures):A2b (l.set k v) l:=by
 refine⟨List.length_set ..,λi=> ?_⟩;by_cases hk:k=i
 ·subst hk;by_cases hl:k<l.length
  ·rw[gsS hl];exact h
  ·rw[List.set_eq_of_length_le (by omega)]
 ·rw[show(l.set k v).getD i default=l.getD i default by simp only[List.getD,List.getElem?_set_ne hk]]
theorem F6r(bs as_:List Body)(js:List Joint):A2b (stB bs as_ js as_.length) as_:=by
 refine⟨E0e ..,λk=> ?_⟩;by_cases h:k<as_.length
 ·have e:(stB bs as_ js as_.length).getD k default=(stR bs as_ js k).1:=by
   unfold stB;simp only[List.getD,List.getElem?_map,List.getElem?_range h,Option.map_some,Option.getD_some]
  rw[e];unfold stR;split <;> rfl
 ·simp only[List.getD];rw[List.getElem?_eq_none (by rw[E0e];omega),List.getElem?_eq_none (by omega)]
theorem C54 {f:List Body×List (Int×Int)->Int->List Body×List (Int×Int)}(hf: ∀s i,A2b (f s i).1 s.1): ∀(l:List Int) (s),A2b (l.foldl f s).1 s.1
 | [],s=>A2b.refl _
 |i::l,s=>(C54 hf l (f s i)).trans (hf s i)
theorem F36(w:Api.World)(x:B1):A2b (B4s w x).1 w.Bodies:=by
 have hu: ∀l:List Int,A2b (upF w l) w.Bodies:=λl=>by
  unfold upF;generalize hB:w.Bodies=B;clear hB;induction l generalizing B with
  |nil=>exact A2b.refl _
  |cons i l ih=>exact(ih _).trans (C56 rfl)
 unfold B4s;split
 ·split
  ·exact(C54 (λs i=>by unfold B4o;exact C56 rfl) _ _).trans (hu _)
  ·exact hu _
 ·exact A2b.refl _
theorem F6s(w:Api.World)(x:B1):A2b (wkR w x).1 w.Bodies:=by
 unfold wkR;split
 ·unfold wkF;refine C54 (λs i=> ?_) _ _;unfold B0l;split
  ·exact C56 rfl
  ·exact A2b.refl _
 ·exact A2b.refl _
theorem A2b.mem {a b:List Body}(h:A2b a b){x:Body}(hx:x∈a): ∃y∈b,x.Fixtures=y.Fixtures:=by obtain⟨k,hk,rfl⟩:=List.getElem_of_mem hx;have h2:=h.2 k;refine⟨b.getD k default,B7 default (by rw[<-h.1];exact hk),?_⟩;rw[<-h2];simp[List.getD,hk]
theorem B73 {w:Api.World}{bs:List Body}(hw:Wsm w)(h:A2b bs w.Bodies):Wsm (U4 w bs):=by obtain⟨h1,h2,h3,h4,h5,h6⟩:=hw;refine⟨by show bs.length<=_;rw[h.1];exact h1,h2,h3,h4,λb hb=> ?_,h6⟩;obtain⟨y,hy,e⟩:=h.mem hb;have:=h5 y hy;unfold Body.sm at this⊢;rwa[e]
theorem C0k {w:Api.World}{bs:List Body}(hw:Wfw w)(h:A2b bs w.Bodies):Wfw (U4 w bs):=by refine⟨by show bs.length<=_;rw[h.1];exact hw.1,λb hb=> ?_⟩;obtain⟨y,hy,e⟩:=h.mem hb;rw[e];exact hw.2 y hy
theorem F90(b:Body)(dt:Int):(Z7 b dt).Fixtures=b.Fixtures:=by unfold Z7;split <;> rfl
def eW1(x:B1)(s:Api.World×List Api.Event):Api.World×List Api.Event:=(U4 s.1 (B4s s.1 x).1,s.2++(B4s s.1 x).2.map evP)
def B37(w:Api.World):List Body:=w.Bodies.map λb=>Z7 b w.Settings.TimeStep
def eW0(w:Api.World):Api.World×List Api.Event:=(U4 w (stB w.Bodies (B37 w) w.Joints (B37 w).length),B1g w.Bodies (B37 w) w.Joints (B37 w).length)
def eWn(w:Api.World)(n:Nat):Api.World×List Api.Event:=itr (λk s=>eW1 ((D0 w).getD k default) s) n (eW0 w)
def eW2(w:Api.World):Api.World:=(λa:Api.World=>U4 a (a.Bodies.map H2)) (bkW (eWn w (D0 w).length).1)
def E4m(w:Api.World):Api.World:= {eW2 w with Overlaps:=ovL (eW2 w),Frame:=min (IntKind.i64.wrap ((eW2 w).Frame+1)) 1099511627776}
def E4l(w:Api.World):List Api.Event:= [(eWn w (D0 w).length).2,bkL (eWn w (D0 w).length).1 (eWn w (D0 w).length).1.Joints,C57 w.Overlaps (ovL (eW2 w))].flatten
theorem C9d(w:Api.World)(x:B1):(B4s w x).2.length<=x.Bodies.length:=by
 have h:=C5b x.Bodies w.Bodies.length;unfold B4s;split
 ·split
  ·have:=(E9g (upF w (A0z w x)) (A0z w x)).2
   unfold A0z at this⊢;omega
  ·exact Nat.zero_le _
 ·exact Nat.zero_le _
theorem B0p(w:Api.World):(D0 w).length<=w.Bodies.length:=by
 unfold D0;split
 ·rw[List.length_map,List.length_range];exact E23 ..
 ·exact Nat.zero_le _
theorem B23 {w:Api.World}(hw:Wsm w): ∀x∈D0 w,Ism x/\x.Bodies.length<=w.Bodies.length:=by
 intro x hx;unfold D0 at hx;split at hx
 ·obtain⟨q,_,rfl⟩:=List.mem_map.1 hx;have h1:=B2p (pB w (F1 w)) q w.Bodies.length
  have h2:=B2p (pC w (F1 w)) q w.Contacts.length
  have h3:=B2p (pJ w (F1 w)) q w.Joints.length;obtain⟨g1,g2,g3,_⟩:=hw;exact⟨⟨by show(U6 _ _ _).length<=_;omega,by show(U6 _ _ _).length<=_;omega,by show(U6 _ _ _).length<=_;omega⟩,h1⟩
 ·cases hx
theorem D42(w:Api.World)(n:Nat):eWn w (n+1)=eW1 ((D0 w).getD n default) (eWn w n):=E4 ..
theorem D02(w:Api.World):A2b (B37 w) w.Bodies:=C55 (λb=>F90 b _) _
theorem B8l(w:Api.World): ∀n,A2b (eWn w n).1.Bodies w.Bodies/\(eWn w n).1=U4 w (eWn w n).1.Bodies
 |0=>⟨(F6r _ _ _).trans (D02 w),rfl⟩
 |n+1=>by
  obtain⟨h1,h2⟩:=B8l w n;rw[D42];generalize eWn w n=s at h1 h2⊢;refine⟨(F36 _ _).trans h1,?_⟩;have key: ∀B,U4 s.1 B=U4 w B:=λB=>by rw[h2];rfl
  exact key _
theorem D1d {w:Api.World}(hw:Wsm w)(hf:Wfw w): ∀n,n<=(D0 w).length->(eWn w n).2.length<=60+60*n
 |0,_=>by
  have h:=E52 w.Bodies (B37 w) w.Joints (B37 w).length
  have h2:=(D02 w).1
  have h3:=hf.1;show(B1g _ _ _ _).length<=_;omega
 |n+1,hn=>by
  have ih:=D1d hw hf n (by omega);rw[D42];have hx:=B23 hw _ (B7 (l:=D0 w) (i:=n) default (by omega))
  have h3:=hf.1
  have h4:=C9d (eWn w n).1 ((D0 w).getD n default);show((eWn w n).2++List.map evP _).length<=_;rw[List.length_append,List.length_map];omega
theorem E2t(w:Api.World)(b:Body)(hb:Body.sm b):A1 Tryz.prog C6j [.agg b.enc, .fptr w.enc] [] (.agg (Z7 b w.Settings.TimeStep).enc) []:=by refine L5 9 [(3,some (some 20))] hm A4 Tryz.func115 rfl ?_;simp only[go_sem,go_sem_proc];refine A0 (C5q b w.Settings.TimeStep hb.2) rfl ?_;simp only[go_sem,go_sem_proc]
theorem G3o(b:Body):A1 Tryz.prog A5x [.agg b.enc] [] (.agg (H2 b).enc) []:=B98 b
theorem E7z(w:Api.World)(hw:Wsm w)(hf:Wfw w)(hv:F2 w=0):A1 Tryz.prog D6m [.agg w.enc] [] (.tup [.agg (E4m w).enc,A2 5 Api.Event.enc default (E4l w)]) []:=by
 have hV:=S3 w hw;rw[hv]at hV;have hbl:=B0p w
 have hbs:= @B23 w hw
 have hp:=D02 w
 have hpw:Wsm (U4 w (B37 w)):=B73 hw hp;obtain⟨hw1,hw2,hw3,hw4,hw5,hw6⟩:=id hw;refine F7e 78 [(2,some (some 11)),(3,none)] hm A4 Tryz.func58 rfl ?_;refine C4 [(1, .thaw, .fptr w.enc),(2, .share, .ptr 48 0 0 1)] [(48, .box World.zero)] (E0 hm ?_) ?_
 ·simp only[go_sem,go_sem_proc,World.zero];refine C0 [] [] ?_;simp only[go_sem,go_sem_proc];exact eE_
 refine C4 [(1, .share, .fptr w.enc),(2, .share, .ptr 48 0 0 1)] [(48, .box World.zero)] (E0 hm ?_) ?_
 ·simp only[go_sem,go_sem_proc];refine A0 hV rfl ?_;simp only[go_sem,go_sem_proc,World.zero];refine C0 [] [] ?_;simp only[go_sem,go_sem_proc]
 refine C4 [(1, .share, .fptr w.enc),(2, .share, .ptr 48 0 0 1),(4, .share,A2 3 B1.enc default (D0 w))] [(48, .box World.zero)] (E0 hm ?_) ?_
 ·simp only[go_sem,go_sem_proc];refine A0 (E9c w hw) rfl ?_;simp only[go_sem,go_sem_proc,World.zero];refine C0 [] [] ?_;simp only[go_sem,go_sem_proc]
 refine C4 [(1, .share, .fptr w.enc),(2, .share, .ptr 48 0 0 1),(5, .share, .ptr 96 0 0 1),(4, .share,A2 3 B1.enc default (D0 w))] [(48, .box World.zero),(96, .box (U4 w (B37 w)).enc)] (E0 hm ?_) ?_
 ·simp only[go_sem,go_sem_proc];refine A0 (D3v w hw C6j [.fptr w.enc] (λb=>Z7 b w.Settings.TimeStep) rfl (λ_=>rfl) (λb hb=>E2t w b (hw5 b hb))) rfl ?_;simp only[go_sem,go_sem_proc,World.zero];refine C0 [] [] ?_;simp only[go_sem,go_sem_proc,B37]
 refine C4 [(1, .share, .fptr w.enc),(2, .share, .ptr 48 0 0 1),(5, .share, .ptr 96 0 0 1),(7, .share, .sl 7 0 (eW0 w).2.length (eW0 w).2.length),(4, .share,A2 3 B1.enc default (D0 w)),(6, .share,A2 20 Body.enc default (stB w.Bodies (B37 w) w.Joints (B37 w).length))] [(48, .box World.zero),(96, .box (U4 w (B37 w)).enc),(7, .arr 5 (A8 Api.Event.enc default (eW0 w).2))] (E0 hm ?_) ?_
 ·simp only[go_sem,go_sem_proc];refine K1 ev_ J8 (E2i w.Bodies (B37 w) w.Joints hp.1.symm (by rw[hp.1];exact hw1) hw5 hpw.2.2.2.2.1 hw2) ?_;simp only[go_sem,go_sem_proc,World.zero,eW0];refine C0 [(7,496)] [] ?_;simp only[go_sem,go_sem_proc]
 refine C4 [(1, .share, .fptr w.enc),(2, .share, .ptr 48 0 0 1),(5, .share, .ptr 96 0 0 1),(7, .share, .sl 7 0 (eW0 w).2.length (eW0 w).2.length),(4, .share,A2 3 B1.enc default (D0 w))] [(48, .box World.zero),(96, .box (eW0 w).1.enc),(7, .arr 5 (A8 Api.Event.enc default (eW0 w).2))] (E0 hm ?_) ?_
 ·simp only[go_sem,go_sem_proc,World.zero,eW0];refine C0 [] [] ?_;simp only[go_sem,go_sem_proc]
 refine C4 [(1, .share, .fptr w.enc),(2, .share, .ptr 48 0 0 1),(5, .share, .ptr 96 0 0 1),(7, .share, .sl 7 0 (eWn w (D0 w).length).2.length (eWn w (D0 w).length).2.length)] [(48, .box World.zero),(96, .box (eWn w (D0 w).length).1.enc),(7, .arr 5 (A8 Api.Event.enc default (eWn w (D0 w).length).2))] (C4 [(1, .share, .fptr w.enc),(2, .share, .ptr 48 0 0 1),(5, .share, .ptr 96 0 0 1),(7, .share, .sl 7 0 (eWn w 0).2.length (eWn w 0).2.length),(35, .share,A2 3 B1.enc default (D0 w)),(36, .share,sI ((D0 w).length)),(37, .share,sI (0:Nat))] [(48, .box World.zero),(96, .box (eWn w 0).1.enc),(7, .arr 5 (A8 Api.Event.enc default (eWn w 0).2))] (E0 hm ?_) (A3f ?_)) ?_
 ·rw[show eWn w 0=eW0 w from rfl];generalize eW0 w=s;simp only[go_sem,go_sem_proc];refine C0 [] [] ?_;simp only[go_sem,go_sem_proc]
 ·refine B0 hm (ι:= {k:Nat // k<=(D0 w).length}) (λk=> [(1, .share, .fptr w.enc),(2, .share, .ptr 48 0 0 1),(5, .share, .ptr 96 0 0 1),(7, .share, .sl 7 0 (eWn w k.1).2.length (eWn w k.1).2.length),(35, .share,A2 3 B1.enc default (D0 w)),(36, .share,sI ((D0 w).length)),(37, .share,sI (k.1:Nat))]) (λk=> [(48, .box World.zero),(96, .box (eWn w k.1).1.enc),(7, .arr 5 (A8 Api.Event.enc default (eWn w k.1).2))]) (λk=>(D0 w).length-k.1) ⟨0,Nat.zero_le _⟩ ?_ ?_
  ·refine C0 [] [] ?_;simp only[go_sem,go_sem_proc]
  ·rintro⟨k,hk⟩;dsimp only;have hn:=D42 w k
   have hl:=D1d hw hf k hk;obtain⟨hi1,hi2⟩:=B8l w k;have hfin:(D0 w).length<=k->eWn w k=eWn w (D0 w).length:=λh=>by rw[show k=(D0 w).length by omega]
   generalize eWn w k=s at hn hl hi1 hi2 hfin⊢;by_cases hlt:k<(D0 w).length;rotate_left
   ·simp only[go_sem,go_sem_proc];rw[if_neg (by omega),<-hfin (by omega)];refine C0 [] [] ?_;simp only[go_sem,go_sem_proc]
   have hx:=hbs _ (B7 (l:=D0 w) (i:=k) default hlt)
   have hsw:Wsm s.1:=by rw[hi2];exact B73 hw hi1
   have hux:=C9d s.1 ((D0 w).getD k default)
   have hf1:=hf.1;simp only[go_sem,go_sem_proc];rw[if_pos (by omega)];generalize(D0 w).getD k default=x at hn hx hux⊢;refine⟨bE_,?_⟩;refine A0 (D75 s.1 x hsw hx.1) rfl ?_;simp only[go_sem,go_sem_proc,eW1]at hn⊢;have he:(List.map evP (B4s s.1 x).2).length<=60:=by rw[List.length_map];omega
   generalize List.map evP (B4s s.1 x).2=E at hn he⊢;refine⟨⟨by omega,by simp only[maxLen];omega⟩,?_⟩;refine A7 ⟨k+1,by omega⟩ (by show(D0 w).length-(k+1)<(D0 w).length-k;omega) ?_;simp only[hn];refine C0 [] [] ?_;simp only[go_sem,go_sem_proc];exact eE_
 have hE:=E4l.eq_1 w
 have hW:=E4m.eq_1 w;unfold eW2 at hE hW;have hl:=D1d hw hf (D0 w).length (Nat.le_refl _);obtain⟨hi1,hi2⟩:=B8l w (D0 w).length;generalize eWn w (D0 w).length=s at hE hW hl hi1 hi2⊢;have hsw:Wsm s.1:=by rw[hi2];exact B73 hw hi1
 have hsf:Wfw s.1:=by rw[hi2];exact C0k hf hi1
 have hjn:s.1.Joints=w.Joints:=by rw[hi2];rfl
 have hbk:Wsm (bkW s.1)/\Wfw (bkW s.1):=by obtain⟨g1,g2,g3,g4,g5,g6⟩:=hsw;exact⟨⟨g1,Nat.le_trans (List.length_filter_le ..) g2,g3,g4,g5,g6⟩,hsf⟩
 have hbe:=D89 (w:=s.1) (l:=s.1.Joints)
 have hj2:s.1.Joints.length<=1048576:=by rw[hjn];exact hw2
 have hB:=D00 s.1 hsw;generalize bkW s.1=V at hE hW hbk hB;generalize bkL s.1 s.1.Joints=E1 at hE hbe hB;dsimp only at hE hW;have hcf:A2b (V.Bodies.map H2) V.Bodies:=C55 (g:=H2) (λ_=>rfl) _
 have hU:Wsm (U4 V (V.Bodies.map H2)):=B73 hbk.1 hcf
 have hUf:Wfw (U4 V (V.Bodies.map H2)):=C0k hbk.2 hcf
 have hC:=D3v V hbk.1 A5x [] H2 rfl (λ_=>rfl) (λb _=>G3o b);generalize U4 V (V.Bodies.map H2)=U at hE hW hU hUf hC;have hO:=D27 U hU hUf
 have hov:=D9t U hUf
 have hS:=D74 w.Overlaps (ovL U) hw4 (by omega)
 have hsl:(C57 w.Overlaps (ovL U)).length<=(ovL U).length+w.Overlaps.length:=by
  have l1:=B8j (ovL U) (λk=>w.Overlaps.contains k) 3
  have l2:=B8j w.Overlaps (λk=>(ovL U).contains k) 4;unfold C57;rw[List.length_append];omega
 generalize ovL U=L at hE hW hO hov hS hsl;generalize C57 w.Overlaps L=E2 at hE hS hsl;have hf1:=hf.1
 have hK:=C33 [s.2,E1,E2] (by simp;omega) (by simp);rw[<-hE]at hK;refine E0 hm ?_;simp only[go_sem,go_sem_proc];refine A0 hB rfl ?_;simp only[go_sem,go_sem_proc];refine A0 hC rfl ?_;simp only[go_sem,go_sem_proc];refine A0 hO rfl ?_;simp only[go_sem,go_sem_proc];refine A0 hS rfl ?_;simp only[go_sem,go_sem_proc];refine A5j hK ?_;simp only[A07,go_sem,go_sem_proc];rw[hW];refine⟨A2e (λ_ _=>rfl) (by simp[D1g,A2]) rfl rfl,?_⟩;dsimp only
 (repeat' (with_reducible apply And.intro)) <;> first |with_reducible rfl |exact I4 _ |(rw[Int.min_def];split <;> split <;> omega)
end Go.Abs
end
