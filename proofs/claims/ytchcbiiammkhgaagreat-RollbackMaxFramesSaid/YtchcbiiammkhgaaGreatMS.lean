/- A part of the proof: contracts of functions that the statement reaches. -/
import Derived.Test.YtchcbiiammkhgaaGreatMR
set_option linter.unusedSimpArgs false
set_option linter.unusedVariables false
set_option linter.unnecessarySimpa false
set_option maxRecDepth 100000
set_option maxHeartbeats 2000000
noncomputable section
namespace Go.Abs
open Go.Proofs
open Api
def B0b(w:Api.World)(id:Int):Bool:=decide (0<=H5 w id)&&((w.cC.getD (H5 w id).toNat dF_).cS==3)
theorem B29(w:Api.World)(id:Int)(hw:w.cC.length<=1048576):cA_ D61 [.agg w.enc,sI id] [] (.tup [sI (H5 w id),sB (B0b w id)]) []:=by have hf:=A3a w id;refine enT hm A6 Tryz.func258 rfl rfl (sg_ ?_);refine A0 (T0 w id hw) rfl ?_;simp only[go_sem,C9];refine⟨λh=>ok_,?_⟩;rfl
def rt(g:List Int):Nat->Int->Int
 |0,i=>i
 |k+1,i=>if g.getD i.toNat 0=i then i else rt g k (g.getD i.toNat 0)
def O0(g:List Int)(i:Int):Int:=rt g i.toNat i
def UF(g:List Int):Prop:= ∀i:Nat,i<g.length->0<=g.getD i 0/\g.getD i 0<=(i:Int)
theorem E8w {g:List Int}{i:Int}(h:g.getD i.toNat 0=i): ∀k,rt g k i=i
 |0=>rfl
 |k+1=>by rw[rt,if_pos h]
theorem D4n {g:List Int}(hg:UF g): ∀(k:Nat) (i:Int),0<=i->i<(g.length:Int)->i.toNat<=k->rt g k i=O0 g i
 |0,i,h0,h1,hk=>by unfold O0;rw[show i.toNat=0 by omega]
 |k+1,i,h0,h1,hk=>by
  obtain⟨a,b⟩:=hg i.toNat (by omega);unfold O0;by_cases he:g.getD i.toNat 0=i
  ·rw[E8w he,E8w he]
  ·cases hn:i.toNat with
   |zero=>rw[hn]at a b he;omega
   |succ n=>
    have hj:g.getD (n+1) 0≠i:=by rw[hn]at he;exact he
    rw[hn]at a b;rw[rt,rt,hn,if_neg hj,if_neg hj,D4n hg k _ a (by omega) (by omega),D4n hg n _ a (by omega) (by omega)]
theorem C2q {g:List Int}(hg:UF g){i:Int}(h0:0<=i)(h1:i<(g.length:Int))(hn:g.getD i.toNat 0≠i):O0 g (g.getD i.toNat 0)=O0 g i:=by obtain⟨a,b⟩:=hg i.toNat (by omega);have:O0 g i=rt g (i.toNat+1) i:=(D4n hg (i.toNat+1) i h0 h1 (by omega)).symm;rw[this,rt,if_neg hn,D4n hg _ _ a (by omega) (by omega)]
theorem C0z {g:List Int}{i:Int}(h:g.getD i.toNat 0=i):O0 g i=i:=E8w h _
theorem E8u {g:List Int}(hg:UF g): ∀(k:Nat) (i:Int),i.toNat<=k->0<=i->i<(g.length:Int)->0<=O0 g i/\O0 g i<=i/\g.getD (O0 g i).toNat 0=O0 g i
 |k,i,hk,h0,h1=>by
  obtain⟨a,b⟩:=hg i.toNat (by omega);by_cases he:g.getD i.toNat 0=i
  ·rw[C0z he];exact⟨h0,Int.le_refl _,he⟩
  ·rw[<-C2q hg h0 h1 he];cases k with
   |zero=>omega
   |succ k=>have:=E8u hg k (g.getD i.toNat 0) (by omega) a (by omega);exact⟨this.1,by omega,this.2.2⟩
theorem A9a {g:List Int}(hg:UF g){i:Int}(h0:0<=i)(h1:i<(g.length:Int)):0<=O0 g i/\O0 g i<=i/\g.getD (O0 g i).toNat 0=O0 g i:=E8u hg _ i (Nat.le_refl _) h0 h1
theorem E1f(g:List Int)(i:Int)(hg:UF g)(h0:0<=i)(h1:i<(g.length:Int)):cA_ B1c [.sl 1 0 g.length g.length,sI i] [(1, .arr 1 (A9 C6 0 g))] (sI (O0 g i)) [(1, .arr 1 (A9 C6 0 g))]:=by
 refine I7 hm A6 Tryz.func159 rfl rfl (sg_ ?_);refine B1 hm (ι:= {j:Int // 0<=j/\j<(g.length:Int)/\O0 g j=O0 g i}) (λj=> [(0, .cA, .sl 1 0 g.length g.length),(1, .cA,sI j.1)])
  (λ_=> [(1, .arr 1 (A9 C6 0 g))]) (λj=>j.1.toNat) ⟨i,h0,h1,rfl⟩ ?_ ?_
 ·refine E0 [] [] ?_;simp only[go_sem]
 ·rintro⟨j,hj0,hj1,hj⟩;obtain⟨a,b⟩:=hg j.toNat (by omega);refine sg_ ?_;refine⟨ok_,?_⟩;by_cases he:g.getD j.toNat 0=j
  ·rw[if_neg (by rw[he];simp)];refine B6 [.cA] [] [] (sg_ ?_);rw[<-hj,C0z he]
  ·rw[if_pos (by simpa using he)];refine⟨ok_,?_⟩;refine A8 ⟨g.getD j.toNat 0,a,by omega,by rw[C2q hg hj0 hj1 he,hj]⟩ (by show(g.getD j.toNat 0).toNat<j.toNat;omega) (E0 [] [] ?_);simp only[go_sem]
theorem D6i(g:List Int)(i:Int)(hg:UF g)(h0:0<=i)(h1:i<(g.length:Int)):cA_ B1c [A4 1 C6 0 g,sI i] [] (sI (O0 g i)) []:=by
 refine en1 hm A6 Tryz.func159 rfl rfl (sg_ ?_);refine B1 hm (ι:= {j:Int // 0<=j/\j<(g.length:Int)/\O0 g j=O0 g i}) (λj=> [(0, .cA,A4 1 C6 0 g),(1, .cA,sI j.1)])
  (λ_=> []) (λj=>j.1.toNat) ⟨i,h0,h1,rfl⟩ ?_ ?_
 ·refine E0 [] [] ?_;simp only[go_sem]
 ·rintro⟨j,hj0,hj1,hj⟩;obtain⟨a,b⟩:=hg j.toNat (by omega);refine sg_ ?_;refine⟨ok_,?_⟩;by_cases he:g.getD j.toNat 0=j
  ·rw[if_neg (by rw[he];simp)];rw[<-hj,C0z he]
  ·rw[if_pos (by simpa using he)];refine⟨ok_,?_⟩;refine A8 ⟨g.getD j.toNat 0,a,by omega,by rw[C2q hg hj0 hj1 he,hj]⟩ (by show(g.getD j.toNat 0).toNat<j.toNat;omega) (E0 [] [] ?_);simp only[go_sem]
def B23(a b:Int):Int:=if a<b then b else a
def B6e(a b:Int):Int:=if b<a then b else a
def uni(w:Api.World)(g:List Int)(a b:Int):List Int:=if(B0b w a&&B0b w b)=true then g.set (B23 (O0 g (H5 w a)) (O0 g (H5 w b))).toNat (B6e (O0 g (H5 w a)) (O0 g (H5 w b)))else g
theorem F2p(w:Api.World)(g:List Int)(a b:Int):(uni w g a b).length=g.length:=by unfold uni;split <;> simp
theorem B3l {w:Api.World}{a:Int}(h:B0b w a=true):0<=H5 w a/\H5 w a<(w.cC.length:Int):=by unfold B0b at h;simp only[Bool.and_eq_true,decide_eq_true_eq]at h;exact⟨h.1,(A3a w a).2⟩
theorem F68 {w:Api.World}{g:List Int}(hg:UF g)(hl:g.length=w.cC.length)(a b:Int):UF (uni w g a b):=by
 unfold uni;split
 ·rename_i h;rw[Bool.and_eq_true]at h;obtain⟨a0,a1⟩:=B3l h.1;obtain⟨b0,b1⟩:=B3l h.2;obtain⟨x0,x1,_⟩:=A9a hg a0 (by omega);obtain⟨y0,y1,_⟩:=A9a hg b0 (by omega);intro i hi;rw[List.length_set]at hi;generalize O0 g (H5 w a)=x at*;generalize O0 g (H5 w b)=y at*;have hmm:0<=B6e x y/\B6e x y<=B23 x y/\B23 x y<(g.length:Int):=by unfold B6e B23;split <;> split <;> omega
  generalize B23 x y=p at*;generalize B6e x y=q at*;rw[C69 _ _ _ _ _ (by omega)];split
  ·rename_i he;subst he;omega
  ·exact hg i hi
 ·exact hg
theorem F2k(w:Api.World)(g:List Int)(a b:Int)(hg:UF g)(hl:g.length=w.cC.length)(hw:w.cC.length<=1048576):
  cA_ B96 [.sl 1 0 g.length g.length, .agg w.enc,sI a,sI b] [(1, .arr 1 (A9 C6 0 g))] (.tup []) [(1, .arr 1 (A9 C6 0 (uni w g a b)))]:=by
 refine A26 hm A6 Tryz.func257 rfl rfl (sg_ ?_);refine A0 (B29 w a hw) rfl (sg_ ?_);refine A0 (B29 w b hw) rfl ?_;simp only[go_sem,C9,C3];cases hd:(B0b w a&&B0b w b)with
 |false=>
  have hu:uni w g a b=g:=by unfold uni;rw[if_neg (by rw[hd];simp)]
  rw[if_neg (by simp)];refine B6 [] [] [] ?_;simp only[go_sem,hu]
 |true=>
  have hu:uni w g a b=g.set (B23 (O0 g (H5 w a)) (O0 g (H5 w b))).toNat (B6e (O0 g (H5 w a)) (O0 g (H5 w b))):=by unfold uni;rw[if_pos hd]
  rw[if_pos rfl];rw[Bool.and_eq_true]at hd;obtain⟨a0,a1⟩:=B3l hd.1;obtain⟨b0,b1⟩:=B3l hd.2;obtain⟨x0,x1,_⟩:=A9a hg a0 (by omega);obtain⟨y0,y1,_⟩:=A9a hg b0 (by omega);refine P7 (E1f g (H5 w a) hg a0 (by omega)) (by refine⟨by simp,?_⟩;simp) rfl (by simp[go_sem]) (by simp[go_sem,AV.ids]) rfl ?_;refine sg_ ?_;refine P7 (E1f g (H5 w b) hg b0 (by omega)) (by refine⟨by simp,?_⟩;simp) rfl (by simp[go_sem]) (by simp[go_sem,AV.ids]) rfl ?_;refine sg_ ?_;have hmx:0<=B23 (O0 g (H5 w a)) (O0 g (H5 w b))/\B23 (O0 g (H5 w a)) (O0 g (H5 w b))<(g.length:Int):=by unfold B23;split <;> omega
  have e1:(if O0 g (H5 w a)<O0 g (H5 w b)then O0 g (H5 w b)else O0 g (H5 w a))=B23 (O0 g (H5 w a)) (O0 g (H5 w b)):=rfl
  have e2:(if O0 g (H5 w b)<O0 g (H5 w a)then O0 g (H5 w b)else O0 g (H5 w a))=B6e (O0 g (H5 w a)) (O0 g (H5 w b)):=rfl;simp only[e1,e2];refine⟨⟨hmx.1,hmx.2⟩,?_⟩;refine B6 [] [] [] ?_;simp only[go_sem,hu];exact A2y (B6e (O0 g (H5 w a)) (O0 g (H5 w b))) (by omega) rfl rfl
def idL(n:Nat):List Int:=(List.range n).map λ(i:Nat)=>(i:Int)
theorem A6f(n:Nat):(idL n).length=n:=by simp[idL]
theorem F1z {n i:Nat}(h:i<n):(idL n).getD i 0=i:=by simp[idL,List.getD,h]
theorem G43(n:Nat):UF (idL n):=λi hi=>by rw[A6f]at hi;rw[F1z hi];omega
def uC(w:Api.World)(g:List Int)(c:cY):List Int:=uni w g c.dQ.cU c.dQ.cV
def uJ(w:Api.World)(g:List Int)(j:cG):List Int:=uni w g j.cU j.cV
def B4f(w:Api.World)(k:Nat):List Int:=(w.cB.take k).foldl (uC w) (idL w.cC.length)
def B2z(w:Api.World)(k:Nat):List Int:=(w.cD.take k).foldl (uJ w) (B4f w w.cB.length)
def H3(w:Api.World):List Int:=B2z w w.cD.length
def UFn(w:Api.World)(g:List Int):Prop:=UF g/\g.length=w.cC.length
theorem D3w(w:Api.World): ∀k,k<=w.cB.length->UFn w (B4f w k)
 |0,_=>⟨G43 _,A6f _⟩
 |k+1,h=>by
  have ih:=D3w w k (by omega)
  have:B4f w (k+1)=uC w (B4f w k) (w.cB.getD k dF_):=by unfold B4f;rw[L5 dF_ (by omega),List.foldl_append];rfl
  rw[this];exact⟨F68 ih.1 ih.2 _ _,by unfold uC;rw[F2p];exact ih.2⟩
theorem D3x(w:Api.World): ∀k,k<=w.cD.length->UFn w (B2z w k)
 |0,_=>D3w w _ (Nat.le_refl _)
 |k+1,h=>by
  have ih:=D3x w k (by omega)
  have:B2z w (k+1)=uJ w (B2z w k) (w.cD.getD k dF_):=by unfold B2z;rw[L5 dF_ (by omega),List.foldl_append];rfl
  rw[this];exact⟨F68 ih.1 ih.2 _ _,by unfold uJ;rw[F2p];exact ih.2⟩
theorem F1n(w:Api.World):UFn w (H3 w):=D3x w _ (Nat.le_refl _)
def idP(n i:Nat):List Int:=idL i++List.replicate (n-i) 0
theorem F10 {n i:Nat}(h:i<=n):(idP n i).length=n:=by simp[idP,A6f];omega
theorem G1v {n i:Nat}(h:i<n):(idP n i).set i (i:Int)=idP n (i+1):=by
 apply List.ext_getElem?;intro j;have hr:n-i=(n-(i+1))+1:=by omega
 unfold idP;rw[List.getElem?_set];by_cases hj:i=j
 ·subst hj;rw[if_pos rfl,if_pos (by simp[A6f];omega),List.getElem?_append_left (by rw[A6f];omega)];simp[idL]
 ·rw[if_neg hj];rcases Nat.lt_or_ge j i with h1 |h1
  ·rw[List.getElem?_append_left (by rw[A6f];exact h1),List.getElem?_append_left (by rw[A6f];omega)];simp[idL,h1,show j<i+1 by omega]
  ·rw[List.getElem?_append_right (by rw[A6f];exact h1),List.getElem?_append_right (by rw[A6f];omega),A6f,A6f];simp only[List.getElem?_replicate];congr 1;simp only[eq_iff_iff];omega
theorem F6z(w:Api.World)(hw:Wsm w):cA_ D60 [.agg w.enc] [] (A4 1 C6 0 (H3 w)) []:=by
 obtain⟨w1,w2,w3,w4,w5,w6⟩:=hw;refine en1 hm A6 Tryz.func158 rfl rfl (sg_ ?_);refine⟨ok_,?_⟩;refine B1 hm (ι:= {i:Nat // i<=w.cC.length}) (λi=> [(1, .cA, .ptr 32 0 0 1),(3, .cA, .sl 1 0 w.cC.length w.cC.length),(14, .cA,sI w.cC.length),(15, .cA,sI i.1)])
  (λi=> [(32, .box w.enc),(1, .arr 1 (A9 C6 0 (idP w.cC.length i.1)))]) (λi=>w.cC.length-i.1) ⟨0,by omega⟩ ?_ ?_
 ·refine E0 [(1,208)] [] (sg_ ?_);refine⟨rfl,(F10 (Nat.zero_le _)).symm,λk hk=> ?_⟩;have hk:k<w.cC.length:=hk
  have:(idP w.cC.length 0).getD k 0=0:=by simp[idP,idL,List.getD,hk]
  simp only[F5s,B3m,this];exact H9 _
 ·rintro⟨i,hi⟩;have hpl:=F10 hi;refine sg_ ?_;by_cases hlt:(i:Int)<w.cC.length
  ·rw[if_pos hlt];have hlt:i<w.cC.length:=by omega
   refine⟨⟨by omega,by omega,by omega⟩,hpl.symm,?_⟩;refine A8 ⟨i+1,by omega⟩ (by show w.cC.length-(i+1)<w.cC.length-i;omega) (E0 [] [] ?_);refine sg_ ?_;exact⟨(by rw[IntKind.wrap_i64];omega),A2y (i:Int) (by omega) rfl (G1v hlt)⟩
  ·rw[if_neg hlt];obtain rfl:i=w.cC.length:=by omega
   have hid:idP w.cC.length w.cC.length=idL w.cC.length:=by simp[idP]
   refine B1 hm (ι:= {i:Nat // i<=w.cB.length}) (λi=> [(1, .cA, .ptr 32 0 0 1),(3, .cA, .sl 1 0 w.cC.length w.cC.length),(24, .cA,A4 7 cY.enc dF_ w.cB),(25, .cA,sI w.cB.length),(26, .cA,sI i.1)])
    (λi=> [(32, .box w.enc),(1, .arr 1 (A9 C6 0 (B4f w i.1)))]) (λi=>w.cB.length-i.1) ⟨0,by omega⟩ ?_ ?_
   ·refine E0 [] [] ?_;simp only[go_sem,hid];exact A32 rfl
   ·rintro⟨i,hi⟩;obtain⟨hu,hl⟩:=D3w w i hi;refine sg_ ?_;by_cases hlt:(i:Int)<w.cB.length
    ·rw[if_pos hlt];have hlt:i<w.cB.length:=by omega
     have hs:B4f w (i+1)=uC w (B4f w i) (w.cB.getD i dF_):=by unfold B4f;rw[L5 dF_ (by omega),List.foldl_append];rfl
     have hU:=F2k w (B4f w i) (w.cB.getD i dF_).dQ.cU (w.cB.getD i dF_).dQ.cV hu hl w1;rw[hl]at hU;refine⟨ok_,?_⟩;refine P7 hU (by refine⟨by simp,?_⟩;simp) rfl (by simp[go_sem]) (by simp[go_sem,AV.ids]) rfl ?_;refine sg_ ?_;refine A8 ⟨i+1,by omega⟩ (by show w.cB.length-(i+1)<w.cB.length-i;omega) (E0 [] [] ?_);refine sg_ ?_;exact⟨(by rw[IntKind.wrap_i64];omega),A32 hs.symm⟩
    ·rw[if_neg hlt];obtain rfl:i=w.cB.length:=by omega
     refine B1 hm (ι:= {i:Nat // i<=w.cD.length}) (λi=> [(1, .cA, .ptr 32 0 0 1),(3, .cA, .sl 1 0 w.cC.length w.cC.length),(41, .cA,A4 24 cG.enc dF_ w.cD),(42, .cA,sI w.cD.length),(43, .cA,sI i.1)])
      (λi=> [(32, .box w.enc),(1, .arr 1 (A9 C6 0 (B2z w i.1)))]) (λi=>w.cD.length-i.1) ⟨0,by omega⟩ ?_ ?_
     ·refine E0 [] [] (sg_ ?_);exact A32 rfl
     ·rintro⟨i,hi⟩;obtain⟨hu,hl⟩:=D3x w i hi;refine sg_ ?_;by_cases hlt:(i:Int)<w.cD.length
      ·rw[if_pos hlt];have hlt:i<w.cD.length:=by omega
       have hs:B2z w (i+1)=uJ w (B2z w i) (w.cD.getD i dF_):=by unfold B2z;rw[L5 dF_ (by omega),List.foldl_append];rfl
       have hU:=F2k w (B2z w i) (w.cD.getD i dF_).cU (w.cD.getD i dF_).cV hu hl w1;rw[hl]at hU;refine⟨ok_,?_⟩;refine P7 hU (by refine⟨by simp,?_⟩;simp) rfl (by simp[go_sem]) (by simp[go_sem,AV.ids]) rfl ?_;refine sg_ ?_;refine A8 ⟨i+1,by omega⟩ (by show w.cD.length-(i+1)<w.cD.length-i;omega) (E0 [] [] ?_);refine sg_ ?_;exact⟨(by rw[IntKind.wrap_i64];omega),A32 hs.symm⟩
      ·rw[if_neg hlt];obtain rfl:i=w.cD.length:=by omega
       have hcl:=(F1n w).2
       have hcc:B2z w w.cD.length=H3 w:=rfl;simp only[go_sem,hcc,hcl]
def kd(w:Api.World)(i:Nat):Bool:=(w.cC.getD i dF_).cS==3
def DG(w:Api.World)(g:List Int):Prop:= ∀i:Nat,i<g.length->g.getD i 0≠(i:Int)->kd w i=true/\kd w (g.getD i 0).toNat=true
theorem C7o {w:Api.World}{g:List Int}(hg:UF g)(hd:DG w g): ∀(k:Nat) (i:Int),i.toNat<=k->0<=i->i<(g.length:Int)->kd w i.toNat=true->kd w (O0 g i).toNat=true
 |k,i,hk,h0,h1,hi=>by
  obtain⟨a,b⟩:=hg i.toNat (by omega);by_cases he:g.getD i.toNat 0=i
  ·rw[C0z he];exact hi
  ·rw[<-C2q hg h0 h1 he];obtain⟨d1,d2⟩:=hd i.toNat (by omega) (by omega);cases k with
   |zero=>omega
   |succ k=>exact C7o hg hd k _ (by omega) a (by omega) d2
theorem E2r {w:Api.World}{a:Int}(h:B0b w a=true):kd w (H5 w a).toNat=true:=by unfold B0b at h;rw[Bool.and_eq_true]at h;exact h.2
theorem F67 {w:Api.World}{g:List Int}(hg:UF g)(hl:g.length=w.cC.length)(hd:DG w g)(a b:Int):DG w (uni w g a b):=by
 unfold uni;split
 ·rename_i h;rw[Bool.and_eq_true]at h;obtain⟨a0,a1⟩:=B3l h.1;obtain⟨b0,b1⟩:=B3l h.2;obtain⟨x0,x1,_⟩:=A9a hg a0 (by omega);obtain⟨y0,y1,_⟩:=A9a hg b0 (by omega);have k1:=C7o hg hd _ _ (Nat.le_refl _) a0 (by omega) (E2r h.1)
  have k2:=C7o hg hd _ _ (Nat.le_refl _) b0 (by omega) (E2r h.2);generalize O0 g (H5 w a)=x at*;generalize O0 g (H5 w b)=y at*;have hmm:0<=B6e x y/\B6e x y<=B23 x y/\B23 x y<(g.length:Int)/\kd w (B23 x y).toNat=true/\kd w (B6e x y).toNat=true:=by unfold B6e B23;split <;> split <;> (refine⟨by omega,by omega,by omega,?_,?_⟩ <;> assumption)
  generalize B23 x y=p at*;generalize B6e x y=q at*;intro i hi hne;rw[List.length_set]at hi;rw[C69 _ _ _ _ _ (by omega)]at hne⊢;by_cases he:i=p.toNat
  ·rw[if_pos he]at hne⊢;subst he;exact⟨hmm.2.2.2.1,hmm.2.2.2.2⟩
  ·rw[if_neg he]at hne⊢;exact hd i hi hne
 ·exact hd
theorem G42(w:Api.World)(n:Nat):DG w (idL n):=λi hi hne=>by rw[A6f]at hi;exact absurd (F1z hi) hne
theorem F1l(w:Api.World): ∀k,k<=w.cB.length->DG w (B4f w k)
 |0,_=>G42 w _
 |k+1,h=>by
  have ih:=D3w w k (by omega)
  have:B4f w (k+1)=uC w (B4f w k) (w.cB.getD k dF_):=by unfold B4f;rw[L5 dF_ (by omega),List.foldl_append];rfl
  rw[this];exact F67 ih.1 ih.2 (F1l w k (by omega)) _ _
theorem F1m(w:Api.World): ∀k,k<=w.cD.length->DG w (B2z w k)
 |0,_=>F1l w _ (Nat.le_refl _)
 |k+1,h=>by
  have ih:=D3x w k (by omega)
  have:B2z w (k+1)=uJ w (B2z w k) (w.cD.getD k dF_):=by unfold B2z;rw[L5 dF_ (by omega),List.foldl_append];rfl
  rw[this];exact F67 ih.1 ih.2 (F1m w k (by omega)) _ _
theorem G1m(w:Api.World):DG w (H3 w):=F1m w _ (Nat.le_refl _)
def B2o(nm:List (Int×Int))(k:Int):Int:=match nm with
 | []=>0
 |(a,v)::r=>if(k==a)=true then v else B2o r k
def D1l(nm:List (Int×Int))(k v:Int):List (Int×Int):=match nm with
 | []=> [(k,v)]
 |(a,u)::r=>if(k==a)=true then(a,v)::r else(a,u)::D1l r k v
def nmE(nm:List (Int×Int)):List (Int×AV):=nm.map λp=>(p.1,sI p.2)
theorem C7h(k:Int): ∀nm:List (Int×Int),(B8n (nmE nm) k).getD (sI 0)=sI (B2o nm k)
 | []=>rfl
 |(a,v)::r=>by
  have ih:=C7h k r;simp only[nmE,List.map_cons,B8n,B2o]at ih⊢;by_cases h:(k==a)=true
  ·rw[if_pos h,if_pos h];rfl
  ·rw[if_neg h,if_neg h];exact ih
theorem E8i(k v:Int): ∀nm:List (Int×Int),B4q (nmE nm) k (sI v)=nmE (D1l nm k v)
 | []=>rfl
 |(a,u)::r=>by
  have ih:=E8i k v r;simp only[nmE,List.map_cons,B4q,D1l]at ih⊢;by_cases h:(k==a)=true
  ·rw[if_pos h,if_pos h];rfl
  ·rw[if_neg h,if_neg h,ih];rfl
theorem B9d(k v:Int)(j:Int): ∀nm:List (Int×Int),B2o (D1l nm k v) j=if j=k then v else B2o nm j
 | []=>by simp[D1l,B2o]
 |(a,u)::r=>by
  have ih:=B9d k v j r;simp only[D1l];by_cases h:(k==a)=true
  ·rw[if_pos h];have h:k=a:=by simpa using h
   subst h;simp only[B2o,beq_iff_eq];split <;> rfl
  ·rw[if_neg h];have h:k≠a:=by simpa using h
   simp only[B2o,beq_iff_eq,ih];by_cases hj:j=a
   ·subst hj;rw[if_pos rfl,if_neg (λe=>h e.symm)];simp
   ·rw[if_neg hj,if_neg hj]
def C7c(w:Api.World)(g:List Int)(a b:Int):Option Int:=if B0b w a=true then some (O0 g (H5 w a))else if B0b w b=true then some (O0 g (H5 w b))else none
def B4o(w:Api.World)(g:List Int)(nm:List (Int×Int))(a b:Int):Int×Bool:=match C7c w g a b with
 |some k=>(B2o nm k,true)
 |none=>(0,false)
theorem E1a(w:Api.World)(g:List Int)(nm:List (Int×Int))(a b:Int)(hg:UF g)(hl:g.length=w.cC.length)(hw:w.cC.length<=1048576):
  cA_ B67 [A4 1 C6 0 g, .agg w.enc, .mp 384,sI a,sI b] [(384, .map .i64 (nmE nm))] (.tup [sI ((B4o w g nm a b).1),sB ((B4o w g nm a b).2)]) [(384, .map .i64 (nmE nm))]:=by
 refine A26 hm A6 Tryz.func160 rfl rfl (sg_ ?_);refine B1 hm (ι:= {i:Nat // i<=2/\(0<i->B0b w a=false)/\(1<i->B0b w b=false)}) (λi=> [(0, .cA,A4 1 C6 0 g),(2, .cA, .mp 384),(6, .cA, .ptr 112 0 0 1),(18, .cA, .sl 8 0 2 2),(19, .cA,sI 2),(20, .cA,sI i.1)])
  (λ_=> [(384, .map .i64 (nmE nm)),(112, .box w.enc),(8, .arr 1 (A9 C6 0 [a,b]))]) (λi=>2-i.1) ⟨0,by omega,by omega,by omega⟩ ?_ ?_
 ·refine E0 [(8,304)] [] (sg_ ?_);exact⟨rfl,rfl,B9m (λ_ _=>rfl) rfl rfl⟩
 ·rintro⟨i,hi,h0,h1⟩;refine sg_ ?_;by_cases hlt:(i:Int)<2
  ·rw[if_pos hlt];refine⟨by omega,?_⟩;refine A0 (B29 w ([a,b].getD i 0) hw) rfl (sg_ ?_);cases hd:B0b w ([a,b].getD i 0)with
   |true=>
    obtain⟨d0,d1⟩:=B3l hd;rw[if_pos rfl];refine A0 (D6i g (H5 w ([a,b].getD i 0)) hg d0 (by omega)) rfl (sg_ ?_);have z0:B75 (.int .i64 0)=sI 0:=rfl;simp only[z0,C7h];have e:B4o w g nm a b=(B2o nm (O0 g (H5 w ([a,b].getD i 0))),true):=by
     unfold B4o C7c;rcases Nat.lt_or_ge 0 i with h |h
     ·obtain rfl:i=1:=by omega
      rw[h0 h];have hd:B0b w b=true:=hd;rw[hd];rfl
     ·obtain rfl:i=0:=by omega
      have hd:B0b w a=true:=hd;rw[hd];rfl
    refine B6 [.cA, .cA] [] [] ?_;simp only[go_sem,e]
    try exact rfl
   |false=>
    rw[if_neg (by simp)];refine A8 ⟨i+1,by omega,λ_=> ?_,λ_=> ?_⟩ (by show 2-(i+1)<2-i;omega) (E0 [] [] ?_)
    ·rcases Nat.lt_or_ge 0 i with h |h
     ·exact h0 h
     ·obtain rfl:i=0:=by omega
      exact hd
    ·obtain rfl:i=1:=by omega
     exact hd
    refine sg_ ?_;exact⟨(by rw[IntKind.wrap_i64];omega),rfl⟩
  ·rw[if_neg hlt];obtain rfl:i=2:=by omega
   have e:B4o w g nm a b=(0,false):=by unfold B4o C7c;rw[h0 (by omega),h1 (by omega)];rfl
   refine B6 [.cA, .cA] [] [] ?_;simp only[go_sem,e]
   try exact rfl
def V3(p:Nat->Option Nat)(q:Nat):Nat->List Int
 |0=> []
 |k+1=>if p k=some q then V3 p q k++ [(k:Int)]else V3 p q k
theorem B25(p:Nat->Option Nat)(q:Nat): ∀k,(V3 p q k).length<=k
 |0=>Nat.le_refl _
 |k+1=>by have:=B25 p q k;unfold V3;split <;> simp <;> omega
theorem E4b {p:Nat->Option Nat}{q:Nat}: ∀ {k},(∀j,j<k->p j≠some q)->V3 p q k= []
 |0,_=>rfl
 |k+1,h=>by unfold V3;rw[if_neg (h k (by omega)),E4b λj hj=>h j (by omega)]
theorem D4f {p:Nat->Option Nat}{q k:Nat}(h:p k≠some q):V3 p q k=V3 p q (k+1):=by rw[V3.eq_2,if_neg h]
theorem E8g {p:Nat->Option Nat}{q k:Nat}(h:p k=some q):V3 p q (k+1)=V3 p q k++ [(k:Int)]:=by rw[V3.eq_2,if_pos h]
def B0f(m:Nat)(B C J:Nat->List Int):Sq:=⟨m,λq=> [.own 1 (B q).length (I8 C6 0 (B q)), .own 1 (C q).length (I8 C6 0 (C q)), .own 1 (J q).length (I8 C6 0 (J q))]⟩
theorem F51(m:Nat)(B C J:Nat->List Int):(B0f m B C J).n=m:=rfl
theorem A74(m:Nat)(B C J:Nat->List Int)(q:Nat):(B0f m B C J).g q= [.own 1 (B q).length (I8 C6 0 (B q)), .own 1 (C q).length (I8 C6 0 (C q)), .own 1 (J q).length (I8 C6 0 (J q))]:=rfl
attribute [go_sem] F51 A74
theorem F8p(m:Nat)(B C J:Nat->List Int)(t:Sq):((B0f m B C J).app t).g m=t.g 0:=by simp[Sq.app,B0f]
theorem Sq.app_n(s t:Sq):(s.app t).n=s.n+t.n:=rfl
def isR(w:Api.World)(g:List Int)(j:Nat):Bool:=kd w j&&(g.getD j 0==(j:Int))
def nb(w:Api.World)(g:List Int):Nat->Nat
 |0=>0
 |i+1=>if isR w g i=true then nb w g i+1 else nb w g i
def nmB(w:Api.World)(g:List Int):Nat->List (Int×Int)
 |0=> []
 |i+1=>if isR w g i=true then D1l (nmB w g i) (i:Int) (nb w g i:Int)else nmB w g i
def pB(w:Api.World)(g:List Int)(j:Nat):Option Nat:=if kd w j=true then some (nb w g (O0 g (j:Int)).toNat)else none
def pC(w:Api.World)(g:List Int)(k:Nat):Option Nat:=(C7c w g (w.cB.getD k dF_).dQ.cU (w.cB.getD k dF_).dQ.cV).map λr=>nb w g r.toNat
def pJ(w:Api.World)(g:List Int)(k:Nat):Option Nat:=(C7c w g (w.cD.getD k dF_).cU (w.cD.getD k dF_).cV).map λr=>nb w g r.toNat
theorem F18(w:Api.World)(g:List Int){i:Nat}: ∀ {j:Nat},i<=j->nb w g i<=nb w g j
 |0,h=>by obtain rfl:i=0:=by omega
          exact Nat.le_refl _
 |j+1,h=>by
  rcases Nat.lt_or_ge i (j+1)with h1 |h1
  ·have:=F18 w g (show i<=j by omega)
   show _<=if isR w g j=true then nb w g j+1 else nb w g j;split <;> omega
  ·obtain rfl:i=j+1:=by omega
   exact Nat.le_refl _
theorem E54(w:Api.World)(g:List Int): ∀j:Nat,nb w g j<=j
 |0=>Nat.le_refl _
 |j+1=>by have:=E54 w g j;show(if isR w g j=true then nb w g j+1 else nb w g j)<=_;split <;> omega
theorem F2a {w:Api.World}{g:List Int}{i:Nat}(h:isR w g i=true):nb w g (i+1)=nb w g i+1:=by show(if isR w g i=true then nb w g i+1 else nb w g i)=_;rw[if_pos h]
theorem E55 {w:Api.World}{g:List Int}{i j:Nat}(h:isR w g i=true)(hj:i<j):nb w g i<nb w g j:=by have:=F18 w g (show i+1<=j by omega);rw[F2a h]at this;omega
theorem C5d {w:Api.World}{g:List Int}{r:Nat}(hr:isR w g r=true): ∀ {i:Nat},r<i->B2o (nmB w g i) (r:Int)=nb w g r
 |i+1,h=>by
  show B2o (if isR w g i=true then D1l (nmB w g i) (i:Int) (nb w g i:Int)else nmB w g i) (r:Int)=_;rcases Nat.lt_or_ge r i with h1 |h1
  ·split
   ·rw[B9d,if_neg (by omega),C5d hr h1]
   ·exact C5d hr h1
  ·obtain rfl:r=i:=by omega
   rw[if_pos hr,B9d,if_pos rfl]
theorem C7p {w:Api.World}{g:List Int}(hg:UF g)(hd:DG w g){i:Int}(h0:0<=i)(h1:i<(g.length:Int))(hk:kd w i.toNat=true):isR w g (O0 g i).toNat=true:=by obtain⟨a,b,c⟩:=A9a hg h0 h1;unfold isR;rw[C7o hg hd _ _ (Nat.le_refl _) h0 h1 hk,c];simp;omega
theorem F19 {w:Api.World}{g:List Int}{i:Nat}(h:isR w g i=false):nb w g (i+1)=nb w g i:=by show(if isR w g i=true then nb w g i+1 else nb w g i)=_;rw[if_neg (by rw[h];simp)]
theorem B17 {ρ:Nat->Nat}{s:Sq}{m:Nat}{B C J:Nat->List Int}(hn:s.n=m)(h: ∀q,q<m->C44 (s.g q) ((B0f m B C J).g q)):A31 ρ (.arrP 3 s) (.arrP 3 (B0f m B C J)):=⟨rfl,hn,λi hi=>h i (by omega)⟩
theorem A8p {n:Nat}{g:Nat->List AV}:B9f (.own 1 n g) (.own 1 n g):=⟨rfl,rfl,λ_ _=>H9 _⟩
theorem B2b {B B' C C' J J':List Int}(b:B=B')(c:C=C')(j:J=J'):C44 [.own 1 B.length (I8 C6 0 B), .own 1 C.length (I8 C6 0 C), .own 1 J.length (I8 C6 0 J)] [.own 1 B'.length (I8 C6 0 B'), .own 1 C'.length (I8 C6 0 C'), .own 1 J'.length (I8 C6 0 J')]:=by subst b c j;exact⟨A8p,A8p,A8p,trivial⟩
theorem E28(a:Int){l:List Int}:B9f (.own 1 ((A9 C6 0 l).app ⟨1,λi=>List.take 1 (List.drop (i*1) [AV.sc (.int .i64 a)])⟩).n ((A9 C6 0 l).app ⟨1,λi=>List.take 1 (List.drop (i*1) [AV.sc (.int .i64 a)])⟩).g) (.own 1 (l++ [a]).length (I8 C6 0 (l++ [a]))):=by have h:A31 id (.arr 1 ((A9 C6 0 l).app ⟨1,λi=>List.take 1 (List.drop (i*1) [AV.sc (.int .i64 a)])⟩)) (.arr 1 (A9 C6 0 (l++ [a]))):=A1g a rfl rfl;obtain⟨_,h1,h2⟩:=h;exact⟨rfl,h1,h2⟩
theorem Sq.set_same {s:Sq}{k:Nat}{c:List AV}:(s.set k c).g k=c:=by simp[Sq.set]
theorem Sq.set_ne {s:Sq}{k q:Nat}{c:List AV}(h:q≠k):(s.set k c).g q=s.g q:=by simp[Sq.set,h]
theorem F0e {m q:Nat}{B C J:Nat->List Int}{t:Sq}(h:q<m):((B0f m B C J).app t).g q=(B0f m B C J).g q:=by simp[Sq.app,B0f,h]
theorem F50 {w:Api.World}{g:List Int}(hg:UF g)(hgl:g.length=w.cC.length)(hd:DG w g){a b r:Int}(h:C7c w g a b=some r): ∃k:Nat,r=(k:Int)/\k<g.length/\isR w g k=true:=by
 have key: ∀x,B0b w x=true-> ∃k:Nat,O0 g (H5 w x)=(k:Int)/\k<g.length/\isR w g k=true:=λx hx=>by obtain⟨d0,d1⟩:=B3l hx;obtain⟨ra,rb,rc⟩:=A9a hg d0 (by omega);have hR:=C7p hg hd d0 (by omega) (E2r hx);exact⟨(O0 g (H5 w x)).toNat,(Int.toNat_of_nonneg ra).symm,by omega,hR⟩
 unfold C7c at h;split at h
 ·rename_i hx;injection h with h;subst h;exact key a hx
 ·split at h
  ·rename_i hx;injection h with h;subst h;exact key b hx
  ·cases h
def G5q(w:Api.World)(i:Nat):Sq:=B0f (nb w (H3 w) i) (λq=>V3 (pB w (H3 w)) q i) (λ_=> []) (λ_=> [])
attribute [go_sem] G5q
def G4u(w:Api.World)(i:Nat):List (Nat×A7):= [(32, .box w.enc),(384, .map .i64 (nmE (nmB w (H3 w) i))),(1, .arrP 3 (G5q w i))]
attribute [go_sem] G4u
def G4v(w:Api.World)(k:Nat):List (Nat×A7):= [(32, .box w.enc),(384, .map .i64 (nmE (nmB w (H3 w) w.cC.length))),(1, .arrP 3 (B0f (nb w (H3 w) w.cC.length) (λq=>V3 (pB w (H3 w)) q w.cC.length) (λq=>V3 (pC w (H3 w)) q k) (λ_=> [])))]
attribute [go_sem] G4v
def G4w(w:Api.World)(k:Nat):List (Nat×A7):= [(32, .box w.enc),(384, .map .i64 (nmE (nmB w (H3 w) w.cC.length))),(1, .arrP 3 (B0f (nb w (H3 w) w.cC.length) (λq=>V3 (pB w (H3 w)) q w.cC.length) (λq=>V3 (pC w (H3 w)) q w.cB.length) (λq=>V3 (pJ w (H3 w)) q k)))]
attribute [go_sem] G4w
theorem E5i(w:Api.World)(hw:Wsm w)(hv:B9 w=0):cA_ C4r [.agg w.enc] [] (.sl 1 0 (nb w (H3 w) w.cC.length) (nb w (H3 w) w.cC.length))
  [(1, .arrP 3 (B0f (nb w (H3 w) w.cC.length) (λq=>V3 (pB w (H3 w)) q w.cC.length) (λq=>V3 (pC w (H3 w)) q w.cB.length) (λq=>V3 (pJ w (H3 w)) q w.cD.length)))]:=by
 have hw':=hw;obtain⟨w1,w2,w3,w4,w5,w6⟩:=hw;obtain⟨hg,hgl⟩:=F1n w;have hgd:=G1m w;refine I7 hm A6 Tryz.func98 rfl rfl ?_;simp only[go_sem,C9,E8,C3,D7];refine A0 (I6 w hw') rfl ?_;simp only[go_sem,C9,E8,C3,D7,hv];rw[if_neg (by simp)];refine A0 (F6z w hw') rfl ?_;simp only[go_sem,C9,E8,C3,D7];refine B1 hm (ι:= {i:Nat // i<=w.cC.length}) (λi=> [(1, .cA, .ptr 32 0 0 1),(3, .cA,A4 1 C6 0 (H3 w)),(4, .cA, .mp 384),(5,if i.1=0 then .eZ else .cA, .sl 1 0 (nb w (H3 w) i.1) (nb w (H3 w) i.1)),(25, .cA,A4 20 cF.enc dF_ w.cC),(26, .cA,sI w.cC.length),(27, .cA,sI i.1)])
  (λi=>G4u w i.1) (λi=>w.cC.length-i.1) ⟨0,by omega⟩ ?_ ?_
 ·refine E0 [] [1] ?_;have n0:nb w (H3 w) 0=0:=rfl;simp only[go_sem,C9,E8,C3,D7,n0]
  first |rfl |exact⟨by simp,rfl⟩
 ·rintro⟨i,hi⟩;have hnb:=E54 w (H3 w) i;simp only[go_sem,C9,E8,C3,D7];by_cases hlt:(i:Int)<w.cC.length
  ·rw[if_pos hlt];have hlt:i<w.cC.length:=by omega
   refine⟨ok_,?_⟩;by_cases hk:(w.cC.getD i dF_).cS=3
   ·rw[if_neg (by rw[hk];simp)];refine A0 (D6i (H3 w) i hg (by omega) (by omega)) rfl ?_;simp only[go_sem,C9,E8,C3,D7];have z0:B75 (.int .i64 0)=sI 0:=rfl;by_cases hr:O0 (H3 w) i=i
    ·rw[if_pos (by simpa using hr)];refine⟨ok_,?_⟩;simp only[E8i,C7h,z0,hr,B9d];simp only[go_sem,C9,E8,C3,D7,F8p,Sq.app_n];have hR:isR w (H3 w) i=true:=by
      have:=C7p hg hgd (i:=(i:Int)) (by omega) (by omega) (by unfold kd;rw[Int.toNat_natCast,hk];rfl);rw[hr]at this;simpa using this
     have hn1:=F2a hR;refine⟨⟨by omega,by omega⟩,by omega,by decide,⟨by omega,by omega⟩,by omega,?_⟩;refine A8 ⟨i+1,by omega⟩ (by show w.cC.length-(i+1)<w.cC.length-i;omega) (E0 [] [] ?_);simp only[go_sem,C9,E8,C3,D7];have hp:pB w (H3 w) i=some (nb w (H3 w) i):=by unfold pB kd;rw[hk,hr];rfl
     have hz:V3 (pB w (H3 w)) (nb w (H3 w) i) i= []:=E4b λj hj hh=>by
      unfold pB at hh;split at hh
      ·rename_i hkj;obtain⟨ra,rb,rc⟩:=A9a hg (i:=(j:Int)) (by omega) (by omega);have hR2:isR w (H3 w) (O0 (H3 w) j).toNat=true:=C7p hg hgd (i:=(j:Int)) (by omega) (by omega) (by rw[Int.toNat_natCast];exact hkj)
       have:=E55 hR2 (j:=i) (by omega);injection hh with hh;omega
      ·cases hh
     refine⟨hn1.symm,(by rw[IntKind.wrap_i64];omega),?_,B17 hn1.symm λq hq=> ?_⟩
     ·show A7.map _ _=A7.map _ _;show _=A7.map _ (nmE (if isR w (H3 w) i=true then _ else _));rw[if_pos hR]
     ·by_cases hqm:q=nb w (H3 w) i
      ·subst hqm;simp only[Sq.set_same,A74];have:V3 (pB w (H3 w)) (nb w (H3 w) i) (i+1)= [(i:Int)]:=by unfold V3;rw[if_pos hp,hz];rfl
       rw[this];exact⟨⟨rfl,rfl,λk hk=>by obtain rfl:k=0:=by omega
                                         exact H9 _⟩,⟨rfl,rfl⟩,⟨rfl,rfl⟩,trivial⟩
      ·simp only[Sq.set_ne hqm,A74];rw[F0e (by omega),A74];have:V3 (pB w (H3 w)) q (i+1)=V3 (pB w (H3 w)) q i:=by rw[V3,if_neg];rw[hp];intro e;injection e with e;exact hqm e.symm
       rw[this];exact B2b rfl rfl rfl
    ·rw[if_neg (by simpa using hr)];obtain⟨ra,rb,rc⟩:=A9a hg (i:=(i:Int)) (by omega) (by omega);have hR:isR w (H3 w) (O0 (H3 w) i).toNat=true:=C7p hg hgd (i:=(i:Int)) (by omega) (by omega) (by unfold kd;rw[Int.toNat_natCast,hk];rfl);obtain⟨r,hrr⟩: ∃r:Nat,O0 (H3 w) i=r:=⟨_,(Int.toNat_of_nonneg ra).symm⟩;rw[hrr]at hr rb hR;rw[Int.toNat_natCast]at hR;have hlook:=C5d hR (i:=i) (by omega)
     have hlt2:=E55 hR (j:=i) (by omega)
     have hml:=B25 (pB w (H3 w)) (nb w (H3 w) r) i;simp only[C7h,z0,hrr,hlook];simp only[go_sem,C9,E8,C3,D7];refine⟨⟨by omega,by omega⟩,by omega,ok_,(by omega),(by first |exact⟨by omega,rfl⟩ |omega),?_⟩;refine A8 ⟨i+1,by omega⟩ (by show w.cC.length-(i+1)<w.cC.length-i;omega) (E0 [] [] ?_);simp only[go_sem,C9,E8,C3,D7];have hp:pB w (H3 w) i=some (nb w (H3 w) r):=by unfold pB kd;rw[hk,hrr];rfl
     have hR0:isR w (H3 w) i=false:=by
      cases h:isR w (H3 w) i with
      |false=>rfl
      |true=>unfold isR at h;rw[Bool.and_eq_true,beq_iff_eq]at h;have:=C0z (g:=H3 w) (i:=(i:Int)) (by rw[Int.toNat_natCast];exact h.2);rw[hrr]at this;exact absurd this hr
     have hn0:=F19 hR0;refine⟨hn0.symm,(by rw[IntKind.wrap_i64];omega),?_,B17 hn0.symm λq hq=> ?_⟩
     ·show A7.map _ _=A7.map _ _;show _=A7.map _ (nmE (if isR w (H3 w) i=true then _ else _));rw[if_neg (by rw[hR0];simp)]
     ·by_cases hqm:q=nb w (H3 w) r
      ·subst hqm;simp only[Sq.set_same,A74,List.tail_cons];have:V3 (pB w (H3 w)) (nb w (H3 w) r) (i+1)=V3 (pB w (H3 w)) (nb w (H3 w) r) i++ [(i:Int)]:=by rw[V3,if_pos hp]
       rw[this];exact⟨E28 i,A8p,A8p,trivial⟩
      ·simp only[Sq.set_ne hqm,A74];have:V3 (pB w (H3 w)) q (i+1)=V3 (pB w (H3 w)) q i:=by rw[V3,if_neg];rw[hp];intro e;injection e with e;exact hqm e.symm
       rw[this];exact B2b rfl rfl rfl
   ·rw[if_pos (by simpa using hk)];refine A8 ⟨i+1,by omega⟩ (by show w.cC.length-(i+1)<w.cC.length-i;omega) (E0 [] [] ?_);simp only[go_sem,C9,E8,C3,D7];have hk':kd w i=false:=by unfold kd;simpa using hk
    have hp:pB w (H3 w) i=none:=by unfold pB;rw[hk'];rfl
    have hR0:isR w (H3 w) i=false:=by unfold isR;rw[hk'];rfl
    have hn0:=F19 hR0;refine⟨hn0.symm,(by rw[IntKind.wrap_i64];omega),?_,B17 hn0.symm λq hq=> ?_⟩
    ·show A7.map _ _=A7.map _ _;show _=A7.map _ (nmE (if isR w (H3 w) i=true then _ else _));rw[if_neg (by rw[hR0];simp)]
    ·simp only[A74];have:V3 (pB w (H3 w)) q (i+1)=V3 (pB w (H3 w)) q i:=by rw[V3,if_neg];rw[hp];simp
     rw[this];exact B2b rfl rfl rfl
  ·rw[if_neg hlt];obtain rfl:i=w.cC.length:=by omega
   have hnb2:=E54 w (H3 w) w.cC.length;refine B1 hm (ι:= {k:Nat // k<=w.cB.length}) (λk=> [(1, .cA, .ptr 32 0 0 1),(3, .cA,A4 1 C6 0 (H3 w)),(4, .cA, .mp 384),(5, .cA, .sl 1 0 (nb w (H3 w) w.cC.length) (nb w (H3 w) w.cC.length)),(66, .cA,A4 7 cY.enc dF_ w.cB),(67, .cA,sI w.cB.length),(68, .cA,sI k.1)])
    (λk=>G4v w k.1) (λk=>w.cB.length-k.1) ⟨0,by omega⟩ ?_ ?_
   ·refine E0 [] [] ?_;simp only[go_sem,C9,E8,C3,D7];exact⟨rfl,B17 rfl λq hq=>B2b rfl rfl rfl⟩
   ·rintro⟨k,hk⟩;simp only[go_sem,C9,E8,C3,D7];by_cases hlt:(k:Int)<w.cB.length
    ·rw[if_pos hlt];have hlt:k<w.cB.length:=by omega
     refine⟨ok_,?_⟩;refine P7 (E1a w (H3 w) (nmB w (H3 w) w.cC.length) (w.cB.getD k dF_).dQ.cU (w.cB.getD k dF_).dQ.cV hg hgl w1) (by refine⟨by simp,?_⟩;simp) rfl (by simp[go_sem]) (by simp[go_sem,AV.ids]) rfl ?_;simp only[go_sem,C9,E8,C3,D7];cases hi2:C7c w (H3 w) (w.cB.getD k dF_).dQ.cU (w.cB.getD k dF_).dQ.cV with
     |none=>
      have e:B4o w (H3 w) (nmB w (H3 w) w.cC.length) (w.cB.getD k dF_).dQ.cU (w.cB.getD k dF_).dQ.cV=(0,false):=by unfold B4o;rw[hi2]
      have hp:pC w (H3 w) k=none:=by unfold pC;rw[hi2];rfl
      simp only[e];rw[if_neg (by simp)];refine A8 ⟨k+1,by omega⟩ (by show w.cB.length-(k+1)<w.cB.length-k;omega) (E0 [] [] ?_);simp only[go_sem,C9,E8,C3,D7];refine⟨(by rw[IntKind.wrap_i64];omega),rfl,B17 rfl λq hq=>B2b rfl ?_ rfl⟩;exact D4f (by rw[hp];simp)
     |some r=>
      obtain⟨r,rfl,hrl,hR⟩:=F50 hg hgl hgd hi2;have hlook:=C5d hR (i:=w.cC.length) (by omega)
      have hlt2:=E55 hR (j:=w.cC.length) (by omega)
      have e:B4o w (H3 w) (nmB w (H3 w) w.cC.length) (w.cB.getD k dF_).dQ.cU (w.cB.getD k dF_).dQ.cV=((nb w (H3 w) r:Int),true):=by unfold B4o;rw[hi2];simp only[hlook]
      have hp:pC w (H3 w) k=some (nb w (H3 w) r):=by unfold pC;rw[hi2];rfl
      have hml:=B25 (pC w (H3 w)) (nb w (H3 w) r) k;simp only[e];rw[if_pos trivial];simp only[go_sem,C9,E8,C3,D7];refine⟨⟨by omega,by omega⟩,by omega,ok_,(by omega),(by first |exact⟨by omega,rfl⟩ |omega),?_⟩;refine A8 ⟨k+1,by omega⟩ (by show w.cB.length-(k+1)<w.cB.length-k;omega) (E0 [] [] ?_);simp only[go_sem,C9,E8,C3,D7];refine⟨(by rw[IntKind.wrap_i64];omega),rfl,B17 rfl λq hq=> ?_⟩;by_cases hqm:q=nb w (H3 w) r
      ·subst hqm;simp only[Sq.set_same,A74,List.tail_cons];rw[E8g hp];exact⟨A8p,E28 k,A8p,trivial⟩
      ·simp only[Sq.set_ne hqm,A74];refine B2b rfl ?_ rfl;exact D4f (by rw[hp];intro e;injection e with e;exact hqm e.symm)
    ·rw[if_neg hlt];obtain rfl:k=w.cB.length:=by omega
     refine B1 hm (ι:= {k:Nat // k<=w.cD.length}) (λk=> [(1, .cA, .ptr 32 0 0 1),(3, .cA,A4 1 C6 0 (H3 w)),(4, .cA, .mp 384),(5, .cA, .sl 1 0 (nb w (H3 w) w.cC.length) (nb w (H3 w) w.cC.length)),(101, .cA,A4 24 cG.enc dF_ w.cD),(102, .cA,sI w.cD.length),(103, .cA,sI k.1)])
      (λk=>G4w w k.1) (λk=>w.cD.length-k.1) ⟨0,by omega⟩ ?_ ?_
     ·refine E0 [] [] ?_;simp only[go_sem,C9,E8,C3,D7];exact⟨rfl,B17 rfl λq hq=>B2b rfl rfl rfl⟩
     ·rintro⟨k,hk⟩;simp only[go_sem,C9,E8,C3,D7];by_cases hlt:(k:Int)<w.cD.length
      ·rw[if_pos hlt];have hlt:k<w.cD.length:=by omega
       refine⟨ok_,?_⟩;refine P7 (E1a w (H3 w) (nmB w (H3 w) w.cC.length) (w.cD.getD k dF_).cU (w.cD.getD k dF_).cV hg hgl w1) (by refine⟨by simp,?_⟩;simp) rfl (by simp[go_sem]) (by simp[go_sem,AV.ids]) rfl ?_;simp only[go_sem,C9,E8,C3,D7];cases hi2:C7c w (H3 w) (w.cD.getD k dF_).cU (w.cD.getD k dF_).cV with
       |none=>
        have e:B4o w (H3 w) (nmB w (H3 w) w.cC.length) (w.cD.getD k dF_).cU (w.cD.getD k dF_).cV=(0,false):=by unfold B4o;rw[hi2]
        have hp:pJ w (H3 w) k=none:=by unfold pJ;rw[hi2];rfl
        simp only[e];rw[if_neg (by simp)];refine A8 ⟨k+1,by omega⟩ (by show w.cD.length-(k+1)<w.cD.length-k;omega) (E0 [] [] ?_);simp only[go_sem,C9,E8,C3,D7];refine⟨(by rw[IntKind.wrap_i64];omega),rfl,B17 rfl λq hq=>B2b rfl rfl ?_⟩;exact D4f (by rw[hp];simp)
       |some r=>
        obtain⟨r,rfl,hrl,hR⟩:=F50 hg hgl hgd hi2;have hlook:=C5d hR (i:=w.cC.length) (by omega)
        have hlt2:=E55 hR (j:=w.cC.length) (by omega)
        have e:B4o w (H3 w) (nmB w (H3 w) w.cC.length) (w.cD.getD k dF_).cU (w.cD.getD k dF_).cV=((nb w (H3 w) r:Int),true):=by unfold B4o;rw[hi2];simp only[hlook]
        have hp:pJ w (H3 w) k=some (nb w (H3 w) r):=by unfold pJ;rw[hi2];rfl
        have hml:=B25 (pJ w (H3 w)) (nb w (H3 w) r) k;simp only[e];rw[if_pos trivial];simp only[go_sem,C9,E8,C3,D7];refine⟨⟨by omega,by omega⟩,by omega,ok_,(by omega),(by first |exact⟨by omega,rfl⟩ |omega),?_⟩;refine A8 ⟨k+1,by omega⟩ (by show w.cD.length-(k+1)<w.cD.length-k;omega) (E0 [] [] ?_);simp only[go_sem,C9,E8,C3,D7];refine⟨(by rw[IntKind.wrap_i64];omega),rfl,B17 rfl λq hq=> ?_⟩;by_cases hqm:q=nb w (H3 w) r
        ·subst hqm;simp only[Sq.set_same,A74,List.tail_cons];rw[E8g hp];exact⟨A8p,A8p,E28 k,trivial⟩
        ·simp only[Sq.set_ne hqm,A74];refine B2b rfl rfl ?_;exact D4f (by rw[hp];intro e;injection e with e;exact hqm e.symm)
      ·rw[if_neg hlt];obtain rfl:k=w.cD.length:=by omega
       refine B6 [.cA] [] [] ?_;simp only[go_sem,C9,E8,C3,D7];exact B17 rfl λq hq=>B2b rfl rfl rfl
def D6(w:Api.World):List B3:=if B9 w=0 then(List.range (nb w (H3 w) w.cC.length)).map λq=>⟨V3 (pB w (H3 w)) q w.cC.length,V3 (pC w (H3 w)) q w.cB.length,V3 (pJ w (H3 w)) q w.cD.length⟩else []
theorem F2i(w:Api.World)(hw:Wsm w):cA_ C4r [.agg w.enc] [] (A4 3 B3.enc dF_ (D6 w)) []:=by
 by_cases hv:B9 w=0
 ·have h:=E5i w hw hv
  generalize hB:(λq=>V3 (pB w (H3 w)) q w.cC.length)=B at h;generalize hC:(λq=>V3 (pC w (H3 w)) q w.cB.length)=C at h;generalize hJ:(λq=>V3 (pJ w (H3 w)) q w.cD.length)=J at h;generalize hm:nb w (H3 w) w.cC.length=m at h;have hl:D6 w=(List.range m).map λq=>⟨B q,C q,J q⟩:=by unfold D6;rw[if_pos hv,hm,<-hB,<-hC,<-hJ]
  have h2:=D5.settle (O2:= [(1, .arr 3 ⟨m,λk=>((B0f m B C J).g k).map B90⟩)]) h (id:=1) (z:=3) (s:=B0f m B C J) (by rw[D2k];simp) (λk j _=>by
   rw[A74]
   match j with
   |0=>simp
   |1=>simp
   |2=>simp
   |j+3=>simp) (by
   rw[D2k,D2k];funext x;by_cases hx:x=1
   ·subst hx;simp[F51]
   ·rw[J1 hx,J1 hx,J1 hx])
  have h3:=D5.dataRes (s:=⟨m,λk=>((B0f m B C J).g k).map B90⟩) h2;refine h3.res_le (A6b _ _ ?_);rw[hl];refine⟨rfl,by simp,λi hi=> ?_⟩;have hi:i<m:=hi
  have:I8 B3.enc dF_ ((List.range m).map λq=>(⟨B q,C q,J q⟩:B3)) i=((B0f m B C J).g i).map B90:=by rw[B3m];simp[List.getD,hi,B3.enc,A74,B90,A4]
  rw[this];exact H9 _
 ·have hl:D6 w= []:=by unfold D6;rw[if_neg hv]
  rw[hl];refine en1 hm A6 Tryz.func98 rfl rfl ?_;simp only[go_sem,C9,E8,C3,D7];refine A0 (I6 w hw) rfl ?_;simp only[go_sem,C9,E8,C3,D7];rw[if_pos (by simpa using hv)]
  first |exact⟨rfl,rfl⟩ |simp[M9]
def A2i(a b:List cF):Prop:=a.length=b.length/\ ∀k:Nat,(a.getD k dF_).cK=(b.getD k dF_).cK
theorem A2i.refl(a:List cF):A2i a a:=⟨rfl,λ_=>rfl⟩
theorem A2i.trans {a b c:List cF}(h:A2i a b)(h2:A2i b c):A2i a c:=⟨h.1.trans h2.1,λk=>(h.2 k).trans (h2.2 k)⟩
theorem C8a {g:cF->cF}(hg: ∀b,(g b).cK=b.cK)(l:List cF):A2i (l.map g) l:=by
 refine⟨List.length_map ..,λk=> ?_⟩;by_cases h:k<l.length
 ·have e:(l.map g).getD k dF_=g (l.getD k dF_):=by
   simp only[List.getD,List.getElem?_map,List.getElem?_eq_getElem h,Option.map_some,Option.getD_some]
  rw[e,hg]
 ·simp only[List.getD];rw[List.getElem?_eq_none (by rw[List.length_map];omega),List.getElem?_eq_none (by omega)]
theorem C8b {l:List cF}{k:Nat}{v:cF}(h:v.cK=(l.getD k dF_).cK):A2i (l.set k v) l:=by
 refine⟨List.length_set ..,λi=> ?_⟩;by_cases hk:k=i
 ·subst hk;by_cases hl:k<l.length
  ·rw[gsS hl];exact h
  ·rw[List.set_eq_of_length_le (by omega)]
 ·rw[show(l.set k v).getD i dF_=l.getD i dF_ by simp only[List.getD,List.getElem?_set_ne hk]]
theorem F9r(bs as_:List cF)(js:List cG):A2i (stB bs as_ js as_.length) as_:=by
 refine⟨E3o ..,λk=> ?_⟩;by_cases h:k<as_.length
 ·have e:(stB bs as_ js as_.length).getD k dF_=(stR bs as_ js k).1:=by
   unfold stB;simp only[List.getD,List.getElem?_map,List.getElem?_range h,Option.map_some,Option.getD_some]
  rw[e];unfold stR;split <;> rfl
 ·simp only[List.getD];rw[List.getElem?_eq_none (by rw[E3o];omega),List.getElem?_eq_none (by omega)]
theorem C79 {f:List cF×List (Int×Int)->Int->List cF×List (Int×Int)}(hf: ∀s i,A2i (f s i).1 s.1): ∀(l:List Int) (s),A2i (l.foldl f s).1 s.1
 | [],s=>A2i.refl _
 |i::l,s=>(C79 hf l (f s i)).trans (hf s i)
theorem F62(w:Api.World)(x:B3):A2i (B5k w x).1 w.cC:=by
 have hu: ∀l:List Int,A2i (upF w l) w.cC:=λl=>by
  unfold upF;generalize hB:w.cC=B;clear hB;induction l generalizing B with
  |nil=>exact A2i.refl _
  |cons i l ih=>exact(ih _).trans (C8b rfl)
 unfold B5k;split
 ·split
  ·exact(C79 (λs i=>by unfold B5i;exact C8b rfl) _ _).trans (hu _)
  ·exact hu _
 ·exact A2i.refl _
theorem F9s(w:Api.World)(x:B3):A2i (wkR w x).1 w.cC:=by
 unfold wkR;split
 ·unfold wkF;refine C79 (λs i=> ?_) _ _;unfold B0p;split
  ·exact C8b rfl
  ·exact A2i.refl _
 ·exact A2i.refl _
theorem A2i.mem {a b:List cF}(h:A2i a b){x:cF}(hx:x∈a): ∃y∈b,x.cK=y.cK:=by obtain⟨k,hk,rfl⟩:=List.getElem_of_mem hx;have h2:=h.2 k;refine⟨b.getD k dF_,B8 dF_ (by rw[<-h.1];exact hk),?_⟩;rw[<-h2];simp[List.getD,hk]
theorem B9c {w:Api.World}{bs:List cF}(hw:Wsm w)(h:A2i bs w.cC):Wsm (U8 w bs):=by obtain⟨h1,h2,h3,h4,h5,h6⟩:=hw;refine⟨by show bs.length<=_;rw[h.1];exact h1,h2,h3,h4,λb hb=> ?_,h6⟩;obtain⟨y,hy,e⟩:=h.mem hb;have:=h5 y hy;unfold cF.sm at this⊢;rwa[e]
theorem C18 {w:Api.World}{bs:List cF}(hw:Wfw w)(h:A2i bs w.cC):Wfw (U8 w bs):=by refine⟨by show bs.length<=_;rw[h.1];exact hw.1,λb hb=> ?_⟩;obtain⟨y,hy,e⟩:=h.mem hb;rw[e];exact hw.2 y hy
theorem G28(b:cF)(dt:Int):(A0m b dt).cK=b.cK:=by unfold A0m;split <;> rfl
def eW1(x:B3)(s:Api.World×List Api.Event):Api.World×List Api.Event:=(U8 s.1 (B5k s.1 x).1,s.2++(B5k s.1 x).2.map evP)
def B4v(w:Api.World):List cF:=w.cC.map λb=>A0m b w.cM.dZ
def eW0(w:Api.World):Api.World×List Api.Event:=(U8 w (stB w.cC (B4v w) w.cD (B4v w).length),B1v w.cC (B4v w) w.cD (B4v w).length)
def eWn(w:Api.World)(n:Nat):Api.World×List Api.Event:=itr (λk s=>eW1 ((D6 w).getD k dF_) s) n (eW0 w)
def eW2(w:Api.World):Api.World:=(λa:Api.World=>U8 a (a.cC.map I9)) (bkW (eWn w (D6 w).length).1)
def D8c(w:Api.World):Api.World:= {eW2 w with cT:=ovL (eW2 w),eK:=min (IntKind.i64.wrap ((eW2 w).eK+1)) 1099511627776}
def E7y(w:Api.World):List Api.Event:= [(eWn w (D6 w).length).2,bkL (eWn w (D6 w).length).1 (eWn w (D6 w).length).1.cD,C8c w.cT (ovL (eW2 w))].flatten
theorem D1x(w:Api.World)(x:B3):(B5k w x).2.length<=x.cC.length:=by
 have h:=C7b x.cC w.cC.length;unfold B5k;split
 ·split
  ·have:=(F2m (upF w (A1b w x)) (A1b w x)).2
   unfold A1b at this⊢;omega
  ·exact Nat.zero_le _
 ·exact Nat.zero_le _
theorem B4d(w:Api.World):(D6 w).length<=w.cC.length:=by
 unfold D6;split
 ·rw[List.length_map,List.length_range];exact E54 ..
 ·exact Nat.zero_le _
theorem B7i {w:Api.World}(hw:Wsm w): ∀x∈D6 w,Ism x/\x.cC.length<=w.cC.length:=by
 intro x hx;unfold D6 at hx;split at hx
 ·obtain⟨q,_,rfl⟩:=List.mem_map.1 hx;have h1:=B25 (pB w (H3 w)) q w.cC.length
  have h2:=B25 (pC w (H3 w)) q w.cB.length
  have h3:=B25 (pJ w (H3 w)) q w.cD.length;obtain⟨g1,g2,g3,_⟩:=hw;exact⟨⟨by show(V3 _ _ _).length<=_;omega,by show(V3 _ _ _).length<=_;omega,by show(V3 _ _ _).length<=_;omega⟩,h1⟩
 ·cases hx
theorem D79(w:Api.World)(n:Nat):eWn w (n+1)=eW1 ((D6 w).getD n dF_) (eWn w n):=H6 ..
theorem D3p(w:Api.World):A2i (B4v w) w.cC:=C8a (λb=>G28 b _) _
theorem B9w(w:Api.World): ∀n,A2i (eWn w n).1.cC w.cC/\(eWn w n).1=U8 w (eWn w n).1.cC
 |0=>⟨(F9r _ _ _).trans (D3p w),rfl⟩
 |n+1=>by
  obtain⟨h1,h2⟩:=B9w w n;rw[D79];generalize eWn w n=s at h1 h2⊢;refine⟨(F62 _ _).trans h1,?_⟩;have key: ∀B,U8 s.1 B=U8 w B:=λB=>by rw[h2];rfl
  exact key _
theorem D30 {w:Api.World}(hw:Wsm w)(hf:Wfw w): ∀n,n<=(D6 w).length->(eWn w n).2.length<=60+60*n
 |0,_=>by
  have h:=E9e w.cC (B4v w) w.cD (B4v w).length
  have h2:=(D3p w).1
  have h3:=hf.1;show(B1v _ _ _ _).length<=_;omega
 |n+1,hn=>by
  have ih:=D30 hw hf n (by omega);rw[D79];have hx:=B7i hw _ (B8 (l:=D6 w) (i:=n) dF_ (by omega))
  have h3:=hf.1
  have h4:=D1x (eWn w n).1 ((D6 w).getD n dF_);show((eWn w n).2++List.map evP _).length<=_;rw[List.length_append,List.length_map];omega
theorem E5v(w:Api.World)(b:cF)(hb:cF.sm b):cA_ C8q [.agg b.enc, .cW w.enc] [] (.agg (A0m b w.cM.dZ).enc) []:=by refine M3 9 [(3,some (some 20))] hm A6 Tryz.func115 rfl (st_ ?_);refine A0 (C7t b w.cM.dZ hb.2) rfl ?_;simp only[go_sem,go_sem_proc]
theorem G65(b:cF):cA_ A54 [.agg b.enc] [] (.agg (I9 b).enc) []:=C1t b
theorem F0x(w:Api.World)(hw:Wsm w)(hf:Wfw w)(hv:B9 w=0):cA_ D9v [.agg w.enc] [] (.tup [.agg (D8c w).enc,A4 5 Api.Event.enc dF_ (E7y w)]) []:=by
 have hV:=I6 w hw;rw[hv]at hV;have hbl:=B4d w
 have hbs:= @B7i w hw
 have hp:=D3p w
 have hpw:Wsm (U8 w (B4v w)):=B9c hw hp;obtain⟨hw1,hw2,hw3,hw4,hw5,hw6⟩:=id hw;refine E0h 78 [(2,some (some 11)),(3,none)] hm A6 Tryz.func58 rfl ?_;refine B2 [(1, .eQ, .cW w.enc),(2, .cA, .ptr 48 0 0 1)] [(48, .box World.zero)] (C7 hm ?_) ?_
 ·simp only[go_sem,go_sem_proc,World.zero];refine B0 [] [] (st_ ?_);exact eE_
 refine B2 [(1, .cA, .cW w.enc),(2, .cA, .ptr 48 0 0 1)] [(48, .box World.zero)] (C7 hm ?_) ?_
 ·refine st_ ?_;refine A0 hV rfl ?_;simp only[go_sem,go_sem_proc,World.zero];refine B0 [] [] ?_;simp only[go_sem,go_sem_proc]
 refine B2 [(1, .cA, .cW w.enc),(2, .cA, .ptr 48 0 0 1),(4, .cA,A4 3 B3.enc dF_ (D6 w))] [(48, .box World.zero)] (C7 hm ?_) ?_
 ·refine st_ ?_;refine A0 (F2i w hw) rfl ?_;simp only[go_sem,go_sem_proc,World.zero];refine B0 [] [] ?_;simp only[go_sem,go_sem_proc]
 refine B2 [(1, .cA, .cW w.enc),(2, .cA, .ptr 48 0 0 1),(5, .cA, .ptr 96 0 0 1),(4, .cA,A4 3 B3.enc dF_ (D6 w))] [(48, .box World.zero),(96, .box (U8 w (B4v w)).enc)] (C7 hm ?_) ?_
 ·refine st_ ?_;refine A0 (D6j w hw C8q [.cW w.enc] (λb=>A0m b w.cM.dZ) rfl (λ_=>rfl) (λb hb=>E5v w b (hw5 b hb))) rfl ?_;simp only[go_sem,go_sem_proc,World.zero];refine B0 [] [] ?_;simp only[go_sem,go_sem_proc,B4v]
 refine B2 [(1, .cA, .cW w.enc),(2, .cA, .ptr 48 0 0 1),(5, .cA, .ptr 96 0 0 1),(7, .cA, .sl 7 0 (eW0 w).2.length (eW0 w).2.length),(4, .cA,A4 3 B3.enc dF_ (D6 w)),(6, .cA,A4 20 cF.enc dF_ (stB w.cC (B4v w) w.cD (B4v w).length))] [(48, .box World.zero),(96, .box (U8 w (B4v w)).enc),(7, .arr 5 (A9 Api.Event.enc dF_ (eW0 w).2))] (C7 hm ?_) ?_
 ·refine st_ ?_;refine J2 ev_ K0 (E5m w.cC (B4v w) w.cD hp.1.symm (by rw[hp.1];exact hw1) hw5 hpw.2.2.2.2.1 hw2) ?_;simp only[go_sem,go_sem_proc,World.zero,eW0];refine B0 [(7,496)] [] ?_;simp only[go_sem,go_sem_proc]
 refine B2 [(1, .cA, .cW w.enc),(2, .cA, .ptr 48 0 0 1),(5, .cA, .ptr 96 0 0 1),(7, .cA, .sl 7 0 (eW0 w).2.length (eW0 w).2.length),(4, .cA,A4 3 B3.enc dF_ (D6 w))] [(48, .box World.zero),(96, .box (eW0 w).1.enc),(7, .arr 5 (A9 Api.Event.enc dF_ (eW0 w).2))] (C7 hm ?_) ?_
 ·simp only[go_sem,go_sem_proc,World.zero,eW0];refine B0 [] [] ?_;simp only[go_sem,go_sem_proc]
 refine B2 [(1, .cA, .cW w.enc),(2, .cA, .ptr 48 0 0 1),(5, .cA, .ptr 96 0 0 1),(7, .cA, .sl 7 0 (eWn w (D6 w).length).2.length (eWn w (D6 w).length).2.length)] [(48, .box World.zero),(96, .box (eWn w (D6 w).length).1.enc),(7, .arr 5 (A9 Api.Event.enc dF_ (eWn w (D6 w).length).2))] (B2 [(1, .cA, .cW w.enc),(2, .cA, .ptr 48 0 0 1),(5, .cA, .ptr 96 0 0 1),(7, .cA, .sl 7 0 (eWn w 0).2.length (eWn w 0).2.length),(35, .cA,A4 3 B3.enc dF_ (D6 w)),(36, .cA,sI ((D6 w).length)),(37, .cA,sI (0:Nat))] [(48, .box World.zero),(96, .box (eWn w 0).1.enc),(7, .arr 5 (A9 Api.Event.enc dF_ (eWn w 0).2))] (C7 hm ?_) (Y7 ?_)) ?_
 ·rw[show eWn w 0=eW0 w from rfl];generalize eW0 w=s;refine st_ ?_;refine B0 [] [] ?_;simp only[go_sem,go_sem_proc]
 ·refine B1 hm (ι:= {k:Nat // k<=(D6 w).length}) (λk=> [(1, .cA, .cW w.enc),(2, .cA, .ptr 48 0 0 1),(5, .cA, .ptr 96 0 0 1),(7, .cA, .sl 7 0 (eWn w k.1).2.length (eWn w k.1).2.length),(35, .cA,A4 3 B3.enc dF_ (D6 w)),(36, .cA,sI ((D6 w).length)),(37, .cA,sI (k.1:Nat))]) (λk=> [(48, .box World.zero),(96, .box (eWn w k.1).1.enc),(7, .arr 5 (A9 Api.Event.enc dF_ (eWn w k.1).2))]) (λk=>(D6 w).length-k.1) ⟨0,Nat.zero_le _⟩ ?_ ?_
  ·refine B0 [] [] ?_;simp only[go_sem,go_sem_proc]
  ·rintro⟨k,hk⟩;dsimp only;have hn:=D79 w k
   have hl:=D30 hw hf k hk;obtain⟨hi1,hi2⟩:=B9w w k;have hfin:(D6 w).length<=k->eWn w k=eWn w (D6 w).length:=λh=>by rw[show k=(D6 w).length by omega]
   generalize eWn w k=s at hn hl hi1 hi2 hfin⊢;by_cases hlt:k<(D6 w).length;rotate_left
   ·refine st_ ?_;rw[if_neg (by omega),<-hfin (by omega)];refine B0 [] [] ?_;simp only[go_sem,go_sem_proc]
   have hx:=hbs _ (B8 (l:=D6 w) (i:=k) dF_ hlt)
   have hsw:Wsm s.1:=by rw[hi2];exact B9c hw hi1
   have hux:=D1x s.1 ((D6 w).getD k dF_)
   have hf1:=hf.1;refine st_ ?_;rw[if_pos (by omega)];generalize(D6 w).getD k dF_=x at hn hx hux⊢;refine⟨bE_,?_⟩;refine A0 (E1j s.1 x hsw hx.1) rfl ?_;simp only[go_sem,go_sem_proc,eW1]at hn⊢;have he:(List.map evP (B5k s.1 x).2).length<=60:=by rw[List.length_map];omega
   generalize List.map evP (B5k s.1 x).2=E at hn he⊢;refine⟨⟨by omega,by simp only[maxLen];omega⟩,?_⟩;refine A8 ⟨k+1,by omega⟩ (by show(D6 w).length-(k+1)<(D6 w).length-k;omega) ?_;simp only[hn];refine B0 [] [] (st_ ?_);exact eE_
 have hE:=E7y.eq_1 w
 have hW:=D8c.eq_1 w;unfold eW2 at hE hW;have hl:=D30 hw hf (D6 w).length (Nat.le_refl _);obtain⟨hi1,hi2⟩:=B9w w (D6 w).length;generalize eWn w (D6 w).length=s at hE hW hl hi1 hi2⊢;have hsw:Wsm s.1:=by rw[hi2];exact B9c hw hi1
 have hsf:Wfw s.1:=by rw[hi2];exact C18 hf hi1
 have hjn:s.1.cD=w.cD:=by rw[hi2];rfl
 have hbk:Wsm (bkW s.1)/\Wfw (bkW s.1):=by obtain⟨g1,g2,g3,g4,g5,g6⟩:=hsw;exact⟨⟨g1,Nat.le_trans (List.length_filter_le ..) g2,g3,g4,g5,g6⟩,hsf⟩
 have hbe:=E2j (w:=s.1) (l:=s.1.cD)
 have hj2:s.1.cD.length<=1048576:=by rw[hjn];exact hw2
 have hB:=D3m s.1 hsw;generalize bkW s.1=V at hE hW hbk hB;generalize bkL s.1 s.1.cD=E1 at hE hbe hB;dsimp only at hE hW;have hcf:A2i (V.cC.map I9) V.cC:=C8a (g:=I9) (λ_=>rfl) _
 have hU:Wsm (U8 V (V.cC.map I9)):=B9c hbk.1 hcf
 have hUf:Wfw (U8 V (V.cC.map I9)):=C18 hbk.2 hcf
 have hC:=D6j V hbk.1 A54 [] I9 rfl (λ_=>rfl) (λb _=>G65 b);generalize U8 V (V.cC.map I9)=U at hE hW hU hUf hC;have hO:=D5v U hU hUf
 have hov:=E27 U hUf
 have hS:=E1i w.cT (ovL U) hw4 (by omega)
 have hsl:(C8c w.cT (ovL U)).length<=(ovL U).length+w.cT.length:=by
  have l1:=B9v (ovL U) (λk=>w.cT.contains k) 3
  have l2:=B9v w.cT (λk=>(ovL U).contains k) 4;unfold C8c;rw[List.length_append];omega
 generalize ovL U=L at hE hW hO hov hS hsl;generalize C8c w.cT L=E2 at hE hS hsl;have hf1:=hf.1
 have hK:=C5q [s.2,E1,E2] (by simp;omega) (by simp);rw[<-hE]at hK;refine C7 hm (st_ ?_);refine A0 hB rfl (st_ ?_);refine A0 hC rfl (st_ ?_);refine A0 hO rfl (st_ ?_);refine A0 hS rfl (st_ ?_);refine O7 hK ?_;simp only[S3,go_sem,go_sem_proc];rw[hW];refine⟨H1 (λ_ _=>rfl) (by simp[D33,A4]) rfl rfl,?_⟩;dsimp only
 (repeat' (with_reducible apply And.intro)) <;> first |with_reducible rfl |exact D0 _ |(rw[Int.min_def];split <;> split <;> omega)
end Go.Abs
end
