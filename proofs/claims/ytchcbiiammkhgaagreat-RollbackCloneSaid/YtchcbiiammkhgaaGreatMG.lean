/- A part of the proof: contracts of functions that the statement reaches. -/
import Derived.Test.YtchcbiiammkhgaaGreatLF
import Derived.KernelRfl
import Derived.Eval
import Derived.Test.YtchcbiiammkhgaaGreatChecked
set_option linter.unusedSimpArgs false
set_option linter.unusedVariables false
set_option linter.unnecessarySimpa false
set_option maxRecDepth 100000
set_option maxHeartbeats 2000000
theorem kS_ {α:Type _}{a b:α}(h:a=b:=by kernel_rfl):some a=some b:=congrArg some h
noncomputable section
namespace Go.Abs
open Go.Proofs
theorem hm:Tryz.prog.follows .mixedOrders=true:=Tryz.checked.mixed
abbrev dF_ {α:Type} [Inhabited α]:α:=default
theorem st_ {p q:Prop}(h:q)(e:p=q:=by simp only[go_sem,go_sem_proc];rfl):p:=e▸h
abbrev cA_:=D5 Tryz.prog
theorem se_ {p q:Prop}(e:p=q:=by simp only[go_sem,go_sem_proc];rfl)(h:q:=by exact eE_):p:=e▸h
theorem sg_ {p q:Prop}(h:q)(e:p=q:=by simp only[go_sem];rfl):p:=e▸h
theorem sh_ {p q:Prop}(e:p=q:=by simp only[go_sem];rfl)(h:q:=by exact eE_):p:=e▸h
theorem wo_ {x y:Int}(h:IntKind.i64.wrap x=y:=by first |(rw[IntKind.wrap_i64];omega) |(simp only[IntKind.wrap_i64];omega)):IntKind.i64.wrap x=y:=h
def shL:List (Nat×List Bool):= [(22,[true,true]),(23,[true,true]),(24,[true,true,true,true,true]),(25,[true,true,true,true,true]),(50,[true,true,true]),(51,[true,true,true]),(56,[true,true,true,true]),(57,[true,true,true,true,true,true,true,true,true,true,true,false,true,true,false,true,true,true,true,false,true,true,true,true]),(58,[true,true,true,true,true,true,true,true,true,true,true,false,true,true,false,true,true,true,true,false,true,true,true,true]),(128,[true,true,true,true]),(129,[true,true,true,true]),(189,[true,true,true,true]),(190,[true,true,true,true]),(194,[true,true,true,true,true,true]),(195,[true,true,true,true,true,true]),(207,[true,true,true,true,true]),(208,[true,true,true,true,true]),(220,[true,true,true,true,true]),(221,[true,true,true,true,true]),(298,[true,true,true,true]),(299,[true,true,true,true]),(346,[true,true]),(347,[true,true]),(348,[true,true]),(411,[true,true]),(412,[true,true]),(437,[true,true,true,true,true,true]),(438,[true,true,true,true,true,true]),(440,[true,true,true,true,true]),(441,[true,true,true,true,true]),(524,[true,true,true,true]),(525,[true,true,true,true]),(533,[true,true,true]),(534,[true,true,true]),(550,[true,true,true,true]),(551,[true,true,true,true]),(568,[true,true,true,true,true]),(569,[true,true,true,true,true])]
theorem A6:okE Tryz.prog shL=true:=by kernel_rfl
end Go.Abs
end
noncomputable section
namespace Go.Abs
open Go.Proofs
open Api
theorem B6k(l:List cI)(hl:l.length<=1048576):cA_ 241 [A4 2 cI.enc dF_ l] [] (.sl 1 0 l.length l.length) [(1, .arr 2 (B0 cI.enc dF_ l))]:=by
 by_cases hn:l= []
 ·subst hn;refine D5.nil_split (g:=I9 cI.enc dF_ ([]:List cI)) [] [] ?_ (λa c=> ?_)
  ·refine I6 hm A6 Tryz.func241 rfl rfl (sg_ ?_);refine B8 [.fA] [] [1] ?_;simp only[go_sem]
  ·refine I6 hm A6 Tryz.func241 rfl rfl (sg_ ?_);refine⟨by simp[maxLen],?_⟩;refine B8 [.cA] [(1,96)] [] (sg_ ?_);exact⟨rfl,rfl,λi hi=>absurd hi p_⟩
 ·have hpos:0<l.length:=qu.2 hn
  refine I6 hm A6 Tryz.func241 rfl rfl (sg_ ?_);refine⟨hpos,⟨o_,by simp only[maxLen];omega⟩,?_⟩;refine B8 [.cA] [(1,96)] [] ?_;simp only[go_sem]
theorem A8e(l:List cN)(hl:l.length<=1048576):cA_ 151 [A4 6 cN.enc dF_ l] [] (.sl 1 0 l.length l.length) [(1, .arr 6 (B0 cN.enc dF_ l))]:=by
 by_cases hn:l= []
 ·subst hn;refine D5.nil_split (g:=I9 cN.enc dF_ ([]:List cN)) [] [] ?_ (λa c=> ?_)
  ·refine I6 hm A6 Tryz.func151 rfl rfl (sg_ ?_);refine B8 [.fA] [] [1] ?_;simp only[go_sem]
  ·refine I6 hm A6 Tryz.func151 rfl rfl (sg_ ?_);refine⟨by simp[maxLen],?_⟩;refine B8 [.cA] [(1,96)] [] (sg_ ?_);exact⟨rfl,rfl,λi hi=>absurd hi p_⟩
 ·have hpos:0<l.length:=qu.2 hn
  refine I6 hm A6 Tryz.func151 rfl rfl (sg_ ?_);refine⟨hpos,⟨o_,by simp only[maxLen];omega⟩,?_⟩;refine B8 [.cA] [(1,96)] [] ?_;simp only[go_sem]
theorem A9m(l:List cE)(hl:l.length<=1048576):cA_ 90 [A4 20 cE.enc dF_ l] [] (.sl 1 0 l.length l.length) [(1, .arr 20 (B0 cE.enc dF_ l))]:=by
 by_cases hn:l= []
 ·subst hn;refine D5.nil_split (g:=I9 cE.enc dF_ ([]:List cE)) [] [] ?_ (λa c=> ?_)
  ·refine I6 hm A6 Tryz.func90 rfl rfl (sg_ ?_);refine B8 [.fA] [] [1] ?_;simp only[go_sem]
  ·refine I6 hm A6 Tryz.func90 rfl rfl (sg_ ?_);refine⟨by simp[maxLen],?_⟩;refine B8 [.cA] [(1,96)] [] (sg_ ?_);exact⟨rfl,rfl,λi hi=>absurd hi p_⟩
 ·have hpos:0<l.length:=qu.2 hn
  refine I6 hm A6 Tryz.func90 rfl rfl (sg_ ?_);refine⟨hpos,⟨o_,by simp only[maxLen];omega⟩,?_⟩;refine B8 [.cA] [(1,96)] [] ?_;simp only[go_sem]
theorem A8w(l:List cF)(hl:l.length<=1048576):cA_ 91 [A4 24 cF.enc dF_ l] [] (.sl 1 0 l.length l.length) [(1, .arr 24 (B0 cF.enc dF_ l))]:=by
 by_cases hn:l= []
 ·subst hn;refine D5.nil_split (g:=I9 cF.enc dF_ ([]:List cF)) [] [] ?_ (λa c=> ?_)
  ·refine I6 hm A6 Tryz.func91 rfl rfl (sg_ ?_);refine B8 [.fA] [] [1] ?_;simp only[go_sem]
  ·refine I6 hm A6 Tryz.func91 rfl rfl (sg_ ?_);refine⟨by simp[maxLen],?_⟩;refine B8 [.cA] [(1,96)] [] (sg_ ?_);exact⟨rfl,rfl,λi hi=>absurd hi p_⟩
 ·have hpos:0<l.length:=qu.2 hn
  refine I6 hm A6 Tryz.func91 rfl rfl (sg_ ?_);refine⟨hpos,⟨o_,by simp only[maxLen];omega⟩,?_⟩;refine B8 [.cA] [(1,96)] [] ?_;simp only[go_sem]
theorem B1z(l:List cX)(hl:l.length<=1048576):cA_ 92 [A4 7 cX.enc dF_ l] [] (.sl 1 0 l.length l.length) [(1, .arr 7 (B0 cX.enc dF_ l))]:=by
 by_cases hn:l= []
 ·subst hn;refine D5.nil_split (g:=I9 cX.enc dF_ ([]:List cX)) [] [] ?_ (λa c=> ?_)
  ·refine I6 hm A6 Tryz.func92 rfl rfl (sg_ ?_);refine B8 [.fA] [] [1] ?_;simp only[go_sem]
  ·refine I6 hm A6 Tryz.func92 rfl rfl (sg_ ?_);refine⟨by simp[maxLen],?_⟩;refine B8 [.cA] [(1,96)] [] (sg_ ?_);exact⟨rfl,rfl,λi hi=>absurd hi p_⟩
 ·have hpos:0<l.length:=qu.2 hn
  refine I6 hm A6 Tryz.func92 rfl rfl (sg_ ?_);refine⟨hpos,⟨o_,by simp only[maxLen];omega⟩,?_⟩;refine B8 [.cA] [(1,96)] [] ?_;simp only[go_sem]
theorem B10(l:List cR)(hl:l.length<=1048576):cA_ 93 [A4 4 cR.enc dF_ l] [] (.sl 1 0 l.length l.length) [(1, .arr 4 (B0 cR.enc dF_ l))]:=by
 by_cases hn:l= []
 ·subst hn;refine D5.nil_split (g:=I9 cR.enc dF_ ([]:List cR)) [] [] ?_ (λa c=> ?_)
  ·refine I6 hm A6 Tryz.func93 rfl rfl (sg_ ?_);refine B8 [.fA] [] [1] ?_;simp only[go_sem]
  ·refine I6 hm A6 Tryz.func93 rfl rfl (sg_ ?_);refine⟨by simp[maxLen],?_⟩;refine B8 [.cA] [(1,96)] [] (sg_ ?_);exact⟨rfl,rfl,λi hi=>absurd hi p_⟩
 ·have hpos:0<l.length:=qu.2 hn
  refine I6 hm A6 Tryz.func93 rfl rfl (sg_ ?_);refine⟨hpos,⟨o_,by simp only[maxLen];omega⟩,?_⟩;refine B8 [.cA] [(1,96)] [] ?_;simp only[go_sem]
def Shape.sm(s:Shape):Prop:=s.cK.length<=1048576
def cY.sm(f:cY):Prop:=Shape.sm f.Shape
def cE.sm(b:cE):Prop:=b.cH.length<=1048576/\ ∀f∈b.cH,cY.sm f
def cL.sm(m:cL):Prop:=m.cQ.length<=1048576
def Wsm(w:Api.World):Prop:=w.cC.length<=1048576/\w.cD.length<=1048576/\w.cB.length<=1048576/\w.cT.length<=1048576/\(∀b∈w.cC,cE.sm b)/\ ∀c∈w.cB,cL.sm c.cL
theorem D7x(s:Shape)(h:Shape.sm s):cA_ 150 [.agg s.enc] [] (.agg s.enc) []:=by refine M3 8 [(2,some (some 3))] hm A6 Tryz.func150 rfl (sg_ ?_);refine B5 [false] [(1,96)] (B6k s.cK h) p_ p_ p_ p_ ?_;simp only[go_sem]
theorem B2s(s:cL)(h:cL.sm s):cA_ 95 [.agg s.enc] [] (.agg s.enc) []:=by refine M3 8 [(2,some (some 3))] hm A6 Tryz.func95 rfl (sg_ ?_);refine B5 [false] [(1,96)] (A8e s.cQ h) p_ p_ p_ p_ ?_;simp only[go_sem]
theorem A40(b:cE)(h:cE.sm b):cA_ 94 [.agg b.enc] [] (.agg b.enc) []:=by
 refine M3 25 [(2,some (some 20))] hm A6 Tryz.func94 rfl (sg_ ?_);refine B1 hm (ι:= {i:Nat // i<=b.cH.length}) (λi=> [(1, .cA, .ptr 32 0 0 1),(2, .cA, .ptr 48 0 0 1),(3,if i.1=0 then .fA else .cA, .sl 1 0 i.1 i.1),(7, .cA,A4 10 cY.enc dF_ b.cH),(8, .cA,sI b.cH.length),(9, .cA,sI i.1)])
  (λi=> [(32, .box b.enc),(48, .box cE.zero),(1, .arr 10 (B0 cY.enc dF_ (b.cH.take i.1)))]) (λi=>b.cH.length-i.1) ⟨0,o_⟩ ?_ ?_
 ·refine A9 [] [1] ?_;simp only[go_sem]
 ·rintro⟨i,hi⟩;refine sg_ ?_;split
  ·rename_i hlt;have hlt:i<b.cH.length:=o_
   refine⟨bE_,?_⟩;refine A0 (D7x (b.cH.getD i dF_).Shape (h.2 _ (B6 _ hlt))) rfl (sg_ ?_);have hb:=h.1;refine⟨ok_,?_⟩;refine A8 ⟨i+1,o_⟩ (by show b.cH.length-(i+1)<b.cH.length-i;omega) (D8 [] [] ?_);refine sg_ ?_;exact⟨o_,wo_,A0q (b.cH.getD i dF_) rfl (K9 dF_ hlt)⟩
  ·rename_i hge;obtain rfl:i=b.cH.length:=o_
   simp only[zn,Nat.min_self,go_sem]
def F53(w:Api.World)(a b c d:Nat):AV:= .agg [sI w.cM.dZ,sI w.cM.eD.X,sI w.cM.eD.Y,sI w.cM.eG,sI w.cM.eA,
 .sl a 0 w.cC.length w.cC.length, .sl b 0 w.cD.length w.cD.length, .sl c 0 w.cB.length w.cB.length, .sl d 0 w.cT.length w.cT.length,sI w.dK,sI w.eJ]
def D0k(w:Api.World)(a b c d:Nat):List (Nat×A7):= [(a, .arr 20 (B0 cE.enc dF_ w.cC)),(b, .arr 24 (B0 cF.enc dF_ w.cD)),(c, .arr 7 (B0 cX.enc dF_ w.cB)),(d, .arr 4 (B0 cR.enc dF_ w.cT))]
attribute [go_sem] F53 D0k
theorem C4p {α:Type}(l:List α)(i:Nat)(d:α)(h:i<l.length):l.set i (l.getD i d)=l:=by simp[List.getD,h]
theorem U5(w:Api.World)(h:Wsm w):cA_ 48 [.agg w.enc] [] (F53 w 1 2 3 4) (D0k w 1 2 3 4):=by
 obtain⟨h1,h2,h3,h4,h5,h6⟩:=h;refine C29 56 [(2,some (some 11))] hm A6 Tryz.func48 rfl (sg_ ?_);refine B5 [false] [(1,1)] (A9m w.cC h1) p_ p_ p_ p_ (sg_ ?_);refine B5 [false] [(1,2)] (A8w w.cD h2) p_ p_ p_ p_ (sg_ ?_);refine B5 [false] [(1,3)] (B1z w.cB h3) p_ p_ p_ p_ (sg_ ?_);refine B5 [false] [(1,4)] (B10 w.cT h4) p_ p_ p_ p_ (sg_ ?_);refine B1 hm (ι:= {i:Nat // i<=w.cC.length}) (λi=> [(1, .cA, .ptr 32 0 0 1),(2, .cA, .ptr 48 0 0 1),(24, .cA, .sl 1 0 w.cC.length w.cC.length),(25, .cA,sI w.cC.length),(26, .cA,sI i.1)])
  (λi=>(32, .box [sI w.cM.dZ,sI w.cM.eD.X,sI w.cM.eD.Y,sI w.cM.eG,sI w.cM.eA,
 .sl 1 0 w.cC.length w.cC.length, .sl 2 0 w.cD.length w.cD.length, .sl 3 0 w.cB.length w.cB.length, .sl 4 0 w.cT.length w.cT.length,sI w.dK,sI w.eJ])::(48, .box World.zero)::D0k w 1 2 3 4) (λi=>w.cC.length-i.1) ⟨0,o_⟩ ?_ ?_
 ·refine A9 [] [] ?_;simp only[go_sem]
 ·rintro⟨i,hi⟩;refine sg_ ?_;split
  ·rename_i hlt;have hlt:i<w.cC.length:=o_
   refine⟨bE_,?_⟩;refine A0 (A40 (w.cC.getD i dF_) (h5 _ (B6 _ hlt))) rfl (sg_ ?_);refine⟨ok_,?_⟩;refine A8 ⟨i+1,o_⟩ (by show w.cC.length-(i+1)<w.cC.length-i;omega) (D8 [] [] ?_);refine sg_ ?_;exact⟨wo_,A22 (w.cC.getD i dF_) hlt rfl (C4p _ _ _ hlt)⟩
  ·rename_i hge;obtain rfl:i=w.cC.length:=o_
   refine B1 hm (ι:= {i:Nat // i<=w.cB.length}) (λi=> [(1, .cA, .ptr 32 0 0 1),(2, .cA, .ptr 48 0 0 1),(39, .cA, .sl 3 0 w.cB.length w.cB.length),(40, .cA,sI w.cB.length),(41, .cA,sI i.1)])
    (λi=>(32, .box [sI w.cM.dZ,sI w.cM.eD.X,sI w.cM.eD.Y,sI w.cM.eG,sI w.cM.eA,
 .sl 1 0 w.cC.length w.cC.length, .sl 2 0 w.cD.length w.cD.length, .sl 3 0 w.cB.length w.cB.length, .sl 4 0 w.cT.length w.cT.length,sI w.dK,sI w.eJ])::(48, .box World.zero)::D0k w 1 2 3 4) (λi=>w.cB.length-i.1) ⟨0,o_⟩ ?_ ?_
   ·refine A9 [] [] ?_;simp only[go_sem]
   ·rintro⟨i,hi⟩;refine sg_ ?_;split
    ·rename_i hlt;have hlt:i<w.cB.length:=o_
     refine⟨bE_,?_⟩;refine A0 (B2s (w.cB.getD i dF_).cL (h6 _ (B6 _ hlt))) rfl (sg_ ?_);refine⟨ok_,?_⟩;refine A8 ⟨i+1,o_⟩ (by show w.cB.length-(i+1)<w.cB.length-i;omega) (D8 [] [] ?_);refine sg_ ?_;exact⟨wo_,A22 (w.cB.getD i dF_) hlt rfl (C4p _ _ _ hlt)⟩
    ·rename_i hge;obtain rfl:i=w.cB.length:=o_
     refine B8 [.cA] [] [] ?_;simp only[go_sem]
theorem A4o {α:Type}{l m:List α}{i:Nat}(d:α)(h:l.take i=m.take i)(hl:i<l.length)(hm:i<m.length)(he:l.getD i d=m.getD i d):l.take (i+1)=m.take (i+1):=by rw[K9 d hl,K9 d hm,h,he]
theorem B0z {α:Type}{l m:List α}(hlen:l.length=m.length)(h:l.take l.length=m.take l.length):l=m:=by rw[zn]at h;rw[hlen,zn]at h;exact h
theorem D5b {α:Type}{l m:List α}{i:Nat}(d:α)(h:l.getD i d≠m.getD i d):l≠m:=λe=>h (by rw[e])
theorem D1k {α:Type}{l m:List α}(h:l.length≠m.length):l≠m:=λe=>h (by rw[e])
theorem cI.beq(x y:cI):(x.X==y.X&&x.Y==y.Y)=decide (x=y):=by cases x;cases y;rw[qz];simp
theorem cR.beq(x y:cR):(x.cU==y.cU&&(x.dM==y.dM&&(x.cV==y.cV&&x.dJ==y.dJ)))=decide (x=y):=by cases x;cases y;rw[qz];simp
theorem cN.beq(x y:cN):(x.eU.X==y.eU.X&&(x.eU.Y==y.eU.Y&&(x.eZ==y.eZ&&(x.ID==y.ID&&(x.eL==y.eL&&x.eS==y.eS)))))=decide (x=y):=by obtain⟨⟨a,b⟩,c,d,e,f⟩:=x;obtain⟨⟨a',b'⟩,c',d',e',f'⟩:=y;rw[qz];simp[xb]
theorem D31(l m:List cI)(hl:l.length<=1048576):cA_ 294 [A4 2 cI.enc dF_ l,A4 2 cI.enc dF_ m] [] (sB (decide (l=m))) []:=by
 refine en1 hm A6 Tryz.func294 rfl rfl (sg_ ?_);split
 ·rename_i hne;exact(zp (D1k λe=>by rw[e]at hne;simp at hne)).symm
 ·rename_i hne;have hlen:l.length=m.length:=by simp at hne;omega
  refine B1 hm (ι:= {i:Nat // i<=l.length/\l.take i=m.take i}) (λi=> [(0, .cA,A4 2 cI.enc dF_ l),(1, .cA,A4 2 cI.enc dF_ m),(5, .cA,sI i.1)])
   (λi=> []) (λi=>l.length-i.1) ⟨0,o_,rfl⟩ ?_ ?_
  ·refine A9 [] [] ?_;simp only[go_sem]
  ·rintro⟨i,hi,ht⟩;simp only[cI.beq,go_sem];split
   ·rename_i hlt;have hlt:i<l.length:=o_
    have hltm:i<m.length:=o_
    refine⟨ok_,ok_,?_⟩;by_cases he:l.getD i dF_=m.getD i dF_
    ·rw[zb (by rw[zT he];simp)];refine A8 ⟨i+1,o_,A4o dF_ ht hlt hltm he⟩ (by show l.length-(i+1)<l.length-i;omega) (D8 [] [] ?_);refine sg_ ?_;exact wo_
    ·rw[zc (zp he)];exact(zp (D5b dF_ he)).symm
   ·rename_i hge;have hil:i=l.length:=o_
    subst hil;exact(zT (B0z hlen ht)).symm
theorem E6i(l m:List cR)(hl:l.length<=1048576):cA_ 54 [A4 4 cR.enc dF_ l,A4 4 cR.enc dF_ m] [] (sB (decide (l=m))) []:=by
 refine en1 hm A6 Tryz.func54 rfl rfl (sg_ ?_);split
 ·rename_i hne;exact(zp (D1k λe=>by rw[e]at hne;simp at hne)).symm
 ·rename_i hne;have hlen:l.length=m.length:=by simp at hne;omega
  refine B1 hm (ι:= {i:Nat // i<=l.length/\l.take i=m.take i}) (λi=> [(0, .cA,A4 4 cR.enc dF_ l),(1, .cA,A4 4 cR.enc dF_ m),(5, .cA,sI i.1)])
   (λi=> []) (λi=>l.length-i.1) ⟨0,o_,rfl⟩ ?_ ?_
  ·refine A9 [] [] ?_;simp only[go_sem]
  ·rintro⟨i,hi,ht⟩;simp only[cR.beq,go_sem];split
   ·rename_i hlt;have hlt:i<l.length:=o_
    have hltm:i<m.length:=o_
    refine⟨ok_,ok_,?_⟩;by_cases he:l.getD i dF_=m.getD i dF_
    ·rw[zb (by rw[zT he];simp)];refine A8 ⟨i+1,o_,A4o dF_ ht hlt hltm he⟩ (by show l.length-(i+1)<l.length-i;omega) (D8 [] [] ?_);refine sg_ ?_;exact wo_
    ·rw[zc (zp he)];exact(zp (D5b dF_ he)).symm
   ·rename_i hge;have hil:i=l.length:=o_
    subst hil;exact(zT (B0z hlen ht)).symm
theorem E2n(x y:Shape)(h:Shape.sm x):cA_ 176 [.agg x.enc, .agg y.enc] [] (sB (decide (x=y))) []:=by refine en1 hm A6 Tryz.func176 rfl rfl (sg_ ?_);refine A0 (D31 x.cK y.cK h) rfl (sg_ ?_);cases x;cases y;rw[qz];simp[xb]
theorem C7q(x y:cY)(h:cY.sm x):cA_ 105 [.agg x.enc, .agg y.enc] [] (sB (decide (x=y))) []:=by refine en1 hm A6 Tryz.func105 rfl rfl (sg_ ?_);refine A0 (E2n x.Shape y.Shape h) rfl (sg_ ?_);cases x;cases y;rw[qz];simp[xb]
theorem E2o(x y:cL)(h:cL.sm x):cA_ 56 [.agg x.enc, .agg y.enc] [] (sB (decide (x=y))) []:=by
 unfold cL.sm at h;refine en1 hm A6 Tryz.func56 rfl rfl ?_;simp only[cI.beq,go_sem];split
 ·rename_i hc;exact(zp λe=>by subst e;simp at hc).symm
 ·rename_i hc;simp at hc;obtain⟨hn,hlen⟩:=hc;have hlen:x.cQ.length=y.cQ.length:=o_
  refine B1 hm (ι:= {i:Nat // i<=x.cQ.length/\x.cQ.take i=y.cQ.take i}) (λi=> [(2, .cA, .ptr 48 0 0 1),(3, .cA, .ptr 64 0 0 1),(5, .cA,sI i.1)])
   (λi=> [(48, .box x.enc),(64, .box y.enc)]) (λi=>x.cQ.length-i.1) ⟨0,o_,rfl⟩ ?_ ?_
  ·refine A9 [] [] ?_;simp only[go_sem]
  ·rintro⟨i,hi,ht⟩;simp only[cN.beq,go_sem];split
   ·rename_i hlt;have hlt:i<x.cQ.length:=o_
    have hltm:i<y.cQ.length:=o_
    refine⟨ok_,ok_,?_⟩;by_cases he:x.cQ.getD i dF_=y.cQ.getD i dF_
    ·rw[zb (by rw[zT he];simp)];refine A8 ⟨i+1,o_,A4o dF_ ht hlt hltm he⟩ (by show x.cQ.length-(i+1)<x.cQ.length-i;omega) (A9 [] [] ?_);refine sg_ ?_;exact wo_
    ·rw[zc (zp he)];exact(zp λe=>he (by rw[e])).symm
   ·rename_i hge;have hil:i=x.cQ.length:=o_
    subst hil;have hp:=B0z hlen ht;exact(zT (by obtain⟨a,b⟩:=x;obtain⟨c,d⟩:=y;simp only at hn hp;rw[hn,hp])).symm
theorem D0c(x y:cE)(h:cE.sm x):cA_ 55 [.agg x.enc, .agg y.enc] [] (sB (decide (x=y))) []:=by
 have hb:=h.1;refine en1 hm A6 Tryz.func55 rfl rfl (sg_ ?_);split
 ·rename_i hc;exact(zp λe=>by subst e;simp at hc).symm
 ·rename_i hc;simp at hc;have hlen:x.cH.length=y.cH.length:=o_
  refine B1 hm (ι:= {i:Nat // i<=x.cH.length/\x.cH.take i=y.cH.take i}) (λi=> [(2, .cA, .ptr 48 0 0 1),(3, .cA, .ptr 64 0 0 1),(5, .cA,sI i.1)])
   (λi=> [(48, .box x.enc),(64, .box y.enc)]) (λi=>x.cH.length-i.1) ⟨0,o_,rfl⟩ ?_ ?_
  ·refine A9 [] [] ?_;simp only[go_sem]
  ·rintro⟨i,hi,ht⟩;refine sg_ ?_;by_cases hlt:i<x.cH.length
   ·have hltm:i<y.cH.length:=o_
    rw[zc (by rw[zc o_];exact zT o_)];refine⟨ok_,ok_,?_⟩;refine A0 (C7q (x.cH.getD i dF_) (y.cH.getD i dF_) (h.2 _ (B6 _ hlt))) rfl (sg_ ?_);by_cases he:x.cH.getD i dF_=y.cH.getD i dF_
    ·rw[zb (by rw[zT he];simp)];refine A8 ⟨i+1,o_,A4o dF_ ht hlt hltm he⟩ (by show x.cH.length-(i+1)<x.cH.length-i;omega) (A9 [] [] ?_);refine sg_ ?_;exact wo_
    ·rw[zc (zp he)];exact(zp λe=>he (by rw[e])).symm
   ·rw[zb (by rw[zb o_];simp)];have hil:i=x.cH.length:=o_
    subst hil;have hp:=B0z hlen ht;split
    ·rename_i hc;exact(zp λe=>by subst e;simp at hc).symm
    ·rename_i hc2;clear hc hlen ht hi hlt hb h;obtain⟨x0,x1,⟨⟨x2,x3⟩,x4⟩,⟨x5,x6⟩,x7,⟨x8,x9⟩,x10,x11,x12,x13,x14,x15,x16,x17,x18,x19⟩:=x;obtain⟨y0,y1,⟨⟨y2,y3⟩,y4⟩,⟨y5,y6⟩,y7,⟨y8,y9⟩,y10,y11,y12,y13,y14,y15,y16,y17,y18,y19⟩:=y;simp only at hp;subst hp;simp at hc2;rw[qz];simp[hc2,xb]
theorem cF.beq(x y:cF):((x.ID==y.ID)&&((x.cS==y.cS)&&((x.cU==y.cU)&&((x.cV==y.cV)&&((x.dP.X==y.dP.X)&&((x.dP.Y==y.dP.Y)&&((x.dL.X==y.dL.X)&&((x.dL.Y==y.dL.Y)&&((x.eN.X==y.eN.X)&&((x.eN.Y==y.eN.Y)&&((x.cW==y.cW)&&((x.dD==y.dD)&&((x.dQ==y.dQ)&&((x.dS==y.dS)&&((x.dF==y.dF)&&((x.dN==y.dN)&&((x.dR==y.dR)&&((x.dB==y.dB)&&((x.dH==y.dH)&&((x.cZ==y.cZ)&&((x.cP.I0==y.cP.I0)&&((x.cP.I1==y.cP.I1)&&((x.cP.I2==y.cP.I2)&&(x.cP.I3==y.cP.I3))))))))))))))))))))))))=decide (x=y):=by obtain⟨a0,a1,a2,a3,⟨a4,a5⟩,⟨a6,a7⟩,⟨a8,a9⟩,a10,a11,a12,a13,a14,a15,a16,a17,a18,a19,⟨a20,a21,a22,a23⟩⟩:=x;obtain⟨b0,b1,b2,b3,⟨b4,b5⟩,⟨b6,b7⟩,⟨b8,b9⟩,b10,b11,b12,b13,b14,b15,b16,b17,b18,b19,⟨b20,b21,b22,b23⟩⟩:=y;rw[qz];simp[xb]
theorem cM.beq(x y:cM):((x.dZ==y.dZ)&&((x.eD.X==y.eD.X)&&((x.eD.Y==y.eD.Y)&&((x.eG==y.eG)&&(x.eA==y.eA)))))=decide (x=y):=by obtain⟨a0,⟨a1,a2⟩,a3,a4⟩:=x;obtain⟨b0,⟨b1,b2⟩,b3,b4⟩:=y;rw[qz];simp[xb]
theorem E2p(x y:Api.World)(h:Wsm x):cA_ 15 [.agg x.enc, .agg y.enc] [] (sB (decide (x=y))) []:=by
 obtain⟨h1,h2,h3,h4,h5,h6⟩:=h;refine en1 hm A6 Tryz.func15 rfl rfl ?_;simp only[cM.beq,go_sem];refine A0 (E6i x.cT y.cT h4) rfl (sg_ ?_);split
 ·rename_i hc;exact(zp λe=>by subst e;simp at hc).symm
 ·rename_i hc;simp at hc;obtain⟨⟨⟨⟨⟨⟨e1,e2⟩,e3⟩,e4⟩,e5⟩,e6⟩,e7⟩:=hc;have l0:x.cC.length=y.cC.length:=o_
  refine B1 hm (ι:= {i:Nat // i<=x.cC.length/\x.cC.take i=y.cC.take i}) (λi=> [(2, .cA, .ptr 48 0 0 1),(3, .cA, .ptr 64 0 0 1),(5, .cA,sI i.1)])
   (λi=> [(48, .box x.enc),(64, .box y.enc)]) (λi=>x.cC.length-i.1) ⟨0,o_,rfl⟩ ?_ ?_
  ·refine A9 [] [] ?_;simp only[go_sem]
  ·rintro⟨i,hi,ht⟩;refine sg_ ?_;split
   ·rename_i hlt;have hlt:i<x.cC.length:=o_
    have hltm:i<y.cC.length:=o_
    refine⟨ok_,ok_,?_⟩;refine A0 (D0c (x.cC.getD i dF_) (y.cC.getD i dF_) (h5 _ (B6 _ hlt))) rfl (sg_ ?_);by_cases he:x.cC.getD i dF_=y.cC.getD i dF_
    ·rw[zb (by rw[he];simp)];refine A8 ⟨i+1,o_,A4o dF_ ht hlt hltm he⟩ (by show x.cC.length-(i+1)<x.cC.length-i;omega) (A9 [] [] ?_);refine sg_ ?_;exact wo_
    ·rw[zc (zp he)];exact(zp λe=>he (by rw[e])).symm
   ·rename_i hge;have hil:i=x.cC.length:=o_
    subst hil;have p0:=B0z l0 ht;clear ht hi hge;have l1:x.cD.length=y.cD.length:=o_
    refine B1 hm (ι:= {i:Nat // i<=x.cD.length/\x.cD.take i=y.cD.take i}) (λi=> [(2, .cA, .ptr 48 0 0 1),(3, .cA, .ptr 64 0 0 1),(6, .cA,sI i.1)])
     (λi=> [(48, .box x.enc),(64, .box y.enc)]) (λi=>x.cD.length-i.1) ⟨0,o_,rfl⟩ ?_ ?_
    ·refine A9 [] [] ?_;simp only[go_sem]
    ·rintro⟨i,hi,ht⟩;simp only[cF.beq,go_sem];split
     ·rename_i hlt;have hlt:i<x.cD.length:=o_
      have hltm:i<y.cD.length:=o_
      refine⟨ok_,ok_,?_⟩;by_cases he:x.cD.getD i dF_=y.cD.getD i dF_
      ·rw[zb (by rw[he];simp)];refine A8 ⟨i+1,o_,A4o dF_ ht hlt hltm he⟩ (by show x.cD.length-(i+1)<x.cD.length-i;omega) (A9 [] [] ?_);refine sg_ ?_;exact wo_
      ·rw[zc (zp he)];exact(zp λe=>he (by rw[e])).symm
     ·rename_i hge;have hil:i=x.cD.length:=o_
      subst hil;have p1:=B0z l1 ht;clear ht hi hge;have l2:x.cB.length=y.cB.length:=o_
      refine B1 hm (ι:= {i:Nat // i<=x.cB.length/\x.cB.take i=y.cB.take i}) (λi=> [(2, .cA, .ptr 48 0 0 1),(3, .cA, .ptr 64 0 0 1),(7, .cA,sI i.1)])
       (λi=> [(48, .box x.enc),(64, .box y.enc)]) (λi=>x.cB.length-i.1) ⟨0,o_,rfl⟩ ?_ ?_
      ·refine A9 [] [] ?_;simp only[go_sem]
      ·rintro⟨i,hi,ht⟩;simp only[cR.beq,go_sem];split
       ·rename_i hlt;have hlt:i<x.cB.length:=o_
        have hltm:i<y.cB.length:=o_
        refine⟨ok_,ok_,?_⟩;refine⟨ok_,ok_,?_⟩;refine A0 (E2o (x.cB.getD i dF_).cL (y.cB.getD i dF_).cL (h6 _ (B6 _ hlt))) rfl (sg_ ?_);by_cases he:x.cB.getD i dF_=y.cB.getD i dF_
        ·rw[zb (by rw[he];simp)];refine A8 ⟨i+1,o_,A4o dF_ ht hlt hltm he⟩ (by show x.cB.length-(i+1)<x.cB.length-i;omega) (A9 [] [] ?_);refine sg_ ?_;exact wo_
        ·rw[zc (by
          by_cases hk:(x.cB.getD i dF_).dU=(y.cB.getD i dF_).dU
          ·by_cases hm2:(x.cB.getD i dF_).cL=(y.cB.getD i dF_).cL
           ·exact absurd (by generalize x.cB.getD i dF_=a at*;generalize y.cB.getD i dF_=b at*;cases a;cases b;simp only at hk hm2;rw[hk,hm2]) he
           ·simp only[hm2,zP,zD,z8]
          ·simp only[hk,zP,zD,zV])]
         exact(zp λe=>he (by rw[e])).symm
       ·rename_i hge;have hil:i=x.cB.length:=o_
        subst hil;have p2:=B0z l2 ht;clear ht hi hge;exact(zT (by obtain⟨a1,a2,a3,a4,a5,a6,a7⟩:=x;obtain⟨b1,b2,b3,b4,b5,b6,b7⟩:=y;simp only at e1 e2 e3 e7 p0 p1 p2;subst e1 e2 e3 e7 p0 p1 p2;rfl)).symm
def sat(x:Int):Int:=if x>536870911 then 536870911 else if x < -536870911 then -536870911 else x
theorem Z6(x:Int): -536870911<=sat x/\sat x<=536870911:=by unfold sat;split <;> (try split) <;> omega
def C1r(v:cI):cI:=⟨sat v.X,sat v.Y⟩
theorem L7(x:Int):cA_ 406 [sI x] [] (sI (sat x)) []:=by
 refine en1 hm A6 Tryz.func406 rfl rfl (sg_ ?_);unfold sat
 (repeat' split) <;> omega
theorem A1r(v:cI):cA_ 393 [.agg v.enc] [] (.agg (C1r v).enc) []:=by refine M3 10 [(2,some (some 2))] hm A6 Tryz.func393 rfl (sg_ ?_);refine A0 (L7 v.X) rfl (sg_ ?_);refine A0 (L7 v.Y) rfl ?_;simp only[C1r,go_sem]
def B3s(a b:cI):Int:=(sat b.X-sat a.X)*(sat b.X-sat a.X)+(sat b.Y-sat a.Y)*(sat b.Y-sat a.Y)
theorem E1d {x m:Int}(h1: -m<=x)(h2:x<=m):0<=x*x/\x*x<=m*m:=by
 have h0:0<=m:=o_
 constructor
 ·rcases Int.le_total 0 x with h |h
  ·exact yL h h
  ·exact Int.mul_nonneg_of_nonpos_of_nonpos h h
 ·rcases Int.le_total 0 x with h |h
  ·exact yA h2 h2 h h0
  ·have:=yA (show -x<=m by omega) (show -x<=m by omega) (show 0<= -x by omega) h0
   rwa[Int.neg_mul_neg]at this
theorem Y7(a b:cI):cA_ 404 [.agg a.enc, .agg b.enc] [] (sI (B3s a b)) []:=by
 refine en1 hm A6 Tryz.func404 rfl rfl (sg_ ?_);refine A0 (A1r a) rfl (sg_ ?_);refine A0 (A1r b) rfl ?_;simp only[C1r,go_sem];have a1:=Z6 a.X;have a2:=Z6 a.Y;have b1:=Z6 b.X;have b2:=Z6 b.Y
 have w1:IntKind.i64.wrap (sat b.X-sat a.X)=sat b.X-sat a.X:=wo_
 have w2:IntKind.i64.wrap (sat b.Y-sat a.Y)=sat b.Y-sat a.Y:=wo_
 have h1:=E1d (x:=sat b.X-sat a.X) (m:=1073741822) o_ o_
 have h2:=E1d (x:=sat b.Y-sat a.Y) (m:=1073741822) o_ o_;rw[w1,w2];unfold B3s;generalize(sat b.X-sat a.X)*(sat b.X-sat a.X)=p at*;generalize(sat b.Y-sat a.Y)*(sat b.Y-sat a.Y)=q at*;simp only[IntKind.wrap_i64];omega
def D1j(n:Nat):Nat->Nat->Nat
 |0,r=>r
 |k+1,r=>D1j n k (if(r+2^k)*(r+2^k)<=n then r+2^k else r)
def isq(n:Int):Int:=if n<0\/n>4611686018427387904 then 0 else D1j n.toNat 32 0
def E4z:Nat->Int
 |0=>0
 |k+1=>((2^k:Nat):Int)
theorem F7e {r k:Nat}(hr:2^(k+1)∣r)(hlt:r<4294967296)(hk:k<32):IntKind.i64.wrap (((BitVec.ofInt 64 (r:Int) ||| BitVec.ofInt 64 ((2^k:Nat):Int)).toNat:Nat):Int)=((r+2^k:Nat):Int):=by
 obtain⟨q,rfl⟩:=hr;have hp:2^k<2^(k+1):=Nat.pow_lt_pow_right o_ o_
 have hp2:2^k<=2^31:=Nat.pow_le_pow_right o_ o_
 have e:(BitVec.ofInt 64 ((2^(k+1)*q:Nat):Int) ||| BitVec.ofInt 64 ((2^k:Nat):Int)).toNat=2^(k+1)*q+2^k:=by rw[BitVec.toNat_or,BitVec.ofInt_natCast,BitVec.ofInt_natCast,xp,xp,yp o_,yp o_,Nat.two_pow_add_eq_or_of_lt hp]
 rw[e,IntKind.wrap_i64];omega
theorem F3r {n:Int}(h:n<0\/n>4611686018427387904):isq n=0:=by unfold isq;rw[zc h]
theorem F0n {n:Int}(h: ¬(n<0\/n>4611686018427387904)):isq n=D1j n.toNat 32 0:=by unfold isq;rw[zb h]
theorem E9u(k:Nat):((2^k:Nat):Int).fdiv (2^min 1 64)=E4z k:=by
 rw[qP _ (by decide)];cases k with
 |zero=>decide
 |succ k=>show((2^(k+1):Nat):Int) / 2=((2^k:Nat):Int);rw[Nat.pow_succ];omega
theorem F0o {r k:Nat}(hr:2^(k+1)∣r)(hlt:r+2^(k+1)<=4294967296):2^k∣r/\r+2^k<=4294967296/\2^k∣r+2^k/\r+2^k+2^k<=4294967296/\0<2^k:=by
 have hp:2^(k+1)=2^k*2:=Nat.pow_succ 2 k
 have h1:2^k∣r:=Nat.dvd_trans ⟨2,hp⟩ hr
 have h0:0<2^k:=Nat.two_pow_pos k;exact⟨h1,o_,Nat.dvd_add h1 (Nat.dvd_refl _),o_,h0⟩
theorem B2d(n:Int):cA_ 403 [sI n] [] (sI (isq n)) []:=by
 refine en1 hm A6 Tryz.func403 rfl rfl (sg_ ?_);by_cases hn:n<0\/n>4611686018427387904
 ·rw[zc (by by_cases h:n<0;rw[zc h];rw[zb h];exact zT o_),F3r hn]
 ·rw[zb (by rw[zb o_,zp o_];simp),F0n hn];refine B1 hm (ι:= {p:Nat×Nat // p.1<=32/\2^p.1∣p.2/\p.2+2^p.1<=4294967296/\D1j n.toNat p.1 p.2=D1j n.toNat 32 0}) (λp=> [(0, .cA,sI n),(3, .cA,sI p.1.2),(4, .cA,sI (E4z p.1.1))])
   (λp=> []) (λp=>p.1.1) ⟨(32,0),by decide,by decide,by decide,rfl⟩ ?_ ?_
  ·refine D8 [] [] (sg_ ?_);decide
  ·rintro⟨⟨k,r⟩,hk,hr,hlt,he⟩;simp only at hk hr hlt he;refine sg_ ?_;cases k with
   |zero=>rw[zb (by decide)];rw[<-he];rfl
   |succ k=>
    obtain⟨a1,a2,a3,a4,a5⟩:=F0o hr hlt;rw[zc (by show(0:Int)<((2^k:Nat):Int);omega)];have hor:=F7e hr o_ (show k<32 by omega)
    have hu: ∀m:Nat,m<18446744073709551616->IntKind.u64.wrap (m:Int)=m:=λm hm'=>by rw[IntKind.wrap_u64];omega
    have hun:IntKind.u64.wrap n=n:=by rw[IntKind.wrap_u64];omega
    have hsq:(r+2^k)*(r+2^k)<18446744073709551616:=by
     have h1:r+2^k<=4294967295:=o_
     have:=Nat.mul_le_mul h1 h1;omega
    simp only[show E4z (k+1)=((2^k:Nat):Int)from rfl,hun,E9u];have key: ∀X:Int,X=((r+2^k:Nat):Int)->IntKind.u64.wrap (IntKind.u64.wrap X*IntKind.u64.wrap X)=(((r+2^k)*(r+2^k):Nat):Int):=λX hX=>by rw[hX,hu (r+2^k) o_,<-Int.natCast_mul,hu _ hsq]
    generalize hX:IntKind.i64.wrap _=X;have hX2:X=((r+2^k:Nat):Int):=hX.symm.trans hor;rw[key X hX2];clear hX;subst hX2;by_cases hc:(r+2^k)*(r+2^k)<=n.toNat
    ·rw[zc o_];refine⟨by decide,?_⟩;refine A8 ⟨(k,r+2^k),by show k<=32;omega,a3,a4,by rw[<-he];simp only[D1j,hc,zL]⟩ (Nat.lt_succ_self k) (D8 [] [] ?_);simp only[go_sem]
    ·rw[zb o_];refine⟨by decide,?_⟩;refine A8 ⟨(k,r),by show k<=32;omega,a1,a2,by rw[<-he];simp only[D1j,hc,zJ]⟩ (Nat.lt_succ_self k) (D8 [] [] ?_);simp only[go_sem]
def A97(v:cI):Int:=isq (B3s ⟨0,0⟩ v)
theorem W6(v:cI):cA_ 271 [.agg v.enc] [] (sI (A97 v)) []:=by refine en1 hm A6 Tryz.func271 rfl rfl (sg_ ?_);refine A0 (Y7 ⟨0,0⟩ v) rfl (sg_ ?_);refine A0 (B2d _) rfl ?_;simp only[A97,go_sem]
def E7s(b:cE):Bool:= !b.fD&&decide (A97 b.dO<=4096)&&decide (-4096<=b.dA)&&decide (b.dA<=4096)
theorem D50(b:cE):cA_ 327 [.agg b.enc] [] (sB (E7s b)) []:=by refine en1 hm A6 Tryz.func327 rfl rfl (sg_ ?_);refine A0 (W6 b.dO) rfl (sg_ ?_);rfl
def B3b(b:cE):cE:= {b with eM:=if E7s b then IntKind.i64.wrap ((if 1048575<b.eM then 1048575 else b.eM)+1)else 0}
theorem C7v(b:cE):cA_ 198 [.agg b.enc] [] (.agg (B3b b).enc) []:=by
 refine M3 12 [(2,some (some 20))] hm A6 Tryz.func198 rfl (sg_ ?_);refine A0 (D50 b) rfl (sg_ ?_);split
 ·rename_i h;simp only[B3b,h,go_sem]
 ·rename_i h;simp only[B3b,h,go_sem]
def okO(O:List (Nat×A7)):Prop:=(O.map (·.1)).Nodup/\ ∀p∈O,∀cs,p.2= .box cs-> ∀j∈F6 cs,(ofL O j).isSome
theorem B01 {O:List (Nat×A7)}(hn:(O.map (·.1)).Nodup){i:Nat}{o:A7}(h:(i,o)∈O):ofL O i=some o:=by
 rw[B5k O hn];have:O.find? (λp=>p.1==i)=some (i,o):=by
  induction O with
  |nil=>cases h
  |cons p O ih=>
   simp only[qw,yG]at hn;rcases zo.1 h with e |h'
   ·subst e;simp
   ·have hne:p.1≠i:=λe=>hn.1 (e▸qS (f:=(·.1)) h')
    simp only[List.find?_cons,qt.2 hne];exact ih hn.2 h'
 rw[this];rfl
theorem C24 {O:List (Nat×A7)}: ∀ {cs:List AV},(∀j∈F6 cs,(ofL O j).isSome)->B9w id [] O cs cs
 | [],_=> .nil
 |c::cs,h=>by refine .cons ?_ (C24 λj hj=>h j (by simp[F6,hj]));have:B8d id [] O (c.ren id) c:= .cA λj hj=>⟨h j (by simp[F6,hj]),p_⟩;rwa[AV.ren_id]at this
theorem C91 {O:List (Nat×A7)}(h:okO O): ∀(l:List (Nat×A7)),(∀p∈l,p∈O)->C18 (ofL O) id [] O l
 | [],_=>trivial
 |(i,o)::l,hl=>by
  refine⟨?_,C91 h l λp hp=>hl p (qf _ hp)⟩;have hio:=hl (i,o) (qp ..);rw[zb p_];simp only[id,B01 h.1 hio];cases o with
  |box cs=>exact .inl ⟨cs,cs,rfl,rfl,C24 (h.2 _ hio cs rfl)⟩
  |_=>exact .inr ⟨(λcs e=>by cases e),(λcs e=>by cases e), .inl rfl⟩
theorem Y3 {σ:St}{T:Slots}{O:List (Nat×A7)}(h:okO O)(hobj:σ.objs=ofL O)(hs:A21 σ id [] O T [] λwr=>wr= []):V5 (O.map (·.1)) σ T O:=by
 refine⟨id,[],h.1,(by have e:(List.map (λx=>x.fst) O).filter (λi=> !([]:List Nat).contains i)=List.map (λx=>x.fst) O:=List.filter_eq_self.2 (λa _=>by simp);simp only[e,List.map_id];exact h.1),λk hk=>⟨p_,rfl,?_⟩,B0f (λwr hwr=> ?_) T [] hs⟩
 ·rw[qL]at hk;obtain⟨p,hp,rfl⟩:=hk;rw[B01 h.1 hp];rfl
 ·subst hwr;have:wrm σ.objs []=ofL O:=hobj;rw[this];exact C91 h O λ_ hp=>hp
theorem S1 {σ:St}{ts:List Nat}{rs:List AV}{O:List (Nat×A7)}(md:List C0u)(hm:md.length=ts.length)(hr:rs.length=ts.length)(h:okO O)(hobj:σ.objs=ofL O)(hs:A21 σ id [] O (B9m ts md rs) [] λwr=>wr= []):
  A8f (O.map (·.1)) σ ts rs O:=⟨md,hm,hr,Y3 h hobj hs⟩
theorem B1j(o:A7):o.ren id=o:=by cases o <;> simp only[A7.ren];rw[O3]
theorem W0 {O:List (Nat×A7)}(h:okO O):wrm (ofL O) (A3v id O)=ofL O:=by
 rw[C2b];funext x;rw[B8a O _ h.1];cases hf:O.find? (λp=>p.1==x)with
 |none=>rfl
 |some p=>have h1:=yH hf;simp only[qc]at h1;subst h1;exact(B01 h.1 (qD hf)).symm
theorem A86 {m:Nat->Option A7}{O:List (Nat×A7)}: ∀ {avs:List AV},(∀a∈avs,∀i∈a.ids,(ofL O i).isSome)->S4 m id O (avs.map λ_=>true) avs avs []
 | [],_=>rfl
 |a::avs,h=>⟨AV.ren_id a,h a (qp ..),A86 λb hb=>h b (qf _ hb)⟩
theorem Y4 {P:Program}{m:Nat->Option A7}{f:FuncId}{avs:List AV}{b:Bool}{Q:ContR}{O:List (Nat×A7)}{r:AV}(hc:D5 P f avs O r O)(h:okO O)(hm:m=ofL O)
  (ha: ∀a∈avs,∀i∈a.ids,(ofL O i).isSome)(hb:b=true)(hK: @Ri Q b ⟨some r,A3v id O⟩): @A25 P m f avs b Q:=by
 refine⟨⟨some r,A3v id O⟩,λ_=> ?_,λ_=>hb,hK⟩;have:=O9.mk (P:=P) (m:=m) (avs.map λ_=>true) avs O r O id [] false hc (A86 ha)
  (λi o hi=>by rw[B1j];subst hm;exact hi)
  (λi cs hi j hj=>h.2 _ (A0z h.1 hi) cs rfl j hj) (λi hi=>hi) (λi hi=> .inl hi) (by simpa using h.1) (λe=>by cases e)
 simpa[AV.ren_id]using this
def B1b(p:Int->Bool)(l:List Int):Int:=match(List.range l.length).find? (λi=>p (l.getD i 0))with |some i=>i |none=> -1
theorem D48 {p:Int->Bool}{l:List Int}{i:Nat}(hi:i<l.length)(h: ∀j,j<i->p (l.getD j 0)=false)(hp:p (l.getD i 0)=true):B1b p l=i:=by
 have:(List.range l.length).find? (λi=>p (l.getD i 0))=some i:=by rw[yS];exact⟨hp,by simpa using hi,λj hj=>by simp only[h j hj,zD]⟩
 unfold B1b;rw[this]
theorem C0c {p:Int->Bool}{l:List Int}(h: ∀j,j<l.length->p (l.getD j 0)=false):B1b p l= -1:=by
 have:(List.range l.length).find? (λi=>p (l.getD i 0))=none:=by rw[yn];exact λj hj=>by simp only[h j hj,zD]
 unfold B1b;rw[this]
theorem D1f(p:Int->Bool)(l:List Int):decide (0<=B1b p l)=l.any p:=by
 cases h:l.any p with
 |true=>
  rw[List.any_eq_true]at h;obtain⟨x,hx,hp⟩:=h;obtain⟨k,hk,rfl⟩:=qG hx;unfold B1b;cases hf:(List.range l.length).find? (λi=>p (l.getD i 0))with
  |none=>rw[yn]at hf;have:=hf k hk;simp[List.getD,hk,hp]at this
  |some i=>simp
 |false=>rw[List.any_eq_false]at h;rw[C0c λj hj=>by simpa using h _ (B6 0 hj)];decide
theorem C7y(l:List Int)(x:Int)(hl:l.length<=1048576):cA_ 395 [A4 1 C8 0 l,sI x] [] (sI (B1b (λy=>x==y) l)) []:=by
 refine en1 hm A6 Tryz.func395 rfl rfl (sg_ ?_);refine B1 hm (ι:= {i:Nat // i<=l.length/\ ∀j,j<i->(x==l.getD j 0)=false}) (λi=> [(0, .cA,A4 1 C8 0 l),(1, .cA,sI x),(7, .cA,sI l.length),(8, .cA,sI i.1)])
  (λi=> []) (λi=>l.length-i.1) ⟨0,o_,λj hj=>by omega⟩ ?_ ?_
 ·refine D8 [] [] ?_;simp only[go_sem]
 ·rintro⟨i,hi,hs⟩;refine sg_ ?_;split
  ·rename_i hlt;have hlt:i<l.length:=o_
   refine⟨ok_,?_⟩;cases hx:(x==l.getD i 0)with
   |true=>rw[zc rfl];exact(D48 hlt hs hx).symm
   |false=>rw[zb p_];refine A8 ⟨i+1,o_,λj hj=>by rcases zF.1 hj with h |rfl;exact hs j h;exact hx⟩ (by show l.length-(i+1)<l.length-i;omega) (D8 [] [] ?_);refine sg_ ?_;exact wo_
  ·rename_i hge;exact(C0c λj hj=>hs j o_).symm
theorem C2n(l:List Int)(x:Int)(hl:l.length<=1048576):cA_ 259 [A4 1 C8 0 l,sI x] [] (sB (l.any λy=>x==y)) []:=by refine en1 hm A6 Tryz.func259 rfl rfl (sg_ ?_);refine A0 (C7y l x hl) rfl ?_;simp only[D1f,go_sem]
theorem A7l(l:List Int)(f:FuncId)(first cap:List AV)(O:List (Nat×A7))(p:Int->Bool)(hl:l.length<=1000000000)(hO:okO O)
  (hids: ∀i∈(AV.fn (.func f) first cap).ids,(ofL O i).isSome)
  (hp: ∀x∈l,cA_ f (first++ [sI x]++cap) O (sB (p x)) O):
  cA_ 190 [A4 1 C8 0 l, .fn (.func f) first cap] O (sI (B1b p l)) O:=by
 have hren:(AV.fn (.func f) first cap).ren id= .fn (.func f) first cap:=AV.ren_id _
 have hargs: ∀x:Int,∀a∈first++ [sI x]++cap,∀i∈a.ids,(ofL O i).isSome:=λx a ha i hi=>by
  simp only[zj,zu]at ha;refine hids i ?_;simp only[AV.ids,zj];rcases ha with(ha |rfl) |ha
  ·obtain⟨k,hk⟩:=zA ha;exact .inl (P7 hk i hi)
  ·simp[AV.ids]at hi
  ·obtain⟨k,hk⟩:=zA ha;exact .inr (P7 hk i hi)
 refine I6 hm A6 Tryz.func190 rfl rfl (sg_ ?_);refine B1 hm (ι:= {i:Nat // i<=l.length/\ ∀j,j<i->p (l.getD j 0)=false}) (λi=> [(0, .cA,A4 1 C8 0 l),(1, .cA, .fn (.func f) first cap),(7, .cA,sI l.length),(8, .cA,sI i.1)])
  (λi=>O) (λi=>l.length-i.1) ⟨0,o_,λj hj=>by omega⟩ ?_ ?_
 ·refine Y3 hO rfl (sg_ ?_);exact⟨by rw[O3,O3],λi hi=>hids i hi⟩
 ·rintro⟨i,hi,hs⟩;refine sg_ ?_;split
  ·rename_i hlt;have hlt:i<l.length:=o_
   refine⟨ok_,?_⟩;have hx:cA_ f (first++ .sc (.int .i64 (l.getD i 0))::cap) O (sB (p (l.getD i 0))) O:=by have:=hp (l.getD i 0) (B6 0 hlt);rwa[zx]at this
   refine Y4 hx hO rfl (λa ha=>hargs (l.getD i 0) a (by rw[zx];exact ha)) rfl (sg_ ?_);cases hpx:p (l.getD i 0)with
   |true=>rw[zc rfl];refine S1 [.cA] rfl rfl hO (W0 hO) (sg_ ?_);exact(D48 hlt hs hpx).symm
   |false=>rw[zb p_];refine A8 ⟨i+1,o_,λj hj=>by rcases zF.1 hj with h |rfl;exact hs j h;exact hpx⟩ (by show l.length-(i+1)<l.length-i;omega) (Y3 hO (W0 hO) ?_);refine sg_ ?_;exact⟨by rw[O3,O3],λi hi=>hids i hi,wo_⟩
  ·rename_i hge;refine S1 [.cA] rfl rfl hO rfl (sg_ ?_);exact(C0c λj hj=>hs j o_).symm
theorem A5l(l:List Int)(f:FuncId)(first cap:List AV)(O:List (Nat×A7))(p:Int->Bool)(hl:l.length<=1000000000)(hO:okO O)
  (hids: ∀i∈(AV.fn (.func f) first cap).ids,(ofL O i).isSome)
  (hp: ∀x∈l,cA_ f (first++ [sI x]++cap) O (sB (p x)) O):
  cA_ 328 [A4 1 C8 0 l, .fn (.func f) first cap] O (sB (l.any p)) O:=by
 refine I6 hm A6 Tryz.func328 rfl rfl (sg_ ?_);refine Y4 (A7l l f first cap O p hl hO hids hp) hO rfl ?_ rfl ?_
 ·intro a ha;simp only[zo,zr,zU]at ha;rcases ha with rfl |rfl
  ·intro i hi;simp[AV.ids]at hi
  ·exact hids
 ·refine sg_ ?_;refine S1 [.cA] rfl rfl hO (W0 hO) (sg_ ?_);exact D1f p l
mutual
theorem D3m {ρ:Nat->Nat}: ∀(c:AV),c.ids= []->c.ren ρ=c
 | .sc _,_=>rfl
 | .dsl ..,_=>rfl
 | .dslx ..,_=>rfl
 | .sl ..,h=>by simp[AV.ids]at h
 | .ptr ..,h=>by simp[AV.ids]at h
 | .mp _,h=>by simp[AV.ids]at h
 | .dE _,_=>rfl
 | .own ..,_=>rfl
 | .hole,_=>rfl
 | .agg cs,h=>by simp only[AV.ren,B1q cs (by simpa[AV.ids]using h)]
 | .tup cs,h=>by simp only[AV.ren,B1q cs (by simpa[AV.ids]using h)]
 | .fn f a b,h=>by simp only[AV.ids,List.append_eq_nil_iff]at h;simp only[AV.ren,B1q a h.1,B1q b h.2]
theorem B1q {ρ:Nat->Nat}: ∀(l:List AV),F6 l= []->A9k ρ l=l
 | [],_=>rfl
 |a::l,h=>by simp only[F6,List.append_eq_nil_iff]at h;simp only[A9k,D3m a h.1,B1q l h.2]
end
theorem E1o {P:Program}{m:Nat->Option A7}{f:FuncId}{b:Bool}{Q:ContR}{avs cargs:List AV}{O':List (Nat×A7)}{r:AV}(ρs:List (Nat×Nat))(hc:D5 P f cargs [] r O')
  (hr:r.noDsl=true)(ho: ∀p∈O',p.2.NoDsl)(hnO':(O'.map (·.1)).Nodup)(hnd:(O'.map λp=>J1 ρs p.1).Nodup)
  (ha:S2 m avs cargs [] λ_=>True)(hn:C6w m (J1 ρs) [] O')(hb:b=true)(hK: @Ri Q b ⟨some (r.ren (J1 ρs)),A3v (J1 ρs) O'⟩):
  @A25 P m f avs b Q:=by
 obtain⟨md0,cs,wr,h1,h2,_⟩:=C22 ha;have h1': ∃md,S4 m (J1 ρs) [] md avs cs wr:=by
  clear hc h2 ha;induction avs generalizing md0 cs wr with
  |nil=>cases md0 <;> cases cs <;> first |exact⟨[],h1⟩ |simp[S4]at h1
  |cons a avs ih=>
   cases md0 with
   |nil=>cases cs <;> simp[S4]at h1
   |cons x md=>
    cases cs with
    |nil=>cases x <;> simp[S4]at h1
    |cons c cs=>
     cases x with
     |true=>
      obtain⟨e1,e2,e3⟩:=h1;obtain⟨md',h'⟩:=ih md cs wr e3;refine⟨true::md',?_,e2,h'⟩;have:c.ids= []:=by
       cases hids:c.ids with
       |nil=>rfl
       |cons i l=>have:=e2 i (by rw[hids];simp);simp[ofL,wrm]at this
      rw[AV.ren_id]at e1;rw[<-e1];exact D3m c this
     |false=>obtain⟨p,w1,w2,f1,f2,rfl,f3⟩:=h1;obtain⟨md',h'⟩:=ih md cs w2 f3;exact⟨false::md',p,w1,w2,f1,f2,rfl,h'⟩
 obtain⟨md,h1'⟩:=h1';have:=O9.mk (P:=P) (m:=m) md cs [] r O' (J1 ρs) wr true (hc.args_le h2) h1' (λi o hi=>by simp[ofL,wrm]at hi) (λi cs hi=>by simp[ofL,wrm]at hi) (λi hi=>by simp[ofL,wrm]at hi)
  (λi hi=>by obtain⟨o,ho'⟩:=A9b hi;exact B8z hn i o ho') hnd (λ_=>⟨hr,λi o hi=>ho _ (A0z hnO' hi)⟩)
 exact⟨⟨some (r.ren (J1 ρs)),A3v (J1 ρs) O'⟩,λ_=>(by simpa using this),λ_=>hb,hK⟩
theorem Z7 {P:Program}{m:Nat->Option A7}{f:FuncId}{avs:List AV}{b:Bool}{Q:ContR}{O:List (Nat×A7)}{r:AV}(hc:D5 P f avs O r O)(h:okO O)(hm: ∀p∈O,m p.1=some p.2)
  (ha: ∀a∈avs,∀i∈a.ids,(ofL O i).isSome)(hb:b=true)(hK: @Ri Q b ⟨some r,O⟩): @A25 P m f avs b Q:=by
 rw[<-C2b O]at hK;refine⟨⟨some r,A3v id O⟩,λ_=> ?_,λ_=>hb,hK⟩;have:=O9.mk (P:=P) (m:=m) (avs.map λ_=>true) avs O r O id [] false hc (A86 ha)
  (λi o hi=>by rw[B1j];exact hm _ (A0z h.1 hi))
  (λi cs hi j hj=>h.2 _ (A0z h.1 hi) cs rfl j hj) (λi hi=>hi) (λi hi=> .inl hi) (by simpa using h.1) (λe=>by cases e)
 simpa[AV.ren_id]using this
theorem B7b(k:Nat)(l:List Int)(f:FuncId)(first cap:List AV)(O:List (Nat×A7))(p:Int->Bool)(hl:l.length<=1000000000)(hO:okO O)(hk:ofL O k=some (.arr 1 (B0 C8 0 l)))
  (hids: ∀i∈(AV.fn (.func f) first cap).ids,(ofL O i).isSome)
  (hp: ∀x∈l,cA_ f (first++ [sI x]++cap) O (sB (p x)) O):
  cA_ 190 [.sl k 0 l.length l.length, .fn (.func f) first cap] O (sI (B1b p l)) O:=by
 have hren:(AV.fn (.func f) first cap).ren id= .fn (.func f) first cap:=AV.ren_id _
 have hargs: ∀x:Int,∀a∈first++ [sI x]++cap,∀i∈a.ids,(ofL O i).isSome:=λx a ha i hi=>by
  simp only[zj,zu]at ha;refine hids i ?_;simp only[AV.ids,zj];rcases ha with(ha |rfl) |ha
  ·obtain⟨k,hk⟩:=zA ha;exact .inl (P7 hk i hi)
  ·simp[AV.ids]at hi
  ·obtain⟨k,hk⟩:=zA ha;exact .inr (P7 hk i hi)
 refine I6 hm A6 Tryz.func190 rfl rfl (sg_ ?_);refine B1 hm (ι:= {i:Nat // i<=l.length/\ ∀j,j<i->p (l.getD j 0)=false}) (λi=> [(0, .cA, .sl k 0 l.length l.length),(1, .cA, .fn (.func f) first cap),(7, .cA,sI l.length),(8, .cA,sI i.1)])
  (λi=>O) (λi=>l.length-i.1) ⟨0,o_,λj hj=>by omega⟩ ?_ ?_
 ·refine Y3 hO rfl (sg_ ?_);exact⟨rfl,(by show(ofL O k).isSome=true;rw[hk];rfl),hren.symm,λi hi=>hids i hi⟩
 ·rintro⟨i,hi,hs⟩;have hk':=hk;simp only[A19];generalize hmo:ofL O=mo at hk'⊢;simp only[go_sem,hk'];split
  ·rename_i hlt;have hlt:i<l.length:=o_
   refine⟨ok_,?_⟩;have hx:cA_ f (first++ .sc (.int .i64 (l.getD i 0))::cap) O (sB (p (l.getD i 0))) O:=by have:=hp (l.getD i 0) (B6 0 hlt);rwa[zx]at this
   refine Y4 hx hO hmo.symm (λa ha=>hargs (l.getD i 0) a (by rw[zx];exact ha)) rfl ?_;have hself:wrm mo (A3v id O)=ofL O:=by rw[<-hmo];exact W0 hO
   refine sg_ ?_;cases hpx:p (l.getD i 0)with
   |true=>rw[zc rfl];refine S1 [.cA] rfl rfl hO hself (sg_ ?_);exact(D48 hlt hs hpx).symm
   |false=>rw[zb p_];refine A8 ⟨i+1,o_,λj hj=>by rcases zF.1 hj with h |rfl;exact hs j h;exact hpx⟩ (by show l.length-(i+1)<l.length-i;omega) (Y3 hO hself ?_);refine sg_ ?_;exact⟨rfl,(by show(ofL O k).isSome=true;rw[hk];rfl),hren.symm,λi hi=>hids i hi,wo_⟩
  ·rename_i hge;refine S1 [.cA] rfl rfl hO hmo.symm (sg_ ?_);exact(C0c λj hj=>hs j o_).symm
theorem B4w(k:Nat)(l:List Int)(f:FuncId)(first cap:List AV)(O:List (Nat×A7))(p:Int->Bool)(hl:l.length<=1000000000)(hO:okO O)(hk:ofL O k=some (.arr 1 (B0 C8 0 l)))
  (hids: ∀i∈(AV.fn (.func f) first cap).ids,(ofL O i).isSome)
  (hp: ∀x∈l,cA_ f (first++ [sI x]++cap) O (sB (p x)) O):
  cA_ 328 [.sl k 0 l.length l.length, .fn (.func f) first cap] O (sB (l.any p)) O:=by
 refine I6 hm A6 Tryz.func328 rfl rfl (sg_ ?_);refine Y4 (B7b k l f first cap O p hl hO hk hids hp) hO rfl ?_ rfl ?_
 ·intro a ha;simp only[zo,zr,zU]at ha;rcases ha with rfl |rfl
  ·intro i hi;simp only[AV.ids,zu]at hi;subst hi;rw[hk];rfl
  ·exact hids
 ·refine sg_ ?_;refine S1 [.cA] rfl rfl hO (W0 hO) (sg_ ?_);exact D1f p l
def inR(x lo hi:Int):Bool:=decide (lo<=x/\x<=hi)
theorem C4j(x lo hi:Int):cA_ 86 [sI x,sI lo,sI hi] [] (sB (inR x lo hi)) []:=by
 refine en1 hm A6 Tryz.func86 rfl rfl (sg_ ?_);by_cases h:lo<=x
 ·simp only[h,zL,inR,qo]
 ·simp only[h,zJ,inR,qJ,zP]
theorem B66(x lo hi:Int):cA_ 358 [sI x,sI lo,sI hi] [] (sB (inR x lo hi)) []:=by
 refine en1 hm A6 Tryz.func358 rfl rfl (sg_ ?_);by_cases h:lo<=x
 ·simp only[h,zL,inR,qo]
 ·simp only[h,zJ,inR,qJ,zP]
theorem L0(x lo hi:Int):cA_ 362 [sI x,sI lo,sI hi] [] (sB (inR x lo hi)) []:=by
 refine en1 hm A6 Tryz.func362 rfl rfl (sg_ ?_);by_cases h:lo<=x
 ·simp only[h,zL,inR,qo]
 ·simp only[h,zJ,inR,qJ,zP]
theorem R7(a b:Int):cA_ 300 [sI a,sI b] [] (sI (sat (sat a-sat b))) []:=by refine en1 hm A6 Tryz.func300 rfl rfl (sg_ ?_);refine A0 (L7 a) rfl (sg_ ?_);refine A0 (L7 b) rfl (sg_ ?_);refine A0 (L7 _) rfl (sg_ ?_);have:=Z6 a;have:=Z6 b;rw[show IntKind.i64.wrap (sat a-sat b)=sat a-sat b by rw[IntKind.wrap_i64];omega]
def O5(a b:cI):cI:=⟨sat (sat a.X-sat b.X),sat (sat a.Y-sat b.Y)⟩
theorem L9(a b:cI):cA_ 272 [.agg a.enc, .agg b.enc] [] (.agg (O5 a b).enc) []:=by refine M3 16 [(4,some (some 2))] hm A6 Tryz.func272 rfl (sg_ ?_);refine A0 (R7 a.X b.X) rfl (sg_ ?_);refine A0 (R7 a.Y b.Y) rfl ?_;simp only[O5,go_sem]
theorem E3y {x y m n:Int}(h1: -m<=x)(h2:x<=m)(h3: -n<=y)(h4:y<=n): -(m*n)<=x*y/\x*y<=m*n:=by
 have hm:0<=m:=o_
 have hn:0<=n:=o_
 rcases Int.le_total 0 x with hx |hx <;> rcases Int.le_total 0 y with hy |hy
 ·have a:=yA h2 h4 hy hm;have b:=yL hx hy;omega
 ·have a:=yA h2 (show -y<=n by omega) o_ hm;have b:=yL hx (show 0<= -y by omega);rw[Int.mul_neg]at a b;omega
 ·have a:=yA (show -x<=m by omega) h4 hy hm;have b:=yL (show 0<= -x by omega) hy;rw[Int.neg_mul]at a b;omega
 ·have a:=yA (show -x<=m by omega) (show -y<=n by omega) o_ hm;have b:=yL (show 0<= -x by omega) (show 0<= -y by omega);rw[Int.neg_mul_neg]at a b;omega
def crs(a b c:cI):Int:=(sat b.X-sat a.X)*(sat c.Y-sat a.Y)-(sat b.Y-sat a.Y)*(sat c.X-sat a.X)
def ori(a b c:cI):Int:=if 0<crs a b c then 1 else if crs a b c<0 then -1 else 0
theorem E95(a b c:cI):IntKind.i64.wrap (IntKind.i64.wrap (IntKind.i64.wrap (sat b.X-sat a.X)*IntKind.i64.wrap (sat c.Y-sat a.Y))-IntKind.i64.wrap (IntKind.i64.wrap (sat b.Y-sat a.Y)*IntKind.i64.wrap (sat c.X-sat a.X)))=crs a b c:=by
 have h1:=Z6 a.X;have h2:=Z6 a.Y;have h3:=Z6 b.X;have h4:=Z6 b.Y;have h5:=Z6 c.X;have h6:=Z6 c.Y
 have w: ∀x y,-536870911<=x/\x<=536870911-> -536870911<=y/\y<=536870911->IntKind.i64.wrap (x-y)=x-y:=λx y _ _=>by rw[IntKind.wrap_i64];omega
 rw[w _ _ h3 h1,w _ _ h6 h2,w _ _ h4 h2,w _ _ h5 h1];have p1:=E3y (x:=sat b.X-sat a.X) (y:=sat c.Y-sat a.Y) (m:=1073741822) (n:=1073741822) o_ o_ o_ o_
 have p2:=E3y (x:=sat b.Y-sat a.Y) (y:=sat c.X-sat a.X) (m:=1073741822) (n:=1073741822) o_ o_ o_ o_;unfold crs;generalize(sat b.X-sat a.X)*(sat c.Y-sat a.Y)=p at*;generalize(sat b.Y-sat a.Y)*(sat c.X-sat a.X)=q at*;simp only[IntKind.wrap_i64];omega
theorem A20(a b c:cI):cA_ 274 [.agg a.enc, .agg b.enc, .agg c.enc] [] (sI (ori a b c)) []:=by
 refine en1 hm A6 Tryz.func274 rfl rfl (sg_ ?_);refine A0 (A1r a) rfl (sg_ ?_);refine A0 (A1r b) rfl (sg_ ?_);refine A0 (A1r c) rfl ?_;simp only[C1r,E95,go_sem];unfold ori
 (repeat' split) <;> omega
def E0m(v:cI):Bool:=decide (-1048576<=v.X/\v.X<=1048576/\ -1048576<=v.Y/\v.Y<=1048576)
theorem C9l(v:cI):cA_ 540 [.agg v.enc] [] (sB (E0m v)) []:=by
 refine en1 hm A6 Tryz.func540 rfl rfl (sg_ ?_);unfold E0m;rw[qz]
 (repeat' split) <;> simp_all <;> omega
def A38(n d:Int):Int:=if d<1\/d>4611686018427387904\/n < -4611686018427387904\/n>4611686018427387904 then 0 else
 if n.tmod d>=d-n.tmod d then n.tdiv d+1 else if -(n.tmod d)>=d+n.tmod d then n.tdiv d-1 else n.tdiv d
theorem F1w {n d:Int}(h1:1<=d)(h2: -4611686018427387904<=n)(h3:n<=4611686018427387904): -4611686018427387904<=n.tdiv d/\n.tdiv d<=4611686018427387904/\ -d<n.tmod d/\n.tmod d<d:=by
 have a:=qE n (show 0<d by omega)
 have b:=Int.lt_tmod_of_pos n (show 0<d by omega)
 have e:=Int.mul_tdiv_add_tmod n d
 have hd:(n.tdiv d).natAbs<=n.natAbs:=by rw[Int.natAbs_tdiv];exact Nat.div_le_self _ _
 omega
theorem Q8(n d:Int):cA_ 415 [sI n,sI d] [] (sI (A38 n d)) []:=by
 refine en1 hm A6 Tryz.func415 rfl rfl (sg_ ?_);unfold A38;by_cases hc:d<1\/d>4611686018427387904\/n < -4611686018427387904\/n>4611686018427387904
 ·rw[zc hc,zc (by(repeat' split) <;> simp <;> omega)]
 ·rw[zb hc,zb (by(repeat' split) <;> simp <;> omega)];obtain⟨h1,h2,h3,h4⟩:=F1w (n:=n) (d:=d) o_ o_ o_;have e1:IntKind.i64.wrap (n.tdiv d)=n.tdiv d:=wo_;rw[e1];have e2:IntKind.i64.wrap (d-n.tmod d)=d-n.tmod d:=wo_
  have e3:IntKind.i64.wrap (d+n.tmod d)=d+n.tmod d:=wo_
  have e4:IntKind.i64.wrap (0-n.tmod d)= -n.tmod d:=wo_;rw[e2,e3,e4];refine⟨o_,o_,?_⟩;split
  ·rw[IntKind.wrap_i64];omega
  ·split
   ·rw[IntKind.wrap_i64];omega
   ·rfl
end Go.Abs
end
