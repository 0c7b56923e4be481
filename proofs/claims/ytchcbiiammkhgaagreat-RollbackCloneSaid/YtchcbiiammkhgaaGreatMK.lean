/- A part of the proof: contracts of functions that the statement reaches. -/
import Derived.Test.YtchcbiiammkhgaaGreatMJ
set_option linter.unusedSimpArgs false
set_option linter.unusedVariables false
set_option linter.unnecessarySimpa false
set_option maxRecDepth 100000
set_option maxHeartbeats 2000000
noncomputable section
namespace Go.Abs
open Go.Proofs
open Api
def J8(a b:dI):cL×Bool:=
 let c:=b.core.getD 0 dF_
 let ig:=E0 a.core b.core
 let n0:=Q7 a.core ig.1
 let dl:=if 0<ig.2 then T8 (O5 c (Z1 a.core c)) n0 else(n0,ig.2)
 let L:=A7e dl.1 [] c (IntKind.i64.wrap (0-M1 (D2 dl.2 b.radius))) (sat (sat dl.2-sat b.radius)) 0
 if L= []then(⟨⟨0,0⟩,[]⟩,false)else(⟨dl.1,L⟩,true)
theorem F2e(a b:dI)(dl:cI×Int)(h:(if 0<(E0 a.core b.core).2 then T8 (O5 (b.core.getD 0 dF_) (Z1 a.core (b.core.getD 0 dF_))) (Q7 a.core (E0 a.core b.core).1)else(Q7 a.core (E0 a.core b.core).1,(E0 a.core b.core).2))=dl):
  J8 a b=if A7e dl.1 [] (b.core.getD 0 dF_) (IntKind.i64.wrap (0-M1 (D2 dl.2 b.radius))) (sat (sat dl.2-sat b.radius)) 0= []then(⟨⟨0,0⟩,[]⟩,false)else(⟨dl.1,A7e dl.1 [] (b.core.getD 0 dF_) (IntKind.i64.wrap (0-M1 (D2 dl.2 b.radius))) (sat (sat dl.2-sat b.radius)) 0⟩,true):=by
 subst h;rfl
theorem B3e(a b:dI)(ha:2<=a.core.length)(hb:1<=b.core.length)(ha8:a.core.length<=1048576)(hb8:b.core.length<=1048576):cA_ 251 [.agg a.enc, .agg b.enc] [] (.tup [.agg (J8 a b).1.enc,sB ((J8 a b).2)]) []:=by
 refine S3 63 [(4,some (some 3)),(5,none)] hm A6 Tryz.func251 rfl ?_;have:=B42
 have:=A5y
 have:=L9
 have:=B70
 have:=B4c
 have:=R7
 have:=N2
 have:=A9q
 have:=A7a
 (simp(maxSteps:=1000000) only[go_sem,C7,D6,C0,D1];try(simp(disch:=(first |omega |(simp only[zM];omega) |(apply_assumption;done))) only[A3d,A1y,A1p,X8,N4,A3c,Q6,A3b,U3,A9t];try simp(maxSteps:=1000000) only[go_sem,C7,D6,C0,D1]))
 repeat' (first
  |((with_reducible refine And.intro ?_ ?_);focus (first |exact K1 |exact ie_ |exact F61 |(first |with_reducible rfl |trivial |omega |(rw[IntKind.wrap_i64];omega) |exact D0 _ |exact G5 rfl |exact A32 rfl |exact A0q _ rfl rfl |exact A22 _ (by first |omega |(simp only[zM];omega)) rfl rfl |exact B7x (λ_ _=>rfl) rfl rfl |exact D3l |exact B8r (λ_=>rfl) |(simp only[qY];omega) |(simp only[qY,qn]at*;rw[IntKind.wrap_i64];omega) |exact A8n)))
  |((with_reducible refine it_ (λhc_=> ?_) (λhc_=> ?_)) <;> (have hd_:=hc_;try simp only[qc,qB,ne_eq,zy,zi,zk,qy,zQ,zC,qs,qg,qe]at hd_))
  |(with_reducible refine gd_ ?_;with_reducible refine A0 (by apply_assumption <;> first |exact K1 |(apply_assumption <;> first |assumption |exact K1)) rfl ?_;(simp(maxSteps:=1000000) only[go_sem,C7,D6,C0,D1];try(simp(disch:=(first |omega |(simp only[zM];omega) |(apply_assumption;done))) only[A3d,A1y,A1p,X8,N4,A3c,Q6,A3b,U3,A9t];try simp(maxSteps:=1000000) only[go_sem,C7,D6,C0,D1])))
  |((with_reducible refine gD_ ?_);refine B8c ev_ K1 (by apply_assumption <;> first |exact K1 |(apply_assumption <;> first |assumption |exact K1)) (by rfl) ?_;(simp(maxSteps:=1000000) only[go_sem,C7,D6,C0,D1];try(simp(disch:=(first |omega |(simp only[zM];omega) |(apply_assumption;done))) only[A3d,A1y,A1p,X8,N4,A3c,Q6,A3b,U3,A9t];try simp(maxSteps:=1000000) only[go_sem,C7,D6,C0,D1])))
  |((with_reducible refine gD_ ?_);refine C9r ev_ K1 (by apply_assumption <;> first |exact K1 |(apply_assumption <;> first |assumption |exact K1)) (by rfl) nd_ ?_;(simp(maxSteps:=1000000) only[go_sem,C7,D6,C0,D1];try(simp(disch:=(first |omega |(simp only[zM];omega) |(apply_assumption;done))) only[A3d,A1y,A1p,X8,N4,A3c,Q6,A3b,U3,A9t];try simp(maxSteps:=1000000) only[go_sem,C7,D6,C0,D1])))
  |((with_reducible refine gD_ ?_);refine J5 ev_ K1 (by apply_assumption <;> first |exact K1 |(apply_assumption <;> first |assumption |exact K1)) ?_;(simp(maxSteps:=1000000) only[go_sem,C7,D6,C0,D1];try(simp(disch:=(first |omega |(simp only[zM];omega) |(apply_assumption;done))) only[A3d,A1y,A1p,X8,N4,A3c,Q6,A3b,U3,A9t];try simp(maxSteps:=1000000) only[go_sem,C7,D6,C0,D1])))
  |(with_reducible refine gw_ ?_;apply_assumption)
  |((with_reducible refine hb_ ?_);intros;simp only[go_sem,C7,D6,C0,D1,G9,A2p])
  |((with_reducible refine gk_ ?_);refine D4g ev_ ev_ ev_ ns_ ns_ ns_ ?_;(simp(maxSteps:=1000000) only[go_sem,C7,D6,C0,D1];try(simp(disch:=(first |omega |(simp only[zM];omega) |(apply_assumption;done))) only[A3d,A1y,A1p,X8,N4,A3c,Q6,A3b,U3,A9t];try simp(maxSteps:=1000000) only[go_sem,C7,D6,C0,D1])))
  |((with_reducible refine gr_ ?_);(try simp only[*,zL,zJ,qj,zf,zG,zN,zK,reduceCtorEq,G9,L2,P9,Q0,zO,zH,zX,zI,z8,zV,zZ,zS,zR,zD,z6,zP,qc,qB,ne_eq,zy,zi,zk,qy,zQ,zC,qs,qg,qe,yD,zU,yy,yJ,yE,yl,yg,qJ]);refine C64 ev_ ev_ ev_ ev_ rfl rfl ns_ ns_ ns_ ?_;(simp(maxSteps:=1000000) only[go_sem,C7,D6,C0,D1];try(simp(disch:=(first |omega |(simp only[zM];omega) |(apply_assumption;done))) only[A3d,A1y,A1p,X8,N4,A3c,Q6,A3b,U3,A9t];try simp(maxSteps:=1000000) only[go_sem,C7,D6,C0,D1])))
  |fail)
 ·rw[F2e a b _ (zc (by assumption))];generalize T8 (O5 (b.core.getD 0 dF_) (Z1 a.core (b.core.getD 0 dF_))) (Q7 a.core (E0 a.core b.core).1)=dl;refine B5 [false,false,false,false,true,true] [(1,704),(2,705),(3,706),(4,944)] (E0y dl.1 (b.core.getD 0 dF_) (IntKind.i64.wrap (0-M1 (D2 dl.2 b.radius))) (sat (sat dl.2-sat b.radius)) 0) (by simp[bO]) (by simp[bL]) g_ g_ ?_;generalize A7e dl.1 [] (b.core.getD 0 dF_) (IntKind.i64.wrap (0-M1 (D2 dl.2 b.radius))) (sat (sat dl.2-sat b.radius)) 0=L;refine st_ ?_;by_cases hL:L= []
  ·subst hL;rw[zc rfl];refine B5 [true] [(1,704),(2,705),(3,706),(4,944)] (C0r dl.1) (by simp[bL]) (by simp[bL]) g_ g_ ?_;simp only[go_sem,go_sem_proc]
  ·rw[zb hL];refine B5 [true] [(1,704),(2,705),(3,706),(4,944)] (C7h dl.1 L hL) (by simp[bL]) p_ g_ g_ ?_;simp only[go_sem,go_sem_proc]
 ·have he:=F2e a b (Q7 a.core (E0 a.core b.core).1,(E0 a.core b.core).2) (zb (by assumption))
  dsimp only at he;rw[he];generalize Q7 a.core (E0 a.core b.core).1=n0;generalize(E0 a.core b.core).2=g;refine B5 [false,false,false,false,true,true] [(1,704),(2,705),(3,706),(4,944)] (E0y n0 (b.core.getD 0 dF_) (IntKind.i64.wrap (0-M1 (D2 g b.radius))) (sat (sat g-sat b.radius)) 0) (by simp[bO]) (by simp[bL]) g_ g_ ?_;generalize A7e n0 [] (b.core.getD 0 dF_) (IntKind.i64.wrap (0-M1 (D2 g b.radius))) (sat (sat g-sat b.radius)) 0=L;refine st_ ?_;by_cases hL:L= []
  ·subst hL;rw[zc rfl];refine B5 [true] [(1,704),(2,705),(3,706),(4,944)] (C0r n0) (by simp[bL]) (by simp[bL]) g_ g_ ?_;simp only[go_sem,go_sem_proc]
  ·rw[zb hL];refine B5 [true] [(1,704),(2,705),(3,706),(4,944)] (C7h n0 L hL) (by simp[bL]) p_ g_ g_ ?_;simp only[go_sem,go_sem_proc]
theorem E8u(n:cI)(l:List cN)(h:l≠ []):cA_ 387 [.ptr 1 0 0 1] (bL n l) (.tup [.agg [sI n.X,sI n.Y, .sl 4 0 l.length l.length],sB true]) (bL n l):=by
 have hn: ¬((l.length:Int)==0)=true:=by simpa using h
 unfold bL;refine C8j 14 [(2,some (some 3)),(3,none)] hm A6 Tryz.func387 rfl (st_ ?_);rw[zb hn];refine B8 [.cA, .cA] [] [] ?_;simp only[go_sem,go_sem_proc]
abbrev clN(a:dI)(i:Int):cI:=Q7 a.core i
abbrev clJ(a b:dI)(i:Int):Int:=A92 b.core (clN a i)
abbrev clV(a b:dI)(i:Int):List dW:=A3q a.core i b.core (clJ a b i)
abbrev clD(a:dI)(i:Int)(v:dW):Int:=sat (sat (Q1 (clN a i) (O5 v.eU (a.core.getD i.toNat dF_)))-sat a.radius)
def clS(a b:dI)(i:Int)(k:Nat)(l:List cN):List cN:=
 let v:=(clV a b i).getD k dF_
 A7e (clN a i) l v.eU (IntKind.i64.wrap (0-M1 (D2 (clD a i v) b.radius))) (sat (sat (clD a i v)-sat b.radius)) (IntKind.i64.wrap (IntKind.i64.wrap (IntKind.i64.wrap (64*i)+IntKind.i64.wrap (8*clJ a b i))+v.ID))
def clL(a b:dI)(i:Int):List cN:=itr (clS a b i) (clV a b i).length []
theorem F0r(l:List dW)(o n:cI):(A1s l o n).length<=2:=by
 unfold A1s;simp only
 (repeat' split) <;> simp
theorem E5w(a:List cI)(i:Int)(b:List cI)(k:Int):(A3q a i b k).length<=2:=by
 unfold A3q;simp only
 (repeat' split) <;> first |(simp;done) |exact F0r _ _ _
theorem C8v(a b:dI)(i:Int):(clV a b i).length<=2:=E5w _ _ _ _
theorem C8u(a b:dI)(i:Int)(k:Nat):(itr (clS a b i) k []).length<=k:=by have:=A89 (λl:List cN=>l.length) 1 (f:=clS a b i) (λj l=>by unfold clS A7e;simp only;split <;> simp) k [];simp only[List.length_nil]at this;omega
theorem C0o(a b:dI)(i:Int)(hi:0<=i/\i<a.core.length)(ha8:a.core.length<=1048576)(hb8:b.core.length<=1048576)(hL:0<(clL a b i).length):cA_ 392 [.agg a.enc, .agg b.enc,sI i] [] (.tup [.agg [sI ((clN a i).X),sI ((clN a i).Y), .sl 1 0 (clL a b i).length (clL a b i).length],sB true]) [(1, .arr 6 (B0 cN.enc dF_ (clL a b i)))]:=by
 refine C8j 80 [(6,some (some 3)),(7,none)] hm A6 Tryz.func392 rfl ?_;have:=A5y
 have:=B6h
 have:=A7a
 have:=C46
 (simp(maxSteps:=1000000) only[go_sem])
 repeat' (first |(with_reducible refine gd_ ?_;with_reducible refine A0 (by apply_assumption <;> exact K1) rfl ?_;(simp(maxSteps:=1000000) only[go_sem])) |((with_reducible refine gD_ ?_);refine J5 ev_ K1 (by apply_assumption <;> first |exact K1 |(apply_assumption <;> first |assumption |exact K1)) ?_;(simp(maxSteps:=1000000) only[go_sem])))
 have hv:=C8v a b i;refine B1 hm (ι:= {k:Nat // k<=(clV a b i).length}) (λk=> [(2, .cA,sI i),(3, .cA, .ptr 64 0 0 1),(4, .cA, .ptr 80 0 0 1),(6, .cA, .ptr 112 0 0 1),(7, .cA,sB false),(8, .cA, .ptr 144 0 0 1),(9, .cA,sI (clJ a b i)),(10, .cA, .ptr 416 0 0 1),(11, .cA, .fn (.func 488) [] [.ptr 417 0 0 1, .ptr 418 0 0 1]),(34, .cA,A4 3 dW.enc dF_ (clV a b i)),(35, .cA,sI ((clV a b i).length:Int)),(36, .cA,sI (k.1:Int))])
  (λk=> [(64, .box a.enc),(80, .box b.enc),(112, .box [sI 0,sI 0, .sc (.slice none 0 0)]),(144, .box (clN a i).enc),(416, .box [sI ((clN a i).X),sI ((clN a i).Y), .sl 1000 0 (itr (clS a b i) k.1 []).length (itr (clS a b i) k.1 []).length]),(417, .box (clN a i).enc),(418, .box [.ptr 416 0 0 1]),(1000, .arr 6 (B0 cN.enc dF_ (itr (clS a b i) k.1 [])))]) (λk=>(clV a b i).length-k.1) ⟨0,o_⟩ ?_ ?_
 ·refine A9 [] [1000] ?_;simp only[G9,go_sem,go_sem_proc]
 ·rintro⟨k,hk⟩;have hl:=C8u a b i k
  have:=L9
  have:=A01
  have:=R7
  have:=N2
  have:=A9q;dsimp only
  (simp(maxSteps:=1000000) only[go_sem])
  repeat' (first |((with_reducible refine And.intro ?_ ?_);focus (exact K1)) |((with_reducible refine it_ (λhc_=> ?_) (λhc_=> ?_)) <;> (have hd_:=hc_)) |(with_reducible refine gd_ ?_;with_reducible refine A0 (by apply_assumption <;> first |exact K1 |(apply_assumption <;> first |assumption |exact K1)) rfl ?_;(simp(maxSteps:=1000000) only[go_sem])))
  ·have hk1:k<(clV a b i).length:=o_
   refine B5 [false,false,false,false,true,true] [(1,416),(2,417),(3,418),(4,1000)] (E8r (clN a i) ((clV a b i).getD k dF_).eU (IntKind.i64.wrap (0-M1 (D2 (clD a i ((clV a b i).getD k dF_)) b.radius))) (sat (sat (clD a i ((clV a b i).getD k dF_))-sat b.radius)) (IntKind.i64.wrap (IntKind.i64.wrap (IntKind.i64.wrap (64*i)+IntKind.i64.wrap (8*clJ a b i))+((clV a b i).getD k dF_).ID)) (itr (clS a b i) k []) o_) (by simp[bL]) (by simp[bL]) g_ g_ ?_;rw[show A7e (clN a i) (itr (clS a b i) k []) ((clV a b i).getD k dF_).eU (IntKind.i64.wrap (0-M1 (D2 (clD a i ((clV a b i).getD k dF_)) b.radius))) (sat (sat (clD a i ((clV a b i).getD k dF_))-sat b.radius)) (IntKind.i64.wrap (IntKind.i64.wrap (IntKind.i64.wrap (64*i)+IntKind.i64.wrap (8*clJ a b i))+((clV a b i).getD k dF_).ID))=itr (clS a b i) (k+1) []from rfl];refine st_ ?_;refine A8 ⟨k+1,o_⟩ (by show(clV a b i).length-(k+1)<(clV a b i).length-k;omega) (A9 [] [] ?_);refine st_ ?_;exact wo_
  ·obtain rfl:k=(clV a b i).length:=o_
   have hne:itr (clS a b i) (clV a b i).length []≠ []:=λe=>by unfold clL at hL;rw[e]at hL;simp at hL
   refine B5 [true] [(1,416),(2,417),(3,418),(4,1000)] (E8u (clN a i) (itr (clS a b i) (clV a b i).length []) hne) (by simp[bL]) (by simp[bL]) g_ g_ (st_ ?_);refine B8 [.cA, .cA] [(1,1000)] [] ?_;simp only[clL,go_sem,go_sem_proc]
theorem C0n(a b:dI)(i:Int)(hi:0<=i/\i<a.core.length)(ha8:a.core.length<=1048576)(hb8:b.core.length<=1048576)(hL:(clL a b i).length=0):cA_ 392 [.agg a.enc, .agg b.enc,sI i] [] (.tup [.agg (⟨⟨0,0⟩,[]⟩:cL).enc,sB false]) []:=by
 refine S3 80 [(6,some (some 3)),(7,none)] hm A6 Tryz.func392 rfl ?_;have:=A5y
 have:=B6h
 have:=A7a
 have:=C46
 (simp(maxSteps:=1000000) only[go_sem])
 repeat' (first |(with_reducible refine gd_ ?_;with_reducible refine A0 (by apply_assumption <;> exact K1) rfl ?_;(simp(maxSteps:=1000000) only[go_sem])) |((with_reducible refine gD_ ?_);refine J5 ev_ K1 (by apply_assumption <;> first |exact K1 |(apply_assumption <;> first |assumption |exact K1)) ?_;(simp(maxSteps:=1000000) only[go_sem])))
 have hv:=C8v a b i;refine B1 hm (ι:= {k:Nat // k<=(clV a b i).length}) (λk=> [(2, .cA,sI i),(3, .cA, .ptr 64 0 0 1),(4, .cA, .ptr 80 0 0 1),(6, .cA, .ptr 112 0 0 1),(7, .cA,sB false),(8, .cA, .ptr 144 0 0 1),(9, .cA,sI (clJ a b i)),(10, .cA, .ptr 416 0 0 1),(11, .cA, .fn (.func 488) [] [.ptr 417 0 0 1, .ptr 418 0 0 1]),(34, .cA,A4 3 dW.enc dF_ (clV a b i)),(35, .cA,sI ((clV a b i).length:Int)),(36, .cA,sI (k.1:Int))])
  (λk=> [(64, .box a.enc),(80, .box b.enc),(112, .box [sI 0,sI 0, .sc (.slice none 0 0)]),(144, .box (clN a i).enc),(416, .box [sI ((clN a i).X),sI ((clN a i).Y), .sl 1000 0 (itr (clS a b i) k.1 []).length (itr (clS a b i) k.1 []).length]),(417, .box (clN a i).enc),(418, .box [.ptr 416 0 0 1]),(1000, .arr 6 (B0 cN.enc dF_ (itr (clS a b i) k.1 [])))]) (λk=>(clV a b i).length-k.1) ⟨0,o_⟩ ?_ ?_
 ·refine A9 [] [1000] ?_;simp only[G9,go_sem,go_sem_proc]
 ·rintro⟨k,hk⟩;have hl:=C8u a b i k
  have:=L9
  have:=A01
  have:=R7
  have:=N2
  have:=A9q;dsimp only
  (simp(maxSteps:=1000000) only[go_sem])
  repeat' (first |((with_reducible refine And.intro ?_ ?_);focus (exact K1)) |((with_reducible refine it_ (λhc_=> ?_) (λhc_=> ?_)) <;> (have hd_:=hc_)) |(with_reducible refine gd_ ?_;with_reducible refine A0 (by apply_assumption <;> first |exact K1 |(apply_assumption <;> first |assumption |exact K1)) rfl ?_;(simp(maxSteps:=1000000) only[go_sem])))
  ·have hk1:k<(clV a b i).length:=o_
   refine B5 [false,false,false,false,true,true] [(1,416),(2,417),(3,418),(4,1000)] (E8r (clN a i) ((clV a b i).getD k dF_).eU (IntKind.i64.wrap (0-M1 (D2 (clD a i ((clV a b i).getD k dF_)) b.radius))) (sat (sat (clD a i ((clV a b i).getD k dF_))-sat b.radius)) (IntKind.i64.wrap (IntKind.i64.wrap (IntKind.i64.wrap (64*i)+IntKind.i64.wrap (8*clJ a b i))+((clV a b i).getD k dF_).ID)) (itr (clS a b i) k []) o_) (by simp[bL]) (by simp[bL]) g_ g_ ?_;rw[show A7e (clN a i) (itr (clS a b i) k []) ((clV a b i).getD k dF_).eU (IntKind.i64.wrap (0-M1 (D2 (clD a i ((clV a b i).getD k dF_)) b.radius))) (sat (sat (clD a i ((clV a b i).getD k dF_))-sat b.radius)) (IntKind.i64.wrap (IntKind.i64.wrap (IntKind.i64.wrap (64*i)+IntKind.i64.wrap (8*clJ a b i))+((clV a b i).getD k dF_).ID))=itr (clS a b i) (k+1) []from rfl];refine st_ ?_;refine A8 ⟨k+1,o_⟩ (by show(clV a b i).length-(k+1)<(clV a b i).length-k;omega) (A9 [] [] ?_);refine st_ ?_;exact wo_
  ·obtain rfl:k=(clV a b i).length:=o_
   have he:itr (clS a b i) (clV a b i).length []= []:=List.eq_nil_of_length_eq_zero hL;simp only[he,List.length_nil];have hf:=C0r (clN a i);refine B5 [true] [(1,416),(2,417),(3,418),(4,1000)] hf (by simp[bL]) (by simp[bL]) g_ g_ ?_;simp only[go_sem,go_sem_proc]
def B3p(m:cL):cL:=(⟨(⟨(IntKind.i64.wrap (0-m.dG.X)),(IntKind.i64.wrap (0-m.dG.Y))⟩:cI),m.cQ⟩:cL)
theorem D30(m:cL)(h0:m.cQ.length<=1048576):cA_ 391 [.agg m.enc] [] (.agg (B3p m).enc) []:=by
 refine M3 16 [(2,some (some 3))] hm A6 Tryz.func391 rfl ?_;have:=B2s
 have:=B3p.eq_1 m;exact K2
def X3(m:cL)(ok:Bool):cL×Bool:=if ok=false then(((⟨(⟨0,0⟩:cI),([]:List cN)⟩:cL),false))else(let v1:=(B3p m);(v1,true))
theorem B0a(m:cL)(ok:Bool)(h0:m.cQ.length<=1048576):cA_ 252 [.agg m.enc,sB ok] [] (.tup [.agg (X3 m ok).1.enc,sB ((X3 m ok).2)]) []:=by
 refine S3 11 [(4,some (some 3)),(5,none)] hm A6 Tryz.func252 rfl ?_;have:=D30
 have:=X3.eq_1 m ok;exact K2
theorem D6p(a b:List cI): ∀n,(n=0->(itr (R3 a b) n (-1,0)).1= -1)/\(0<n->0<=(itr (R3 a b) n (-1,0)).1/\(itr (R3 a b) n (-1,0)).1<n)
 |0=>⟨λ_=>rfl,λh=>absurd h o_⟩
 |n+1=>by
  have ih:=D6p a b n;refine⟨λh=>absurd h o_,λ_=> ?_⟩;rw[H7];generalize itr (R3 a b) n (-1,0)=s at*;unfold R3;simp only;split
  ·constructor <;> simp <;> omega
  ·rename_i h;simp only[zy,zk,qy]at h;rcases yk n with h0 |h0
   ·have:=ih.1 h0;omega
   ·have:=ih.2 h0;constructor <;> simp <;> omega
theorem C6t(a b:List cI)(ha:2<=a.length)(hb:1<=b.length):0<=(E0 a b).1/\(E0 a b).1<a.length:=by unfold E0;rw[zb (by simp only[zy,zk,qc,qy];omega)];exact(D6p a b a.length).2 o_
def C8c(a b:dI)(i:Int):cL×Bool:=if(clL a b i).length=0 then(⟨⟨0,0⟩,[]⟩,false)else(⟨clN a i,clL a b i⟩,true)
def B3l(p:cN):cN:=⟨p.eU,p.eZ,IntKind.i64.wrap (p.ID+4096),p.eL,p.eS⟩
def D9a(l:List cN):List cN:=itr (λi s=>s.set i (B3l (s.getD i dF_))) l.length l
def N0(a b:dI):cL×Bool:=
 let ig:=E0 a.core b.core
 let kh:=E0 b.core a.core
 if 1024<sat (sat (sat (sat (if ig.2<kh.2 then kh.2 else ig.2)-sat a.radius))-sat b.radius)then(⟨⟨0,0⟩,[]⟩,false)
 else if kh.2<=D2 ig.2 64 then C8c a b ig.1
 else if(clL b a kh.1).length=0 then(⟨⟨0,0⟩,[]⟩,false)else X3 ⟨clN b kh.1,D9a (clL b a kh.1)⟩ true
theorem B9o(a b:dI)(ha:2<=a.core.length)(hb:2<=b.core.length)(ha8:a.core.length<=1048576)(hb8:b.core.length<=1048576):cA_ 253 [.agg a.enc, .agg b.enc] [] (.tup [.agg (N0 a b).1.enc,sB ((N0 a b).2)]) []:=by
 refine S3 78 [(4,some (some 3)),(5,none)] hm A6 Tryz.func253 rfl ?_;have:=B42
 have:=R7
 have:=N2
 (simp(maxSteps:=1000000) only[go_sem])
 repeat' (first |((with_reducible refine it_ (λhc_=> ?_) (λhc_=> ?_)) <;> (have hd_:=hc_)) |(with_reducible refine gd_ ?_;with_reducible refine A0 (by apply_assumption <;> exact K1) rfl ?_;(simp(maxSteps:=1000000) only[go_sem])))
 ·have e:N0 a b=(⟨⟨0,0⟩,[]⟩,false):=by
   unfold N0;simp only;rw[zc (by assumption)]
  rw[e];exact⟨⟨rfl,rfl,G5 rfl⟩,rfl⟩
 ·have e:N0 a b=C8c a b (E0 a.core b.core).1:=by
   unfold N0;simp only;rw[zb (by assumption),zc (by assumption)]
  have hr:=C6t a.core b.core ha o_;rw[e];generalize(E0 a.core b.core).1=i at*;by_cases hL:(clL a b i).length=0
  ·rw[show C8c a b i=(⟨⟨0,0⟩,[]⟩,false)from zc hL];refine A0 (C0n a b i hr ha8 hb8 hL) rfl ?_;simp only[go_sem,go_sem_proc]
  ·rw[show C8c a b i=(⟨clN a i,clL a b i⟩,true)from zb hL];refine B5 [false,false,false] [(1,768)] (C0o a b i hr ha8 hb8 o_) p_ p_ p_ p_ ?_;simp only[go_sem,go_sem_proc]
 ·have hr:=C6t b.core a.core hb o_
  have e:N0 a b=if(clL b a (E0 b.core a.core).1).length=0 then(⟨⟨0,0⟩,[]⟩,false)else X3 ⟨clN b (E0 b.core a.core).1,D9a (clL b a (E0 b.core a.core).1)⟩ true:=by unfold N0;simp only;rw[zb (by assumption),zb (by assumption)]
  rw[e];generalize(E0 b.core a.core).1=k at*;by_cases hL:(clL b a k).length=0
  ·rw[zc hL];refine A0 (C0n b a k hr hb8 ha8 hL) rfl (st_ ?_);refine B1 hm (ι:=Unit) (λ_=> [(4, .cA, .ptr 80 0 0 1),(5, .cA,sB false),(10, .cA, .ptr 176 0 0 1),(11, .cA,sB false),(59, .cA,sI 0),(60, .cA,sI 0)]) (λ_=> [(80, .box [sI 0,sI 0, .sc (.slice none 0 0)]),(176, .box [sI 0,sI 0, .dsl 6 0 (I9 cN.enc dF_ [])])]) (λ_=>0) () ?_ ?_
   ·refine A9 [] [] ?_;simp only[go_sem,go_sem_proc]
   ·intro _;refine st_ ?_;rw[zb (by decide)];refine A0 (B0a ⟨⟨0,0⟩,[]⟩ false p_) rfl ?_;rw[show X3 ⟨⟨0,0⟩,[]⟩ false=(⟨⟨0,0⟩,[]⟩,false)from rfl];simp only[go_sem,go_sem_proc]
  ·rw[zb hL];refine B5 [false,false,false] [(1,880)] (C0o b a k hr hb8 ha8 o_) p_ p_ p_ p_ (st_ ?_);unfold D9a;generalize hl:clL b a k=l at*;have hB: ∀j,(itr (λi (s:List cN)=>s.set i (B3l (s.getD i dF_))) j l).length=l.length:=λj=>U2 (λs:List cN=>s.length) (λi s=>by simp) j l;refine B1 hm (ι:= {j:Nat // j<=l.length}) (λj=> [(4, .cA, .ptr 80 0 0 1),(5, .cA,sB false),(10, .cA, .ptr 176 0 0 1),(11, .cA,sB true),(59, .cA,sI (l.length:Int)),(60, .cA,sI (j.1:Int))])
    (λj=> [(80, .box [sI 0,sI 0, .sc (.slice none 0 0)]),(176, .box [sI ((clN b k).X),sI ((clN b k).Y), .sl 880 0 (itr (λi (s:List cN)=>s.set i (B3l (s.getD i dF_))) j.1 l).length (itr (λi (s:List cN)=>s.set i (B3l (s.getD i dF_))) j.1 l).length]),(880, .arr 6 (B0 cN.enc dF_ (itr (λi (s:List cN)=>s.set i (B3l (s.getD i dF_))) j.1 l)))]) (λj=>l.length-j.1) ⟨0,o_⟩ ?_ ?_
   ·refine A9 [] [] ?_;simp only[G9,go_sem,go_sem_proc]
   ·rintro⟨j,hj⟩;have hBj:=hB j
    have hn1:itr (λi (s:List cN)=>s.set i (B3l (s.getD i dF_))) (j+1) l=(itr (λi (s:List cN)=>s.set i (B3l (s.getD i dF_))) j l).set j (B3l ((itr (λi (s:List cN)=>s.set i (B3l (s.getD i dF_))) j l).getD j dF_)):=rfl
    have hl8:l.length<=2:=by rw[<-hl];exact qd (C8u b a k _) (C8v b a k)
    dsimp only
    (simp(maxSteps:=1000000) only[go_sem];try(simp(disch:=(omega)) only[N4];try simp(maxSteps:=1000000) only[go_sem]))
    repeat' (first |((with_reducible refine And.intro ?_ ?_);focus (exact K1)) |((with_reducible refine it_ (λhc_=> ?_) (λhc_=> ?_)) <;> (have hd_:=hc_)))
    ·refine A8 ⟨j+1,o_⟩ (by show l.length-(j+1)<l.length-j;omega) (A9 [] [] ?_);simp only[hn1,go_sem,go_sem_proc];refine⟨?_,?_⟩ <;> first |(rw[IntKind.wrap_i64];omega) |exact A32 rfl
    ·obtain rfl:j=l.length:=o_
     refine J5 (cs:= [.agg (⟨clN b k,itr (λi (s:List cN)=>s.set i (B3l (s.getD i dF_))) l.length l⟩:cL).enc,sB true]) (by simp only[hBj,go_sem,go_sem_proc];rfl) trivial (B0a ⟨clN b k,itr (λi (s:List cN)=>s.set i (B3l (s.getD i dF_))) l.length l⟩ true (by rw[hBj];omega)) ?_;simp only[go_sem,go_sem_proc]
theorem D6u(s:Shape)(t:cJ):F9 s=0->1<=(L6 s t).core.length/\((L6 s t).kind=1->(L6 s t).core.length=1)/\((L6 s t).kind=2->(L6 s t).core.length=2)/\((L6 s t).kind≠1->(L6 s t).kind≠2->3<=(L6 s t).core.length)/\(L6 s t).core.length<=8:=λh=>D0f s t h
theorem D0l(n p:cI)(d s i:Int):(A7e n [] p d s i).length<=1:=by unfold A7e;split <;> simp
theorem E8m(a b:dI):(J8 a b).1.cQ.length<=1:=by
 unfold J8;simp only
 (repeat' split) <;> first |exact zm _ |exact D0l _ _ _ _ _
def A0m(a:Shape)(ta:cJ)(b:Shape)(tb:cJ):cL×Bool:=let v1:=(F9 a);let v2:=(F9 b);if((v1 != 0)||(v2 != 0))=true then(((⟨(⟨0,0⟩:cI),([]:List cN)⟩:cL),false))else(let v3:=(L6 a ta);let v4:=(L6 b tb);if((v3.kind != 3)&&(v4.kind != 3))=true then(let v5:=(V7 v3 v4);(v5.1,v5.2))else(if(v4.kind==1)=true then(let v6:=(J8 v3 v4);(v6.1,v6.2))else(if(v3.kind==1)=true then(let v7:=(J8 v4 v3);let v8:=(X3 v7.1 v7.2);(v8.1,v8.2))else(let v9:=(N0 v3 v4);(v9.1,v9.2)))))
theorem C7k(a:Shape)(ta:cJ)(b:Shape)(tb:cJ)(h0:a.cK.length<=1048576)(h1:b.cK.length<=1048576):cA_ 155 [.agg a.enc, .agg ta.enc, .agg b.enc, .agg tb.enc] [] (.tup [.agg (A0m a ta b tb).1.enc,sB ((A0m a ta b tb).2)]) []:=by
 refine S3 67 [(8,some (some 3)),(9,none)] hm A6 Tryz.func155 rfl ?_;have:=D6u a ta
 have:=D6u b tb
 have:=A11
 have:=D16
 have:=B9p
 have:=E8m (L6 a ta) (L6 b tb)
 have:=B3e
 have:=E8m (L6 b tb) (L6 a ta)
 have:=B0a
 have:=B9o
 have:=A0m.eq_1 a ta b tb;exact K2
def B3u(w:Api.World)(id:Int):Int:=A3u dF_ (λj:cF=>j.ID==id) w.cD
theorem C4i(id:Int)(b:cF):cA_ 412 [.agg b.enc, .ptr 1 0 0 1] [(1, .box [sI id])] (sB (b.ID==id)) [(1, .box [sI id])]:=by refine I6 hm A6 Tryz.func412 rfl rfl (st_ ?_);refine B8 [.cA] [] [] ?_;simp only[go_sem,go_sem_proc]
theorem A7v(w:Api.World)(id:Int)(hw:w.cD.length<=1048576):cA_ 289 [.agg w.enc,sI id] [] (sI (B3u w id)) []:=by refine I6 hm A6 Tryz.func289 rfl rfl (st_ ?_);refine B5 [true,true] [(1,64)] (B0b w.cD 412 [] [.ptr 1 0 0 1] [(1, .box [sI id])] (λb=>b.ID==id) o_ (E78 id) g_ (λb _=>C4i id b)) p_ p_ p_ g_ (st_ ?_);refine B8 [.cA] [] [] (st_ ?_);rfl
def C54(a b:Int)(j:cF):Bool:= !j.cZ&&((a==j.cU&&b==j.cV)||(a==j.cV&&b==j.cU))
theorem F3v(a b:Int):okO [(1, .box [sI a,sI b])]:=by refine⟨g_,?_⟩;simp[go_sem]
theorem B7y(a b:Int)(j:cF):cA_ 470 [.agg j.enc, .ptr 1 0 0 1] [(1, .box [sI a,sI b])] (sB (C54 a b j)) [(1, .box [sI a,sI b])]:=by
 refine I6 hm A6 Tryz.func470 rfl rfl (st_ ?_);cases hc:j.cZ with
 |true=>refine st_ ?_;refine B8 [.cA] [] [] (st_ ?_);simp[C54,hc]
 |false=>refine st_ ?_;refine B8 [.cA] [] [] (st_ ?_);simp[C54,hc]
theorem B1s(l:List cF)(a b:Int)(hl:l.length<=1048576):cA_ 371 [A4 24 cF.enc dF_ l,sI a,sI b] [] (sB (l.any (C54 a b))) []:=by refine I6 hm A6 Tryz.func371 rfl rfl (st_ ?_);refine B5 [true,true] [(1,128)] (B6l l 470 [] [.ptr 1 0 0 1] [(1, .box [sI a,sI b])] (C54 a b) o_ (F3v a b) g_ (λj _=>B7y a b j)) p_ p_ p_ g_ (st_ ?_);refine B8 [.cA] [] [] ?_;simp only[go_sem,go_sem_proc]
end Go.Abs
end
noncomputable section
namespace Go.Abs
open Go.Proofs
open Api
end Go.Abs
namespace Go.Api
open Go.Abs
structure Input where
 cS:Int
 ID:Int
 cI:cI
 Value:Int
 cE:cE
 cF:cF
 deriving DecidableEq,Inhabited
def Input.enc(x:Input):List AV:=[sI x.cS,sI x.ID,sI x.cI.X,sI x.cI.Y,sI x.Value,sI x.cE.ID,sI x.cE.cS,sI x.cE.cJ.dY.X,sI x.cE.cJ.dY.Y,sI x.cE.cJ.eT,sI x.cE.dO.X,sI x.cE.dO.Y,sI x.cE.dA,sI x.cE.fF.X,sI x.cE.fF.Y,sI x.cE.fG,sI x.cE.eC,sI x.cE.dX,sI x.cE.eF,sB x.cE.fH,sB x.cE.eE,sB x.cE.fD,sB x.cE.eX,sI x.cE.eM,A4 10 cY.enc dF_ x.cE.cH,sI x.cF.ID,sI x.cF.cS,sI x.cF.cU,sI x.cF.cV,sI x.cF.dP.X,sI x.cF.dP.Y,sI x.cF.dL.X,sI x.cF.dL.Y,sI x.cF.eN.X,sI x.cF.eN.Y,sI x.cF.cW,sB x.cF.dD,sI x.cF.dQ,sI x.cF.dS,sB x.cF.dF,sI x.cF.dN,sI x.cF.dR,sI x.cF.dB,sI x.cF.dH,sB x.cF.cZ,sI x.cF.cP.I0,sI x.cF.cP.I1,sI x.cF.cP.I2,sI x.cF.cP.I3]
def Input.zero:List AV:= [sI 0,sI 0,sI 0,sI 0,sI 0,sI 0,sI 0,sI 0,sI 0,sI 0,sI 0,sI 0,sI 0,sI 0,sI 0,sI 0,sI 0,sI 0,sI 0,sB false,sB false,sB false,sB false,sI 0, .sc (.slice none 0 0),sI 0,sI 0,sI 0,sI 0,sI 0,sI 0,sI 0,sI 0,sI 0,sI 0,sI 0,sB false,sI 0,sI 0,sB false,sI 0,sI 0,sI 0,sI 0,sB false,sI 0,sI 0,sI 0,sI 0]
attribute [go_sem] Input.enc Input.zero
@[go_sem] theorem F83(x:Input):Input.mk x.cS x.ID x.cI x.Value x.cE x.cF=x:=rfl
structure B0m where
 cS:Int
 gD:cI
 To:cI
 fX:Int
 Input:Input
 deriving DecidableEq,Inhabited
def B0m.enc(x:B0m):List AV:=[sI x.cS,sI x.gD.X,sI x.gD.Y,sI x.To.X,sI x.To.Y,sI x.fX,sI x.Input.cS,sI x.Input.ID,sI x.Input.cI.X,sI x.Input.cI.Y,sI x.Input.Value,sI x.Input.cE.ID,sI x.Input.cE.cS,sI x.Input.cE.cJ.dY.X,sI x.Input.cE.cJ.dY.Y,sI x.Input.cE.cJ.eT,sI x.Input.cE.dO.X,sI x.Input.cE.dO.Y,sI x.Input.cE.dA,sI x.Input.cE.fF.X,sI x.Input.cE.fF.Y,sI x.Input.cE.fG,sI x.Input.cE.eC,sI x.Input.cE.dX,sI x.Input.cE.eF,sB x.Input.cE.fH,sB x.Input.cE.eE,sB x.Input.cE.fD,sB x.Input.cE.eX,sI x.Input.cE.eM,A4 10 cY.enc dF_ x.Input.cE.cH,sI x.Input.cF.ID,sI x.Input.cF.cS,sI x.Input.cF.cU,sI x.Input.cF.cV,sI x.Input.cF.dP.X,sI x.Input.cF.dP.Y,sI x.Input.cF.dL.X,sI x.Input.cF.dL.Y,sI x.Input.cF.eN.X,sI x.Input.cF.eN.Y,sI x.Input.cF.cW,sB x.Input.cF.dD,sI x.Input.cF.dQ,sI x.Input.cF.dS,sB x.Input.cF.dF,sI x.Input.cF.dN,sI x.Input.cF.dR,sI x.Input.cF.dB,sI x.Input.cF.dH,sB x.Input.cF.cZ,sI x.Input.cF.cP.I0,sI x.Input.cF.cP.I1,sI x.Input.cF.cP.I2,sI x.Input.cF.cP.I3]
def B0m.zero:List AV:= [sI 0,sI 0,sI 0,sI 0,sI 0,sI 0,sI 0,sI 0,sI 0,sI 0,sI 0,sI 0,sI 0,sI 0,sI 0,sI 0,sI 0,sI 0,sI 0,sI 0,sI 0,sI 0,sI 0,sI 0,sI 0,sB false,sB false,sB false,sB false,sI 0, .sc (.slice none 0 0),sI 0,sI 0,sI 0,sI 0,sI 0,sI 0,sI 0,sI 0,sI 0,sI 0,sI 0,sB false,sI 0,sI 0,sB false,sI 0,sI 0,sI 0,sI 0,sB false,sI 0,sI 0,sI 0,sI 0]
attribute [go_sem] B0m.enc B0m.zero
@[go_sem] theorem F77(x:B0m):B0m.mk x.cS x.gD x.To x.fX x.Input=x:=rfl
end Go.Api
namespace Go.Abs
open Go.Proofs Api
end Go.Abs
end
noncomputable section
namespace Go.Abs
open Go.Proofs
open Api
structure I4 where
 body:Int
 fixture:Int
 deriving DecidableEq,Inhabited
def I4.enc(x:I4):List AV:=[sI x.body,sI x.fixture]
def I4.zero:List AV:= [sI 0,sI 0]
attribute [go_sem] I4.enc I4.zero
@[go_sem] theorem D74(x:I4):I4.mk x.body x.fixture=x:=rfl
structure cO where
 ID:Int
 eV:fL
 deriving DecidableEq,Inhabited
def cO.enc(x:cO):List AV:=[sI x.ID,sI x.eV.fV.X,sI x.eV.fV.Y,sI x.eV.fY.X,sI x.eV.fY.Y]
def cO.zero:List AV:= [sI 0,sI 0,sI 0,sI 0,sI 0]
attribute [go_sem] cO.enc cO.zero
@[go_sem] theorem F5o(x:cO):cO.mk x.ID x.eV=x:=rfl
structure fJ where
 cE:Int
 cY:Int
 eV:fL
 deriving DecidableEq,Inhabited
def fJ.enc(x:fJ):List AV:=[sI x.cE,sI x.cY,sI x.eV.fV.X,sI x.eV.fV.Y,sI x.eV.fY.X,sI x.eV.fY.Y]
def fJ.zero:List AV:= [sI 0,sI 0,sI 0,sI 0,sI 0,sI 0]
attribute [go_sem] fJ.enc fJ.zero
@[go_sem] theorem E5l(x:fJ):fJ.mk x.cE x.cY x.eV=x:=rfl
structure eY where
 bodies:List cE
 joints:List cF
 refs:List I4
 entries:List cO
 deriving DecidableEq,Inhabited
def eY.enc(x:eY):List AV:=[A4 20 cE.enc dF_ x.bodies,A4 24 cF.enc dF_ x.joints,A4 2 I4.enc dF_ x.refs,A4 5 cO.enc dF_ x.entries]
def eY.zero:List AV:= [.sc (.slice none 0 0), .sc (.slice none 0 0), .sc (.slice none 0 0), .sc (.slice none 0 0)]
attribute [go_sem] eY.enc eY.zero
@[go_sem] theorem E5m(x:eY):eY.mk x.bodies x.joints x.refs x.entries=x:=rfl
def A2r(b:cE)(i:Int):fJ:=let v1:=(B5b (b.cH.getD i.toNat dF_).Shape b.cJ);let v2:=(B6y v1 1024);(⟨b.ID,i,v2⟩:fJ)
theorem C69(b:cE)(i:Int)(hi:0<=i/\i<b.cH.length)(h0: ∀f∈b.cH,f.Shape.cK.length<=1048576):cA_ 365 [.agg b.enc,sI i] [] (.agg (A2r b i).enc) []:=by
 refine M3 19 [(4,some (some 6))] hm A6 Tryz.func365 rfl ?_;have:=h0 _ (B6 (l:=b.cH) (i:=i.toNat) dF_ o_)
 have:=D5z
 have:=D7o
 have:=A2r.eq_1 b i;exact K2
def A4h(s:eY)(x:I4)(y:I4):cR:=if(s.bodies.getD y.body.toNat dF_).ID<(s.bodies.getD x.body.toNat dF_).ID then((⟨(s.bodies.getD y.body.toNat dF_).ID,y.fixture,(s.bodies.getD x.body.toNat dF_).ID,x.fixture⟩:cR))else((⟨(s.bodies.getD x.body.toNat dF_).ID,x.fixture,(s.bodies.getD y.body.toNat dF_).ID,y.fixture⟩:cR))
theorem C1c(s:eY)(x:I4)(y:I4)(hx:0<=x.body/\x.body<s.bodies.length)(hy:0<=y.body/\y.body<s.bodies.length):cA_ 245 [.agg s.enc, .agg x.enc, .agg y.enc] [] (.agg (A4h s x y).enc) []:=by refine M3 40 [(6,some (some 4))] hm A6 Tryz.func245 rfl ?_;have:=A4h.eq_1 s x y;exact K2
def A06(s:eY)(x:I4)(y:I4):Bool:=let v1:=(A05 ((s.bodies.getD x.body.toNat dF_).cH.getD x.fixture.toNat dF_) ((s.bodies.getD y.body.toNat dF_).cH.getD y.fixture.toNat dF_));let v2:=(s.joints.any (C54 (s.bodies.getD x.body.toNat dF_).ID (s.bodies.getD y.body.toNat dF_).ID));((((((s.bodies.getD x.body.toNat dF_).cS==3)||((s.bodies.getD y.body.toNat dF_).cS==3))&&(x.body != y.body))&&v1)&&(!v2))
theorem B67(s:eY)(x:I4)(y:I4)(hx:0<=x.body/\x.body<s.bodies.length)(hy:0<=y.body/\y.body<s.bodies.length)(hxf:0<=x.fixture/\x.fixture<(s.bodies.getD x.body.toNat dF_).cH.length)(hyf:0<=y.fixture/\y.fixture<(s.bodies.getD y.body.toNat dF_).cH.length)(h0:s.joints.length<=1048576):cA_ 244 [.agg s.enc, .agg x.enc, .agg y.enc] [] (sB (A06 s x y)) []:=by
 refine en1 hm A6 Tryz.func244 rfl rfl ?_;have:=A83
 have:=B1s
 have:=A06.eq_1 s x y;exact K2
def I7(w:Api.World)(id:Int)(n:Int):cY×cJ×Bool:=let v1:=(H5 w id);if(((decide (v1<0))||(decide (n<0)))||(decide (((w.cC.getD v1.toNat dF_).cH.length:Int)<=n)))=true then(((⟨(⟨0,0,([]:List cI)⟩:Shape),0,0,0,false,0,0,0⟩:cY),(⟨(⟨0,0⟩:cI),0⟩:cJ),false))else((((w.cC.getD v1.toNat dF_).cH.getD n.toNat dF_),(w.cC.getD v1.toNat dF_).cJ,true))
theorem B2q(w:Api.World)(id:Int)(n:Int)(h0:w.cC.length<=1048576):cA_ 154 [.agg w.enc,sI id,sI n] [] (.tup [.agg (I7 w id n).1.enc, .agg (I7 w id n).2.1.enc,sB ((I7 w id n).2.2)]) []:=by
 refine S3 47 [(6,some (some 10)),(7,some (some 3)),(8,none)] hm A6 Tryz.func154 rfl ?_;have:=A3e w id
 have:=T1
 have:=I7.eq_1 w id n;exact K2
def A3x(n:Int):Bool:=((decide ((-536870911)<=n))&&(decide (n<=536870911)))
theorem C5g(n:Int):cA_ 212 [sI n] [] (sB (A3x n)) []:=by refine en1 hm A6 Tryz.func212 rfl rfl ?_;have:=A3x.eq_1 n;exact E7
def A2d(b:cE)(x:Api.Input):Int:=if(x.cS==4)=true then(let v1:=(A7p (⟨x.cI,x.Value⟩:cJ));if v1=false then(6)else(0))else(if(x.cS==5)=true then(if(b.cS==1)=true then(10)else(0))else(if(b.cS != 3)=true then(10)else(0)))
theorem B7f(b:cE)(x:Api.Input):cA_ 292 [.agg b.enc, .agg x.enc] [] (sI (A2d b x)) []:=by
 refine en1 hm A6 Tryz.func292 rfl rfl ?_;have:=λx1 x2 x3=>cx_ (B1g ⟨⟨x1,x2⟩,x3⟩)
 have:=B1g
 have:=A2d.eq_1 b x;exact K2
def M8(l:List Int)(n:Int)(i1:Nat)(s1:Int):(Int) ⊕ (Bool):=if((decide ((l.getD i1 0)<=s1))||(decide (n<=(l.getD i1 0))))=true then(.inr false)else(.inl (l.getD i1 0))
def T0(l:List Int)(n:Int):Bool:=(match I8 (M8 l n) l.length (-1)with | .inr r=>r | .inl s1=>true)
theorem A39(l:List Int)(n:Int)(h0:l.length<=1048576):cA_ 177 [A4 1 C8 0 l,sI n] [] (sB (T0 l n)) []:=by
 refine en1 hm A6 Tryz.func177 rfl rfl ?_;have:=T0.eq_1 l n
 have:=λi_ s_=>M8.eq_1 l n i_ s_
 have:=λx_ Q_ σ_=> @lp_ Tryz.prog Tryz.f177.ntmps [] x_ Q_ σ_ hm (IE (M8 l n) (-1)) (λ_=>True) l.length (λi_=> [(1, .cA,sI n),(5, .cA,sI (stE (M8 l n) i_ (-1))),(8, .cA,A4 1 C8 0 l),(9, .cA,sI (l.length:Int)),(10, .cA,sI (i_:Int))]) (λi_=> []) [] rfl (λ_ _=>trivial) g_ g_ g_;exact K2
def A4u(j:cF):Int:=if(j.cS==1)=true then((if(sat j.cP.I0)<(IntKind.i64.wrap (0-(sat j.cP.I0)))then(IntKind.i64.wrap (0-(sat j.cP.I0)))else(sat j.cP.I0)))else(let v2:=(A97 (⟨(sat j.cP.I0),j.cP.I1⟩:cI));v2)
theorem B6g(j:cF):cA_ 334 [.agg j.enc] [] (sI (A4u j)) []:=by
 refine en1 hm A6 Tryz.func334 rfl rfl ?_;have:=λx1 x2=>cx_ (W6 ⟨x1,x2⟩)
 have:=L7
 have:=W6
 have:=A4u.eq_1 j;exact E7
def A6v(j:cF)(d:Int):Bool:=let v1:=(A4u j);let v2:=(C6 j.dH d);((decide (0<j.dH))&&(decide (v2<v1)))
theorem C7j(j:cF)(d:Int):cA_ 204 [.agg j.enc,sI d] [] (sB (A6v j d)) []:=by
 refine en1 hm A6 Tryz.func204 rfl rfl ?_;have:=B6g
 have:=M2
 have:=A6v.eq_1 j d;exact E7
def A6g(a0:Int)(a1:Int)(a2:Int):Int:=if(a0==a2)=true then(a1)else(a0)
theorem C5b(a0:Int)(a1:Int)(a2:Int):cA_ 283 [sI a0,sI a1,sI a2] [] (sI (A6g a0 a1 a2)) []:=by refine en1 hm A6 Tryz.func283 rfl rfl ?_;have:=A6g.eq_1 a0 a1 a2;exact E7
theorem B51(k k':List Int)(v:AV): ∀es:List (List Int×AV),A3f (A66 es k v) k'=if k'==k then some v else A3f es k'
 | []=>rfl
 |(z,u)::r=>by
  have ih:=B51 k k' v r;simp only[A66];cases hz:k==z with
  |true=>
   have e:k=z:=by simpa using hz
   subst e;simp only[zL,A3f];cases h:k'==k <;> simp
  |false=>
   simp only[zf,zJ,A3f,ih];cases h:k'==z with
   |true=>
    have e:k'=z:=by simpa using h
    subst e;have:(k'==k)=false:=by
     cases h2:k'==k with
     |false=>rfl
     |true=>
      have e2:k'=k:=by simpa using h2
      subst e2;rw[h]at hz;cases hz
    simp[this]
   |false=>simp
def A7j(k:cR):List Int:= [k.cU,k.dM,k.cV,k.dJ]
theorem F0p {a b:cR}(h:A7j a=A7j b):a=b:=by obtain⟨a1,a2,a3,a4⟩:=a;obtain⟨b1,b2,b3,b4⟩:=b;simp only[A7j,xh,qV]at h;obtain⟨rfl,rfl,rfl,rfl⟩:=h;rfl
theorem D96(a b:cR):(A7j a==A7j b)=decide (a=b):=by
 by_cases h:a=b
 ·subst h;simp
 ·rw[zp h];cases h2:A7j a==A7j b with
  |false=>rfl
  |true=>exact absurd (F0p (by simpa using h2)) h
def A62(l:List cX)(k:cR):Nat->Option Nat
 |0=>none
 |n+1=>match A62 l k n with
  |some i=>some i
  |none=>if(l.getD n dF_).dU=k then some n else none
theorem C6d {l:List cX}{k:cR}: ∀ {n i:Nat},A62 l k n=some i->i<n/\(l.getD i dF_).dU=k
 |0,i,h=>by cases h
 |n+1,i,h=>by
  simp only[A62]at h;split at h
  ·rename_i j hj;injection h with h;subst h;have:=C6d hj;exact⟨o_,this.2⟩
  ·split at h
   ·rename_i he;injection h with h;subst h;exact⟨o_,he⟩
   ·cases h
def ibk(l:List cX):Nat->List (List Int×AV)
 |0=> []
 |n+1=>if(A3f (ibk l n) (A7j (l.getD n dF_).dU)).isSome=true then ibk l n else A66 (ibk l n) (A7j (l.getD n dF_).dU) (sI (n:Nat))
theorem E3r(l:List cX)(k:cR): ∀n,A3f (ibk l n) (A7j k)=(A62 l k n).map λi=> .sc (.int .i64 (i:Nat))
 |0=>rfl
 |n+1=>by
  have ih:=E3r l k n;simp only[ibk,A62];by_cases he:(l.getD n dF_).dU=k
  ·subst he;rw[ih];cases hf:A62 l (l.getD n dF_).dU n with
   |some i=>simp only[Option.map_some,Option.isSome_some,zL,ih,hf]
   |none=>simp only[Option.map_none,Option.isSome_none,zf,zJ,B51,beq_self_eq_true,zL,Option.map_some]
  ·have hne:(A7j k==A7j (l.getD n dF_).dU)=false:=by rw[D96,zp (λe=>he e.symm)]
   have hx:A3f (if(A3f (ibk l n) (A7j (l.getD n dF_).dU)).isSome=true then ibk l n else A66 (ibk l n) (A7j (l.getD n dF_).dU) (sI (n:Nat))) (A7j k)=A3f (ibk l n) (A7j k):=by
    split
    ·rfl
    ·rw[B51,hne];rfl
   rw[hx,ih,zb he];cases A62 l k n <;> rfl
end Go.Abs
end
noncomputable section
namespace Go.Abs
open Go.Proofs
open Api
end Go.Abs
namespace Go.Api
open Go.Abs
structure Event where
 cS:Int
 dU:cR
 deriving DecidableEq,Inhabited
def Event.enc(x:Event):List AV:=[sI x.cS,sI x.dU.cU,sI x.dU.dM,sI x.dU.cV,sI x.dU.dJ]
def Event.zero:List AV:= [sI 0,sI 0,sI 0,sI 0,sI 0]
attribute [go_sem] Event.enc Event.zero
@[go_sem] theorem F82(x:Event):Event.mk x.cS x.dU=x:=rfl
end Go.Api
namespace Go.Abs
open Go.Proofs Api
attribute [go_sem] B5y
theorem B4a(l:List cX)(hl:l.length<=1048576):cA_ 152 [A4 7 cX.enc dF_ l] [] (.mp 1) [(1, .mapS 4 (ibk l l.length))]:=by
 refine I6 hm A6 Tryz.func152 rfl rfl (st_ ?_);refine B1 hm (ι:= {i:Nat // i<=l.length}) (λi=> [(3, .cA, .mp 1),(9, .cA,A4 7 cX.enc dF_ l),(10, .cA,sI l.length),(11, .cA,sI (i.1:Nat))]) (λi=> [(1, .mapS 4 (ibk l i.1))]) (λi=>l.length-i.1) ⟨0,zm _⟩ ?_ ?_
 ·refine A9 [(1,144)] [] (st_ ?_);exact eE_
 ·rintro⟨i,hi⟩;dsimp only;have hn:ibk l (i+1)=if(A3f (ibk l i) [(l.getD i dF_).dU.cU,(l.getD i dF_).dU.dM,(l.getD i dF_).dU.cV,(l.getD i dF_).dU.dJ]).isSome=true then ibk l i else A66 (ibk l i) [(l.getD i dF_).dU.cU,(l.getD i dF_).dU.dM,(l.getD i dF_).dU.cV,(l.getD i dF_).dU.dJ] (sI (i:Nat)):=rfl
  have hfin:l.length<=i->ibk l i=ibk l l.length:=λh=>by rw[show i=l.length by omega]
  generalize ibk l i=es at hn hfin⊢;refine st_ ?_;by_cases hlt:i<l.length
  ·rw[zc o_];refine⟨bE_,?_⟩;cases hf:A3f es [(l.getD i dF_).dU.cU,(l.getD i dF_).dU.dM,(l.getD i dF_).dU.cV,(l.getD i dF_).dU.dJ]with
   |none=>rw[hf]at hn;simp only[Option.isSome_none,zf,zJ]at hn;refine st_ ?_;refine A8 ⟨i+1,o_⟩ (by show l.length-(i+1)<l.length-i;omega) ?_;simp only[hn];refine A9 [] [] (st_ ?_);exact eE_
   |some v=>rw[hf]at hn;simp only[Option.isSome_some,zL]at hn;refine st_ ?_;refine A8 ⟨i+1,o_⟩ (by show l.length-(i+1)<l.length-i;omega) ?_;simp only[hn];refine A9 [] [] (st_ ?_);exact eE_
  ·rw[zb o_];rw[<-hfin o_];refine B8 [.cA] [] [] (st_ ?_);exact eE_
theorem C14 {α β:Type} [Inhabited α]{f:α->Option β}{l:List α}{i:Nat}(h:i<l.length):(l.take (i+1)).filterMap f=(l.take i).filterMap f++(f (l.getD i dF_)).toList:=by rw[K9 dF_ h,xc];congr 1
theorem C6f {α β:Type}{f:α->Option β}{l:List α}(i:Nat):((l.take i).filterMap f).length<=l.length:=qd (qC ..) (by rw[zt];omega)
theorem E7o(l:List cX)(k:cR):A3f (ibk l l.length) [k.cU,k.dM,k.cV,k.dJ]=(A62 l k l.length).map λi=> .sc (.int .i64 (i:Nat)):=E3r l k l.length
def evF(b:List cX)(kind:Int)(t:cX):Option Api.Event:=if(A62 b t.dU b.length).isSome=true then none else some ⟨kind,t.dU⟩
def C3g(a b:List cX)(kind:Int):List Api.Event:=a.filterMap (evF b kind)
theorem B23(a b:List cX)(kind:Int):(C3g a b kind).length<=a.length:=qC ..
theorem B40(a b:List cX)(kind:Int)(ha:a.length<=1048576)(hb:b.length<=1048576):cA_ 157 [A4 7 cX.enc dF_ a,A4 7 cX.enc dF_ b,sI kind] [] (.sl 1 0 (C3g a b kind).length (C3g a b kind).length) [(1, .arr 5 (B0 Api.Event.enc dF_ (C3g a b kind)))]:=by
 refine I6 hm A6 Tryz.func157 rfl rfl (st_ ?_);refine J5 ev_ K1 (B4a b hb) (st_ ?_);refine B1 hm (ι:= {i:Nat // i<=a.length}) (λi=> [(2, .cA,sI kind),(7, .cA, .mp 2),(8,mdA i.1, .sl 1 0 ((a.take i.1).filterMap (evF b kind)).length ((a.take i.1).filterMap (evF b kind)).length),(15, .cA,A4 7 cX.enc dF_ a),(16, .cA,sI a.length),(17, .cA,sI (i.1:Nat))]) (λi=> [(1, .arr 5 (B0 Api.Event.enc dF_ ((a.take i.1).filterMap (evF b kind)))),(2, .mapS 4 (ibk b b.length))]) (λi=>a.length-i.1) ⟨0,zm _⟩ ?_ ?_
 ·simp only[List.take_zero,List.filterMap_nil];refine A9 [(2,240)] [1] (st_ ?_);exact eE_
 ·rintro⟨i,hi⟩;dsimp only;have hn:i<a.length->(a.take (i+1)).filterMap (evF b kind)=(a.take i).filterMap (evF b kind)++(evF b kind (a.getD i dF_)).toList:=λh=>C14 h
  have hfin:a.length<=i->(a.take i).filterMap (evF b kind)=C3g a b kind:=λh=>by rw[show i=a.length by omega,zn];rfl
  have hlen:=C6f (f:=evF b kind) (l:=a) i;generalize(a.take i).filterMap (evF b kind)=v at hn hfin hlen⊢;refine st_ ?_;by_cases hlt:i<a.length
  ·rw[zc o_];refine⟨bE_,?_⟩;replace hn:=hn hlt;rw[show evF b kind (a.getD i dF_)=if(A62 b (a.getD i dF_).dU b.length).isSome=true then none else some ⟨kind,(a.getD i dF_).dU⟩from rfl]at hn;rw[E7o];cases hf:A62 b (a.getD i dF_).dU b.length with
   |none=>rw[hf]at hn;simp only[Option.isSome_none,zf,zJ,Option.toList]at hn;refine st_ ?_;refine⟨bE_,?_⟩;refine A8 ⟨i+1,o_⟩ (by show a.length-(i+1)<a.length-i;omega) ?_;simp only[hn];refine A9 [] [] (st_ ?_);exact eE_
   |some v=>rw[hf]at hn;simp only[Option.isSome_some,zL,Option.toList,qF]at hn;refine st_ ?_;refine A8 ⟨i+1,o_⟩ (by show a.length-(i+1)<a.length-i;omega) ?_;simp only[hn];refine A9 [] [] (st_ ?_);exact eE_
  ·rw[zb o_];rw[<-hfin o_];refine B8 [.cA] [] [] ?_;simp only[go_sem,go_sem_proc]
def B7s(old now:List cX):List Api.Event:=C3g now old 1++C3g old now 2
theorem D11(old now:List cX)(ho:old.length<=1048576)(hn:now.length<=1048576):cA_ 97 [A4 7 cX.enc dF_ old,A4 7 cX.enc dF_ now] [] (.sl 1 0 (B7s old now).length (B7s old now).length) [(1, .arr 5 (B0 Api.Event.enc dF_ (B7s old now)))]:=by
 have l1:=B23 now old 1
 have l2:=B23 old now 2;refine I6 hm A6 Tryz.func97 rfl rfl (st_ ?_);refine J5 ev_ K1 (B40 now old 1 hn ho) (st_ ?_);refine J5 ev_ K1 (B40 old now 2 ho hn) (st_ ?_);refine⟨bE_,?_⟩;unfold B7s;refine B8 [.cA] [(1,128)] [] (st_ ?_);exact eE_
end Go.Abs
end
noncomputable section
namespace Go.Abs
open Go.Proofs
open Api
theorem A98 {O:List (Nat×A7)}(hn:(O.map (·.1)).Nodup){i:Nat}:(ofL O i).isSome↔i∈O.map (·.1):=by
 constructor
 ·intro h;obtain⟨o,ho⟩:=A9b h;exact qS (f:=(·.1)) ho
 ·intro h;obtain⟨p,hp,rfl⟩:=qL.1 h;rw[B01 hn hp];rfl
theorem D3d {m:Nat->Option A7}{O:List (Nat×A7)}(h:okO O): ∀(l:List (Nat×A7)),(∀p∈l,p∈O/\m p.1=some p.2)->C18 m id [] O l
 | [],_=>trivial
 |(i,o)::l,hl=>by
  refine⟨?_,D3d h l λp hp=>hl p (qf _ hp)⟩;obtain⟨hio,hm⟩:=hl (i,o) (qp ..);rw[zb p_];simp only[id,hm];cases o with
  |box cs=>exact .inl ⟨cs,cs,rfl,rfl,C24 (h.2 _ hio cs rfl)⟩
  |_=>exact .inr ⟨(λcs e=>by cases e),(λcs e=>by cases e), .inl rfl⟩
theorem D69 {σ:St}{T:Slots}{O:List (Nat×A7)}{K:List Nat}(h:okO O)(hobj: ∀p∈O,σ.objs p.1=some p.2)(hK: ∀k∈K,k∈O.map (·.1))(hs:A21 σ id [] O T [] λwr=>wr= []):V5 K σ T O:=by refine⟨id,[],h.1,(by have e:(List.map (λx=>x.fst) O).filter (λi=> !([]:List Nat).contains i)=List.map (λx=>x.fst) O:=List.filter_eq_self.2 (λa _=>by simp);simp only[e,List.map_id];exact h.1),λk hk=>⟨p_,rfl,(A98 h.1).2 (hK k hk)⟩,B0f (λwr hwr=> ?_) T [] hs⟩;subst hwr;exact D3d h O λp hp=>⟨hp,hobj p hp⟩
theorem E89 {m:Nat->Option A7}{O:List (Nat×A7)}(h:okO O){p:Nat×A7}(hp:p∈O):wrm m O p.1=some p.2:=by
 rw[B8a O _ h.1];have:=B01 h.1 (i:=p.1) (o:=p.2) hp;rw[B5k O h.1]at this;cases hf:O.find? (λq=>q.1==p.1)with
 |none=>rw[hf]at this;cases this
 |some q=>rw[hf]at this;simpa using this
theorem K6 {P:Program}{m:Nat->Option A7}{f:FuncId}{avs:List AV}{b:Bool}{Q:ContR}{O O':List (Nat×A7)}{r:AV}(hc:D5 P f avs O r O')(h:okO O)(h':okO O')(hk: ∀i∈O.map (·.1),i∈O'.map (·.1))(hm: ∀p∈O,m p.1=some p.2)
  (hf: ∀i∈O'.map (·.1),i∉O.map (·.1)->m i=none)(ha: ∀a∈avs,∀i∈a.ids,(ofL O i).isSome)(hb:b=true)(hK: @Ri Q b ⟨some r,O'⟩): @A25 P m f avs b Q:=by
 refine⟨⟨some r,O'⟩,λ_=> ?_,λ_=>hb,hK⟩;have:=O9.mk (P:=P) (m:=m) (avs.map λ_=>true) avs O r O' id [] false hc (A86 ha)
  (λi o hi=>by rw[B1j];exact hm _ (A0z h.1 hi))
  (λi cs hi j hj=>h.2 _ (A0z h.1 hi) cs rfl j hj) (λi hi=>(A98 h'.1).2 (hk i ((A98 h.1).1 hi)))
  (λi hi=>by
    by_cases ho:i∈O.map (·.1)
    ·exact .inl ((A98 h.1).2 ho)
    ·exact .inr (hf i ((A98 h'.1).1 hi) ho)) (by simpa using h'.1) (λe=>by cases e)
 simpa[AV.ren_id,C2b]using this
theorem C9k(s:cL)(h:s.cQ.length<=1048576):cA_ 95 [.agg s.enc] [] (.agg [sI s.dG.X,sI s.dG.Y, .sl 1 0 s.cQ.length s.cQ.length]) [(1, .arr 6 (B0 cN.enc dF_ s.cQ))]:=by refine C29 8 [(2,some (some 3))] hm A6 Tryz.func95 rfl (st_ ?_);refine J5 ev_ K1 (A8e s.cQ h) (st_ ?_);refine B8 [.cA] [(1,96)] [] ?_;simp only[go_sem,go_sem_proc]
def wsO(q:Sq)(i:Nat):List (Nat×A7):= [(144, .box [.ptr 1 i 0 q.n]),(1, .arr 6 q)]
theorem D5i {q:Sq}{i:Nat}:okO (wsO q i):=by
 refine⟨by simp[wsO],λp hp cs e j hj=> ?_⟩;simp only[wsO,zo,zr,zU]at hp;rcases hp with rfl |rfl
 ·simp only[A7.box.injEq]at e;subst e;simp[F6,AV.ids]at hj;subst hj;rfl
 ·cases e
theorem D5u(o c:cN)(q:Sq)(i:Nat)(hi:i<q.n)(hq:q.g i=c.enc):cA_ 256 [.agg o.enc, .ptr 144 0 0 1] (wsO q i) (sB (o.ID==c.ID)) (wsO q i):=by refine I6 hm A6 Tryz.func256 rfl rfl ?_;simp only[go_sem,go_sem_proc,wsO,hq];refine B8 [.cA] [] [] ?_;simp only[go_sem,go_sem_proc]
def wsK(old:cL)(p:cN):Int:=A3u dF_ (λo:cN=>o.ID==p.ID) old.cQ
def wsP(old:cL)(al:Bool)(p:cN):cN:=if al=true/\0<=wsK old p then⟨p.eU,p.eZ,p.ID,(old.cQ.getD (wsK old p).toNat dF_).eL,(old.cQ.getD (wsK old p).toNat dF_).eS⟩else⟨p.eU,p.eZ,p.ID,0,0⟩
def wsS(old:cL)(al:Bool)(i:Nat)(s:List cN):List cN:=s.set i (wsP old al (s.getD i dF_))
def wsA(old now:cL):Bool:=decide (32768<=Q1 old.dG now.dG)
def wsM(old now:cL):cL:=⟨now.dG,itr (wsS old (wsA old now)) now.cQ.length now.cQ⟩
theorem E4n(old:cL)(al:Bool)(n:Nat)(l:List cN):(itr (wsS old al) n l).length=l.length:=U2 (λs:List cN=>s.length) (λi s=>by simp[wsS]) n l
theorem F5l(old now:cL):(wsM old now).cQ.length=now.cQ.length:=E4n ..
theorem B4z(old now:cL)(ho:old.cQ.length<=1048576)(hn:now.cQ.length<=1048576):cA_ 156 [.agg old.enc, .agg now.enc] [] (.agg (wsM old now).enc) []:=by
 have hM:wsM old now=⟨now.dG,itr (wsS old (wsA old now)) now.cQ.length now.cQ⟩:=rfl;rw[hM];have hal:wsA old now=decide (32768<=Q1 old.dG now.dG):=rfl;refine M3 63 [(4,some (some 3))] hm A6 Tryz.func156 rfl (st_ ?_);refine J5 ev_ K1 (C9k now hn) (st_ ?_);refine A0 (A01 old.dG now.dG) rfl (st_ ?_);rw[show(decide (Q1 old.dG now.dG>=32768))=wsA old now from rfl];generalize wsA old now=al;have hB:=E4n old al;refine B1 hm (ι:= {i:Nat // i<=now.cQ.length}) (λi=> [(2, .cA, .ptr 48 0 0 1),(4, .cA, .ptr 80 0 0 1),(5, .cA, .ptr 96 0 0 1),(6, .cA,sB al),(20, .cA,sI now.cQ.length),(21, .cA,sI (i.1:Nat))]) (λi=> [(48, .box old.enc),(80, .box [sI 0,sI 0, .sc (.slice none 0 0)]),(96, .box [sI now.dG.X,sI now.dG.Y, .sl 1 0 now.cQ.length now.cQ.length]),(1, .arr 6 (B0 cN.enc dF_ (itr (wsS old al) i.1 now.cQ)))]) (λi=>now.cQ.length-i.1) ⟨0,zm _⟩ ?_ ?_
 ·simp only[G9];refine A9 [(1,192)] [] ?_;simp only[go_sem,go_sem_proc]
 ·rintro⟨i,hi⟩;dsimp only;have hl:=hB i now.cQ
  have hn1:itr (wsS old al) (i+1) now.cQ=wsS old al i (itr (wsS old al) i now.cQ):=rfl
  have hfin:now.cQ.length<=i->itr (wsS old al) i now.cQ=itr (wsS old al) now.cQ.length now.cQ:=λh=>by rw[show i=now.cQ.length by omega]
  generalize itr (wsS old al) i now.cQ=v at hl hn1 hfin⊢;refine st_ ?_;by_cases hlt:i<now.cQ.length;rotate_left
  ·rw[zb o_,<-hfin o_];refine⟨hl.symm,?_⟩;rw[hl];exact D0 _
  rw[zc o_];have hc:=A58 old.cQ 256 [] [.ptr 144 0 0 1] (wsO ((B0 cN.enc dF_ v).set i (⟨(v.getD i dF_).eU,(v.getD i dF_).eZ,(v.getD i dF_).ID,0,0⟩:cN).enc) i) (λo=>o.ID==(v.getD i dF_).ID) o_ D5i
   (by intro j hj;simp[AV.ids,F6]at hj;subst hj;exact rfl) (λo _=>D5u o ⟨(v.getD i dF_).eU,(v.getD i dF_).eZ,(v.getD i dF_).ID,0,0⟩ _ i (by show i<v.length;omega) (by simp only[go_sem,go_sem_proc]))
  have hk:=C8t (d:=dF_) (p:=λo:cN=>o.ID==(v.getD i dF_).ID) (l:=old.cQ)
  have hP:wsS old al i v=v.set i (wsP old al (v.getD i dF_)):=rfl;unfold wsP wsK at hP;generalize A3u dF_ (λo:cN=>o.ID==(v.getD i dF_).ID) old.cQ=k at hc hk hP;refine⟨bE_,o_,o_,?_⟩;refine K6 hc D5i D5i (by simp[wsO]) (by simp[wsO,upd,hl,go_sem,go_sem_proc]) (by simp[wsO]) ?_ rfl ?_
  ·intro a ha j hj;simp only[zo,zr,zU]at ha;rcases ha with rfl |rfl
   ·simp[AV.ids]at hj
   ·simp[AV.ids,F6]at hj;subst hj;exact rfl
  simp only[go_sem,go_sem_proc,wsO];by_cases h:(al&&decide (0<=k))=true
  ·rw[zc h];rw[zc (show al=true/\0<=k by simpa using h)]at hP;have h0:0<=k:=by simp at h;exact h.2
   refine⟨bE_,bE_,?_⟩;refine A8 ⟨i+1,o_⟩ (by show now.cQ.length-(i+1)<now.cQ.length-i;omega) ?_;simp only[hn1,hP];refine A9 [] [] (st_ ?_)
   (with_reducible and_intros) <;> first |exact A22 _ o_ rfl rfl |exact eE_
  ·rw[zb h];rw[zb (show ¬(al=true/\0<=k)by simpa using h)]at hP;refine A8 ⟨i+1,o_⟩ (by show now.cQ.length-(i+1)<now.cQ.length-i;omega) ?_;simp only[hn1,hP];refine A9 [] [] (st_ ?_)
   (with_reducible and_intros) <;> first |exact A22 _ o_ rfl rfl |exact eE_
end Go.Abs
end
