/- A part of the proof: contracts of functions that the statement reaches. -/
import Derived.Test.YtchcbiiammkhgaaGreatML
set_option linter.unusedSimpArgs false
set_option linter.unusedVariables false
set_option linter.unnecessarySimpa false
set_option maxRecDepth 100000
set_option maxHeartbeats 2000000
noncomputable section
namespace Go.Abs
open Go.Proofs
open Api
def H5(a b:manifold_placed):Manifold×Bool:=
 let c:=b.core.getD 0 default
 let ig:=D2 a.core b.core
 let n0:=P8 a.core ig.1
 let dl:=if 0<ig.2 then S8 (M0 c (W6 a.core c)) n0 else(n0,ig.2)
 let L:=A60 dl.1 [] c (IntKind.i64.wrap (0-K5 (C7 dl.2 b.radius))) (sat (sat dl.2-sat b.radius)) 0
 if L= []then(⟨⟨0,0⟩,[]⟩,false)else(⟨dl.1,L⟩,true)
theorem F7i(a b:manifold_placed)(dl:Vec×Int)(h:(if 0<(D2 a.core b.core).2 then S8 (M0 (b.core.getD 0 default) (W6 a.core (b.core.getD 0 default))) (P8 a.core (D2 a.core b.core).1)else(P8 a.core (D2 a.core b.core).1,(D2 a.core b.core).2))=dl):
  H5 a b=if A60 dl.1 [] (b.core.getD 0 default) (IntKind.i64.wrap (0-K5 (C7 dl.2 b.radius))) (sat (sat dl.2-sat b.radius)) 0= []then(⟨⟨0,0⟩,[]⟩,false)else(⟨dl.1,A60 dl.1 [] (b.core.getD 0 default) (IntKind.i64.wrap (0-K5 (C7 dl.2 b.radius))) (sat (sat dl.2-sat b.radius)) 0⟩,true):=by
 subst h;rfl
theorem B3k(a b:manifold_placed)(ha:2<=a.core.length)(hb:1<=b.core.length)(ha8:a.core.length<=1048576)(hb8:b.core.length<=1048576):A1 Tryz.prog B3i [.agg a.enc, .agg b.enc] [] (.tup [.agg (H5 a b).1.enc,sB ((H5 a b).2)]) []:=by
 refine A63 63 [(4,some (some 3)),(5,none)] hm A4 Tryz.func251 rfl ?_;have:=B48
 have:=A5p
 have:=K6
 have:=B8f
 have:=B4d
 have:=Q9
 have:=M9
 have:=A9n
 have:=A6w
 (simp(maxSteps:=1000000) only[go_sem,B4,C3,A9,C5];try(simp(disch:=(first |omega |(simp only[List.length_set];omega) |(apply_assumption;done))) only[A22,A1w,A02,V6,L9,A21,P6,A20,T6,A9r];try simp(maxSteps:=1000000) only[go_sem,B4,C3,A9,C5]))
 repeat' (first
  |((with_reducible refine And.intro ?_ ?_);focus (first |exact J8 |exact ie_ |exact G1o |(first |with_reducible rfl |trivial |omega |(rw[IntKind.wrap_i64];omega) |exact I4 _ |exact O9 rfl |exact A3p rfl |exact A1q _ rfl rfl |exact A2q _ (by first |omega |(simp only[List.length_set];omega)) rfl rfl |exact B8c (λ_ _=>rfl) rfl rfl |exact D7j |exact B89 (λ_=>rfl) |(simp only[List.length_tail];omega) |(simp only[List.length_tail,List.length_drop]at*;rw[IntKind.wrap_i64];omega) |exact A23)))
  |((with_reducible refine it_ (λhc_=> ?_) (λhc_=> ?_)) <;> (have hd_:=hc_;try simp only[beq_iff_eq,bne_iff_ne,ne_eq,Bool.or_eq_true,Bool.and_eq_true,decide_eq_true_eq,not_or,Bool.not_eq_true',decide_eq_false_iff_not,Bool.not_eq_true,bne_eq_false_iff_eq,Decidable.not_not]at hd_))
  |(with_reducible refine gd_ ?_;with_reducible refine A0 (by apply_assumption <;> first |exact J8 |(apply_assumption <;> first |assumption |exact J8)) rfl ?_;(simp(maxSteps:=1000000) only[go_sem,B4,C3,A9,C5];try(simp(disch:=(first |omega |(simp only[List.length_set];omega) |(apply_assumption;done))) only[A22,A1w,A02,V6,L9,A21,P6,A20,T6,A9r];try simp(maxSteps:=1000000) only[go_sem,B4,C3,A9,C5])))
  |((with_reducible refine gD_ ?_);refine C7x ev_ J8 (by apply_assumption <;> first |exact J8 |(apply_assumption <;> first |assumption |exact J8)) (by rfl) ?_;(simp(maxSteps:=1000000) only[go_sem,B4,C3,A9,C5];try(simp(disch:=(first |omega |(simp only[List.length_set];omega) |(apply_assumption;done))) only[A22,A1w,A02,V6,L9,A21,P6,A20,T6,A9r];try simp(maxSteps:=1000000) only[go_sem,B4,C3,A9,C5])))
  |((with_reducible refine gD_ ?_);refine D3b ev_ J8 (by apply_assumption <;> first |exact J8 |(apply_assumption <;> first |assumption |exact J8)) (by rfl) nd_ ?_;(simp(maxSteps:=1000000) only[go_sem,B4,C3,A9,C5];try(simp(disch:=(first |omega |(simp only[List.length_set];omega) |(apply_assumption;done))) only[A22,A1w,A02,V6,L9,A21,P6,A20,T6,A9r];try simp(maxSteps:=1000000) only[go_sem,B4,C3,A9,C5])))
  |((with_reducible refine gD_ ?_);refine K1 ev_ J8 (by apply_assumption <;> first |exact J8 |(apply_assumption <;> first |assumption |exact J8)) ?_;(simp(maxSteps:=1000000) only[go_sem,B4,C3,A9,C5];try(simp(disch:=(first |omega |(simp only[List.length_set];omega) |(apply_assumption;done))) only[A22,A1w,A02,V6,L9,A21,P6,A20,T6,A9r];try simp(maxSteps:=1000000) only[go_sem,B4,C3,A9,C5])))
  |(with_reducible refine gw_ ?_;apply_assumption)
  |((with_reducible refine hb_ ?_);intros;simp only[go_sem,B4,C3,A9,C5,H3,A2c])
  |((with_reducible refine gk_ ?_);refine D8b ev_ ev_ ev_ ns_ ns_ ns_ ?_;(simp(maxSteps:=1000000) only[go_sem,B4,C3,A9,C5];try(simp(disch:=(first |omega |(simp only[List.length_set];omega) |(apply_assumption;done))) only[A22,A1w,A02,V6,L9,A21,P6,A20,T6,A9r];try simp(maxSteps:=1000000) only[go_sem,B4,C3,A9,C5])))
  |((with_reducible refine gr_ ?_);(try simp only[*,if_true,if_false,eq_self,Bool.false_eq_true,Bool.true_eq_false,not_true_eq_false,not_false_eq_true,reduceCtorEq,H3,R2,A05,A06,Bool.and_true,Bool.true_and,Bool.and_false,Bool.false_and,Bool.or_true,Bool.true_or,Bool.or_false,Bool.false_or,Bool.not_true,Bool.not_false,decide_true,decide_false,beq_iff_eq,bne_iff_ne,ne_eq,Bool.or_eq_true,Bool.and_eq_true,decide_eq_true_eq,not_or,Bool.not_eq_true',decide_eq_false_iff_not,Bool.not_eq_true,bne_eq_false_iff_eq,Decidable.not_not,or_self,or_false,false_or,or_true,true_or,and_self,and_false,false_and]);refine C91 ev_ ev_ ev_ ev_ rfl rfl ns_ ns_ ns_ ?_;(simp(maxSteps:=1000000) only[go_sem,B4,C3,A9,C5];try(simp(disch:=(first |omega |(simp only[List.length_set];omega) |(apply_assumption;done))) only[A22,A1w,A02,V6,L9,A21,P6,A20,T6,A9r];try simp(maxSteps:=1000000) only[go_sem,B4,C3,A9,C5])))
  |fail)
 ·rw[F7i a b _ (if_pos (by assumption))];generalize S8 (M0 (b.core.getD 0 default) (W6 a.core (b.core.getD 0 default))) (P8 a.core (D2 a.core b.core).1)=dl;refine E3 [false,false,false,false,true,true] [(1,704),(2,705),(3,706),(4,944)] (E5n dl.1 (b.core.getD 0 default) (IntKind.i64.wrap (0-K5 (C7 dl.2 b.radius))) (sat (sat dl.2-sat b.radius)) 0) (by simp[bO]) (by simp[bL]) (by simp[bL,go_sem,A6]) (by simp[bO,bL,go_sem]) ?_;generalize A60 dl.1 [] (b.core.getD 0 default) (IntKind.i64.wrap (0-K5 (C7 dl.2 b.radius))) (sat (sat dl.2-sat b.radius)) 0=L;simp only[go_sem,go_sem_proc];by_cases hL:L= []
  ·subst hL;rw[if_pos rfl];refine E3 [true] [(1,704),(2,705),(3,706),(4,944)] (C05 dl.1) (by simp[bL]) (by simp[bL]) (by simp[bL,go_sem,A6]) (by simp[bL,go_sem]) ?_;simp only[List.length_nil,go_sem,go_sem_proc]
  ·rw[if_neg hL];refine E3 [true] [(1,704),(2,705),(3,706),(4,944)] (D0e dl.1 L hL) (by simp[bL]) (by simp) (by simp[go_sem,A6]) (by simp[bL,go_sem]) ?_;simp only[go_sem,go_sem_proc]
 ·have he:=F7i a b (P8 a.core (D2 a.core b.core).1,(D2 a.core b.core).2) (if_neg (by assumption))
  dsimp only at he;rw[he];generalize P8 a.core (D2 a.core b.core).1=n0;generalize(D2 a.core b.core).2=g;refine E3 [false,false,false,false,true,true] [(1,704),(2,705),(3,706),(4,944)] (E5n n0 (b.core.getD 0 default) (IntKind.i64.wrap (0-K5 (C7 g b.radius))) (sat (sat g-sat b.radius)) 0) (by simp[bO]) (by simp[bL]) (by simp[bL,go_sem,A6]) (by simp[bO,bL,go_sem]) ?_;generalize A60 n0 [] (b.core.getD 0 default) (IntKind.i64.wrap (0-K5 (C7 g b.radius))) (sat (sat g-sat b.radius)) 0=L;simp only[go_sem,go_sem_proc];by_cases hL:L= []
  ·subst hL;rw[if_pos rfl];refine E3 [true] [(1,704),(2,705),(3,706),(4,944)] (C05 n0) (by simp[bL]) (by simp[bL]) (by simp[bL,go_sem,A6]) (by simp[bL,go_sem]) ?_;simp only[List.length_nil,go_sem,go_sem_proc]
  ·rw[if_neg hL];refine E3 [true] [(1,704),(2,705),(3,706),(4,944)] (D0e n0 L hL) (by simp[bL]) (by simp) (by simp[go_sem,A6]) (by simp[bL,go_sem]) ?_;simp only[go_sem,go_sem_proc]
theorem F35(n:Vec)(l:List ContactPoint)(h:l≠ []):A1 Tryz.prog B08 [.ptr 1 0 0 1] (bL n l) (.tup [.agg [sI n.X,sI n.Y, .sl 4 0 l.length l.length],sB true]) (bL n l):=by
 have hn: ¬((l.length:Int)==0)=true:=by simpa using h
 unfold bL;refine C0q 14 [(2,some (some 3)),(3,none)] hm A4 Tryz.func387 rfl ?_;simp only[go_sem,go_sem_proc];rw[if_neg hn];refine C8 [.share, .share] [] [] rfl rfl (by simp[go_sem]) (by simp[A6,go_sem]) (by simp[go_sem,A6]) ?_;simp only[go_sem,go_sem_proc]
abbrev clN(a:manifold_placed)(i:Int):Vec:=P8 a.core i
abbrev clJ(a b:manifold_placed)(i:Int):Int:=A96 b.core (clN a i)
abbrev clV(a b:manifold_placed)(i:Int):List clip_Vertex:=A3h a.core i b.core (clJ a b i)
abbrev clD(a:manifold_placed)(i:Int)(v:clip_Vertex):Int:=sat (sat (O8 (clN a i) (M0 v.Point (a.core.getD i.toNat default)))-sat a.radius)
def clS(a b:manifold_placed)(i:Int)(k:Nat)(l:List ContactPoint):List ContactPoint:=
 let v:=(clV a b i).getD k default
 A60 (clN a i) l v.Point (IntKind.i64.wrap (0-K5 (C7 (clD a i v) b.radius))) (sat (sat (clD a i v)-sat b.radius)) (IntKind.i64.wrap (IntKind.i64.wrap (IntKind.i64.wrap (64*i)+IntKind.i64.wrap (8*clJ a b i))+v.ID))
def clL(a b:manifold_placed)(i:Int):List ContactPoint:=itr (clS a b i) (clV a b i).length []
theorem F5s(l:List clip_Vertex)(o n:Vec):(A09 l o n).length<=2:=by
 unfold A09;simp only
 (repeat' split) <;> simp
theorem F0y(a:List Vec)(i:Int)(b:List Vec)(k:Int):(A3h a i b k).length<=2:=by
 unfold A3h;simp only
 (repeat' split) <;> first |(simp;done) |exact F5s _ _ _
theorem D1p(a b:manifold_placed)(i:Int):(clV a b i).length<=2:=F0y _ _ _ _
theorem D1o(a b:manifold_placed)(i:Int)(k:Nat):(itr (clS a b i) k []).length<=k:=by have:=A7w (λl:List ContactPoint=>l.length) 1 (f:=clS a b i) (λj l=>by unfold clS A60;simp only;split <;> simp) k [];simp only[List.length_nil]at this;omega
theorem C02(a b:manifold_placed)(i:Int)(hi:0<=i/\i<a.core.length)(ha8:a.core.length<=1048576)(hb8:b.core.length<=1048576)(hL:0<(clL a b i).length):A1 Tryz.prog B02 [.agg a.enc, .agg b.enc,sI i] [] (.tup [.agg [sI ((clN a i).X),sI ((clN a i).Y), .sl 1 0 (clL a b i).length (clL a b i).length],sB true]) [(1, .arr 6 (A8 ContactPoint.enc default (clL a b i)))]:=by
 refine C0q 80 [(6,some (some 3)),(7,none)] hm A4 Tryz.func392 rfl ?_;have:=A5p
 have:=B6p
 have:=A6w
 have:=C6r
 (simp(maxSteps:=1000000) only[go_sem])
 repeat' (first |(with_reducible refine gd_ ?_;with_reducible refine A0 (by apply_assumption <;> exact J8) rfl ?_;(simp(maxSteps:=1000000) only[go_sem])) |((with_reducible refine gD_ ?_);refine K1 ev_ J8 (by apply_assumption <;> first |exact J8 |(apply_assumption <;> first |assumption |exact J8)) ?_;(simp(maxSteps:=1000000) only[go_sem])))
 have hv:=D1p a b i;refine B0 hm (ι:= {k:Nat // k<=(clV a b i).length}) (λk=> [(2, .share,sI i),(3, .share, .ptr 64 0 0 1),(4, .share, .ptr 80 0 0 1),(6, .share, .ptr 112 0 0 1),(7, .share,sB false),(8, .share, .ptr 144 0 0 1),(9, .share,sI (clJ a b i)),(10, .share, .ptr 416 0 0 1),(11, .share, .fn (.func A2d) [] [.ptr 417 0 0 1, .ptr 418 0 0 1]),(34, .share,A2 3 clip_Vertex.enc default (clV a b i)),(35, .share,sI ((clV a b i).length:Int)),(36, .share,sI (k.1:Int))])
  (λk=> [(64, .box a.enc),(80, .box b.enc),(112, .box [sI 0,sI 0, .sc (.slice none 0 0)]),(144, .box (clN a i).enc),(416, .box [sI ((clN a i).X),sI ((clN a i).Y), .sl 1000 0 (itr (clS a b i) k.1 []).length (itr (clS a b i) k.1 []).length]),(417, .box (clN a i).enc),(418, .box [.ptr 416 0 0 1]),(1000, .arr 6 (A8 ContactPoint.enc default (itr (clS a b i) k.1 [])))]) (λk=>(clV a b i).length-k.1) ⟨0,by omega⟩ ?_ ?_
 ·refine B6 [] [1000] (by simp[go_sem]) (by simp[A6,go_sem]) (by simp[go_sem]) ?_;simp only[H3,List.length_nil,go_sem,go_sem_proc]
 ·rintro⟨k,hk⟩;have hl:=D1o a b i k
  have:=K6
  have:=A0a
  have:=Q9
  have:=M9
  have:=A9n;dsimp only
  (simp(maxSteps:=1000000) only[go_sem])
  repeat' (first |((with_reducible refine And.intro ?_ ?_);focus (exact J8)) |((with_reducible refine it_ (λhc_=> ?_) (λhc_=> ?_)) <;> (have hd_:=hc_)) |(with_reducible refine gd_ ?_;with_reducible refine A0 (by apply_assumption <;> first |exact J8 |(apply_assumption <;> first |assumption |exact J8)) rfl ?_;(simp(maxSteps:=1000000) only[go_sem])))
  ·have hk1:k<(clV a b i).length:=by omega
   refine E3 [false,false,false,false,true,true] [(1,416),(2,417),(3,418),(4,1000)] (F32 (clN a i) ((clV a b i).getD k default).Point (IntKind.i64.wrap (0-K5 (C7 (clD a i ((clV a b i).getD k default)) b.radius))) (sat (sat (clD a i ((clV a b i).getD k default))-sat b.radius)) (IntKind.i64.wrap (IntKind.i64.wrap (IntKind.i64.wrap (64*i)+IntKind.i64.wrap (8*clJ a b i))+((clV a b i).getD k default).ID)) (itr (clS a b i) k []) (by omega)) (by simp[bL]) (by simp[bL]) (by simp[bL,go_sem,A6]) (by simp[bL,go_sem]) ?_;rw[show A60 (clN a i) (itr (clS a b i) k []) ((clV a b i).getD k default).Point (IntKind.i64.wrap (0-K5 (C7 (clD a i ((clV a b i).getD k default)) b.radius))) (sat (sat (clD a i ((clV a b i).getD k default))-sat b.radius)) (IntKind.i64.wrap (IntKind.i64.wrap (IntKind.i64.wrap (64*i)+IntKind.i64.wrap (8*clJ a b i))+((clV a b i).getD k default).ID))=itr (clS a b i) (k+1) []from rfl];simp only[go_sem,go_sem_proc];refine A7 ⟨k+1,by omega⟩ (by show(clV a b i).length-(k+1)<(clV a b i).length-k;omega) (B6 [] [] (by simp[go_sem]) (by simp[A6,go_sem]) (by simp[go_sem]) ?_);simp only[go_sem,go_sem_proc];exact(by rw[IntKind.wrap_i64];omega)
  ·obtain rfl:k=(clV a b i).length:=by omega
   have hne:itr (clS a b i) (clV a b i).length []≠ []:=λe=>by unfold clL at hL;rw[e]at hL;simp at hL
   refine E3 [true] [(1,416),(2,417),(3,418),(4,1000)] (F35 (clN a i) (itr (clS a b i) (clV a b i).length []) hne) (by simp[bL]) (by simp[bL]) (by simp[bL,go_sem,A6]) (by simp[bL,go_sem]) ?_;simp only[go_sem,go_sem_proc];refine C8 [.share, .share] [(1,1000)] [] rfl rfl (by simp[go_sem]) (by simp[A6,go_sem]) (by simp[go_sem,A6]) ?_;simp only[clL,go_sem,go_sem_proc]
theorem C01(a b:manifold_placed)(i:Int)(hi:0<=i/\i<a.core.length)(ha8:a.core.length<=1048576)(hb8:b.core.length<=1048576)(hL:(clL a b i).length=0):A1 Tryz.prog B02 [.agg a.enc, .agg b.enc,sI i] [] (.tup [.agg (⟨⟨0,0⟩,[]⟩:Manifold).enc,sB false]) []:=by
 refine A63 80 [(6,some (some 3)),(7,none)] hm A4 Tryz.func392 rfl ?_;have:=A5p
 have:=B6p
 have:=A6w
 have:=C6r
 (simp(maxSteps:=1000000) only[go_sem])
 repeat' (first |(with_reducible refine gd_ ?_;with_reducible refine A0 (by apply_assumption <;> exact J8) rfl ?_;(simp(maxSteps:=1000000) only[go_sem])) |((with_reducible refine gD_ ?_);refine K1 ev_ J8 (by apply_assumption <;> first |exact J8 |(apply_assumption <;> first |assumption |exact J8)) ?_;(simp(maxSteps:=1000000) only[go_sem])))
 have hv:=D1p a b i;refine B0 hm (ι:= {k:Nat // k<=(clV a b i).length}) (λk=> [(2, .share,sI i),(3, .share, .ptr 64 0 0 1),(4, .share, .ptr 80 0 0 1),(6, .share, .ptr 112 0 0 1),(7, .share,sB false),(8, .share, .ptr 144 0 0 1),(9, .share,sI (clJ a b i)),(10, .share, .ptr 416 0 0 1),(11, .share, .fn (.func A2d) [] [.ptr 417 0 0 1, .ptr 418 0 0 1]),(34, .share,A2 3 clip_Vertex.enc default (clV a b i)),(35, .share,sI ((clV a b i).length:Int)),(36, .share,sI (k.1:Int))])
  (λk=> [(64, .box a.enc),(80, .box b.enc),(112, .box [sI 0,sI 0, .sc (.slice none 0 0)]),(144, .box (clN a i).enc),(416, .box [sI ((clN a i).X),sI ((clN a i).Y), .sl 1000 0 (itr (clS a b i) k.1 []).length (itr (clS a b i) k.1 []).length]),(417, .box (clN a i).enc),(418, .box [.ptr 416 0 0 1]),(1000, .arr 6 (A8 ContactPoint.enc default (itr (clS a b i) k.1 [])))]) (λk=>(clV a b i).length-k.1) ⟨0,by omega⟩ ?_ ?_
 ·refine B6 [] [1000] (by simp[go_sem]) (by simp[A6,go_sem]) (by simp[go_sem]) ?_;simp only[H3,List.length_nil,go_sem,go_sem_proc]
 ·rintro⟨k,hk⟩;have hl:=D1o a b i k
  have:=K6
  have:=A0a
  have:=Q9
  have:=M9
  have:=A9n;dsimp only
  (simp(maxSteps:=1000000) only[go_sem])
  repeat' (first |((with_reducible refine And.intro ?_ ?_);focus (exact J8)) |((with_reducible refine it_ (λhc_=> ?_) (λhc_=> ?_)) <;> (have hd_:=hc_)) |(with_reducible refine gd_ ?_;with_reducible refine A0 (by apply_assumption <;> first |exact J8 |(apply_assumption <;> first |assumption |exact J8)) rfl ?_;(simp(maxSteps:=1000000) only[go_sem])))
  ·have hk1:k<(clV a b i).length:=by omega
   refine E3 [false,false,false,false,true,true] [(1,416),(2,417),(3,418),(4,1000)] (F32 (clN a i) ((clV a b i).getD k default).Point (IntKind.i64.wrap (0-K5 (C7 (clD a i ((clV a b i).getD k default)) b.radius))) (sat (sat (clD a i ((clV a b i).getD k default))-sat b.radius)) (IntKind.i64.wrap (IntKind.i64.wrap (IntKind.i64.wrap (64*i)+IntKind.i64.wrap (8*clJ a b i))+((clV a b i).getD k default).ID)) (itr (clS a b i) k []) (by omega)) (by simp[bL]) (by simp[bL]) (by simp[bL,go_sem,A6]) (by simp[bL,go_sem]) ?_;rw[show A60 (clN a i) (itr (clS a b i) k []) ((clV a b i).getD k default).Point (IntKind.i64.wrap (0-K5 (C7 (clD a i ((clV a b i).getD k default)) b.radius))) (sat (sat (clD a i ((clV a b i).getD k default))-sat b.radius)) (IntKind.i64.wrap (IntKind.i64.wrap (IntKind.i64.wrap (64*i)+IntKind.i64.wrap (8*clJ a b i))+((clV a b i).getD k default).ID))=itr (clS a b i) (k+1) []from rfl];simp only[go_sem,go_sem_proc];refine A7 ⟨k+1,by omega⟩ (by show(clV a b i).length-(k+1)<(clV a b i).length-k;omega) (B6 [] [] (by simp[go_sem]) (by simp[A6,go_sem]) (by simp[go_sem]) ?_);simp only[go_sem,go_sem_proc];exact(by rw[IntKind.wrap_i64];omega)
  ·obtain rfl:k=(clV a b i).length:=by omega
   have he:itr (clS a b i) (clV a b i).length []= []:=List.eq_nil_of_length_eq_zero hL;simp only[he,List.length_nil];have hf:=C05 (clN a i);refine E3 [true] [(1,416),(2,417),(3,418),(4,1000)] hf (by simp[bL]) (by simp[bL]) (by simp[bL,go_sem,A6]) (by simp[bL,go_sem]) ?_;simp only[List.length_nil,go_sem,go_sem_proc]
def B3x(m:Manifold):Manifold:=(⟨(⟨(IntKind.i64.wrap (0-m.Normal.X)),(IntKind.i64.wrap (0-m.Normal.Y))⟩:Vec),m.Points⟩:Manifold)
theorem D7v(m:Manifold)(h0:m.Points.length<=1048576):A1 Tryz.prog D59 [.agg m.enc] [] (.agg (B3x m).enc) []:=by
 refine L5 16 [(2,some (some 3))] hm A4 Tryz.func391 rfl ?_;have:=B2u
 have:=B3x.eq_1 m;exact J1
def V2(m:Manifold)(ok:Bool):Manifold×Bool:=if ok=false then(((⟨(⟨0,0⟩:Vec),([]:List ContactPoint)⟩:Manifold),false))else(let v1:=(B3x m);(v1,true))
theorem B0f(m:Manifold)(ok:Bool)(h0:m.Points.length<=1048576):A1 Tryz.prog C8a [.agg m.enc,sB ok] [] (.tup [.agg (V2 m ok).1.enc,sB ((V2 m ok).2)]) []:=by
 refine A63 11 [(4,some (some 3)),(5,none)] hm A4 Tryz.func252 rfl ?_;have:=D7v
 have:=V2.eq_1 m ok;exact J1
theorem E0y(a b:List Vec): ∀n,(n=0->(itr (Q4 a b) n (-1,0)).1= -1)/\(0<n->0<=(itr (Q4 a b) n (-1,0)).1/\(itr (Q4 a b) n (-1,0)).1<n)
 |0=>⟨λ_=>rfl,λh=>absurd h (by omega)⟩
 |n+1=>by
  have ih:=E0y a b n;refine⟨λh=>absurd h (by omega),λ_=> ?_⟩;rw[E4];generalize itr (Q4 a b) n (-1,0)=s at*;unfold Q4;simp only;split
  ·constructor <;> simp <;> omega
  ·rename_i h;simp only[Bool.or_eq_true,decide_eq_true_eq,not_or]at h;rcases Nat.eq_zero_or_pos n with h0 |h0
   ·have:=ih.1 h0;omega
   ·have:=ih.2 h0;constructor <;> simp <;> omega
theorem C9r(a b:List Vec)(ha:2<=a.length)(hb:1<=b.length):0<=(D2 a b).1/\(D2 a b).1<a.length:=by unfold D2;rw[if_neg (by simp only[Bool.or_eq_true,decide_eq_true_eq,beq_iff_eq,not_or];omega)];exact(E0y a b a.length).2 (by omega)
def D07(a b:manifold_placed)(i:Int):Manifold×Bool:=if(clL a b i).length=0 then(⟨⟨0,0⟩,[]⟩,false)else(⟨clN a i,clL a b i⟩,true)
def B3t(p:ContactPoint):ContactPoint:=⟨p.Point,p.Separation,IntKind.i64.wrap (p.ID+4096),p.NormalImpulse,p.TangentImpulse⟩
def E4a(l:List ContactPoint):List ContactPoint:=itr (λi s=>s.set i (B3t (s.getD i default))) l.length l
def L4(a b:manifold_placed):Manifold×Bool:=
 let ig:=D2 a.core b.core
 let kh:=D2 b.core a.core
 if 1024<sat (sat (sat (sat (if ig.2<kh.2 then kh.2 else ig.2)-sat a.radius))-sat b.radius)then(⟨⟨0,0⟩,[]⟩,false)
 else if kh.2<=C7 ig.2 64 then D07 a b ig.1
 else if(clL b a kh.1).length=0 then(⟨⟨0,0⟩,[]⟩,false)else V2 ⟨clN b kh.1,E4a (clL b a kh.1)⟩ true
theorem B99(a b:manifold_placed)(ha:2<=a.core.length)(hb:2<=b.core.length)(ha8:a.core.length<=1048576)(hb8:b.core.length<=1048576):A1 Tryz.prog B90 [.agg a.enc, .agg b.enc] [] (.tup [.agg (L4 a b).1.enc,sB ((L4 a b).2)]) []:=by
 refine A63 78 [(4,some (some 3)),(5,none)] hm A4 Tryz.func253 rfl ?_;have:=B48
 have:=Q9
 have:=M9
 (simp(maxSteps:=1000000) only[go_sem])
 repeat' (first |((with_reducible refine it_ (λhc_=> ?_) (λhc_=> ?_)) <;> (have hd_:=hc_)) |(with_reducible refine gd_ ?_;with_reducible refine A0 (by apply_assumption <;> exact J8) rfl ?_;(simp(maxSteps:=1000000) only[go_sem])))
 ·have e:L4 a b=(⟨⟨0,0⟩,[]⟩,false):=by
   unfold L4;simp only;rw[if_pos (by assumption)]
  rw[e];exact⟨⟨rfl,rfl,O9 rfl⟩,rfl⟩
 ·have e:L4 a b=D07 a b (D2 a.core b.core).1:=by
   unfold L4;simp only;rw[if_neg (by assumption),if_pos (by assumption)]
  have hr:=C9r a.core b.core ha (by omega);rw[e];generalize(D2 a.core b.core).1=i at*;by_cases hL:(clL a b i).length=0
  ·rw[show D07 a b i=(⟨⟨0,0⟩,[]⟩,false)from if_pos hL];refine A0 (C01 a b i hr ha8 hb8 hL) rfl ?_;simp only[List.length_nil,go_sem,go_sem_proc]
  ·rw[show D07 a b i=(⟨clN a i,clL a b i⟩,true)from if_neg hL];refine E3 [false,false,false] [(1,768)] (C02 a b i hr ha8 hb8 (by omega)) (by simp) (by simp) (by simp) (by simp) ?_;simp only[go_sem,go_sem_proc]
 ·have hr:=C9r b.core a.core hb (by omega)
  have e:L4 a b=if(clL b a (D2 b.core a.core).1).length=0 then(⟨⟨0,0⟩,[]⟩,false)else V2 ⟨clN b (D2 b.core a.core).1,E4a (clL b a (D2 b.core a.core).1)⟩ true:=by unfold L4;simp only;rw[if_neg (by assumption),if_neg (by assumption)]
  rw[e];generalize(D2 b.core a.core).1=k at*;by_cases hL:(clL b a k).length=0
  ·rw[if_pos hL];refine A0 (C01 b a k hr hb8 ha8 hL) rfl ?_;simp only[List.length_nil,go_sem,go_sem_proc];refine B0 hm (ι:=Unit) (λ_=> [(4, .share, .ptr 80 0 0 1),(5, .share,sB false),(10, .share, .ptr 176 0 0 1),(11, .share,sB false),(59, .share,sI 0),(60, .share,sI 0)]) (λ_=> [(80, .box [sI 0,sI 0, .sc (.slice none 0 0)]),(176, .box [sI 0,sI 0, .dsl 6 0 (L7 ContactPoint.enc default [])])]) (λ_=>0) () ?_ ?_
   ·refine B6 [] [] (by simp[go_sem]) (by simp[A6,go_sem]) (by simp[go_sem]) ?_;simp only[go_sem,go_sem_proc]
   ·intro _;simp only[go_sem,go_sem_proc];rw[if_neg (by decide)];refine A0 (B0f ⟨⟨0,0⟩,[]⟩ false (by simp)) rfl ?_;rw[show V2 ⟨⟨0,0⟩,[]⟩ false=(⟨⟨0,0⟩,[]⟩,false)from rfl];simp only[List.length_nil,go_sem,go_sem_proc]
  ·rw[if_neg hL];refine E3 [false,false,false] [(1,880)] (C02 b a k hr hb8 ha8 (by omega)) (by simp) (by simp) (by simp) (by simp) ?_;simp only[go_sem,go_sem_proc];unfold E4a;generalize hl:clL b a k=l at*;have hB: ∀j,(itr (λi (s:List ContactPoint)=>s.set i (B3t (s.getD i default))) j l).length=l.length:=λj=>T4 (λs:List ContactPoint=>s.length) (λi s=>by simp) j l;refine B0 hm (ι:= {j:Nat // j<=l.length}) (λj=> [(4, .share, .ptr 80 0 0 1),(5, .share,sB false),(10, .share, .ptr 176 0 0 1),(11, .share,sB true),(59, .share,sI (l.length:Int)),(60, .share,sI (j.1:Int))])
    (λj=> [(80, .box [sI 0,sI 0, .sc (.slice none 0 0)]),(176, .box [sI ((clN b k).X),sI ((clN b k).Y), .sl 880 0 (itr (λi (s:List ContactPoint)=>s.set i (B3t (s.getD i default))) j.1 l).length (itr (λi (s:List ContactPoint)=>s.set i (B3t (s.getD i default))) j.1 l).length]),(880, .arr 6 (A8 ContactPoint.enc default (itr (λi (s:List ContactPoint)=>s.set i (B3t (s.getD i default))) j.1 l)))]) (λj=>l.length-j.1) ⟨0,by omega⟩ ?_ ?_
   ·refine B6 [] [] (by simp[go_sem]) (by simp[A6,go_sem]) (by simp[go_sem]) ?_;simp only[H3,go_sem,go_sem_proc]
   ·rintro⟨j,hj⟩;have hBj:=hB j
    have hn1:itr (λi (s:List ContactPoint)=>s.set i (B3t (s.getD i default))) (j+1) l=(itr (λi (s:List ContactPoint)=>s.set i (B3t (s.getD i default))) j l).set j (B3t ((itr (λi (s:List ContactPoint)=>s.set i (B3t (s.getD i default))) j l).getD j default)):=rfl
    have hl8:l.length<=2:=by rw[<-hl];exact Nat.le_trans (D1o b a k _) (D1p b a k)
    dsimp only
    (simp(maxSteps:=1000000) only[go_sem];try(simp(disch:=(omega)) only[L9];try simp(maxSteps:=1000000) only[go_sem]))
    repeat' (first |((with_reducible refine And.intro ?_ ?_);focus (exact J8)) |((with_reducible refine it_ (λhc_=> ?_) (λhc_=> ?_)) <;> (have hd_:=hc_)))
    ·refine A7 ⟨j+1,by omega⟩ (by show l.length-(j+1)<l.length-j;omega) (B6 [] [] (by simp[go_sem]) (by simp[A6,go_sem]) (by simp[go_sem]) ?_);simp only[hn1,List.length_set,go_sem,go_sem_proc];refine⟨?_,?_⟩ <;> first |(rw[IntKind.wrap_i64];omega) |exact A3p rfl
    ·obtain rfl:j=l.length:=by omega
     refine K1 (cs:= [.agg (⟨clN b k,itr (λi (s:List ContactPoint)=>s.set i (B3t (s.getD i default))) l.length l⟩:Manifold).enc,sB true]) (by simp only[C48,hBj,go_sem,go_sem_proc];rfl) trivial (B0f ⟨clN b k,itr (λi (s:List ContactPoint)=>s.set i (B3t (s.getD i default))) l.length l⟩ true (by rw[hBj];omega)) ?_;simp only[go_sem,go_sem_proc]
theorem E03(s:Shape)(t:Transform):E7 s=0->1<=(J6 s t).core.length/\((J6 s t).kind=1->(J6 s t).core.length=1)/\((J6 s t).kind=2->(J6 s t).core.length=2)/\((J6 s t).kind≠1->(J6 s t).kind≠2->3<=(J6 s t).core.length)/\(J6 s t).core.length<=8:=λh=>D3w s t h
theorem D4n(n p:Vec)(d s i:Int):(A60 n [] p d s i).length<=1:=by unfold A60;split <;> simp
theorem F3v(a b:manifold_placed):(H5 a b).1.Points.length<=1:=by
 unfold H5;simp only
 (repeat' split) <;> first |exact Nat.zero_le _ |exact D4n _ _ _ _ _
def Y8(a:Shape)(ta:Transform)(b:Shape)(tb:Transform):Manifold×Bool:=let v1:=(E7 a);let v2:=(E7 b);if((v1 != 0)||(v2 != 0))=true then(((⟨(⟨0,0⟩:Vec),([]:List ContactPoint)⟩:Manifold),false))else(let v3:=(J6 a ta);let v4:=(J6 b tb);if((v3.kind != 3)&&(v4.kind != 3))=true then(let v5:=(U5 v3 v4);(v5.1,v5.2))else(if(v4.kind==1)=true then(let v6:=(H5 v3 v4);(v6.1,v6.2))else(if(v3.kind==1)=true then(let v7:=(H5 v4 v3);let v8:=(V2 v7.1 v7.2);(v8.1,v8.2))else(let v9:=(L4 v3 v4);(v9.1,v9.2)))))
theorem D0g(a:Shape)(ta:Transform)(b:Shape)(tb:Transform)(h0:a.Vertices.length<=1048576)(h1:b.Vertices.length<=1048576):A1 Tryz.prog C78 [.agg a.enc, .agg ta.enc, .agg b.enc, .agg tb.enc] [] (.tup [.agg (Y8 a ta b tb).1.enc,sB ((Y8 a ta b tb).2)]) []:=by
 refine A63 67 [(8,some (some 3)),(9,none)] hm A4 Tryz.func155 rfl ?_;have:=E03 a ta
 have:=E03 b tb
 have:=A1j
 have:=D5q
 have:=C0a
 have:=F3v (J6 a ta) (J6 b tb)
 have:=B3k
 have:=F3v (J6 b tb) (J6 a ta)
 have:=B0f
 have:=B99
 have:=Y8.eq_1 a ta b tb;exact J1
def C88(a b:Int)(j:Joint):Bool:= !j.CollideConnected&&((a==j.BodyA&&b==j.BodyB)||(a==j.BodyB&&b==j.BodyA))
theorem F8v(a b:Int):okO [(1, .box [sI a,sI b])]:=by refine⟨by simp[go_sem],?_⟩;simp[go_sem,F4,AV.ids]
theorem B8d(a b:Int)(j:Joint):A1 Tryz.prog A9i [.agg j.enc, .ptr 1 0 0 1] [(1, .box [sI a,sI b])] (sB (C88 a b j)) [(1, .box [sI a,sI b])]:=by
 refine H8 hm A4 Tryz.func470 rfl rfl ?_;simp only[go_sem,go_sem_proc];cases hc:j.CollideConnected with
 |true=>simp only[Bool.not_true,go_sem,go_sem_proc];refine C8 [.share] [] [] rfl rfl (by simp[go_sem]) (by simp[A6,go_sem]) (by simp[go_sem]) ?_;simp only[go_sem,go_sem_proc];simp[C88,hc]
 |false=>simp only[Bool.not_false,go_sem,go_sem_proc];refine C8 [.share] [] [] rfl rfl (by simp[go_sem]) (by simp[A6,go_sem]) (by simp[go_sem]) ?_;simp only[go_sem,go_sem_proc];simp[C88,hc]
theorem B1y(l:List Joint)(a b:Int)(hl:l.length<=1048576):A1 Tryz.prog C1a [A2 24 Joint.enc default l,sI a,sI b] [] (sB (l.any (C88 a b))) []:=by refine H8 hm A4 Tryz.func371 rfl rfl ?_;simp only[go_sem,go_sem_proc];refine E3 [true,true] [(1,128)] (B6t l A9i [] [.ptr 1 0 0 1] [(1, .box [sI a,sI b])] (C88 a b) (by omega) (F8v a b) (by simp[go_sem,AV.ids]) (λj _=>B8d a b j)) (by simp) (by simp) (by simp) (by simp[go_sem]) ?_;simp only[go_sem,go_sem_proc];refine C8 [.share] [] [] rfl rfl (by simp[go_sem]) (by simp[A6,go_sem]) (by simp[go_sem]) ?_;simp only[go_sem,go_sem_proc]
end Go.Abs
end
noncomputable section
namespace Go.Abs
open Go.Proofs
open Api
end Go.Abs
namespace Go.Api
open Go.Abs
structure Input where
 Kind:Int
 ID:Int
 Vec:Vec
 Value:Int
 Body:Body
 Joint:Joint
 deriving DecidableEq,Inhabited
def Input.enc(x:Input):List AV:=[sI x.Kind,sI x.ID,sI x.Vec.X,sI x.Vec.Y,sI x.Value,sI x.Body.ID,sI x.Body.Kind,sI x.Body.Transform.Position.X,sI x.Body.Transform.Position.Y,sI x.Body.Transform.Angle,sI x.Body.Velocity.X,sI x.Body.Velocity.Y,sI x.Body.AngularVelocity,sI x.Body.Force.X,sI x.Body.Force.Y,sI x.Body.Torque,sI x.Body.LinearDamping,sI x.Body.AngularDamping,sI x.Body.GravityScale,sB x.Body.Bullet,sB x.Body.FixedRotation,sB x.Body.NoSleep,sB x.Body.Asleep,sI x.Body.IdleSteps,A2 10 Fixture.enc default x.Body.Fixtures,sI x.Joint.ID,sI x.Joint.Kind,sI x.Joint.BodyA,sI x.Joint.BodyB,sI x.Joint.AnchorA.X,sI x.Joint.AnchorA.Y,sI x.Joint.AnchorB.X,sI x.Joint.AnchorB.Y,sI x.Joint.Axis.X,sI x.Joint.Axis.Y,sI x.Joint.ReferenceAngle,sB x.Joint.EnableLimit,sI x.Joint.Lower,sI x.Joint.Upper,sB x.Joint.EnableMotor,sI x.Joint.MotorSpeed,sI x.Joint.MaxForce,sI x.Joint.Softness,sI x.Joint.BreakForce,sB x.Joint.CollideConnected,sI x.Joint.Impulses.I0,sI x.Joint.Impulses.I1,sI x.Joint.Impulses.I2,sI x.Joint.Impulses.I3]
def Input.zero:List AV:= [sI 0,sI 0,sI 0,sI 0,sI 0,sI 0,sI 0,sI 0,sI 0,sI 0,sI 0,sI 0,sI 0,sI 0,sI 0,sI 0,sI 0,sI 0,sI 0,sB false,sB false,sB false,sB false,sI 0, .sc (.slice none 0 0),sI 0,sI 0,sI 0,sI 0,sI 0,sI 0,sI 0,sI 0,sI 0,sI 0,sI 0,sB false,sI 0,sI 0,sB false,sI 0,sI 0,sI 0,sI 0,sB false,sI 0,sI 0,sI 0,sI 0]
attribute [go_sem] Input.enc Input.zero
@[go_sem] theorem G3u(x:Input):Input.mk x.Kind x.ID x.Vec x.Value x.Body x.Joint=x:=rfl
structure Request where
 Kind:Int
 From:Vec
 To:Vec
 Mask:Int
 Input:Input
 deriving DecidableEq,Inhabited
def Request.enc(x:Request):List AV:=[sI x.Kind,sI x.From.X,sI x.From.Y,sI x.To.X,sI x.To.Y,sI x.Mask,sI x.Input.Kind,sI x.Input.ID,sI x.Input.Vec.X,sI x.Input.Vec.Y,sI x.Input.Value,sI x.Input.Body.ID,sI x.Input.Body.Kind,sI x.Input.Body.Transform.Position.X,sI x.Input.Body.Transform.Position.Y,sI x.Input.Body.Transform.Angle,sI x.Input.Body.Velocity.X,sI x.Input.Body.Velocity.Y,sI x.Input.Body.AngularVelocity,sI x.Input.Body.Force.X,sI x.Input.Body.Force.Y,sI x.Input.Body.Torque,sI x.Input.Body.LinearDamping,sI x.Input.Body.AngularDamping,sI x.Input.Body.GravityScale,sB x.Input.Body.Bullet,sB x.Input.Body.FixedRotation,sB x.Input.Body.NoSleep,sB x.Input.Body.Asleep,sI x.Input.Body.IdleSteps,A2 10 Fixture.enc default x.Input.Body.Fixtures,sI x.Input.Joint.ID,sI x.Input.Joint.Kind,sI x.Input.Joint.BodyA,sI x.Input.Joint.BodyB,sI x.Input.Joint.AnchorA.X,sI x.Input.Joint.AnchorA.Y,sI x.Input.Joint.AnchorB.X,sI x.Input.Joint.AnchorB.Y,sI x.Input.Joint.Axis.X,sI x.Input.Joint.Axis.Y,sI x.Input.Joint.ReferenceAngle,sB x.Input.Joint.EnableLimit,sI x.Input.Joint.Lower,sI x.Input.Joint.Upper,sB x.Input.Joint.EnableMotor,sI x.Input.Joint.MotorSpeed,sI x.Input.Joint.MaxForce,sI x.Input.Joint.Softness,sI x.Input.Joint.BreakForce,sB x.Input.Joint.CollideConnected,sI x.Input.Joint.Impulses.I0,sI x.Input.Joint.Impulses.I1,sI x.Input.Joint.Impulses.I2,sI x.Input.Joint.Impulses.I3]
def Request.zero:List AV:= [sI 0,sI 0,sI 0,sI 0,sI 0,sI 0,sI 0,sI 0,sI 0,sI 0,sI 0,sI 0,sI 0,sI 0,sI 0,sI 0,sI 0,sI 0,sI 0,sI 0,sI 0,sI 0,sI 0,sI 0,sI 0,sB false,sB false,sB false,sB false,sI 0, .sc (.slice none 0 0),sI 0,sI 0,sI 0,sI 0,sI 0,sI 0,sI 0,sI 0,sI 0,sI 0,sI 0,sB false,sI 0,sI 0,sB false,sI 0,sI 0,sI 0,sI 0,sB false,sI 0,sI 0,sI 0,sI 0]
attribute [go_sem] Request.enc Request.zero
@[go_sem] theorem G20(x:Request):Request.mk x.Kind x.From x.To x.Mask x.Input=x:=rfl
end Go.Api
namespace Go.Abs
open Go.Proofs Api
end Go.Abs
end
noncomputable section
namespace Go.Abs
open Go.Proofs
open Api
structure F9 where
 body:Int
 fixture:Int
 deriving DecidableEq,Inhabited
def F9.enc(x:F9):List AV:=[sI x.body,sI x.fixture]
def F9.zero:List AV:= [sI 0,sI 0]
attribute [go_sem] F9.enc F9.zero
@[go_sem] theorem E2w(x:F9):F9.mk x.body x.fixture=x:=rfl
structure sap_Entry where
 ID:Int
 Bounds:AABB
 deriving DecidableEq,Inhabited
def sap_Entry.enc(x:sap_Entry):List AV:=[sI x.ID,sI x.Bounds.Min.X,sI x.Bounds.Min.Y,sI x.Bounds.Max.X,sI x.Bounds.Max.Y]
def sap_Entry.zero:List AV:= [sI 0,sI 0,sI 0,sI 0,sI 0]
attribute [go_sem] sap_Entry.enc sap_Entry.zero
@[go_sem] theorem G0m(x:sap_Entry):sap_Entry.mk x.ID x.Bounds=x:=rfl
structure broadphase_Proxy where
 Body:Int
 Fixture:Int
 Bounds:AABB
 deriving DecidableEq,Inhabited
def broadphase_Proxy.enc(x:broadphase_Proxy):List AV:=[sI x.Body,sI x.Fixture,sI x.Bounds.Min.X,sI x.Bounds.Min.Y,sI x.Bounds.Max.X,sI x.Bounds.Max.Y]
def broadphase_Proxy.zero:List AV:= [sI 0,sI 0,sI 0,sI 0,sI 0,sI 0]
attribute [go_sem] broadphase_Proxy.enc broadphase_Proxy.zero
@[go_sem] theorem F0o(x:broadphase_Proxy):broadphase_Proxy.mk x.Body x.Fixture x.Bounds=x:=rfl
structure broadphase_scene where
 bodies:List Body
 joints:List Joint
 refs:List F9
 entries:List sap_Entry
 deriving DecidableEq,Inhabited
def broadphase_scene.enc(x:broadphase_scene):List AV:=[A2 20 Body.enc default x.bodies,A2 24 Joint.enc default x.joints,A2 2 F9.enc default x.refs,A2 5 sap_Entry.enc default x.entries]
def broadphase_scene.zero:List AV:= [.sc (.slice none 0 0), .sc (.slice none 0 0), .sc (.slice none 0 0), .sc (.slice none 0 0)]
attribute [go_sem] broadphase_scene.enc broadphase_scene.zero
@[go_sem] theorem F0p(x:broadphase_scene):broadphase_scene.mk x.bodies x.joints x.refs x.entries=x:=rfl
def A2f(b:Body)(i:Int):broadphase_Proxy:=let v1:=(B5f (b.Fixtures.getD i.toNat default).Shape b.Transform);let v2:=(B69 v1 1024);(⟨b.ID,i,v2⟩:broadphase_Proxy)
theorem C97(b:Body)(i:Int)(hi:0<=i/\i<b.Fixtures.length)(h0: ∀f∈b.Fixtures,f.Shape.Vertices.length<=1048576):A1 Tryz.prog C7z [.agg b.enc,sI i] [] (.agg (A2f b i).enc) []:=by
 refine L5 19 [(4,some (some 6))] hm A4 Tryz.func365 rfl ?_;have:=h0 _ (B7 (l:=b.Fixtures) (i:=i.toNat) default (by omega))
 have:=D99
 have:=E2g
 have:=A2f.eq_1 b i;exact J1
def A32(s:broadphase_scene)(x:F9)(y:F9):PairKey:=if(s.bodies.getD y.body.toNat default).ID<(s.bodies.getD x.body.toNat default).ID then((⟨(s.bodies.getD y.body.toNat default).ID,y.fixture,(s.bodies.getD x.body.toNat default).ID,x.fixture⟩:PairKey))else((⟨(s.bodies.getD x.body.toNat default).ID,x.fixture,(s.bodies.getD y.body.toNat default).ID,y.fixture⟩:PairKey))
theorem C2d(s:broadphase_scene)(x:F9)(y:F9)(hx:0<=x.body/\x.body<s.bodies.length)(hy:0<=y.body/\y.body<s.bodies.length):A1 Tryz.prog C1d [.agg s.enc, .agg x.enc, .agg y.enc] [] (.agg (A32 s x y).enc) []:=by refine L5 40 [(6,some (some 4))] hm A4 Tryz.func245 rfl ?_;have:=A32.eq_1 s x y;exact J1
def A0f(s:broadphase_scene)(x:F9)(y:F9):Bool:=let v1:=(A0e ((s.bodies.getD x.body.toNat default).Fixtures.getD x.fixture.toNat default) ((s.bodies.getD y.body.toNat default).Fixtures.getD y.fixture.toNat default));let v2:=(s.joints.any (C88 (s.bodies.getD x.body.toNat default).ID (s.bodies.getD y.body.toNat default).ID));((((((s.bodies.getD x.body.toNat default).Kind==3)||((s.bodies.getD y.body.toNat default).Kind==3))&&(x.body != y.body))&&v1)&&(!v2))
theorem B7f(s:broadphase_scene)(x:F9)(y:F9)(hx:0<=x.body/\x.body<s.bodies.length)(hy:0<=y.body/\y.body<s.bodies.length)(hxf:0<=x.fixture/\x.fixture<(s.bodies.getD x.body.toNat default).Fixtures.length)(hyf:0<=y.fixture/\y.fixture<(s.bodies.getD y.body.toNat default).Fixtures.length)(h0:s.joints.length<=1048576):A1 Tryz.prog B64 [.agg s.enc, .agg x.enc, .agg y.enc] [] (sB (A0f s x y)) []:=by
 refine en1 hm A4 Tryz.func244 rfl rfl ?_;have:=A82
 have:=B1y
 have:=A0f.eq_1 s x y;exact J1
def G5(w:Api.World)(id:Int)(n:Int):Fixture×Transform×Bool:=let v1:=(H7 w id);if(((decide (v1<0))||(decide (n<0)))||(decide (((w.Bodies.getD v1.toNat default).Fixtures.length:Int)<=n)))=true then(((⟨(⟨0,0,([]:List Vec)⟩:Shape),0,0,0,false,0,0,0⟩:Fixture),(⟨(⟨0,0⟩:Vec),0⟩:Transform),false))else((((w.Bodies.getD v1.toNat default).Fixtures.getD n.toNat default),(w.Bodies.getD v1.toNat default).Transform,true))
theorem B2s(w:Api.World)(id:Int)(n:Int)(h0:w.Bodies.length<=1048576):A1 Tryz.prog D32 [.agg w.enc,sI id,sI n] [] (.tup [.agg (G5 w id n).1.enc, .agg (G5 w id n).2.1.enc,sB ((G5 w id n).2.2)]) []:=by
 refine A63 47 [(6,some (some 10)),(7,some (some 3)),(8,none)] hm A4 Tryz.func154 rfl ?_;have:=A24 w id
 have:=A2a
 have:=G5.eq_1 w id n;exact J1
def L2(l:List Int)(n:Int)(i1:Nat)(s1:Int):(Int) ⊕ (Bool):=if((decide ((l.getD i1 0)<=s1))||(decide (n<=(l.getD i1 0))))=true then(.inr false)else(.inl (l.getD i1 0))
def S2(l:List Int)(n:Int):Bool:=(match D4 (L2 l n) l.length (-1)with | .inr r=>r | .inl s1=>true)
theorem A3x(l:List Int)(n:Int)(h0:l.length<=1048576):A1 Tryz.prog D4j [A2 1 B9 0 l,sI n] [] (sB (S2 l n)) []:=by
 refine en1 hm A4 Tryz.func177 rfl rfl ?_;have:=S2.eq_1 l n
 have:=λi_ s_=>L2.eq_1 l n i_ s_
 have:=λx_ Q_ σ_=> @lp_ Tryz.prog Tryz.f177.ntmps [] x_ Q_ σ_ hm (IE (L2 l n) (-1)) (λ_=>True) l.length (λi_=> [(1, .share,sI n),(5, .share,sI (stE (L2 l n) i_ (-1))),(8, .share,A2 1 B9 0 l),(9, .share,sI (l.length:Int)),(10, .share,sI (i_:Int))]) (λi_=> []) [] rfl (λ_ _=>trivial) (by simp[go_sem]) (by simp[go_sem,A6]) (by simp[go_sem]);exact J1
def A4f(j:Joint):Int:=if(j.Kind==1)=true then((if(sat j.Impulses.I0)<(IntKind.i64.wrap (0-(sat j.Impulses.I0)))then(IntKind.i64.wrap (0-(sat j.Impulses.I0)))else(sat j.Impulses.I0)))else(let v2:=(A4k (⟨(sat j.Impulses.I0),j.Impulses.I1⟩:Vec));v2)
theorem B6o(j:Joint):A1 Tryz.prog B59 [.agg j.enc] [] (sI (A4f j)) []:=by
 refine en1 hm A4 Tryz.func334 rfl rfl ?_;have:=λx1 x2=>cx_ (V0 ⟨x1,x2⟩)
 have:=J7
 have:=V0
 have:=A4f.eq_1 j;exact D1
def A6h(j:Joint)(d:Int):Bool:=let v1:=(A4f j);let v2:=(B5 j.BreakForce d);((decide (0<j.BreakForce))&&(decide (v2<v1)))
theorem D0f(j:Joint)(d:Int):A1 Tryz.prog C77 [.agg j.enc,sI d] [] (sB (A6h j d)) []:=by
 refine en1 hm A4 Tryz.func204 rfl rfl ?_;have:=B6o
 have:=L8
 have:=A6h.eq_1 j d;exact D1
def A6j(f:Fixture)(m:Int):Bool:=((!f.Sensor)&&((IntKind.i64.wrap (((BitVec.ofInt 64 f.Category &&& BitVec.ofInt 64 m).toNat:Nat):Int)) != 0))
theorem D0n(f:Fixture)(m:Int):A1 Tryz.prog C8i [.agg f.enc,sI m] [] (sB (A6j f m)) []:=by refine en1 hm A4 Tryz.func396 rfl rfl ?_;have:=A6j.eq_1 f m;exact D1
theorem B52(k k':List Int)(v:AV): ∀es:List (List Int×AV),A26 (A6s es k v) k'=if k'==k then some v else A26 es k'
 | []=>rfl
 |(z,u)::r=>by
  have ih:=B52 k k' v r;simp only[A6s];cases hz:k==z with
  |true=>
   have e:k=z:=by simpa using hz
   subst e;simp only[if_true,A26];cases h:k'==k <;> simp
  |false=>
   simp only[Bool.false_eq_true,if_false,A26,ih];cases h:k'==z with
   |true=>
    have e:k'=z:=by simpa using h
    subst e;have:(k'==k)=false:=by
     cases h2:k'==k with
     |false=>rfl
     |true=>
      have e2:k'=k:=by simpa using h2
      subst e2;rw[h]at hz;cases hz
    simp[this]
   |false=>simp
def A65(k:PairKey):List Int:= [k.BodyA,k.FixtureA,k.BodyB,k.FixtureB]
theorem F5o {a b:PairKey}(h:A65 a=A65 b):a=b:=by obtain⟨a1,a2,a3,a4⟩:=a;obtain⟨b1,b2,b3,b4⟩:=b;simp only[A65,List.cons.injEq,and_true]at h;obtain⟨rfl,rfl,rfl,rfl⟩:=h;rfl
theorem E40(a b:PairKey):(A65 a==A65 b)=decide (a=b):=by
 by_cases h:a=b
 ·subst h;simp
 ·rw[decide_eq_false h];cases h2:A65 a==A65 b with
  |false=>rfl
  |true=>exact absurd (F5o (by simpa using h2)) h
def A6o(l:List Contact)(k:PairKey):Nat->Option Nat
 |0=>none
 |n+1=>match A6o l k n with
  |some i=>some i
  |none=>if(l.getD n default).Key=k then some n else none
theorem C9f {l:List Contact}{k:PairKey}: ∀ {n i:Nat},A6o l k n=some i->i<n/\(l.getD i default).Key=k
 |0,i,h=>by cases h
 |n+1,i,h=>by
  simp only[A6o]at h;split at h
  ·rename_i j hj;injection h with h;subst h;have:=C9f hj;exact⟨by omega,this.2⟩
  ·split at h
   ·rename_i he;injection h with h;subst h;exact⟨by omega,he⟩
   ·cases h
def ibk(l:List Contact):Nat->List (List Int×AV)
 |0=> []
 |n+1=>if(A26 (ibk l n) (A65 (l.getD n default).Key)).isSome=true then ibk l n else A6s (ibk l n) (A65 (l.getD n default).Key) (sI (n:Nat))
theorem E8s(l:List Contact)(k:PairKey): ∀n,A26 (ibk l n) (A65 k)=(A6o l k n).map λi=> .sc (.int .i64 (i:Nat))
 |0=>rfl
 |n+1=>by
  have ih:=E8s l k n;simp only[ibk,A6o];by_cases he:(l.getD n default).Key=k
  ·subst he;rw[ih];cases hf:A6o l (l.getD n default).Key n with
   |some i=>simp only[Option.map_some,Option.isSome_some,if_true,ih,hf]
   |none=>simp only[Option.map_none,Option.isSome_none,Bool.false_eq_true,if_false,B52,beq_self_eq_true,if_true,Option.map_some]
  ·have hne:(A65 k==A65 (l.getD n default).Key)=false:=by rw[E40,decide_eq_false (λe=>he e.symm)]
   have hx:A26 (if(A26 (ibk l n) (A65 (l.getD n default).Key)).isSome=true then ibk l n else A6s (ibk l n) (A65 (l.getD n default).Key) (sI (n:Nat))) (A65 k)=A26 (ibk l n) (A65 k):=by
    split
    ·rfl
    ·rw[B52,hne];rfl
   rw[hx,ih,if_neg he];cases A6o l k n <;> rfl
end Go.Abs
end
noncomputable section
namespace Go.Abs
open Go.Proofs
open Api
end Go.Abs
namespace Go.Api
open Go.Abs
structure Event where
 Kind:Int
 Key:PairKey
 deriving DecidableEq,Inhabited
def Event.enc(x:Event):List AV:=[sI x.Kind,sI x.Key.BodyA,sI x.Key.FixtureA,sI x.Key.BodyB,sI x.Key.FixtureB]
def Event.zero:List AV:= [sI 0,sI 0,sI 0,sI 0,sI 0]
attribute [go_sem] Event.enc Event.zero
@[go_sem] theorem G3t(x:Event):Event.mk x.Kind x.Key=x:=rfl
end Go.Api
namespace Go.Abs
open Go.Proofs Api
attribute [go_sem] B51
theorem B4c(l:List Contact)(hl:l.length<=1048576):A1 Tryz.prog C4d [A2 7 Contact.enc default l] [] (.mp 1) [(1, .mapS 4 (ibk l l.length))]:=by
 refine H8 hm A4 Tryz.func152 rfl rfl ?_;simp only[go_sem,go_sem_proc];refine B0 hm (ι:= {i:Nat // i<=l.length}) (λi=> [(3, .share, .mp 1),(9, .share,A2 7 Contact.enc default l),(10, .share,sI l.length),(11, .share,sI (i.1:Nat))]) (λi=> [(1, .mapS 4 (ibk l i.1))]) (λi=>l.length-i.1) ⟨0,Nat.zero_le _⟩ ?_ ?_
 ·refine C0 [(1,144)] [] ?_;simp only[go_sem,go_sem_proc];exact eE_
 ·rintro⟨i,hi⟩;dsimp only;have hn:ibk l (i+1)=if(A26 (ibk l i) [(l.getD i default).Key.BodyA,(l.getD i default).Key.FixtureA,(l.getD i default).Key.BodyB,(l.getD i default).Key.FixtureB]).isSome=true then ibk l i else A6s (ibk l i) [(l.getD i default).Key.BodyA,(l.getD i default).Key.FixtureA,(l.getD i default).Key.BodyB,(l.getD i default).Key.FixtureB] (sI (i:Nat)):=rfl
  have hfin:l.length<=i->ibk l i=ibk l l.length:=λh=>by rw[show i=l.length by omega]
  generalize ibk l i=es at hn hfin⊢;simp only[go_sem,go_sem_proc];by_cases hlt:i<l.length
  ·rw[if_pos (by omega)];refine⟨bE_,?_⟩;cases hf:A26 es [(l.getD i default).Key.BodyA,(l.getD i default).Key.FixtureA,(l.getD i default).Key.BodyB,(l.getD i default).Key.FixtureB]with
   |none=>rw[hf]at hn;simp only[Option.isSome_none,Bool.false_eq_true,if_false]at hn;simp only[go_sem,go_sem_proc];refine A7 ⟨i+1,by omega⟩ (by show l.length-(i+1)<l.length-i;omega) ?_;simp only[hn];refine C0 [] [] ?_;simp only[go_sem,go_sem_proc];exact eE_
   |some v=>rw[hf]at hn;simp only[Option.isSome_some,if_true]at hn;simp only[go_sem,go_sem_proc];refine A7 ⟨i+1,by omega⟩ (by show l.length-(i+1)<l.length-i;omega) ?_;simp only[hn];refine C0 [] [] ?_;simp only[go_sem,go_sem_proc];exact eE_
  ·rw[if_neg (by omega)];rw[<-hfin (by omega)];refine V7 [.share] [] [] ?_;simp only[go_sem,go_sem_proc];exact eE_
theorem C3k {α β:Type} [Inhabited α]{f:α->Option β}{l:List α}{i:Nat}(h:i<l.length):(l.take (i+1)).filterMap f=(l.take i).filterMap f++(f (l.getD i default)).toList:=by rw[K9 default h,List.filterMap_append];congr 1
theorem C9g {α β:Type}{f:α->Option β}{l:List α}(i:Nat):((l.take i).filterMap f).length<=l.length:=Nat.le_trans (List.length_filterMap_le ..) (by rw[List.length_take];omega)
theorem F2w(l:List Contact)(k:PairKey):A26 (ibk l l.length) [k.BodyA,k.FixtureA,k.BodyB,k.FixtureB]=(A6o l k l.length).map λi=> .sc (.int .i64 (i:Nat)):=E8s l k l.length
def evF(b:List Contact)(kind:Int)(t:Contact):Option Api.Event:=if(A6o b t.Key b.length).isSome=true then none else some ⟨kind,t.Key⟩
def C46(a b:List Contact)(kind:Int):List Api.Event:=a.filterMap (evF b kind)
theorem B28(a b:List Contact)(kind:Int):(C46 a b kind).length<=a.length:=List.length_filterMap_le ..
theorem B46(a b:List Contact)(kind:Int)(ha:a.length<=1048576)(hb:b.length<=1048576):A1 Tryz.prog C6z [A2 7 Contact.enc default a,A2 7 Contact.enc default b,sI kind] [] (.sl 1 0 (C46 a b kind).length (C46 a b kind).length) [(1, .arr 5 (A8 Api.Event.enc default (C46 a b kind)))]:=by
 refine H8 hm A4 Tryz.func157 rfl rfl ?_;simp only[go_sem,go_sem_proc];refine K1 ev_ J8 (B4c b hb) ?_;simp only[go_sem,go_sem_proc];refine B0 hm (ι:= {i:Nat // i<=a.length}) (λi=> [(2, .share,sI kind),(7, .share, .mp 2),(8,mdA i.1, .sl 1 0 ((a.take i.1).filterMap (evF b kind)).length ((a.take i.1).filterMap (evF b kind)).length),(15, .share,A2 7 Contact.enc default a),(16, .share,sI a.length),(17, .share,sI (i.1:Nat))]) (λi=> [(1, .arr 5 (A8 Api.Event.enc default ((a.take i.1).filterMap (evF b kind)))),(2, .mapS 4 (ibk b b.length))]) (λi=>a.length-i.1) ⟨0,Nat.zero_le _⟩ ?_ ?_
 ·simp only[List.take_zero,List.filterMap_nil];refine C0 [(2,240)] [1] ?_;simp only[go_sem,go_sem_proc];exact eE_
 ·rintro⟨i,hi⟩;dsimp only;have hn:i<a.length->(a.take (i+1)).filterMap (evF b kind)=(a.take i).filterMap (evF b kind)++(evF b kind (a.getD i default)).toList:=λh=>C3k h
  have hfin:a.length<=i->(a.take i).filterMap (evF b kind)=C46 a b kind:=λh=>by rw[show i=a.length by omega,List.take_length];rfl
  have hlen:=C9g (f:=evF b kind) (l:=a) i;generalize(a.take i).filterMap (evF b kind)=v at hn hfin hlen⊢;simp only[go_sem,go_sem_proc];by_cases hlt:i<a.length
  ·rw[if_pos (by omega)];refine⟨bE_,?_⟩;replace hn:=hn hlt;rw[show evF b kind (a.getD i default)=if(A6o b (a.getD i default).Key b.length).isSome=true then none else some ⟨kind,(a.getD i default).Key⟩from rfl]at hn;rw[F2w];cases hf:A6o b (a.getD i default).Key b.length with
   |none=>rw[hf]at hn;simp only[Option.isSome_none,Bool.false_eq_true,if_false,Option.toList]at hn;simp only[go_sem,go_sem_proc];refine⟨bE_,?_⟩;refine A7 ⟨i+1,by omega⟩ (by show a.length-(i+1)<a.length-i;omega) ?_;simp only[hn];refine C0 [] [] ?_;simp only[go_sem,go_sem_proc];exact eE_
   |some v=>rw[hf]at hn;simp only[Option.isSome_some,if_true,Option.toList,List.append_nil]at hn;simp only[go_sem,go_sem_proc];refine A7 ⟨i+1,by omega⟩ (by show a.length-(i+1)<a.length-i;omega) ?_;simp only[hn];refine C0 [] [] ?_;simp only[go_sem,go_sem_proc];exact eE_
  ·rw[if_neg (by omega)];rw[<-hfin (by omega)];refine V7 [.share] [] [] ?_;simp only[go_sem,go_sem_proc]
def B77(old now:List Contact):List Api.Event:=C46 now old 1++C46 old now 2
theorem D5l(old now:List Contact)(ho:old.length<=1048576)(hn:now.length<=1048576):A1 Tryz.prog D30 [A2 7 Contact.enc default old,A2 7 Contact.enc default now] [] (.sl 1 0 (B77 old now).length (B77 old now).length) [(1, .arr 5 (A8 Api.Event.enc default (B77 old now)))]:=by
 have l1:=B28 now old 1
 have l2:=B28 old now 2;refine H8 hm A4 Tryz.func97 rfl rfl ?_;simp only[go_sem,go_sem_proc];refine K1 ev_ J8 (B46 now old 1 hn ho) ?_;simp only[go_sem,go_sem_proc];refine K1 ev_ J8 (B46 old now 2 ho hn) ?_;simp only[go_sem,go_sem_proc];refine⟨bE_,?_⟩;unfold B77;refine V7 [.share] [(1,128)] [] ?_;simp only[go_sem,go_sem_proc];exact eE_
end Go.Abs
end
noncomputable section
namespace Go.Abs
open Go.Proofs
open Api
theorem B36 {O:List (Nat×A5)}(hn:(O.map (·.1)).Nodup){i:Nat}:(ofL O i).isSome↔i∈O.map (·.1):=by
 constructor
 ·intro h;obtain⟨o,ho⟩:=A88 h;exact List.mem_map_of_mem (f:=(·.1)) ho
 ·intro h;obtain⟨p,hp,rfl⟩:=List.mem_map.1 h;rw[B35 hn hp];rfl
theorem E6 {P:Program}{m:Nat->Option A5}{f:FuncId}{avs:List AV}{b:Bool}{Q:ContR}{O O':List (Nat×A5)}{r:AV}(hc:A1 P f avs O r O')(h:okO O)(h':okO O')(hk: ∀i∈O.map (·.1),i∈O'.map (·.1))(hm: ∀p∈O,m p.1=some p.2)
  (hf: ∀i∈O'.map (·.1),i∉O.map (·.1)->m i=none)(ha: ∀a∈avs,∀i∈a.ids,(ofL O i).isSome)(hb:b=true)(hK: @Ri Q b ⟨some r,O'⟩): @A4z P m f avs b Q:=by
 refine⟨⟨some r,O'⟩,λ_=> ?_,λ_=>hb,hK⟩;have:=T7.mk (P:=P) (m:=m) (avs.map λ_=>true) avs O r O' id [] false hc (B1n ha)
  (λi o hi=>by rw[B5x];exact hm _ (A1i h.1 hi))
  (λi cs hi j hj=>h.2 _ (A1i h.1 hi) cs rfl j hj) (λi hi=>(B36 h'.1).2 (hk i ((B36 h.1).1 hi)))
  (λi hi=>by
    by_cases ho:i∈O.map (·.1)
    ·exact .inl ((B36 h.1).2 ho)
    ·exact .inr (hf i ((B36 h'.1).1 hi) ho)) (by simpa using h'.1) (λe=>by cases e)
 simpa[AV.ren_id,D1y]using this
theorem D20(s:Manifold)(h:s.Points.length<=1048576):A1 Tryz.prog B8v [.agg s.enc] [] (.agg [sI s.Normal.X,sI s.Normal.Y, .sl 1 0 s.Points.length s.Points.length]) [(1, .arr 6 (A8 ContactPoint.enc default s.Points))]:=by refine D1e 8 [(2,some (some 3))] hm A4 Tryz.func95 rfl ?_;simp only[go_sem,go_sem_proc];refine K1 ev_ J8 (A8a s.Points h) ?_;simp only[go_sem,go_sem_proc];refine V7 [.share] [(1,96)] [] ?_;simp only[go_sem,go_sem_proc]
def wsO(q:Sq)(i:Nat):List (Nat×A5):= [(144, .box [.ptr 1 i 0 q.n]),(1, .arr 6 q)]
theorem D9q {q:Sq}{i:Nat}:okO (wsO q i):=by
 refine⟨by simp[wsO],λp hp cs e j hj=> ?_⟩;simp only[wsO,List.mem_cons,List.not_mem_nil,or_false]at hp;rcases hp with rfl |rfl
 ·simp only[A5.box.injEq]at e;subst e;simp[F4,AV.ids]at hj;subst hj;rfl
 ·cases e
theorem D90(o c:ContactPoint)(q:Sq)(i:Nat)(hi:i<q.n)(hq:q.g i=c.enc):A1 Tryz.prog B1j [.agg o.enc, .ptr 144 0 0 1] (wsO q i) (sB (o.ID==c.ID)) (wsO q i):=by refine H8 hm A4 Tryz.func256 rfl rfl ?_;simp only[go_sem,go_sem_proc,wsO,hq];refine V7 [.share] [] [] ?_;simp only[go_sem,go_sem_proc]
def wsK(old:Manifold)(p:ContactPoint):Int:=A48 default (λo:ContactPoint=>o.ID==p.ID) old.Points
def wsP(old:Manifold)(al:Bool)(p:ContactPoint):ContactPoint:=if al=true/\0<=wsK old p then⟨p.Point,p.Separation,p.ID,(old.Points.getD (wsK old p).toNat default).NormalImpulse,(old.Points.getD (wsK old p).toNat default).TangentImpulse⟩else⟨p.Point,p.Separation,p.ID,0,0⟩
def wsS(old:Manifold)(al:Bool)(i:Nat)(s:List ContactPoint):List ContactPoint:=s.set i (wsP old al (s.getD i default))
def wsA(old now:Manifold):Bool:=decide (32768<=O8 old.Normal now.Normal)
def wsM(old now:Manifold):Manifold:=⟨now.Normal,itr (wsS old (wsA old now)) now.Points.length now.Points⟩
theorem E9n(old:Manifold)(al:Bool)(n:Nat)(l:List ContactPoint):(itr (wsS old al) n l).length=l.length:=T4 (λs:List ContactPoint=>s.length) (λi s=>by simp[wsS]) n l
theorem G0k(old now:Manifold):(wsM old now).Points.length=now.Points.length:=E9n ..
theorem B45(old now:Manifold)(ho:old.Points.length<=1048576)(hn:now.Points.length<=1048576):A1 Tryz.prog C6y [.agg old.enc, .agg now.enc] [] (.agg (wsM old now).enc) []:=by
 have hM:wsM old now=⟨now.Normal,itr (wsS old (wsA old now)) now.Points.length now.Points⟩:=rfl;rw[hM];have hal:wsA old now=decide (32768<=O8 old.Normal now.Normal):=rfl;refine L5 63 [(4,some (some 3))] hm A4 Tryz.func156 rfl ?_;simp only[go_sem,go_sem_proc];refine K1 ev_ J8 (D20 now hn) ?_;simp only[go_sem,go_sem_proc];refine A0 (A0a old.Normal now.Normal) rfl ?_;simp only[go_sem,go_sem_proc];rw[show(decide (O8 old.Normal now.Normal>=32768))=wsA old now from rfl];generalize wsA old now=al;have hB:=E9n old al;refine B0 hm (ι:= {i:Nat // i<=now.Points.length}) (λi=> [(2, .share, .ptr 48 0 0 1),(4, .share, .ptr 80 0 0 1),(5, .share, .ptr 96 0 0 1),(6, .share,sB al),(20, .share,sI now.Points.length),(21, .share,sI (i.1:Nat))]) (λi=> [(48, .box old.enc),(80, .box [sI 0,sI 0, .sc (.slice none 0 0)]),(96, .box [sI now.Normal.X,sI now.Normal.Y, .sl 1 0 now.Points.length now.Points.length]),(1, .arr 6 (A8 ContactPoint.enc default (itr (wsS old al) i.1 now.Points)))]) (λi=>now.Points.length-i.1) ⟨0,Nat.zero_le _⟩ ?_ ?_
 ·simp only[H3];refine C0 [(1,192)] [] ?_;simp only[go_sem,go_sem_proc]
 ·rintro⟨i,hi⟩;dsimp only;have hl:=hB i now.Points
  have hn1:itr (wsS old al) (i+1) now.Points=wsS old al i (itr (wsS old al) i now.Points):=rfl
  have hfin:now.Points.length<=i->itr (wsS old al) i now.Points=itr (wsS old al) now.Points.length now.Points:=λh=>by rw[show i=now.Points.length by omega]
  generalize itr (wsS old al) i now.Points=v at hl hn1 hfin⊢;simp only[go_sem,go_sem_proc];by_cases hlt:i<now.Points.length;rotate_left
  ·rw[if_neg (by omega),<-hfin (by omega)];refine⟨hl.symm,?_⟩;rw[hl];exact I4 _
  rw[if_pos (by omega)];have hc:=A5w old.Points B1j [] [.ptr 144 0 0 1] (wsO ((A8 ContactPoint.enc default v).set i (⟨(v.getD i default).Point,(v.getD i default).Separation,(v.getD i default).ID,0,0⟩:ContactPoint).enc) i) (λo=>o.ID==(v.getD i default).ID) (by omega) D9q
   (by intro j hj;simp[AV.ids,F4]at hj;subst hj;exact rfl) (λo _=>D90 o ⟨(v.getD i default).Point,(v.getD i default).Separation,(v.getD i default).ID,0,0⟩ _ i (by show i<v.length;omega) (by simp only[go_sem,go_sem_proc]))
  have hk:=E8v (d:=default) (p:=λo:ContactPoint=>o.ID==(v.getD i default).ID) (l:=old.Points)
  have hP:wsS old al i v=v.set i (wsP old al (v.getD i default)):=rfl;unfold wsP wsK at hP;generalize A48 default (λo:ContactPoint=>o.ID==(v.getD i default).ID) old.Points=k at hc hk hP;refine⟨bE_,by omega,by omega,?_⟩;refine E6 hc D9q D9q (by simp[wsO]) (by simp[wsO,upd,hl,go_sem,go_sem_proc]) (by simp[wsO]) ?_ rfl ?_
  ·intro a ha j hj;simp only[List.mem_cons,List.not_mem_nil,or_false]at ha;rcases ha with rfl |rfl
   ·simp[AV.ids]at hj
   ·simp[AV.ids,F4]at hj;subst hj;exact rfl
  simp only[go_sem,go_sem_proc,wsO];by_cases h:(al&&decide (0<=k))=true
  ·rw[if_pos h];rw[if_pos (show al=true/\0<=k by simpa using h)]at hP;have h0:0<=k:=by simp at h;exact h.2
   refine⟨bE_,bE_,?_⟩;refine A7 ⟨i+1,by omega⟩ (by show now.Points.length-(i+1)<now.Points.length-i;omega) ?_;simp only[hn1,hP];refine C0 [] [] ?_;simp only[go_sem,go_sem_proc]
   (repeat' (with_reducible apply And.intro)) <;> first |exact A2q _ (by omega) rfl rfl |exact eE_
  ·rw[if_neg h];rw[if_neg (show ¬(al=true/\0<=k)by simpa using h)]at hP;refine A7 ⟨i+1,by omega⟩ (by show now.Points.length-(i+1)<now.Points.length-i;omega) ?_;simp only[hn1,hP];refine C0 [] [] ?_;simp only[go_sem,go_sem_proc]
   (repeat' (with_reducible apply And.intro)) <;> first |exact A2q _ (by omega) rfl rfl |exact eE_
end Go.Abs
end
