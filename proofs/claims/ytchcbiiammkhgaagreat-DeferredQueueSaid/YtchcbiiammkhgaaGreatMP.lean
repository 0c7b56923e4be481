/- A part of the proof: contracts of functions that the statement reaches. -/
import Derived.Test.YtchcbiiammkhgaaGreatMO
set_option linter.unusedSimpArgs false
set_option linter.unusedVariables false
set_option linter.unnecessarySimpa false
set_option maxRecDepth 100000
set_option maxHeartbeats 2000000
noncomputable section
namespace Go.Abs
open Go.Proofs
open Api
def A33(f:Fixture):Fixture:=let v1:=f.Shape.Vertices;(⟨(⟨f.Shape.Kind,f.Shape.Radius,v1⟩:Shape),f.Density,f.Friction,f.Restitution,f.Sensor,f.Category,f.Mask,f.Group⟩:Fixture)
theorem C2f(f:Fixture)(h0:f.Shape.Vertices.length<=1048576):A1 Tryz.prog C1e [.agg f.enc] [] (.agg (A33 f).enc) []:=by
 refine L5 10 [(2,some (some 10))] hm A4 Tryz.func335 rfl ?_;have:=B6s
 have:=A33.eq_1 f;exact J1
def V5(w:Api.World)(id:Int):Transform:=let v1:=(H7 w id);(w.Bodies.getD v1.toNat default).Transform
theorem B4i(w:Api.World)(id:Int)(h0:w.Bodies.length<=1048576)(h1:0<=H7 w id):A1 Tryz.prog C4r [.agg w.enc,sI id] [] (.agg (V5 w id).enc) []:=by
 refine L5 13 [(4,some (some 3))] hm A4 Tryz.func207 rfl ?_;have:=A24 w id
 have:=A2a
 have:=V5.eq_1 w id;exact J1
def M1(w:Api.World)(k:PairKey):Fixture×Fixture×Bool:=let v1:=(G5 w k.BodyA k.FixtureA);let v2:=(G5 w k.BodyB k.FixtureB);if((!v1.2.2)||(!v2.2.2))=true then(((⟨(⟨0,0,([]:List Vec)⟩:Shape),0,0,0,false,0,0,0⟩:Fixture),(⟨(⟨0,0,([]:List Vec)⟩:Shape),0,0,0,false,0,0,0⟩:Fixture),false))else(let v3:=(A33 v1.1);let v4:=(A33 v2.1);(v3,v4,true))
theorem D0a(w:Api.World)(k:PairKey)(hw:Wsm w):A1 Tryz.prog C72 [.agg w.enc, .agg k.enc] [] (.tup [.agg (M1 w k).1.enc, .agg (M1 w k).2.1.enc,sB ((M1 w k).2.2)]) []:=by
 refine A63 45 [(4,some (some 10)),(5,some (some 10)),(6,none)] hm A4 Tryz.func205 rfl ?_;have:=B3a hw k.BodyA k.FixtureA
 have:=B3a hw k.BodyB k.FixtureB
 have:=hw.1
 have:=B2s
 have:=C2f
 have:=M1.eq_1 w k;exact J1
def B5u(l:List PairKey):Nat->List (List Int×AV)
 |0=> []
 |n+1=>A6s (B5u l n) (A65 (l.getD n default)) (sB true)
theorem E5w(l:List PairKey)(k:PairKey): ∀n,n<=l.length->A26 (B5u l n) (A65 k)=cond ((l.take n).contains k) (some (sB true)) none
 |0,_=>rfl
 |n+1,h=>by
  have ih:=E5w l k n (by omega);rw[K9 default (by omega:n<l.length)];simp only[B5u,B52,ih,E40];rw[show((l.take n)++ [l.getD n default]).contains k=((l.take n).contains k||decide (k=l.getD n default))by
   by_cases he:k=l.getD n default
   ·rw[<-he];simp
   ·rw[decide_eq_false he,Bool.or_false,Bool.eq_iff_iff];simp only[List.contains_iff_mem,List.mem_append,List.mem_singleton,he,or_false]]
  by_cases he:k=l.getD n default
  ·simp[he]
  ·rw[decide_eq_false he,Bool.or_false];simp
theorem D0s(l:List PairKey)(hl:l.length<=1048576):A1 Tryz.prog E3l [A2 4 PairKey.enc default l] [] (.mp 1) [(1, .mapS 4 (B5u l l.length))]:=by
 refine H8 hm A4 Tryz.func210 rfl rfl ?_;simp only[go_sem,go_sem_proc];refine B0 hm (ι:= {i:Nat // i<=l.length}) (λi=> [(3, .share, .mp 1),(7, .share,A2 4 PairKey.enc default l),(8, .share,sI l.length),(9, .share,sI (i.1:Nat))]) (λi=> [(1, .mapS 4 (B5u l i.1))]) (λi=>l.length-i.1) ⟨0,Nat.zero_le _⟩ ?_ ?_
 ·refine C0 [(1,112)] [] ?_;simp only[go_sem,go_sem_proc];exact eE_
 ·rintro⟨i,hi⟩;dsimp only;have hn:B5u l (i+1)=A6s (B5u l i) [(l.getD i default).BodyA,(l.getD i default).FixtureA,(l.getD i default).BodyB,(l.getD i default).FixtureB] (sB true):=rfl
  have hfin:l.length<=i->B5u l i=B5u l l.length:=λh=>by rw[show i=l.length by omega]
  generalize B5u l i=es at hn hfin⊢;simp only[go_sem,go_sem_proc];by_cases hlt:i<l.length
  ·rw[if_pos (by omega)];refine⟨bE_,?_⟩;refine A7 ⟨i+1,by omega⟩ (by show l.length-(i+1)<l.length-i;omega) ?_;simp only[hn];refine C0 [] [] ?_;simp only[go_sem,go_sem_proc];exact eE_
  ·rw[if_neg (by omega),<-hfin (by omega)];refine V7 [.share] [] [] ?_;simp only[go_sem,go_sem_proc];exact eE_
def B3r(p:PairKey->Bool)(kind:Int)(k:PairKey):Option Api.Event:=if p k=true then none else some ⟨kind,k⟩
def adE(l:List PairKey)(p:PairKey->Bool)(kind:Int):List Api.Event:=l.filterMap (B3r p kind)
theorem C32(l:List PairKey)(es:List (List Int×AV))(p:PairKey->Bool)(kind:Int)(hl:l.length<=1048576)(hes: ∀k,A26 es (A65 k)=cond (p k) (some (sB true)) none):
  A1 Tryz.prog D8v [A2 4 PairKey.enc default l, .mp 2,sI kind] [(2, .mapS 4 es)] (.sl 1 0 (adE l p kind).length (adE l p kind).length) [(2, .mapS 4 es),(1, .arr 5 (A8 Api.Event.enc default (adE l p kind)))]:=by
 refine H8 hm A4 Tryz.func209 rfl rfl ?_;simp only[go_sem,go_sem_proc];refine B0 hm (ι:= {i:Nat // i<=l.length}) (λi=> [(1, .share, .mp 2),(2, .share,sI kind),(7,mdA i.1, .sl 1 0 ((l.take i.1).filterMap (B3r p kind)).length ((l.take i.1).filterMap (B3r p kind)).length),(10, .share,A2 4 PairKey.enc default l),(11, .share,sI l.length),(12, .share,sI (i.1:Nat))]) (λi=> [(2, .mapS 4 es),(1, .arr 5 (A8 Api.Event.enc default ((l.take i.1).filterMap (B3r p kind))))]) (λi=>l.length-i.1) ⟨0,Nat.zero_le _⟩ ?_ ?_
 ·simp only[List.take_zero,List.filterMap_nil];refine C0 [] [1] ?_;simp only[go_sem,go_sem_proc];exact eE_
 ·rintro⟨i,hi⟩;dsimp only;have hn:i<l.length->(l.take (i+1)).filterMap (B3r p kind)=(l.take i).filterMap (B3r p kind)++(B3r p kind (l.getD i default)).toList:=λh=>C3k h
  have hfin:l.length<=i->(l.take i).filterMap (B3r p kind)=adE l p kind:=λh=>by rw[show i=l.length by omega,List.take_length];rfl
  have hln:=C9g (f:=B3r p kind) (l:=l) i;generalize(l.take i).filterMap (B3r p kind)=v at hn hfin hln⊢;by_cases hlt:i<l.length;rotate_left
  ·simp only[go_sem,go_sem_proc];rw[if_neg (by omega),<-hfin (by omega)];refine V7 [.share] [] [] ?_;simp only[go_sem,go_sem_proc];exact eE_
  replace hn:=hn hlt;have hu:=B3r.eq_1 p kind (l.getD i default)
  have hg:=hes (l.getD i default);simp only[A65]at hg;cases hp:p (l.getD i default)with
  |true=>rw[hp]at hg hu;rw[if_pos rfl]at hu;rw[hu]at hn;simp only[Option.toList,List.append_nil]at hn;simp only[cond_true]at hg;simp only[go_sem,go_sem_proc,hg,Option.getD_some,Bool.not_true];rw[if_pos (by omega)];refine⟨bE_,?_⟩;refine A7 ⟨i+1,by omega⟩ (by show l.length-(i+1)<l.length-i;omega) ?_;simp only[hn];refine C0 [] [] ?_;simp only[go_sem,go_sem_proc];exact eE_
  |false=>rw[hp]at hg hu;rw[if_neg (by simp)]at hu;rw[hu]at hn;simp only[Option.toList]at hn;simp only[cond_false]at hg;simp only[go_sem,go_sem_proc,hg,Option.getD_none,D14,Bool.not_false];rw[if_pos (by omega)];refine⟨bE_,bE_,?_⟩;refine A7 ⟨i+1,by omega⟩ (by show l.length-(i+1)<l.length-i;omega) ?_;simp only[hn];refine C0 [] [] ?_;simp only[go_sem,go_sem_proc];exact eE_
def C57(old cur:List PairKey):List Api.Event:=adE cur (λk=>old.contains k) 3++adE old (λk=>cur.contains k) 4
theorem B8j(l:List PairKey)(p:PairKey->Bool)(kind:Int):(adE l p kind).length<=l.length:=List.length_filterMap_le ..
theorem E5v(l:List PairKey)(k:PairKey):A26 (B5u l l.length) (A65 k)=cond (l.contains k) (some (sB true)) none:=by have:=E5w l k l.length (Nat.le_refl _);rwa[List.take_length]at this
theorem D74(old cur:List PairKey)(ho:old.length<=1048576)(hc:cur.length<=1048576):A1 Tryz.prog D6k [A2 4 PairKey.enc default old,A2 4 PairKey.enc default cur] [] (A2 5 Api.Event.enc default (C57 old cur)) []:=by
 have l1:=B8j cur (λk=>old.contains k) 3
 have l2:=B8j old (λk=>cur.contains k) 4;refine en1 hm A4 Tryz.func123 rfl rfl ?_;simp only[go_sem,go_sem_proc];refine K1 ev_ J8 (D0s old ho) ?_;simp only[go_sem,go_sem_proc];refine E3 [true,true,true] [(2,160),(1,176)] (C32 cur (B5u old old.length) (λk=>old.contains k) 3 hc (E5v old)) (by simp) (by simp) (by simp[A6]) (by simp[go_sem]) ?_;simp only[go_sem,go_sem_proc];refine K1 ev_ J8 (D0s cur hc) ?_;simp only[go_sem,go_sem_proc];refine E3 [true,true,true] [(2,224),(1,240)] (C32 old (B5u cur cur.length) (λk=>cur.contains k) 4 ho (E5v cur)) (by simp) (by simp) (by simp[A6]) (by simp[go_sem]) ?_;simp only[go_sem,go_sem_proc];refine⟨bE_,?_⟩;unfold C57;rw[List.length_append];exact⟨rfl,I4 _⟩
theorem C9q {w:Api.World}{id n:Int}(h:(G5 w id n).2.2=true):0<=H7 w id:=by
 unfold G5 at h;dsimp only at h;split at h
 ·cases h
 ·rename_i hh;simp only[Bool.or_eq_true,decide_eq_true_eq,not_or,Int.not_lt,Int.not_le]at hh;omega
theorem E7a {w:Api.World}(hw:Wsm w){k:PairKey}(h:(M1 w k).2.2=true):0<=H7 w k.BodyA/\0<=H7 w k.BodyB/\(M1 w k).1.Shape.Vertices.length<=1048576/\(M1 w k).2.1.Shape.Vertices.length<=1048576:=by
 have h1:=B3a hw k.BodyA k.FixtureA
 have h2:=B3a hw k.BodyB k.FixtureB;unfold M1 at h⊢;dsimp only at h⊢;split at h
 ·cases h
 ·rename_i hh;rw[if_neg hh];simp only[Bool.or_eq_true,Bool.not_eq_true',not_or,Bool.not_eq_false]at hh;exact⟨C9q hh.1,C9q hh.2,h1,h2⟩
def B2g(w:Api.World)(k:PairKey):Option PairKey:=
 if(!(M1 w k).2.2||(!(M1 w k).1.Sensor&& !(M1 w k).2.1.Sensor))=true then none
 else if A6f (M1 w k).1.Shape (V5 w k.BodyA) (M1 w k).2.1.Shape (V5 w k.BodyB)=true then some k else none
def ovL(w:Api.World):List PairKey:=if F2 w=0 then(fpL w.Bodies w.Joints).filterMap (B2g w)else []
theorem D9t(w:Api.World)(hf:Wfw w):(ovL w).length<=230400:=by
 unfold ovL;split
 ·exact Nat.le_trans (List.length_filterMap_le ..) (D1l _ _ hf.1 hf.2)
 ·simp
theorem D27(w:Api.World)(hw:Wsm w)(hf:Wfw w):A1 Tryz.prog D2m [.agg w.enc] [] (A2 4 PairKey.enc default (ovL w)) []:=by
 refine en1 hm A4 Tryz.func121 rfl rfl ?_;simp only[go_sem,go_sem_proc];refine A0 (S3 w hw) rfl ?_;simp only[go_sem,go_sem_proc];unfold ovL;by_cases hv:F2 w=0;rotate_left
 ·rw[if_pos (by simpa using hv),if_neg hv];exact O9 rfl
 rw[if_neg (by simpa using hv),if_pos hv];have hFP:=B1z w.Bodies w.Joints hf.1 hf.2 (λb hb f hfx=>(hw.2.2.2.2.1 b hb).2 f hfx) hw.2.1
 have hFl:=D1l w.Bodies w.Joints hf.1 hf.2;generalize fpL w.Bodies w.Joints=ks at hFP hFl⊢;refine A0 hFP rfl ?_;simp only[go_sem,go_sem_proc];refine B0 hm (ι:= {i:Nat // i<=ks.length}) (λi=> [(1, .thaw, .fptr w.enc),(3,mdA i.1, .sl 1 0 ((ks.take i.1).filterMap (B2g w)).length ((ks.take i.1).filterMap (B2g w)).length),(16, .share,A2 4 PairKey.enc default ks),(17, .share,sI ks.length),(18, .share,sI (i.1:Nat))]) (λi=> [(1, .arr 4 (A8 PairKey.enc default ((ks.take i.1).filterMap (B2g w))))]) (λi=>ks.length-i.1) ⟨0,Nat.zero_le _⟩ ?_ ?_
 ·simp only[List.take_zero,List.filterMap_nil];refine C0 [] [1] ?_;simp only[go_sem,go_sem_proc,A0g]
 ·rintro⟨i,hi⟩;dsimp only;have hn:i<ks.length->(ks.take (i+1)).filterMap (B2g w)=(ks.take i).filterMap (B2g w)++(B2g w (ks.getD i default)).toList:=λh=>C3k h
  have hfin:ks.length<=i->(ks.take i).filterMap (B2g w)=ks.filterMap (B2g w):=λh=>by rw[show i=ks.length by omega,List.take_length]
  have hln:=C9g (f:=B2g w) (l:=ks) i;generalize(ks.take i).filterMap (B2g w)=v at hn hfin hln⊢;simp only[go_sem,go_sem_proc];by_cases hlt:i<ks.length;rotate_left
  ·rw[if_neg (by omega),<-hfin (by omega)];exact eE_
  rw[if_pos (by omega)];refine⟨bE_,?_⟩;replace hn:=hn hlt;generalize ks.getD i default=k at hn⊢;have hu:=B2g.eq_1 w k
  have hok:=E7a hw (k:=k);refine A0 (D0a w k hw) rfl ?_;generalize M1 w k=A at hu hok⊢;simp only[go_sem,go_sem_proc];refine⟨λh=>⟨h,λh2=>by rw[h,h2];rfl⟩,?_⟩;by_cases hs:(!A.2.2||(!A.1.Sensor&& !A.2.1.Sensor))=true
  ·rw[if_pos hs]at hu⊢;rw[hu]at hn;simp only[Option.toList,List.append_nil]at hn;refine A7 ⟨i+1,by omega⟩ (by show ks.length-(i+1)<ks.length-i;omega) ?_;simp only[hn];refine C0 [] [] ?_;simp only[go_sem,go_sem_proc];exact eE_
  rw[if_neg hs]at hu⊢;have hok2:=hok (by simp only[Bool.or_eq_true,Bool.not_eq_true',not_or,Bool.not_eq_false]at hs;exact hs.1);refine A0 (B4i w k.BodyA hw.1 hok2.1) rfl ?_;simp only[go_sem,go_sem_proc];refine A0 (B4i w k.BodyB hw.1 hok2.2.1) rfl ?_;simp only[go_sem,go_sem_proc];refine A0 (D0c A.1.Shape (V5 w k.BodyA) A.2.1.Shape (V5 w k.BodyB) hok2.2.2.1 hok2.2.2.2) rfl ?_;generalize A6f A.1.Shape (V5 w k.BodyA) A.2.1.Shape (V5 w k.BodyB)=ov at hu⊢;cases ov with
  |false=>rw[if_neg (by simp)]at hu;rw[hu]at hn;simp only[Option.toList,List.append_nil]at hn;simp only[go_sem,go_sem_proc];refine A7 ⟨i+1,by omega⟩ (by show ks.length-(i+1)<ks.length-i;omega) ?_;simp only[hn];refine C0 [] [] ?_;simp only[go_sem,go_sem_proc];exact eE_
  |true=>rw[if_pos rfl]at hu;rw[hu]at hn;simp only[Option.toList]at hn;simp only[go_sem,go_sem_proc];refine⟨bE_,?_⟩;refine A7 ⟨i+1,by omega⟩ (by show ks.length-(i+1)<ks.length-i;omega) ?_;simp only[hn];refine C0 [] [] ?_;simp only[go_sem,go_sem_proc];exact eE_
def B3z {α:Type}(d:α)(p:α->Bool)(j:Nat)(s:Nat×List α):Nat×List α:=if p (s.2.getD j d)then s else(s.1+1,s.2.set s.1 (s.2.getD j d))
def dfR {α:Type}(d:α)(p:α->Bool)(l:List α):Nat->Nat×List α
 |0=>(0,l)
 |j+1=>B3z d p j (dfR d p l j)
theorem B8k {α:Type}{d:α}{p:α->Bool}{l:List α}: ∀j,j<=l.length->(dfR d p l j).1<=j/\(dfR d p l j).2.length=l.length/\(∀k,j<=k->(dfR d p l j).2.getD k d=l.getD k d)/\(dfR d p l j).2.take (dfR d p l j).1=(l.take j).filter λx=> !p x
 |0,_=>⟨Nat.le_refl _,rfl,λ_ _=>rfl,by simp[dfR]⟩
 |j+1,hj=>by
  obtain⟨h1,h2,h3,h4⟩:=B8k (d:=d) (p:=p) (l:=l) j (by omega);have hg:=h3 j (Nat.le_refl _)
  have ht:l.take (j+1)=l.take j++ [l.getD j d]:=by rw[List.take_add_one];congr 1;simp[List.getD,List.getElem?_eq_getElem (show j<l.length by omega)]
  unfold dfR B3z;rw[hg];by_cases hp:p (l.getD j d)=true
  ·rw[if_pos hp];refine⟨by omega,h2,λk hk=>h3 k (by omega),?_⟩;rw[ht,List.filter_append,h4,List.filter_cons,List.filter_nil,hp];simp
  ·rw[if_neg hp];refine⟨by show(dfR d p l j).1+1<=j+1;omega,by simpa using h2,λk hk=> ?_,?_⟩
   ·show((dfR d p l j).2.set (dfR d p l j).1 (l.getD j d)).getD k d=_;rw[<-h3 k (by omega)];simp only[List.getD,List.getElem?_set];rw[if_neg (by omega)]
   ·show((dfR d p l j).2.set (dfR d p l j).1 (l.getD j d)).take ((dfR d p l j).1+1)=_;rw[ht,List.filter_append,<-h4,List.take_add_one,List.take_set_of_le (Nat.le_refl _)];have hp':p (l.getD j d)=false:=by simpa using hp
    rw[List.filter_cons,List.filter_nil,hp'];simp[h2,show(dfR d p l j).1<l.length by omega]
theorem B5g {α:Type}{d:α}{p:α->Bool}{l:List α}: ∀j,j<=l.length->(∀k,k<j->p (l.getD k d)=false)->dfR d p l j=(j,l)
 |0,_,_=>rfl
 |j+1,hj,h=>by
  rw[dfR,B5g j (by omega) λk hk=>h k (by omega)];unfold B3z;simp only[h j (by omega),Bool.false_eq_true,if_false,Prod.mk.injEq,true_and];have:l.getD j d=l[j]:=by simp[List.getD,List.getElem?_eq_getElem (show j<l.length by omega)]
  rw[this,List.set_getElem_self]
def dfQ {α:Type}(enc:α->List AV)(d:α)(p:α->Bool)(l:List α)(zl:List AV):Sq:=(A8 enc d (dfR d p l l.length).2).over (dfR d p l l.length).1 ⟨l.length-(dfR d p l l.length).1,λ_=>zl⟩
theorem F8k {α:Type}{d:α}{p:α->Bool}{l:List α}:(dfR d p l l.length).1=(l.filter λx=> !p x).length:=by obtain⟨h1,h2,h3,h4⟩:=B8k (d:=d) (p:=p) (l:=l) l.length (Nat.le_refl _);rw[List.take_length]at h4;rw[<-h4,List.length_take,h2];omega
theorem F2n {α:Type}{enc:α->List AV}{d:α}{p:α->Bool}{l:List α}{zl:List AV}{z:Nat}{g:Nat->List AV}{m:Nat}(hm:m=(dfR d p l l.length).1)(hg: ∀k,g k=(dfQ enc d p l zl).g k):M4 (.dsl z m g) (A2 z enc d (l.filter λx=> !p x)):=by
 subst hm;unfold A2;rw[A11];refine⟨rfl,F8k,λk hk=> ?_⟩;rw[hg];obtain⟨h1,h2,h3,h4⟩:=B8k (d:=d) (p:=p) (l:=l) l.length (Nat.le_refl _);rw[List.take_length]at h4;have e:(dfQ enc d p l zl).g k=enc ((dfR d p l l.length).2.getD k d):=by show(if _ then _ else _:List AV)=_;rw[if_neg (by omega)];rfl
 rw[e,L7,<-h4];have:((dfR d p l l.length).2.take (dfR d p l l.length).1).getD k d=(dfR d p l l.length).2.getD k d:=by simp only[List.getD,List.getElem?_take];rw[if_pos hk]
 rw[this];exact L3 _
theorem B5w {P:Program}{m:Nat->Option A5}{f:FuncId}{avs:List AV}{b:Bool}{Q:ContR}{r:AV}(hc:A1 P f avs [] r [])(ha:F4 avs= [])(hb:b=true)(hK: @Ri Q b ⟨some r,[]⟩): @A4z P m f avs b Q:=
 A1k hc ⟨List.nodup_nil,λ_ h=>by cases h⟩ (λ_ h=>by cases h) (λa hav i hi=>by obtain⟨k,hk⟩:=List.getElem?_of_mem hav;have:=N3 hk i hi;rw[ha]at this;cases this) hb hK
theorem A64: ∀(a b:List AV),F4 (a++b)=F4 a++F4 b
 | [],b=>rfl
 |x::a,b=>by rw[List.cons_append,F4,F4,A64 a b,List.append_assoc]
theorem D67 {α:Type}{d:α}{p:α->Bool}{l:List α}:(A48 d p l= -1/\ ∀j,j<l.length->p (l.getD j d)=false)\/ ∃i:Nat,i<l.length/\A48 d p l=i/\p (l.getD i d)=true/\ ∀j,j<i->p (l.getD j d)=false:=by
 by_cases h: ∀j,j<l.length->p (l.getD j d)=false
 ·exact .inl ⟨A4j h,h⟩
 ·right;have: ∃i,i<l.length/\p (l.getD i d)=true/\ ∀j,j<i->p (l.getD j d)=false:=by
   have hex: ∃i,i<l.length/\p (l.getD i d)=true:=by
    apply Classical.byContradiction;intro hn;refine h λj hj=> ?_;cases hp:p (l.getD j d)with
    |false=>rfl
    |true=>exact absurd ⟨j,hj,hp⟩ hn
   obtain⟨i,hi,hp⟩:=hex;induction i using Nat.strongRecOn with
   |ind i ih=>
    by_cases hs: ∀j,j<i->p (l.getD j d)=false
    ·exact⟨i,hi,hp,hs⟩
    ·have: ∃j,j<i/\p (l.getD j d)=true:=by
      apply Classical.byContradiction;intro hn;refine hs λj hj=> ?_;cases hpj:p (l.getD j d)with
      |false=>rfl
      |true=>exact absurd ⟨j,hj,hpj⟩ hn
     obtain⟨j,hj,hpj⟩:=this;exact ih j hj (by omega) hpj
  obtain⟨i,hi,hp,hs⟩:=this;exact⟨i,hi,A86 hi hs hp,hp,hs⟩
theorem E4i {α:Type}{enc:α->List AV}{d:α}{p:α->Bool}{l:List α}{zl:List AV}(h: ∀j,j<l.length->p (l.getD j d)=false):dfQ enc d p l zl=A8 enc d l:=by unfold dfQ;rw[B5g l.length (Nat.le_refl _) h];unfold Sq.over A8;congr 1;funext k;rw[if_neg (by simp only;omega)]
def F4n:List AV:=([(.int .i64 0),(.int .i64 0),(.int .i64 0),(.int .i64 0),(.int .i64 0),(.int .i64 0),(.int .i64 0),(.int .i64 0),(.int .i64 0),(.int .i64 0),(.int .i64 0),(.bool false),(.int .i64 0),(.int .i64 0),(.bool false),(.int .i64 0),(.int .i64 0),(.int .i64 0),(.int .i64 0),(.bool false),(.int .i64 0),(.int .i64 0),(.int .i64 0),(.int .i64 0)]:List Value).map .sc
def G2v:List AV:= [sI 0,sI 0,sI 0,sI 0,sI 0, .sc (.slice none 0 0), .sc (.slice none 0 0), .sc (.slice none 0 0), .sc (.slice none 0 0),sI 0,sI 0]
def zW:Api.World:=⟨⟨0,⟨0,0⟩,0,0⟩,[],[],[],[],0,0⟩
theorem F4k:Wsm zW:=⟨Nat.zero_le _,Nat.zero_le _,Nat.zero_le _,Nat.zero_le _,(λb hb=>by cases hb),(λc hc=>by cases hc)⟩
theorem F7c {α:Type}{enc:α->List AV}{d:α}{p:α->Bool}{l:List α}{zl:List AV}:(dfQ enc d p l zl).n=l.length:=(B8k (d:=d) (p:=p) (l:=l) l.length (Nat.le_refl _)).2.1
def G2j(w:Api.World):List (Nat×A5):= [(48, .box [sI w.Settings.TimeStep,sI w.Settings.Gravity.X,sI w.Settings.Gravity.Y,sI w.Settings.Iterations,sI w.Settings.SleepSteps, .sl 336 0 w.Bodies.length w.Bodies.length, .sl 337 0 w.Joints.length w.Joints.length, .sl 338 0 w.Contacts.length w.Contacts.length, .sl 339 0 w.Overlaps.length w.Overlaps.length,sI w.NextID,sI w.Frame]),(80, .box G2v),(336, .arr 20 (A8 Body.enc default w.Bodies)),(337, .arr 24 (A8 Joint.enc default w.Joints)),(338, .arr 7 (A8 Contact.enc default w.Contacts)),(339, .arr 4 (A8 PairKey.enc default w.Overlaps))]
def G4f(w:Api.World)(id:Int)(nb:List Int):List (Nat×A5):=(1, .arr 1 (A8 B9 0 nb))::(G2j w++ [(144, .box [.fn (.func C3a) [] [.fptr [sI id]]])])
attribute [go_sem] G2j G4f
theorem G37(n:Int):0<=isq n:=by unfold isq;split <;> omega
theorem G1n(v:Vec):0<=A4k v:=G37 _
theorem B60 {x c:Int}(hc:c<=536870911)(h:c<=x):c<=sat x:=by unfold sat;split <;> (try split) <;> omega
theorem G3l {n:Int}(hn:0<=n):0<=A1n n 65536:=by
 unfold A1n;split
 ·omega
 ·have h1:=Int.tdiv_nonneg hn (show(0:Int)<=65536 by decide)
  have h2:=Int.tmod_nonneg (a:=n) 65536 hn;rename_i h;have h3:n.tdiv 65536<=n:=by rw[Int.tdiv_eq_ediv_of_nonneg hn];omega
  (repeat' split) <;> omega
theorem G00 {a b:Int}(ha:0<=a)(hb:0<=b):0<=C7 a b:=by
 unfold C7;have h1:=S4 a;have h2:=S4 b
 have h3:=B60 (by decide) ha;have h4:=B60 (by decide) hb;refine B60 (by decide) ?_;rw[IntKind.wrap_i64];omega
theorem G4a {a b:Int}(ha:0<=a)(hb:0<=b):0<=B5 a b:=by
 unfold B5;refine B60 (by decide) (G3l ?_);have h1:=S4 a;have h2:=S4 b
 have h3:=B60 (by decide) ha;have h4:=B60 (by decide) hb
 have h5:=Int.mul_nonneg h3 h4
 have h6:sat a*sat b<=536870911*536870911:=Int.mul_le_mul h1.2 h2.2 h4 (by decide);rw[IntKind.wrap_i64];omega
theorem G4e(s:Shape)(h:E7 s=0):0<=s.Radius:=by
 unfold E7 at h;split at h
 ·cases h
 ·simp only at h;split at h
  ·cases h
  ·split at h
   ·cases h
   ·split at h
    ·omega
    ·rename_i h1;split at h
     ·cases h
     ·rename_i h2;simp only[Bool.and_eq_true,Bool.or_eq_true,decide_eq_true_eq,beq_iff_eq,bne_iff_ne,ne_eq,not_and,not_or,Decidable.not_not]at h1 h2;by_cases h3:s.Kind=3
      ·have:=h1 h3;omega
      ·have:=h2 h3;omega
theorem brN(s:Shape):0<=A0j s:=by
 unfold A0j;simp only;split
 ·omega
 ·rename_i h;have hv:E7 s=0:=by simpa using h
  refine G00 ?_ (G4e s hv);have: ∀n,0<=itr (A01 s) n 0:=λn=>by
   induction n with
   |zero=>exact Int.le_refl _
   |succ n ih=>rw[E4];unfold A01;have:=G1n (s.Vertices.getD n default);simp only;split <;> omega
  exact this _
theorem mbN(s:Shape)(t0 t1:Transform):(E7 s=0->4<=J2 s t0 t1)/\J2 s t0 t1<=536870911:=by
 constructor
 ·intro h;unfold J2;simp only;rw[if_neg (by simp[h])];have h7:=G00 (G1n (M0 t1.Position t0.Position)) (G4a (a:=if A0d t0.Angle t1.Angle<IntKind.i64.wrap (0-A0d t0.Angle t1.Angle)then IntKind.i64.wrap (0-A0d t0.Angle t1.Angle)else A0d t0.Angle t1.Angle) (b:=A0j s) ?_ (brN s))
  ·generalize C7 (A4k (M0 t1.Position t0.Position)) _=v at*;unfold C7;have h1:=S4 v
   have h3:=B60 (c:=0) (by decide) h7
   have h4:sat 4=4:=by decide
   refine B60 (by decide) ?_;rw[h4,IntKind.wrap_i64];omega
  ·have: ∀x:Int,0<=(if x<IntKind.i64.wrap (0-x)then IntKind.i64.wrap (0-x)else x)\/x < -4611686018427387904\/4611686018427387904<x:=λx=>by
    rw[IntKind.wrap_i64];split <;> omega
   have hn: ∀a,-4611686018427387904<=I6 a/\I6 a<=4611686018427387904:=λa=>by
    have:=Int.tmod_lt_of_pos a (show(0:Int)<411776 by decide)
    have h2:=Int.lt_tmod_of_pos a (show(0:Int)<411776 by decide);unfold I6;simp only[IntKind.wrap_i64]
    (repeat' split) <;> omega
   rcases this (A0d t0.Angle t1.Angle)with h |h |h
   ·exact h
   ·have:=hn (IntKind.i64.wrap (I6 t1.Angle-I6 t0.Angle))
    unfold A0d at h;simp only at h;omega
   ·have:=hn (IntKind.i64.wrap (I6 t1.Angle-I6 t0.Angle))
    unfold A0d at h;simp only at h;omega
 ·unfold J2;simp only;split
  ·omega
  ·unfold C7;exact(S4 _).2
theorem G03(a b:Shape)(a0 a1 b0 b1:Transform)(ha:E7 a=0)(hb:E7 b=0):IntKind.i64.wrap (2*IntKind.i64.wrap (J2 a a0 a1+J2 b b0 b1))≠0:=by
 have h1:=mbN a a0 a1;have h2:=mbN b b0 b1
 have:=h1.1 ha;have:=h2.1 hb;have:=h1.2;have:=h2.2;simp only[IntKind.wrap_i64];omega
def A4u(a:Shape)(a0:Transform)(a1:Transform)(b:Shape)(b0:Transform)(b1:Transform)(v3:Int)(v4:Int)(i1:Nat)(s1:Int):(Int) ⊕ (Int×Bool):=let v5:=(A1p a0 a1 s1);let v6:=(A1p b0 b1 s1);let v7:=(A4q a v5 b v6);if v7<=512 then(.inr (s1,true))else(if 65536<(IntKind.i64.wrap (s1+(if(IntKind.i64.wrap ((IntKind.i64.wrap (v7*65536)).tdiv (IntKind.i64.wrap (2*(IntKind.i64.wrap (v3+v4))))))<1 then 1 else(IntKind.i64.wrap ((IntKind.i64.wrap (v7*65536)).tdiv (IntKind.i64.wrap (2*(IntKind.i64.wrap (v3+v4)))))))))then(.inr (0,false))else(.inl (IntKind.i64.wrap (s1+(if(IntKind.i64.wrap ((IntKind.i64.wrap (v7*65536)).tdiv (IntKind.i64.wrap (2*(IntKind.i64.wrap (v3+v4))))))<1 then 1 else(IntKind.i64.wrap ((IntKind.i64.wrap (v7*65536)).tdiv (IntKind.i64.wrap (2*(IntKind.i64.wrap (v3+v4)))))))))))
def Z1(a:Shape)(a0:Transform)(a1:Transform)(b:Shape)(b0:Transform)(b1:Transform):Int×Bool:=let v1:=(E7 a);let v2:=(E7 b);if((v1 != 0)||(v2 != 0))=true then((0,false))else(let v3:=(J2 a a0 a1);let v4:=(J2 b b0 b1);(match D4 (A4u a a0 a1 b b0 b1 v3 v4) 40 0 with | .inr r=>r | .inl s1=>(s1,true)))
theorem D01(a:Shape)(a0:Transform)(a1:Transform)(b:Shape)(b0:Transform)(b1:Transform)(h0:a.Vertices.length<=1048576)(h1:b.Vertices.length<=1048576):A1 Tryz.prog C8z [.agg a.enc, .agg a0.enc, .agg a1.enc, .agg b.enc, .agg b0.enc, .agg b1.enc] [] (.tup [sI ((Z1 a a0 a1 b b0 b1).1),sB ((Z1 a a0 a1 b b0 b1).2)]) []:=by
 refine enT hm A4 Tryz.func520 rfl rfl ?_;have:=G03 a b a0 a1 b0 b1
 have:=A1j
 have:=D28
 have:=B07
 have:=B3c
 have:=Z1.eq_1 a a0 a1 b b0 b1
 have:=λi_ s_=>A4u.eq_1 a a0 a1 b b0 b1 (J2 a a0 a1) (J2 b b0 b1) i_ s_
 have:=λx_ Q_ σ_=> @lp_ Tryz.prog Tryz.f520.ntmps [] x_ Q_ σ_ hm (IE (A4u a a0 a1 b b0 b1 (J2 a a0 a1) (J2 b b0 b1)) 0) (λ_=>True) 40 (λi_=> [(6, .share, .ptr 112 0 0 1),(7, .share, .ptr 128 0 0 1),(8, .share, .ptr 144 0 0 1),(9, .share, .ptr 160 0 0 1),(10, .share, .ptr 176 0 0 1),(11, .share, .ptr 192 0 0 1),(14, .share,sI (IntKind.i64.wrap (2*(IntKind.i64.wrap ((J2 a a0 a1)+(J2 b b0 b1)))))),(15, .share,sI (stE (A4u a a0 a1 b b0 b1 (J2 a a0 a1) (J2 b b0 b1)) i_ 0)),(35, .share,sI (i_:Int))]) (λi_=> [(112, .box [sI a.Kind,sI a.Radius,A2 2 Vec.enc default a.Vertices]),(128, .box [sI a0.Position.X,sI a0.Position.Y,sI a0.Angle]),(144, .box [sI a1.Position.X,sI a1.Position.Y,sI a1.Angle]),(160, .box [sI b.Kind,sI b.Radius,A2 2 Vec.enc default b.Vertices]),(176, .box [sI b0.Position.X,sI b0.Position.Y,sI b0.Angle]),(192, .box [sI b1.Position.X,sI b1.Position.Y,sI b1.Angle])]) [] rfl (λ_ _=>trivial) (by simp[go_sem]) (by simp[go_sem,A6]) (by simp[go_sem]);exact J1
def E77:List AV:=([(.int .i64 0),(.int .i64 0),(.slice none 0 0),(.int .i64 0),(.int .i64 0),(.int .i64 0),(.bool false),(.int .i64 0),(.int .i64 0),(.int .i64 0)]:List Value).map .sc
theorem B4m(l:List Fixture)(f:FuncId)(first cap:List AV)(p:Fixture->Bool)(hl:l.length<=4194304)(h1:F4 first= [])(h2:F4 cap= [])
  (hp: ∀x∈l,A1 Tryz.prog f (first++ [.agg x.enc]++cap) [] (sB (p x)) []):
  A1 Tryz.prog B67 [.sl 1 0 l.length l.length, .fn (.func f) first cap] [(1, .arr 10 (A8 Fixture.enc default l))] (sI (A48 default p l)) [(1, .arr 10 (A8 Fixture.enc default l))]:=by
 refine F0n hm A4 Tryz.func570 rfl rfl ?_;refine E0 hm ?_;simp only[go_sem,go_sem_proc];refine B0 hm (ι:= {i:Nat // i<=l.length/\ ∀j,j<i->p (l.getD j default)=false}) (λi=> [(0, .share, .sl 1 0 l.length l.length),(1, .share, .fn (.func f) first cap),(7, .share,sI l.length),(8, .share,sI i.1)])
  (λi=> [(1, .arr 10 (A8 Fixture.enc default l))]) (λi=>l.length-i.1) ⟨0,by omega,λj hj=>by omega⟩ ?_ ?_
 ·refine B6 [] [] (by simp[go_sem]) (by simp[A6,go_sem]) (by simp[go_sem,A6]) ?_;simp only[go_sem,go_sem_proc];exact⟨(AV.ren_id (.fn (.func f) first cap)).symm,λi hi=>by rw[h1,h2]at hi;cases hi⟩
 ·rintro⟨i,hi,hs⟩;simp only[go_sem,go_sem_proc];split
  ·rename_i hlt;have hlt:i<l.length:=by omega
   refine⟨⟨by omega,by omega⟩,?_⟩;have hx:=hp (l.getD i default) (B7 default hlt);rw[List.append_assoc]at hx;refine B5w hx (by simp[A64,h1,h2,F4,AV.ids]) rfl ?_;simp only[go_sem,go_sem_proc];cases hpx:p (l.getD i default)with
   |true=>rw[if_pos rfl];refine C8 [.share] [] [] rfl rfl (by simp[go_sem]) (by simp[A6,go_sem]) (by simp[go_sem,A6]) ?_;simp only[go_sem,go_sem_proc];exact(A86 hlt hs hpx).symm
   |false=>rw[if_neg (by simp)];refine A7 ⟨i+1,by omega,λj hj=>by rcases Nat.lt_succ_iff_lt_or_eq.1 hj with h |rfl;exact hs j h;exact hpx⟩ (by show l.length-(i+1)<l.length-i;omega) ?_;refine B6 [] [] (by simp[go_sem]) (by simp[A6,go_sem]) (by simp[go_sem,A6]) ?_;simp only[go_sem,go_sem_proc];exact⟨(AV.ren_id (.fn (.func f) first cap)).symm,(λi hi=>by rw[h1,h2]at hi;cases hi),(by rw[IntKind.wrap_i64];omega)⟩
  ·rename_i hge;refine C8 [.share] [] [] rfl rfl (by simp[go_sem]) (by simp[A6,go_sem]) (by simp[go_sem,A6]) ?_;simp only[go_sem,go_sem_proc];exact(A4j λj hj=>hs j (by omega)).symm
theorem B6u(l:List Fixture)(f:FuncId)(first cap:List AV)(p:Fixture->Bool)(hl:l.length<=4194304)(h1:F4 first= [])(h2:F4 cap= [])
  (hp: ∀x∈l,A1 Tryz.prog f (first++ [.agg x.enc]++cap) [] (sB (p x)) []):
  A1 Tryz.prog B6d [.sl 1 0 l.length l.length, .fn (.func f) first cap] [(1, .arr 10 (A8 Fixture.enc default l))] (.sl 1 0 (dfR default p l l.length).1 l.length) [(1, .arr 10 (dfQ Fixture.enc default p l E77))]:=by
 refine F0n hm A4 Tryz.func551 rfl rfl ?_;refine E0 hm ?_;simp only[go_sem,go_sem_proc];refine A1k (B4m l f first cap p hl h1 h2 hp) (by simp[okO]) (by simp[upd]) ?_ rfl ?_
 ·intro a ha i hi;simp only[List.mem_cons,List.not_mem_nil,or_false]at ha;rcases ha with rfl |rfl
  ·simp only[AV.ids,List.mem_singleton]at hi;subst hi;rfl
  ·simp only[AV.ids,h1,h2]at hi;cases hi
 simp only[go_sem,go_sem_proc];rcases D67 (d:=default) (p:=p) (l:=l)with⟨e,h0⟩ |⟨i0,hi0,e,hp0,hs0⟩
 ·rw[e,if_pos (by decide),E4i h0,B5g l.length (Nat.le_refl _) h0];refine C8 [.share] [] [] rfl rfl (by simp[go_sem]) (by simp[A6,go_sem]) (by simp[go_sem,A6]) ?_;simp only[go_sem,go_sem_proc]
 rw[e,if_neg (by simp)];refine B0 hm (ι:= {j:Nat // j<=l.length}) (λj=> [(0, .share, .sl 1 0 l.length l.length),(1, .share, .fn (.func f) first cap),(5, .share,sI ((dfR default p l j.1).1)),(6, .share,sI j.1)])
  (λj=> [(1, .arr 10 (A8 Fixture.enc default (dfR default p l j.1).2))]) (λj=>l.length-j.1) ⟨i0+1,hi0⟩ ?_ ?_
 ·have e1:dfR default p l (i0+1)=(i0,l):=by
   rw[dfR,B5g i0 (by omega) hs0];unfold B3z;rw[if_pos hp0]
  rw[e1];refine B6 [] [] (by simp[go_sem]) (by simp[A6,go_sem]) (by simp[go_sem,A6]) ?_;simp only[go_sem,go_sem_proc];exact⟨(AV.ren_id (.fn (.func f) first cap)).symm,(λi hi=>by rw[h1,h2]at hi;cases hi),(by rw[IntKind.wrap_i64];omega)⟩
 ·rintro⟨j,hj⟩;obtain⟨g1,g2,g3,g4⟩:=B8k (d:=default) (p:=p) (l:=l) j hj;dsimp only;have hnext:=λhjl:j<l.length=>(show dfR default p l (j+1)=B3z default p j (dfR default p l j)from rfl);generalize hst:dfR default p l j=st at g1 g2 g3 g4 hnext⊢;obtain⟨i,m⟩:=st;dsimp only at g1 g2 g3 g4 hnext⊢;simp only[go_sem,go_sem_proc];split
  ·rename_i hlt;have hlt:j<l.length:=by omega
   have hgj:=g3 j (Nat.le_refl j)
   have hn:=hnext hlt;simp only[hgj];refine⟨⟨g2.symm,by omega,by omega⟩,g2.symm,?_⟩;have hx:=hp (l.getD j default) (B7 default hlt);rw[List.append_assoc]at hx;refine B5w hx (by simp[A64,h1,h2,F4,AV.ids]) rfl ?_;simp only[go_sem,go_sem_proc];unfold B3z at hn;dsimp only at hn;rw[hgj]at hn;cases hpx:p (l.getD j default)with
   |true=>rw[hpx,if_pos rfl]at hn;rw[if_neg (by simp)];refine A7 ⟨j+1,hlt⟩ (by show l.length-(j+1)<l.length-j;omega) ?_;simp only[hn];refine B6 [] [] (by simp[go_sem]) (by simp[A6,go_sem]) (by simp[go_sem,A6]) ?_;simp only[go_sem,go_sem_proc];exact⟨(AV.ren_id (.fn (.func f) first cap)).symm,(λi hi=>by rw[h1,h2]at hi;cases hi),(by rw[IntKind.wrap_i64];omega)⟩
   |false=>rw[hpx,if_neg (by simp)]at hn;rw[if_pos rfl];refine⟨⟨g2.symm,by omega,by omega⟩,g2.symm,?_⟩;refine A7 ⟨j+1,hlt⟩ (by show l.length-(j+1)<l.length-j;omega) ?_;simp only[hn];rw[B1v (l.getD j default) (by omega) (by rw[<-hgj];rfl)];refine B6 [] [] (by simp[go_sem]) (by simp[A6,go_sem]) (by simp[go_sem,A6]) ?_;simp only[go_sem,go_sem_proc];exact⟨(AV.ren_id (.fn (.func f) first cap)).symm,(λi hi=>by rw[h1,h2]at hi;cases hi),(by rw[IntKind.wrap_i64];omega),(by rw[IntKind.wrap_i64];omega)⟩
  ·rename_i hge;obtain rfl:j=l.length:=by omega
   have e1:((l.length:Int)-(i:Int)).toNat=l.length-i:=by omega
   have e2:((i:Int)-0).toNat=i:=by omega
   rw[e1,e2];refine⟨⟨g2.symm,by omega,by omega,by omega⟩,g2.symm,⟨g2.symm,by omega,by omega,by omega⟩,?_⟩;unfold dfQ;rw[hst];refine C8 [.share] [] [] rfl rfl (by simp[go_sem]) (by simp[A6,go_sem]) (by simp[go_sem,A6]) ?_;simp only[go_sem,go_sem_proc];exact B1t
def T3(b:Body):List Fixture:=b.Fixtures.filter λp=> !p.Sensor
theorem E1e {b:Body}{f:Fixture}(h:f∈T3 b):f∈b.Fixtures:=(List.mem_filter.1 h).1
theorem E1d(b:Body):(T3 b).length<=b.Fixtures.length:=List.length_filter_le ..
theorem C2e(p:Fixture):A1 Tryz.prog B1i [.agg p.enc] [] (sB p.Sensor) []:=by refine en1 hm A4 Tryz.func553 rfl rfl ?_;simp only[go_sem,go_sem_proc]
theorem B43(b:Body)(h0:b.Fixtures.length<=1048576):A1 Tryz.prog C6w [.agg b.enc] [] (A2 10 Fixture.enc default (T3 b)) []:=by refine en1 hm A4 Tryz.func519 rfl rfl ?_;simp only[go_sem,go_sem_proc];refine K1 ev_ J8 (C2n b.Fixtures h0) ?_;simp only[go_sem,go_sem_proc];refine E3 [true,true] [(1,96)] (B6u b.Fixtures B1i [] [] (λp=>p.Sensor) (by omega) rfl rfl (λp _=>C2e p)) (by simp) (by simp) (by simp[A6]) (by simp[go_sem]) ?_;simp only[go_sem,go_sem_proc];exact⟨F7c.symm,F2n rfl λ_=>rfl⟩
def iw2(x y z:Body)(p:Fixture)(k:Nat)(s:Int):Int:=
 if A0e p ((T3 z).getD k default)=true then
  (if(Z1 p.Shape x.Transform y.Transform ((T3 z).getD k default).Shape z.Transform z.Transform).2=true/\0<(Z1 p.Shape x.Transform y.Transform ((T3 z).getD k default).Shape z.Transform z.Transform).1 then
    (if(Z1 p.Shape x.Transform y.Transform ((T3 z).getD k default).Shape z.Transform z.Transform).1<s then(Z1 p.Shape x.Transform y.Transform ((T3 z).getD k default).Shape z.Transform z.Transform).1 else s)else s)else s
def iw1(x y z:Body)(i:Nat)(s:Int):Int:=itr (iw2 x y z ((T3 y).getD i default)) (T3 z).length s
def F0v(x y z:Body):Int:=itr (iw1 x y z) (T3 y).length 65536
theorem D5k(x y z:Body)(hy:Body.sm y)(hz:Body.sm z):A1 Tryz.prog D3y [.agg x.enc, .agg y.enc, .agg z.enc] [] (sI (F0v x y z)) []:=by
 have l1:=E1d y
 have l2:=E1d z
 have m1:=hy.1
 have m2:=hz.1;unfold F0v;refine en1 hm A4 Tryz.func446 rfl rfl ?_;simp only[go_sem,go_sem_proc];refine A0 (B43 y hy.1) rfl ?_;simp only[go_sem,go_sem_proc];refine B0 hm (ι:= {i:Nat // i<=(T3 y).length}) (λi=> [(3, .thaw, .fptr x.enc),(4, .thaw, .fptr y.enc),(5, .thaw, .fptr z.enc),(7, .share,sI (itr (iw1 x y z) i.1 65536)),(15, .share,A2 10 Fixture.enc default (T3 y)),(16, .share,sI ((T3 y).length)),(17, .share,sI (i.1:Nat))]) (λi=> []) (λi=>(T3 y).length-i.1) ⟨0,Nat.zero_le _⟩ ?_ ?_
 ·simp only[H3];refine C0 [] [] ?_;simp only[go_sem,go_sem_proc,A0g]
 ·rintro⟨i,hi⟩;dsimp only;have hn1:itr (iw1 x y z) (i+1) 65536=iw1 x y z i (itr (iw1 x y z) i 65536):=E4 ..
  have hfin:(T3 y).length<=i->itr (iw1 x y z) i 65536=itr (iw1 x y z) (T3 y).length 65536:=λh=>by rw[show i=(T3 y).length by omega]
  generalize itr (iw1 x y z) i 65536=v at hn1 hfin⊢;simp only[go_sem,go_sem_proc];by_cases hlt:i<(T3 y).length;rotate_left
  ·rw[if_neg (by omega),<-hfin (by omega)]
  rw[if_pos (by omega)];refine⟨bE_,?_⟩;rw[iw1.eq_1 x y z i v]at hn1;have hp:=hy.2 _ (E1e (B7 default hlt));generalize(T3 y).getD i default=p at hn1 hp⊢;refine A0 (B43 z hz.1) rfl ?_;simp only[go_sem,go_sem_proc];refine B0 hm (ι:= {j:Nat // j<=(T3 z).length}) (λj=> [(3, .share, .fptr x.enc),(4, .share, .fptr y.enc),(5, .share, .fptr z.enc),(15, .share,A2 10 Fixture.enc default (T3 y)),(16, .share,sI ((T3 y).length)),(17, .share,sI (i:Nat)),(9, .thaw, .fptr p.enc),(7, .share,sI (itr (iw2 x y z p) j.1 v)),(22, .share,A2 10 Fixture.enc default (T3 z)),(23, .share,sI ((T3 z).length)),(24, .share,sI (j.1:Nat))]) (λj=> []) (λj=>(T3 z).length-j.1) ⟨0,Nat.zero_le _⟩ ?_ ?_
  ·simp only[H3];refine C0 [] [] ?_;simp only[go_sem,go_sem_proc,A0g]
  ·rintro⟨j,hj⟩;dsimp only;have hn2:itr (iw2 x y z p) (j+1) v=iw2 x y z p j (itr (iw2 x y z p) j v):=E4 ..
   have hfin2:(T3 z).length<=j->itr (iw2 x y z p) j v=itr (iw2 x y z p) (T3 z).length v:=λh=>by rw[show j=(T3 z).length by omega]
   generalize itr (iw2 x y z p) j v=u at hn2 hfin2⊢;simp only[go_sem,go_sem_proc];by_cases hlt2:j<(T3 z).length;rotate_left
   ·rw[if_neg (by omega)];refine A7 ⟨i+1,by omega⟩ (by show(T3 y).length-(i+1)<(T3 y).length-i;omega) ?_;rw[hn1,<-hfin2 (by omega)];refine C0 [] [] ?_;simp only[go_sem,go_sem_proc];exact eE_
   rw[if_pos (by omega)];refine⟨bE_,?_⟩;have hu:=iw2.eq_1 x y z p j u
   have hq:=hz.2 _ (E1e (B7 default hlt2));generalize(T3 z).getD j default=q at hu hq⊢;refine A0 (A82 p q) rfl ?_;generalize A0e p q=sc at hu⊢;cases sc with
   |false=>rw[if_neg (by simp)]at hu;rw[hu]at hn2;simp only[go_sem,go_sem_proc];refine A7 ⟨j+1,by omega⟩ (by show(T3 z).length-(j+1)<(T3 z).length-j;omega) ?_;simp only[hn2];refine C0 [] [] ?_;simp only[go_sem,go_sem_proc];exact eE_
   |true=>
    rw[if_pos rfl]at hu;simp only[go_sem,go_sem_proc];refine A0 (D01 p.Shape x.Transform y.Transform q.Shape z.Transform z.Transform hp hq) rfl ?_;generalize Z1 p.Shape x.Transform y.Transform q.Shape z.Transform z.Transform=t at hu⊢;obtain⟨t1,t2⟩:=t;dsimp only at hu;simp only[go_sem,go_sem_proc];by_cases ht:(t2&&decide (0<t1))=true
    ·rw[if_pos ht];rw[if_pos (show t2=true/\0<t1 by simpa using ht)]at hu;rw[hu]at hn2;refine A7 ⟨j+1,by omega⟩ (by show(T3 z).length-(j+1)<(T3 z).length-j;omega) ?_;simp only[hn2];refine C0 [] [] ?_;simp only[go_sem,go_sem_proc];exact eE_
    ·rw[if_neg ht];rw[if_neg (show ¬(t2=true/\0<t1)by simpa using ht)]at hu;rw[hu]at hn2;refine A7 ⟨j+1,by omega⟩ (by show(T3 z).length-(j+1)<(T3 z).length-j;omega) ?_;simp only[hn2];refine C0 [] [] ?_;simp only[go_sem,go_sem_proc];exact eE_
def fiS(bs as_:List Body)(js:List Joint)(i:Nat)(k:Nat)(s:Int):Int:=
 if(decide (k≠i)&& !(js.any (C88 (as_.getD i default).ID (as_.getD k default).ID)))=true then
  (if F0v (bs.getD i default) (as_.getD i default) (as_.getD k default)<s then F0v (bs.getD i default) (as_.getD i default) (as_.getD k default)else s)else s
def fiV(bs as_:List Body)(js:List Joint)(i:Nat):Int:=itr (fiS bs as_ js i) as_.length 65536
def fiR(bs as_:List Body)(js:List Joint)(i:Nat):Int×Bool:=
 if(!(as_.getD i default).Bullet||(as_.getD i default).Kind != 3||(as_.getD i default).Asleep)=true then(0,false)
 else if fiV bs as_ js i=65536 then(0,false)else(fiV bs as_ js i,true)
theorem D2w(bs as_:List Body)(js:List Joint)(i:Nat)(hlen:bs.length=as_.length)(hi:i<as_.length)(hl:as_.length<=1048576)(hb: ∀b∈bs,Body.sm b)(ha: ∀b∈as_,Body.sm b)(hj:js.length<=1048576):
  A1 Tryz.prog D2a [A2 20 Body.enc default bs,A2 20 Body.enc default as_,A2 24 Joint.enc default js,sI (i:Nat)] [] (.tup [sI ((fiR bs as_ js i).1),sB ((fiR bs as_ js i).2)]) []:=by
 have hr:=fiR.eq_1 bs as_ js i
 have hbi:=ha _ (B7 default hi);refine enT hm A4 Tryz.func325 rfl rfl ?_;simp only[go_sem,go_sem_proc];rw[if_neg (by simp[hlen];omega)];refine⟨bE_,?_⟩;generalize hb0:as_.getD i default=b at hr hbi⊢;have hbb:=hb _ (B7 (l:=bs) (i:=i) default (by omega));by_cases hs:(!b.Bullet||b.Kind != 3||b.Asleep)=true
 ·rw[if_pos hs]at hr⊢;rw[hr];exact⟨rfl,rfl⟩
 rw[if_neg hs]at hr⊢;rw[hr];unfold fiV;refine B0 hm (ι:= {j:Nat // j<=as_.length}) (λj=> [(0, .share,A2 20 Body.enc default bs),(2, .share,A2 24 Joint.enc default js),(3, .share,sI (i:Nat)),(10, .thaw, .fptr b.enc),(11, .share,sI (itr (fiS bs as_ js i) j.1 65536)),(45, .share,A2 20 Body.enc default as_),(46, .share,sI as_.length),(47, .share,sI (j.1:Nat))]) (λj=> []) (λj=>as_.length-j.1) ⟨0,Nat.zero_le _⟩ ?_ ?_
 ·simp only[H3];refine C0 [] [] ?_;simp only[go_sem,go_sem_proc,A0g]
 ·rintro⟨k,hk⟩;dsimp only;have hn:itr (fiS bs as_ js i) (k+1) 65536=fiS bs as_ js i k (itr (fiS bs as_ js i) k 65536):=E4 ..
  have hfin:as_.length<=k->itr (fiS bs as_ js i) k 65536=itr (fiS bs as_ js i) as_.length 65536:=λh=>by rw[show k=as_.length by omega]
  generalize itr (fiS bs as_ js i) k 65536=v at hn hfin⊢;simp only[go_sem,go_sem_proc];by_cases hlt:k<as_.length;rotate_left
  ·rw[if_neg (by omega),<-hfin (by omega)];by_cases hv:v=65536
   ·rw[if_pos (by simpa using hv),if_pos hv];exact⟨rfl,rfl⟩
   ·rw[if_neg (by simpa using hv),if_neg hv];exact⟨rfl,rfl⟩
  rw[if_pos (by omega)];refine⟨bE_,?_⟩;rw[fiS.eq_1 bs as_ js i k v,hb0]at hn;have hok:=ha _ (B7 default hlt);generalize as_.getD k default=o at hn hok⊢;refine A0 (B1y js b.ID o.ID hj) rfl ?_;generalize js.any (C88 b.ID o.ID)=c at hn⊢;simp only[go_sem,go_sem_proc];by_cases hc:(((k:Nat):Int) != ((i:Nat):Int)&& !c)=true
  ·rw[if_pos hc];rw[if_pos (show(decide (k≠i)&& !c)=true by simp at hc⊢;exact⟨by omega,hc.2⟩)]at hn;refine⟨by omega,?_⟩;refine A0 (D5k (bs.getD i default) b o hbi hok) rfl ?_;simp only[go_sem,go_sem_proc];refine A7 ⟨k+1,by omega⟩ (by show as_.length-(k+1)<as_.length-k;omega) ?_;simp only[hn];refine C0 [] [] ?_;simp only[go_sem,go_sem_proc];exact eE_
  ·rw[if_neg hc];rw[if_neg (show ¬(decide (k≠i)&& !c)=true by simp at hc⊢;intro h;exact hc (by omega))]at hn;refine A7 ⟨k+1,by omega⟩ (by show as_.length-(k+1)<as_.length-k;omega) ?_;simp only[hn];refine C0 [] [] ?_;simp only[go_sem,go_sem_proc];exact eE_
def stR(bs as_:List Body)(js:List Joint)(i:Nat):Body×Bool:=if(fiR bs as_ js i).2=true then({as_.getD i default with Transform:=A1p (bs.getD i default).Transform (as_.getD i default).Transform (fiR bs as_ js i).1},true)else(as_.getD i default,false)
theorem F1g(bs as_:List Body)(js:List Joint)(i:Nat)(hlen:bs.length=as_.length)(hi:i<as_.length)(hl:as_.length<=1048576)(hb: ∀b∈bs,Body.sm b)(ha: ∀b∈as_,Body.sm b)(hj:js.length<=1048576):
  A1 Tryz.prog E9o [A2 20 Body.enc default bs,A2 20 Body.enc default as_,A2 24 Joint.enc default js,sI (i:Nat)] [] (.tup [.agg (stR bs as_ js i).1.enc,sB ((stR bs as_ js i).2)]) []:=by
 have hF:=D2w bs as_ js i hlen hi hl hb ha hj
 have hr:=stR.eq_1 bs as_ js i
 have hbi:=ha _ (B7 default hi);generalize fiR bs as_ js i=r at hF hr;obtain⟨r1,r2⟩:=r;dsimp only at hr hF;rw[hr];refine A63 48 [(8,some (some 20)),(9,none)] hm A4 Tryz.func197 rfl ?_;cases r2 with
 |false=>rw[if_neg (by simp)];simp only[go_sem,go_sem_proc];rw[if_neg (by split <;> simp <;> omega)];refine⟨bE_,?_⟩;refine A0 (A71 _ hbi) rfl ?_;simp only[go_sem,go_sem_proc];refine A0 hF rfl ?_;simp only[go_sem,go_sem_proc]
 |true=>rw[if_pos rfl];simp only[go_sem,go_sem_proc];rw[if_neg (by split <;> simp <;> omega)];refine⟨bE_,?_⟩;refine A0 (A71 _ hbi) rfl ?_;simp only[go_sem,go_sem_proc];refine A0 hF rfl ?_;simp only[go_sem,go_sem_proc];refine⟨by omega,?_⟩;refine A0 (B07 (bs.getD i default).Transform (as_.getD i default).Transform r1) rfl ?_;simp only[go_sem,go_sem_proc]
def stB(bs as_:List Body)(js:List Joint)(n:Nat):List Body:=(List.range n).map λi=>(stR bs as_ js i).1
def F1q(bs as_:List Body)(js:List Joint)(i:Nat):Option Api.Event:=if(stR bs as_ js i).2=true then some ⟨8,⟨(stR bs as_ js i).1.ID,0,0,0⟩⟩else none
def B1g(bs as_:List Body)(js:List Joint)(n:Nat):List Api.Event:=(List.range n).filterMap (F1q bs as_ js)
theorem E0e(bs as_:List Body)(js:List Joint)(n:Nat):(stB bs as_ js n).length=n:=by simp[stB]
theorem E52(bs as_:List Body)(js:List Joint)(n:Nat):(B1g bs as_ js n).length<=n:=Nat.le_trans (List.length_filterMap_le ..) (by simp)
theorem F62(bs as_:List Body)(js:List Joint)(n:Nat):stB bs as_ js (n+1)=stB bs as_ js n++ [(stR bs as_ js n).1]:=by simp[stB,List.range_succ]
theorem F4b(bs as_:List Body)(js:List Joint)(n:Nat):B1g bs as_ js (n+1)=B1g bs as_ js n++(F1q bs as_ js n).toList:=by simp only[B1g,List.range_succ,List.filterMap_append];congr 1
theorem E2i(bs as_:List Body)(js:List Joint)(hlen:bs.length=as_.length)(hl:as_.length<=1048576)(hb: ∀b∈bs,Body.sm b)(ha: ∀b∈as_,Body.sm b)(hj:js.length<=1048576):
  A1 Tryz.prog E1m [A2 20 Body.enc default bs,A2 20 Body.enc default as_,A2 24 Joint.enc default js] [] (.tup [A2 20 Body.enc default (stB bs as_ js as_.length), .sl 1 0 (B1g bs as_ js as_.length).length (B1g bs as_ js as_.length).length]) [(1, .arr 5 (A8 Api.Event.enc default (B1g bs as_ js as_.length)))]:=by
 refine A7s hm A4 Tryz.func117 rfl rfl ?_;simp only[go_sem,go_sem_proc];refine B0 hm (ι:= {i:Nat // i<=as_.length}) (λi=> [(0, .share,A2 20 Body.enc default bs),(1, .share,A2 20 Body.enc default as_),(2, .share,A2 24 Joint.enc default js),(8,mdA i.1, .sl 2 0 (stB bs as_ js i.1).length (stB bs as_ js i.1).length),(9,mdA i.1, .sl 1 0 (B1g bs as_ js i.1).length (B1g bs as_ js i.1).length),(14, .share,sI as_.length),(15, .share,sI (i.1:Nat))]) (λi=> [(1, .arr 5 (A8 Api.Event.enc default (B1g bs as_ js i.1))),(2, .arr 20 (A8 Body.enc default (stB bs as_ js i.1)))]) (λi=>as_.length-i.1) ⟨0,Nat.zero_le _⟩ ?_ ?_
 ·simp only[show B1g bs as_ js 0= []from rfl,show stB bs as_ js 0= []from rfl];refine C0 [] [1,2] ?_;simp only[go_sem,go_sem_proc]
 ·rintro⟨i,hi⟩;dsimp only;have hB:=F62 bs as_ js i
  have hE:=F4b bs as_ js i
  have lB:=E0e bs as_ js i
  have lE:=E52 bs as_ js i
  have fB:as_.length<=i->stB bs as_ js i=stB bs as_ js as_.length:=λh=>by rw[show i=as_.length by omega]
  have fE:as_.length<=i->B1g bs as_ js i=B1g bs as_ js as_.length:=λh=>by rw[show i=as_.length by omega]
  generalize stB bs as_ js i=B at hB lB fB⊢;generalize B1g bs as_ js i=E at hE lE fE⊢;simp only[go_sem,go_sem_proc];by_cases hlt:i<as_.length;rotate_left
  ·rw[if_neg (by omega),<-fB (by omega),<-fE (by omega)];refine V7 [.thaw, .share] [] [] ?_;simp only[go_sem,go_sem_proc]
  rw[if_pos (by omega)];refine A0 (F1g bs as_ js i hlen hlt hl hb ha hj) rfl ?_;rw[F1q.eq_1 bs as_ js i]at hE;generalize stR bs as_ js i=r at hB hE⊢;obtain⟨r1,r2⟩:=r;dsimp only at hB hE;cases r2 with
  |false=>rw[if_neg (by simp)]at hE;simp only[Option.toList,List.append_nil]at hE;simp only[go_sem,go_sem_proc];refine⟨bE_,?_⟩;refine A7 ⟨i+1,by omega⟩ (by show as_.length-(i+1)<as_.length-i;omega) ?_;simp only[hB,hE];refine C0 [] [] ?_;simp only[go_sem,go_sem_proc];exact eE_
  |true=>rw[if_pos rfl]at hE;simp only[Option.toList]at hE;simp only[go_sem,go_sem_proc];refine⟨bE_,bE_,?_⟩;refine A7 ⟨i+1,by omega⟩ (by show as_.length-(i+1)<as_.length-i;omega) ?_;simp only[hB,hE];refine C0 [] [] ?_;simp only[go_sem,go_sem_proc];exact eE_
theorem Y4 {P:Program}{m:Nat->Option A5}{f:FuncId}{avs:List AV}{b:Bool}{Q:ContR}{O O':List (Nat×A5)}{r:AV}(hc:A1 P f avs O r O')(h:okO O)(hk:O'.map (·.1)=O.map (·.1))(hm: ∀p∈O,m p.1=some p.2)
  (ha: ∀a∈avs,∀i∈a.ids,(ofL O i).isSome)(hb:b=true)(hK: @Ri Q b ⟨some r,O'⟩): @A4z P m f avs b Q:=by
 rw[<-D1y O']at hK;have hiff: ∀i,(ofL O' i).isSome↔(ofL O i).isSome:=λi=>by
  have key: ∀(l:List (Nat×A5)),(l.map (·.1)).Nodup->((ofL l i).isSome↔i∈l.map (·.1)):=λl hl=>by
   constructor
   ·intro hs;obtain⟨o,ho⟩:=Option.isSome_iff_exists.1 hs;exact List.mem_map_of_mem (f:=(·.1)) (A1i hl ho)
   ·intro hs;rw[List.mem_map]at hs;obtain⟨p,hp,rfl⟩:=hs;rw[B35 hl hp];rfl
  rw[key O' (by rw[hk];exact h.1),key O h.1,hk]
 refine⟨⟨some r,A3w id O'⟩,λ_=> ?_,λ_=>hb,hK⟩;have:=T7.mk (P:=P) (m:=m) (avs.map λ_=>true) avs O r O' id [] false hc (B1n ha)
  (λi o hi=>by rw[B5x];exact hm _ (A1i h.1 hi))
  (λi cs hi j hj=>h.2 _ (A1i h.1 hi) cs rfl j hj) (λi hi=>(hiff i).2 hi) (λi hi=> .inl ((hiff i).1 hi)) (by show(O'.map (·.1)).Nodup;rw[hk];exact h.1) (λe=>by cases e)
 simpa[AV.ren_id]using this
end Go.Abs
end
