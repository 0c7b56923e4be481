/- A part of the proof: contracts of functions that the statement reaches. -/
import Derived.Test.YtchcbiiammkhgaaGreatMK
import Derived.Shelf.Sort.Plain
import Derived.Shelf.Slices.Turned
import Derived.Ground.Names2Prog
import Derived.Shelf.Slices.CompactI
import Derived.Shelf.Slices.In.SortNone
import Derived.Ground.SlsfProg
import Derived.Shelf.SlSortCmp.WholeK
import Derived.Shelf.SlSortCmp.NoneTotal
import Derived.Test.YtchcbiiammkhgaaGreatProg
import Derived.Shelf.SlGeneric
set_option linter.unusedSimpArgs false
set_option linter.unusedVariables false
set_option linter.unnecessarySimpa false
set_option maxRecDepth 100000
set_option maxHeartbeats 2000000
noncomputable section
namespace Go.Abs
open Go.Proofs
open Api
def D5d(x:cO):Int:=x.eV.fV.X
def F0t(x:cO):Int:=x.eV.fY.X
def B5i(a b:cO):Bool:= !decide (F0t a<D5d b)
def nbI(a:cO)(l:List cO):List (cO×cO):=(l.takeWhile (B5i a)).map λb=>(a,b)
def nbP(l:List cO):Nat->List (cO×cO)
 |0=> []
 |i+1=>nbP l i++nbI (l.getD i dF_) (l.drop (i+1))
def C06(l:List cO):List (cO×cO):=nbP l l.length
def E55(p:cO×cO):List AV:= [.agg p.1.enc, .agg p.2.enc]
theorem E72(a:cO): ∀(m:List cO) (j:Nat),j<=m.length->(∀k,k<j->B5i a (m.getD k dF_)=true)->(j=m.length\/B5i a (m.getD j dF_)=false)->nbI a m=(m.take j).map λb=>(a,b)
 | [],j,hj,_,_=>by simp at hj;subst hj;rfl
 |b::m,0,_,_,h=>by
  rcases h with h |h
  ·simp at h
  ·simp only[yP]at h;simp[nbI,List.takeWhile,h]
 |b::m,j+1,hj,hk,h=>by have h0:=hk 0 o_;simp only[yP]at h0;have ih:=E72 a m j (by simpa using hj) (λk hk'=>by have:=hk (k+1) o_;simpa using this) (by rcases h with h |h;exact .inl (by simpa using h);exact .inr (by simpa using h));unfold nbI at ih⊢;rw[List.takeWhile_cons,zc h0,qw,ih,List.take_succ_cons,qw]
theorem F0x(l:List cO): ∀i,i<=l.length->(nbP l i).length<=(C06 l).length:=by
 have mono: ∀k i,(nbP l i).length<=(nbP l (i+k)).length:=by
  intro k;induction k with
  |zero=>intro i;exact ze _
  |succ k ih=>intro i;refine qd (ih i) ?_;rw[show i+(k+1)=(i+k)+1 by omega,nbP,zd];omega
 intro i hi;have:=mono (l.length-i) i;rwa[show i+(l.length-i)=l.length by omega]at this
theorem E4h(a:cO): ∀(m:List cO) (j:Nat),j<m.length->(∀k,k<=j->B5i a (m.getD k dF_)=true)->j+1<=(m.takeWhile (B5i a)).length
 | [],j,hj,_=>by simp at hj
 |b::m,j,hj,hk=>by
  have h0:=hk 0 o_;simp only[yP]at h0;rw[List.takeWhile_cons,zc h0,List.length_cons];cases j with
  |zero=>omega
  |succ j=>have:=E4h a m j (by simpa using hj) (λk hk'=>by have:=hk (k+1) o_;simpa using this);omega
theorem E73(l:List cO)(i j:Nat)(hi:i<l.length)(hj:j<(l.drop (i+1)).length)(hk: ∀k,k<=j->B5i (l.getD i dF_) ((l.drop (i+1)).getD k dF_)=true):
  (nbP l i++((l.drop (i+1)).take j).map λb=>(l.getD i dF_,b)).length<(C06 l).length:=by
 refine qH ?_ (F0x l (i+1) hi);rw[nbP,zd,zd];have:=E4h (l.getD i dF_) (l.drop (i+1)) j hj hk;unfold nbI;rw[z7,z7];have h2:((l.drop (i+1)).take j).length=j:=by rw[zt];omega
 omega
theorem E97(l:List cO)(i:Nat){z:Nat}{g:Nat->List AV}{n:Nat}(hn:n=l.length-(i+1))(hg: ∀k,g k=cO.enc (l.getD (i+1+k) dF_)):M9 (.dsl z n g) (.dsl z (l.drop (i+1)).length (I9 cO.enc dF_ (l.drop (i+1)))):=by subst hn;rw[U6];refine⟨rfl,by rw[qn],λk hk=> ?_⟩;rw[hg];unfold I9;rw[show(l.drop (i+1)).getD k dF_=l.getD (i+1+k) dF_ by simp[List.getD]];exact I5 _
theorem D92(l:List cO)(hl:l.length<=1048576):F15 Tryz.prog 465 [.dE [A4 5 cO.enc dF_ l]] E55 (C06 l):=by
 rintro I hE hB us W G Φ hr hlt hJ hd;refine E7v (T:= [(0, .cA, .fn (.yield I.l) [] []),(1, .cA, .dE [A4 5 cO.enc dF_ l])]) Tryz.func465 (by kernel_rfl) (cs2 A6 rfl) (by kernel_rfl) (yw (by kernel_rfl)) hr hlt hJ hd ?_ ?_
 ·intro t av ht;simp only[A2e]at ht;split at ht
  ·rename_i e;subst e;simpa using ht
  ·split at ht
   ·rename_i e;subst e;simpa using ht
   ·cases ht
 refine Yp.seq (Yp.plainN hm [(0, .cA, .fn (.yield I.l) [] []),(1, .cA, .dE [A4 5 cO.enc dF_ l]),(7, .cA,A4 5 cO.enc dF_ l),(8, .cA,sI l.length),(9, .cA,sI (0:Nat))] ?_ ?_)
 ·refine st_ ?_;refine A9 [] [] ?_;simp only[go_sem,go_sem_proc]
 refine Yp.block (Yp.loop (ι:= {i:Nat // i<=l.length}) (λi=> [(0, .cA, .fn (.yield I.l) [] []),(1, .cA, .dE [A4 5 cO.enc dF_ l]),(7, .cA,A4 5 cO.enc dF_ l),(8, .cA,sI l.length),(9, .cA,sI (i.1:Nat))]) (λi=>nbP l i.1) (λi=>l.length-i.1) ⟨0,zm _⟩ ?_);rintro⟨i,hi⟩;dsimp only;by_cases h:i<l.length
 ·refine Yp.seq (Yp.plainN hm [(0, .cA, .fn (.yield I.l) [] []),(1, .cA, .dE [A4 5 cO.enc dF_ l]),(7, .cA,A4 5 cO.enc dF_ l),(8, .cA,sI l.length),(9, .cA,sI (i:Nat)),(10, .cA,sB true)] ?_ ?_)
  ·refine st_ ?_;refine A9 [] [] (st_ ?_);simpa using h
  refine Yp.seq (Yp.cond (t:=true) rfl ?_);rw[zc rfl];refine Yp.skip hm ?_;refine Yp.seq (Yp.block (Yp.seq (Yp.plainN hm [(0, .cA, .fn (.yield I.l) [] []),(1, .cA, .dE [A4 5 cO.enc dF_ l]),(7, .cA,A4 5 cO.enc dF_ l),(8, .cA,sI l.length),(9, .cA,sI (i:Nat)),(3, .cA,sI i),(4, .eP, .dE (l.getD i dF_).enc)] ?_ ?_)))
  ·refine st_ ?_;refine⟨bE_,?_⟩;refine A9 [] [] (st_ ?_);exact⟨trivial,D0 _⟩
  refine Yp.seq (Yp.plainN hm [(0, .cA, .fn (.yield I.l) [] []),(1, .cA, .dE [A4 5 cO.enc dF_ l]),(7, .cA,A4 5 cO.enc dF_ l),(8, .cA,sI l.length),(9, .cA,sI (i:Nat)),(4, .eP, .dE (l.getD i dF_).enc),(17, .eP,A4 5 cO.enc dF_ (l.drop (i+1))),(18, .cA,sI ((l.drop (i+1)).length)),(19, .cA,sI (0:Nat))] ?_ ?_)
  ·refine st_ ?_;refine⟨⟨by rw[IntKind.wrap_i64];omega,by rw[IntKind.wrap_i64];omega⟩,?_⟩;refine A9 [] [] (st_ ?_);have hw:IntKind.i64.wrap ((i:Int)+1)=(i:Int)+1:=wo_
   have hw2:((i:Int)+1).toNat=i+1:=o_
   rw[hw,hw2];exact⟨E97 l i o_ λk=>rfl,by rw[qn];omega⟩
  have tail: ∀T':Slots,V5 [] (A19 T' []) [(0, .cA, .fn (.yield I.l) [] []),(1, .cA, .dE [A4 5 cO.enc dF_ l]),(7, .cA,A4 5 cO.enc dF_ l),(8, .cA,sI l.length),(9, .cA,sI (i:Nat))] []->Yp I Tryz.f465.ntmps (.region false [⟨some 38, .bin .add (.t 9) (.k (sI 1)),none,[]⟩,⟨some 9, .mov (.t 38),none,[]⟩]) (E4u (λT' p'=> ∃i',(λi=>l.length-i.1) i'<l.length-i/\T'=(λi: {i:Nat // i<=l.length}=> [(0, .cA, .fn (.yield I.l) [] []),(1, .cA, .dE [A4 5 cO.enc dF_ l]),(7, .cA,A4 5 cO.enc dF_ l),(8, .cA,sI l.length),(9, .cA,sI (i.1:Nat))]) i'/\p'=(λi: {i:Nat // i<=l.length}=>nbP l i.1) i') (D8u 0 λo x p=>(o=Out.normal\/o=Out.ret)/\p=C06 l)) T' (nbP l (i+1)):=by
   intro T' hT';refine Yp.plain (Wp.weak hT' (Wp.of_W hm _ (show @Wi Tryz.prog _ [] _ (⟨λo τ=>o= .normal/\V5 [] τ [(0, .cA, .fn (.yield I.l) [] []),(1, .cA, .dE [A4 5 cO.enc dF_ l]),(7, .cA,A4 5 cO.enc dF_ l),(8, .cA,sI l.length),(9, .cA,sI (i+1:Nat))] []⟩) _ from ?_))|>.mono λo τ ho=> ?_)
   ·refine st_ ?_;refine A9 [] [] (st_ ?_);rw[IntKind.wrap_i64];omega
   ·obtain⟨rfl,ho⟩:=ho;exact⟨_,⟨⟨i+1,h⟩,by show l.length-(i+1)<l.length-i;omega,rfl,rfl⟩,ho⟩
  refine Yp.block (Yp.pre_eq (pre':=nbP l i++((l.drop (i+1)).take 0).map λb=>(l.getD i dF_,b)) p_ (Yp.loop (ι:= {j:Nat // j<=(l.drop (i+1)).length/\ ∀k,k<j->B5i (l.getD i dF_) ((l.drop (i+1)).getD k dF_)=true}) (λj=> [(0, .cA, .fn (.yield I.l) [] []),(1, .cA, .dE [A4 5 cO.enc dF_ l]),(7, .cA,A4 5 cO.enc dF_ l),(8, .cA,sI l.length),(9, .cA,sI (i:Nat)),(4, .eP, .dE (l.getD i dF_).enc),(17, .eP,A4 5 cO.enc dF_ (l.drop (i+1))),(18, .cA,sI ((l.drop (i+1)).length)),(19, .cA,sI (j.1:Nat))]) (λj=>nbP l i++((l.drop (i+1)).take j.1).map λb=>(l.getD i dF_,b)) (λj=>(l.drop (i+1)).length-j.1) ⟨0,zm _,λk hk=>by omega⟩ ?_));rintro⟨j,hj,hk⟩;dsimp only;have hdl:(l.drop (i+1)).length=l.length-(i+1):=qn
  have fin:(j=(l.drop (i+1)).length\/B5i (l.getD i dF_) ((l.drop (i+1)).getD j dF_)=false)->nbP l i++(((l.drop (i+1)).take j).map λb=>(l.getD i dF_,b))=nbP l (i+1):=λhe=>by rw[nbP,E72 (l.getD i dF_) (l.drop (i+1)) j hj hk he]
  by_cases h2:j<(l.drop (i+1)).length
  ·refine Yp.seq (Yp.plainN hm [(0, .cA, .fn (.yield I.l) [] []),(1, .cA, .dE [A4 5 cO.enc dF_ l]),(7, .cA,A4 5 cO.enc dF_ l),(8, .cA,sI l.length),(9, .cA,sI (i:Nat)),(4, .eP, .dE (l.getD i dF_).enc),(17, .eP,A4 5 cO.enc dF_ (l.drop (i+1))),(18, .cA,sI ((l.drop (i+1)).length)),(19, .cA,sI (j:Nat)),(20, .cA,sB true)] ?_ ?_)
   ·refine st_ ?_;refine A9 [] [] (st_ ?_);omega
   refine Yp.seq (Yp.cond (t:=true) rfl ?_);rw[zc rfl];refine Yp.skip hm ?_;refine Yp.seq (Yp.block (Yp.seq (Yp.plainN hm [(0, .cA, .fn (.yield I.l) [] []),(1, .cA, .dE [A4 5 cO.enc dF_ l]),(7, .cA,A4 5 cO.enc dF_ l),(8, .cA,sI l.length),(9, .cA,sI (i:Nat)),(4, .eP, .dE (l.getD i dF_).enc),(17, .eP,A4 5 cO.enc dF_ (l.drop (i+1))),(18, .cA,sI ((l.drop (i+1)).length)),(19, .cA,sI (j:Nat)),(6, .eP, .dE ((l.drop (i+1)).getD j dF_).enc)] ?_ ?_)))
   ·refine st_ ?_;refine⟨bE_,?_⟩;refine A9 [] [] ?_;simp only[go_sem,go_sem_proc]
    all_goals((with_reducible and_intros) <;> trivial)
   by_cases hb:B5i (l.getD i dF_) ((l.drop (i+1)).getD j dF_)=true
   ·have hb': ¬F0t (l.getD i dF_)<D5d ((l.drop (i+1)).getD j dF_):=by simpa[B5i]using hb
    refine Yp.seq (Yp.seq (Yp.plainN hm [(0, .cA, .fn (.yield I.l) [] []),(1, .cA, .dE [A4 5 cO.enc dF_ l]),(7, .cA,A4 5 cO.enc dF_ l),(8, .cA,sI l.length),(9, .cA,sI (i:Nat)),(4, .eP, .dE (l.getD i dF_).enc),(17, .eP,A4 5 cO.enc dF_ (l.drop (i+1))),(18, .cA,sI ((l.drop (i+1)).length)),(19, .cA,sI (j:Nat)),(6, .eP, .dE ((l.drop (i+1)).getD j dF_).enc),(31, .cA,sB false)] ?_ ?_))
    ·refine st_ ?_;refine A9 [] [] (st_ ?_);exact zp hb'
    refine Yp.cond (t:=false) rfl ?_;rw[zb p_];refine Yp.skip hm ?_;refine Yp.seq (Yp.yieldI (pr:= [_,_,_]) (po:= [_]) (d:=35) (x:= .t 32) (xs:= [.t 33, .t 34]) (l.getD i dF_,(l.drop (i+1)).getD j dF_) [(0, .cA, .fn (.yield I.l) [] []),(1, .cA, .dE [A4 5 cO.enc dF_ l]),(7, .cA,A4 5 cO.enc dF_ l),(8, .cA,sI l.length),(9, .cA,sI (i:Nat)),(4, .eP, .dE (l.getD i dF_).enc),(17, .eP,A4 5 cO.enc dF_ (l.drop (i+1))),(18, .cA,sI ((l.drop (i+1)).length)),(19, .cA,sI (j:Nat)),(36, .cA,sB false)] ?_ ?_ ?_ ?_)
    ·rw[hB];exact E73 l i j h h2 λk hk'=>by
      rcases qq k j with h3 |h3
      ·exact hk k h3
      ·obtain rfl:k=j:=o_
       exact hb
    ·rw[hE];intro av hav;simp only[E55,zo,zr,zU]at hav;rcases hav with rfl |rfl <;> exact⟨rfl,rfl⟩
    ·refine st_ ?_;refine⟨by rw[hE];rfl,?_⟩;refine A9 [] [] ?_;simp only[go_sem,go_sem_proc]
    refine Yp.cond (t:=false) rfl ?_;rw[zb p_];refine Yp.skip hm ?_;refine Yp.plainN hm [(0, .cA, .fn (.yield I.l) [] []),(1, .cA, .dE [A4 5 cO.enc dF_ l]),(7, .cA,A4 5 cO.enc dF_ l),(8, .cA,sI l.length),(9, .cA,sI (i:Nat)),(4, .eP, .dE (l.getD i dF_).enc),(17, .eP,A4 5 cO.enc dF_ (l.drop (i+1))),(18, .cA,sI ((l.drop (i+1)).length)),(19, .cA,sI (j+1:Nat))] ?_ ⟨⟨j+1,h2,λk hk'=>by
      rcases qq k j with h3 |h3
      ·exact hk k h3
      ·obtain rfl:k=j:=o_
       exact hb⟩,by show(l.drop (i+1)).length-(j+1)<(l.drop (i+1)).length-j;omega,rfl,?_⟩
    ·refine st_ ?_;refine A9 [] [] (st_ ?_);rw[IntKind.wrap_i64];omega
    ·show _=nbP l i++((l.drop (i+1)).take (j+1)).map λb=>(l.getD i dF_,b);rw[K9 dF_ h2,qN,zx];rfl
   ·have hb':F0t (l.getD i dF_)<D5d ((l.drop (i+1)).getD j dF_):=by simpa[B5i]using hb
    refine Yp.seq (Yp.seq (Yp.plainN hm [(0, .cA, .fn (.yield I.l) [] []),(1, .cA, .dE [A4 5 cO.enc dF_ l]),(7, .cA,A4 5 cO.enc dF_ l),(8, .cA,sI l.length),(9, .cA,sI (i:Nat)),(4, .eP, .dE (l.getD i dF_).enc),(17, .eP,A4 5 cO.enc dF_ (l.drop (i+1))),(18, .cA,sI ((l.drop (i+1)).length)),(19, .cA,sI (j:Nat)),(6, .eP, .dE ((l.drop (i+1)).getD j dF_).enc),(31, .cA,sB true)] ?_ ?_))
    ·refine st_ ?_;refine A9 [] [] (st_ ?_);exact hb'
    refine Yp.cond (t:=true) rfl ?_;rw[zc rfl];refine Yp.exit ?_;show Yp I _ _ _ _ _;rw[fin (.inr (by simpa using hb))];refine tail _ ?_;refine A9 [] [] ?_;simp only[go_sem,go_sem_proc]
  ·refine Yp.seq (Yp.plainN hm [(0, .cA, .fn (.yield I.l) [] []),(1, .cA, .dE [A4 5 cO.enc dF_ l]),(7, .cA,A4 5 cO.enc dF_ l),(8, .cA,sI l.length),(9, .cA,sI (i:Nat)),(4, .eP, .dE (l.getD i dF_).enc),(17, .eP,A4 5 cO.enc dF_ (l.drop (i+1))),(18, .cA,sI ((l.drop (i+1)).length)),(19, .cA,sI (j:Nat)),(20, .cA,sB false)] ?_ ?_)
   ·refine st_ ?_;refine A9 [] [] (st_ ?_);simpa using h2
   refine Yp.seq (Yp.cond (t:=false) rfl ?_);rw[zb p_];refine Yp.exit ?_;show Yp I _ _ _ _ _;rw[fin (.inl o_)];refine tail _ ?_;refine A9 [] [] ?_;simp only[go_sem,go_sem_proc]
 ·refine Yp.seq (Yp.plainN hm [(0, .cA, .fn (.yield I.l) [] []),(1, .cA, .dE [A4 5 cO.enc dF_ l]),(7, .cA,A4 5 cO.enc dF_ l),(8, .cA,sI l.length),(9, .cA,sI (i:Nat)),(10, .cA,sB false)] ?_ ?_)
  ·refine st_ ?_;refine A9 [] [] (st_ ?_);simpa using h
  refine Yp.seq (Yp.cond (t:=false) rfl ?_);rw[zb p_];refine Yp.exit ?_;obtain rfl:i=l.length:=o_
  exact⟨.inl rfl,rfl⟩
end Go.Abs
end
noncomputable section
namespace Go.Proofs
open Go.Shelf
def Tryz.lays189_ren:Go.Shelf.Ren:=⟨λ|189=>268 |125=>373 |257=>402 |128=>479 |129=>480 |294=>502 |295=>503 |296=>504 |297=>505 |298=>506 |299=>507 |216=>188 |300=>508 |301=>509 |328=>546 |329=>536 |330=>537 |331=>547 |332=>548 |215=>319 |343=>569 |n=>n,λ|28=>43 |3=>3 |46=>290 |0=>0 |51=>500 |53=>151 |4=>4 |183=>512 |182=>511 |131=>205 |5=>5 |9=>9 |218=>562 |222=>566 |228=>588 |229=>303 |n=>n,λ|n=>n⟩
theorem Tryz.lays189:Go.Proofs.Lays.n189 Tryz.prog Tryz.lays189_ren:= {
 mixed:=by kernel_rfl
 f125:=Tryz.func373.trans kS_
 f128:=Tryz.func479.trans kS_
 f129:=Tryz.func480.trans kS_
 f189:=Tryz.func268.trans kS_
 f215:=Tryz.func319.trans kS_
 f216:=Tryz.func188.trans kS_
 f257:=Tryz.func402.trans kS_
 f294:=Tryz.func502.trans kS_
 f295:=Tryz.func503.trans kS_
 f296:=Tryz.func504.trans kS_
 f297:=Tryz.func505.trans kS_
 f298:=Tryz.func506.trans kS_
 f299:=Tryz.func507.trans kS_
 f300:=Tryz.func508.trans kS_
 f301:=Tryz.func509.trans kS_
 f328:=Tryz.func546.trans kS_
 f329:=Tryz.func536.trans kS_
 f330:=Tryz.func537.trans kS_
 f331:=Tryz.func547.trans kS_
 f332:=Tryz.func548.trans kS_
 f343:=Tryz.func569.trans kS_
 t0:=Tryz.underlying0
 a0:=Tryz.isAgg0
 z0:=Tryz.sizeOf0
 v0:=Tryz.zeroValue0
 t3:=Tryz.underlying3
 a3:=Tryz.isAgg3
 z3:=Tryz.sizeOf3
 v3:=Tryz.zeroValue3
 t4:=Tryz.underlying4
 a4:=Tryz.isAgg4
 z4:=Tryz.sizeOf4
 v4:=Tryz.zeroValue4
 t5:=Tryz.underlying5
 a5:=Tryz.isAgg5
 z5:=Tryz.sizeOf5
 v5:=Tryz.zeroValue5
 t9:=Tryz.underlying9
 a9:=Tryz.isAgg9
 z9:=Tryz.sizeOf9
 v9:=Tryz.zeroValue9
 t28:=Tryz.underlying43
 a28:=Tryz.isAgg43
 z28:=Tryz.sizeOf43
 v28:=Tryz.zeroValue43
 t46:=Tryz.underlying290
 a46:=Tryz.isAgg290
 z46:=Tryz.sizeOf290
 v46:=Tryz.zeroValue290
 t51:=Tryz.underlying500
 a51:=Tryz.isAgg500
 z51:=Tryz.sizeOf500
 v51:=Tryz.zeroValue500
 t53:=Tryz.underlying151
 a53:=Tryz.isAgg151
 z53:=Tryz.sizeOf151
 v53:=Tryz.zeroValue151
 t131:=Tryz.underlying205
 a131:=Tryz.isAgg205
 z131:=Tryz.sizeOf205
 v131:=Tryz.zeroValue205
 t182:=Tryz.underlying511
 a182:=Tryz.isAgg511
 z182:=Tryz.sizeOf511
 v182:=Tryz.zeroValue511
 t183:=Tryz.underlying512
 a183:=Tryz.isAgg512
 z183:=Tryz.sizeOf512
 v183:=Tryz.zeroValue512
 t218:=Tryz.underlying562
 a218:=Tryz.isAgg562
 z218:=Tryz.sizeOf562
 v218:=Tryz.zeroValue562
 t222:=Tryz.underlying566
 a222:=Tryz.isAgg566
 z222:=Tryz.sizeOf566
 v222:=Tryz.zeroValue566
 t228:=Tryz.underlying588
 a228:=Tryz.isAgg588
 z228:=Tryz.sizeOf588
 v228:=Tryz.zeroValue588
 t229:=Tryz.underlying303
 a229:=Tryz.isAgg303
 z229:=Tryz.sizeOf303
 v229:=Tryz.zeroValue303}
open Go.Sort Go.RowKit in
theorem Tryz.slices_Sort_int(blk off cap:Nat)(zs:List Int)(w:World)(hH:Holds (Value.int .i64) w blk off zs.toArray)(hblk:blk<w.heap.size)(hsz:zs.length<4611686018427387904):
  Calls Tryz.prog 268 #[.slice (some ⟨blk,off,none⟩) zs.length cap] w λe w'=>e= .returned (.tuple #[])/\ ∃n os,w'=grow (putRow (Value.int .i64) (Sort.ahead w n) blk off (zs.mergeSort λx y=>decide (x<=y)).toArray) os:=Any.slices_Sort_int Tryz.lays189 blk off cap zs w hH hblk hsz
def Tryz.laysNm220_ren:Go.Shelf.Ren:=⟨λ|20=>269 |n=>n,λ|22=>43 |3=>3 |4=>4 |0=>0 |n=>n,λ|n=>n⟩
theorem Tryz.laysNm220:Go.Proofs.Lays2.n20 Tryz.prog Tryz.laysNm220_ren:= {
 mixed:=by kernel_rfl
 f20:=Tryz.func269.trans kS_
 t0:=Tryz.underlying0
 a0:=Tryz.isAgg0
 z0:=Tryz.sizeOf0
 v0:=Tryz.zeroValue0
 t3:=Tryz.underlying3
 a3:=Tryz.isAgg3
 z3:=Tryz.sizeOf3
 v3:=Tryz.zeroValue3
 t4:=Tryz.underlying4
 a4:=Tryz.isAgg4
 z4:=Tryz.sizeOf4
 v4:=Tryz.zeroValue4
 t22:=Tryz.underlying43
 a22:=Tryz.isAgg43
 z22:=Tryz.sizeOf43
 v22:=Tryz.zeroValue43
 i3:=by kernel_rfl}
open Go.RowKit Go.Lib Go.Sort in
theorem Tryz.slices_Compact_int(blk off cap:Nat)(zs:List Int)(w:World)(hH:Holds (Value.int .i64) w blk off zs.toArray)(hsz:zs.length<=9223372036854775807)(hcap:zs.length<=cap):
  Calls Tryz.prog 269 #[.slice (some ⟨blk,off,none⟩) zs.length cap] w λe w'=>e= .returned (.slice (some ⟨blk,off,none⟩) (Lib.compact zs).length cap)/\ ∃q,w'=putRow (Value.int .i64) (Sort.ahead w q) blk off (Lib.compact zs++List.replicate (zs.length-(Lib.compact zs).length) 0).toArray:=Any.slices_Compact_int Tryz.laysNm220 blk off cap zs w hH hsz hcap
open Go.RowKit Go.Lib Go.Sort in
theorem Tryz.slices_Compact_int_empty(a:Option Addr)(cap:Nat)(w:World):
  Calls Tryz.prog 269 #[.slice a 0 cap] w λe w'=>e= .returned (.slice a 0 cap)/\w'=w:=Any.slices_Compact_int_empty Tryz.laysNm220 a cap w
open Go.RowKit Go.Sort in
theorem Tryz.slices_Sort_int_none(p:Option Addr)(cap:Nat)(w:World):
  Calls Tryz.prog 268 #[.slice p 0 cap] w λe w'=>e= .returned (.tuple #[])/\w'=w:=Any.slices_Sort_int_none Tryz.lays189 p cap w
def Tryz.laySF_PairKey_ren:Go.Shelf.Ren:=⟨λ|6=>246 |15=>373 |14=>372 |28=>479 |29=>480 |20=>471 |21=>472 |22=>473 |23=>474 |24=>475 |25=>476 |26=>477 |27=>478 |46=>535 |47=>536 |48=>537 |49=>538 |50=>539 |57=>566 |n=>n,λ|22=>29 |24=>129 |25=>352 |3=>3 |39=>290 |0=>0 |53=>500 |55=>151 |4=>4 |46=>512 |45=>511 |50=>205 |5=>5 |9=>9 |66=>562 |70=>566 |76=>588 |77=>303 |n=>n,λ|n=>n⟩
theorem Tryz.laySF_PairKey:Go.Proofs.SlLaysF0.n6 Tryz.prog Tryz.laySF_PairKey_ren:= {
 mixed:=by kernel_rfl
 f6:=⟨Tryz.f246.name,by decide,Tryz.func246.trans kS_⟩
 f14:=⟨Tryz.f372.name,by decide,Tryz.func372.trans kS_⟩
 f15:=Tryz.func373.trans kS_
 f20:=⟨Tryz.f471.name,by decide,Tryz.func471.trans kS_⟩
 f21:=⟨Tryz.f472.name,by decide,Tryz.func472.trans kS_⟩
 f22:=⟨Tryz.f473.name,by decide,Tryz.func473.trans kS_⟩
 f23:=⟨Tryz.f474.name,by decide,Tryz.func474.trans kS_⟩
 f24:=⟨Tryz.f475.name,by decide,Tryz.func475.trans kS_⟩
 f25:=⟨Tryz.f476.name,by decide,Tryz.func476.trans kS_⟩
 f26:=⟨Tryz.f477.name,by decide,Tryz.func477.trans kS_⟩
 f27:=⟨Tryz.f478.name,by decide,Tryz.func478.trans kS_⟩
 f28:=Tryz.func479.trans kS_
 f29:=Tryz.func480.trans kS_
 f46:=⟨Tryz.f535.name,by decide,Tryz.func535.trans kS_⟩
 f47:=Tryz.func536.trans kS_
 f48:=Tryz.func537.trans kS_
 f49:=⟨Tryz.f538.name,by decide,Tryz.func538.trans kS_⟩
 f50:=⟨Tryz.f539.name,by decide,Tryz.func539.trans kS_⟩
 f57:=⟨Tryz.f566.name,by decide,Tryz.func566.trans kS_⟩
 t0:=Tryz.underlying0
 a0:=Tryz.isAgg0
 z0:=Tryz.sizeOf0
 v0:=Tryz.zeroValue0
 t3:=Tryz.underlying3
 a3:=Tryz.isAgg3
 z3:=Tryz.sizeOf3
 v3:=Tryz.zeroValue3
 t4:=Tryz.underlying4
 a4:=Tryz.isAgg4
 z4:=Tryz.sizeOf4
 v4:=Tryz.zeroValue4
 t5:=Tryz.underlying5
 a5:=Tryz.isAgg5
 z5:=Tryz.sizeOf5
 v5:=Tryz.zeroValue5
 t9:=Tryz.underlying9
 a9:=Tryz.isAgg9
 z9:=Tryz.sizeOf9
 v9:=Tryz.zeroValue9
 t22:=Tryz.underlying29
 a22:=Tryz.isAgg29
 z22:=Tryz.sizeOf29
 v22:=Tryz.zeroValue29
 t25:=Tryz.underlying352
 a25:=Tryz.isAgg352
 z25:=Tryz.sizeOf352
 v25:=Tryz.zeroValue352
 t39:=Tryz.underlying290
 a39:=Tryz.isAgg290
 z39:=Tryz.sizeOf290
 v39:=Tryz.zeroValue290
 t45:=Tryz.underlying511
 a45:=Tryz.isAgg511
 z45:=Tryz.sizeOf511
 v45:=Tryz.zeroValue511
 t46:=Tryz.underlying512
 a46:=Tryz.isAgg512
 z46:=Tryz.sizeOf512
 v46:=Tryz.zeroValue512
 t50:=Tryz.underlying205
 a50:=Tryz.isAgg205
 z50:=Tryz.sizeOf205
 v50:=Tryz.zeroValue205
 t53:=Tryz.underlying500
 a53:=Tryz.isAgg500
 z53:=Tryz.sizeOf500
 v53:=Tryz.zeroValue500
 t55:=Tryz.underlying151
 a55:=Tryz.isAgg151
 z55:=Tryz.sizeOf151
 v55:=Tryz.zeroValue151
 t66:=Tryz.underlying562
 a66:=Tryz.isAgg562
 z66:=Tryz.sizeOf562
 v66:=Tryz.zeroValue562
 t70:=Tryz.underlying566
 a70:=Tryz.isAgg566
 z70:=Tryz.sizeOf566
 v70:=Tryz.zeroValue566
 t76:=Tryz.underlying588
 a76:=Tryz.isAgg588
 z76:=Tryz.sizeOf588
 v76:=Tryz.zeroValue588
 t77:=Tryz.underlying303
 a77:=Tryz.isAgg303
 z77:=Tryz.sizeOf303
 v77:=Tryz.zeroValue303}
def Tryz.laySF_2_int_ren:Go.Shelf.Ren:=⟨λ|6=>368 |15=>373 |14=>468 |28=>479 |29=>480 |20=>527 |21=>528 |22=>529 |23=>530 |24=>531 |25=>532 |26=>533 |27=>534 |46=>563 |47=>536 |48=>537 |49=>564 |50=>565 |57=>575 |n=>n,λ|22=>344 |24=>346 |25=>447 |3=>3 |39=>290 |0=>0 |53=>500 |55=>151 |4=>4 |46=>512 |45=>511 |50=>205 |5=>5 |9=>9 |66=>562 |70=>566 |76=>588 |77=>303 |n=>n,λ|n=>n⟩
theorem Tryz.laySF_2_int:Go.Proofs.SlLaysF0.n6 Tryz.prog Tryz.laySF_2_int_ren:= {
 mixed:=by kernel_rfl
 f6:=⟨Tryz.f368.name,by decide,Tryz.func368.trans kS_⟩
 f14:=⟨Tryz.f468.name,by decide,Tryz.func468.trans kS_⟩
 f15:=Tryz.func373.trans kS_
 f20:=⟨Tryz.f527.name,by decide,Tryz.func527.trans kS_⟩
 f21:=⟨Tryz.f528.name,by decide,Tryz.func528.trans kS_⟩
 f22:=⟨Tryz.f529.name,by decide,Tryz.func529.trans kS_⟩
 f23:=⟨Tryz.f530.name,by decide,Tryz.func530.trans kS_⟩
 f24:=⟨Tryz.f531.name,by decide,Tryz.func531.trans kS_⟩
 f25:=⟨Tryz.f532.name,by decide,Tryz.func532.trans kS_⟩
 f26:=⟨Tryz.f533.name,by decide,Tryz.func533.trans kS_⟩
 f27:=⟨Tryz.f534.name,by decide,Tryz.func534.trans kS_⟩
 f28:=Tryz.func479.trans kS_
 f29:=Tryz.func480.trans kS_
 f46:=⟨Tryz.f563.name,by decide,Tryz.func563.trans kS_⟩
 f47:=Tryz.func536.trans kS_
 f48:=Tryz.func537.trans kS_
 f49:=⟨Tryz.f564.name,by decide,Tryz.func564.trans kS_⟩
 f50:=⟨Tryz.f565.name,by decide,Tryz.func565.trans kS_⟩
 f57:=⟨Tryz.f575.name,by decide,Tryz.func575.trans kS_⟩
 t0:=Tryz.underlying0
 a0:=Tryz.isAgg0
 z0:=Tryz.sizeOf0
 v0:=Tryz.zeroValue0
 t3:=Tryz.underlying3
 a3:=Tryz.isAgg3
 z3:=Tryz.sizeOf3
 v3:=Tryz.zeroValue3
 t4:=Tryz.underlying4
 a4:=Tryz.isAgg4
 z4:=Tryz.sizeOf4
 v4:=Tryz.zeroValue4
 t5:=Tryz.underlying5
 a5:=Tryz.isAgg5
 z5:=Tryz.sizeOf5
 v5:=Tryz.zeroValue5
 t9:=Tryz.underlying9
 a9:=Tryz.isAgg9
 z9:=Tryz.sizeOf9
 v9:=Tryz.zeroValue9
 t22:=Tryz.underlying344
 a22:=Tryz.isAgg344
 z22:=Tryz.sizeOf344
 v22:=Tryz.zeroValue344
 t25:=Tryz.underlying447
 a25:=Tryz.isAgg447
 z25:=Tryz.sizeOf447
 v25:=Tryz.zeroValue447
 t39:=Tryz.underlying290
 a39:=Tryz.isAgg290
 z39:=Tryz.sizeOf290
 v39:=Tryz.zeroValue290
 t45:=Tryz.underlying511
 a45:=Tryz.isAgg511
 z45:=Tryz.sizeOf511
 v45:=Tryz.zeroValue511
 t46:=Tryz.underlying512
 a46:=Tryz.isAgg512
 z46:=Tryz.sizeOf512
 v46:=Tryz.zeroValue512
 t50:=Tryz.underlying205
 a50:=Tryz.isAgg205
 z50:=Tryz.sizeOf205
 v50:=Tryz.zeroValue205
 t53:=Tryz.underlying500
 a53:=Tryz.isAgg500
 z53:=Tryz.sizeOf500
 v53:=Tryz.zeroValue500
 t55:=Tryz.underlying151
 a55:=Tryz.isAgg151
 z55:=Tryz.sizeOf151
 v55:=Tryz.zeroValue151
 t66:=Tryz.underlying562
 a66:=Tryz.isAgg562
 z66:=Tryz.sizeOf562
 v66:=Tryz.zeroValue562
 t70:=Tryz.underlying566
 a70:=Tryz.isAgg566
 z70:=Tryz.sizeOf566
 v70:=Tryz.zeroValue566
 t76:=Tryz.underlying588
 a76:=Tryz.isAgg588
 z76:=Tryz.sizeOf588
 v76:=Tryz.zeroValue588
 t77:=Tryz.underlying303
 a77:=Tryz.isAgg303
 z77:=Tryz.sizeOf303
 v77:=Tryz.zeroValue303}
def Tryz.laySF_Entry_ren:Go.Shelf.Ren:=⟨λ|6=>466 |15=>373 |14=>526 |28=>479 |29=>480 |20=>555 |21=>556 |22=>557 |23=>558 |24=>559 |25=>560 |26=>561 |27=>562 |46=>572 |47=>536 |48=>537 |49=>573 |50=>574 |57=>576 |n=>n,λ|22=>340 |24=>441 |25=>507 |3=>3 |39=>290 |0=>0 |53=>500 |55=>151 |4=>4 |46=>512 |45=>511 |50=>205 |5=>5 |9=>9 |66=>562 |70=>566 |76=>588 |77=>303 |n=>n,λ|n=>n⟩
theorem Tryz.laySF_Entry:Go.Proofs.SlLaysF0.n6 Tryz.prog Tryz.laySF_Entry_ren:= {
 mixed:=by kernel_rfl
 f6:=⟨Tryz.f466.name,by decide,Tryz.func466.trans kS_⟩
 f14:=⟨Tryz.f526.name,by decide,Tryz.func526.trans kS_⟩
 f15:=Tryz.func373.trans kS_
 f20:=⟨Tryz.f555.name,by decide,Tryz.func555.trans kS_⟩
 f21:=⟨Tryz.f556.name,by decide,Tryz.func556.trans kS_⟩
 f22:=⟨Tryz.f557.name,by decide,Tryz.func557.trans kS_⟩
 f23:=⟨Tryz.f558.name,by decide,Tryz.func558.trans kS_⟩
 f24:=⟨Tryz.f559.name,by decide,Tryz.func559.trans kS_⟩
 f25:=⟨Tryz.f560.name,by decide,Tryz.func560.trans kS_⟩
 f26:=⟨Tryz.f561.name,by decide,Tryz.func561.trans kS_⟩
 f27:=⟨Tryz.f562.name,by decide,Tryz.func562.trans kS_⟩
 f28:=Tryz.func479.trans kS_
 f29:=Tryz.func480.trans kS_
 f46:=⟨Tryz.f572.name,by decide,Tryz.func572.trans kS_⟩
 f47:=Tryz.func536.trans kS_
 f48:=Tryz.func537.trans kS_
 f49:=⟨Tryz.f573.name,by decide,Tryz.func573.trans kS_⟩
 f50:=⟨Tryz.f574.name,by decide,Tryz.func574.trans kS_⟩
 f57:=⟨Tryz.f576.name,by decide,Tryz.func576.trans kS_⟩
 t0:=Tryz.underlying0
 a0:=Tryz.isAgg0
 z0:=Tryz.sizeOf0
 v0:=Tryz.zeroValue0
 t3:=Tryz.underlying3
 a3:=Tryz.isAgg3
 z3:=Tryz.sizeOf3
 v3:=Tryz.zeroValue3
 t4:=Tryz.underlying4
 a4:=Tryz.isAgg4
 z4:=Tryz.sizeOf4
 v4:=Tryz.zeroValue4
 t5:=Tryz.underlying5
 a5:=Tryz.isAgg5
 z5:=Tryz.sizeOf5
 v5:=Tryz.zeroValue5
 t9:=Tryz.underlying9
 a9:=Tryz.isAgg9
 z9:=Tryz.sizeOf9
 v9:=Tryz.zeroValue9
 t22:=Tryz.underlying340
 a22:=Tryz.isAgg340
 z22:=Tryz.sizeOf340
 v22:=Tryz.zeroValue340
 t25:=Tryz.underlying507
 a25:=Tryz.isAgg507
 z25:=Tryz.sizeOf507
 v25:=Tryz.zeroValue507
 t39:=Tryz.underlying290
 a39:=Tryz.isAgg290
 z39:=Tryz.sizeOf290
 v39:=Tryz.zeroValue290
 t45:=Tryz.underlying511
 a45:=Tryz.isAgg511
 z45:=Tryz.sizeOf511
 v45:=Tryz.zeroValue511
 t46:=Tryz.underlying512
 a46:=Tryz.isAgg512
 z46:=Tryz.sizeOf512
 v46:=Tryz.zeroValue512
 t50:=Tryz.underlying205
 a50:=Tryz.isAgg205
 z50:=Tryz.sizeOf205
 v50:=Tryz.zeroValue205
 t53:=Tryz.underlying500
 a53:=Tryz.isAgg500
 z53:=Tryz.sizeOf500
 v53:=Tryz.zeroValue500
 t55:=Tryz.underlying151
 a55:=Tryz.isAgg151
 z55:=Tryz.sizeOf151
 v55:=Tryz.zeroValue151
 t66:=Tryz.underlying562
 a66:=Tryz.isAgg562
 z66:=Tryz.sizeOf562
 v66:=Tryz.zeroValue562
 t70:=Tryz.underlying566
 a70:=Tryz.isAgg566
 z70:=Tryz.sizeOf566
 v70:=Tryz.zeroValue566
 t76:=Tryz.underlying588
 a76:=Tryz.isAgg588
 z76:=Tryz.sizeOf588
 v76:=Tryz.zeroValue588
 t77:=Tryz.underlying303
 a77:=Tryz.isAgg303
 z77:=Tryz.sizeOf303
 v77:=Tryz.zeroValue303}
end Go.Proofs
end
noncomputable section
namespace Go.Abs
open Go.Proofs
open Api
open Go.Sort
def B52(l:List Int):List Int:=l.mergeSort λx y=>decide (x<=y)
theorem C0h(l:List Int):(B52 l).length=l.length:=by simp[B52]
theorem E71 {l:List Int}{x:Int}:x∈B52 l↔x∈l:=by simp[B52]
theorem C9n(l:List Int)(hl:l.length<4611686018427387904):cA_ 268 [.sl 1 0 l.length l.length] [(1, .arr 1 (B0 C8 0 l))] (.tup []) [(1, .arr 1 (B0 C8 0 (B52 l)))]:=
 F7u (by kernel_rfl) l (B52 l) (C0h l) (λ_ _=> .tuple #[]) (.tup []) (λG w ob i a cap _ _ _=> .tup #[] rfl (λj av h=>by simp at h))
  (λblk cap w hH hb hc=>Tryz.slices_Sort_int blk 0 cap l w hH hb hl)
  (λ_ a w=>Tryz.slices_Sort_int_none a 0 w)
def B5u(l:List Int):List Int:=Go.Lib.compact l
theorem B97(l:List Int):(B5u l).length<=l.length:=by unfold B5u Go.Lib.compact Go.Lib.compactUpTo;rw[z7];have:=qM (Go.Lib.keeps l.toArray) (List.range l.length);rwa[List.length_range]at this
theorem B98(d:Array Int)(x:Int): ∀m,x∈Go.Lib.compactUpTo d m↔ ∃j,j<m/\d[j]! =x
 |0=>by simp[Go.Lib.compactUpTo]
 |m+1=>by
  rw[Go.Lib.compactUpTo_succ,zj,B98 d x m];constructor
  ·rintro(⟨j,hj,e⟩ |h)
   ·exact⟨j,o_,e⟩
   ·by_cases hk:Go.Lib.keeps d m=true
    ·rw[zc hk,zu]at h;exact⟨m,o_,h.symm⟩
    ·rw[zb hk]at h;cases h
  ·rintro⟨j,hj,e⟩;rcases Nat.lt_or_eq_of_le (Nat.le_of_lt_succ hj)with h |h
   ·exact .inl ⟨j,h,e⟩
   ·subst h;by_cases hk:Go.Lib.keeps d j=true
    ·right;rw[zc hk,zu];exact e.symm
    ·left;simp only[Go.Lib.keeps,zk,qy,ne_eq,Classical.not_not]at hk;exact⟨j-1,o_,by rw[<-hk.2];exact e⟩
theorem E7a {l:List Int}{x:Int}:x∈B5u l↔x∈l:=by
 unfold B5u Go.Lib.compact;rw[B98];constructor
 ·rintro⟨j,hj,e⟩;have:l[j]=x:=by simpa[hj]using e
  rw[<-this];exact List.getElem_mem hj
 ·intro h;obtain⟨j,hj,e⟩:=qG h;exact⟨j,hj,by simpa[hj]using e⟩
theorem C4e(l:List Int)(hl:l.length<=9223372036854775807):cA_ 269 [.sl 1 0 l.length l.length] [(1, .arr 1 (B0 C8 0 l))] (.sl 1 0 (B5u l).length l.length)
  [(1, .arr 1 (B0 C8 0 (B5u l++List.replicate (l.length-(B5u l).length) 0)))]:=by
 refine F7u (by kernel_rfl) l _ (by have:=B97 l;simp;omega) (λa cap=> .slice a (B5u l).length cap) _ (λG w ob i a cap hi hlen hs=> ?_)
  (λblk cap w hH hb hc=>(Tryz.slices_Compact_int blk 0 cap l w hH hl hc).mono ?_) (λe a w=> ?_)
 ·obtain⟨h1,h2,h3⟩:=hs;have hcl:=B97 l;refine .sl i hi o_ ⟨_,_,rfl⟩ λ_=>⟨o_,λhb=> ?_,λb hb=> ?_⟩
  ·have hac:=h2 hb
   have:l.length=0:=by rcases hac with e |⟨a',e⟩ <;> (injection e)
   have e0:(B5u l).length=0:=o_
   rw[e0];rw[this]at hac;exact hac
  ·obtain⟨o,c,e,h5,h6,h7⟩:=h3 b hb;injection e with e1 e2 e3;subst e1;subst e3;exact⟨o,cap,rfl,o_,λh=>by rw[(h7 rfl).1];simp,h7⟩
 ·rintro e w' ⟨rfl,q,rfl⟩;exact⟨rfl,q,#[],by rw[grow_empty];rfl⟩
 ·subst e;refine(Tryz.slices_Compact_int_empty a 0 w).mono ?_;rintro e w' ⟨rfl,rfl⟩;exact⟨rfl,rfl⟩
def A8y(a:cO)(b:cO):Int:=let v1:=(K0 a.eV.fV.X b.eV.fV.X);let v2:=(K0 a.ID b.ID);let v3:=(A1t ([v1,v2]));v3
theorem D7w(a:cO)(b:cO):cA_ 467 [.agg a.enc, .agg b.enc] [] (sI (A8y a b)) []:=by
 refine en1 hm A6 Tryz.func467 rfl rfl (st_ ?_);refine A0 (A1h a.eV.fV.X b.eV.fV.X) rfl ?_;generalize hv1:(K0 a.eV.fV.X b.eV.fV.X)=v1;refine st_ ?_;refine A0 (A1h a.ID b.ID) rfl ?_;generalize hv2:(K0 a.ID b.ID)=v2;refine st_ ?_;refine A4d (B9a ([v1,v2]) (by((simp_all;done)))) rfl ?_ ?_
 ·(try simp only[S2,go_sem,go_sem_proc]);all_goals((with_reducible and_intros) <;> exact H1 (λ_ _=>rfl) rfl rfl rfl)
 generalize hv3:(A1t ([v1,v2]))=v3;refine st_ ?_;have hd:A8y a b=v3:=by(simp only[A8y,hv1,hv2,hv3,qj];done)
 try rw[hd]
theorem B96(x y:Int):K0 x y=B8k x y:=by unfold K0 A2f B8k;simp
theorem F7d(a b:Int):A1t [a,b]=if a≠0 then a else b:=by unfold A1t;simp only[List.length_cons,List.length_nil,qk,Nat.reduceAdd,I8,A6s];by_cases ha:a=0 <;> by_cases hb:b=0 <;> simp[ha,hb]
theorem F8c(a b:cO):A8y a b=B62 [D5d,cO.ID] a b:=by unfold A8y;dsimp only;rw[F7d,B96,B96];simp only[B62,D5d];by_cases h:B8k a.ID b.ID=0 <;> simp[h]
def F6f(x:cO):KEl 5:=⟨[x.ID,x.eV.fV.X,x.eV.fV.Y,x.eV.fY.X,x.eV.fY.Y],rfl⟩
def E98(y:KEl 5):cO:=⟨y.1.getD 0 0,⟨y.1.getD 1 0,y.1.getD 2 0⟩,⟨y.1.getD 3 0,y.1.getD 4 0⟩⟩
theorem E99: ∀y:KEl 5,kav y=(E98 y).enc
 |⟨[a,b,c,d,e],_⟩=>rfl
def E5i(a b:cO):Int:=B62 [D5d,cO.ID] a b
def A74(l:List cO):List cO:=B12 F6f E98 E5i l
theorem C3a(l:List cO):(A74 l).length=l.length:=B7d (B0i _) l
theorem B9u(id:Nat)(l:List cO)(hl:l.length<4611686018427387904):
  cA_ 466 [.sl id 0 l.length l.length, .fn (.func 467) [] []] [(id, .arr 5 (B0 cO.enc dF_ l))] (.tup []) [(id, .arr 5 (B0 cO.enc dF_ (A74 l)))]:=
 D52 (toK:=F6f) (fromK:=E98) (cf:=E5i) Tryz.laySF_Entry (by decide) (by kernel_rfl) (λw=>Z5 (by kernel_rfl)) (λw=>T9 (by kernel_rfl)) dF_ rfl (λx=>rfl) E99 (B0i _) (λargs w=>A8a (by kernel_rfl) args)
  (λx y=>by have:=D7w x y;rwa[F8c]at this) id l hl
def C6u {α:Type}(f:α->Int)(m:List α):List (Int×AV):=m.map λx=>(f x,sB true)
theorem D1o {α:Type}(f:α->Int)(k:Int): ∀m:List α,B63 (C6u f m) k=cond (m.any λx=>k==f x) (some (sB true)) none
 | []=>rfl
 |x::m=>by
  have ih:=D1o f k m;simp only[C6u,qw,B63,List.any_cons]at ih⊢;cases h:k==f x
  ·simpa using ih
  ·simp
theorem D1p {α:Type}(f:α->Int)(x:α): ∀m:List α,(m.any λy=>f x==f y)=false->B3z (C6u f m) (f x) (sB true)=C6u f (m++ [x])
 | [],_=>rfl
 |y::m,h=>by simp only[List.any_cons,yb]at h;have ih:=D1p f x m h.2;simp only[C6u,qw,List.cons_append,B3z,h.1]at ih⊢;rw[zb p_,ih]
theorem C89:B6w (.bool false)=sB false:=rfl
def C1q(s:List cO)(x:cO):List cO:=if A4s x.eV=true/\(s.any λy=>x.ID==y.ID)=false then s++ [x]else s
def A5b(l:List cO):List cO:=l.foldl C1q []
theorem F1n(s:List cO)(x:cO):(C1q s x).length<=s.length+1:=by unfold C1q;split <;> simp
theorem D62: ∀(l s:List cO),(l.foldl C1q s).length<=s.length+l.length
 | [],s=>ze _
 |x::l,s=>by have:=D62 l (C1q s x);have:=F1n s x;simp only[List.foldl_cons,List.length_cons];omega
theorem D2b(l:List cO):(A5b l).length<=l.length:=by have:=D62 l [];simpa[A5b]using this
theorem E04: ∀(l s:List cO) (x:cO),x∈l.foldl C1q s->x∈s\/x∈l
 | [],s,x,h=> .inl h
 |y::l,s,x,h=>by
  rcases E04 l (C1q s y) x h with h1 |h1
  ·unfold C1q at h1;split at h1
   ·rw[zj,zu]at h1;rcases h1 with h1 |rfl
    ·exact .inl h1
    ·exact .inr (qp ..)
   ·exact .inl h1
  ·exact .inr (qf _ h1)
theorem E6j(l:List cO)(hl:l.length<=1048576):cA_ 367 [A4 5 cO.enc dF_ l] [] (A4 5 cO.enc dF_ (A74 (A5b l))) []:=by
 refine en1 hm A6 Tryz.func367 rfl rfl (st_ ?_);refine B1 hm (ι:= {i:Nat // i<=l.length}) (λi=> [(3,mdA i.1, .sl 1 0 (A5b (l.take i.1)).length (A5b (l.take i.1)).length),(4, .cA, .mp 2),(8, .cA,A4 5 cO.enc dF_ l),(9, .cA,sI l.length),(10, .cA,sI (i.1:Nat))]) (λi=> [(1, .arr 5 (B0 cO.enc dF_ (A5b (l.take i.1)))),(2, .map .i64 (C6u cO.ID (A5b (l.take i.1))))]) (λi=>l.length-i.1) ⟨0,zm _⟩ ?_ ?_
 ·simp only[List.take_zero,show A5b []= []from rfl];refine A9 [(2,128)] [1] (st_ ?_);exact eE_
 ·rintro⟨i,hi⟩;dsimp only;have hn:i<l.length->A5b (l.take (i+1))=C1q (A5b (l.take i)) (l.getD i dF_):=λh=>by unfold A5b;rw[K9 dF_ h,qR];rfl
  have hfin:l.length<=i->A5b (l.take i)=A5b l:=λh=>by rw[show i=l.length by omega,zn]
  have hlen:=D2b (l.take i);rw[zt]at hlen;generalize A5b (l.take i)=v at hn hfin hlen⊢;refine st_ ?_;by_cases hlt:i<l.length;rotate_left
  ·rw[zb o_];refine K6 (B9u 1 v o_) (by simp[okO]) (by simp[okO]) p_ (by simp[upd]) p_ ?_ rfl ?_
   ·intro a ha j hj;obtain⟨k,hk⟩:=zA ha;have:=P7 hk j hj;simp[F6,AV.ids]at this;subst this;rfl
   refine st_ ?_;rw[<-hfin o_];rw[C3a];exact⟨rfl,D0 _⟩
  rw[zc o_];refine⟨bE_,?_⟩;replace hn:=hn hlt;refine A0 (B35 (l.getD i dF_).eV) rfl ?_;unfold C1q at hn;generalize A4s (l.getD i dF_).eV=ok at hn⊢;have hg:=D1o cO.ID (l.getD i dF_).ID v;cases hm:v.any λy=>(l.getD i dF_).ID==y.ID with
  |true=>
   rw[hm]at hg;simp only[cond_true]at hg;rw[hm,zb p_]at hn;cases ok
   all_goals
    simp only[go_sem,go_sem_proc,hg];refine A8 ⟨i+1,o_⟩ (by show l.length-(i+1)<l.length-i;omega) ?_;simp only[hn];exact A9 [] [] se_
  |false=>
   rw[hm]at hg;simp only[cond_false]at hg;rw[hm]at hn;cases ok
   ·rw[zb p_]at hn;simp only[go_sem,go_sem_proc,hg,C89];refine A8 ⟨i+1,o_⟩ (by show l.length-(i+1)<l.length-i;omega) ?_;simp only[hn];refine A9 [] [] (st_ ?_);exact eE_
   ·rw[zc p_]at hn;simp only[go_sem,go_sem_proc,hg,C89];refine⟨bE_,?_⟩;refine A8 ⟨i+1,o_⟩ (by show l.length-(i+1)<l.length-i;omega) ?_;simp only[hn,<-D1p cO.ID _ v hm];refine A9 [] [] (st_ ?_);exact eE_
abbrev P2:=Int×Int
def p2E(p:P2):List AV:= [sI p.1,sI p.2]
attribute [go_sem] p2E
def F7g(x:P2):KEl 2:=⟨[x.1,x.2],rfl⟩
def F1c(y:KEl 2):P2:=(y.1.getD 0 0,y.1.getD 1 0)
theorem F1d: ∀y:KEl 2,kav y=p2E (F1c y)
 |⟨[a,b],_⟩=>rfl
def C83(a b:P2):Int:=B62 [Prod.fst,Prod.snd] a b
def C61(l:List P2):List P2:=B12 F7g F1c C83 l
theorem D3h(l:List P2):(C61 l).length=l.length:=B7d (B0i _) l
theorem C7r(a b:P2):cA_ 369 [.agg (p2E a), .agg (p2E b)] [] (sI (C83 a b)) []:=by
 have e:C83 a b=A1t [K0 a.1 b.1,K0 a.2 b.2]:=by rw[F7d,B96,B96];simp only[C83,B62];by_cases h:B8k a.2 b.2=0 <;> simp[h]
 rw[e];refine en1 hm A6 Tryz.func369 rfl rfl (st_ ?_);refine⟨bE_,bE_,?_⟩;refine A0 (A1h a.1 b.1) rfl (st_ ?_);refine⟨bE_,bE_,?_⟩;refine A0 (A1h a.2 b.2) rfl (st_ ?_);refine O6 (B9a [K0 a.1 b.1,K0 a.2 b.2] p_) ?_;simp only[S2,go_sem,go_sem_proc];exact H1 (λ_ _=>rfl) rfl rfl rfl
theorem D34(l:List cO):cA_ 366 [A4 5 cO.enc dF_ l] [] (.fn (.func 465) [] [.dE [A4 5 cO.enc dF_ l]]) []:=by refine en1 hm A6 Tryz.func366 rfl rfl ?_;simp only[go_sem,go_sem_proc,A2m]
theorem C4g(id:Nat)(l:List P2)(hl:l.length<4611686018427387904):
  cA_ 368 [.sl id 0 l.length l.length, .fn (.func 369) [] []] [(id, .arr 2 (B0 p2E dF_ l))] (.tup []) [(id, .arr 2 (B0 p2E dF_ (C61 l)))]:=
 D52 (toK:=F7g) (fromK:=F1c) (cf:=C83) Tryz.laySF_2_int (by decide) (by kernel_rfl) (λw=>Z5 (by kernel_rfl)) (λw=>T9 (by kernel_rfl)) dF_ rfl (λx=>rfl) F1d (B0i _) (λargs w=>A8a (by kernel_rfl) args)
  C7r id l hl
def pr1(p:cO×cO):Option P2:=if A27 p.1.eV p.2.eV=true then some ((if p.2.ID<p.1.ID then p.2.ID else p.1.ID),(if p.1.ID<p.2.ID then p.2.ID else p.1.ID))else none
def C2a(l:List cO):List P2:=(C06 (A74 (A5b l))).filterMap pr1
def B1p(l:List cO):List P2:=C61 (C2a l)
def prO(v:List P2):List (Nat×A7):= [(64, .box [.sl 1 0 v.length v.length]),(1, .arr 2 (B0 p2E dF_ v))]
theorem F0y(l:List cO):(C06 l).length<=l.length*l.length:=by
 have h: ∀i,(nbP l i).length<=i*l.length:=by
  intro i;induction i with
  |zero=>simp[nbP]
  |succ i ih=>
   have h1:(nbI (l.getD i dF_) (l.drop (i+1))).length<=l.length:=by unfold nbI;rw[z7];have:=List.IsPrefix.length_le (List.takeWhile_prefix (B5i (l.getD i dF_)) (l:=l.drop (i+1)));rw[qn]at this;omega
   rw[nbP,zd,Nat.succ_mul];omega
 exact h l.length
theorem D3j(l:List cO)(hl:l.length<=480):(C2a l).length<=230400/\(C06 (A74 (A5b l))).length<=230400:=by
 have h1:=F0y (A74 (A5b l));rw[C3a]at h1;have h2:=D2b l
 have h3:(A5b l).length*(A5b l).length<=480*480:=Nat.mul_le_mul o_ o_
 have h4:(C2a l).length<=(C06 (A74 (A5b l))).length:=qC ..;omega
theorem E2r(l:List cO)(hl:l.length<=480):cA_ 243 [A4 5 cO.enc dF_ l] [] (A4 2 p2E dF_ (B1p l)) []:=by
 have hlen:=D3j l hl;refine F9g (avs:= [A4 5 cO.enc dF_ l]) (rs:= [A4 2 p2E dF_ (B1p l)]) (cO×cO) 33 [(2,none)] [9,10] A6 Tryz.func243 rfl rfl rfl rfl rfl rfl rfl rfl rfl rfl rfl rfl (by decide) (by decide) (yw rfl) (st_ ?_);refine A0 (E6j l o_) rfl (st_ ?_);refine A0 (D34 (A74 (A5b l))) rfl (st_ ?_);refine⟨465,[.dE [A4 5 cO.enc dF_ (A74 (A5b l))]],[(3, .cA, .ptr 64 0 0 1)],λpre=>prO (pre.filterMap pr1),E55,C06 (A74 (A5b l)),rfl,rfl,by kernel_rfl,?_,?_,λ_=>rfl,D92 _ (by rw[C3a];have:=D2b l;omega),?_,?_⟩
 ·simp only[List.filterMap_nil,prO];refine A9 [] [1] ?_;simp only[go_sem,go_sem_proc]
 ·intro pre id o h;have:=A0z (by simp[prO]) h;simp only[prO,zo,zr,zU,zq]at this;rcases this with⟨_,rfl⟩ |⟨_,rfl⟩
  ·exact⟨rfl,rfl⟩
  ·exact⟨λ_ _=>rfl,rfl⟩
 ·intro pre x hx;refine F42 ?_;have hv:(pre.filterMap pr1).length<=pre.length:=qC ..
  have hn:(pre++ [x]).filterMap pr1=pre.filterMap pr1++(pr1 x).toList:=by rw[xc];congr 1
  rw[hn,show pr1 x=if A27 x.1.eV x.2.eV=true then some ((if x.2.ID<x.1.ID then x.2.ID else x.1.ID),(if x.1.ID<x.2.ID then x.2.ID else x.1.ID))else none from rfl];generalize pre.filterMap pr1=v at hv;simp only[go_sem,go_sem_proc,psS,E55,prO];refine A0 (C0m x.1.eV x.2.eV) rfl ?_;generalize A27 x.1.eV x.2.eV=ok;cases ok with
  |false=>rw[zb p_];simp only[go_sem,go_sem_proc,Option.toList];simp only[prO];refine A9 [] [] ?_;simp only[go_sem,go_sem_proc]
  |true=>rw[zc rfl];simp only[go_sem,go_sem_proc,Option.toList];refine⟨bE_,?_⟩;simp only[prO];refine A9 [] [] (st_ ?_);exact eE_
 ·refine F43 ?_;rw[show(C06 (A74 (A5b l))).filterMap pr1=C2a l from rfl];unfold B1p;generalize C2a l=u at hlen;simp only[go_sem,go_sem_proc,prO];refine K6 (C4g 1 u o_) (by simp[okO]) (by simp[okO]) p_ (by simp[upd]) p_ ?_ rfl ?_
  ·intro a ha j hj;obtain⟨k,hk⟩:=zA ha;have:=P7 hk j hj;simp[F6,AV.ids]at this;subst this;rfl
  refine st_ ?_;have hs:=D3h u;generalize C61 u=q at hs;refine B8 [.eP] [] [] (st_ ?_);rw[hs];exact⟨rfl,D0 _⟩
end Go.Abs
end
noncomputable section
namespace Go.Abs
open Go.Proofs
open Api
abbrev B3f:=I4
def scE(l:List cE)(r:List B3f):List cO:=r.zipIdx.map λp=>⟨(p.2:Nat),(A2r (l.getD p.1.body.toNat dF_) p.1.fixture).eV⟩
theorem C86(l:List cE)(r:List B3f):(scE l r).length=r.length:=by simp[scE]
theorem F48(l:List cE)(r:List B3f)(x:B3f):scE l (r++ [x])=scE l r++ [⟨(r.length:Nat),(A2r (l.getD x.body.toNat dF_) x.fixture).eV⟩]:=by simp[scE,List.zipIdx_append]
theorem F7v {l:List cE}{r:List B3f}{x:cO}(h:x∈scE l r):0<=x.ID/\x.ID<r.length:=by
 simp only[scE,qL]at h;obtain⟨p,hp,rfl⟩:=h;have:=List.mem_zipIdx hp;simp at this;constructor
 ·show(0:Int)<=(p.2:Nat);omega
 ·show((p.2:Nat):Int)<r.length;omega
def sc1(k i:Nat)(r:List B3f):List B3f:=r++(List.range i).map λj=>⟨(k:Nat),(j:Nat)⟩
theorem F1o(k i:Nat)(r:List B3f):sc1 k (i+1) r=sc1 k i r++ [⟨(k:Nat),(i:Nat)⟩]:=by simp[sc1,List.range_succ]
theorem E4e(k i:Nat)(r:List B3f):(sc1 k i r).length=r.length+i:=by simp[sc1]
def scS(l:List cE)(k:Nat)(s:List B3f×List Int):List B3f×List Int:=if(s.2.any λy=>(l.getD k dF_).ID==y)=true then s else(sc1 k (l.getD k dF_).cH.length s.1,s.2++ [(l.getD k dF_).ID])
def scF(l:List cE)(n:Nat):List B3f×List Int:=itr (scS l) n ([],[])
def scR(l:List cE):List B3f:=(scF l l.length).1
def F16(l:List cE)(x:B3f):Prop:=0<=x.body/\x.body<l.length/\0<=x.fixture/\x.fixture<(l.getD x.body.toNat dF_).cH.length
theorem E05(l:List cE)(hq: ∀b∈l,b.cH.length<=8): ∀n,n<=l.length->(∀x∈(scF l n).1,F16 l x)/\(scF l n).1.length<=8*n
 |0,_=>⟨λx hx=>by simp[scF,G9]at hx,by simp[scF,G9]⟩
 |n+1,h=>by
  have ih:=E05 l hq n o_
  have hb:=hq _ (B6 dF_ (show n<l.length by omega));rw[show scF l (n+1)=scS l n (scF l n)from H7 ..];generalize scF l n=s at ih⊢;unfold scS;split
  ·exact⟨ih.1,o_⟩
  ·refine⟨λx hx=> ?_,by show(sc1 _ _ _).length<=_;rw[E4e];omega⟩;simp only[sc1,zj,qL,xj]at hx;rcases hx with hx |⟨j,hj,rfl⟩
   ·exact ih.1 x hx
   ·refine⟨by show(0:Int)<=(n:Nat);omega,by show((n:Nat):Int)<_;omega,by show(0:Int)<=(j:Nat);omega,?_⟩;show((j:Nat):Int)<((l.getD ((n:Nat):Int).toNat dF_).cH.length:Int);rw[Int.toNat_natCast];omega
theorem E8x {l:List cE}(hq: ∀b∈l,b.cH.length<=8):(∀x∈scR l,F16 l x)/\(scR l).length<=8*l.length:=E05 l hq l.length (ze _)
def A8d(l:List cE)(js:List cF):eY:=⟨l,js,scR l,scE l (scR l)⟩
theorem C2e(l:List cE)(js:List cF)(hl:l.length<=60)(hq: ∀b∈l,b.cH.length<=8)(hv: ∀b∈l,∀f∈b.cH,f.Shape.cK.length<=1048576):cA_ 242 [A4 20 cE.enc dF_ l,A4 24 cF.enc dF_ js] [] (.agg (A8d l js).enc) []:=by
 refine M3 58 [(4,some (some 4))] hm A6 Tryz.func242 rfl (st_ ?_);refine B1 hm (ι:= {i:Nat // i<=l.length}) (λi=> [(4, .cA, .ptr 80 0 0 1),(5, .cA, .ptr 96 0 0 1),(6, .cA, .mp 3),(14, .cA,A4 20 cE.enc dF_ l),(15, .cA,sI l.length),(16, .cA,sI (i.1:Nat))]) (λi=> [(80, .box [.sc (.slice none 0 0), .sc (.slice none 0 0), .sc (.slice none 0 0), .sc (.slice none 0 0)]),(96, .box [A4 20 cE.enc dF_ l,A4 24 cF.enc dF_ js, .sl 1 0 (scF l i.1).1.length (scF l i.1).1.length, .sl 2 0 (scE l (scF l i.1).1).length (scE l (scF l i.1).1).length]),(1, .arr 2 (B0 I4.enc dF_ (scF l i.1).1)),(2, .arr 5 (B0 cO.enc dF_ (scE l (scF l i.1).1))),(3, .map .i64 (C6u id (scF l i.1).2))]) (λi=>l.length-i.1) ⟨0,zm _⟩ ?_ ?_
 ·simp only[show scF l 0=([],[])from rfl,show scE l []= []from rfl];refine A9 [(3,224)] [1,2] (st_ ?_);exact eE_
 ·rintro⟨i,hi⟩;dsimp only;have hok:=E05 l hq i hi
  have hn:scF l (i+1)=scS l i (scF l i):=H7 ..
  have hfin:l.length<=i->(scF l i).1=scR l:=λh=>by rw[show i=l.length by omega];rfl
  generalize scF l i=s at hn hfin hok⊢;obtain⟨r,m⟩:=s;dsimp only at hok hfin⊢;have hlE:=C86 l r
  have hg:=D1o id (l.getD i dF_).ID m;unfold scS at hn;dsimp only at hn;simp only[id]at hg;by_cases hlt:i<l.length;rotate_left
  ·refine st_ ?_;rw[zb o_,hfin o_];exact⟨D0 _,D0 _,D0 _,D0 _⟩
  have hbm:=B6 (l:=l) dF_ hlt
  have hqb:=hq _ hbm
  have hvb:=hv _ hbm;cases hmm:m.any λy=>(l.getD i dF_).ID==y with
  |true=>rw[hmm]at hg;simp only[cond_true]at hg;rw[hmm,zc rfl]at hn;simp only[go_sem,go_sem_proc,hg];rw[zc o_];refine⟨bE_,?_⟩;refine A8 ⟨i+1,o_⟩ (by show l.length-(i+1)<l.length-i;omega) ?_;simp only[hn];refine A9 [] [] (st_ ?_);exact eE_
  |false=>
   rw[hmm]at hg;simp only[cond_false]at hg;rw[hmm,zb p_]at hn;simp only[go_sem,go_sem_proc,hg,C89];rw[zc o_];refine⟨bE_,?_⟩;generalize hbd:l.getD i dF_=b at hbm hqb hvb hn hmm⊢;have h0:sc1 i 0 r=r:=by simp[sc1]
   refine B1 hm (ι:= {j:Nat // j<=b.cH.length}) (λj=> [(4, .cA, .ptr 80 0 0 1),(5, .cA, .ptr 96 0 0 1),(6, .cA, .mp 3),(14, .cA,A4 20 cE.enc dF_ l),(15, .cA,sI l.length),(16, .cA,sI (i:Nat)),(7, .cA,sI (i:Nat)),(8, .eP, .dE b.enc),(30, .cA,sI b.cH.length),(31, .cA,sI (j.1:Nat))]) (λj=> [(80, .box [.sc (.slice none 0 0), .sc (.slice none 0 0), .sc (.slice none 0 0), .sc (.slice none 0 0)]),(96, .box [A4 20 cE.enc dF_ l,A4 24 cF.enc dF_ js, .sl 1 0 (sc1 i j.1 r).length (sc1 i j.1 r).length, .sl 2 0 (scE l (sc1 i j.1 r)).length (scE l (sc1 i j.1 r)).length]),(1, .arr 2 (B0 I4.enc dF_ (sc1 i j.1 r))),(2, .arr 5 (B0 cO.enc dF_ (scE l (sc1 i j.1 r)))),(3, .map .i64 (C6u id (m++ [b.ID])))]) (λj=>b.cH.length-j.1) ⟨0,zm _⟩ ?_ ?_
   ·simp only[h0,<-D1p id b.ID m hmm];refine A9 [] [] ?_;simp only[go_sem,go_sem_proc,A2m];exact eE_
   ·rintro⟨j,hj⟩;dsimp only;have hr1:sc1 i (j+1) r=sc1 i j r++ [⟨(i:Nat),(j:Nat)⟩]:=F1o ..
    have hE1:scE l (sc1 i (j+1) r)=scE l (sc1 i j r)++ [⟨((sc1 i j r).length:Nat),(A2r b (j:Nat)).eV⟩]:=by rw[hr1,F48];show _++ [(⟨_,(A2r (l.getD ((i:Nat):Int).toNat dF_) (j:Nat)).eV⟩:cO)]=_;rw[Int.toNat_natCast,hbd]
    have hl1:(sc1 i j r).length=r.length+j:=E4e ..
    have hl2:=C86 l (sc1 i j r)
    have hfin2:b.cH.length<=j->sc1 i j r=sc1 i b.cH.length r:=λh=>by rw[show j=b.cH.length by omega]
    generalize sc1 i j r=u at hr1 hE1 hl1 hl2 hfin2⊢;generalize he:scE l u=e at hE1 hl2⊢;refine st_ ?_;by_cases hlt2:j<b.cH.length
    ·rw[zc o_];refine A0 (C69 b (j:Nat) ⟨o_,o_⟩ hvb) rfl (st_ ?_);refine⟨bE_,bE_,?_⟩;refine A8 ⟨j+1,o_⟩ (by show b.cH.length-(j+1)<b.cH.length-j;omega) ?_;simp only[hE1];simp only[hr1];refine A9 [] [] (st_ ?_);exact eE_
    ·rw[zb o_];refine A8 ⟨i+1,o_⟩ (by show l.length-(i+1)<l.length-i;omega) ?_;simp only[hn];rw[<-hfin2 o_,he];refine A9 [] [] (st_ ?_);exact eE_
end Go.Abs
end
noncomputable section
namespace Go.Abs
open Go.Proofs
open Api
open Go.Sort
theorem F96(a b c d:Int):A1t [a,b,c,d]=if a≠0 then a else if b≠0 then b else if c≠0 then c else d:=by unfold A1t;simp only[List.length_cons,List.length_nil,qk,Nat.reduceAdd,I8,A6s];by_cases ha:a=0 <;> by_cases hb:b=0 <;> by_cases hc:c=0 <;> by_cases hd:d=0 <;> simp[ha,hb,hc,hd]
def D8c(a b:cR):Int:=B62 [cR.cU,cR.dM,cR.cV,cR.dJ] a b
theorem F8d(a b:cR):A14 a b=D8c a b:=by unfold A14 D8c;dsimp only;rw[F96,B96,B96,B96,B96];simp only[B62];by_cases h:B8k a.dJ b.dJ=0 <;> simp[h]
def F7s(x:cR):KEl 4:=⟨[x.cU,x.dM,x.cV,x.dJ],rfl⟩
def F1e(y:KEl 4):cR:=⟨y.1.getD 0 0,y.1.getD 1 0,y.1.getD 2 0,y.1.getD 3 0⟩
theorem F1f: ∀y:KEl 4,kav y=(F1e y).enc
 |⟨[a,b,c,d],_⟩=>rfl
def E0k(l:List cR):List cR:=B12 F7s F1e D8c l
theorem D3k(l:List cR):(E0k l).length=l.length:=B7d (B0i _) l
theorem B73(id:Nat)(l:List cR)(hl:l.length<4611686018427387904):
  cA_ 246 [.sl id 0 l.length l.length, .fn (.func 247) [] []] [(id, .arr 4 (B0 cR.enc dF_ l))] (.tup []) [(id, .arr 4 (B0 cR.enc dF_ (E0k l)))]:=
 D52 (toK:=F7s) (fromK:=F1e) (cf:=D8c) Tryz.laySF_PairKey (by decide) (by kernel_rfl) (λw=>Z5 (by kernel_rfl)) (λw=>T9 (by kernel_rfl)) dF_ rfl (λx=>rfl) F1f (B0i _) (λargs w=>A8a (by kernel_rfl) args)
  (λx y=>by have:=B39 x y;rwa[F8d]at this) id l hl
theorem E3z(l:List cO): ∀i,i<=l.length-> ∀p∈nbP l i,p.1∈l/\p.2∈l
 |0,_,p,hp=>by simp[nbP]at hp
 |i+1,h,p,hp=>by
  rw[nbP,zj]at hp;rcases hp with hp |hp
  ·exact E3z l i o_ p hp
  ·unfold nbI at hp;obtain⟨b,hb,rfl⟩:=qL.1 hp;exact⟨B6 dF_ o_,List.mem_of_mem_drop ((List.takeWhile_prefix (B5i (l.getD i dF_))).subset hb)⟩
theorem E8l {l:List cO}{n:Int}(h: ∀x∈l,0<=x.ID/\x.ID<n): ∀p∈B1p l,(0<=p.1/\p.1<n)/\0<=p.2/\p.2<n:=by
 intro p hp;unfold B1p C61 at hp;rw[D4b (show SWO (ltOf C83)from B0i _) (λ_=>rfl)]at hp;unfold C2a at hp;obtain⟨q,hq,e⟩:=xn.1 hp;have hm:=E3z _ _ (ze _) q hq
 have hs: ∀x∈A74 (A5b l),0<=x.ID/\x.ID<n:=λx hx=>by
  unfold A74 at hx;rw[D4b (show SWO (ltOf E5i)from B0i _) (λ_=>rfl)]at hx;rcases E04 l [] x hx with h1 |h1
  ·cases h1
  ·exact h x h1
 have h1:=hs _ hm.1
 have h2:=hs _ hm.2;unfold pr1 at e;split at e
 ·injection e with e;subst e;dsimp only;split <;> split <;> omega
 ·cases e
def B18(s:eY)(p:P2):Option cR:=if A06 s (s.refs.getD p.1.toNat dF_) (s.refs.getD p.2.toNat dF_)=true then some (A4h s (s.refs.getD p.1.toNat dF_) (s.refs.getD p.2.toNat dF_))else none
def fpU(l:List cE)(js:List cF):List cR:=(B1p (A8d l js).entries).filterMap (B18 (A8d l js))
def fpL(l:List cE)(js:List cF):List cR:=E0k (fpU l js)
theorem D3i(l:List cO)(hl:l.length<=480):(B1p l).length<=230400:=by unfold B1p;rw[D3h];exact(D3j l hl).1
theorem C8q(l:List cE)(js:List cF)(hl:l.length<=60)(hq: ∀b∈l,b.cH.length<=8):(fpL l js).length<=230400:=by
 unfold fpL;rw[D3k];have h1:(fpU l js).length<=(B1p (A8d l js).entries).length:=qC ..
 have h2:=(E8x hq).2
 have h3:=D3i (A8d l js).entries (by show(scE l (scR l)).length<=_;rw[C86];omega);omega
theorem B1t(l:List cE)(js:List cF)(hl:l.length<=60)(hq: ∀b∈l,b.cH.length<=8)(hv: ∀b∈l,∀f∈b.cH,f.Shape.cK.length<=1048576)(hj:js.length<=1048576):cA_ 153 [A4 20 cE.enc dF_ l,A4 24 cF.enc dF_ js] [] (A4 4 cR.enc dF_ (fpL l js)) []:=by
 have hS:=C2e l js hl hq hv
 have hR:=E8x hq
 have hP:=E8l (l:=(A8d l js).entries) (n:=(scR l).length) (λx hx=>F7v hx)
 have hle:(A8d l js).entries.length<=480:=by show(scE l (scR l)).length<=_;rw[C86];omega
 have hlen:=D3i _ hle
 have hC:=E2r _ hle
 have hrefs:(A8d l js).refs=scR l:=rfl
 have hbod:(A8d l js).bodies=l:=rfl
 have hjs:(A8d l js).joints=js:=rfl;unfold fpL fpU;generalize A8d l js=s at hS hP hlen hC hrefs hbod hjs⊢;generalize hps:B1p s.entries=ps at hP hlen hC⊢;refine en1 hm A6 Tryz.func153 rfl rfl (st_ ?_);refine A0 hS rfl (st_ ?_);refine A0 hC rfl (st_ ?_);refine B1 hm (ι:= {i:Nat // i<=ps.length}) (λi=> [(5, .cA, .ptr 96 0 0 1),(6,mdA i.1, .sl 1 0 ((ps.take i.1).filterMap (B18 s)).length ((ps.take i.1).filterMap (B18 s)).length),(16, .cA,A4 2 p2E dF_ ps),(17, .cA,sI ps.length),(18, .cA,sI (i.1:Nat))]) (λi=> [(96, .box s.enc),(1, .arr 4 (B0 cR.enc dF_ ((ps.take i.1).filterMap (B18 s))))]) (λi=>ps.length-i.1) ⟨0,zm _⟩ ?_ ?_
 ·simp only[List.take_zero,List.filterMap_nil];refine A9 [] [1] ?_;simp only[go_sem,go_sem_proc]
 ·rintro⟨i,hi⟩;dsimp only;have hn:i<ps.length->(ps.take (i+1)).filterMap (B18 s)=(ps.take i).filterMap (B18 s)++(B18 s (ps.getD i dF_)).toList:=λh=>C14 h
  have hfin:ps.length<=i->(ps.take i).filterMap (B18 s)=ps.filterMap (B18 s):=λh=>by rw[show i=ps.length by omega,zn]
  have hln:=C6f (f:=B18 s) (l:=ps) i;generalize(ps.take i).filterMap (B18 s)=v at hn hfin hln⊢;refine st_ ?_;by_cases hlt:i<ps.length;rotate_left
  ·rw[zb o_];refine K6 (B73 1 v o_) (by simp[okO]) (by simp[okO]) p_ (by simp[upd]) p_ ?_ rfl ?_
   ·intro a ha j hj;obtain⟨k,hk⟩:=zA ha;have:=P7 hk j hj;simp[F6,AV.ids]at this;subst this;rfl
   refine st_ ?_;rw[<-hfin o_];rw[D3k];exact⟨rfl,D0 _⟩
  rw[zc o_];replace hn:=hn hlt;have hp:=hP _ (B6 (l:=ps) dF_ hlt);rw[show B18 s (ps.getD i dF_)=if A06 s (s.refs.getD (ps.getD i dF_).1.toNat dF_) (s.refs.getD (ps.getD i dF_).2.toNat dF_)=true then some (A4h s (s.refs.getD (ps.getD i dF_).1.toNat dF_) (s.refs.getD (ps.getD i dF_).2.toNat dF_))else none from rfl]at hn;generalize ps.getD i dF_=p at hn hp⊢;obtain⟨p1,p2⟩:=p;dsimp only at hp hn;have hx:=hR.1 _ (B6 (l:=scR l) (i:=p1.toNat) dF_ o_)
  have hy:=hR.1 _ (B6 (l:=scR l) (i:=p2.toNat) dF_ o_);rw[<-hrefs]at hx hy;have hxl:p1.toNat<s.refs.length:=by rw[hrefs];omega
  have hyl:p2.toNat<s.refs.length:=by rw[hrefs];omega
  generalize s.refs.getD p1.toNat dF_=x at hx hn⊢;generalize s.refs.getD p2.toNat dF_=y at hy hn⊢;obtain⟨x1,x2,x3,x4⟩:=hx;obtain⟨y1,y2,y3,y4⟩:=hy;refine⟨bE_,bE_,by dsimp only;omega,bE_,by dsimp only;omega,?_⟩;have bx:0<=x.body/\x.body<s.bodies.length:=⟨x1,by rw[hbod];exact x2⟩
  have by':0<=y.body/\y.body<s.bodies.length:=⟨y1,by rw[hbod];exact y2⟩;refine A0 (B67 s x y bx by' ⟨x3,by rw[hbod];exact x4⟩ ⟨y3,by rw[hbod];exact y4⟩ (by rw[hjs];exact hj)) rfl ?_;generalize A06 s x y=ok at hn⊢;cases ok with
  |false=>rw[zb p_]at hn;simp only[Option.toList,qF]at hn;refine st_ ?_;refine A8 ⟨i+1,o_⟩ (by show ps.length-(i+1)<ps.length-i;omega) ?_;simp only[hn];refine A9 [] [] (st_ ?_);exact eE_
  |true=>rw[zc rfl]at hn;simp only[Option.toList]at hn;refine st_ ?_;refine A0 (C1c s x y bx by') rfl (st_ ?_);refine⟨bE_,?_⟩;refine A8 ⟨i+1,o_⟩ (by show ps.length-(i+1)<ps.length-i;omega) ?_;simp only[hn];refine A9 [] [] (st_ ?_);exact eE_
end Go.Abs
end
