/- A part of the proof: contracts of functions that the statement reaches. -/
import Derived.Test.YtchcbiiammkhgaaGreatMM
import Derived.Shelf.Sort.Plain
import Derived.Shelf.Slices.Turned
import Derived.Ground.Names2Prog
import Derived.Shelf.Slices.CompactI
import Derived.Shelf.Slices.In.SortNone
import Derived.Ground.SlsfProg
import Derived.Shelf.SlSortCmp.WholeK
import Derived.Shelf.SlSortCmp.NoneTotal
import Derived.Test.YtchcbiiammkhgaaGreatProg
import Derived.Shelf.SlGeneric
set_option linter.unusedSimpArgs false
set_option linter.unusedVariables false
set_option linter.unnecessarySimpa false
set_option maxRecDepth 100000
set_option maxHeartbeats 2000000
noncomputable section
namespace Go.Abs
open Go.Proofs
open Api
def D9n(x:sap_Entry):Int:=x.Bounds.Min.X
def F5v(x:sap_Entry):Int:=x.Bounds.Max.X
def B5l(a b:sap_Entry):Bool:= !decide (F5v a<D9n b)
def nbI(a:sap_Entry)(l:List sap_Entry):List (sap_Entry×sap_Entry):=(l.takeWhile (B5l a)).map λb=>(a,b)
def nbP(l:List sap_Entry):Nat->List (sap_Entry×sap_Entry)
 |0=> []
 |i+1=>nbP l i++nbI (l.getD i default) (l.drop (i+1))
def C18(l:List sap_Entry):List (sap_Entry×sap_Entry):=nbP l l.length
def F1a(p:sap_Entry×sap_Entry):List AV:= [.agg p.1.enc, .agg p.2.enc]
theorem F3c(a:sap_Entry): ∀(m:List sap_Entry) (j:Nat),j<=m.length->(∀k,k<j->B5l a (m.getD k default)=true)->(j=m.length\/B5l a (m.getD j default)=false)->nbI a m=(m.take j).map λb=>(a,b)
 | [],j,hj,_,_=>by simp at hj;subst hj;rfl
 |b::m,0,_,_,h=>by
  rcases h with h |h
  ·simp at h
  ·simp only[List.getD_cons_zero]at h;simp[nbI,List.takeWhile,h]
 |b::m,j+1,hj,hk,h=>by have h0:=hk 0 (by omega);simp only[List.getD_cons_zero]at h0;have ih:=F3c a m j (by simpa using hj) (λk hk'=>by have:=hk (k+1) (by omega);simpa using this) (by rcases h with h |h;exact .inl (by simpa using h);exact .inr (by simpa using h));unfold nbI at ih⊢;rw[List.takeWhile_cons,if_pos h0,List.map_cons,ih,List.take_succ_cons,List.map_cons]
theorem F5z(l:List sap_Entry): ∀i,i<=l.length->(nbP l i).length<=(C18 l).length:=by
 have mono: ∀k i,(nbP l i).length<=(nbP l (i+k)).length:=by
  intro k;induction k with
  |zero=>intro i;exact Nat.le_refl _
  |succ k ih=>intro i;refine Nat.le_trans (ih i) ?_;rw[show i+(k+1)=(i+k)+1 by omega,nbP,List.length_append];omega
 intro i hi;have:=mono (l.length-i) i;rwa[show i+(l.length-i)=l.length by omega]at this
theorem E9i(a:sap_Entry): ∀(m:List sap_Entry) (j:Nat),j<m.length->(∀k,k<=j->B5l a (m.getD k default)=true)->j+1<=(m.takeWhile (B5l a)).length
 | [],j,hj,_=>by simp at hj
 |b::m,j,hj,hk=>by
  have h0:=hk 0 (by omega);simp only[List.getD_cons_zero]at h0;rw[List.takeWhile_cons,if_pos h0,List.length_cons];cases j with
  |zero=>omega
  |succ j=>have:=E9i a m j (by simpa using hj) (λk hk'=>by have:=hk (k+1) (by omega);simpa using this);omega
theorem F3d(l:List sap_Entry)(i j:Nat)(hi:i<l.length)(hj:j<(l.drop (i+1)).length)(hk: ∀k,k<=j->B5l (l.getD i default) ((l.drop (i+1)).getD k default)=true):
  (nbP l i++((l.drop (i+1)).take j).map λb=>(l.getD i default,b)).length<(C18 l).length:=by
 refine Nat.lt_of_lt_of_le ?_ (F5z l (i+1) hi);rw[nbP,List.length_append,List.length_append];have:=E9i (l.getD i default) (l.drop (i+1)) j hj hk;unfold nbI;rw[List.length_map,List.length_map];have h2:((l.drop (i+1)).take j).length=j:=by rw[List.length_take];omega
 omega
theorem F5e(l:List sap_Entry)(i:Nat){z:Nat}{g:Nat->List AV}{n:Nat}(hn:n=l.length-(i+1))(hg: ∀k,g k=sap_Entry.enc (l.getD (i+1+k) default)):M4 (.dsl z n g) (.dsl z (l.drop (i+1)).length (L7 sap_Entry.enc default (l.drop (i+1)))):=by subst hn;rw[A11];refine⟨rfl,by rw[List.length_drop],λk hk=> ?_⟩;rw[hg];unfold L7;rw[show(l.drop (i+1)).getD k default=l.getD (i+1+k) default by simp[List.getD]];exact L3 _
theorem E4w(l:List sap_Entry)(hl:l.length<=1048576):F67 Tryz.prog A9x [.fptr [A2 5 sap_Entry.enc default l]] F1a (C18 l):=by
 rintro I hE hB us W G Φ hr hlt hJ hd;refine F22 (T:= [(0, .share, .fn (.yield I.l) [] []),(1, .share, .fptr [A2 5 sap_Entry.enc default l])]) Tryz.func465 (by kernel_rfl) (cs2 A4 rfl) (by kernel_rfl) (Nat.le_of_ble_eq_true (by kernel_rfl)) hr hlt hJ hd ?_ ?_
 ·intro t av ht;simp only[A1u]at ht;split at ht
  ·rename_i e;subst e;simpa using ht
  ·split at ht
   ·rename_i e;subst e;simpa using ht
   ·cases ht
 refine Yp.seq (Yp.plainN hm [(0, .share, .fn (.yield I.l) [] []),(1, .share, .fptr [A2 5 sap_Entry.enc default l]),(7, .share,A2 5 sap_Entry.enc default l),(8, .share,sI l.length),(9, .share,sI (0:Nat))] ?_ ?_)
 ·simp only[go_sem,go_sem_proc];refine B6 [] [] (by simp[go_sem]) (by simp[A6,go_sem]) (by simp[go_sem]) ?_;simp only[go_sem,go_sem_proc]
 refine Yp.block (Yp.loop (ι:= {i:Nat // i<=l.length}) (λi=> [(0, .share, .fn (.yield I.l) [] []),(1, .share, .fptr [A2 5 sap_Entry.enc default l]),(7, .share,A2 5 sap_Entry.enc default l),(8, .share,sI l.length),(9, .share,sI (i.1:Nat))]) (λi=>nbP l i.1) (λi=>l.length-i.1) ⟨0,Nat.zero_le _⟩ ?_);rintro⟨i,hi⟩;dsimp only;by_cases h:i<l.length
 ·refine Yp.seq (Yp.plainN hm [(0, .share, .fn (.yield I.l) [] []),(1, .share, .fptr [A2 5 sap_Entry.enc default l]),(7, .share,A2 5 sap_Entry.enc default l),(8, .share,sI l.length),(9, .share,sI (i:Nat)),(10, .share,sB true)] ?_ ?_)
  ·simp only[go_sem,go_sem_proc];refine B6 [] [] (by simp[go_sem]) (by simp[A6,go_sem]) (by simp[go_sem]) ?_;simp only[go_sem,go_sem_proc];simpa using h
  refine Yp.seq (Yp.cond (t:=true) rfl ?_);rw[if_pos rfl];refine Yp.skip hm ?_;refine Yp.seq (Yp.block (Yp.seq (Yp.plainN hm [(0, .share, .fn (.yield I.l) [] []),(1, .share, .fptr [A2 5 sap_Entry.enc default l]),(7, .share,A2 5 sap_Entry.enc default l),(8, .share,sI l.length),(9, .share,sI (i:Nat)),(3, .share,sI i),(4, .thaw, .fptr (l.getD i default).enc)] ?_ ?_)))
  ·simp only[go_sem,go_sem_proc];refine⟨⟨by omega,by omega⟩,?_⟩;refine B6 [] [] (by simp[go_sem]) (by simp[A6,go_sem]) (by simp[go_sem]) ?_;simp only[go_sem,go_sem_proc];exact⟨trivial,I4 _⟩
  refine Yp.seq (Yp.plainN hm [(0, .share, .fn (.yield I.l) [] []),(1, .share, .fptr [A2 5 sap_Entry.enc default l]),(7, .share,A2 5 sap_Entry.enc default l),(8, .share,sI l.length),(9, .share,sI (i:Nat)),(4, .thaw, .fptr (l.getD i default).enc),(17, .thaw,A2 5 sap_Entry.enc default (l.drop (i+1))),(18, .share,sI ((l.drop (i+1)).length)),(19, .share,sI (0:Nat))] ?_ ?_)
  ·simp only[go_sem,go_sem_proc];refine⟨⟨by rw[IntKind.wrap_i64];omega,by rw[IntKind.wrap_i64];omega⟩,?_⟩;refine B6 [] [] (by simp[go_sem]) (by simp[A6,go_sem]) (by simp[go_sem]) ?_;simp only[go_sem,go_sem_proc];have hw:IntKind.i64.wrap ((i:Int)+1)=(i:Int)+1:=by rw[IntKind.wrap_i64];omega
   have hw2:((i:Int)+1).toNat=i+1:=by omega
   rw[hw,hw2];exact⟨F5e l i (by omega) λk=>rfl,by rw[List.length_drop];omega⟩
  have tail: ∀T':H6,Y5 [] (A14 T' []) [(0, .share, .fn (.yield I.l) [] []),(1, .share, .fptr [A2 5 sap_Entry.enc default l]),(7, .share,A2 5 sap_Entry.enc default l),(8, .share,sI l.length),(9, .share,sI (i:Nat))] []->Yp I Tryz.f465.ntmps (.region false [⟨some 38, .bin .add (.t 9) (.k (sI 1)),none,[]⟩,⟨some 9, .mov (.t 38),none,[]⟩]) (E92 (λT' p'=> ∃i',(λi=>l.length-i.1) i'<l.length-i/\T'=(λi: {i:Nat // i<=l.length}=> [(0, .share, .fn (.yield I.l) [] []),(1, .share, .fptr [A2 5 sap_Entry.enc default l]),(7, .share,A2 5 sap_Entry.enc default l),(8, .share,sI l.length),(9, .share,sI (i.1:Nat))]) i'/\p'=(λi: {i:Nat // i<=l.length}=>nbP l i.1) i') (E3x 0 λo x p=>(o=Out.normal\/o=Out.ret)/\p=C18 l)) T' (nbP l (i+1)):=by
   intro T' hT';refine Yp.plain (Wp.weak hT' (Wp.of_W hm _ (show @Wi Tryz.prog _ [] _ (⟨λo τ=>o= .normal/\Y5 [] τ [(0, .share, .fn (.yield I.l) [] []),(1, .share, .fptr [A2 5 sap_Entry.enc default l]),(7, .share,A2 5 sap_Entry.enc default l),(8, .share,sI l.length),(9, .share,sI (i+1:Nat))] []⟩) _ from ?_))|>.mono λo τ ho=> ?_)
   ·simp only[go_sem,go_sem_proc];refine B6 [] [] (by simp[go_sem]) (by simp[A6,go_sem]) (by simp[go_sem]) ?_;simp only[go_sem,go_sem_proc];rw[IntKind.wrap_i64];omega
   ·obtain⟨rfl,ho⟩:=ho;exact⟨_,⟨⟨i+1,h⟩,by show l.length-(i+1)<l.length-i;omega,rfl,rfl⟩,ho⟩
  refine Yp.block (Yp.pre_eq (pre':=nbP l i++((l.drop (i+1)).take 0).map λb=>(l.getD i default,b)) (by simp) (Yp.loop (ι:= {j:Nat // j<=(l.drop (i+1)).length/\ ∀k,k<j->B5l (l.getD i default) ((l.drop (i+1)).getD k default)=true}) (λj=> [(0, .share, .fn (.yield I.l) [] []),(1, .share, .fptr [A2 5 sap_Entry.enc default l]),(7, .share,A2 5 sap_Entry.enc default l),(8, .share,sI l.length),(9, .share,sI (i:Nat)),(4, .thaw, .fptr (l.getD i default).enc),(17, .thaw,A2 5 sap_Entry.enc default (l.drop (i+1))),(18, .share,sI ((l.drop (i+1)).length)),(19, .share,sI (j.1:Nat))]) (λj=>nbP l i++((l.drop (i+1)).take j.1).map λb=>(l.getD i default,b)) (λj=>(l.drop (i+1)).length-j.1) ⟨0,Nat.zero_le _,λk hk=>by omega⟩ ?_));rintro⟨j,hj,hk⟩;dsimp only;have hdl:(l.drop (i+1)).length=l.length-(i+1):=List.length_drop
  have fin:(j=(l.drop (i+1)).length\/B5l (l.getD i default) ((l.drop (i+1)).getD j default)=false)->nbP l i++(((l.drop (i+1)).take j).map λb=>(l.getD i default,b))=nbP l (i+1):=λhe=>by rw[nbP,F3c (l.getD i default) (l.drop (i+1)) j hj hk he]
  by_cases h2:j<(l.drop (i+1)).length
  ·refine Yp.seq (Yp.plainN hm [(0, .share, .fn (.yield I.l) [] []),(1, .share, .fptr [A2 5 sap_Entry.enc default l]),(7, .share,A2 5 sap_Entry.enc default l),(8, .share,sI l.length),(9, .share,sI (i:Nat)),(4, .thaw, .fptr (l.getD i default).enc),(17, .thaw,A2 5 sap_Entry.enc default (l.drop (i+1))),(18, .share,sI ((l.drop (i+1)).length)),(19, .share,sI (j:Nat)),(20, .share,sB true)] ?_ ?_)
   ·simp only[go_sem,go_sem_proc];refine B6 [] [] (by simp[go_sem]) (by simp[A6,go_sem]) (by simp[go_sem]) ?_;simp only[go_sem,go_sem_proc];omega
   refine Yp.seq (Yp.cond (t:=true) rfl ?_);rw[if_pos rfl];refine Yp.skip hm ?_;refine Yp.seq (Yp.block (Yp.seq (Yp.plainN hm [(0, .share, .fn (.yield I.l) [] []),(1, .share, .fptr [A2 5 sap_Entry.enc default l]),(7, .share,A2 5 sap_Entry.enc default l),(8, .share,sI l.length),(9, .share,sI (i:Nat)),(4, .thaw, .fptr (l.getD i default).enc),(17, .thaw,A2 5 sap_Entry.enc default (l.drop (i+1))),(18, .share,sI ((l.drop (i+1)).length)),(19, .share,sI (j:Nat)),(6, .thaw, .fptr ((l.drop (i+1)).getD j default).enc)] ?_ ?_)))
   ·simp only[go_sem,go_sem_proc];refine⟨⟨by omega,by omega⟩,?_⟩;refine B6 [] [] (by simp[go_sem]) (by simp[A6,go_sem]) (by simp[go_sem]) ?_;simp only[go_sem,go_sem_proc]
    all_goals((repeat' (with_reducible apply And.intro)) <;> trivial)
   by_cases hb:B5l (l.getD i default) ((l.drop (i+1)).getD j default)=true
   ·have hb': ¬F5v (l.getD i default)<D9n ((l.drop (i+1)).getD j default):=by simpa[B5l]using hb
    refine Yp.seq (Yp.seq (Yp.plainN hm [(0, .share, .fn (.yield I.l) [] []),(1, .share, .fptr [A2 5 sap_Entry.enc default l]),(7, .share,A2 5 sap_Entry.enc default l),(8, .share,sI l.length),(9, .share,sI (i:Nat)),(4, .thaw, .fptr (l.getD i default).enc),(17, .thaw,A2 5 sap_Entry.enc default (l.drop (i+1))),(18, .share,sI ((l.drop (i+1)).length)),(19, .share,sI (j:Nat)),(6, .thaw, .fptr ((l.drop (i+1)).getD j default).enc),(31, .share,sB false)] ?_ ?_))
    ·simp only[go_sem,go_sem_proc];refine B6 [] [] (by simp[go_sem]) (by simp[A6,go_sem]) (by simp[go_sem]) ?_;simp only[go_sem,go_sem_proc];exact decide_eq_false hb'
    refine Yp.cond (t:=false) rfl ?_;rw[if_neg (by simp)];refine Yp.skip hm ?_;refine Yp.seq (Yp.yieldI (pr:= [_,_,_]) (po:= [_]) (d:=35) (x:= .t 32) (xs:= [.t 33, .t 34]) (l.getD i default,(l.drop (i+1)).getD j default) [(0, .share, .fn (.yield I.l) [] []),(1, .share, .fptr [A2 5 sap_Entry.enc default l]),(7, .share,A2 5 sap_Entry.enc default l),(8, .share,sI l.length),(9, .share,sI (i:Nat)),(4, .thaw, .fptr (l.getD i default).enc),(17, .thaw,A2 5 sap_Entry.enc default (l.drop (i+1))),(18, .share,sI ((l.drop (i+1)).length)),(19, .share,sI (j:Nat)),(36, .share,sB false)] ?_ ?_ ?_ ?_)
    ·rw[hB];exact F3d l i j h h2 λk hk'=>by
      rcases Nat.lt_or_ge k j with h3 |h3
      ·exact hk k h3
      ·obtain rfl:k=j:=by omega
       exact hb
    ·rw[hE];intro av hav;simp only[F1a,List.mem_cons,List.not_mem_nil,or_false]at hav;rcases hav with rfl |rfl <;> exact⟨rfl,rfl⟩
    ·simp only[go_sem,go_sem_proc,F13];refine⟨by rw[hE];rfl,?_⟩;refine B6 [] [] (by simp[go_sem]) (by simp[A6,go_sem]) (by simp[go_sem]) ?_;simp only[go_sem,go_sem_proc]
    refine Yp.cond (t:=false) rfl ?_;rw[if_neg (by simp)];refine Yp.skip hm ?_;refine Yp.plainN hm [(0, .share, .fn (.yield I.l) [] []),(1, .share, .fptr [A2 5 sap_Entry.enc default l]),(7, .share,A2 5 sap_Entry.enc default l),(8, .share,sI l.length),(9, .share,sI (i:Nat)),(4, .thaw, .fptr (l.getD i default).enc),(17, .thaw,A2 5 sap_Entry.enc default (l.drop (i+1))),(18, .share,sI ((l.drop (i+1)).length)),(19, .share,sI (j+1:Nat))] ?_ ⟨⟨j+1,h2,λk hk'=>by
      rcases Nat.lt_or_ge k j with h3 |h3
      ·exact hk k h3
      ·obtain rfl:k=j:=by omega
       exact hb⟩,by show(l.drop (i+1)).length-(j+1)<(l.drop (i+1)).length-j;omega,rfl,?_⟩
    ·simp only[go_sem,go_sem_proc];refine B6 [] [] (by simp[go_sem]) (by simp[A6,go_sem]) (by simp[go_sem]) ?_;simp only[go_sem,go_sem_proc];rw[IntKind.wrap_i64];omega
    ·show _=nbP l i++((l.drop (i+1)).take (j+1)).map λb=>(l.getD i default,b);rw[K9 default h2,List.map_append,List.append_assoc];rfl
   ·have hb':F5v (l.getD i default)<D9n ((l.drop (i+1)).getD j default):=by simpa[B5l]using hb
    refine Yp.seq (Yp.seq (Yp.plainN hm [(0, .share, .fn (.yield I.l) [] []),(1, .share, .fptr [A2 5 sap_Entry.enc default l]),(7, .share,A2 5 sap_Entry.enc default l),(8, .share,sI l.length),(9, .share,sI (i:Nat)),(4, .thaw, .fptr (l.getD i default).enc),(17, .thaw,A2 5 sap_Entry.enc default (l.drop (i+1))),(18, .share,sI ((l.drop (i+1)).length)),(19, .share,sI (j:Nat)),(6, .thaw, .fptr ((l.drop (i+1)).getD j default).enc),(31, .share,sB true)] ?_ ?_))
    ·simp only[go_sem,go_sem_proc];refine B6 [] [] (by simp[go_sem]) (by simp[A6,go_sem]) (by simp[go_sem]) ?_;simp only[go_sem,go_sem_proc];exact hb'
    refine Yp.cond (t:=true) rfl ?_;rw[if_pos rfl];refine Yp.exit ?_;show Yp I _ _ _ _ _;rw[fin (.inr (by simpa using hb))];refine tail _ ?_;refine B6 [] [] (by simp[go_sem]) (by simp[A6,go_sem]) (by simp[go_sem]) ?_;simp only[go_sem,go_sem_proc]
  ·refine Yp.seq (Yp.plainN hm [(0, .share, .fn (.yield I.l) [] []),(1, .share, .fptr [A2 5 sap_Entry.enc default l]),(7, .share,A2 5 sap_Entry.enc default l),(8, .share,sI l.length),(9, .share,sI (i:Nat)),(4, .thaw, .fptr (l.getD i default).enc),(17, .thaw,A2 5 sap_Entry.enc default (l.drop (i+1))),(18, .share,sI ((l.drop (i+1)).length)),(19, .share,sI (j:Nat)),(20, .share,sB false)] ?_ ?_)
   ·simp only[go_sem,go_sem_proc];refine B6 [] [] (by simp[go_sem]) (by simp[A6,go_sem]) (by simp[go_sem]) ?_;simp only[go_sem,go_sem_proc]
    trace_state
    simpa using h2
   refine Yp.seq (Yp.cond (t:=false) rfl ?_);rw[if_neg (by simp)];refine Yp.exit ?_;show Yp I _ _ _ _ _;rw[fin (.inl (by omega))];refine tail _ ?_;refine B6 [] [] (by simp[go_sem]) (by simp[A6,go_sem]) (by simp[go_sem]) ?_;simp only[go_sem,go_sem_proc]
 ·refine Yp.seq (Yp.plainN hm [(0, .share, .fn (.yield I.l) [] []),(1, .share, .fptr [A2 5 sap_Entry.enc default l]),(7, .share,A2 5 sap_Entry.enc default l),(8, .share,sI l.length),(9, .share,sI (i:Nat)),(10, .share,sB false)] ?_ ?_)
  ·simp only[go_sem,go_sem_proc];refine B6 [] [] (by simp[go_sem]) (by simp[A6,go_sem]) (by simp[go_sem]) ?_;simp only[go_sem,go_sem_proc]
   trace_state
   simpa using h
  refine Yp.seq (Yp.cond (t:=false) rfl ?_);rw[if_neg (by simp)];refine Yp.exit ?_;obtain rfl:i=l.length:=by omega
  exact⟨.inl rfl,rfl⟩
end Go.Abs
end
noncomputable section
namespace Go.Proofs
open Go.Shelf
def Tryz.lays189_ren:Go.Shelf.Ren:=⟨λ|189=>268 |125=>373 |257=>402 |128=>479 |129=>480 |294=>502 |295=>503 |296=>504 |297=>505 |298=>506 |299=>507 |216=>188 |300=>508 |301=>509 |328=>546 |329=>536 |330=>537 |331=>547 |332=>548 |215=>319 |343=>569 |n=>n,λ|28=>43 |3=>3 |46=>290 |0=>0 |51=>500 |53=>151 |4=>4 |183=>512 |182=>511 |131=>205 |5=>5 |9=>9 |218=>562 |222=>566 |228=>588 |229=>303 |n=>n,λ|n=>n⟩
theorem Tryz.lays189:Go.Proofs.Lays.n189 Tryz.prog Tryz.lays189_ren:= {
 mixed:=by kernel_rfl
 f125:=Tryz.func373.trans (congrArg some (by kernel_rfl))
 f128:=Tryz.func479.trans (congrArg some (by kernel_rfl))
 f129:=Tryz.func480.trans (congrArg some (by kernel_rfl))
 f189:=Tryz.func268.trans (congrArg some (by kernel_rfl))
 f215:=Tryz.func319.trans (congrArg some (by kernel_rfl))
 f216:=Tryz.func188.trans (congrArg some (by kernel_rfl))
 f257:=Tryz.func402.trans (congrArg some (by kernel_rfl))
 f294:=Tryz.func502.trans (congrArg some (by kernel_rfl))
 f295:=Tryz.func503.trans (congrArg some (by kernel_rfl))
 f296:=Tryz.func504.trans (congrArg some (by kernel_rfl))
 f297:=Tryz.func505.trans (congrArg some (by kernel_rfl))
 f298:=Tryz.func506.trans (congrArg some (by kernel_rfl))
 f299:=Tryz.func507.trans (congrArg some (by kernel_rfl))
 f300:=Tryz.func508.trans (congrArg some (by kernel_rfl))
 f301:=Tryz.func509.trans (congrArg some (by kernel_rfl))
 f328:=Tryz.func546.trans (congrArg some (by kernel_rfl))
 f329:=Tryz.func536.trans (congrArg some (by kernel_rfl))
 f330:=Tryz.func537.trans (congrArg some (by kernel_rfl))
 f331:=Tryz.func547.trans (congrArg some (by kernel_rfl))
 f332:=Tryz.func548.trans (congrArg some (by kernel_rfl))
 f343:=Tryz.func569.trans (congrArg some (by kernel_rfl))
 t0:=Tryz.underlying0
 a0:=Tryz.isAgg0
 z0:=Tryz.sizeOf0
 v0:=Tryz.zeroValue0
 t3:=Tryz.underlying3
 a3:=Tryz.isAgg3
 z3:=Tryz.sizeOf3
 v3:=Tryz.zeroValue3
 t4:=Tryz.underlying4
 a4:=Tryz.isAgg4
 z4:=Tryz.sizeOf4
 v4:=Tryz.zeroValue4
 t5:=Tryz.underlying5
 a5:=Tryz.isAgg5
 z5:=Tryz.sizeOf5
 v5:=Tryz.zeroValue5
 t9:=Tryz.underlying9
 a9:=Tryz.isAgg9
 z9:=Tryz.sizeOf9
 v9:=Tryz.zeroValue9
 t28:=Tryz.underlying43
 a28:=Tryz.isAgg43
 z28:=Tryz.sizeOf43
 v28:=Tryz.zeroValue43
 t46:=Tryz.underlying290
 a46:=Tryz.isAgg290
 z46:=Tryz.sizeOf290
 v46:=Tryz.zeroValue290
 t51:=Tryz.underlying500
 a51:=Tryz.isAgg500
 z51:=Tryz.sizeOf500
 v51:=Tryz.zeroValue500
 t53:=Tryz.underlying151
 a53:=Tryz.isAgg151
 z53:=Tryz.sizeOf151
 v53:=Tryz.zeroValue151
 t131:=Tryz.underlying205
 a131:=Tryz.isAgg205
 z131:=Tryz.sizeOf205
 v131:=Tryz.zeroValue205
 t182:=Tryz.underlying511
 a182:=Tryz.isAgg511
 z182:=Tryz.sizeOf511
 v182:=Tryz.zeroValue511
 t183:=Tryz.underlying512
 a183:=Tryz.isAgg512
 z183:=Tryz.sizeOf512
 v183:=Tryz.zeroValue512
 t218:=Tryz.underlying562
 a218:=Tryz.isAgg562
 z218:=Tryz.sizeOf562
 v218:=Tryz.zeroValue562
 t222:=Tryz.underlying566
 a222:=Tryz.isAgg566
 z222:=Tryz.sizeOf566
 v222:=Tryz.zeroValue566
 t228:=Tryz.underlying588
 a228:=Tryz.isAgg588
 z228:=Tryz.sizeOf588
 v228:=Tryz.zeroValue588
 t229:=Tryz.underlying303
 a229:=Tryz.isAgg303
 z229:=Tryz.sizeOf303
 v229:=Tryz.zeroValue303}
open Go.Sort Go.RowKit in
theorem Tryz.slices_Sort_int(blk off cap:Nat)(zs:List Int)(w:World)(hH:Holds (Value.int .i64) w blk off zs.toArray)(hblk:blk<w.heap.size)(hsz:zs.length<4611686018427387904):
  Calls Tryz.prog 268 #[.slice (some ⟨blk,off,none⟩) zs.length cap] w λe w'=>e= .returned (.tuple #[])/\ ∃n os,w'=grow (putRow (Value.int .i64) (Sort.ahead w n) blk off (zs.mergeSort λx y=>decide (x<=y)).toArray) os:=Any.slices_Sort_int Tryz.lays189 blk off cap zs w hH hblk hsz
def Tryz.laysNm220_ren:Go.Shelf.Ren:=⟨λ|20=>269 |n=>n,λ|22=>43 |3=>3 |4=>4 |0=>0 |n=>n,λ|n=>n⟩
theorem Tryz.laysNm220:Go.Proofs.Lays2.n20 Tryz.prog Tryz.laysNm220_ren:= {
 mixed:=by kernel_rfl
 f20:=Tryz.func269.trans (congrArg some (by kernel_rfl))
 t0:=Tryz.underlying0
 a0:=Tryz.isAgg0
 z0:=Tryz.sizeOf0
 v0:=Tryz.zeroValue0
 t3:=Tryz.underlying3
 a3:=Tryz.isAgg3
 z3:=Tryz.sizeOf3
 v3:=Tryz.zeroValue3
 t4:=Tryz.underlying4
 a4:=Tryz.isAgg4
 z4:=Tryz.sizeOf4
 v4:=Tryz.zeroValue4
 t22:=Tryz.underlying43
 a22:=Tryz.isAgg43
 z22:=Tryz.sizeOf43
 v22:=Tryz.zeroValue43
 i3:=by kernel_rfl}
open Go.RowKit Go.Lib Go.Sort in
theorem Tryz.slices_Compact_int(blk off cap:Nat)(zs:List Int)(w:World)(hH:Holds (Value.int .i64) w blk off zs.toArray)(hsz:zs.length<=9223372036854775807)(hcap:zs.length<=cap):
  Calls Tryz.prog 269 #[.slice (some ⟨blk,off,none⟩) zs.length cap] w λe w'=>e= .returned (.slice (some ⟨blk,off,none⟩) (Lib.compact zs).length cap)/\ ∃q,w'=putRow (Value.int .i64) (Sort.ahead w q) blk off (Lib.compact zs++List.replicate (zs.length-(Lib.compact zs).length) 0).toArray:=Any.slices_Compact_int Tryz.laysNm220 blk off cap zs w hH hsz hcap
open Go.RowKit Go.Lib Go.Sort in
theorem Tryz.slices_Compact_int_empty(a:Option Addr)(cap:Nat)(w:World):
  Calls Tryz.prog 269 #[.slice a 0 cap] w λe w'=>e= .returned (.slice a 0 cap)/\w'=w:=Any.slices_Compact_int_empty Tryz.laysNm220 a cap w
open Go.RowKit Go.Sort in
theorem Tryz.slices_Sort_int_none(p:Option Addr)(cap:Nat)(w:World):
  Calls Tryz.prog 268 #[.slice p 0 cap] w λe w'=>e= .returned (.tuple #[])/\w'=w:=Any.slices_Sort_int_none Tryz.lays189 p cap w
def Tryz.laySF_PairKey_ren:Go.Shelf.Ren:=⟨λ|6=>246 |15=>373 |14=>372 |28=>479 |29=>480 |20=>471 |21=>472 |22=>473 |23=>474 |24=>475 |25=>476 |26=>477 |27=>478 |46=>535 |47=>536 |48=>537 |49=>538 |50=>539 |57=>566 |n=>n,λ|22=>29 |24=>129 |25=>352 |3=>3 |39=>290 |0=>0 |53=>500 |55=>151 |4=>4 |46=>512 |45=>511 |50=>205 |5=>5 |9=>9 |66=>562 |70=>566 |76=>588 |77=>303 |n=>n,λ|n=>n⟩
theorem Tryz.laySF_PairKey:Go.Proofs.SlLaysF0.n6 Tryz.prog Tryz.laySF_PairKey_ren:= {
 mixed:=by kernel_rfl
 f6:=⟨Tryz.f246.name,by decide,Tryz.func246.trans (congrArg some (by kernel_rfl))⟩
 f14:=⟨Tryz.f372.name,by decide,Tryz.func372.trans (congrArg some (by kernel_rfl))⟩
 f15:=Tryz.func373.trans (congrArg some (by kernel_rfl))
 f20:=⟨Tryz.f471.name,by decide,Tryz.func471.trans (congrArg some (by kernel_rfl))⟩
 f21:=⟨Tryz.f472.name,by decide,Tryz.func472.trans (congrArg some (by kernel_rfl))⟩
 f22:=⟨Tryz.f473.name,by decide,Tryz.func473.trans (congrArg some (by kernel_rfl))⟩
 f23:=⟨Tryz.f474.name,by decide,Tryz.func474.trans (congrArg some (by kernel_rfl))⟩
 f24:=⟨Tryz.f475.name,by decide,Tryz.func475.trans (congrArg some (by kernel_rfl))⟩
 f25:=⟨Tryz.f476.name,by decide,Tryz.func476.trans (congrArg some (by kernel_rfl))⟩
 f26:=⟨Tryz.f477.name,by decide,Tryz.func477.trans (congrArg some (by kernel_rfl))⟩
 f27:=⟨Tryz.f478.name,by decide,Tryz.func478.trans (congrArg some (by kernel_rfl))⟩
 f28:=Tryz.func479.trans (congrArg some (by kernel_rfl))
 f29:=Tryz.func480.trans (congrArg some (by kernel_rfl))
 f46:=⟨Tryz.f535.name,by decide,Tryz.func535.trans (congrArg some (by kernel_rfl))⟩
 f47:=Tryz.func536.trans (congrArg some (by kernel_rfl))
 f48:=Tryz.func537.trans (congrArg some (by kernel_rfl))
 f49:=⟨Tryz.f538.name,by decide,Tryz.func538.trans (congrArg some (by kernel_rfl))⟩
 f50:=⟨Tryz.f539.name,by decide,Tryz.func539.trans (congrArg some (by kernel_rfl))⟩
 f57:=⟨Tryz.f566.name,by decide,Tryz.func566.trans (congrArg some (by kernel_rfl))⟩
 t0:=Tryz.underlying0
 a0:=Tryz.isAgg0
 z0:=Tryz.sizeOf0
 v0:=Tryz.zeroValue0
 t3:=Tryz.underlying3
 a3:=Tryz.isAgg3
 z3:=Tryz.sizeOf3
 v3:=Tryz.zeroValue3
 t4:=Tryz.underlying4
 a4:=Tryz.isAgg4
 z4:=Tryz.sizeOf4
 v4:=Tryz.zeroValue4
 t5:=Tryz.underlying5
 a5:=Tryz.isAgg5
 z5:=Tryz.sizeOf5
 v5:=Tryz.zeroValue5
 t9:=Tryz.underlying9
 a9:=Tryz.isAgg9
 z9:=Tryz.sizeOf9
 v9:=Tryz.zeroValue9
 t22:=Tryz.underlying29
 a22:=Tryz.isAgg29
 z22:=Tryz.sizeOf29
 v22:=Tryz.zeroValue29
 t25:=Tryz.underlying352
 a25:=Tryz.isAgg352
 z25:=Tryz.sizeOf352
 v25:=Tryz.zeroValue352
 t39:=Tryz.underlying290
 a39:=Tryz.isAgg290
 z39:=Tryz.sizeOf290
 v39:=Tryz.zeroValue290
 t45:=Tryz.underlying511
 a45:=Tryz.isAgg511
 z45:=Tryz.sizeOf511
 v45:=Tryz.zeroValue511
 t46:=Tryz.underlying512
 a46:=Tryz.isAgg512
 z46:=Tryz.sizeOf512
 v46:=Tryz.zeroValue512
 t50:=Tryz.underlying205
 a50:=Tryz.isAgg205
 z50:=Tryz.sizeOf205
 v50:=Tryz.zeroValue205
 t53:=Tryz.underlying500
 a53:=Tryz.isAgg500
 z53:=Tryz.sizeOf500
 v53:=Tryz.zeroValue500
 t55:=Tryz.underlying151
 a55:=Tryz.isAgg151
 z55:=Tryz.sizeOf151
 v55:=Tryz.zeroValue151
 t66:=Tryz.underlying562
 a66:=Tryz.isAgg562
 z66:=Tryz.sizeOf562
 v66:=Tryz.zeroValue562
 t70:=Tryz.underlying566
 a70:=Tryz.isAgg566
 z70:=Tryz.sizeOf566
 v70:=Tryz.zeroValue566
 t76:=Tryz.underlying588
 a76:=Tryz.isAgg588
 z76:=Tryz.sizeOf588
 v76:=Tryz.zeroValue588
 t77:=Tryz.underlying303
 a77:=Tryz.isAgg303
 z77:=Tryz.sizeOf303
 v77:=Tryz.zeroValue303}
def Tryz.laySF_2_int_ren:Go.Shelf.Ren:=⟨λ|6=>368 |15=>373 |14=>468 |28=>479 |29=>480 |20=>527 |21=>528 |22=>529 |23=>530 |24=>531 |25=>532 |26=>533 |27=>534 |46=>563 |47=>536 |48=>537 |49=>564 |50=>565 |57=>575 |n=>n,λ|22=>344 |24=>346 |25=>447 |3=>3 |39=>290 |0=>0 |53=>500 |55=>151 |4=>4 |46=>512 |45=>511 |50=>205 |5=>5 |9=>9 |66=>562 |70=>566 |76=>588 |77=>303 |n=>n,λ|n=>n⟩
theorem Tryz.laySF_2_int:Go.Proofs.SlLaysF0.n6 Tryz.prog Tryz.laySF_2_int_ren:= {
 mixed:=by kernel_rfl
 f6:=⟨Tryz.f368.name,by decide,Tryz.func368.trans (congrArg some (by kernel_rfl))⟩
 f14:=⟨Tryz.f468.name,by decide,Tryz.func468.trans (congrArg some (by kernel_rfl))⟩
 f15:=Tryz.func373.trans (congrArg some (by kernel_rfl))
 f20:=⟨Tryz.f527.name,by decide,Tryz.func527.trans (congrArg some (by kernel_rfl))⟩
 f21:=⟨Tryz.f528.name,by decide,Tryz.func528.trans (congrArg some (by kernel_rfl))⟩
 f22:=⟨Tryz.f529.name,by decide,Tryz.func529.trans (congrArg some (by kernel_rfl))⟩
 f23:=⟨Tryz.f530.name,by decide,Tryz.func530.trans (congrArg some (by kernel_rfl))⟩
 f24:=⟨Tryz.f531.name,by decide,Tryz.func531.trans (congrArg some (by kernel_rfl))⟩
 f25:=⟨Tryz.f532.name,by decide,Tryz.func532.trans (congrArg some (by kernel_rfl))⟩
 f26:=⟨Tryz.f533.name,by decide,Tryz.func533.trans (congrArg some (by kernel_rfl))⟩
 f27:=⟨Tryz.f534.name,by decide,Tryz.func534.trans (congrArg some (by kernel_rfl))⟩
 f28:=Tryz.func479.trans (congrArg some (by kernel_rfl))
 f29:=Tryz.func480.trans (congrArg some (by kernel_rfl))
 f46:=⟨Tryz.f563.name,by decide,Tryz.func563.trans (congrArg some (by kernel_rfl))⟩
 f47:=Tryz.func536.trans (congrArg some (by kernel_rfl))
 f48:=Tryz.func537.trans (congrArg some (by kernel_rfl))
 f49:=⟨Tryz.f564.name,by decide,Tryz.func564.trans (congrArg some (by kernel_rfl))⟩
 f50:=⟨Tryz.f565.name,by decide,Tryz.func565.trans (congrArg some (by kernel_rfl))⟩
 f57:=⟨Tryz.f575.name,by decide,Tryz.func575.trans (congrArg some (by kernel_rfl))⟩
 t0:=Tryz.underlying0
 a0:=Tryz.isAgg0
 z0:=Tryz.sizeOf0
 v0:=Tryz.zeroValue0
 t3:=Tryz.underlying3
 a3:=Tryz.isAgg3
 z3:=Tryz.sizeOf3
 v3:=Tryz.zeroValue3
 t4:=Tryz.underlying4
 a4:=Tryz.isAgg4
 z4:=Tryz.sizeOf4
 v4:=Tryz.zeroValue4
 t5:=Tryz.underlying5
 a5:=Tryz.isAgg5
 z5:=Tryz.sizeOf5
 v5:=Tryz.zeroValue5
 t9:=Tryz.underlying9
 a9:=Tryz.isAgg9
 z9:=Tryz.sizeOf9
 v9:=Tryz.zeroValue9
 t22:=Tryz.underlying344
 a22:=Tryz.isAgg344
 z22:=Tryz.sizeOf344
 v22:=Tryz.zeroValue344
 t25:=Tryz.underlying447
 a25:=Tryz.isAgg447
 z25:=Tryz.sizeOf447
 v25:=Tryz.zeroValue447
 t39:=Tryz.underlying290
 a39:=Tryz.isAgg290
 z39:=Tryz.sizeOf290
 v39:=Tryz.zeroValue290
 t45:=Tryz.underlying511
 a45:=Tryz.isAgg511
 z45:=Tryz.sizeOf511
 v45:=Tryz.zeroValue511
 t46:=Tryz.underlying512
 a46:=Tryz.isAgg512
 z46:=Tryz.sizeOf512
 v46:=Tryz.zeroValue512
 t50:=Tryz.underlying205
 a50:=Tryz.isAgg205
 z50:=Tryz.sizeOf205
 v50:=Tryz.zeroValue205
 t53:=Tryz.underlying500
 a53:=Tryz.isAgg500
 z53:=Tryz.sizeOf500
 v53:=Tryz.zeroValue500
 t55:=Tryz.underlying151
 a55:=Tryz.isAgg151
 z55:=Tryz.sizeOf151
 v55:=Tryz.zeroValue151
 t66:=Tryz.underlying562
 a66:=Tryz.isAgg562
 z66:=Tryz.sizeOf562
 v66:=Tryz.zeroValue562
 t70:=Tryz.underlying566
 a70:=Tryz.isAgg566
 z70:=Tryz.sizeOf566
 v70:=Tryz.zeroValue566
 t76:=Tryz.underlying588
 a76:=Tryz.isAgg588
 z76:=Tryz.sizeOf588
 v76:=Tryz.zeroValue588
 t77:=Tryz.underlying303
 a77:=Tryz.isAgg303
 z77:=Tryz.sizeOf303
 v77:=Tryz.zeroValue303}
def Tryz.laySF_Entry_ren:Go.Shelf.Ren:=⟨λ|6=>466 |15=>373 |14=>526 |28=>479 |29=>480 |20=>555 |21=>556 |22=>557 |23=>558 |24=>559 |25=>560 |26=>561 |27=>562 |46=>572 |47=>536 |48=>537 |49=>573 |50=>574 |57=>576 |n=>n,λ|22=>340 |24=>441 |25=>507 |3=>3 |39=>290 |0=>0 |53=>500 |55=>151 |4=>4 |46=>512 |45=>511 |50=>205 |5=>5 |9=>9 |66=>562 |70=>566 |76=>588 |77=>303 |n=>n,λ|n=>n⟩
theorem Tryz.laySF_Entry:Go.Proofs.SlLaysF0.n6 Tryz.prog Tryz.laySF_Entry_ren:= {
 mixed:=by kernel_rfl
 f6:=⟨Tryz.f466.name,by decide,Tryz.func466.trans (congrArg some (by kernel_rfl))⟩
 f14:=⟨Tryz.f526.name,by decide,Tryz.func526.trans (congrArg some (by kernel_rfl))⟩
 f15:=Tryz.func373.trans (congrArg some (by kernel_rfl))
 f20:=⟨Tryz.f555.name,by decide,Tryz.func555.trans (congrArg some (by kernel_rfl))⟩
 f21:=⟨Tryz.f556.name,by decide,Tryz.func556.trans (congrArg some (by kernel_rfl))⟩
 f22:=⟨Tryz.f557.name,by decide,Tryz.func557.trans (congrArg some (by kernel_rfl))⟩
 f23:=⟨Tryz.f558.name,by decide,Tryz.func558.trans (congrArg some (by kernel_rfl))⟩
 f24:=⟨Tryz.f559.name,by decide,Tryz.func559.trans (congrArg some (by kernel_rfl))⟩
 f25:=⟨Tryz.f560.name,by decide,Tryz.func560.trans (congrArg some (by kernel_rfl))⟩
 f26:=⟨Tryz.f561.name,by decide,Tryz.func561.trans (congrArg some (by kernel_rfl))⟩
 f27:=⟨Tryz.f562.name,by decide,Tryz.func562.trans (congrArg some (by kernel_rfl))⟩
 f28:=Tryz.func479.trans (congrArg some (by kernel_rfl))
 f29:=Tryz.func480.trans (congrArg some (by kernel_rfl))
 f46:=⟨Tryz.f572.name,by decide,Tryz.func572.trans (congrArg some (by kernel_rfl))⟩
 f47:=Tryz.func536.trans (congrArg some (by kernel_rfl))
 f48:=Tryz.func537.trans (congrArg some (by kernel_rfl))
 f49:=⟨Tryz.f573.name,by decide,Tryz.func573.trans (congrArg some (by kernel_rfl))⟩
 f50:=⟨Tryz.f574.name,by decide,Tryz.func574.trans (congrArg some (by kernel_rfl))⟩
 f57:=⟨Tryz.f576.name,by decide,Tryz.func576.trans (congrArg some (by kernel_rfl))⟩
 t0:=Tryz.underlying0
 a0:=Tryz.isAgg0
 z0:=Tryz.sizeOf0
 v0:=Tryz.zeroValue0
 t3:=Tryz.underlying3
 a3:=Tryz.isAgg3
 z3:=Tryz.sizeOf3
 v3:=Tryz.zeroValue3
 t4:=Tryz.underlying4
 a4:=Tryz.isAgg4
 z4:=Tryz.sizeOf4
 v4:=Tryz.zeroValue4
 t5:=Tryz.underlying5
 a5:=Tryz.isAgg5
 z5:=Tryz.sizeOf5
 v5:=Tryz.zeroValue5
 t9:=Tryz.underlying9
 a9:=Tryz.isAgg9
 z9:=Tryz.sizeOf9
 v9:=Tryz.zeroValue9
 t22:=Tryz.underlying340
 a22:=Tryz.isAgg340
 z22:=Tryz.sizeOf340
 v22:=Tryz.zeroValue340
 t25:=Tryz.underlying507
 a25:=Tryz.isAgg507
 z25:=Tryz.sizeOf507
 v25:=Tryz.zeroValue507
 t39:=Tryz.underlying290
 a39:=Tryz.isAgg290
 z39:=Tryz.sizeOf290
 v39:=Tryz.zeroValue290
 t45:=Tryz.underlying511
 a45:=Tryz.isAgg511
 z45:=Tryz.sizeOf511
 v45:=Tryz.zeroValue511
 t46:=Tryz.underlying512
 a46:=Tryz.isAgg512
 z46:=Tryz.sizeOf512
 v46:=Tryz.zeroValue512
 t50:=Tryz.underlying205
 a50:=Tryz.isAgg205
 z50:=Tryz.sizeOf205
 v50:=Tryz.zeroValue205
 t53:=Tryz.underlying500
 a53:=Tryz.isAgg500
 z53:=Tryz.sizeOf500
 v53:=Tryz.zeroValue500
 t55:=Tryz.underlying151
 a55:=Tryz.isAgg151
 z55:=Tryz.sizeOf151
 v55:=Tryz.zeroValue151
 t66:=Tryz.underlying562
 a66:=Tryz.isAgg562
 z66:=Tryz.sizeOf562
 v66:=Tryz.zeroValue562
 t70:=Tryz.underlying566
 a70:=Tryz.isAgg566
 z70:=Tryz.sizeOf566
 v70:=Tryz.zeroValue566
 t76:=Tryz.underlying588
 a76:=Tryz.isAgg588
 z76:=Tryz.sizeOf588
 v76:=Tryz.zeroValue588
 t77:=Tryz.underlying303
 a77:=Tryz.isAgg303
 z77:=Tryz.sizeOf303
 v77:=Tryz.zeroValue303}
end Go.Proofs
end
noncomputable section
namespace Go.Abs
open Go.Proofs
open Api
open Go.Sort
def A9l(l:List Int):List Int:=l.mergeSort λx y=>decide (x<=y)
theorem B0d(l:List Int):(A9l l).length=l.length:=by simp[A9l]
theorem F3b {l:List Int}{x:Int}:x∈A9l l↔x∈l:=by simp[A9l]
theorem B7r(l:List Int)(hl:l.length<4611686018427387904):A1 Tryz.prog D2o [.sl 1 0 l.length l.length] [(1, .arr 1 (A8 B9 0 l))] (.tup []) [(1, .arr 1 (A8 B9 0 (A9l l)))]:=
 G2l (by kernel_rfl) l (A9l l) (B0d l) (λ_ _=> .tuple #[]) (.tup []) (λG w ob i a cap _ _ _=> .tup #[] rfl (λj av h=>by simp at h))
  (λblk cap w hH hb hc=>Tryz.slices_Sort_int blk 0 cap l w hH hb hl)
  (λ_ a w=>Tryz.slices_Sort_int_none a 0 w)
def B2a(l:List Int):List Int:=Go.Lib.compact l
theorem B6h(l:List Int):(B2a l).length<=l.length:=by unfold B2a Go.Lib.compact Go.Lib.compactUpTo;rw[List.length_map];have:=List.length_filter_le (Go.Lib.keeps l.toArray) (List.range l.length);rwa[List.length_range]at this
theorem C0p(d:Array Int)(x:Int): ∀m,x∈Go.Lib.compactUpTo d m↔ ∃j,j<m/\d[j]! =x
 |0=>by simp[Go.Lib.compactUpTo]
 |m+1=>by
  rw[Go.Lib.compactUpTo_succ,List.mem_append,C0p d x m];constructor
  ·rintro(⟨j,hj,e⟩ |h)
   ·exact⟨j,by omega,e⟩
   ·by_cases hk:Go.Lib.keeps d m=true
    ·rw[if_pos hk,List.mem_singleton]at h;exact⟨m,by omega,h.symm⟩
    ·rw[if_neg hk]at h;cases h
  ·rintro⟨j,hj,e⟩;rcases Nat.lt_or_eq_of_le (Nat.le_of_lt_succ hj)with h |h
   ·exact .inl ⟨j,h,e⟩
   ·subst h;by_cases hk:Go.Lib.keeps d j=true
    ·right;rw[if_pos hk,List.mem_singleton];exact e.symm
    ·left;simp only[Go.Lib.keeps,decide_eq_true_eq,not_or,ne_eq,Classical.not_not]at hk;exact⟨j-1,by omega,by rw[<-hk.2];exact e⟩
theorem F2j {l:List Int}{x:Int}:x∈B2a l↔x∈l:=by
 unfold B2a Go.Lib.compact;rw[C0p];constructor
 ·rintro⟨j,hj,e⟩;have:l[j]=x:=by simpa[hj]using e
  rw[<-this];exact List.getElem_mem hj
 ·intro h;obtain⟨j,hj,e⟩:=List.getElem_of_mem h;exact⟨j,hj,by simpa[hj]using e⟩
theorem B4k(l:List Int)(hl:l.length<=9223372036854775807):A1 Tryz.prog C4v [.sl 1 0 l.length l.length] [(1, .arr 1 (A8 B9 0 l))] (.sl 1 0 (B2a l).length l.length)
  [(1, .arr 1 (A8 B9 0 (B2a l++List.replicate (l.length-(B2a l).length) 0)))]:=by
 refine G2l (by kernel_rfl) l _ (by have:=B6h l;simp;omega) (λa cap=> .slice a (B2a l).length cap) _ (λG w ob i a cap hi hlen hs=> ?_)
  (λblk cap w hH hb hc=>(Tryz.slices_Compact_int blk 0 cap l w hH hl hc).mono ?_) (λe a w=> ?_)
 ·obtain⟨h1,h2,h3⟩:=hs;have hcl:=B6h l;refine .sl i hi (by omega) ⟨_,_,rfl⟩ λ_=>⟨by omega,λhb=> ?_,λb hb=> ?_⟩
  ·have hac:=h2 hb
   have:l.length=0:=by rcases hac with e |⟨a',e⟩ <;> (injection e)
   have e0:(B2a l).length=0:=by omega
   rw[e0];rw[this]at hac;exact hac
  ·obtain⟨o,c,e,h5,h6,h7⟩:=h3 b hb;injection e with e1 e2 e3;subst e1;subst e3;exact⟨o,cap,rfl,by omega,λh=>by rw[(h7 rfl).1];simp,h7⟩
 ·rintro e w' ⟨rfl,q,rfl⟩;exact⟨rfl,q,#[],by rw[grow_empty];rfl⟩
 ·subst e;refine(Tryz.slices_Compact_int_empty a 0 w).mono ?_;rintro e w' ⟨rfl,rfl⟩;exact⟨rfl,rfl⟩
def A8x(a:sap_Entry)(b:sap_Entry):Int:=let v1:=(H1 a.Bounds.Min.X b.Bounds.Min.X);let v2:=(H1 a.ID b.ID);let v3:=(X6 ([v1,v2]));v3
theorem E2p(a:sap_Entry)(b:sap_Entry):A1 Tryz.prog C6i [.agg a.enc, .agg b.enc] [] (sI (A8x a b)) []:=by
 refine en1 hm A4 Tryz.func467 rfl rfl ?_;simp only[go_sem,go_sem_proc];refine A0 (A0x a.Bounds.Min.X b.Bounds.Min.X) rfl ?_;generalize hv1:(H1 a.Bounds.Min.X b.Bounds.Min.X)=v1;simp only[go_sem,go_sem_proc];refine A0 (A0x a.ID b.ID) rfl ?_;generalize hv2:(H1 a.ID b.ID)=v2;simp only[go_sem,go_sem_proc];refine A5i (B9n ([v1,v2]) (by((simp_all;done)))) rfl ?_ ?_
 ·(try simp only[A07,go_sem,go_sem_proc]);all_goals((repeat' (with_reducible apply And.intro)) <;> exact A2e (λ_ _=>rfl) rfl rfl rfl)
 generalize hv3:(X6 ([v1,v2]))=v3;simp only[go_sem,go_sem_proc];have hd:A8x a b=v3:=by(simp only[A8x,hv1,hv2,hv3,eq_self];done)
 try rw[hd]
theorem C0o(x y:Int):H1 x y=B83 x y:=by unfold H1 A00 B83;simp
theorem G11(a b:Int):X6 [a,b]=if a≠0 then a else b:=by unfold X6;simp only[List.length_cons,List.length_nil,Nat.zero_add,Nat.reduceAdd,D4,A2t];by_cases ha:a=0 <;> by_cases hb:b=0 <;> simp[ha,hb]
theorem G24(a b:sap_Entry):A8x a b=B7b [D9n,sap_Entry.ID] a b:=by unfold A8x;dsimp only;rw[G11,C0o,C0o];simp only[B7b,D9n];by_cases h:B83 a.ID b.ID=0 <;> simp[h]
def G08(x:sap_Entry):KEl 5:=⟨[x.ID,x.Bounds.Min.X,x.Bounds.Min.Y,x.Bounds.Max.X,x.Bounds.Max.Y],rfl⟩
def F5g(y:KEl 5):sap_Entry:=⟨y.1.getD 0 0,⟨y.1.getD 1 0,y.1.getD 2 0⟩,⟨y.1.getD 3 0,y.1.getD 4 0⟩⟩
theorem F5h: ∀y:KEl 5,kav y=(F5g y).enc
 |⟨[a,b,c,d,e],_⟩=>rfl
def F0m(a b:sap_Entry):Int:=B7b [D9n,sap_Entry.ID] a b
def A7t(l:List sap_Entry):List sap_Entry:=B17 G08 F5g F0m l
theorem C44(l:List sap_Entry):(A7t l).length=l.length:=B7k (B0k _) l
theorem C0f(id:Nat)(l:List sap_Entry)(hl:l.length<4611686018427387904):
  A1 Tryz.prog B96 [.sl id 0 l.length l.length, .fn (.func C6i) [] []] [(id, .arr 5 (A8 sap_Entry.enc default l))] (.tup []) [(id, .arr 5 (A8 sap_Entry.enc default (A7t l)))]:=
 E0d (toK:=G08) (fromK:=F5g) (cf:=F0m) Tryz.laySF_Entry (by decide) (by kernel_rfl) (λw=>X2 (by kernel_rfl)) (λw=>T1 (by kernel_rfl)) default rfl (λx=>rfl) F5h (B0k _) (λargs w=>A70 (by kernel_rfl) args)
  (λx y=>by have:=E2p x y;rwa[G24]at this) id l hl
def C9s {α:Type}(f:α->Int)(m:List α):List (Int×AV):=m.map λx=>(f x,sB true)
theorem D5a {α:Type}(f:α->Int)(k:Int): ∀m:List α,B7c (C9s f m) k=cond (m.any λx=>k==f x) (some (sB true)) none
 | []=>rfl
 |x::m=>by
  have ih:=D5a f k m;simp only[C9s,List.map_cons,B7c,List.any_cons]at ih⊢;cases h:k==f x
  ·simpa using ih
  ·simp
theorem D5b {α:Type}(f:α->Int)(x:α): ∀m:List α,(m.any λy=>f x==f y)=false->B32 (C9s f m) (f x) (sB true)=C9s f (m++ [x])
 | [],_=>rfl
 |y::m,h=>by simp only[List.any_cons,Bool.or_eq_false_iff]at h;have ih:=D5b f x m h.2;simp only[C9s,List.map_cons,List.cons_append,B32,h.1]at ih⊢;rw[if_neg (by simp),ih]
theorem D14:B62 (.bool false)=sB false:=rfl
def C2r(s:List sap_Entry)(x:sap_Entry):List sap_Entry:=if A4b x.Bounds=true/\(s.any λy=>x.ID==y.ID)=false then s++ [x]else s
def A4y(l:List sap_Entry):List sap_Entry:=l.foldl C2r []
theorem F6t(s:List sap_Entry)(x:sap_Entry):(C2r s x).length<=s.length+1:=by unfold C2r;split <;> simp
theorem E1c: ∀(l s:List sap_Entry),(l.foldl C2r s).length<=s.length+l.length
 | [],s=>Nat.le_refl _
 |x::l,s=>by have:=E1c l (C2r s x);have:=F6t s x;simp only[List.foldl_cons,List.length_cons];omega
theorem D5u(l:List sap_Entry):(A4y l).length<=l.length:=by have:=E1c l [];simpa[A4y]using this
theorem E5t: ∀(l s:List sap_Entry) (x:sap_Entry),x∈l.foldl C2r s->x∈s\/x∈l
 | [],s,x,h=> .inl h
 |y::l,s,x,h=>by
  rcases E5t l (C2r s y) x h with h1 |h1
  ·unfold C2r at h1;split at h1
   ·rw[List.mem_append,List.mem_singleton]at h1;rcases h1 with h1 |rfl
    ·exact .inl h1
    ·exact .inr (List.mem_cons_self ..)
   ·exact .inl h1
  ·exact .inr (List.mem_cons_of_mem _ h1)
theorem F1m(l:List sap_Entry)(hl:l.length<=1048576):A1 Tryz.prog E9t [A2 5 sap_Entry.enc default l] [] (A2 5 sap_Entry.enc default (A7t (A4y l))) []:=by
 refine en1 hm A4 Tryz.func367 rfl rfl ?_;simp only[go_sem,go_sem_proc];refine B0 hm (ι:= {i:Nat // i<=l.length}) (λi=> [(3,mdA i.1, .sl 1 0 (A4y (l.take i.1)).length (A4y (l.take i.1)).length),(4, .share, .mp 2),(8, .share,A2 5 sap_Entry.enc default l),(9, .share,sI l.length),(10, .share,sI (i.1:Nat))]) (λi=> [(1, .arr 5 (A8 sap_Entry.enc default (A4y (l.take i.1)))),(2, .map .i64 (C9s sap_Entry.ID (A4y (l.take i.1))))]) (λi=>l.length-i.1) ⟨0,Nat.zero_le _⟩ ?_ ?_
 ·simp only[List.take_zero,show A4y []= []from rfl];refine C0 [(2,128)] [1] ?_;simp only[go_sem,go_sem_proc];exact eE_
 ·rintro⟨i,hi⟩;dsimp only;have hn:i<l.length->A4y (l.take (i+1))=C2r (A4y (l.take i)) (l.getD i default):=λh=>by unfold A4y;rw[K9 default h,List.foldl_append];rfl
  have hfin:l.length<=i->A4y (l.take i)=A4y l:=λh=>by rw[show i=l.length by omega,List.take_length]
  have hlen:=D5u (l.take i);rw[List.length_take]at hlen;generalize A4y (l.take i)=v at hn hfin hlen⊢;simp only[go_sem,go_sem_proc];by_cases hlt:i<l.length;rotate_left
  ·rw[if_neg (by omega)];refine E6 (C0f 1 v (by omega)) (by simp[okO]) (by simp[okO]) (by simp) (by simp[upd]) (by simp) ?_ rfl ?_
   ·intro a ha j hj;obtain⟨k,hk⟩:=List.getElem?_of_mem ha;have:=N3 hk j hj;simp[F4,AV.ids]at this;subst this;rfl
   simp only[go_sem,go_sem_proc];rw[<-hfin (by omega)];rw[C44];exact⟨rfl,I4 _⟩
  rw[if_pos (by omega)];refine⟨bE_,?_⟩;replace hn:=hn hlt;refine A0 (B39 (l.getD i default).Bounds) rfl ?_;unfold C2r at hn;generalize A4b (l.getD i default).Bounds=ok at hn⊢;have hg:=D5a sap_Entry.ID (l.getD i default).ID v;cases hm:v.any λy=>(l.getD i default).ID==y.ID with
  |true=>
   rw[hm]at hg;simp only[cond_true]at hg;rw[hm,if_neg (by simp)]at hn;cases ok
   all_goals
    simp only[go_sem,go_sem_proc,hg,Option.getD_some,Bool.not_true];refine A7 ⟨i+1,by omega⟩ (by show l.length-(i+1)<l.length-i;omega) ?_;simp only[hn];refine C0 [] [] ?_;simp only[go_sem,go_sem_proc]
    all_goals exact eE_
  |false=>
   rw[hm]at hg;simp only[cond_false]at hg;rw[hm]at hn;cases ok
   ·rw[if_neg (by simp)]at hn;simp only[go_sem,go_sem_proc,hg,Option.getD_none,D14,Bool.not_false];refine A7 ⟨i+1,by omega⟩ (by show l.length-(i+1)<l.length-i;omega) ?_;simp only[hn];refine C0 [] [] ?_;simp only[go_sem,go_sem_proc];exact eE_
   ·rw[if_pos (by simp)]at hn;simp only[go_sem,go_sem_proc,hg,Option.getD_none,D14,Bool.not_false];refine⟨bE_,?_⟩;refine A7 ⟨i+1,by omega⟩ (by show l.length-(i+1)<l.length-i;omega) ?_;simp only[hn,<-D5b sap_Entry.ID _ v hm];refine C0 [] [] ?_;simp only[go_sem,go_sem_proc];exact eE_
abbrev P2:=Int×Int
def p2E(p:P2):List AV:= [sI p.1,sI p.2]
attribute [go_sem] p2E
def G15(x:P2):KEl 2:=⟨[x.1,x.2],rfl⟩
def F6e(y:KEl 2):P2:=(y.1.getD 0 0,y.1.getD 1 0)
theorem F6f: ∀y:KEl 2,kav y=p2E (F6e y)
 |⟨[a,b],_⟩=>rfl
def D1w(a b:P2):Int:=B7b [Prod.fst,Prod.snd] a b
def C9z(l:List P2):List P2:=B17 G15 F6e D1w l
theorem D7f(l:List P2):(C9z l).length=l.length:=B7k (B0k _) l
theorem D0r(a b:P2):A1 Tryz.prog B6a [.agg (p2E a), .agg (p2E b)] [] (sI (D1w a b)) []:=by
 have e:D1w a b=X6 [H1 a.1 b.1,H1 a.2 b.2]:=by rw[G11,C0o,C0o];simp only[D1w,B7b];by_cases h:B83 a.2 b.2=0 <;> simp[h]
 rw[e];refine en1 hm A4 Tryz.func369 rfl rfl ?_;simp only[go_sem,go_sem_proc];refine⟨bE_,bE_,?_⟩;refine A0 (A0x a.1 b.1) rfl ?_;simp only[go_sem,go_sem_proc];refine⟨bE_,bE_,?_⟩;refine A0 (A0x a.2 b.2) rfl ?_;simp only[go_sem,go_sem_proc];refine A5j (B9n [H1 a.1 b.1,H1 a.2 b.2] (by simp)) ?_;simp only[A07,go_sem,go_sem_proc];exact A2e (λ_ _=>rfl) rfl rfl rfl
theorem D72(l:List sap_Entry):A1 Tryz.prog D6j [A2 5 sap_Entry.enc default l] [] (.fn (.func A9x) [] [.fptr [A2 5 sap_Entry.enc default l]]) []:=by refine en1 hm A4 Tryz.func366 rfl rfl ?_;simp only[go_sem,go_sem_proc,A0g]
theorem C50(id:Nat)(l:List P2)(hl:l.length<4611686018427387904):
  A1 Tryz.prog B95 [.sl id 0 l.length l.length, .fn (.func B6a) [] []] [(id, .arr 2 (A8 p2E default l))] (.tup []) [(id, .arr 2 (A8 p2E default (C9z l)))]:=
 E0d (toK:=G15) (fromK:=F6e) (cf:=D1w) Tryz.laySF_2_int (by decide) (by kernel_rfl) (λw=>X2 (by kernel_rfl)) (λw=>T1 (by kernel_rfl)) default rfl (λx=>rfl) F6f (B0k _) (λargs w=>A70 (by kernel_rfl) args)
  D0r id l hl
def pr1(p:sap_Entry×sap_Entry):Option P2:=if A2r p.1.Bounds p.2.Bounds=true then some ((if p.2.ID<p.1.ID then p.2.ID else p.1.ID),(if p.1.ID<p.2.ID then p.2.ID else p.1.ID))else none
def C3o(l:List sap_Entry):List P2:=(C18 (A7t (A4y l))).filterMap pr1
def B1u(l:List sap_Entry):List P2:=C9z (C3o l)
def prO(v:List P2):List (Nat×A5):= [(64, .box [.sl 1 0 v.length v.length]),(1, .arr 2 (A8 p2E default v))]
theorem F50(l:List sap_Entry):(C18 l).length<=l.length*l.length:=by
 have h: ∀i,(nbP l i).length<=i*l.length:=by
  intro i;induction i with
  |zero=>simp[nbP]
  |succ i ih=>
   have h1:(nbI (l.getD i default) (l.drop (i+1))).length<=l.length:=by unfold nbI;rw[List.length_map];have:=List.IsPrefix.length_le (List.takeWhile_prefix (B5l (l.getD i default)) (l:=l.drop (i+1)));rw[List.length_drop]at this;omega
   rw[nbP,List.length_append,Nat.succ_mul];omega
 exact h l.length
theorem D7h(l:List sap_Entry)(hl:l.length<=480):(C3o l).length<=230400/\(C18 (A7t (A4y l))).length<=230400:=by
 have h1:=F50 (A7t (A4y l));rw[C44]at h1;have h2:=D5u l
 have h3:(A4y l).length*(A4y l).length<=480*480:=Nat.mul_le_mul (by omega) (by omega)
 have h4:(C3o l).length<=(C18 (A7t (A4y l))).length:=List.length_filterMap_le ..;omega
theorem E7y(l:List sap_Entry)(hl:l.length<=480):A1 Tryz.prog E6t [A2 5 sap_Entry.enc default l] [] (A2 2 p2E default (B1u l)) []:=by
 have hlen:=D7h l hl;refine G33 (avs:= [A2 5 sap_Entry.enc default l]) (rs:= [A2 2 p2E default (B1u l)]) (sap_Entry×sap_Entry) 33 [(2,none)] [9,10] A4 Tryz.func243 rfl rfl rfl rfl rfl rfl rfl rfl rfl rfl rfl rfl (by decide) (by decide) (Nat.le_of_ble_eq_true rfl) ?_;simp only[go_sem,go_sem_proc];refine A0 (F1m l (by omega)) rfl ?_;simp only[go_sem,go_sem_proc];refine A0 (D72 (A7t (A4y l))) rfl ?_;simp only[go_sem,go_sem_proc];refine⟨A9x,[.fptr [A2 5 sap_Entry.enc default (A7t (A4y l))]],[(3, .share, .ptr 64 0 0 1)],λpre=>prO (pre.filterMap pr1),F1a,C18 (A7t (A4y l)),rfl,rfl,by kernel_rfl,?_,?_,λ_=>rfl,E4w _ (by rw[C44];have:=D5u l;omega),?_,?_⟩
 ·simp only[List.filterMap_nil,prO];refine C0 [] [1] ?_;simp only[go_sem,go_sem_proc]
 ·intro pre id o h;have:=A1i (by simp[prO]) h;simp only[prO,List.mem_cons,List.not_mem_nil,or_false,Prod.mk.injEq]at this;rcases this with⟨_,rfl⟩ |⟨_,rfl⟩
  ·exact⟨rfl,rfl⟩
  ·exact⟨λ_ _=>rfl,rfl⟩
 ·intro pre x hx;refine F92 ?_;have hv:(pre.filterMap pr1).length<=pre.length:=List.length_filterMap_le ..
  have hn:(pre++ [x]).filterMap pr1=pre.filterMap pr1++(pr1 x).toList:=by rw[List.filterMap_append];congr 1
  rw[hn,show pr1 x=if A2r x.1.Bounds x.2.Bounds=true then some ((if x.2.ID<x.1.ID then x.2.ID else x.1.ID),(if x.1.ID<x.2.ID then x.2.ID else x.1.ID))else none from rfl];generalize pre.filterMap pr1=v at hv;simp only[go_sem,go_sem_proc,psS,F1a,prO];refine A0 (C00 x.1.Bounds x.2.Bounds) rfl ?_;generalize A2r x.1.Bounds x.2.Bounds=ok;cases ok with
  |false=>rw[if_neg (by simp)];simp only[go_sem,go_sem_proc,Option.toList,List.append_nil];simp only[prO];refine C0 [] [] ?_;simp only[go_sem,go_sem_proc]
  |true=>rw[if_pos rfl];simp only[go_sem,go_sem_proc,Option.toList];refine⟨bE_,?_⟩;simp only[prO];refine C0 [] [] ?_;simp only[go_sem,go_sem_proc];exact eE_
 ·refine F93 ?_;rw[show(C18 (A7t (A4y l))).filterMap pr1=C3o l from rfl];unfold B1u;generalize C3o l=u at hlen;simp only[go_sem,go_sem_proc,prO];refine E6 (C50 1 u (by omega)) (by simp[okO]) (by simp[okO]) (by simp) (by simp[upd]) (by simp) ?_ rfl ?_
  ·intro a ha j hj;obtain⟨k,hk⟩:=List.getElem?_of_mem ha;have:=N3 hk j hj;simp[F4,AV.ids]at this;subst this;rfl
  simp only[go_sem,go_sem_proc];have hs:=D7f u;generalize C9z u=q at hs;refine V7 [.thaw] [] [] ?_;simp only[go_sem,go_sem_proc];rw[hs];exact⟨rfl,I4 _⟩
end Go.Abs
end
noncomputable section
namespace Go.Abs
open Go.Proofs
open Api
abbrev B3l:=F9
def scE(l:List Body)(r:List B3l):List sap_Entry:=r.zipIdx.map λp=>⟨(p.2:Nat),(A2f (l.getD p.1.body.toNat default) p.1.fixture).Bounds⟩
theorem D10(l:List Body)(r:List B3l):(scE l r).length=r.length:=by simp[scE]
theorem F98(l:List Body)(r:List B3l)(x:B3l):scE l (r++ [x])=scE l r++ [⟨(r.length:Nat),(A2f (l.getD x.body.toNat default) x.fixture).Bounds⟩]:=by simp[scE,List.zipIdx_append]
theorem G2m {l:List Body}{r:List B3l}{x:sap_Entry}(h:x∈scE l r):0<=x.ID/\x.ID<r.length:=by
 simp only[scE,List.mem_map]at h;obtain⟨p,hp,rfl⟩:=h;have:=List.mem_zipIdx hp;simp at this;constructor
 ·show(0:Int)<=(p.2:Nat);omega
 ·show((p.2:Nat):Int)<r.length;omega
def sc1(k i:Nat)(r:List B3l):List B3l:=r++(List.range i).map λj=>⟨(k:Nat),(j:Nat)⟩
theorem F6u(k i:Nat)(r:List B3l):sc1 k (i+1) r=sc1 k i r++ [⟨(k:Nat),(i:Nat)⟩]:=by simp[sc1,List.range_succ]
theorem E9f(k i:Nat)(r:List B3l):(sc1 k i r).length=r.length+i:=by simp[sc1]
def scS(l:List Body)(k:Nat)(s:List B3l×List Int):List B3l×List Int:=if(s.2.any λy=>(l.getD k default).ID==y)=true then s else(sc1 k (l.getD k default).Fixtures.length s.1,s.2++ [(l.getD k default).ID])
def scF(l:List Body)(n:Nat):List B3l×List Int:=itr (scS l) n ([],[])
def scR(l:List Body):List B3l:=(scF l l.length).1
def F68(l:List Body)(x:B3l):Prop:=0<=x.body/\x.body<l.length/\0<=x.fixture/\x.fixture<(l.getD x.body.toNat default).Fixtures.length
theorem E5u(l:List Body)(hq: ∀b∈l,b.Fixtures.length<=8): ∀n,n<=l.length->(∀x∈(scF l n).1,F68 l x)/\(scF l n).1.length<=8*n
 |0,_=>⟨λx hx=>by simp[scF,H3]at hx,by simp[scF,H3]⟩
 |n+1,h=>by
  have ih:=E5u l hq n (by omega)
  have hb:=hq _ (B7 default (show n<l.length by omega));rw[show scF l (n+1)=scS l n (scF l n)from E4 ..];generalize scF l n=s at ih⊢;unfold scS;split
  ·exact⟨ih.1,by omega⟩
  ·refine⟨λx hx=> ?_,by show(sc1 _ _ _).length<=_;rw[E9f];omega⟩;simp only[sc1,List.mem_append,List.mem_map,List.mem_range]at hx;rcases hx with hx |⟨j,hj,rfl⟩
   ·exact ih.1 x hx
   ·refine⟨by show(0:Int)<=(n:Nat);omega,by show((n:Nat):Int)<_;omega,by show(0:Int)<=(j:Nat);omega,?_⟩;show((j:Nat):Int)<((l.getD ((n:Nat):Int).toNat default).Fixtures.length:Int);rw[Int.toNat_natCast];omega
theorem F39 {l:List Body}(hq: ∀b∈l,b.Fixtures.length<=8):(∀x∈scR l,F68 l x)/\(scR l).length<=8*l.length:=E5u l hq l.length (Nat.le_refl _)
def A78(l:List Body)(js:List Joint):broadphase_scene:=⟨l,js,scR l,scE l (scR l)⟩
theorem C3s(l:List Body)(js:List Joint)(hl:l.length<=60)(hq: ∀b∈l,b.Fixtures.length<=8)(hv: ∀b∈l,∀f∈b.Fixtures,f.Shape.Vertices.length<=1048576):A1 Tryz.prog C2v [A2 20 Body.enc default l,A2 24 Joint.enc default js] [] (.agg (A78 l js).enc) []:=by
 refine L5 58 [(4,some (some 4))] hm A4 Tryz.func242 rfl ?_;simp only[go_sem,go_sem_proc];refine B0 hm (ι:= {i:Nat // i<=l.length}) (λi=> [(4, .share, .ptr 80 0 0 1),(5, .share, .ptr 96 0 0 1),(6, .share, .mp 3),(14, .share,A2 20 Body.enc default l),(15, .share,sI l.length),(16, .share,sI (i.1:Nat))]) (λi=> [(80, .box [.sc (.slice none 0 0), .sc (.slice none 0 0), .sc (.slice none 0 0), .sc (.slice none 0 0)]),(96, .box [A2 20 Body.enc default l,A2 24 Joint.enc default js, .sl 1 0 (scF l i.1).1.length (scF l i.1).1.length, .sl 2 0 (scE l (scF l i.1).1).length (scE l (scF l i.1).1).length]),(1, .arr 2 (A8 F9.enc default (scF l i.1).1)),(2, .arr 5 (A8 sap_Entry.enc default (scE l (scF l i.1).1))),(3, .map .i64 (C9s id (scF l i.1).2))]) (λi=>l.length-i.1) ⟨0,Nat.zero_le _⟩ ?_ ?_
 ·simp only[show scF l 0=([],[])from rfl,show scE l []= []from rfl];refine C0 [(3,224)] [1,2] ?_;simp only[go_sem,go_sem_proc];exact eE_
 ·rintro⟨i,hi⟩;dsimp only;have hok:=E5u l hq i hi
  have hn:scF l (i+1)=scS l i (scF l i):=E4 ..
  have hfin:l.length<=i->(scF l i).1=scR l:=λh=>by rw[show i=l.length by omega];rfl
  generalize scF l i=s at hn hfin hok⊢;obtain⟨r,m⟩:=s;dsimp only at hok hfin⊢;have hlE:=D10 l r
  have hg:=D5a id (l.getD i default).ID m;unfold scS at hn;dsimp only at hn;simp only[id]at hg;by_cases hlt:i<l.length;rotate_left
  ·simp only[go_sem,go_sem_proc];rw[if_neg (by omega),hfin (by omega)];exact⟨I4 _,I4 _,I4 _,I4 _⟩
  have hbm:=B7 (l:=l) default hlt
  have hqb:=hq _ hbm
  have hvb:=hv _ hbm;cases hmm:m.any λy=>(l.getD i default).ID==y with
  |true=>rw[hmm]at hg;simp only[cond_true]at hg;rw[hmm,if_pos rfl]at hn;simp only[go_sem,go_sem_proc,hg,Option.getD_some];rw[if_pos (by omega)];refine⟨bE_,?_⟩;refine A7 ⟨i+1,by omega⟩ (by show l.length-(i+1)<l.length-i;omega) ?_;simp only[hn];refine C0 [] [] ?_;simp only[go_sem,go_sem_proc];exact eE_
  |false=>
   rw[hmm]at hg;simp only[cond_false]at hg;rw[hmm,if_neg (by simp)]at hn;simp only[go_sem,go_sem_proc,hg,Option.getD_none,D14];rw[if_pos (by omega)];refine⟨bE_,?_⟩;generalize hbd:l.getD i default=b at hbm hqb hvb hn hmm⊢;have h0:sc1 i 0 r=r:=by simp[sc1]
   refine B0 hm (ι:= {j:Nat // j<=b.Fixtures.length}) (λj=> [(4, .share, .ptr 80 0 0 1),(5, .share, .ptr 96 0 0 1),(6, .share, .mp 3),(14, .share,A2 20 Body.enc default l),(15, .share,sI l.length),(16, .share,sI (i:Nat)),(7, .share,sI (i:Nat)),(8, .thaw, .fptr b.enc),(30, .share,sI b.Fixtures.length),(31, .share,sI (j.1:Nat))]) (λj=> [(80, .box [.sc (.slice none 0 0), .sc (.slice none 0 0), .sc (.slice none 0 0), .sc (.slice none 0 0)]),(96, .box [A2 20 Body.enc default l,A2 24 Joint.enc default js, .sl 1 0 (sc1 i j.1 r).length (sc1 i j.1 r).length, .sl 2 0 (scE l (sc1 i j.1 r)).length (scE l (sc1 i j.1 r)).length]),(1, .arr 2 (A8 F9.enc default (sc1 i j.1 r))),(2, .arr 5 (A8 sap_Entry.enc default (scE l (sc1 i j.1 r)))),(3, .map .i64 (C9s id (m++ [b.ID])))]) (λj=>b.Fixtures.length-j.1) ⟨0,Nat.zero_le _⟩ ?_ ?_
   ·simp only[h0,<-D5b id b.ID m hmm];refine C0 [] [] ?_;simp only[go_sem,go_sem_proc,A0g];exact eE_
   ·rintro⟨j,hj⟩;dsimp only;have hr1:sc1 i (j+1) r=sc1 i j r++ [⟨(i:Nat),(j:Nat)⟩]:=F6u ..
    have hE1:scE l (sc1 i (j+1) r)=scE l (sc1 i j r)++ [⟨((sc1 i j r).length:Nat),(A2f b (j:Nat)).Bounds⟩]:=by rw[hr1,F98];show _++ [(⟨_,(A2f (l.getD ((i:Nat):Int).toNat default) (j:Nat)).Bounds⟩:sap_Entry)]=_;rw[Int.toNat_natCast,hbd]
    have hl1:(sc1 i j r).length=r.length+j:=E9f ..
    have hl2:=D10 l (sc1 i j r)
    have hfin2:b.Fixtures.length<=j->sc1 i j r=sc1 i b.Fixtures.length r:=λh=>by rw[show j=b.Fixtures.length by omega]
    generalize sc1 i j r=u at hr1 hE1 hl1 hl2 hfin2⊢;generalize he:scE l u=e at hE1 hl2⊢;simp only[go_sem,go_sem_proc];by_cases hlt2:j<b.Fixtures.length
    ·rw[if_pos (by omega)];refine A0 (C97 b (j:Nat) ⟨by omega,by omega⟩ hvb) rfl ?_;simp only[go_sem,go_sem_proc];refine⟨bE_,bE_,?_⟩;refine A7 ⟨j+1,by omega⟩ (by show b.Fixtures.length-(j+1)<b.Fixtures.length-j;omega) ?_;simp only[hE1];simp only[hr1];refine C0 [] [] ?_;simp only[go_sem,go_sem_proc];exact eE_
    ·rw[if_neg (by omega)];refine A7 ⟨i+1,by omega⟩ (by show l.length-(i+1)<l.length-i;omega) ?_;simp only[hn];rw[<-hfin2 (by omega),he];refine C0 [] [] ?_;simp only[go_sem,go_sem_proc];exact eE_
end Go.Abs
end
