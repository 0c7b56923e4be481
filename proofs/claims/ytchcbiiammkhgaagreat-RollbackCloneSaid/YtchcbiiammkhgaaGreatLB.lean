/- A part of the proof: what a function does, over abstract values and objects, and its ties to the model. -/
import Derived.Test.YtchcbiiammkhgaaGreatLA
import Derived.Laws.BytesString
import Derived.Laws.IdiomCopy
import Derived.Laws.CopyRow
import Derived.Laws.Slices
import Derived.Laws.Cover3
import Derived.Laws.Pointers
import Derived.Laws.Strings
import Derived.Laws.IdiomStrings
import Derived.Laws.Strings3
import Derived.Laws.Concat
import Derived.ArgAppend
import Derived.Orders
set_option linter.unusedSimpArgs false
set_option linter.unusedVariables false
set_option linter.unnecessarySimpa false
set_option maxRecDepth 100000
set_option maxHeartbeats 2000000
noncomputable section
namespace Go.Abs
section
variable {P:Program} {G:Nat->Prop} {w:World} {ob:Place} {m:Nat->Option A7}
def C8y(P:Program)(t:TypeId)(v:Value):Option Nat:=
 match P.underlying t,v with
 |some (.slice _), .slice none 0 0=>some 0
 |some (.pointer _), .pointer none=>some 1
 |some (.map _ _), .map none=>some 2
 |_,_=>none
def D29(P:Program)(op:BinOp)(t:TypeId):Operand->Option (Nat×Bool×Value)
 | .const v=>match op with
   | .eql=>(C8y P t v).map λk=>(k,false,v)
   | .neq=>(C8y P t v).map λk=>(k,true,v)
   |_=>none
 |_=>none
def E22(u:Value):Prop:=(∃a n c,u= .slice a n c)\/(∃a,u= .pointer a)\/(∃a,u= .map a)\/u= .nilFunc\/ ∃f a b,u= .func f a b
variable {p:Prop} {t:TypeId} {v:Value} {b:Bool} {u:Value}
theorem E7q {kd:Nat}{a:AV}(hs:E8 G w ob m)(hk:C8y P t v=some kd)(hb:A63 m kd a=some (p,b))(hp:p)(hr:Rel G w ob a u)(D:Nat):
  (Op.equalIn (D+1) t u v).run P w= .ok b w/\E22 u:=by
 unfold C8y at hk;split at hk <;> simp only[za,reduceCtorEq]at hk <;> subst hk
 ·rename_i hu;have some_case: ∀ad n c,(Op.equalIn (D+1) t (.slice (some ad) n c) (.slice none 0 0)).run P w= .ok false w:=λad n c=>run_equalIn_slice_nil w D t _ _ n c hu;cases a <;> simp only[A63,reduceCtorEq,za,zq]at hb
  case sc q=>cases q <;> simp only[A63,reduceCtorEq,za,zq]at hb;obtain⟨_,rfl⟩:=hb;rw[hr.sc_eq];exact⟨run_equalIn_slice_nil w D t _ _ _ _ hu, .inl ⟨_,_,_,rfl⟩⟩
  case dsl=>
   obtain⟨rfl,rfl⟩:=hb;cases hr with
   |dslNil=>omega
   |dslE=>omega
   |dsl=>exact⟨some_case _ _ _, .inl ⟨_,_,_,rfl⟩⟩
  case dslx=>
   obtain⟨rfl,rfl⟩:=hb;cases hr with
   |dslxNil=>omega
   |dslxE=>omega
   |dslx=>exact⟨some_case _ _ _, .inl ⟨_,_,_,rfl⟩⟩
  case sl id off n tot=>
   cases hr with
   |sl i h hle hss hv=>
    have fin: ∀s:Sq,i.len=s.n->(i.blk=none->s.n=0)->0<tot/\tot=s.n->(Op.equalIn (D+1) t u (.slice none 0 0)).run P w= .ok false w/\E22 u:=by
     rintro s hl hbn ⟨hn,rfl⟩;obtain⟨h1,h2,h3⟩:=hv hl;cases hbk:i.blk with
     |none=>have:=hbn hbk;omega
     |some b'=>obtain⟨o,c,rfl,_⟩:=h3 b' hbk;exact⟨some_case _ _ _, .inl ⟨_,_,_,rfl⟩⟩
    cases hm:m id with
    |none=>simp[hm]at hb
    |some obj=>
     rw[hm]at hb;have ho:=hs.own id obj i hm h;cases obj <;> simp only[reduceCtorEq,za,zq]at hb
     ·obtain⟨rfl,rfl⟩:=hb;exact fin _ ho.2.2.1 ho.arr_none hp
     ·obtain⟨rfl,rfl⟩:=hb;exact fin _ ho.2.2.1 ho.frz_none hp
 ·rename_i hu;have hu':P.underlying t=some (.pointer (P.pointee t)):=by simp[Program.pointee,hu]
  have ptr_case: ∀q,(Op.equalIn (D+1) t (.pointer q) (.pointer none)).run P w= .ok q.isNone w:=λq=>run_equalIn_pointer_nil w D t q hu';cases a <;> simp only[A63,reduceCtorEq,za,zq]at hb
  case sc q=>cases q <;> simp only[A63,reduceCtorEq,za,zq]at hb;obtain⟨_,rfl⟩:=hb;rw[hr.sc_eq];exact⟨ptr_case _, .inr (.inl ⟨_,rfl⟩)⟩
  case ptr=>obtain⟨_,rfl⟩:=hb;cases hr;exact⟨ptr_case _, .inr (.inl ⟨_,rfl⟩)⟩
  case dE=>obtain⟨_,rfl⟩:=hb;cases hr;exact⟨ptr_case _, .inr (.inl ⟨_,rfl⟩)⟩
 ·rename_i hu;cases a <;> simp only[A63,reduceCtorEq,za,zq]at hb
  case sc q=>cases q <;> simp only[A63,reduceCtorEq,za,zq]at hb;obtain⟨_,rfl⟩:=hb;rw[hr.sc_eq];exact⟨run_equalIn_map_nil w D t _ _ _ hu, .inr (.inr (.inl ⟨_,rfl⟩))⟩
  case mp=>obtain⟨_,rfl⟩:=hb;cases hr;exact⟨run_equalIn_map_nil w D t _ _ _ hu, .inr (.inr (.inl ⟨_,rfl⟩))⟩
variable {r:Res} {d:Nat} {ρ:Operand->Value} {x:Operand} {ax:AX} {y:Operand} {op:BinOp} {neg:Bool}
theorem F05 {kd:Nat}{e:AX->Option AV}
  (hn:D29 P op t y=some (kd,neg,v))(hyv:ρ (.const v)=v)
  (hs:E8 G w ob m)(hx:cx x=some ax)(he:O0 G w ob ρ e)(hv:eval (.isnil kd neg ax) e m d=some (p,r))(hp:p):
  E6 P G w ob m (do pure (.value (<-(do eqGuard op t x y (ρ x) (ρ y);binOp op t (ρ x) (ρ y))))) r:=by
 simp only[eval]at hv;cases hax:e ax with
 |none=>simp[hax]at hv
 |some a=>
  simp only[hax,zh,zq]at hv;obtain⟨⟨p',b⟩,hk,rfl,rfl⟩:=hv;unfold D29 at hn;split at hn
  case h_2=>cases hn
  rename_i v';have key:C8y P t v'=some kd/\v'=v/\((op= .eql/\neg=false)\/(op= .neq/\neg=true)):=by
   split at hn
   ·simp only[zh,zq]at hn
    grind
   ·simp only[zh,zq]at hn
    grind
   ·cases hn
  obtain⟨h1,rfl,hop⟩:=key;rw[hyv];obtain⟨h2,h3⟩:=E7q hs h1 hk hp (he x ax a hx hax) 9999;simp only[Nat.reduceAdd]at h2;generalize ρ x=u at h2 h3;have hv':v'= .slice none 0 0\/v'= .pointer none\/v'= .map none:=by
   unfold C8y at h1
   grind
  have hg:(eqGuard op t x (.const v') u v').run P w= .ok () w:=by unfold eqGuard;rcases hv' with rfl |rfl |rfl <;> rcases h3 with⟨a,n,c,rfl⟩ |⟨a,rfl⟩ |⟨a,rfl⟩ |rfl |⟨f,a,b,rfl⟩ <;> rcases hop with⟨rfl,_⟩ |⟨rfl,_⟩ <;> simp
  refine E6.quiet hs (v:= .bool (if neg then !b else b)) ?_ (.sc rfl);rcases hop with⟨rfl,rfl⟩ |⟨rfl,rfl⟩
  ·have:(binOp .eql t u v').run P w= .ok (.bool b) w:=by
    rcases hv' with rfl |rfl |rfl <;> rcases h3 with⟨a,n,c,rfl⟩ |⟨a,rfl⟩ |⟨a,rfl⟩ |rfl |⟨f,a,b,rfl⟩ <;> simp[binOp,Op.equal,Op.maxDepth,h2]
   simp[hg,this]
  ·have:(binOp .neq t u v').run P w= .ok (.bool (!b)) w:=by
    rcases hv' with rfl |rfl |rfl <;> rcases h3 with⟨a,n,c,rfl⟩ |⟨a,rfl⟩ |⟨a,rfl⟩ |rfl |⟨f,a,b,rfl⟩ <;> simp[binOp,Op.equal,Op.maxDepth,h2]
   simp[hg,this]
theorem A3n {s:Sem Value}(h:s.run P w= .ok v w):(do pure (.value (<-s)):Sem Next).run P w= .ok (.value v) w:=by simp[h]
variable {ay:AX}
theorem F38 {e:AX->Option AV}
  (ht:P.underlying t=some .string)(hs:E8 G w ob m)(hx:cx x=some ax)(hy:cx y=some ay)(he:O0 G w ob ρ e)(hv:eval (.sidx ax ay) e m d=some (p,r))(hp:p):
  E6 P G w ob m (do pure (.value (<-Instr.index t (ρ x) (ρ y)))) r:=by
 simp only[eval]at hv;split at hv
 case h_2=>cases hv
 rename_i s k j hax hay;cases hv;obtain⟨h0,h1⟩:=hp;rw[(he x ax _ hx hax).sc_eq,(he y ay _ hy hay).sc_eq];refine E6.quiet hs (v:= .int .u8 ((s.data.getD j.toNat 0).toNat:Int)) ?_ (.sc rfl);have hd:j.toNat<s.data.size:=h1;refine A3n ?_;rw[run_index_string w t s k j ht,dif_pos ⟨h0,o_⟩];have:s[j.toNat]' o_=s.data.getD j.toNat 0:=by rw[Array.getD,dif_pos hd];rfl
 rw[this]
variable {z n:Nat} {g:Nat->List AV} {M:Nat}
theorem C11 {L H:Nat}{a:Option Addr}{cap:Nat}(hr:Rel G w ob (.dsl z n g) (.slice a n cap))(h1:L<=H)(h2:H<=n)(h3:H<=M)(h4:M<=cap):
  Rel G w ob (.dsl z (H-L) λi=>g (L+i)) (sliced a L H M z)/\Rel G w ob (.dslx z (H-L) λi=>g (L+i)) (sliced a L H H z):=by
 have empty:H=L->(a=none->M=0)->Rel G w ob (.dsl z (H-L) λi=>g (L+i)) (sliced a L H M z)/\Rel G w ob (.dslx z (H-L) λi=>g (L+i)) (sliced a L H H z):=by
  intro e ha;subst e;unfold sliced;rw[yt];cases a with
  |none=>
   have:=ha rfl;subst this;have hL:H=0:=o_
   subst hL;simp only[zL];exact⟨.dslNil, .dslxNil⟩
  |some a=>
   simp only[zL];refine⟨?_, .dslxE _⟩;split
   ·exact .dslE _ _
   ·exact .dslE _ _
 by_cases e:H=L
 ·refine empty e λha=> ?_;subst ha;cases hr with
  |dslNil=>omega
 ·cases hr with
  |dslNil=>omega
  |dslE=>omega
  |dsl b off _ c hG hcap hlen hpp hc hrr=>
   unfold sliced;rw[zb o_,zb o_];simp only[Option.map_some,A2c];have hcell: ∀(i j:Nat),i<H-L->j<z->w.cell? ⟨b,off+L*z+(i*z+j),none⟩=some (c (L+i) j):=λi j hi hj=>by grind
   exact⟨.dsl b _ _ (λi j=>c (L+i) j) hG o_ (λi hi=>hlen _ o_) (λi j av hi hj=>hpp _ j av o_ hj) hcell (λi j av hi hj=>hrr _ j av o_ hj),
    .dslx b _ (λi j=>c (L+i) j) hG (λi hi=>hlen _ o_) (λi j av hi hj=>hpp _ j av o_ hj) hcell (λi j av hi hj=>hrr _ j av o_ hj)⟩
theorem Rel.of_dslx(hr:Rel G w ob (.dslx z n g) v):Rel G w ob (.dsl z n g) v:=by
 cases hr with
 |dslxNil=>exact .dslNil
 |dslxE a=>exact .dslE a 0
 |dslx b off c hG hlen hp hc hr=>exact .dsl b off n c hG (ze n) hlen hp hc hr
def VI(o:Option Value)(i:Option Int):Prop:=(o=none/\i=none)\/ ∃k j,o=some (.int k j)/\i=some j
variable {el:TypeId} {esz:Nat}
theorem B85(ht:P.underlying t=some (.slice el))(hz:Y8 P el=some esz){lo hi mx:Option Value}{l h q:Option Int}(hl:VI lo l)(hh:VI hi h)(hq:VI mx q)
  {a:Option Addr}{len cap:Nat}(hlc:len<=cap)(h0:0<=l.getD 0)(h1:l.getD 0<=h.getD len)(h2:h.getD len<=len)(h3:h.getD len<=q.getD cap)(h4:q.getD cap<=cap)(h5:q.isSome->h.isSome):
  (Instr.sliceAt t (.slice a len cap) lo hi mx).run P w= .ok (sliced a (l.getD 0).toNat (h.getD len).toNat (q.getD cap).toNat esz) w:=by
 have he:P.elem t=el:=by simp[Program.elem,ht]
 have ht':P.underlying t=some (.slice (P.elem t)):=by rw[he];exact ht
 have hz':(sizeOf (P.elem t)).run P w= .ok esz w:=by rw[he];exact T9 hz
 rw[run_sliceAt_slice w t _ _ _ _ ht'];rcases hl with⟨rfl,rfl⟩ |⟨kl,l,rfl,rfl⟩ <;> rcases hh with⟨rfl,rfl⟩ |⟨kh,h,rfl,rfl⟩ <;> rcases hq with⟨rfl,rfl⟩ |⟨kq,q,rfl,rfl⟩ <;>
  simp only[Option.getD_none,Option.getD_some,Option.isSome_some,Option.isSome_none,xg,zf]at h0 h1 h2 h3 h4 h5
 ·rw[run_slice_all w t a len cap ht',hz'];simp
 ·rw[run_slice_h w t a len cap ht' kh h o_ o_,hz'];simp
 ·rw[run_slice_hm w t a len cap ht' kh kq h q o_ o_ o_,hz'];simp
 ·rw[run_slice_l w t a len cap ht' kl l o_ o_,hz'];simp
 ·rw[run_slice_lh w t a len cap ht' kl kh l h o_ o_ o_,hz'];simp
 ·rw[run_slice_lhm w t a len cap ht' kl kh kq l h q o_ o_ o_ o_,hz'];simp
def cxo:Option Operand->Option (Option AX)
 |none=>some none
 |some x=>(cx x).map some
theorem A0u {e:AX->Option AV}(he:O0 G w ob ρ e){x:Option Operand}{ax:Option AX}{i:Option Int}(hx:cxo x=some ax)(hi:A0k e ax=some i):VI (x.map ρ) i:=by
 cases x with
 |none=>simp only[cxo,za]at hx;subst hx;simp only[A0k,za]at hi;exact .inl ⟨rfl,hi.symm⟩
 |some x=>
  simp only[cxo,zh]at hx;obtain⟨a,ha,rfl⟩:=hx;simp only[A0k]at hi;split at hi
  ·rename_i k j hj;cases hi;exact .inr ⟨k,j,by simp[(he x a _ ha hj).sc_eq],rfl⟩
  ·cases hi
variable {lo hi:Option Operand} {al ah:Option AX}
theorem F1a {e:AX->Option AV}{mx:Option Operand}{am:Option AX}
  (ht:P.underlying t=some (.slice el))(hz:Y8 P el=some esz)(hl:cxo lo=some al)(hh:cxo hi=some ah)(hmx:cxo mx=some am)
  (hs:E8 G w ob m)(hx:cx x=some ax)(he:O0 G w ob ρ e)(hv:eval (.slice esz ax al ah am) e m d=some (p,r))(hp:p):
  E6 P G w ob m (do pure (.value (<-Instr.sliceAt t (ρ x) (lo.map ρ) (hi.map ρ) (mx.map ρ)))) r:=by
 simp only[eval]at hv;split at hv
 ·rename_i z n g l h q hax hal hah ham;have hr:=he x ax _ hx hax
  have hL:=A0u he hl hal
  have hH:=A0u he hh hah
  have hM:=A0u he hmx ham;split at hv
  case isFalse=>cases hv
  rename_i hze;subst hze;have shape: ∃a cap,ρ x= .slice a n cap/\n<=cap:=by
   generalize ρ x=v at hr;cases hr with
   |dslNil=>exact⟨_,_,rfl,ze _⟩
   |dslE a cap=>exact⟨_,_,rfl,zm _⟩
   |dsl b off cap c hG hcap=>exact⟨_,_,rfl,hcap⟩
  obtain⟨a,cap,hxe,hcap⟩:=shape;rw[hxe]at hr⊢;split at hv
  ·cases hv;obtain⟨h0,h1,h2⟩:=hp;have hrun:=B85 (w:=w) ht hz hL hH hM (a:=a) hcap h0 h1 h2 (by simp;omega) p_ p_
   have hsub:=(C11 (L:=(l.getD 0).toNat) (H:=(h.getD n).toNat) (M:=cap) hr o_ o_ o_ (ze _)).1
   have e1:(h.getD (n:Int)-l.getD 0).toNat=(h.getD (n:Int)).toNat-(l.getD 0).toNat:=o_
   rw[e1];exact E6.quiet hs (A3n hrun) (by simpa using hsub)
  ·rename_i k;cases hv;obtain⟨h0,h1,h2,h3,rfl⟩:=hp;have hrun:=B85 (w:=w) ht hz hL hH hM (a:=a) hcap h0 h1 h2 p_ (by simp;omega) (by simp[h3])
   have hsub:=(C11 (L:=(l.getD 0).toNat) (H:=(h.getD n).toNat) (M:=(h.getD n).toNat) hr o_ o_ o_ o_).2
   have e1:(h.getD (n:Int)-l.getD 0).toNat=(h.getD (n:Int)).toNat-(l.getD 0).toNat:=o_
   rw[e1];exact E6.quiet hs (A3n hrun) (by simpa using hsub)
 ·rename_i z n g l h hax hal hah ham;have hr:=he x ax _ hx hax
  have hL:=A0u he hl hal
  have hH:=A0u he hh hah
  have hM:=A0u he hmx ham;split at hv
  case isFalse=>cases hv
  rename_i hze;subst hze;have shape: ∃a,ρ x= .slice a n n:=by
   generalize ρ x=v at hr;cases hr with
   |dslxNil=>exact⟨_,rfl⟩
   |dslxE a=>exact⟨_,rfl⟩
   |dslx b off c hG=>exact⟨_,rfl⟩
  obtain⟨a,hxe⟩:=shape;rw[hxe]at hr⊢;cases hv;obtain⟨h0,h1,h2⟩:=hp;have hrun:=B85 (w:=w) ht hz hL hH hM (a:=a) (ze n) h0 h1 h2 (by simp;omega) p_ p_
  have hsub:=(C11 (L:=(l.getD 0).toNat) (H:=(h.getD n).toNat) (M:=n) hr.of_dslx o_ o_ o_ (ze _)).1
  have e1:(h.getD (n:Int)-l.getD 0).toNat=(h.getD (n:Int)).toNat-(l.getD 0).toNat:=o_
  rw[e1];exact E6.quiet hs (A3n hrun) (by simpa using hsub)
 ·rename_i l h hax hal hah ham;have hr:=he x ax _ hx hax
  have hL:=A0u he hl hal
  have hH:=A0u he hh hah
  have hM:=A0u he hmx ham;rw[hr.sc_eq];cases hv;obtain⟨h0,h1⟩:=hp;have hrun:=B85 (w:=w) ht hz hL hH hM (a:=none) (ze 0) o_ (by simp;omega) (by simp;omega) (by simp;omega) p_ p_;refine E6.quiet hs (v:= .slice none 0 0) (A3n ?_) (.sc rfl);rw[hrun];simp[h0,h1,sliced]
 ·rename_i id off n tot l h hax hal hah ham;have hr:=he x ax _ hx hax
  have hL:=A0u he hl hal
  have hH:=A0u he hh hah
  have hM:=A0u he hmx ham
  have fin: ∀(s:Sq) (z:Nat) (i:L4),z=esz->ob id=some i->i.esz=z->i.len=s.n->(i.blk=none->s.n=0)->tot=s.n/\0<=l.getD 0/\l.getD 0<=h.getD n/\h.getD n<=n->
    E6 P G w ob m (do pure (.value (<-Instr.sliceAt t (ρ x) (lo.map ρ) (hi.map ρ) (mx.map ρ)))) ⟨some (.sl id (off+(l.getD 0).toNat) (h.getD n-l.getD 0).toNat tot),[]⟩:=by
   rintro s z i rfl hoi hiz hil hbn ⟨rfl,h0,h1,h2⟩;generalize ρ x=v at hr;cases hr with
   |sl i' h' hle hss hvv=>
    rw[hoi]at h';injection h' with h';subst h';obtain⟨g1,g2,g3⟩:=hvv hil;have e1:(h.getD (n:Int)-l.getD 0).toNat=(h.getD (n:Int)).toNat-(l.getD 0).toNat:=o_
    rw[e1];cases hb:i.blk with
    |none=>
     have hn0:=hbn hb
     have hnn:n=0:=o_
     subst hnn;have hL0:l.getD 0=0:=o_
     have hH0:h.getD ((0:Nat):Int)=0:=o_
     have go: ∀a:Option Addr,v= .slice a 0 0->(a=none->v= .slice none 0 0)->E6 P G w ob m (do pure (.value (<-Instr.sliceAt t v (lo.map ρ) (hi.map ρ) (mx.map ρ)))) ⟨some (.sl id (off+(l.getD 0).toNat) ((h.getD ((0:Nat):Int)).toNat-(l.getD 0).toNat) s.n),[]⟩:=by
      rintro a rfl -;have hrun:=B85 (w:=w) ht hz hL hH hM (a:=a) (ze 0) h0 h1 h2 (by simp;omega) p_ p_;refine E6.quiet hs (A3n hrun) ?_;rw[hL0,hH0];simp only[Option.getD_none,Int.toNat_natCast,Int.toNat_zero,sliced,yt,zL,Nat.add_zero];refine .sl i hoi o_ ⟨_,_,rfl⟩ λ_=>⟨o_,λ_=> ?_,λb hb'=>by rw[hb]at hb';cases hb'⟩
      grind
     grind
    |some b=>
     obtain⟨o,c,rfl,hc,ho1,ho2⟩:=g3 b hb;have hrun:=B85 (w:=w) ht hz hL hH hM (a:=some ⟨b,o,none⟩) hc h0 h1 h2 (by simp;omega) p_ p_;refine E6.quiet hs (A3n hrun) ?_;simp only[Option.getD_none,Int.toNat_natCast,sliced,Option.map_some,A2c];refine .sl i hoi o_ ⟨_,_,rfl⟩ λ_=>⟨o_,(λhb'=>by rw[hb]at hb';cases hb'),λb' hb'=> ?_⟩
     ·rw[hb]at hb';injection hb' with hb';subst hb';refine⟨if c=(l.getD 0).toNat then o else o+(l.getD 0).toNat*z,c-(l.getD 0).toNat,?_,o_,λhpos=> ?_,λh0'=> ?_⟩
      all_goals grind
  cases hm':m id with
  |none=>simp[hm']at hv
  |some obj=>
   cases hi':ob id with
   |none=>rw[(hs.dom id).2 hi']at hm';cases hm'
   |some i=>
    have ho:=hs.own id obj i hm' hi';rw[hm']at hv;cases obj <;> simp only[reduceCtorEq]at hv
    ·split at hv
     ·rename_i hze;cases hv;exact fin _ _ i hze hi' ho.2.1 ho.2.2.1 ho.arr_none hp
     ·cases hv
    ·split at hv
     ·rename_i hze;cases hv;exact fin _ _ i hze hi' ho.2.1 ho.2.2.1 ho.frz_none hp
     ·cases hv
 ·cases hv
theorem F34 {f:Fn}{e:AX->Option AV}{first cap:List Operand}{a1 a2:List AX}
  (h1: ∀j:Nat,(first[j]?).map cx=(a1[j]?).map some)(h2: ∀j:Nat,(cap[j]?).map cx=(a2[j]?).map some)
  (hs:E8 G w ob m)(he:O0 G w ob ρ e)(hv:eval (.mkfn f a1 a2) e m d=some (p,r)):
  E6 P G w ob m (do pure (.value (<-Instr.makeFunc f (first.toArray.map ρ) (cap.toArray.map ρ)))) r:=by
 simp only[eval]at hv;split at hv
 case h_2=>cases hv
 rename_i vs us hvs hus;cases hv;have key: ∀(os:List Operand) (as:List AX) (vs:List AV),(∀j:Nat,(os[j]?).map cx=(as[j]?).map some)->esL e as=some vs->os.length=vs.length/\ ∀(j:Nat) (av:AV),vs[j]? =some av->Rel G w ob av ((os.map ρ).getD j undef):=by
  intro os;induction os with
  |nil=>
   intro as vs h hv;cases as with
   |nil=>simp only[esL,za]at hv;grind
   |cons a as=>have:=h 0;simp at this
  |cons o os ih=>
   intro as vs h hv;cases as with
   |nil=>have:=h 0;simp at this
   |cons a as=>
    have h0:=h 0;simp only[List.getElem?_cons_zero,Option.map_some,za]at h0;simp only[esL]at hv;split at hv
    ·rename_i v vs' hv1 hv2;cases hv;obtain⟨i1,i2⟩:=ih as vs' (λj=>by simpa using h (j+1)) hv2;refine⟨by simp[i1],λj av hj=> ?_⟩;cases j with
     |zero=>simp only[List.getElem?_cons_zero,za]at hj;subst hj;simpa using he o a _ h0 hv1
     |succ j=>simpa using i2 j av (by simpa using hj)
    ·cases hv
 obtain⟨k1,k2⟩:=key first a1 vs h1 hvs
 obtain⟨k3,k4⟩:=key cap a2 us h2 hus;refine E6.quiet hs (v:= .func f (first.toArray.map ρ) (cap.toArray.map ρ)) (by simp[Instr.makeFunc]) (.fn _ _ (by simp[k1]) (by simp[k3]) (λj av hj=> ?_) (λj av hj=> ?_))
 all_goals simp_all
variable {cs:List AV}
theorem C8h {b o:Nat}(hb:G b)(hlen:n*z<=cs.length)(hc:B0k G w ob b o cs)(hp: ∀(j:Nat) (av:AV),j<n*z->cs[j]? =some av->av.pure=true):
  Rel G w ob (.dsl z n λi=>(cs.drop (i*z)).take z) (.slice (some ⟨b,o,none⟩) n n):=by
 have hk: ∀i j,i<n->j<z->i*z+j<cs.length:=λi j hi hj=>by have:(i+1)*z<=n*z:=zw _ hi;rw[qa]at this;omega
 have hin: ∀i j av,i<n->((cs.drop (i*z)).take z)[j]? =some av->j<z/\cs[i*z+j]? =some av:=λi j av hi hj=>by grind
 refine .dsl b o n (λi j=>(w.cell? ⟨b,o+(i*z+j),none⟩).getD undef) hb (ze n) (λi hi=> ?_) (λi j av hi hj=> ?_) (λi j hi hj=> ?_) (λi j av hi hj=> ?_)
 ·have:(i+1)*z<=n*z:=zw _ hi
  grind
 ·obtain⟨h1,h2⟩:=hin i j av hi hj;have:(i+1)*z<=n*z:=zw _ hi
  grind
 ·obtain⟨_,u,hu,_⟩:=hc (i*z+j) _ (zg (hk i j hi hj));rw[hu];rfl
 ·obtain⟨h1,h2⟩:=hin i j av hi hj;obtain⟨_,u,hu,hr⟩:=hc (i*z+j) av h2;rw[hu];exact hr
variable {len:Nat}
theorem E8a {e:AX->Option AV}
  (ht:P.underlying t=some (.array len el))(hz:Y8 P el=some esz)
  (hs:E8 G w ob m)(hx:cx x=some ax)(he:O0 G w ob ρ e)(hv:eval (.aslice len esz ax) e m d=some (p,r))(hp:p):
  E6 P G w ob m (do pure (.value (<-Instr.sliceAt t (ρ x) none none none))) r:=by
 have he':P.elem t=el:=by simp[Program.elem,ht]
 have hn':P.arrayLen t=len:=by simp[Program.arrayLen,ht]
 have hz':(sizeOf (P.elem t)).run P w= .ok esz w:=by rw[he'];exact T9 hz
 have key: ∀b o,(Instr.sliceAt t (.pointer (some ⟨b,o,none⟩)) none none none).run P w= .ok (.slice (some ⟨b,o,none⟩) len len) w:=λb o=>by rw[run_sliceAt_array_all w t _ (by rw[he',hn'];exact ht),hz'];simp[slicedAt,hn',A2c]
 simp only[eval]at hv;split at hv
 ·rename_i cs hax;cases hv;have hr:=he x ax _ hx hax;obtain⟨b,off,hxe,hG,hc⟩:=B7w hr;have hpp: ∀(j:Nat) (av:AV),cs[j]? =some av->av.pure=true:=by
   generalize ρ x=v at hr;cases hr with
   |dE b off c hG hp hc hr=>exact hp
  rw[hxe];exact E6.quiet hs (A3n (key b off)) (C8h hG hp hc λj av _ hj=>hpp j av hj)
 ·rename_i id k o tot hax;split at hv
  case h_2=>cases hv
  rename_i cs hm';split at hv
  case isFalse=>cases hv
  rename_i hpure;cases hv;obtain⟨rfl,rfl,hfit⟩:=hp;have hr:=he x ax _ hx hax;obtain⟨G',s1,s2,s3,s4⟩:=hs.freezeB hm' hpure;generalize ρ x=v at hr;cases hr with
  |ptr a i h hle hvv=>
   have ho:=hs.own id _ i hm' h;obtain⟨h0,h1,h2,b,arr,T,h3,h4,h5,h6⟩:=ho;obtain⟨b',h7,rfl,_⟩:=hvv h1;rw[h3]at h7;injection h7 with h7;subst h7;simp only[xd,qk];have hcs:B0k G' w ob b o (cs.drop o):=λj av hj=>by have hj:=getElem?_drop_lt hj;obtain⟨ho,u,hu,hr⟩:=h6 _ av hj;exact⟨ho,u,by rw[cell_of_row w b _ arr T _ h4];exact hu,hr.ext s2 (λ_ _=>rfl) (D4.refl ob)⟩
   refine⟨G',w,ob,_, .inl (A3n (key b o)),s1,λav hav=> ?_,D4.refl ob,Fr.frozen s2 s3⟩;injection hav with hav;subst hav;have:=C8h (n:=len) (z:=esz) (s4 i b h h3) (by rw[qn];omega) hcs λj av _ hj=>qm.1 hpure av (qv (getElem?_drop_lt hj));simpa only[yj]using this
 ·cases hv
theorem F37 {e:AX->Option AV}
  (hs:E8 G w ob m)(hx:cx x=some ax)(hy:cx y=some ay)(he:O0 G w ob ρ e)(hv:eval (.sadd ax ay) e m d=some (p,r))(hp:p):
  E6 P G w ob m (do pure (.value (<-(do eqGuard .add t x y (ρ x) (ρ y);binOp .add t (ρ x) (ρ y))))) r:=by
 simp only[eval]at hv;split at hv
 case h_2=>cases hv
 rename_i a b hax hay;cases hv;rw[(he x ax _ hx hax).sc_eq,(he y ay _ hy hay).sc_eq];refine E6.quiet hs (v:= .string (a++b)) ?_ (.sc rfl);have h1:=run_string_add_sum (P:=P) w a b hp;simp[eqGuard,binOp,h1]
variable {ty:TypeId}
theorem F39 {cs:Array Bool}{e:AX->Option AV}
  (ht:P.underlying t=some .string)(hs:E8 G w ob m)(hx:cx x=some ax)(he:O0 G w ob ρ e)(hv:eval (.slen ax) e m d=some (p,r)):
  E6 P G w ob m (builtin .len #[t] ty cs #[ρ x]) r:=by
 simp only[eval]at hv;split at hv
 case h_2=>cases hv
 rename_i s hax;cases hv;rw[(he x ax _ hx hax).sc_eq];exact E6.quiet hs (v:= .int .i64 s.size) (by simp[builtin,Builtin.len_,run_underlying ht,goInt]) (.sc rfl)
theorem E8i {e:AX->Option AV}
  (ht:P.underlying t=some .string)(hs:E8 G w ob m)(hx:cx x=some ax)(hl:cxo lo=some al)(hh:cxo hi=some ah)(he:O0 G w ob ρ e)(hv:eval (.sslice ax al ah) e m d=some (p,r))(hp:p):
  E6 P G w ob m (do pure (.value (<-Instr.sliceAt t (ρ x) (lo.map ρ) (hi.map ρ) none))) r:=by
 simp only[eval]at hv;split at hv
 case h_2=>cases hv
 rename_i s l h hax hol hoh;cases hv;obtain⟨h0,h1,h2⟩:=hp;rw[(he x ax _ hx hax).sc_eq];refine E6.quiet hs (A3n ?_) (.sc rfl);rw[run_sliceAt_string w t _ _ _ _ ht];rcases A0u he hl hol with⟨e1,rfl⟩ |⟨kl,j,e1,rfl⟩ <;> rcases A0u he hh hoh with⟨e2,rfl⟩ |⟨kh,k,e2,rfl⟩ <;> rw[e1,e2] <;> simp only[Option.getD_none,Option.getD_some]at h0 h1 h2⊢
 ·rw[run_slice_string_all w t s ht];simp
 ·rw[run_slice_string_h w t s ht kh k o_ o_];simp
 ·rw[run_slice_string_l w t s ht kl j o_ o_];simp
 ·exact run_slice_string w t s kl kh j k ht o_ o_ o_
variable {src dst:TypeId}
theorem E8h {e:AX->Option AV}
  (h1:P.underlying src=some .string)(h2:P.underlying dst=some (.slice el))(h3:P.underlying el=some (.int .u8))(hs:E8 G w ob m)(hx:cx x=some ax)(he:O0 G w ob ρ e)(hv:eval (.sbytes ax) e m d=some (p,r)):
  E6 P G w ob m (do pure (.value (<-convert src dst (ρ x)))) r:=by
 simp only[eval]at hv;split at hv
 case h_2=>cases hv
 rename_i s hax;cases hv;rw[(he x ax _ hx hax).sc_eq];have hrun:=run_bytes_of_string w src dst el s h1 h2 h3;generalize hc:grownCap w s.size 0 el=cap at hrun;have hcap:s.size<=cap:=by rw[<-hc];exact grownCap_ge w s.size 0 el
 let row:=bytesRow s cap
 have hget: ∀i,i<s.size->row[i]? =some (.int .u8 ((s.data.getD i 0).toNat:Int)):=λi hi=>by have hi':i<s.data.size:=hi;show(s.data.map _++Array.replicate _ _)[i]? =_;rw[Array.getElem?_append,zc (by simpa using hi'),yR,qh hi',Option.map_some,Array.getD,dif_pos hi'];rfl
 have hold: ∀b,b<w.heap.size->(w.drew.alloc (.cells row el (row.size,row.size+1))).heap[b]? =w.heap[b]? :=λb hb=>heap_alloc_old _ _ _ hb
 have hsz:(w.drew.alloc (.cells row el (row.size,row.size+1))).heap.size=w.heap.size+1:=by show(w.heap.push _).size=_;simp
 have hnew:(w.drew.alloc (.cells row el (row.size,row.size+1))).heap[w.heap.size]? =some (.cells row el (row.size,row.size+1)):=heap_alloc_new _ _;refine⟨λb=>G b\/b=w.heap.size,w.drew.alloc (.cells row el (row.size,row.size+1)),ob, .slice (some ⟨w.heap.size,0,none⟩) s.size cap, .inl (by rw[Sem.run_bind,hrun];rfl),?_,λav hav=> ?_,D4.refl ob,?_⟩
 ·refine⟨hs.dom,hs.inj,λb hb=> ?_,λid o i hm hi=> ?_,λid o i b hm how hi hb=> ?_⟩
  ·rcases hb with hb |rfl
   ·have:=hs.lt b hb;rw[hsz];omega
   ·rw[hsz];omega
  ·exact(hs.own id o i hm hi).ext (λ_ h=> .inl h) (λb hb=>hold b (hs.lt b hb)) (D4.refl ob) λb hb=>hold b ((hs.own id o i hm hi).has_lt hb)
  ·rintro(h |rfl)
   ·exact hs.sep id o i b hm how hi hb h
   ·have:=(hs.own id o i hm hi).has_lt hb;omega
 ·injection hav with hav;subst hav;refine .dsl w.heap.size 0 cap (λi _=> .int .u8 ((s.data.getD i 0).toNat:Int)) (.inr rfl) hcap (λi _=>rfl) (λi j av hi hj=> ?_) (λi j hi hj=> ?_) (λi j av hi hj=> ?_)
  ·cases j with
   |zero=>simp only[List.getElem?_cons_zero,za]at hj;subst hj;rfl
   |succ j=>simp at hj
  ·have:j=0:=o_
   subst this;rw[cell_of_row _ _ _ row el _ hnew];simpa using hget i hi
  ·cases j with
   |zero=>simp only[List.getElem?_cons_zero,za]at hj;subst hj;exact .sc rfl
   |succ j=>simp at hj
 ·exact⟨by rw[hsz];omega,λb hb _=>hold b hb,λb hb=> .inl hb,λb hb=> .inl hb,λb hb=>hb.imp id λh=> .inl o_,rfl,rfl,rfl,Nat.le_succ w.drawn⟩
theorem F3y {e:AX->Option AV}
  (ht:P.underlying t=some (.array len el))(hz:Y8 P el=some esz)
  (hs:E8 G w ob m)(hx:cx x=some ax)(hl:cxo lo=some al)(hh:cxo hi=some ah)(he:O0 G w ob ρ e)(hv:eval (.aslc len esz ax al ah) e m d=some (p,r))(hp:p):
  E6 P G w ob m (do pure (.value (<-Instr.sliceAt t (ρ x) (lo.map ρ) (hi.map ρ) none))) r:=by
 have he':P.elem t=el:=by simp[Program.elem,ht]
 have hn':P.arrayLen t=len:=by simp[Program.arrayLen,ht]
 have hz':(sizeOf (P.elem t)).run P w= .ok esz w:=by rw[he'];exact T9 hz
 have htt:P.underlying t=some (.array (P.arrayLen t) (P.elem t)):=by rw[he',hn'];exact ht
 have key: ∀b o l h,A0k e al=some l->A0k e ah=some h->0<=l.getD 0->l.getD 0<=h.getD len->h.getD len<=len->
   (Instr.sliceAt t (.pointer (some ⟨b,o,none⟩)) (lo.map ρ) (hi.map ρ) none).run P w= .ok (sliced (some ⟨b,o,none⟩) (l.getD 0).toNat (h.getD len).toNat len esz) w:=λb o l h h1 h2 h3 h4 h5=>by
  have fin: ∀L H:Nat,slicedAt ⟨b,o,none⟩ L H len esz=sliced (some ⟨b,o,none⟩) L H len esz:=λL H=>by unfold slicedAt sliced;split <;> rfl
  rcases A0u he hl h1 with⟨e1,rfl⟩ |⟨kl,j,e1,rfl⟩ <;> rcases A0u he hh h2 with⟨e2,rfl⟩ |⟨kh,k,e2,rfl⟩ <;> rw[e1,e2] <;> simp only[Option.getD_none,Option.getD_some]at h3 h4 h5⊢
  ·rw[run_sliceAt_array_all w t _ htt,hz'];simp_all
  ·rw[run_sliceAt_array_h w t _ htt kh k o_ (by rw[hn'];omega),hz'];simp_all
  ·rw[run_sliceAt_array_l w t _ htt kl j o_ (by rw[hn'];omega),hz'];simp_all
  ·rw[run_sliceAt_array_lh w t _ htt kl kh j k o_ o_ (by rw[hn'];omega),hz'];simp only[Result.andThen_ok,hn',<-fin]
 simp only[eval]at hv;split at hv
 ·rename_i cs l h hax hol hoh;cases hv;obtain⟨p1,p2,p3,p4⟩:=hp;have hr:=he x ax _ hx hax;obtain⟨b,off,hxe,hG,hc⟩:=B7w hr;have hpp: ∀(j:Nat) (av:AV),cs[j]? =some av->av.pure=true:=by
   generalize ρ x=v at hr;cases hr with
   |dE b off c hG hp hc hr=>exact hp
  rw[hxe];have hwhole:=C8h (n:=len) (z:=esz) hG p4 hc λj av _ hj=>hpp j av hj
  have hsub:=(C11 hwhole (L:=(l.getD 0).toNat) (H:=(h.getD len).toNat) (M:=len) o_ o_ o_ (ze _)).1
  have en:(h.getD len-l.getD 0).toNat=(h.getD len).toNat-(l.getD 0).toNat:=o_
  exact E6.quiet hs (A3n (key b off l h hol hoh p1 p2 p3)) (by rw[en];exact hsub)
 ·rename_i id k o tot l h hax hol hoh;split at hv
  case h_2=>cases hv
  rename_i cs hm';split at hv
  case isFalse=>cases hv
  rename_i hpure;cases hv;obtain⟨⟨p1,p2,p3⟩,rfl,rfl,hfit⟩:=hp;have hr:=he x ax _ hx hax;obtain⟨G',s1,s2,s3,s4⟩:=hs.freezeB hm' hpure;have hkey:=λb o=>key b o l h hol hoh p1 p2 p3;generalize ρ x=v at hr;cases hr with
  |ptr a i h' hle hvv=>
   have ho:=hs.own id _ i hm' h';obtain⟨h0,h1,h2,b,arr,T,h3,h4,h5,h6⟩:=ho;obtain⟨b',h7,rfl,_⟩:=hvv h1;rw[h3]at h7;injection h7 with h7;subst h7;simp only[xd,qk];have hcs:B0k G' w ob b o (cs.drop o):=λj av hj=>by have hj:=getElem?_drop_lt hj;obtain⟨ho,u,hu,hr⟩:=h6 _ av hj;exact⟨ho,u,by rw[cell_of_row w b _ arr T _ h4];exact hu,hr.ext s2 (λ_ _=>rfl) (D4.refl ob)⟩
   refine⟨G',w,ob,_, .inl (A3n (hkey b o)),s1,λav hav=> ?_,D4.refl ob,Fr.frozen s2 s3⟩;injection hav with hav;subst hav;have hwhole:=C8h (n:=len) (z:=esz) (s4 i b h' h3) (by rw[qn];omega) hcs λj av _ hj=>qm.1 hpure av (qv (getElem?_drop_lt hj))
   have hsub:=(C11 hwhole (L:=(l.getD 0).toNat) (H:=(h.getD len).toNat) (M:=len) o_ o_ o_ (ze _)).1
   have en:(h.getD len-l.getD 0).toNat=(h.getD len).toNat-(l.getD 0).toNat:=o_
   simp_all
 ·cases hv
theorem E8d {e:AX->Option AV}
  (ht:P.underlying t=some .string)(hop:(op= .eql/\neg=false)\/(op= .neq/\neg=true))(hs:E8 G w ob m)(hx:cx x=some ax)(hy:cx y=some ay)(he:O0 G w ob ρ e)(hv:eval (.eqs neg ax ay) e m d=some (p,r)):
  E6 P G w ob m (do pure (.value (<-(do eqGuard op t x y (ρ x) (ρ y);binOp op t (ρ x) (ρ y))))) r:=by
 simp only[eval]at hv;split at hv
 case h_2=>cases hv
 rename_i b1 b2 hax hay;cases hv;rw[(he x ax _ hx hax).sc_eq,(he y ay _ hy hay).sc_eq];rcases hop with⟨rfl,rfl⟩ |⟨rfl,rfl⟩
 ·refine E6.quiet hs (v:= .bool (b1.toList==b2.toList)) ?_ (.sc rfl);simp[eqGuard,binOp_string_eql]
 ·refine E6.quiet hs (v:= .bool (!(b1.toList==b2.toList))) ?_ (.sc rfl);simp[eqGuard,binOp_string_neq]
theorem E7n(ns:List Int): ∀(r:ByteArray),(ns.foldl (λr n=>r.push (UInt8.ofNat n.toNat)) r).data=r.data++(ns.map λn=>UInt8.ofNat n.toNat).toArray:=by
 induction ns with
 |nil=>intro r;simp
 |cons n ns ih=>simp_all
theorem F3z {e:AX->Option AV}
  (hsrc:P.underlying src=some (.slice el))(hel:P.underlying el=some (.int .u8))(hdst:P.underlying dst=some .string)
  (hs:E8 G w ob m)(hx:cx x=some ax)(he:O0 G w ob ρ e)(hv:eval (.bstr ax) e m d=some (p,r))(hp:p):
  E6 P G w ob m (do pure (.value (<-convert src dst (ρ x)))) r:=by
 simp only[eval]at hv;split at hv
 case h_2=>cases hv
 rename_i b hax;split at hv
 case h_2=>cases hv
 rename_i p' t hsr;cases hv;obtain⟨hp',hb⟩:=hp;obtain⟨news,hS⟩:=B0g hs hsr hp' (he x ax _ hx hax);have hk: ∃ns:List Int,ns.length=t.n/\ ∀i,i<t.n->t.g i= [.sc (.int .u8 (ns.getD i 0))]:=by
  refine⟨(List.range t.n).map λi=>if h:i<t.n then Classical.choose (hb i h)else 0,p_,λi hi=> ?_⟩
  grind
 obtain⟨ns,hn,hg⟩:=hk;have hnews:news=ns.map (Value.int .u8):=by
  apply List.ext_getElem?;intro i;by_cases hi:i<t.n
  ·obtain⟨_,u,hu,hr⟩:=hS.rel i 0 _ hi (by rw[hg i hi];rfl);rw[xm,Nat.add_zero]at hu;rw[hu,hr.sc_eq]
   grind
  ·rw[qi (by rw[hS.len];omega),qi (by rw[z7];omega)]
 have hstr:E1f t=⟨(ns.map λn=>UInt8.ofNat n.toNat).toArray⟩:=by
  unfold E1f;congr 2;apply List.ext_getElem (by simp[hn]);intro i h1 h2;have hi:i<t.n:=by simpa using h1
  have hin:i<ns.length:=o_
  simp[hg i hi,E63,List.getD,hin]
 refine E6.quiet hs (v:= .string (E1f t)) ?_ (.sc rfl);rcases hS.val with⟨h0,hval⟩ |⟨a,c,hval,hcell⟩
 ·rw[hval];have hns:ns= []:=qx.1 o_;subst hns;simp[run_convert_bytes_string (P:=P) w src dst el none 0 0 hsrc hel hdst,Conv.bytesToString,hstr];rfl
 ·rw[hval];have hl:=run_loadCells_list (P:=P) w a news hcell;rw[hnews]at hl;have hlen:(ns.map (Value.int .u8)).length=t.n:=by rw[z7,hn]
  rw[hlen]at hl;have hb2:=run_bytesToString (P:=P) w a t.n c ns hl
  have hfin:ns.foldl (λr n=>r.push (UInt8.ofNat n.toNat)) ByteArray.empty=E1f t:=by rw[hstr];have:=E7n ns ByteArray.empty;generalize hB:ns.foldl (λr n=>r.push (UInt8.ofNat n.toNat)) ByteArray.empty=B at this;cases B;simp_all
  rw[hfin]at hb2;simp[run_convert_bytes_string (P:=P) w src dst el (some a) t.n c hsrc hel hdst,hb2]
theorem D7m(w:World)(dT sT ty elem:TypeId)(g o dLen dCap:Nat)(a:Addr)(sLen sCap z:Nat)(cur:Array Value)(t:TypeId)(cs:List Value)
  (hu:P.underlying dT=some (.slice elem))(hs:(P.info? elem).map (·.size)=some z)
  (hg:w.heap[g]? =some (.cells cur t (0,0)))(hn:cs.length=Nat.min sLen dLen*z)
  (hsrc: ∀j v,cs[j]? =some v->w.cell? (a.add j)=some v)(hfit:o+cs.length<=cur.size)(h1: ∀v∈cs,v.oneCell'=true):
  (Builtin.copy_ #[dT,sT] ty #[.slice (some ⟨g,o,none⟩) dLen dCap, .slice (some a) sLen sCap]).run P w=
    .ok (goInt (Nat.min sLen dLen:Nat)) (w.setRow g (cur.toList.take o++cs++cur.toList.drop (o+cs.length)).toArray):=by
 have hl:=run_loadCells_list (P:=P) w a cs hsrc
 have hst:=run_storeCells_at P g o t cs 0 cur w hg (by simpa using hfit) h1;cases hq:P.info? elem with
 |none=>simp[hq]at hs
 |some i=>
  have hi:i.size=z:=by simpa[hq]using hs
  rw[hn]at hl;simp[Builtin.copy_,run_underlying hu,Builtin.lenOf,Builtin.firstCells,sizeOf,typeInfo,hq,hi,hl,hst]
theorem C2d(w:World)(dT sT ty elem:TypeId)(d a:Option Addr)(dLen dCap sLen sCap z:Nat)(hu:P.underlying dT=some (.slice elem))(hs:(P.info? elem).map (·.size)=some z)(hn:Nat.min sLen dLen=0):
  (Builtin.copy_ #[dT,sT] ty #[.slice d dLen dCap, .slice a sLen sCap]).run P w= .ok (goInt 0) w:=by
 cases hq:P.info? elem with
 |none=>simp[hq]at hs
 |some i=>
  have hl: ∀(x:Addr),(loadCells x 0).run P w= .ok #[] w:=λx=>by simpa using run_loadCells_list (P:=P) w x [] p_
  cases d <;> cases a <;> simp[Builtin.copy_,run_underlying hu,Builtin.lenOf,Builtin.firstCells,sizeOf,typeInfo,hq,hn,storeCells,hl]
variable {bs:Array Bool}
theorem F31 {u:TypeId}{e:AX->Option AV}{zz:Nat}
  (ht:P.underlying t=some (.slice el))(hz:Y8 P el=some zz)(hs:E8 G w ob m)(hx:cx x=some ax)(hy:cx y=some ay)(he:O0 G w ob ρ e)(hv:eval (.copy zz ax ay) e m d=some (p,r))(hp:p):
  E6 P G w ob m (builtin .copy #[t,u] ty bs #[ρ x,ρ y]) r:=by
 have hbi:(builtin .copy #[t,u] ty bs #[ρ x,ρ y]).run P w=((Builtin.copy_ #[t,u] ty #[ρ x,ρ y]).run P w).andThen λv w'=> .ok (.value v) w':=by simp[builtin]
 simp only[eval]at hv;split at hv
 case h_2=>cases hv
 rename_i id off n tot b hax hay;split at hv
 case h_2=>cases hv
 rename_i z s p' q hm hsr;split at hv
 case isFalse=>cases hv
 rename_i hc;obtain⟨rfl,hoff⟩:=hc;cases hv;obtain⟨hp',rfl⟩:=hp;obtain⟨news,hS⟩:=B0g hs hsr hp' (he y ay _ hy hay);have hrx:=he x ax _ hx hax
 have hsz:(P.info? el).map (·.size)=some z:=hz;generalize ρ x=vx at hrx hbi⊢;generalize ρ y=vy at hS hbi⊢;cases hrx with
 |sl i hi hle hss hvv=>
  obtain⟨hk,hz1,hl,hcap,hrow⟩:=hs.own id _ i hm hi;obtain⟨h1,h2,h3⟩:=hvv (by rw[hl]);obtain⟨ax',cx',rfl⟩:=hss;have hob:upd ob id (some i)=ob:=by
   funext k;by_cases hkk:k=id
   ·subst hkk;simp[hi]
   ·rw[J0 hkk]
  by_cases hmin:min q.n n=0
  ·
   have hrun:(Builtin.copy_ #[t,u] ty #[.slice ax' n cx',vy]).run P w= .ok (goInt 0) w:=by
    rcases hS.val with⟨h0,rfl⟩ |⟨a,c,rfl,_⟩
    ·exact C2d w t u ty el ax' none n cx' 0 0 z ht hsz (Nat.zero_min n)
    ·exact C2d w t u ty el ax' (some a) n cx' q.n c z ht hsz hmin
   have hsame:(⟨s.n,λi=>if off<=i/\i<off+min q.n n then q.g (i-off)else s.g i⟩:Sq)=s:=by cases s;simp only[Sq.mk.injEq,qo];funext k;rw[zb o_]
   rw[hsame];refine⟨G,w,ob,goInt 0, .inl (by rw[hbi,hrun];rfl),?_,λav hav=> ?_,D4.refl ob,Fr.refl G w ob⟩
   ·show E8 G w ob (upd m id (some (.arr z s)));rw[A4b hm];exact hs
   ·cases hav;rw[hmin];exact .sc rfl
  ·rcases hrow with⟨g1,g2,g3⟩ |⟨bk,arr,T,g1,g2,g3,g4⟩
   ·omega
   ·obtain⟨o,c,hvx,hlc,ho,_⟩:=h3 bk g1;cases hvx;have ho':=ho o_;rw[hz1]at ho';subst ho';rcases hS.val with⟨h0,_⟩ |⟨a,c2,rfl,hcell⟩
    ·omega
    ·have hlen:=hS.len
     have hmn:min q.n n<=n:=Nat.min_le_right _ _
     have hmq:min q.n n<=q.n:=Nat.min_le_left _ _
     have hmz:min q.n n*z<=q.n*z:=zw _ hmq
     have hcs:(news.take (min q.n n*z)).length=Nat.min q.n n*z:=by grind
     have hsize:arr.size=i.cap*z:=by rw[g3,hz1]
     have hfit:off*z+(news.take (min q.n n*z)).length<=arr.size:=by rw[hcs,hsize,<-qa];exact zw _ (by show off+min q.n n<=i.cap;omega)
     have hrun:=D7m (P:=P) w t u ty el bk (off*z) n cx' a q.n c2 z arr T (news.take (min q.n n*z)) ht hsz g2 hcs (λj v hj=>hcell j v (by grind)) hfit (λv hv=>hS.one v (ym hv))
     have hrun':(Builtin.copy_ #[t,u] ty #[.slice (some ⟨bk,off*z,none⟩) n cx', .slice (some a) q.n c2]).run P w= .ok (goInt ((min q.n n:Nat):Int)) (w.setRow bk (stored arr (off*z) (news.take (min q.n n*z)))):=by rw[hrun];rfl
     have hnG: ¬G bk:=hs.sep id _ i bk hm rfl hi (.inl g1)
     have hother: ∀k,k≠bk->(w.setRow bk (stored arr (off*z) (news.take (min q.n n*z)))).heap[k]? =w.heap[k]? :=λk hk'=>setRow_other w bk k _ hk'
     have hGw: ∀k,G k->(w.setRow bk (stored arr (off*z) (news.take (min q.n n*z)))).heap[k]? =w.heap[k]? :=λk hG=>hother k (λe=>hnG (e▸hG))
     have hlast:off+min q.n n<=s.n:=o_
     obtain⟨s1,s2,s3⟩:=hs.update (w':=w.setRow bk (stored arr (off*z) (news.take (min q.n n*z)))) id (.arr z ⟨s.n,λi=>if off<=i/\i<off+min q.n n then q.g (i-off)else s.g i⟩) i p_
      (λk hk' hj=>hother k λe=>hj i hi (by rw[g1,e])) (λj hj=> .inl (by rw[hi]at hj;injection hj)) (λk hk'=> .inl ⟨i,hi,hk'⟩)
      (λj hj k hjk hG=>hGw k hG)
      (by
        rw[hob];refine⟨hk,hz1,hl,hcap, .inr ⟨bk,_,T,g1,A0y g2,by rw[A4q _ _ _ hfit];exact g3,?_⟩⟩;rw[hz1]at g4⊢;refine⟨λk hk'=> ?_,λk j av hk' hj=> ?_⟩
        ·show(if _ then _ else _:List AV).length=z;split
         ·exact hS.glen _ o_
         ·exact g4.1 k hk'
        ·rw[A5m _ _ _ hfit,hcs];change(if off<=k/\k<off+min q.n n then q.g (k-off)else s.g k)[j]? =some av at hj;by_cases hin:off<=k/\k<off+min q.n n
         ·rw[zc hin]at hj;have hjz:j<z:=by
           have hg:=hS.glen (k-off) o_
           grind
          obtain⟨a1,v,a2,a3⟩:=hS.rel (k-off) j av o_ hj;refine⟨a1,v,?_,a3.ext (λ_ h=>h) hGw (D4.refl ob)⟩;have e1:k*z=off*z+(k-off)*z:=by rw[<-qa];congr 1;omega
          have e2:(k-off)*z+j<min q.n n*z:=A2y o_ hjz;rw[zc (show off*z<=k*z+j/\k*z+j<off*z+Nat.min q.n n*z from⟨o_,by grind⟩)];have e3:k*z+j-off*z=(k-off)*z+j:=o_
          grind
         ·rw[zb hin]at hj;have hjz:j<z:=by
           have hg:=g4.1 k hk'
           grind
          obtain⟨a1,v,a2,a3⟩:=g4.2 k j av hk' hj;refine⟨a1,v,?_,a3.ext (λ_ h=>h) hGw (D4.refl ob)⟩;have hno: ¬(off*z<=k*z+j/\k*z+j<off*z+Nat.min q.n n*z):=λ⟨h5,h6⟩=>by
           rcases qq k off with h |h
           ·have:=A2y (k:=k) (n:=off) h hjz;omega
           ·have h7:off+min q.n n<=k:=o_
            have h8:(off+min q.n n)*z<=k*z:=zw _ h7
            grind
          rw[zb hno];exact a2)
      (λ_ k hk'=>by grind)
      (λo0 h0=>by rw[hm]at h0;injection h0 with h0;subst h0;rfl)
     rw[hob]at s1 s2 s3;refine⟨G,_,ob,goInt ((min q.n n:Nat):Int), .inl (by rw[hbi,hrun'];rfl),s1,λav hav=> ?_,s2,Fr.of_heap p_ (λk hk' hc'=> ?_) s3 rfl rfl rfl⟩
     ·cases hav;exact .sc rfl
     ·rcases hc' with hc' |hc'
      ·exact hGw k hc'
      ·exact hother k λe=>hc' ⟨id,i,hi, .inl (by rw[g1,e])⟩
theorem F67 {i:TypeInfo}{zv:Value}{e:AX->Option AV}
  (ht:P.underlying t=some (.slice el))(hi:P.info? el=some i)(hz:i.zero=some zv)(hzs:zv.cells.size=i.size)(hone:zv.cells.all Value.oneCell'=true)
  (hs:E8 G w ob m)(hx:cx x=some ax)(he:O0 G w ob ρ e)(hv:eval (.clr i.size zv.cells.toList ax) e m d=some (p,r))(hp:p):
  E6 P G w ob m (builtin .clear #[t] ty bs #[ρ x]) r:=by
 have hbi:(builtin .clear #[t] ty bs #[ρ x]).run P w=((Builtin.clear_ #[t] ty #[ρ x]).run P w).andThen λv w'=> .ok (.value v) w':=by simp[builtin]
 simp only[eval]at hv;split at hv
 case h_2=>cases hv
 rename_i id off n tot hax;split at hv
 case h_2=>cases hv
 rename_i z s hm;split at hv
 case isFalse=>cases hv
 rename_i hc;obtain⟨rfl,hzl⟩:=hc;cases hv;subst hp;have hrx:=he x ax _ hx hax;generalize ρ x=vx at hrx hbi⊢;have hzv: ∀w:World,(zeroValue el).run P w= .ok zv w:=λw=>by simp[zeroValue,typeInfo,hi,hz]
 cases hrx with
 |sl j hj hle hss hvv=>
  obtain⟨hk,hz1,hl,hcap,hrow⟩:=hs.own id _ j hm hj;obtain⟨h1,h2,h3⟩:=hvv (by rw[hl]);obtain⟨ax',cx',rfl⟩:=hss;have hob:upd ob id (some j)=ob:=by
   funext k;by_cases hkk:k=id
   ·subst hkk;simp[hj]
   ·rw[J0 hkk]
  by_cases hn0:n=0
  ·subst hn0;have hrun:(Builtin.clear_ #[t] ty #[.slice ax' 0 cx']).run P w= .ok (.tuple #[]) w:=by
    cases ax' <;> simp[Builtin.clear_,run_underlying ht]
   have hsame:(⟨s.n,λi=>if off<=i/\i<off+0 then zv.cells.toList.map .sc else s.g i⟩:Sq)=s:=by cases s;simp only[Sq.mk.injEq,qo];funext k;rw[zb o_]
   rw[hsame];refine⟨G,w,ob, .tuple #[], .inl (by rw[hbi,hrun];rfl),?_,λav hav=> ?_,D4.refl ob,Fr.refl G w ob⟩
   ·show E8 G w ob (upd m id (some (.arr i.size s)));rw[A4b hm];exact hs
   ·cases hav;exact .tup #[] rfl (λj av hj=>by simp at hj)
  ·rcases hrow with⟨g1,g2,g3⟩ |⟨bk,arr,T,g1,g2,g3,g4⟩
   ·omega
   ·obtain⟨o,c,hvx,hlc,ho,_⟩:=h3 bk g1;cases hvx;have ho':=ho o_;rw[hz1]at ho';subst ho';obtain⟨news,hnews⟩: ∃news,news=(Builtin.zeroCells zv.cells n).toList:=⟨_,rfl⟩;have hlen:news.length=n*i.size:=by rw[hnews,Array.length_toList,Builtin.zeroCells,Array.size_map,Array.size_range,hzs]
    have hget: ∀k j,k<n->j<i.size->news[k*i.size+j]? =zv.cells[j]? :=λk j hk hj=>by
     have h5:=A2y hk hj
     have h6:j<zv.cells.size:=o_
     rw[hnews,Array.getElem?_toList,Builtin.zeroCells,yR,xe,zc (by rw[hzs];exact h5),Option.map_some,hzs,Nat.mul_comm k,Nat.mul_add_mod,yp hj,getElem!_pos zv.cells j h6,qh h6]
    have hall: ∀v∈news,v.oneCell'=true:=λv hv=>by
     obtain⟨q,hq,rfl⟩:=qG hv;have hpos:0<i.size:=by grind
     have hq1:q / i.size<n:=(yZ hpos).2 (by rw[<-hlen];exact hq)
     have hq2:q%i.size<i.size:=yF _ hpos
     have h5:=hget _ _ hq1 hq2;rw[Nat.div_add_mod' q i.size,zg hq,qh o_]at h5
     grind
    have hsize:arr.size=j.cap*i.size:=by rw[g3,hz1]
    have hfit:off*i.size+news.length<=arr.size:=by rw[hlen,hsize,<-qa];exact zw _ o_
    have hst:=run_storeCells_at P bk (off*i.size) T news 0 arr w g2 (by simpa using hfit) hall
    have hrun:(Builtin.clear_ #[t] ty #[.slice (some ⟨bk,off*i.size,none⟩) n cx']).run P w= .ok (.tuple #[]) (w.setRow bk (stored arr (off*i.size) news)):=by obtain⟨n',rfl⟩: ∃n',n=n'+1:=⟨n-1,o_⟩;rw[Nat.add_zero]at hst;unfold stored;simp[Builtin.clear_,run_underlying ht,hzv,<-hnews,hst]
    have hnG: ¬G bk:=hs.sep id _ j bk hm rfl hj (.inl g1)
    have hother: ∀k,k≠bk->(w.setRow bk (stored arr (off*i.size) news)).heap[k]? =w.heap[k]? :=λk hk'=>setRow_other w bk k _ hk'
    have hGw: ∀k,G k->(w.setRow bk (stored arr (off*i.size) news)).heap[k]? =w.heap[k]? :=λk hG=>hother k (λe=>hnG (e▸hG));obtain⟨s1,s2,s3⟩:=hs.update (w':=w.setRow bk (stored arr (off*i.size) news)) id (.arr i.size ⟨s.n,λk=>if off<=k/\k<off+n then zv.cells.toList.map .sc else s.g k⟩) j p_
     (λk hk' hj'=>hother k λe=>hj' j hj (by rw[g1,e])) (λj' hj'=> .inl (by rw[hj]at hj';injection hj')) (λk hk'=> .inl ⟨j,hj,hk'⟩)
     (λj hj k hjk hG=>hGw k hG)
     (by
       rw[hob];refine⟨hk,hz1,hl,hcap, .inr ⟨bk,_,T,g1,A0y g2,by rw[A4q _ _ _ hfit];exact g3,?_⟩⟩;rw[hz1]at g4⊢;refine⟨λk hk'=> ?_,λk q av hk' hq=> ?_⟩
       ·show(if _ then _ else _:List AV).length=i.size;split
        ·grind
        ·exact g4.1 k hk'
       ·rw[A5m _ _ _ hfit,hlen];change(if off<=k/\k<off+n then zv.cells.toList.map AV.sc else s.g k)[q]? =some av at hq;by_cases hin:off<=k/\k<off+n
        ·rw[zc hin,qA,zh]at hq;obtain⟨u,hu,rfl⟩:=hq;have hu':zv.cells[q]? =some u:=by simpa using hu
         have hqz:q<i.size:=by grind
         refine⟨rfl,u,?_, .sc (yh.1 hone u (yi hu'))⟩;have e1:k*i.size=off*i.size+(k-off)*i.size:=by rw[<-qa];congr 1;omega
         have e2:(k-off)*i.size+q<n*i.size:=A2y o_ hqz;rw[zc ⟨o_,o_⟩];have e3:k*i.size+q-off*i.size=(k-off)*i.size+q:=o_
         rw[e3,hget _ _ o_ hqz];exact hu'
        ·rw[zb hin]at hq;have hqz:q<i.size:=by
          have hg:=g4.1 k hk'
          grind
         obtain⟨a1,v,a2,a3⟩:=g4.2 k q av hk' hq;refine⟨a1,v,?_,a3.ext (λ_ h=>h) hGw (D4.refl ob)⟩;have hno: ¬(off*i.size<=k*i.size+q/\k*i.size+q<off*i.size+n*i.size):=λ⟨h5,h6⟩=>by
          rcases qq k off with h |h
          ·have:=A2y (k:=k) (n:=off) h hqz;omega
          ·have h7:off+n<=k:=o_
           have h8:(off+n)*i.size<=k*i.size:=zw _ h7
           grind
         rw[zb hno];exact a2)
     (λ_ k hk'=>by grind)
     (λo0 h0=>by rw[hm]at h0;injection h0 with h0;subst h0;rfl)
    rw[hob]at s1 s2 s3;refine⟨G,_,ob, .tuple #[], .inl (by rw[hbi,hrun];rfl),s1,λav hav=> ?_,s2,Fr.of_heap p_ (λk hk' hc'=> ?_) s3 rfl rfl rfl⟩
    ·cases hav;exact .tup #[] rfl (λj av hj=>by simp at hj)
    ·rcases hc' with hc' |hc'
     ·exact hGw k hc'
     ·exact hother k λe=>hc' ⟨id,j,hj, .inl (by rw[g1,e])⟩
theorem F30 {e:AX->Option AV}
  (ht:P.underlying t=some (.slice el))(hs:E8 G w ob m)(hx:cx x=some ax)(he:O0 G w ob ρ e)(hv:eval (.cap0 ax) e m d=some (p,r)):
  E6 P G w ob m (builtin .cap #[t] ty bs #[ρ x]) r:=by
 simp only[eval]at hv;split at hv
 case h_2=>cases hv
 rename_i hax;cases hv;rw[(he x ax _ hx hax).sc_eq];refine E6.quiet hs (v:=goInt 0) ?_ (.sc rfl);simp[builtin,Builtin.cap_,run_underlying ht]
theorem F3w {e:AX->Option AV}
  (ht:P.underlying t=some (.array len el))(hz:Y8 P el=some 1)(hagg:R9 P el=some false)
  (hs:E8 G w ob m)(hx:cx x=some ax)(hy:cx y=some ay)(he:O0 G w ob ρ e)(hv:eval (.aidx len ax ay) e m d=some (p,r))(hp:p):
  E6 P G w ob m (do pure (.value (<-Instr.index t (ρ x) (ρ y)))) r:=by
 simp only[eval]at hv;split at hv
 case h_2=>cases hv
 rename_i cs k j hax hay;cases hv;obtain⟨h0,h1,h2⟩:=hp;rw[(he y ay _ hy hay).sc_eq];have hr:=he x ax _ hx hax;generalize ρ x=v at hr;cases hr with
 |agg vs hn ho hrr=>
  have hj:j.toNat<cs.length:=o_
  have hlt:j.toNat<vs.size:=o_
  have hc:cs[j.toNat]? =some (cs.getD j.toNat .hole):=by grind
  refine E6.quiet hs (v:=vs.getD j.toNat undef) (A3n ?_) (hrr _ _ hc);simp[Instr.index,B53,run_underlying ht,h0,h1,T9 hz,part,Z5 hagg,qh hlt]
theorem E9b(z:Array Value)(n q:Nat)(hq:q<n*z.size)(hz:0<z.size):(Builtin.zeroCells z n)[q]? =z[q%z.size]? :=by
 have hlt:=yF q hz;simp only[Builtin.zeroCells,yR,xe,hq,zL,Option.map_some]
 grind
variable {bytes:Nat}
theorem F3x {u:TypeId}{k:IntKind}{i:TypeInfo}{z:Value}{e:AX->Option AV}
  (ht:P.underlying t=some (.slice el))(hu:P.underlying u=some (.int k))(hi:P.info? el=some i)(hz:i.zero=some z)(hsize:i.size=esz)(hby:i.bytes=bytes)(hzs:z.cells.size=esz)(hone:z.cells.all Value.oneCell'=true)(hpos:0<i.size)
  (hs:E8 G w ob m)(hx:cx x=some ax)(hy:cx y=some ay)(he:O0 G w ob ρ e)(hv:eval (.appz esz bytes z.cells.toList ax ay) e m d=some (p,r))(hp:p):
  E6 P G w ob m (builtin .append #[t,u] ty bs #[ρ x,ρ y]) r:=by
 subst hsize;subst hby
 simp only[eval]at hv;split at hv
 case h_2=>cases hv
 rename_i k1 n hm hax hay;cases hv;obtain⟨h0,hb,h63⟩:=hp;rw[(he x ax _ hx hax).sc_eq,(he y ay _ hy hay).sc_eq];obtain⟨N,rfl⟩: ∃N:Nat,n=N:=⟨n.toNat,o_⟩;have hN:0<N:=o_
 have hbN:N*i.bytes<=140737488355328:=by rw[<-Int.natCast_mul]at hb;omega
 have hw:IntKind.i64.wrap (N:Int)=N:=by rw[IntKind.wrap_i64];omega
 have hn:N≠0:=o_
 have h63': ¬(9223372036854775807<(N:Int)):=o_
 have h48: ¬(281474976710656<Builtin.nextslicecap N 0*i.bytes):=by rw[nextslicecap_zero hN];omega
 have h48b: ¬(281474976710656<(N:Int)*(i.bytes:Int)):=o_
 have hneg: ¬((N:Int)<0):=o_
 have hrun:(Builtin.append_ #[t,u] ty #[.slice none 0 0, .int k1 N]).run P w=
   .ok (.slice (some ⟨w.heap.size,0,none⟩) N (grownCap w N 0 el)) (w.drew.alloc (.cells (Builtin.zeroCells z.cells N++Builtin.zeroCells z.cells (grownCap w N 0 el-N)) el)):=by
  have hq2: ¬(N=0\/i.size=0):=o_
  have hN0: ¬(N<=0):=o_
  simp[Builtin.append_,run_underlying ht,run_underlying hu,sizeOf,typeInfo,zeroValue,hi,hz,asInt,B53,hw,hneg,hn,hN0,h63',h48,h48b,hq2,Question.forced,run_firstCells_none,newRow,grownCap];intro hq;rcases Nat.mul_eq_zero.1 hq with h |h <;> omega
 have hcap:N<=grownCap w N 0 el:=by simpa using grownCap_ge w N 0 el
 have hsz:(Builtin.zeroCells z.cells N++Builtin.zeroCells z.cells (grownCap w N 0 el-N)).size=grownCap w N 0 el*i.size:=by simp only[yU,size_zeroCells,hzs,<-qa];congr 1;omega
 have hno:ob (nid d)=none:=(hs.dom _).1 hm
 have hext:D4 ob (upd ob (nid d) (some ⟨some w.heap.size,i.size,N,grownCap w N 0 el, .cells⟩)):=λq j hj=>⟨j,by rw[J0 (λe=>by subst e;rw[hno]at hj;cases hj)];exact hj, .inl rfl⟩
 have hbi:(builtin .append #[t,u] ty bs #[.slice none 0 0, .int k1 N]).run P w= .ok (.value (.slice (some ⟨w.heap.size,0,none⟩) N (grownCap w N 0 el))) (w.drew.alloc (.cells (Builtin.zeroCells z.cells N++Builtin.zeroCells z.cells (grownCap w N 0 el-N)) el)):=by simp only[builtin,Sem.run_bind,hrun,Result.andThen_ok,Sem.run_pure]
 simp only[Int.toNat_natCast];refine E6.new (w0:=w.drew) (i:=⟨some w.heap.size,i.size,N,grownCap w N 0 el, .cells⟩) hs hm rfl rfl rfl rfl hbi (λb hb=>by simpa using hb.symm) ?_ ?_
 ·refine⟨rfl,rfl,rfl,hcap, .inr ⟨w.heap.size,_,el,rfl,heap_alloc_new w.drew _,hsz,λq hq=>by simp[hzs],λq j av hq hj=> ?_⟩⟩;rw[qA,zh]at hj;obtain⟨v,hv,rfl⟩:=hj;have hv':z.cells[j]? =some v:=by simpa using hv
  have hjl:j<i.size:=by grind
  refine⟨rfl,v,?_, .sc (yh.1 hone v (yi hv'))⟩;have hq':q<N:=hq;rw[ye (by rw[size_zeroCells,hzs];exact A2y hq' hjl),E9b _ _ _ (by rw[hzs];exact A2y hq' hjl) o_,hzs,Nat.mul_comm,Nat.mul_add_mod,yp hjl];exact hv'
 ·refine .sl ⟨some w.heap.size,i.size,N,grownCap w N 0 el, .cells⟩ p_ (ze _) ⟨_,_,rfl⟩ λ_=>⟨p_,λh=>by simp at h,λb hb=> ?_⟩
  grind
end
variable {P:Program} {G:Nat->Prop} {w:World} {ob:Place} {m:Nat->Option A7}
def Sq.over(s:Sq)(n:Nat)(t:Sq):Sq:=⟨s.n,λi=>if n<=i/\i<n+t.n then t.g (i-n)else s.g i⟩
variable {p:Prop} {t:TypeId} {ρ:Operand->Value} {n:Nat} {x:Operand} {ax:AX} {el:TypeId} {s:Sq} {y:Operand} {ay:AX} {esz:Nat} {ty:TypeId} {tot bytes:Nat}
theorem F32 {i:TypeInfo}{z:Value}{cs:Array Bool}{e:AX->Option AV}{id:Nat}{q:Sq}{b:AV}
  (ht:P.underlying t=some (.slice el))(hi:P.info? el=some i)(hz:i.zero=some z)(hsize:i.size=esz)(hby:i.bytes=bytes)(hzs:z.cells.size=esz)
  (hs:E8 G w ob m)(hx:cx x=some ax)(hy:cx y=some ay)(he:O0 G w ob ρ e)(hax:e ax=some (.sl id 0 n tot))(hay:e ay=some b)
  (hm:m id=some (.arr esz s))(hsr:Y2 m esz b=some (p,q))(hp:p)(htot:tot=s.n)(hle:n+q.n<=s.n)(hb1:(n+q.n)*bytes<=140737488355328)(hb2:n+q.n<=maxLen):
  E6 P G w ob m (builtin .append #[t,t] ty cs #[ρ x,ρ y]) ⟨some (.sl id 0 (n+q.n) tot),[(id, .arr esz (s.over n q))]⟩:=by
 have hbi:(builtin .append #[t,t] ty cs #[ρ x,ρ y]).run P w=((Builtin.append_ #[t,t] ty #[ρ x,ρ y]).run P w).andThen λv w'=> .ok (.value v) w':=by simp[builtin]
 obtain⟨news,hS⟩:=B0g hs hsr hp (he y ay _ hy hay);have hr:=he x ax _ hx hax;cases hi':ob id with
 |none=>rw[(hs.dom id).2 hi']at hm;cases hm
 |some inf=>
  obtain⟨hmap,hz1,hl1,hc1,hrow⟩:=hs.own id _ inf hm hi';generalize hxv:ρ x=xv at hr hbi⊢;cases hr with
  |sl i2 hh hle2 hss hvv=>
   rw[hi']at hh;injection hh with hh;subst hh;obtain⟨hv1,hvn,hvs⟩:=hvv (by rw[hl1,htot]);have hup:upd ob id (some inf)=ob:=A4b hi'
   have hxcase:((xv= .slice none 0 0\/ ∃a,xv= .slice (some a) 0 0)/\s.n=0/\inf.blk=none/\inf.cap=0)\/ ∃b arr T,inf.blk=some b/\xv= .slice (some ⟨b,0,none⟩) n inf.cap/\w.heap[b]? =some (.cells arr T (0,0))/\arr.size=inf.cap*esz/\B0l G w ob arr esz s:=by grind
   have hA:=A79 (ty:=ty) ht hi hz hsize hzs hS (x:=xv) (n:=n) hb2 (by rw[hby];exact hb1) (by grind)
   have same:q.n=0->(Builtin.append_ #[t,t] ty #[xv,ρ y]).run P w= .ok xv w->E6 P G w ob m (builtin .append #[t,t] ty cs #[xv,ρ y]) ⟨some (.sl id 0 (n+q.n) tot),[(id, .arr esz (s.over n q))]⟩:=λh0 hrun=>by
    rw[hrun]at hbi;have hsame:s.over n q=s:=by cases s;simp only[Sq.over,Sq.mk.injEq,qo];funext k;rw[zb o_]
    rw[hsame];refine⟨G,w,ob,xv, .inl hbi,?_,λav hav=> ?_,D4.refl ob,Fr.refl G w ob⟩
    ·show E8 G w ob (upd m id (some (.arr esz s)));rw[A4b hm];exact hs
    ·cases hav;rw[h0,Nat.add_zero];exact .sl inf hi' hle2 hss hvv
   rcases hA with⟨h0,hrun⟩ |⟨b,cap,arr,T,hqne,hxe,hg,hcap,hrun⟩ |⟨nc,row,hq0,hnc,hrow',hrun,hold,hnew⟩
   ·exact same h0 hrun
   ·
    rcases hxcase with⟨hn0',hn0,hb0,hc0⟩ |⟨b',arr',T',h1,h2,h3,h4,h5⟩
    ·omega
    rw[h2]at hxe;simp only[Value.slice.injEq,za,Addr.mk.injEq,qV,qo]at hxe;obtain⟨rfl,rfl⟩:=hxe;rw[h3]at hg;simp only[za,Obj.cells.injEq,qV]at hg;obtain⟨rfl,rfl⟩:=hg;rw[hrun]at hbi;have hfit:n*esz+news.length<=arr'.size:=by rw[hS.len,h4,<-qa];exact zw _ hcap
    have hnG: ¬G b':=hs.sep id _ inf b' hm rfl hi' (.inl h1)
    have hhold: ∀q',q'≠b'->(w.setRow b' (stored arr' (n*esz) news)).heap[q']? =w.heap[q']? :=λq' hk=>setRow_other w b' q' _ hk
    have hGw: ∀q',G q'->(w.setRow b' (stored arr' (n*esz) news)).heap[q']? =w.heap[q']? :=λq' hG=>hhold q' (λe=>hnG (e▸hG));obtain⟨s1,s2,s3⟩:=hs.update (w':=w.setRow b' (stored arr' (n*esz) news)) id (.arr esz (s.over n q)) inf p_
     (λq' _ hne=>hhold q' (λe=>hne inf hi' (by rw[h1,e]))) (λj hj=>by grind)
     (λq' hq=> .inl ⟨inf,hi',hq⟩) (λj hj q' hq hG=>hGw q' hG)
     (by
       rw[hup];refine⟨hmap,hz1,hl1,hc1, .inr ⟨b',_,T',h1,A0y h3,by rw[A4q _ _ _ hfit,h4,hz1],?_⟩⟩;rw[hz1];refine⟨λk hk=> ?_,λk j av hk hj=> ?_⟩
       ·show(if _ then _ else _:List AV).length=esz;split
        ·exact hS.glen _ o_
        ·exact h5.1 k hk
       ·rw[A5m _ _ _ hfit,hS.len];change(if n<=k/\k<n+q.n then q.g (k-n)else s.g k)[j]? =some av at hj;by_cases hin:n<=k/\k<n+q.n
        ·rw[zc hin]at hj;obtain⟨c0,c1,u,c2,c3⟩:=hS.relD (k:=k-n) o_ hj;have:=A2y (n:=q.n) (k:=k-n) o_ c0
         have hge:n*esz<=k*esz:=zw _ o_
         have hsub:(k-n)*esz=k*esz-n*esz:=xl _ _ _;rw[zc ⟨o_,o_⟩];refine⟨c1,u,?_,c3.ext (λ_ h=>h) hGw (D4.refl ob)⟩
         grind
        ·rw[zb hin]at hj;obtain⟨c1,u,c2,c3⟩:=h5.2 k j av hk hj;have hjl:j<esz:=by
          rw[<-h5.1 k hk];grind
         have hno: ¬(n*esz<=k*esz+j/\k*esz+j<n*esz+q.n*esz):=λ⟨h7,h8⟩=>by
          rcases qq k n with h |h
          ·have:=A2y (k:=k) (n:=n) h hjl;omega
          ·have h9:n+q.n<=k:=o_
           have h10:(n+q.n)*esz<=k*esz:=zw _ h9;rw[qa]at h10;omega
         rw[zb hno];exact⟨c1,u,c2,c3.ext (λ_ h=>h) hGw (D4.refl ob)⟩)
     (λ_ q' hq=>by grind) (λo0 h0=>by rw[hm]at h0;cases h0;rfl)
    rw[hup]at s1 s2 s3;refine⟨G,w.setRow b' (stored arr' (n*esz) news),ob, .slice (some ⟨b',0,none⟩) (n+q.n) inf.cap, .inl hbi,s1,(λav hav=> ?_),s2,Fr.of_heap p_ (λq' hq hc=> ?_) s3 rfl rfl rfl⟩
    ·injection hav with hav;subst hav;refine .sl inf hi' hle2 ⟨_,_,rfl⟩ λ_=>⟨o_,λh=>(by rw[h1]at h;cases h),λq' hq=> ?_⟩
     grind
    ·refine hhold q' λe=> ?_;rcases hc with hc |hc
     ·exact hnG (e▸hc)
     ·exact hc ⟨id,inf,hi', .inl (by rw[h1,e])⟩
   ·
    exfalso;rcases hxcase with⟨hn0',hn0,hb0,hc0⟩ |⟨b',arr',T',h1,h2,h3,h4,h5⟩
    ·omega
    rcases hS.val with⟨h0,_⟩ |⟨a,c,hye,hcell⟩
    ·omega
    have hlen:news.length=q.n*i.size:=by rw[hS.len,hsize]
    have hcl: ∀j,j<news.length->w.cell? ⟨b',0+n*i.size+j,none⟩=arr'[n*esz+j]?/\w.frozen? ⟨b',0+n*i.size+j,none⟩=false:=λj hj=>by rw[qk,hsize];exact⟨by simp[World.cell?,h3],by simp[World.frozen?,h3]⟩
    have hsz:n*esz+news.length<=arr'.size:=by rw[hS.len,h4,<-qa];exact zw _ o_
    have hrun2:=run_append_room_cells (P:=P) w t ty el i ht hi b' 0 n inf.cap a q.n c news hlen hcell hS.one o_ (λj hj=>by grind) (λj hj=>(hcl j hj).2)
    grind
theorem E4a(ht:P.underlying t=some (.slice el))(hz:Y8 P el=some esz){lo hi mx:Option Value}{l h q:Option Int}(hl:VI lo l)(hh:VI hi h)(hq:VI mx q)
  {a:Option Addr}{len cap:Nat}(hlc:len<=cap)(h0:0<=l.getD 0)(h1:l.getD 0<=h.getD len)(h2:h.getD len<=cap)(h3:h.getD len<=q.getD cap)(h4:q.getD cap<=cap)(h5:q.isSome->h.isSome):
  (Instr.sliceAt t (.slice a len cap) lo hi mx).run P w= .ok (sliced a (l.getD 0).toNat (h.getD len).toNat (q.getD cap).toNat esz) w:=by
 have he:P.elem t=el:=by simp[Program.elem,ht]
 have ht':P.underlying t=some (.slice (P.elem t)):=by rw[he];exact ht
 have hz':(sizeOf (P.elem t)).run P w= .ok esz w:=by rw[he];exact T9 hz
 rw[run_sliceAt_slice w t _ _ _ _ ht'];rcases hl with⟨rfl,rfl⟩ |⟨kl,l,rfl,rfl⟩ <;> rcases hh with⟨rfl,rfl⟩ |⟨kh,h,rfl,rfl⟩ <;> rcases hq with⟨rfl,rfl⟩ |⟨kq,q,rfl,rfl⟩ <;>
  simp only[Option.getD_none,Option.getD_some,Option.isSome_some,Option.isSome_none,xg,zf]at h0 h1 h2 h3 h4 h5
 ·rw[run_slice_all w t a len cap ht',hz'];simp
 ·rw[run_slice_h w t a len cap ht' kh h o_ o_,hz'];simp
 ·rw[run_slice_hm w t a len cap ht' kh kq h q o_ o_ o_,hz'];simp
 ·rw[run_slice_l w t a len cap ht' kl l o_ o_,hz'];simp
 ·rw[run_slice_lh w t a len cap ht' kl kh l h o_ o_ o_,hz'];simp
 ·rw[run_slice_lhm w t a len cap ht' kl kh kq l h q o_ o_ o_ o_,hz'];simp
variable {lo hi:Option Operand} {al ah:Option AX}
theorem F7c {e:AX->Option AV}{mx:Option Operand}{am:Option AX}{id:Nat}{l:Option Int}{h:Int}
  (ht:P.underlying t=some (.slice el))(hz:Y8 P el=some esz)(hl:cxo lo=some al)(hh:cxo hi=some ah)(hmx:cxo mx=some am)
  (hs:E8 G w ob m)(hx:cx x=some ax)(he:O0 G w ob ρ e)(hax:e ax=some (.sl id 0 n tot))(hal:A0k e al=some l)(hah:A0k e ah=some (some h))(ham:A0k e am=some none)
  (hm:m id=some (.arr esz s))(hp:tot=s.n/\0<=l.getD 0/\l.getD 0<=h/\h<=tot):
  E6 P G w ob m (do pure (.value (<-Instr.sliceAt t (ρ x) (lo.map ρ) (hi.map ρ) (mx.map ρ)))) ⟨some (.sl id (l.getD 0).toNat (h-l.getD 0).toNat tot),[]⟩:=by
 have hr:=he x ax _ hx hax
 have hL:=A0u he hl hal
 have hH:=A0u he hh hah
 have hM:=A0u he hmx ham;obtain⟨htot,h0,h1,h2⟩:=hp;cases hi':ob id with
 |none=>rw[(hs.dom id).2 hi']at hm;cases hm
 |some i=>
  obtain⟨hmap,hiz,hil,hc1,hrow⟩:=hs.own id _ i hm hi';generalize ρ x=v at hr;cases hr with
  |sl i' h' hle hss hvv=>
   rw[hi']at h';injection h' with h';subst h';obtain⟨g1,g2,g3⟩:=hvv (by rw[hil,htot]);have e1:(h-l.getD 0).toNat=h.toNat-(l.getD 0).toNat:=o_
   rw[e1];rcases hrow with⟨b1,b2,b3⟩ |⟨b,arr,T,b1,b2,b3,b4⟩
   ·have hnn:n=0:=o_
    subst hnn;have hL0:l.getD 0=0:=o_
    have hH0:h=0:=o_
    have go: ∀a:Option Addr,v= .slice a 0 0->(a=none->v= .slice none 0 0)->E6 P G w ob m (do pure (.value (<-Instr.sliceAt t v (lo.map ρ) (hi.map ρ) (mx.map ρ)))) ⟨some (.sl id (l.getD 0).toNat (h.toNat-(l.getD 0).toNat) tot),[]⟩:=by
     rintro a rfl -;have hrun:=E4a (w:=w) ht hz hL hH hM (a:=a) (ze 0) h0 (by simpa using h1) (by simp;omega) (by simp;omega) p_ p_;refine E6.quiet hs (A3n hrun) ?_;rw[hL0,hH0];simp only[Option.getD_none,Option.getD_some,Int.toNat_natCast,Int.toNat_zero,sliced,yt,zL];refine .sl i hi' o_ ⟨_,_,rfl⟩ λ_=>⟨o_,λ_=> ?_,λb hb'=>by rw[b1]at hb';cases hb'⟩
     grind
    grind
   ·obtain⟨o,c,rfl,hc,ho1,ho2⟩:=g3 b b1;obtain⟨rfl,rfl⟩:=ho2 rfl;have hrun:=E4a (w:=w) ht hz hL hH hM (a:=some ⟨b,0,none⟩) hc h0 (by simpa using h1) (by simp;omega) (by simp;omega) p_ p_;refine E6.quiet hs (A3n hrun) ?_;simp only[Option.getD_none,Option.getD_some,Int.toNat_natCast,sliced,Option.map_some,A2c];refine .sl i hi' o_ ⟨_,_,rfl⟩ λ_=>⟨o_,(λhb'=>by rw[b1]at hb';cases hb'),λb' hb'=> ?_⟩;rw[b1]at hb';injection hb' with hb';subst hb';refine⟨if i.cap=(l.getD 0).toNat then 0 else 0+(l.getD 0).toNat*esz,i.cap-(l.getD 0).toNat,?_,o_,λhpos=> ?_,λh0'=> ?_⟩
    all_goals grind
mutual
def AV.ren(ρ:Nat->Nat):AV->AV
 | .sc v=> .sc v
 | .dsl z n g=> .dsl z n g
 | .dslx z n g=> .dslx z n g
 | .sl id off len tot=> .sl (ρ id) off len tot
 | .ptr id i o tot=> .ptr (ρ id) i o tot
 | .mp id=> .mp (ρ id)
 | .dE cs=> .dE cs
 | .agg cs=> .agg (A9k ρ cs)
 | .tup cs=> .tup (A9k ρ cs)
 | .fn f a b=> .fn f (A9k ρ a) (A9k ρ b)
 | .own z n g=> .own z n g
 | .hole=> .hole
def A9k(ρ:Nat->Nat):List AV->List AV
 | []=> []
 |c::cs=>c.ren ρ::A9k ρ cs
end
mutual
def AV.ids:AV->List Nat
 | .sl id _ _ _=> [id]
 | .ptr id _ _ _=> [id]
 | .mp id=> [id]
 | .agg cs=>F6 cs
 | .tup cs=>F6 cs
 | .fn _ a b=>F6 a++F6 b
 | .sc _=> []
 | .dsl .. => []
 | .dslx .. => []
 | .dE _=> []
 | .own .. => []
 | .hole=> []
def F6:List AV->List Nat
 | []=> []
 |c::cs=>c.ids++F6 cs
end
def A7.ren(ρ:Nat->Nat):A7->A7
 | .box cs=> .box (A9k ρ cs)
 |o=>o
theorem D6t(ρ:Nat->Nat)(o:A7):(o.ren ρ).owned=o.owned:=by cases o <;> rfl
def ofL(O:List (Nat×A7)):Nat->Option A7:=wrm (λ_=>none) O
section
variable {P:Program} {G:Nat->Prop} {w:World} {ob:Place} {m:Nat->Option A7}
theorem getElem?_renL(ρ:Nat->Nat): ∀(cs:List AV) (j:Nat),(A9k ρ cs)[j]? =(cs[j]?).map (AV.ren ρ)
 | [],j=>by simp[A9k]
 |c::cs,0=>by simp[A9k]
 |c::cs,j+1=>by simp[A9k,getElem?_renL ρ cs j]
theorem A1c(ρ:Nat->Nat): ∀(cs:List AV),(A9k ρ cs).length=cs.length
 | []=>rfl
 |c::cs=>by simp[A9k,A1c ρ cs]
theorem C2c(ρ:Nat->Nat)(av:AV):(av.ren ρ).one=av.one:=by cases av <;> simp[AV.ren,AV.one]
theorem P7 {c:AV}: ∀ {cs:List AV} {j:Nat},cs[j]? =some c-> ∀i∈c.ids,i∈F6 cs
 | [],j,h=>by simp at h
 |d::cs,0,h=>by simp only[List.getElem?_cons_zero,za]at h;subst h;intro i hi;simp[F6,hi]
 |d::cs,j+1,h=>by simp only[List.getElem?_cons_succ]at h;intro i hi;simp[F6,P7 h i hi]
variable {v:Value} {av:AV} {ob2:Place}
theorem Rel.ren {ρ:Nat->Nat}(h:Rel G w ob av v)(hρ: ∀i inf,ob i=some inf->ob2 (ρ i)=some inf):Rel G w ob2 (av.ren ρ) v:=by
 induction h with
 |sc h=>exact .sc h
 |hole h=>exact .hole h
 |dslNil=>exact .dslNil
 |dslxNil=>exact .dslxNil
 |dslE a cap=>exact .dslE a cap
 |dslxE a=>exact .dslxE a
 |dsl b off cap c hg hcap hlen hpp hc hr ih=>exact .dsl b off cap c hg hcap hlen hpp hc (λi j av hi h=>(hr i j av hi h).ob_free (hpp i j av hi h))
 |dslx b off c hg hlen hpp hc hr ih=>exact .dslx b off c hg hlen hpp hc (λi j av hi h=>(hr i j av hi h).ob_free (hpp i j av hi h))
 |sl i h hle hs hv=>exact .sl i (hρ _ _ h) hle hs hv
 |ptr a i h hle hv=>exact .ptr a i (hρ _ _ h) hle hv
 |mp b i h hb hm=>exact .mp b i (hρ _ _ h) hb hm
 |dE b off c hg hp hc hr ih=>exact .dE b off c hg hp hc (λj av h=>(hr j av h).ob_free (hp j av h))
 |agg vs hn ho hr ih=>
  refine .agg vs (by rw[hn,A1c]) (λj av hj=> ?_) (λj av hj=> ?_)
  all_goals
   rw[getElem?_renL,zh]at hj;obtain⟨c,hc,rfl⟩:=hj
  ·rw[C2c];exact ho j c hc
  ·exact ih j c hc
 |tup vs hn hr ih=>
  refine .tup vs (by rw[hn,A1c]) (λj av hj=> ?_);rw[getElem?_renL,zh]at hj
  grind
 |fn vs us hn hm hr hq ih1 ih2=>
  refine .fn vs us (by rw[hn,A1c]) (by rw[hm,A1c]) (λj av hj=> ?_) (λj av hj=> ?_)
  all_goals
   rw[getElem?_renL,zh]at hj;obtain⟨c,hc,rfl⟩:=hj
  ·exact ih1 j c hc
  ·exact ih2 j c hc
theorem Rel.unren {ρ:Nat->Nat}{x:AV}(h:Rel G w ob2 x v): ∀av:AV,av.ren ρ=x->(∀i∈av.ids,ob i=ob2 (ρ i))->Rel G w ob av v:=by
 induction h with
 |sc h=>intro av e _;cases av <;> simp[AV.ren]at e;subst e;exact .sc h
 |hole h=>intro av e _;cases av <;> simp[AV.ren]at e;exact .hole h
 |dslNil=>intro av e _;cases av <;> simp[AV.ren]at e;obtain⟨rfl,rfl,rfl⟩:=e;exact .dslNil
 |dslE a cap=>intro av e _;cases av <;> simp[AV.ren]at e;obtain⟨rfl,rfl,rfl⟩:=e;exact .dslE a cap
 |dslxNil=>intro av e _;cases av <;> simp[AV.ren]at e;obtain⟨rfl,rfl,rfl⟩:=e;exact .dslxNil
 |dslxE a=>intro av e _;cases av <;> simp[AV.ren]at e;obtain⟨rfl,rfl,rfl⟩:=e;exact .dslxE a
 |dsl b off cap c hg hcap hlen hpp hc hr ih=>intro av e _;cases av <;> simp[AV.ren]at e;obtain⟨rfl,rfl,rfl⟩:=e;exact .dsl b off cap c hg hcap hlen hpp hc (λi j av hi h=>(hr i j av hi h).ob_free (hpp i j av hi h))
 |dslx b off c hg hlen hpp hc hr ih=>intro av e _;cases av <;> simp[AV.ren]at e;obtain⟨rfl,rfl,rfl⟩:=e;exact .dslx b off c hg hlen hpp hc (λi j av hi h=>(hr i j av hi h).ob_free (hpp i j av hi h))
 |sl i h hle hs hv=>intro av e hi;cases av <;> simp[AV.ren]at e;obtain⟨rfl,rfl,rfl,rfl⟩:=e;exact .sl i (by rw[hi _ (by simp[AV.ids])];exact h) hle hs hv
 |ptr a i h hle hv=>intro av e hi;cases av <;> simp[AV.ren]at e;obtain⟨rfl,rfl,rfl,rfl⟩:=e;exact .ptr a i (by rw[hi _ (by simp[AV.ids])];exact h) hle hv
 |mp b i h hb hm=>intro av e hi;cases av <;> simp[AV.ren]at e;subst e;exact .mp b i (by rw[hi _ (by simp[AV.ids])];exact h) hb hm
 |dE b off c hg hp hc hr ih=>intro av e _;cases av <;> simp[AV.ren]at e;subst e;exact .dE b off c hg hp hc (λj av h=>(hr j av h).ob_free (hp j av h))
 |agg vs hn ho hr ih=>
  intro av e hi;cases av <;> simp[AV.ren]at e;subst e;rename_i cs;refine .agg vs (by rw[hn,A1c]) (λj av hj=> ?_) (λj av hj=> ?_)
  ·have:=ho j (av.ren ρ) (by rw[getElem?_renL,hj];rfl);rwa[C2c]at this
  ·exact ih j (av.ren ρ) (by rw[getElem?_renL,hj];rfl) av rfl λi hi'=>hi i (by simp only[AV.ids];exact P7 hj i hi')
 |tup vs hn hr ih=>intro av e hi;cases av <;> simp[AV.ren]at e;subst e;rename_i cs;refine .tup vs (by rw[hn,A1c]) (λj av hj=> ?_);exact ih j (av.ren ρ) (by rw[getElem?_renL,hj];rfl) av rfl λi hi'=>hi i (by simp only[AV.ids];exact P7 hj i hi')
 |fn vs us hn hm hr hq ih1 ih2=>
  intro av e hi;cases av <;> simp[AV.ren]at e;obtain⟨rfl,rfl,rfl⟩:=e;refine .fn vs us (by rw[hn,A1c]) (by rw[hm,A1c]) (λj av hj=> ?_) (λj av hj=> ?_)
  ·exact ih1 j (av.ren ρ) (by rw[getElem?_renL,hj];rfl) av rfl λi hi'=>hi i (by simp only[AV.ids,zj];exact .inl (P7 hj i hi'))
  ·exact ih2 j (av.ren ρ) (by rw[getElem?_renL,hj];rfl) av rfl λi hi'=>hi i (by simp only[AV.ids,zj];exact .inr (P7 hj i hi'))
theorem A9o.ob_free {ob2:Place}{β:Option Nat}{av:AV}{v:Value}(h:A9o G w ob β av v):A9o G w ob2 β av v:=by
 cases av with
 |own z n g=>
  rcases h with h |⟨b,cap,arr,T,h1,h2,h3,h4,h5,h6⟩
  ·exact .inl h
  ·exact .inr ⟨b,cap,arr,T,h1,h2,h3,h4,h5,h6.1,λi j av hi hj=>let⟨hp,v,hv,hr⟩:=h6.2 i j av hi hj;⟨hp,v,hv,hr.ob_free hp⟩⟩
 |hole=>exact h
 |_=>exact⟨h.1,h.2.1,h.2.2.ob_free h.1⟩
variable {z:Nat}
theorem P4.arrP_free {i:L4}(h:P4 G w ob i (.arrP z s)):P4 G w ob2 i (.arrP z s):=by
 obtain⟨h1,h2,h3,p,hk,h4⟩:=h;refine⟨h1,h2,h3,p,hk,?_⟩;rcases h4 with h4 |⟨b,arr,T,β,h5,h6,h7,h8,h9⟩
 ·exact .inl h4
 ·exact .inr ⟨b,arr,T,β,h5,h6,h7,⟨h8.1,λk j av hk hj=>let⟨v,hv,hc⟩:=h8.2 k j av hk hj;⟨v,hv,hc.ob_free⟩⟩,h9⟩
theorem P4.ren {ob2:Place}{ρ:Nat->Nat}{o:A7}{i:L4}(h:P4 G w ob i o)(hρ: ∀i inf,ob i=some inf->ob2 (ρ i)=some inf):P4 G w ob2 i (o.ren ρ):=by
 cases o with
 |box cs=>obtain⟨h0,h1,h2,b,arr,T,h3,h4,h5,h6⟩:=h;refine⟨h0,h1,by rw[h2,A1c],b,arr,T,h3,h4,by rw[h5,A1c],λj av hj=> ?_⟩;rw[getElem?_renL,zh]at hj;obtain⟨c,hc,rfl⟩:=hj;obtain⟨ho,v,hv,hr⟩:=h6 j c hc;exact⟨by rw[C2c];exact ho,v,hv,hr.ren hρ⟩
 |arr z s=>
  obtain⟨h0,h00,h1,h2,h3⟩:=h;refine⟨h0,h00,h1,h2,?_⟩;rcases h3 with h3 |⟨b,arr,T,h3,h4,h5,h6⟩
  ·exact .inl h3
  ·exact .inr ⟨b,arr,T,h3,h4,h5,h6.1,λi j av hi hj=>let⟨hp,v,hv,hr⟩:=h6.2 i j av hi hj;⟨hp,v,hv,hr.ob_free hp⟩⟩
 |frz z s=>
  obtain⟨h0,h00,h1,h2,h3⟩:=h;refine⟨h0,h00,h1,h2,?_⟩;rcases h3 with h3 |⟨b,arr,T,fz,h3,h4,h5,h6⟩
  ·exact .inl h3
  ·exact .inr ⟨b,arr,T,fz,h3,h4,h5,h6.1,λi j av hi hj=>let⟨hp,v,hv,hr⟩:=h6.2 i j av hi hj;⟨hp,v,hv,hr.ob_free hp⟩⟩
 |frzb cs=>obtain⟨h0,h1,h2,b,arr,T,fz,h3,h4,h5,h6,h7⟩:=h;exact⟨h0,h1,h2,b,arr,T,fz,h3,h4,h5,h6,λj av hj=>let⟨hp,v,hv,hr⟩:=h7 j av hj;⟨hp,v,hv,hr.ob_free hp⟩⟩
 |map k es=>obtain⟨h0,b,ents,clock,h3,h4,h5,h6⟩:=h;exact⟨h0,b,ents,clock,h3,h4,h5,λj z av hj=>let⟨hf,e,he,hk,hr⟩:=h6 j z av hj;⟨hf,e,he,hk,hr.flat_free hf⟩⟩
 |mapS k es=>obtain⟨h0,b,ents,clock,h3,h4,h5,h6⟩:=h;exact⟨h0,b,ents,clock,h3,h4,h5,λj z av hj=>let⟨hf,e,he,hk,hr⟩:=h6 j z av hj;⟨hf,e,he,hk,hr.flat_free hf.1⟩⟩
 |arrP z s=>exact h.arrP_free
 |gone=>exact h
theorem P4.unren {ob2:Place}{ρ:Nat->Nat}{o:A7}{i:L4}(h:P4 G w ob2 i (o.ren ρ))(hρ: ∀cs,o= .box cs-> ∀i∈F6 cs,ob i=ob2 (ρ i)):P4 G w ob i o:=by
 cases o with
 |box cs=>obtain⟨h0,h1,h2,b,arr,T,h3,h4,h5,h6⟩:=h;refine⟨h0,h1,by rw[h2,A1c],b,arr,T,h3,h4,by rw[h5,A1c],λj av hj=> ?_⟩;obtain⟨ho,v,hv,hr⟩:=h6 j (av.ren ρ) (by rw[getElem?_renL,hj];rfl);rw[C2c]at ho;exact⟨ho,v,hv,hr.unren av rfl λi hi=>hρ cs rfl i (P7 hj i hi)⟩
 |arr z s=>
  obtain⟨h0,h00,h1,h2,h3⟩:=h;refine⟨h0,h00,h1,h2,?_⟩;rcases h3 with h3 |⟨b,arr,T,h3,h4,h5,h6⟩
  ·exact .inl h3
  ·exact .inr ⟨b,arr,T,h3,h4,h5,h6.1,λi j av hi hj=>let⟨hp,v,hv,hr⟩:=h6.2 i j av hi hj;⟨hp,v,hv,hr.ob_free hp⟩⟩
 |frz z s=>
  obtain⟨h0,h00,h1,h2,h3⟩:=h;refine⟨h0,h00,h1,h2,?_⟩;rcases h3 with h3 |⟨b,arr,T,fz,h3,h4,h5,h6⟩
  ·exact .inl h3
  ·exact .inr ⟨b,arr,T,fz,h3,h4,h5,h6.1,λi j av hi hj=>let⟨hp,v,hv,hr⟩:=h6.2 i j av hi hj;⟨hp,v,hv,hr.ob_free hp⟩⟩
 |frzb cs=>obtain⟨h0,h1,h2,b,arr,T,fz,h3,h4,h5,h6,h7⟩:=h;exact⟨h0,h1,h2,b,arr,T,fz,h3,h4,h5,h6,λj av hj=>let⟨hp,v,hv,hr⟩:=h7 j av hj;⟨hp,v,hv,hr.ob_free hp⟩⟩
 |map k es=>obtain⟨h0,b,ents,clock,h3,h4,h5,h6⟩:=h;exact⟨h0,b,ents,clock,h3,h4,h5,λj z av hj=>let⟨hf,e,he,hk,hr⟩:=h6 j z av hj;⟨hf,e,he,hk,hr.flat_free hf⟩⟩
 |mapS k es=>obtain⟨h0,b,ents,clock,h3,h4,h5,h6⟩:=h;exact⟨h0,b,ents,clock,h3,h4,h5,λj z av hj=>let⟨hf,e,he,hk,hr⟩:=h6 j z av hj;⟨hf,e,he,hk,hr.flat_free hf.1⟩⟩
 |arrP z s=>exact h.arrP_free
 |gone=>exact h
def A59(G:Nat->Prop)(w:World)(ob:Place)(args:List AV)(vals:List Value):Prop:=vals.length=args.length/\ ∀(j:Nat) (av:AV),args[j]? =some av->Rel G w ob av (vals.getD j undef)
def OBx(K:Nat->Prop)(ob ob':Place):Prop:= ∀id i,K id->ob id=some i-> ∃i',ob' id=some i'/\(i'=i\/(∃p q,i.kind= .priv p/\i'= {i with kind:=q})\/(i.len<i'.len/\i.kind≠ .map))
def A3p(P:Program)(f:FuncId):Bool:=
 match P.funcs[f]? with
 |some fn=>fn.body.isSome&&fn.name != "runtime.NumGoroutine"
 |none=>false
def D5(P:Program)(f:FuncId)(args:List AV)(O:List (Nat×A7))(r:AV)(O':List (Nat×A7)):Prop:=
 A3p P f=true/\ ∀(G:Nat->Prop) (w:World) (ob:Place) (vals:List Value),E8 G w ob (ofL O)->A59 G w ob args vals->
  Calls P f vals.toArray w λe w'=> ∃v G' ob',e= .returned v/\E8 G' w' ob' (ofL O')/\Rel G' w' ob' r v/\Fr G w ob G' w' ob'/\D4 ob ob'
mutual
def AV.noDsl:AV->Bool
 | .sc _=>true
 | .sl .. =>true
 | .ptr .. =>true
 | .mp _=>true
 | .agg cs=>B1o cs
 | .tup cs=>B1o cs
 | .fn _ a b=>B1o a&&B1o b
 | .dsl .. =>false
 | .dslx .. =>false
 | .dE _=>false
 | .own .. =>false
 | .hole=>false
def B1o:List AV->Bool
 | []=>true
 |c::cs=>c.noDsl&&B1o cs
end
theorem A8q: ∀ {cs:List AV} {j:Nat} {av:AV},B1o cs=true->cs[j]? =some av->av.noDsl=true
 | [],j,av,_,h=>by simp at h
 |c::cs,0,av,hn,h=>by simp only[List.getElem?_cons_zero,za]at h;subst h;simp only[B1o,zi]at hn;exact hn.1
 |c::cs,j+1,av,hn,h=>by simp only[List.getElem?_cons_succ]at h;simp only[B1o,zi]at hn;exact A8q hn.2 h
theorem Rel.noDsl {G':Nat->Prop}{av:AV}{v:Value}(h:Rel G w ob av v)(hn:av.noDsl=true):Rel G' w ob av v:=by
 induction h with
 |sc h=>exact .sc h
 |hole h=>exact .hole h
 |sl i h hle hs hv=>exact .sl i h hle hs hv
 |ptr a i h hle hv=>exact .ptr a i h hle hv
 |mp b i h hb hm=>exact .mp b i h hb hm
 |agg vs hn' ho hr ih=>exact .agg vs hn' ho λj av hj=>ih j av hj (A8q (by simpa[AV.noDsl]using hn) hj)
 |tup vs hn' hr ih=>exact .tup vs hn' λj av hj=>ih j av hj (A8q (by simpa[AV.noDsl]using hn) hj)
 |fn vs us hn' hm hr hq ih1 ih2=>simp only[AV.noDsl,zi]at hn;exact .fn vs us hn' hm (λj av hj=>ih1 j av hj (A8q hn.1 hj)) (λj av hj=>ih2 j av hj (A8q hn.2 hj))
 |_=>simp[AV.noDsl]at hn
def A7.NoDsl:A7->Prop
 | .box cs=>B1o cs=true
 | .arr _ s=> ∀k,k<s.n->B1o (s.g k)=true
 | .frz .. =>False
 | .frzb _=>False
 | .arrP .. =>False
 | .gone=>True
 | .map _ es=> ∀(j:Nat) (z:Int) (av:AV),es[j]? =some (z,av)->av.noDsl=true
 | .mapS _ es=> ∀(j:Nat) (z:List Int) (av:AV),es[j]? =some (z,av)->av.noDsl=true
theorem P4.noDsl {G':Nat->Prop}{i:L4}{o:A7}(h:P4 G w ob i o)(hn:o.NoDsl):P4 G' w ob i o:=by
 cases o with
 |box cs=>obtain⟨h0,h1,h2,b,arr,T,h3,h4,h5,h6⟩:=h;exact⟨h0,h1,h2,b,arr,T,h3,h4,h5,λj av hj=>let⟨ho,v,hv,hr⟩:=h6 j av hj;⟨ho,v,hv,hr.noDsl (A8q hn hj)⟩⟩
 |arr z s=>
  obtain⟨h0,h00,h1,h2,h3⟩:=h;refine⟨h0,h00,h1,h2,?_⟩;rcases h3 with h3 |⟨b,arr,T,h3,h4,h5,h6⟩
  ·exact .inl h3
  ·exact .inr ⟨b,arr,T,h3,h4,h5,h6.1,λi j av hi hj=>let⟨hp,v,hv,hr⟩:=h6.2 i j av hi hj;⟨hp,v,hv,hr.noDsl (A8q (hn i hi) hj)⟩⟩
 |frz z s=>exact hn.elim
 |frzb cs=>exact hn.elim
 |arrP z s=>exact hn.elim
 |gone=>exact h
 |map k es=>obtain⟨h0,b,ents,clock,h3,h4,h5,h6⟩:=h;exact⟨h0,b,ents,clock,h3,h4,h5,λj z av hj=>let⟨hf,e,he,hk,hr⟩:=h6 j z av hj;⟨hf,e,he,hk,hr.noDsl (hn j z av hj)⟩⟩
 |mapS k es=>obtain⟨h0,b,ents,clock,h3,h4,h5,h6⟩:=h;exact⟨h0,b,ents,clock,h3,h4,h5,λj z av hj=>let⟨hf,e,he,hk,hr⟩:=h6 j z av hj;⟨hf,e,he,hk,hr.noDsl (hn j z av hj)⟩⟩
end
section
variable {P:Program} {G:Nat->Prop} {w:World} {ob:Place} {m:Nat->Option A7}
theorem B8a: ∀(l:List (Nat×A7)) (f:Nat->Option A7),(l.map (·.1)).Nodup-> ∀x,wrm f l x=match l.find? (λp=>p.1==x)with |some p=>some p.2 |none=>f x
 | [],f,_,x=>rfl
 |p::l,f,h,x=>by
  simp only[qw,yG]at h;have ih:=B8a l (upd f p.1 (some p.2)) h.2 x;show wrm (upd f p.1 (some p.2)) l x=_;rw[ih,List.find?_cons];by_cases hx:(p.1==x)=true
  ·simp only[qc]at hx;subst hx;have:l.find? (λq=>q.1==p.1)=none:=by
    grind
   simp[this]
  ·have hx':(p.1==x)=false:=by simpa using hx
   simp only[hx'];cases l.find? (λq=>q.1==x)with
   |some q=>rfl
   |none=>simp only[qt]at hx';exact J0 (λe=>hx' e.symm)
theorem B5k(l:List (Nat×A7))(h:(l.map (·.1)).Nodup)(x:Nat):ofL l x=(l.find? (λp=>p.1==x)).map (·.2):=by unfold ofL;rw[B8a l _ h];cases l.find? (λp=>p.1==x) <;> rfl
def A3v(ρ:Nat->Nat)(O:List (Nat×A7)):List (Nat×A7):=O.map λp=>(ρ p.1,p.2.ren ρ)
variable {O:List (Nat×A7)}
theorem B30 {ρ:Nat->Nat}(h:(O.map λp=>ρ p.1).Nodup):(O.map (·.1)).Nodup/\ ∀i j,(ofL O i).isSome->(ofL O j).isSome->ρ i=ρ j->i=j:=by
 have h1:(O.map (·.1)).Nodup:=by grind
 refine⟨h1,λi j hi hj e=> ?_⟩;rw[B5k O h1]at hi hj;simp only[Option.isSome_map]at hi hj;obtain⟨p,hp⟩:=qr.1 hi;obtain⟨q,hq⟩:=qr.1 hj;have e1:=yH hp
 have e2:=yH hq;simp only[qc]at e1 e2;subst e1;subst e2;have hpm:=qD hp
 have hqm:=qD hq;clear hi hj hp hq h1;induction O with
 |nil=>cases hpm
 |cons x O ih=>grind
theorem F13 {ρ:Nat->Nat}(h:(O.map λp=>ρ p.1).Nodup)(f:Nat->Option A7):
  (∀i o,ofL O i=some o->wrm f (A3v ρ O) (ρ i)=some (o.ren ρ))/\(∀x,(∀i,(ofL O i).isSome->ρ i≠x)->wrm f (A3v ρ O) x=f x):=by
 obtain⟨h1,hinj⟩:=B30 h;have h2:((A3v ρ O).map (·.1)).Nodup:=by simpa[A3v,Function.comp_def]using h
 have hfind: ∀x,(A3v ρ O).find? (λp=>p.1==x)=(O.find? (λp=>ρ p.1==x)).map λp=>(ρ p.1,p.2.ren ρ):=λx=>by simp only[A3v,List.find?_map];rfl
 refine⟨λi o hi=> ?_,λx hx=> ?_⟩
 ·rw[B8a _ _ h2,hfind];have hi':=hi;rw[B5k O h1,zh]at hi;obtain⟨p,hp,rfl⟩:=hi;have e1:=yH hp;simp only[qc]at e1;have hpm:=qD hp;cases hq:O.find? (λp=>ρ p.1==ρ i)with
  |none=>grind
  |some q=>
   have e2:=yH hq;simp only[qc]at e2;have hqm:=qD hq
   have hqs:(ofL O q.1).isSome:=by rw[B5k O h1,Option.isSome_map,List.find?_isSome];exact⟨q,hqm,p_⟩
   have hqi:=hinj q.1 i hqs (by rw[hi'];rfl) e2
   have hfi:O.find? (λp=>p.1==i)=some q:=by
    have hq2:O.find? (λp=>p.1==i)≠none:=by rw[hp];simp
    have uniq: ∀(l:List (Nat×A7)),(l.map (·.1)).Nodup-> ∀p q:Nat×A7,p∈l->q∈l->p.1=q.1->p=q:=by
     intro l;induction l with
     |nil=>intro _ p q hp;cases hp
     |cons x l ih=>grind
    grind
   grind
 ·rw[B8a _ _ h2,hfind];cases hq:O.find? (λp=>ρ p.1==x)with
  |none=>rfl
  |some q=>have e2:=yH hq;simp only[qc]at e2;have hqm:=qD hq;exact absurd e2 (hx q.1 (by rw[B5k O h1,Option.isSome_map,List.find?_isSome];exact⟨q,hqm,p_⟩))
def A81(ρ:Nat->Nat)(O':List (Nat×A7))(ob ob':Place):Place:=λx=>open Classical in if h: ∃i,(ofL O' i).isSome/\ρ i=x then ob' h.choose else ob x
variable {O':List (Nat×A7)} {ob':Place}
theorem A64 {ρ:Nat->Nat}(hinj: ∀i j,(ofL O' i).isSome->(ofL O' j).isSome->ρ i=ρ j->i=j){i:Nat}(hi:(ofL O' i).isSome):
  A81 ρ O' ob ob' (ρ i)=ob' i:=by
 unfold A81;have h: ∃k,(ofL O' k).isSome/\ρ k=ρ i:=⟨i,hi,rfl⟩
 grind
theorem A65 {ρ:Nat->Nat}{x:Nat}(hx: ∀i,(ofL O' i).isSome->ρ i≠x):A81 ρ O' ob ob' x=ob x:=by
 unfold A81
 grind
variable {w':World}
theorem F2d {Ga Gf Gc:Nat->Prop}{obc:Place}{ρ:Nat->Nat}
  (ha:E8 Ga w ob m)(hnd:(O'.map λp=>ρ p.1).Nodup)
  (hobc: ∀i,obc i=if(ofL O i).isSome then ob (ρ i)else none)
  (hOO: ∀i,(ofL O i).isSome->(ofL O' i).isSome)
  (hnew: ∀i,(ofL O' i).isSome->(ofL O i).isSome\/ob (ρ i)=none)
  (hsub: ∀b,Ga b->Gf b)(hfn: ∀b,Gf b->Ga b\/w.heap.size<=b\/P6 obc b)(hlt: ∀b,Gf b->b<w'.heap.size)
  (hsame: ∀b,b<w.heap.size->(Ga b\/ ¬P6 obc b)->w'.heap[b]? =w.heap[b]?)
  (hblk: ∀b,P6 ob' b->P6 obc b\/w.heap.size<=b)(hext:D4 obc ob')
  (hc:E8 Gc w' ob' (ofL O'))(hown: ∀i o inf,ofL O' i=some o->ob' i=some inf->P4 Gf w' ob' inf o)
  (hsep: ∀i o inf b,ofL O' i=some o->o.owned=true->ob' i=some inf->inf.has b-> ¬Gf b):
  E8 Gf w' (A81 ρ O' ob ob') (wrm m (A3v ρ O'))/\D4 ob (A81 ρ O' ob ob')/\
   (∀b,P6 (A81 ρ O' ob ob') b->P6 ob b\/w.heap.size<=b)/\(∀i inf,ob' i=some inf->A81 ρ O' ob ob' (ρ i)=some inf)/\(∀b,P6 obc b->P6 ob b):=by
 obtain⟨hnd1,hinj⟩:=B30 hnd;obtain⟨hw1,hw2⟩:=F13 hnd m;have hsome: ∀i inf,ob' i=some inf->(ofL O' i).isSome:=λi inf hi=>by
  cases ho:ofL O' i with
  |none=>rw[(hc.dom i).1 ho]at hi;cases hi
  |some o=>rfl
 have hren: ∀i inf,ob' i=some inf->A81 ρ O' ob ob' (ρ i)=some inf:=λi inf hi=>by rw[A64 hinj (hsome i inf hi)];exact hi
 have himg: ∀x,(∃i,(ofL O' i).isSome/\ρ i=x)\/(∀i,(ofL O' i).isSome->ρ i≠x):=λx=>by grind
 have hbsub: ∀b,P6 obc b-> ∃i inf,(ofL O i).isSome/\ob (ρ i)=some inf/\inf.has b:=by
  rintro b ⟨i,inf,hi,hb⟩
  grind
 have holdlt: ∀x inf b,ob x=some inf->inf.has b->b<w.heap.size:=λx inf b hx hb=>by
  cases ho:m x with
  |none=>rw[(ha.dom x).1 ho]at hx;cases hx
  |some o=>exact(ha.own x o inf ho hx).has_lt hb
 have hout: ∀x inf b,(∀i,(ofL O' i).isSome->ρ i≠x)->ob x=some inf->inf.has b-> ¬P6 obc b:=λx inf b hx hox hb hbc=>by obtain⟨i,inf',hi,hoi,hbi⟩:=hbsub b hbc;exact hx i (hOO i hi) (ha.inj _ _ _ _ b hoi hox hbi hb)
 have hOB:D4 ob (A81 ρ O' ob ob'):=λx inf hx=>by
  rcases himg x with⟨i,hi,rfl⟩ |h
  ·rw[A64 hinj hi];rcases hnew i hi with hO |hn
   ·exact hext i inf (by rw[hobc,zc hO];exact hx)
   ·rw[hn]at hx;cases hx
  ·exact⟨inf,by rw[A65 h];exact hx, .inl rfl⟩
 refine⟨⟨?_,?_,hlt,?_,?_⟩,hOB,?_,hren,λb hb=>let⟨i,inf,_,h1,h2⟩:=hbsub b hb;⟨_,inf,h1,h2⟩⟩
 ·intro x;rcases himg x with⟨i,hi,rfl⟩ |h
  ·obtain⟨o,ho⟩:=qr.1 hi;rw[hw1 i o ho,A64 hinj hi];constructor
   ·intro h;cases h
   ·intro h;rw[(hc.dom i).2 h]at ho;cases ho
  ·rw[hw2 x h,A65 h];exact ha.dom x
 ·intro x y i j b hx hy hbx hby
  rcases himg x with⟨p,hp,rfl⟩ |hx'
  ·rw[A64 hinj hp]at hx;rcases himg y with⟨q,hq,rfl⟩ |hy'
   ·rw[A64 hinj hq]at hy;rw[hc.inj _ _ _ _ b hx hy hbx hby]
   ·rw[A65 hy']at hy;rcases hblk b ⟨p,i,hx,hbx⟩with h |h
    all_goals grind
  ·rw[A65 hx']at hx;rcases himg y with⟨q,hq,rfl⟩ |hy'
   ·rw[A64 hinj hq]at hy;rcases hblk b ⟨q,j,hy,hby⟩with h |h
    all_goals grind
   ·rw[A65 hy']at hy;exact ha.inj _ _ _ _ b hx hy hbx hby
 ·intro x o inf hm hx;rcases himg x with⟨i,hi,rfl⟩ |h
  ·obtain⟨o',ho'⟩:=qr.1 hi;rw[hw1 i o' ho']at hm;injection hm with hm;subst hm;rw[A64 hinj hi]at hx;exact(hown i o' inf ho' hx).ren hren
  ·rw[hw2 x h]at hm;rw[A65 h]at hx;have hr:=ha.own x o inf hm hx;exact hr.ext hsub (λb hb=>hsame b (ha.lt b hb) (.inl hb)) hOB λb hb=>hsame b (hr.has_lt hb) (.inr (hout x inf b h hx hb))
 ·intro x o inf b hm how hx hb;rcases himg x with⟨i,hi,rfl⟩ |h
  ·obtain⟨o',ho'⟩:=qr.1 hi;rw[hw1 i o' ho']at hm;injection hm with hm;subst hm;rw[A64 hinj hi]at hx;exact hsep i o' inf b ho' (by first |assumption |(rw[D6t]at*;assumption) |(cases o' <;> simp_all [A7.ren,A7.owned])) hx hb
  ·rw[hw2 x h]at hm;rw[A65 h]at hx;intro hG;rcases hfn b hG with h1 |h1 |h1
   ·exact ha.sep x o inf b hm how hx hb h1
   all_goals grind
 ·rintro b ⟨x,inf,hx,hb⟩;rcases himg x with⟨i,hi,rfl⟩ |h
  ·rw[A64 hinj hi]at hx;rcases hblk b ⟨i,inf,hx,hb⟩with h |h
   ·obtain⟨k,inf',_,h1,h2⟩:=hbsub b h;exact .inl ⟨_,inf',h1,h2⟩
   ·exact .inr h
  ·rw[A65 h]at hx;exact .inl ⟨x,inf,hx,hb⟩
end
section
variable {P:Program} {G:Nat->Prop} {w:World} {ob:Place} {m:Nat->Option A7}
def A0x(m:Nat->Option A7):AV->Option (Prop×AV×List (Nat×A7))
 | .agg cs=>match A1b m cs with
   |some (p,cs',wr)=>some (p, .agg cs',wr)
   |none=>none
 | .tup _=>none
 |v=>R5 m v
variable {v:Value} {wr:List (Nat×A7)} {c':AV}
theorem C90 {c:AV}(hf:A0x m c=some (p,c',wr))(hp:p){m1:Nat->Option A7}
  (hs:E8 G w ob m1)(ha:A6m m m1)(hr:Rel G w ob c v):
  ∃G2,E8 G2 w ob (wrm m1 wr)/\A6m m (wrm m1 wr)/\(∀b,G b->G2 b)/\(∀b,G2 b->G b\/P6 ob b)/\c'.flat=true/\Rel G2 w ob c' v:=by
 have one:R5 m c=some (p,c',wr)-> ∃G2,E8 G2 w ob (wrm m1 wr)/\A6m m (wrm m1 wr)/\(∀b,G b->G2 b)/\(∀b,G2 b->G b\/P6 ob b)/\c'.flat=true/\Rel G2 w ob c' v:=λh=>by obtain⟨G2,a1,a2,a3,a4,a5,a6⟩:=C42 h hp hs ha hr;exact⟨G2,a1,a2,a3,a4,by cases c' <;> simp_all [AV.flat,AV.pure],a6⟩
 cases c with
 |agg cs=>
  simp only[A0x]at hf;split at hf
  ·rename_i p1 cs' w1 h1;simp only[za,zq]at hf;obtain⟨rfl,rfl,rfl⟩:=hf;cases hr with
   |agg vs hn ho hrr=>obtain⟨G2,a1,a2,a3,a4,a5,a6⟩:=B0w cs cs' p1 w1 (λj=>vs.getD j undef) G m1 h1 hp hs ha hrr;refine⟨G2,a1,a2,a3,a4,?_, .agg vs (by rw[hn,a5]) (λj av hj=>B2o (a6 j av hj).1) (λj av hj=>(a6 j av hj).2)⟩;simp only[AV.flat,qm];intro av hav;obtain⟨j,hj⟩:=zA hav;exact(a6 j av hj).1
  ·cases hf
 |tup cs=>simp[A0x]at hf
 |_=>exact one (by simpa only[A0x]using hf)
def S4(m:Nat->Option A7)(ρ:Nat->Nat)(O:List (Nat×A7)):List Bool->List AV->List AV->List (Nat×A7)->Prop
 | [],[],[],wr=>wr= []
 |true::md,av::avs,c::cs,wr=>c.ren ρ=av/\(∀i∈c.ids,(ofL O i).isSome)/\S4 m ρ O md avs cs wr
 |false::md,av::avs,c::cs,wr=> ∃p w1 w2,A0x m av=some (p,c,w1)/\p/\wr=w1++w2/\S4 m ρ O md avs cs w2
 |_,_,_,_=>False
theorem C5z {ρ:Nat->Nat}{O:List (Nat×A7)}: ∀(md:List Bool) (avs cargs:List AV) (wr:List (Nat×A7)) (v:Nat->Value) (G:Nat->Prop) (m1:Nat->Option A7),
  S4 m ρ O md avs cargs wr->E8 G w ob m1->A6m m m1->(∀(j:Nat) (av:AV),avs[j]? =some av->Rel G w ob av (v j))->
  ∃G2,E8 G2 w ob (wrm m1 wr)/\A6m m (wrm m1 wr)/\(∀b,G b->G2 b)/\(∀b,G2 b->G b\/P6 ob b)/\cargs.length=avs.length/\
   ∀(j:Nat) (c:AV),cargs[j]? =some c->(c.flat=true/\Rel G2 w ob c (v j))\/((∀i∈c.ids,(ofL O i).isSome)/\Rel G2 w ob (c.ren ρ) (v j))
 | [],[],[],wr,v,G,m1,h,hs,ha,hr=>by simp only[S4]at h;subst h;exact⟨G,hs,ha,λ_ h=>h,λ_ h=> .inl h,rfl,λj c h=>by simp at h⟩
 |true::md,av::avs,c::cs,wr,v,G,m1,h,hs,ha,hr=>by
  simp only[S4]at h;obtain⟨h1,h2,h3⟩:=h;obtain⟨G2,a1,a2,a3,a4,a5,a6⟩:=C5z md avs cs wr (λj=>v (j+1)) G m1 h3 hs ha (λj av hj=>hr (j+1) av (by simpa using hj));refine⟨G2,a1,a2,a3,a4,by simp[a5],λj c' hj=> ?_⟩;cases j with
  |zero=>simp only[List.getElem?_cons_zero,za]at hj;subst hj;exact .inr ⟨h2,by rw[h1];exact(hr 0 av p_).ext a3 (λ_ _=>rfl) (D4.refl ob)⟩
  |succ j=>grind
 |false::md,av::avs,c::cs,wr,v,G,m1,h,hs,ha,hr=>by
  simp only[S4]at h;obtain⟨p,w1,w2,h1,h2,rfl,h3⟩:=h;obtain⟨G1,b1,b2,b3,b4,b5,b6⟩:=C90 h1 h2 hs ha (hr 0 av p_);obtain⟨G2,a1,a2,a3,a4,a5,a6⟩:=C5z md avs cs w2 (λj=>v (j+1)) G1 _ h3 b1 b2 (λj av hj=>(hr (j+1) av (by simpa using hj)).ext b3 (λ_ _=>rfl) (D4.refl ob));refine⟨G2,by rw[A4r];exact a1,by rw[A4r];exact a2,λb h=>a3 b (b3 b h),λb h=> ?_,by simp[a5],λj c' hj=> ?_⟩
  ·grind
  ·cases j with
   |zero=>simp only[List.getElem?_cons_zero,za]at hj;subst hj;exact .inl ⟨b5,b6.ext a3 (λ_ _=>rfl) (D4.refl ob)⟩
   |succ j=>grind
 | [],_::_,_,_,_,_,_,h,_,_,_=>by simp[S4]at h
 | [],[],_::_,_,_,_,_,h,_,_,_=>by simp[S4]at h
 |true::_,[],_,_,_,_,_,h,_,_,_=>by simp[S4]at h
 |true::_,_::_,[],_,_,_,_,h,_,_,_=>by simp[S4]at h
 |false::_,[],_,_,_,_,_,h,_,_,_=>by simp[S4]at h
 |false::_,_::_,[],_,_,_,_,h,_,_,_=>by simp[S4]at h
def A76(m:Nat->Option A7)(av:AV):List Nat:=av.ids++av.ids.flatMap λi=>match m i with |some (.box cs)=>F6 cs |_=> []
variable {av:AV} {m':Nat->Option A7}
theorem E5u {m:Nat->Option A7}(h: ∀i∈av.ids,m i=m' i):A76 m av=A76 m' av:=by
 unfold A76;have e: ∀l:List Nat,(∀i∈l,m i=m' i)->(l.flatMap λi=>match m i with |some (.box cs)=>F6 cs |_=> [])=l.flatMap λi=>match m' i with |some (.box cs)=>F6 cs |_=> []:=by
  intro l;induction l with
  |nil=>intro _;rfl
  |cons a l ih=>intro hl;rw[yo,yo,ih λi hi=>hl i (qf _ hi),hl a (qp ..)]
 rw[e _ h]
variable {i:Nat}
theorem C3l {m:Nat->Option A7}(h:i∈av.ids):i∈A76 m av:=zj.2 (.inl h)
inductive O9 (P:Program) (m:Nat->Option A7) (f:FuncId) (avs:List AV):Res->Prop
 |mk (md:List Bool) (cargs:List AV) (O:List (Nat×A7)) (r:AV) (O':List (Nat×A7)) (ρ:Nat->Nat) (wr:List (Nat×A7)) (keep:Bool)
   (spec:D5 P f cargs O r O') (ha:S4 m ρ O md avs cargs wr)
   (hO: ∀i o,ofL O i=some o->wrm m wr (ρ i)=some (o.ren ρ))
   (hOc: ∀i cs,ofL O i=some (.box cs)-> ∀j∈F6 cs,(ofL O j).isSome)
   (hOO: ∀i,(ofL O i).isSome->(ofL O' i).isSome)
   (hnew: ∀i,(ofL O' i).isSome->(ofL O i).isSome\/m (ρ i)=none)
   (hnd:(O'.map λp=>ρ p.1).Nodup)
   (hk:keep=true->r.noDsl=true/\ ∀i o,ofL O' i=some o->o.NoDsl):
   O9 P m f avs ⟨some (r.ren ρ),(if keep then []else wr)++A3v ρ O'⟩
  |dropW (v:Option AV) (wr W:List (Nat×A7)) (h:O9 P m f avs ⟨v,wr++W⟩) (hs: ∀p∈wr,m p.1=some p.2) (hk: ∀p∈wr,∃av∈avs,p.1∈A76 m av):O9 P m f avs ⟨v,W⟩
variable {f:FuncId} {avs:List AV}
theorem O9.drop(v:Option AV)(wr:List (Nat×A7))(h:O9 P m f avs ⟨v,wr⟩)(hs: ∀p∈wr,m p.1=some p.2)(hk: ∀p∈wr,∃av∈avs,p.1∈A76 m av):O9 P m f avs ⟨v,[]⟩:= .dropW v wr [] (by rw[qF];exact h) hs hk
theorem E1n: ∀(wr:List (Nat×A7)) (m:Nat->Option A7),(∀p∈wr,m p.1=some p.2)->wrm m wr=m
 | [],_,_=>rfl
 |p::wr,m,h=>by
  have e:upd m p.1 (some p.2)=m:=by
   funext x;by_cases hx:x=p.1
   ·simp_all
   ·rw[J0 hx]
  show wrm (upd m p.1 (some p.2)) wr=m;rw[e];exact E1n wr m λq hq=>h q (qf _ hq)
variable {r:Res}
theorem O9.callable(h:O9 P m f avs r):A3p P f=true:=by
 induction h with
 |mk md cargs O r O' ρ wr keep spec=>exact spec.1
 |dropW _ _ _ _ _ _ ih=>exact ih
theorem C9t(h:O9 P m f avs r){vals:List Value}(hs:E8 G w ob m)(hv:A59 G w ob avs vals):
  Calls P f vals.toArray w λe w'=> ∃v G' ob',e= .returned v/\E8 G' w' ob' (wrm m r.wr)/\(∀av,r.val=some av->Rel G' w' ob' av v)/\D4 ob ob'/\Fr G w ob G' w' ob':=by
 induction h with
 |dropW v wr W _ hsm _ ih=>dsimp only at ih⊢;rw[A4r,E1n wr m hsm]at ih;exact ih
 |mk md cargs O r O' ρ wr keep spec ha hO hOc hOO hnew hnd hk=>
  obtain⟨G2,a1,a2,a3,a4,a5,a6⟩:=C5z md avs cargs wr (λj=>vals.getD j undef) G m ha hs (A6m.refl m) hv.2;obtain⟨_,hinj'⟩:=B30 hnd;have hinj: ∀i j,(ofL O i).isSome->(ofL O j).isSome->ρ i=ρ j->i=j:=λi j hi hj=>hinj' i j (hOO i hi) (hOO j hj)
  let obc:Place:=λi=>if(ofL O i).isSome then ob (ρ i)else none
  have hobc: ∀i,obc i=if(ofL O i).isSome then ob (ρ i)else none:=λ_=>rfl
  have hob1: ∀i,(ofL O i).isSome->obc i=ob (ρ i):=λi hi=>by rw[hobc,zc hi]
  have hobs: ∀i inf,obc i=some inf->(ofL O i).isSome/\ob (ρ i)=some inf:=λi inf h=>by grind
  have hsc:E8 G2 w obc (ofL O):=by
   refine⟨λi=> ?_,λi j inf inf' b hi hj hb hb'=> ?_,a1.lt,λi o inf ho hi=> ?_,λi o inf b ho how hi hb=> ?_⟩
   ·constructor
    ·intro h;rw[hobc,h];rfl
    ·intro h;cases ho:ofL O i with
     |none=>rfl
     |some o=>rw[hobc,ho]at h;simp only[Option.isSome_some,zL]at h;have:=hO i o ho;rw[(a1.dom _).2 h]at this;cases this
   ·obtain⟨h1,h2⟩:=hobs i inf hi;obtain⟨h3,h4⟩:=hobs j inf' hj;exact hinj i j h1 h3 (a1.inj _ _ _ _ b h2 h4 hb hb')
   ·obtain⟨h1,h2⟩:=hobs i inf hi;exact(a1.own _ _ inf (hO i o ho) h2).unren (λcs hc j hj=>hob1 j (hOc i cs (by rw[ho,hc]) j hj))
   ·obtain⟨h1,h2⟩:=hobs i inf hi;exact a1.sep _ _ inf b (hO i o ho) (by rw[D6t];assumption) h2 hb
  have hrl:A59 G2 w obc cargs vals:=by
   refine⟨by rw[hv.1,a5],λj c hj=> ?_⟩;rcases a6 j c hj with⟨h1,h2⟩ |⟨h1,h2⟩
   ·exact h2.flat_free h1
   ·exact h2.unren c rfl λi hi=>hob1 i (h1 i hi)
  refine(spec.2 G2 w obc vals hsc hrl).mono ?_;rintro e w' ⟨v,G',ob',rfl,s1,s2,s3,s4⟩;have hbs: ∀b,P6 obc b->P6 ob b:=by rintro b ⟨i,inf,hi,hb⟩;exact⟨_,inf,(hobs i inf hi).2,hb⟩
  have hnew2: ∀i,(ofL O' i).isSome->(ofL O i).isSome\/ob (ρ i)=none:=λi hi=>(hnew i hi).imp id λh=>(hs.dom _).1 h;cases keep with
  |false=>
   obtain⟨m1,m2,m3,m4,m5⟩:=F2d (Gf:=G') a1 hnd hobc hOO hnew2 s3.sub s3.new s1.lt s3.same s3.blk s4 s1 (λi o inf ho hi=>s1.own i o inf ho hi) (λi o inf b=>s1.sep i o inf b);refine⟨v,G',A81 ρ O' ob ob',rfl,by rw[zb p_,A4r];exact m1,λav hav=> ?_,m2,?_⟩
   ·injection hav with hav;subst hav;exact s2.ren m4
   ·refine⟨s3.size,λb hb hc=>s3.same b hb ?_,m3,λb h=>s3.sub b (a3 b h),λb h=> ?_,s3.os,s3.tape,s3.output,s3.drawn⟩
    ·grind
    ·rcases s3.new b h with h |h |h
     all_goals grind
  |true=>
   obtain⟨hk1,hk2⟩:=hk rfl;obtain⟨m1,m2,m3,m4,m5⟩:=F2d (Gf:=G) hs hnd hobc hOO hnew2 (λ_ h=>h) (λ_ h=> .inl h) (λb h=>qH (hs.lt b h) s3.size)
    (λb hb hc=>s3.same b hb (hc.imp (a3 b) id)) s3.blk s4 s1 (λi o inf ho hi=>(s1.own i o inf ho hi).noDsl (hk2 i o ho)) (λi o inf b ho how hi hb hG=>s1.sep i o inf b ho how hi hb (s3.sub b (a3 b hG)))
   refine⟨v,G,A81 ρ O' ob ob',rfl,by simpa using m1,λav hav=> ?_,m2,?_⟩
   ·injection hav with hav;subst hav;exact(s2.noDsl hk1).ren m4
   ·refine⟨s3.size,λb hb hc=>s3.same b hb ?_,m3,λ_ h=>h,λ_ h=> .inl h,s3.os,s3.tape,s3.output,s3.drawn⟩
    grind
end
structure dC where
 dst:Option Nat
 op:AOp
 guard:Option (Nat×Bool)
 chk:List Nat
structure St where
 env:Nat->Option (Bool×AV)
 objs:Nat->Option A7
def St.ev(σ:St):AX->Option (Bool×AV)
 | .t n=>σ.env n
 | .k v=>some (true,v)
def St.e(σ:St)(x:AX):Option AV:=match σ.ev x with |some (_,v)=>some v |none=>none
def St.c(σ:St)(x:AX):Bool:=match σ.ev x with |some (c,_)=>c |none=>false
def St.put(σ:St)(d:Option Nat)(c:Bool)(r:Res):St:=
 {env:=match d with
   |some d=>upd σ.env d (match r.val with |some v=>some (c,v) |none=>none)
   |none=>σ.env,
  objs:=wrm σ.objs r.wr}
def AOp.ops:AOp->List AX
 | .isnil _ _ x | .aslice _ _ x=> [x]
 | .eqb _ x y | .sidx x y | .sadd x y | .eqs _ x y | .copy _ x y | .appz _ _ _ x y | .aidx _ x y=> [x,y]
 | .clr _ _ x | .bstr x | .cap0 x | .slen x | .sbytes x=> [x]
 | .sslice x l h=>x::(l.toList++h.toList)
 | .aslc _ _ x l h=>x::(l.toList++h.toList)
 | .bad=> []
 | .mov x | .load _ x | .un _ x | .box x | .convI _ x | .faddr _ x | .fld _ _ x | .len x | .mlen x | .ext x _ | .nilck x=> [x]
 | .bin _ x y | .eqa _ _ x y | .store _ x y | .iaddr _ x y | .aaddr _ _ x y | .append _ _ x y | .mkslice _ _ _ x y | .minmax _ x y | .lookup _ _ _ x y | .lookupS _ _ _ x y=> [x,y]
 | .pick c a b=> [c,a,b]
 | .mset _ x y z | .msetS _ x y z=> [x,y,z]
 | .alloc _ | .mkmap _ | .mkmapS _=> []
 | .build _ ps=>ps.map (·.2.2)
 | .bslice _ _ _ ps=>ps.map (·.2.2)
 | .slice _ x l h mx=>x::(l.toList++h.toList++mx.toList)
 | .mkfn _ a b=>a++b
 | .call _ xs=>xs
 | .callv x xs=>x::xs
def A7f(σ:St)(b:Bool):List AX->Prop
 | []=>True
 |x::xs=>(b=true->σ.c x=true)/\A7f σ b xs
def A2b(σ:St):Option (Nat×Bool)->Option Bool
 |none=>some true
 |some (g,want)=>match σ.env g with
  |some (c, .sc (.bool q))=>some (c&&(if want then q else !q))
  |_=>none
def St.es(σ:St):List AX->Option (List AV)
 | []=>some []
 |x::xs=>match σ.e x,σ.es xs with
  |some v,some vs=>some (v::vs)
  |_,_=>none
def target(σ:St):AOp->Option (FuncId×List AV)
 | .call f xs=>match σ.es xs with
   |some vs=>some (f,vs)
   |none=>none
 | .callv x xs=>match σ.e x,σ.es xs with
   |some (.fn (.func f) first cap),some vs=>some (f,first++vs++cap)
   |_,_=>none
 |_=>none
def AOp.isCall:AOp->Bool
 | .call .. | .callv .. =>true
 |_=>false
def AOp.isPick:AOp->Bool
 | .pick .. =>true
 |_=>false
inductive A3s (P:Program) (o:dC) (σ:St):Bool->Res->Prop
 |op (b:Bool) (p:Prop) (r:Res) (d:Nat) (hg:A2b σ o.guard=some b) (hb:eval o.op σ.e σ.objs d=some (p,r))
   (hc:A7f σ b o.op.ops) (hp:b=true->p) (hw:r.wr≠ []->b=true):A3s P o σ b r
 |pick (b:Bool) (c x y:AX) (q p1 p2 c1 c2 cc:Bool) (ho:o.op= .pick c x y) (hg:A2b σ o.guard=some b) (hq:σ.ev c=some (cc, .sc (.bool q)))
   (hx:q=true->σ.ev x=some (c1, .sc (.bool p1))) (hy:q=false->σ.ev y=some (c2, .sc (.bool p2)))
   (hc:b=true->cc=true/\(q=true->c1=true)/\(q=false->c2=true)):A3s P o σ b ⟨some (.sc (.bool (if q then p1 else p2))),[]⟩
 |call (b:Bool) (f:FuncId) (avs:List AV) (r:Res) (hg:A2b σ o.guard=some b) (ht:target σ o.op=some (f,avs)) (hc:A7f σ b o.op.ops)
   (hd:b=true->O9 P σ.objs f avs r) (hw:r.wr≠ []->b=true):A3s P o σ b r
 |inpl (z bytes:Nat) (x y:AX) (id n tot:Nat) (s q:Sq) (v:AV) (p:Prop) (ho:o.op= .append z bytes x y) (hg:A2b σ o.guard=some true) (hx:σ.e x=some (.sl id 0 n tot)) (hy:σ.e y=some v)
   (hm:σ.objs id=some (.arr z s)) (hs:Y2 σ.objs z v=some (p,q)) (hc:A7f σ true o.op.ops) (hp:p/\tot=s.n/\n+q.n<=s.n/\(n+q.n)*bytes<=140737488355328/\n+q.n<=maxLen):
   A3s P o σ true ⟨some (.sl id 0 (n+q.n) tot),[(id, .arr z (s.over n q))]⟩
 |sl3 (z:Nat) (x:AX) (lo hi mx:Option AX) (id off n tot:Nat) (s:Sq) (l h:Option Int) (k:Int) (ho:o.op= .slice z x lo hi mx) (hg:A2b σ o.guard=some true) (hx:σ.e x=some (.sl id off n tot))
   (hl:A0k σ.e lo=some l) (hh:A0k σ.e hi=some h) (hk:A0k σ.e mx=some (some k)) (hm:σ.objs id=some (.arr z s)) (hc:A7f σ true o.op.ops)
   (hp:tot=s.n/\0<=l.getD 0/\l.getD 0<=h.getD n/\h.getD n<=n/\h.getD n<=k/\k<=n/\h.isSome):A3s P o σ true ⟨none,[]⟩
 |slx (z:Nat) (x:AX) (lo hi mx:Option AX) (id n tot:Nat) (s:Sq) (l:Option Int) (h:Int) (ho:o.op= .slice z x lo hi mx) (hg:A2b σ o.guard=some true) (hx:σ.e x=some (.sl id 0 n tot))
   (hl:A0k σ.e lo=some l) (hh:A0k σ.e hi=some (some h)) (hk:A0k σ.e mx=some none) (hm:σ.objs id=some (.arr z s)) (hc:A7f σ true o.op.ops)
   (hp:tot=s.n/\0<=l.getD 0/\l.getD 0<=h/\h<=tot):A3s P o σ true ⟨some (.sl id (l.getD 0).toNat (h-l.getD 0).toNat tot),[]⟩
 |skip (hg:A2b σ o.guard=some false):A3s P o σ false ⟨none,[]⟩
def cxs:List Operand->Option (List AX)
 | []=>some []
 |x::xs=>match cx x,cxs xs with
  |some a,some l=>some (a::l)
  |_,_=>none
def C84(place:Nat->Option (Nat×Nat))(E9:List (Nat×Operand)):Option (List (Nat×Nat×AX)):=E9.mapM λp=>match place p.1,cx p.2 with |some (o,s),some ax=>some (o,s,ax) |_,_=>none
def B4u(P:Program)(t:TypeId):Option Value:=(P.info? t).bind (·.zero)
def B8j(P:Program)(t:TypeId):Option (Option Nat):=
 match R9 P t with
 |some false=>some none
 |some true=>match Y8 P t with |some n=>some (some n) |none=>none
 |none=>none
def A2h(P:Program)(t:TypeId):Option IntKind:=
 match P.underlying t with
 |some (.int k)=>some k
 |_=>none
def B5j:Value->Bool
 | .tuple _=>false
 |_=>true
def D40(P:Program)(op:BinOp)(t:TypeId):Option Bool:=
 match P.underlying t,op with
 |some .bool, .eql=>some false
 |some .bool, .neq=>some true
 |_,_=>none
def E1g(P:Program)(op:BinOp)(t:TypeId):Option Bool:=
 match op,P.underlying t with
 | .eql,some .string=>some false
 | .neq,some .string=>some true
 |_,_=>none
def E7r(P:Program)(op:BinOp)(t:TypeId):Bool:=
 match op,P.underlying t with
 | .add,some .string=>true
 |_,_=>false
theorem D42: ∀ {l:List Operand} {al:List AX},cxs l=some al-> ∀j:Nat,(l[j]?).map cx=(al[j]?).map some
 | [],al,h,j=>by simp only[cxs,za]at h;subst h;simp
 |x::xs,al,h,j=>by
  simp only[cxs]at h;split at h
  ·rename_i a l h1 h2;cases h;cases j with
   |zero=>simp[h1]
   |succ j=>simpa using D42 h2 j
  ·cases h
theorem B8m {x:Option Operand}(h:cxo x=some none):x=none:=by
 cases x with
 |none=>rfl
 |some x=>simp[cxo]at h
def cop(P:Program):Op->Option AOp
 | .move x | .assign x=>match cx x with |some a=>some (.mov a) |none=>none
 | .pick c a b=>match cx c,cx a,cx b with |some c,some a,some b=>some (.pick c a b) |_,_,_=>none
 | .alloc t=>match B4u P t with |some z=>if z.cells.all Value.oneCell' then some (.alloc z.cells.toList)else none |none=>none
 | .box _ x=>match cx x with |some a=>some (.box a) |none=>none
 | .build t E9=>match B4u P t,C3w P t with
   |some z,some place=>if z.cells.all Value.oneCell' then(match C84 place E9.toList with |some ps=>some (.build z.cells.toList ps) |none=>none)else none
   |_,_=>none
 | .buildSlice t len E9=>match P.underlying t with
   |some (.slice el)=>match B4u P el,Y8 P el with
    |some z,some size=>if z.cells.size=size/\z.cells.all Value.oneCell'=true/\len*size<=2^24 then
      (match C84 (λi=>some (i*size,size)) E9.toList with
        |some ps=>some (.bslice size len ((Array.range (len*size)).map (z.cells[· %z.cells.size]!)).toList ps)
        |none=>none)else none
    |_,_=>none
   |_=>none
 | .load t x=>match B8j P t,cx x with |some n,some a=>some (.load n a) |_,_=>none
 | .store t x y=>match Y8 P t,cx x,cx y with |some n,some a,some b=>some (.store n a b) |_,_,_=>none
 | .binOp op t x y _=>match D29 P op t y with
   |some (kd,neg,_)=>match cx x with |some a=>some (.isnil kd neg a) |none=>none
   |none=>match cx x,cx y with
    |some a,some b=>match D40 P op t with
     |some neg=>some (.eqb neg a b)
     |none=>match E1g P op t with
      |some neg=>some (.eqs neg a b)
      |none=>match A1x P op t with
       |some sh=>some (.eqa sh (D76 op) a b)
       |none=>if E7r P op t then some (.sadd a b)else some (.bin op a b)
    |_,_=>none
 | .index t x i=>match P.underlying t,cx x,cx i with
   |some .string,some a,some b=>some (.sidx a b)
   |some (.array len el),some a,some b=>if Y8 P el=some 1/\R9 P el=some false then some (.aidx len a b)else none
   |_,_,_=>none
 | .slice t x lo hi mx=>match P.underlying t,cx x,cxo lo,cxo hi,cxo mx with
   |some (.slice el),some a,some l,some h,some q=>match Y8 P el with |some z=>some (.slice z a l h q) |none=>none
   |some (.array n el),some a,some none,some none,some none=>match Y8 P el with |some z=>some (.aslice n z a) |none=>none
   |some (.array n el),some a,some l,some h,some none=>match Y8 P el with |some z=>some (.aslc n z a l h) |none=>none
   |some .string,some a,some l,some h,some none=>some (.sslice a l h)
   |_,_,_,_,_=>none
 | .makeFunc f first captured=>match cxs first.toList,cxs captured.toList with
   |some a,some b=>some (.mkfn f a b)
   |_,_=>none
 | .unOp op _ x=>match cx x with |some a=>some (.un op a) |none=>none
 | .convert src dst x=>match P.underlying src,A2h P dst,cx x with
   |some _,some k,some a=>some (.convI k a)
   |some (.slice el),none,some a=>match P.underlying el,P.underlying dst,Y8 P el with
    |some (.int .u8),some .string,some 1=>some (.bstr a)
    |_,_,_=>none
   |some .string,none,some a=>match P.underlying dst with
    |some (.slice el)=>match P.underlying el with
     |some (.int .u8)=>some (.sbytes a)
     |_=>none
    |_=>none
   |_,_,_=>none
 | .fieldAddr s x f=>match P.underlying s,cx x with
   |some (.struct fields),some a=>match fields[f]? with
    |some fd=>match Y8 P fd.type with
     |some (_+1)=>some (.faddr fd.offset a)
     |_=>none
    |none=>none
   |_,_=>none
 | .field s x f=>match P.underlying s,cx x with
   |some (.struct fields),some a=>match fields[f]? with
    |some fd=>match B8j P fd.type with
     |some n=>some (.fld fd.offset n a)
     |none=>none
    |none=>none
   |_,_=>none
 | .indexAddr t x i=>match P.underlying t,cx x,cx i with
   |some (.slice el),some a,some b=>match Y8 P el with |some z=>some (.iaddr z a b) |none=>none
   |some (.array len el),some a,some b=>match Y8 P el with |some z=>some (.aaddr len z a b) |none=>none
   |_,_,_=>none
 | .extract x i=>match cx x with |some a=>some (.ext a i) |none=>none
 | .nilCheck x=>match cx x with |some a=>some (.nilck a) |none=>none
 | .makeSlice t l c=>match P.underlying t with
   |some (.slice el)=>match P.info? el,cx l,cx c with
    |some i,some a,some b=>match i.zero with
     |some z=>if z.cells.size=i.size/\z.cells.all Value.oneCell'=true then some (.mkslice i.size i.bytes z.cells.toList a b)else none
     |none=>none
    |_,_,_=>none
   |_=>none
 | .makeMap t none=>match P.underlying t with
   |some (.map kt _)=>match A2h P kt with |some k=>some (.mkmap k) |none=>(match A1x P .eql kt with |some sh=>if sh.all id then some (.mkmapS sh.length)else none |none=>none)
   |_=>none
 | .lookup t x i ok=>match P.underlying t,cx x,cx i with
   |some (.map kt el),some a,some b=>match A2h P kt,B4u P el with
    |some k,some z=>if z.cells.all Value.oneCell'=true/\B5j z=true then some (.lookup k z ok a b)else none
    |none,some z=>(match A1x P .eql kt with |some sh=>if sh.all id/\z.cells.all Value.oneCell'=true/\B5j z=true then some (.lookupS sh.length z ok a b)else none |none=>none)
    |_,_=>none
   |_,_,_=>none
 | .mapUpdate t x i y=>match P.underlying t,cx x,cx i,cx y with
   |some (.map kt _),some a,some b,some c=>match A2h P kt with |some k=>some (.mset k a b c) |none=>(match A1x P .eql kt with |some sh=>if sh.all id then some (.msetS sh.length a b c)else none |none=>none)
   |_,_,_,_=>none
 | .call c=>match c.callee,c.args.toList,c.argTypes.toList with
   | .builtin .len,[x],[t]=>match P.underlying t,cx x with
     |some (.slice _),some a=>some (.len a)
     |some (.map _ _),some a=>some (.mlen a)
     |some .string,some a=>some (.slen a)
     |_,_=>none
   | .builtin .append,[x,y],[t,u]=>match P.underlying t,cx x,cx y with
     |some (.slice el),some a,some b=>match P.info? el with
      |some i=>match i.zero with
       |some z=>if t=u/\z.cells.size=i.size then some (.append i.size i.bytes a b)else
        if(A2h P u).isSome=true/\z.cells.size=i.size/\z.cells.all Value.oneCell'=true/\0<i.size then some (.appz i.size i.bytes z.cells.toList a b)else none
       |none=>none
      |none=>none
     |_,_,_=>none
   | .builtin .cap,[x],[t]=>match P.underlying t,cx x with
     |some (.slice _),some a=>some (.cap0 a)
     |_,_=>none
   | .builtin .copy,[x,y],[t,_]=>match P.underlying t,cx x,cx y with
     |some (.slice el),some a,some b=>match Y8 P el with
      |some z=>some (.copy z a b)
      |_=>none
     |_,_,_=>none
   | .builtin .clear,[x],[t]=>match P.underlying t,cx x with
     |some (.slice el),some a=>match P.info? el with
      |some i=>match i.zero with
       |some z=>if z.cells.size=i.size/\z.cells.all Value.oneCell'=true then some (.clr i.size z.cells.toList a)else none
       |none=>none
      |none=>none
     |_,_=>none
   | .builtin .min,[x,y],_=>match cx x,cx y with |some a,some b=>some (.minmax false a b) |_,_=>none
   | .builtin .max,[x,y],_=>match cx x,cx y with |some a,some b=>some (.minmax true a b) |_,_=>none
   | .value (.func f),_,_=>match P.funcs[f]? with
     |some fn=>if fn.body.isSome&&fn.name != "runtime.NumGoroutine" then(match cxs c.args.toList with |some l=>some (.call f l) |none=>none)else none
     |none=>none
   | .value x,_,_=>match cx x,cxs c.args.toList with |some a,some l=>some (.callv a l) |_,_=>none
   |_,_,_=>none
 |_=>none
section
variable {P:Program} {G:Nat->Prop} {w:World} {ob:Place} {m:Nat->Option A7}
theorem B60(ρ:Operand->Value)(b:Builtin)(x:Operand)(tys:Array TypeId)(dst:Option Tmp)(type:TypeId)(pos:String)(after:Array Edge)(guard:Option (Nat×Bool)):
  ∃cs,execOp ρ ⟨dst, .call ⟨.builtin b,⟨[x]⟩,tys⟩,type,pos,after,guard⟩=builtin b tys type cs #[ρ x]:=⟨_,by simp only[execOp,resolve,pure_bind,invoke,List.map_toArray,qw,List.map_nil];rfl⟩
theorem A80(ρ:Operand->Value)(b:Builtin)(x y:Operand)(tys:Array TypeId)(dst:Option Tmp)(type:TypeId)(pos:String)(after:Array Edge)(guard:Option (Nat×Bool)):
  ∃cs,execOp ρ ⟨dst, .call ⟨.builtin b,⟨[x,y]⟩,tys⟩,type,pos,after,guard⟩=builtin b tys type cs #[ρ x,ρ y]:=⟨_,by simp only[execOp,resolve,pure_bind,invoke,List.map_toArray,qw,List.map_nil];rfl⟩
theorem F59 {o:Oper}{aop:AOp}(h:cop P o.op=some aop)(hn:aop.isCall=false)(hk:aop.isPick=false)
  {ρ:Operand->Value}{e:AX->Option AV}{p:Prop}{r:Res}{d:Nat}(hkc: ∀v,ρ (.const v)=v)
  (hs:E8 G w ob m)(he:O0 G w ob ρ e)(hv:eval aop e m d=some (p,r))(hp:p):E6 P G w ob m (execOp ρ o) r:=by
 obtain⟨dst,op,type,pos,after,guard⟩:=o;simp only at h;cases op <;> simp only[cop]at h
 case move x=>split at h <;> simp only[za,reduceCtorEq]at h;subst h;rename_i a hx;simp only[execOp];exact E8g hs hx he hv
 case assign x=>split at h <;> simp only[za,reduceCtorEq]at h;subst h;rename_i a hx;simp only[execOp];exact E8g hs hx he hv
 case pick=>split at h <;> simp only[za,reduceCtorEq]at h;subst h;simp[AOp.isPick]at hk
 case alloc t=>
  split at h
  case h_2=>cases h
  rename_i z hz;split at h
  case isFalse=>cases h
  cases h;rename_i hone;simp only[execOp];exact F00 hz hone hs hv
 case box t x=>split at h <;> simp only[za,reduceCtorEq]at h;subst h;rename_i a hx;simp only[execOp];exact F66 hs hx he hv
 case build t E9=>
  split at h
  case h_2=>cases h
  rename_i z place hz hpl;split at h
  case isFalse=>cases h
  rename_i hone;split at h
  case h_2=>cases h
  rename_i ps hps;cases h;simp only[execOp];exact F01 hz hone hpl hps hs he hv
 case buildSlice t len E9=>
  split at h
  case h_2=>cases h
  rename_i el ht;split at h
  case h_2=>cases h
  rename_i z size hz hsz;split at h
  case isFalse=>cases h
  rename_i hc;split at h
  case h_2=>cases h
  rename_i ps hps;cases h;simp only[execOp];exact E8b ht hz hsz hc.1 hc.2.1 hc.2.2 hps hs he hv hp
 case load t x=>
  split at h <;> simp only[za,reduceCtorEq]at h;subst h;rename_i n a hn' hx;simp only[execOp];refine F33 (t:=t) ?_ hs hx he hv hp;unfold B8j at hn'
  grind
 case store t x y=>split at h <;> simp only[za,reduceCtorEq]at h;subst h;rename_i n a b hn' hx hy;simp only[execOp];exact F1b hn' hs hx hy he hv hp
 case binOp op t x y ty=>
  split at h
  ·rename_i kd neg v hnc;split at h <;> simp only[za,reduceCtorEq]at h;subst h;rename_i a hx;simp only[execOp];exact F05 hnc (hkc v) hs hx he hv hp
  ·split at h
   case h_2=>cases h
   rename_i a b hx hy;split at h
   ·rename_i neg hbc;cases h;simp only[execOp];unfold D40 at hbc;split at hbc <;> simp only[za,reduceCtorEq]at hbc <;> subst hbc
    ·exact E8c (by assumption) (.inl ⟨rfl,rfl⟩) hs hx hy he hv
    ·exact E8c (by assumption) (.inr ⟨rfl,rfl⟩) hs hx hy he hv
   ·split at h
    ·rename_i neg hbc;cases h;simp only[execOp];unfold E1g at hbc;split at hbc <;> simp only[za,reduceCtorEq]at hbc <;> subst hbc
     ·exact E8d (by assumption) (.inl ⟨rfl,rfl⟩) hs hx hy he hv
     ·exact E8d (by assumption) (.inr ⟨rfl,rfl⟩) hs hx hy he hv
    split at h
    ·rename_i sh hsh;cases h;simp only[execOp];exact F68 hsh hs hx hy he hv
    ·split at h
     ·rename_i hsa;cases h;simp only[execOp];unfold E7r at hsa;split at hsa
      ·exact F37 hs hx hy he hv hp
      ·cases hsa
     ·cases h;simp only[execOp];exact F65 hs hx hy he hv hp
 case index t x i=>
  split at h
  ·cases h;rename_i a b ht hx hy;simp only[execOp];exact F38 ht hs hx hy he hv hp
  ·rename_i len el a b ht hx hy;split at h
   case isFalse=>cases h
   rename_i hc;cases h;simp only[execOp];exact F3w ht hc.1 hc.2 hs hx hy he hv hp
  ·cases h
 case slice t x lo hi mx=>
  split at h
  ·rename_i el a l hh q ht hx hl hhi hmx;split at h <;> simp only[za,reduceCtorEq]at h;subst h;rename_i z hz;simp only[execOp];exact F1a ht hz hl hhi hmx hs hx he hv hp
  ·rename_i n el a ht hx hl hhi hmx;split at h <;> simp only[za,reduceCtorEq]at h;subst h;rename_i z hz;obtain rfl:=B8m hl;obtain rfl:=B8m hhi;obtain rfl:=B8m hmx;simp only[execOp,Option.map_none];exact E8a ht hz hs hx he hv hp
  ·rename_i n el a l hh _ ht hx hl hhi hmx;split at h <;> simp only[za,reduceCtorEq]at h;subst h;rename_i z hz;obtain rfl:=B8m hmx;simp only[execOp,Option.map_none];exact F3y ht hz hs hx hl hhi he hv hp
  ·rename_i a l hh ht hx hl hhi hmx;cases h;obtain rfl:=B8m hmx;simp only[execOp,Option.map_none];exact E8i ht hs hx hl hhi he hv hp
  ·cases h
 case makeFunc f first captured=>split at h <;> simp only[za,reduceCtorEq]at h;subst h;rename_i a b h1 h2;simp only[execOp];exact F34 (D42 h1) (D42 h2) hs he hv
 case unOp op t x=>split at h <;> simp only[za,reduceCtorEq]at h;subst h;rename_i a hx;simp only[execOp];exact F8p hs hx he hv
 case convert src dst x=>
  split at h
  ·cases h;rename_i ds k a hsrc hk' hx;simp only[execOp];unfold A2h at hk';split at hk'
   ·rename_i k'' hu;cases hk';exact F02 hu ⟨_,hsrc⟩ hs hx he hv
   ·cases hk'
  ·rename_i el a hsrc hk' hx;split at h <;> simp only[za,reduceCtorEq]at h;subst h;rename_i h1 h2 h3;simp only[execOp];exact F3z hsrc h1 h2 hs hx he hv hp
  ·rename_i a hsrc hk' hx;split at h
   case h_2=>cases h
   rename_i el h1;split at h <;> simp only[za,reduceCtorEq]at h;subst h;rename_i h2;simp only[execOp];exact E8h hsrc h1 h2 hs hx he hv
  ·cases h
 case fieldAddr s x f=>
  split at h
  case h_2=>cases h
  rename_i fields a ht hx;split at h
  case h_2=>cases h
  rename_i fd hf;split at h
  case h_2=>cases h
  rename_i n hsz;cases h;simp only[execOp];exact F03 ht hf rfl ⟨n,hsz⟩ hs hx he hv
 case field s x f=>
  split at h
  case h_2=>cases h
  rename_i fields a ht hx;split at h
  case h_2=>cases h
  rename_i fd hf;split at h
  case h_2=>cases h
  rename_i n hn';cases h;simp only[execOp];refine F7a ht hf rfl ?_ hs hx he hv;unfold B8j at hn'
  grind
 case indexAddr t x i=>
  split at h
  ·rename_i el a b ht hx hy;split at h <;> simp only[za,reduceCtorEq]at h;subst h;rename_i z hz;simp only[execOp];exact F04 ht hz hs hx hy he hv hp
  ·rename_i len el a b ht hx hy;split at h <;> simp only[za,reduceCtorEq]at h;subst h;rename_i z hz;simp only[execOp];exact F0z ht hz hs hx hy he hv hp
  ·cases h
 case extract x i=>split at h <;> simp only[za,reduceCtorEq]at h;subst h;rename_i a hx;simp only[execOp];exact F69 hs hx he hv
 case nilCheck x=>split at h <;> simp only[za,reduceCtorEq]at h;subst h;rename_i a hx;exact F09 rfl hs hx he hv
 case makeSlice t l c=>
  split at h
  case h_2=>cases h
  rename_i el ht;split at h
  case h_2=>cases h
  rename_i i a b hi hx hy;split at h
  case h_2=>cases h
  rename_i z hz;split at h
  case isFalse=>cases h
  rename_i hc;cases h;simp only[execOp];exact E50 ht hi hz rfl rfl hc.1 hc.2 hs hx hy he hv hp
 case makeMap t rsv=>
  cases rsv with
  |some _=>simp only[reduceCtorEq]at h
  |none=>
   simp only at h;split at h
   case h_2=>cases h
   split at h
   ·cases h;simp only[execOp,Option.map_none];exact F07 hs hv
   ·split at h
    case h_2=>cases h
    split at h
    case isFalse=>cases h
    cases h;simp only[execOp,Option.map_none];exact E8f hs hv
 case lookup t x i ok=>
  split at h
  case h_2=>cases h
  rename_i kt el a b ht hx hy;split at h
  ·rename_i k z hk' hz;split at h
   case isFalse=>cases h
   rename_i hc;cases h;simp only[execOp];unfold A2h at hk';split at hk'
   ·rename_i k'' hu;cases hk';exact E8e ht hu hz hc.1 (λvs e=>by rw[e]at hc;simp[B5j]at hc) hs hx hy he hv
   ·cases hk'
  ·rename_i z hk' hz;split at h
   case h_2=>cases h
   rename_i sh hsh;split at h
   case isFalse=>cases h
   rename_i hc;cases h;simp only[execOp];exact E5z ht (by rw[hsh,D0n hc.1];simp) hz hc.2.1 (λvs e=>by rw[e]at hc;simp[B5j]at hc) hs hx hy he hv
  ·cases h
 case mapUpdate t x i y=>
  split at h
  case h_2=>cases h
  rename_i kt el a b c ht hx hy hz;split at h
  ·cases h;rename_i k hk';simp only[execOp];unfold A2h at hk';split at hk'
   ·rename_i k'' hu;cases hk';exact F36 ht hu hs hx hy hz he hv
   ·cases hk'
  ·split at h
   case h_2=>cases h
   rename_i sh hsh;split at h
   case isFalse=>cases h
   rename_i hc;cases h;simp only[execOp];exact F08 ht (by rw[hsh,D0n hc];simp) hs hx hy hz he hv
 case call c=>
  obtain⟨callee,args,argTypes⟩:=c;obtain⟨args⟩:=args;obtain⟨argTypes⟩:=argTypes;simp only at h;split at h
  ·
   rename_i x t;obtain⟨bs,hrun⟩:=B60 ρ .len x ⟨[t]⟩ dst type pos after guard;rw[hrun];split at h <;> simp only[za,reduceCtorEq]at h
   ·subst h;rename_i el a ht hx;exact F7b ht hs hx he hv
   ·subst h;rename_i kt el a ht hx;exact F35 ht hs hx he hv
   ·subst h;rename_i a ht hx;exact F39 ht hs hx he hv
  ·
   rename_i x y t u;obtain⟨bs,hrun⟩:=A80 ρ .append x y ⟨[t,u]⟩ dst type pos after guard;rw[hrun];split at h
   case h_2=>cases h
   rename_i el a b ht hx hy;split at h
   case h_2=>cases h
   rename_i i hi;split at h
   case h_2=>cases h
   rename_i z hz;split at h
   ·rename_i hc;cases h;obtain⟨rfl,hzs⟩:=hc;exact E79 ht hi hz rfl rfl hzs hs hx hy he hv hp
   ·split at h
    case isFalse=>cases h
    rename_i hc;cases h;obtain⟨hk,hzs,hone,hpos⟩:=hc;obtain⟨k,hk⟩: ∃k,P.underlying u=some (.int k):=by
     unfold A2h at hk
     grind
    exact F3x ht hk hi hz rfl rfl hzs hone hpos hs hx hy he hv hp
  ·
   rename_i x t;obtain⟨bs,hrun⟩:=B60 ρ .cap x ⟨[t]⟩ dst type pos after guard;rw[hrun];split at h <;> simp only[za,reduceCtorEq]at h;subst h;rename_i el a ht hx;exact F30 ht hs hx he hv
  ·
   rename_i x y t u;obtain⟨bs,hrun⟩:=A80 ρ .copy x y ⟨[t,u]⟩ dst type pos after guard;rw[hrun];split at h
   case h_2=>cases h
   rename_i el a b ht hx hy;split at h <;> simp only[za,reduceCtorEq]at h;subst h;rename_i hz;exact F31 ht hz hs hx hy he hv hp
  ·
   rename_i x t;obtain⟨bs,hrun⟩:=B60 ρ .clear x ⟨[t]⟩ dst type pos after guard;rw[hrun];split at h
   case h_2=>cases h
   rename_i el a ht hx;split at h
   case h_2=>cases h
   rename_i i hi;split at h
   case h_2=>cases h
   rename_i z hz;split at h
   case isFalse=>cases h
   rename_i hc;cases h;exact F67 ht hi hz hc.1 hc.2 hs hx he hv hp
  ·obtain⟨bs,hrun⟩:=A80 ρ .min _ _ ⟨argTypes⟩ dst type pos after guard;rw[hrun];split at h <;> simp only[za,reduceCtorEq]at h;subst h;rename_i a b hx hy;exact D6s (isMax:=false) hs hx hy he hv
  ·obtain⟨bs,hrun⟩:=A80 ρ .max _ _ ⟨argTypes⟩ dst type pos after guard;rw[hrun];split at h <;> simp only[za,reduceCtorEq]at h;subst h;rename_i a b hx hy;exact D6s (isMax:=true) hs hx hy he hv
  ·split at h
   case h_2=>cases h
   split at h
   case isFalse=>cases h
   split at h <;> simp only[za,reduceCtorEq]at h;subst h;simp[AOp.isCall]at hn
  ·split at h <;> simp only[za,reduceCtorEq]at h;subst h;simp[AOp.isCall]at hn
  ·cases h
 all_goals cases h
end
structure Sim (N:Nat) (σ:St) (a:Act) (w:World) (ob:Place) (G:Nat->Prop):Prop where
 size:a.tmps.size=N
 defers:a.defers= []
 objs:E8 G w ob σ.objs
 env: ∀t av,σ.env t=some (true,av)-> ∃v,a.tmps[t]? =some v/\Rel G w ob av v
 env0: ∀t av,σ.env t=some (false,av)->a.tmps[t]? =some undef
def E5g(N:Nat):Option Nat->Bool
 |some d=>decide (d<N)
 |none=>true
def A8g(P:Program)(op:Op):AOp:=match cop P op with |some a=>a |none=> .bad
def B17(P:Program)(N:Nat)(ops:Array Oper)(o:Oper):Option dC:=
 match some (A8g P o.op)with
 |some aop=>
  if E5g N o.dst then
   match o.guard with
   |none=>some ⟨o.dst,aop,none,[]⟩
   |some (j,want)=>match(ops[j]?).bind (·.dst)with
    |some g=>some ⟨o.dst,aop,some (g,want),[]⟩
    |none=>none
  else none
 |none=>none
theorem C02 {e e':AX->Option AV}: ∀(ps:List (Nat×Nat×AX)) (cs:List AV),(∀x∈ps.map (·.2.2),e x=e' x)->A7q e cs ps=A7q e' cs ps
 | [],cs,_=>rfl
 |(o,s,x)::ps,cs,h=>by
  have hx:e x=e' x:=h x p_
  have ih:=λcs=>C02 ps cs (λx hx=>h x (by grind));simp only[A7q,hx,ih]
theorem A8r {e e':AX->Option AV}{o:Option AX}(h: ∀x∈o.toList,e x=e' x):A0k e o=A0k e' o:=by
 cases o with
 |none=>rfl
 |some x=>simp only[A0k,h x p_]
theorem C6b {e e':AX->Option AV}: ∀(l:List AX),(∀x∈l,e x=e' x)->esL e l=esL e' l
 | [],_=>rfl
 |x::l,h=>by simp only[esL,h x p_,C6b l λy hy=>h y (by simp[hy])]
variable {d:Nat} {m:Nat->Option A7}
theorem C3h {op:AOp}{e e':AX->Option AV}(h: ∀x∈op.ops,e x=e' x):eval op e m d=eval op e' m d:=by
 cases op <;> simp only[AOp.ops,zo,zr,zU,forall_eq_or_imp,forall_eq,false_implies,yB]at h <;> simp only[eval]
 case build z ps=>rw[C02 ps _ h]
 case bslice z ps=>rw[C02 _ _ h]
 case slice z x lo hi mx=>
  have h1:=A8r (e:=e) (e':=e') (o:=lo) λx hx=>h.2 x (by grind)
  have h2:=A8r (e:=e) (e':=e') (o:=hi) λx hx=>h.2 x (by grind)
  have h3:=A8r (e:=e) (e':=e') (o:=mx) λx hx=>h.2 x (by simp only[zj];exact .inr hx);simp only[h.1,h1,h2,h3]
 case sslice x lo hi=>
  have h1:=A8r (e:=e) (e':=e') (o:=lo) λx hx=>h.2 x (by simp only[zj];exact .inl hx)
  have h2:=A8r (e:=e) (e':=e') (o:=hi) λx hx=>h.2 x (by simp only[zj];exact .inr hx);simp only[h.1,h1,h2]
 case aslc len z x lo hi=>
  have h1:=A8r (e:=e) (e':=e') (o:=lo) λx hx=>h.2 x (by simp only[zj];exact .inl hx)
  have h2:=A8r (e:=e) (e':=e') (o:=hi) λx hx=>h.2 x (by simp only[zj];exact .inr hx);simp only[h.1,h1,h2]
 case mkfn f a b=>rw[C6b a λx hx=>h x (by simp[hx]),C6b b λx hx=>h x (by simp[hx])]
 all_goals first
  |rfl
  |(simp only[h];done)
  |(obtain⟨h1,h2⟩:=h;simp only[h1,h2];done)
  |(obtain⟨h1,h2,h3⟩:=h;simp only[h1,h2,h3];done)
section
variable {P:Program} {G:Nat->Prop} {w:World} {ob:Place} {N:Nat} {σ:St} {a:Act}
def St.e'(σ:St)(x:AX):Option AV:=match σ.ev x with |some (true,v)=>some v |_=>none
theorem B2x: ∀ {l:List AX},A7f σ true l-> ∀x∈l,σ.c x=true
 | [],_,x,h=>by cases h
 |y::l,hc,x,h=>by
  rcases zo.1 h with rfl |h
  ·exact hc.1 rfl
  ·exact B2x hc.2 x h
theorem A88 {x:AX}(h:σ.c x=true):σ.e x=σ.e' x:=by
 unfold St.c at h;unfold St.e St.e'
 grind
variable {v:Value} {av:AV}
theorem E5c(h:C1y v=some av):Rel G w ob av v:=by
 cases v with
 |agg cs=>
  simp only[C1y]at h;split at h
  ·rename_i hone;cases h;have:=D4s (G:=G) (w:=w) (ob:=ob) (Z:=cs) hone;exact .agg cs this.1 this.2.1 this.2.2
  ·cases h
 |tuple vs=>simp[C1y]at h
 |_=>simp only[C1y,za]at h;subst h;exact .sc rfl
theorem Sim.opRel(hs:Sim N σ a w ob G):O0 G w ob a.eval σ.e':=by
 intro x ax av hx he;cases x with
 |tmp t=>
  simp only[cx,za]at hx;subst hx;simp only[St.e',St.ev]at he;split at he
  ·rename_i v hv;simp only[za]at he;subst he;obtain⟨u,h1,h2⟩:=hs.env t v hv;simp only[Act.eval];rw[E3q h1];exact h2
  ·cases he
 |const v=>simp only[cx,zh]at hx;obtain⟨c,hc,rfl⟩:=hx;simp only[St.e',St.ev,za]at he;subst he;exact E5c hc
 |func f=>simp only[cx,za]at hx;subst hx;simp only[St.e',St.ev,za]at he;subst he;exact .fn #[] #[] rfl rfl (λj av h=>by simp at h) (λj av h=>by simp at h)
 |global g=>simp[cx]at hx
variable {w':World} {ob':Place} {G':Nat->Prop}
theorem Sim.put_true {a:Act}(hs:Sim N σ a w ob G){dst:Option Nat}{r:Res}{v:Value}
  (hd:match dst with |some d=>d<N |none=>True)
  (ho:E8 G' w' ob' (wrm σ.objs r.wr))(hr: ∀av,r.val=some av->Rel G' w' ob' av v)(hob:D4 ob ob')(hfr:Fr G w ob G' w' ob'):
  Sim N (σ.put dst true r) (a.put dst v) w' ob' G':=by
 have hold: ∀av v,Rel G w ob av v->Rel G' w' ob' av v:=λav v h=>h.ext hfr.sub (λb hb=>hfr.same b (hs.objs.lt b hb) (.inl hb)) hob;cases dst with
 |none=>exact⟨hs.size,hs.defers,ho,λt av ht=>let⟨u,h1,h2⟩:=hs.env t av ht;⟨u,h1,hold av u h2⟩,hs.env0⟩
 |some d=>
  refine⟨by simp[Act.put,hs.size],hs.defers,ho,λt av ht=> ?_,λt av ht=> ?_⟩;rotate_left
  ·simp only[St.put]at ht;by_cases htd:t=d
   ·subst htd;rw[A03]at ht;cases hv:r.val <;> simp[hv]at ht
   ·rw[J0 htd]at ht;simp only[Act.put];rw[qQ (λe=>htd e.symm)];exact hs.env0 t av ht
  simp only[St.put]at ht;by_cases htd:t=d
  ·subst htd;rw[A03]at ht;cases hv:r.val with
   |none=>simp[hv]at ht
   |some av'=>
    simp only[hv,za,zq,qo]at ht;subst ht;have hlt:t<a.tmps.size:=by rw[hs.size];exact hd
    exact⟨v,by simp[Act.put,hlt],hr av' hv⟩
  ·rw[J0 htd]at ht;obtain⟨u,h1,h2⟩:=hs.env t av ht;exact⟨u,by simp only[Act.put];grind,hold av u h2⟩
theorem Sim.put_false(hs:Sim N σ a w ob G){dst:Option Nat}{r:Res}(hd:match dst with |some d=>d<N |none=>True)(hw:r.wr= []):Sim N (σ.put dst false r) (a.put dst undef) w ob G:=by
 have ho:E8 G w ob (σ.put dst false r).objs:=by simp only[St.put,hw];exact hs.objs
 cases dst with
 |none=>exact⟨hs.size,hs.defers,ho,hs.env,hs.env0⟩
 |some d=>
  refine⟨by simp[Act.put,hs.size],hs.defers,ho,λt av ht=> ?_,λt av ht=> ?_⟩;rotate_left
  ·simp only[St.put]at ht;by_cases htd:t=d
   ·subst htd;have hlt:t<a.tmps.size:=by rw[hs.size];exact hd
    simp[Act.put,hlt]
   ·rw[J0 htd]at ht;simp only[Act.put];rw[qQ (λe=>htd e.symm)];exact hs.env0 t av ht
  simp only[St.put]at ht;by_cases htd:t=d
  ·subst htd;rw[A03]at ht;cases hv:r.val <;> simp[hv]at ht
  ·rw[J0 htd]at ht;obtain⟨u,h1,h2⟩:=hs.env t av ht;exact⟨u,by simp only[Act.put];grind,h2⟩
theorem D9i: ∀ {l:List Operand} {al:List AX},cxs l=some al->al.length=l.length/\ ∀(j:Nat) (x:Operand),l[j]? =some x-> ∃ax,al[j]? =some ax/\cx x=some ax
 | [],al,h=>by simp only[cxs,za]at h;grind
 |x::l,al,h=>by
  simp only[cxs]at h;split at h
  ·rename_i a al' h1 h2;cases h;obtain⟨h3,h4⟩:=D9i h2
   grind
  ·cases h
theorem C8n: ∀ {l:List AX} {vs:List AV},σ.es l=some vs->vs.length=l.length/\ ∀(j:Nat) (av:AV),vs[j]? =some av-> ∃x,l[j]? =some x/\σ.e x=some av
 | [],vs,h=>by simp only[St.es,za]at h;grind
 |x::l,vs,h=>by
  simp only[St.es]at h;split at h
  ·rename_i v vs' h1 h2;cases h;obtain⟨h3,h4⟩:=C8n h2
   grind
  ·cases h
theorem D0r(hs:Sim N σ a w ob G){l:List Operand}{al:List AX}{vs:List AV}(hc:cxs l=some al)(he:σ.es al=some vs)(hcc: ∀x∈al,σ.c x=true):
  A59 G w ob vs (l.map a.eval):=by
 obtain⟨h1,h2⟩:=D9i hc;obtain⟨h3,h4⟩:=C8n he;refine⟨by simp[h1,h3],λj av hj=> ?_⟩;obtain⟨ax,h5,h6⟩:=h4 j av hj;have hjl:j<l.length:=by grind
 obtain⟨ax',h7,h8⟩:=h2 j l[j] (zg hjl);rw[h5]at h7;injection h7 with h7;subst h7;have:=hs.opRel l[j] ax av h8 (by rw[<-A88 (hcc ax (qv h5))];exact h6)
 grind
theorem C94 {xs ys:List AV}{us vs:List Value}(h1:A59 G w ob xs us)(h2:A59 G w ob ys vs):A59 G w ob (xs++ys) (us++vs):=by
 refine⟨by simp[h1.1,h2.1],λj av hj=> ?_⟩;by_cases hjl:j<xs.length
 ·rw[ql hjl]at hj;have:=h1.2 j av hj;simpa[List.getD,ql (show j<us.length by rw[h1.1];exact hjl)]using this
 ·rw[zY o_]at hj;have:=h2.2 _ av hj;simpa[List.getD,zY (show us.length<=j by rw[h1.1];omega),h1.1]using this
variable {f:FuncId}
theorem A8a(h:A3p P f=true)(args:Array Value):(callFunc f args).run P w= .ok (.enter f args) w:=by
 unfold A3p at h;unfold callFunc;cases hf:P.funcs[f]? with
 |none=>simp[hf]at h
 |some fn=>simp only[hf,zi,qB,ne_eq]at h;obtain⟨c,hc⟩:=qr.1 h.1;have hn:=h.2;simp[hf,hc,hn]
variable {ao:dC}
theorem C6k {ops:Array Oper}{o:Oper}(hs:Sim N σ a w ob G)(hc:B17 P N ops o=some ao){b:Bool}(hg:A2b σ ao.guard=some b):
  Region.wanted o (yielded ops a.tmps)=b:=by
 unfold B17 at hc;split at hc
 case h_2=>cases hc
 split at hc
 case isFalse=>cases hc
 split at hc
 ·rename_i hgd;cases hc;simp only[A2b,za]at hg;subst hg;simp[Region.wanted,hgd]
 ·rename_i j want hgd;split at hc
  case h_2=>cases hc
  rename_i g hdst;cases hc;simp only[A2b]at hg;split at hg
  case h_2=>cases hg
  rename_i c q hq;cases hg;cases c with
  |true=>obtain⟨v,h1,h2⟩:=hs.env g _ hq;have hv:=h2.sc_eq;subst hv;simp only[Region.wanted,hgd,yielded,hdst,Option.bind_some,h1];cases q <;> cases want <;> rfl
  |false=>have h1:=hs.env0 g _ hq;simp only[Region.wanted,hgd,yielded,hdst,Option.bind_some,h1,undef,zI];rfl
theorem C0z {ops:Array Oper}{o:Oper}(hc:B17 P N ops o=some ao):A8g P o.op=ao.op/\ao.dst=o.dst/\(match o.dst with |some d=>d<N |none=>True):=by
 unfold B17 at hc;split at hc
 case h_2=>cases hc
 rename_i aop hop;split at hc
 case isFalse=>cases hc
 rename_i hd;have hdd:(match o.dst with |some d=>d<N |none=>True):=by
  cases ho:o.dst with
  |none=>trivial
  |some d=>rw[ho]at hd;simpa[E5g]using hd
 grind
theorem D02 {op:Op}{aop:AOp}(h:cop P op=some aop):(aop.isPick=true-> ∃c x y,op= .pick c x y)/\(aop.isCall=true-> ∃c,op= .call c):=by
 cases op <;> simp only[cop]at h
 case makeMap t rsv=>
  cases rsv <;> simp only at h
  ·(repeat' split at h) <;> simp only[za,reduceCtorEq]at h <;>
     (subst h;exact⟨λh=>by simp[AOp.isPick]at h,λh=>by simp[AOp.isCall]at h⟩)
  ·cases h
 case pick c x y=>refine⟨λ_=>⟨c,x,y,rfl⟩,λhc=> ?_⟩;split at h <;> simp only[za,reduceCtorEq]at h;subst h;simp[AOp.isCall]at hc
 case call c=>
  refine⟨λhp=> ?_,λ_=>⟨c,rfl⟩⟩
  (repeat' split at h) <;> simp only[za,reduceCtorEq]at h <;> subst h <;> simp[AOp.isPick]at hp
 all_goals first
  |(cases h;done)
  |((repeat' split at h) <;> first
     |(cases h;done)
     |(cases h;exact⟨λh=>by simp[AOp.isPick]at h,λh=>by simp[AOp.isCall]at h⟩))
variable {avs:List AV}
theorem B2e {op:AOp}(h:target σ op=some (f,avs)):op.isCall=true:=by cases op <;> first |rfl |(simp[target]at h;done)
variable {z:Nat}
theorem E5d {op:Op}{a b:AX}(h:cop P op=some (.append z bytes a b)): ∃x y t el i zv,op= .call ⟨.builtin .append,⟨[x,y]⟩,⟨[t,t]⟩⟩/\P.underlying t=some (.slice el)/\P.info? el=some i/\i.zero=some zv/\
  zv.cells.size=i.size/\i.size=z/\i.bytes=bytes/\cx x=some a/\cx y=some b:=by
 cases op <;> simp only[cop]at h
 case makeMap t rsv=>grind
 case call c=>
  obtain⟨callee,args,argTypes⟩:=c;obtain⟨args⟩:=args;obtain⟨argTypes⟩:=argTypes;simp only at h;split at h
  case h_2=>grind
  all_goals((repeat' split at h) <;> simp only[za,reduceCtorEq]at h)
 all_goals first
  |(cases h;done)
  |((repeat' split at h) <;> simp only[za,reduceCtorEq]at h)
theorem D6g {op:Op}{a:AX}{l h q:Option AX}(hc:cop P op=some (.slice z a l h q)): ∃t el x lo hi mx,op= .slice t x lo hi mx/\P.underlying t=some (.slice el)/\Y8 P el=some z/\cx x=some a/\cxo lo=some l/\cxo hi=some h/\cxo mx=some q:=by
 cases op <;> simp only[cop]at hc
 case makeMap t rsv=>grind
 case slice t x lo hi mx=>grind
 all_goals first
  |(cases hc;done)
  |((repeat' split at hc) <;> simp only[za,reduceCtorEq]at hc)
theorem C10 {ops:Array Oper}{o:Oper}(hc:B17 P N ops o=some ao)(hs:Sim N σ a w ob G){b:Bool}{r:Res}(hd:A3s P ao σ b r)
  {K:Act->World->Prop}{Q:Exit->Act->World->Prop}
  (hK: ∀a' w' ob' G',Sim N (σ.put ao.dst b r) a' w' ob' G'->Fr G w ob G' w' ob'->D4 ob ob'->K a' w'):
  if Region.wanted o (yielded ops a.tmps)then o.wp P a w K Q else K (a.put o.dst undef) w:=by
 obtain⟨hop,hdst,hdN⟩:=C0z hc;have hwr:r.wr≠ []->b=true:=by cases hd <;> first |assumption |simp
 have hgv:A2b σ ao.guard=some b:=by cases hd <;> assumption
 rw[C6k hs hc hgv];cases b with
 |false=>
  rw[zb p_];have hw:r.wr= []:=by grind
  rw[<-hdst];exact hK _ w ob G (hs.put_false (hdst▸hdN) hw) (Fr.refl G w ob) (D4.refl ob)
 |true=>
  rw[zc rfl];have fin:E6 P G w ob σ.objs (execOp a.eval o) r->o.wp P a w K Q:=by
   rintro⟨G',w',ob',v,hrun,h1,h2,h3,h4⟩;have hsim:=hs.put_true (dst:=o.dst) (r:=r) (v:=v) hdN h1 h2 h3 h4;rw[<-hdst]at hsim;unfold Oper.wp;rcases hrun with hrun |⟨hrun,rfl⟩
   ·rw[hrun];simp only[Oper.upon];grind
   ·rw[hrun];simp only[Oper.upon];grind
  have hop':cop P o.op=some ao.op:=by
   unfold A8g at hop;split at hop
   ·rename_i a ha;rw[ha,hop]
   ·exfalso;cases hd with
    |op _ p r d hg hb hcc hp hw=>rw[<-hop]at hb;simp[eval]at hb
    |pick _ c x y q p1 p2 c1 c2 cc ho=>rw[<-hop]at ho;cases ho
    |call _ f avs r hg ht=>rw[<-hop]at ht;simp[target]at ht
    |inpl z bytes x y id n tot s q v p ho=>rw[<-hop]at ho;cases ho
    |sl3 z x lo hi mx id off n tot s l h k ho=>rw[<-hop]at ho;cases ho
    |slx z x lo hi mx id n tot s l h ho=>rw[<-hop]at ho;cases ho
  replace hop:=hop';cases hd with
  |op _ p r d hg hb hcc hp hw=>
   have hcc':=B2x hcc
   have hb':eval ao.op σ.e' σ.objs d=some (p,r):=by rw[<-C3h (λx hx=>A88 (hcc' x hx))];exact hb
   refine fin (F59 hop ?_ ?_ (λ_=>rfl) hs.objs hs.opRel hb' (hp rfl))
   ·cases hao:ao.op <;> simp_all [eval,AOp.isCall]
   ·cases hao:ao.op <;> simp_all [eval,AOp.isPick]
  |pick _ c x y q p1 p2 c1 c2 cc ho hg hq hx hy hcc=>
   obtain⟨hct,hc1,hc2⟩:=hcc rfl;rw[ho]at hop;obtain⟨dst,op,type,pos,after,guard⟩:=o;have key: ∃c' x' y',op= .pick c' x' y'/\cx c'=some c/\cx x'=some x/\cx y'=some y:=by
    simp only at hop;obtain⟨c',x',y',rfl⟩:=(D02 hop).1 rfl;simp only[cop]at hop
    grind
   obtain⟨c',x',y',rfl,h1,h2,h3⟩:=key;have hcv:a.eval c'= .bool q:=(hs.opRel c' c (.sc (.bool q)) h1 (by simp[St.e',hq,hct])).sc_eq;refine fin (E6.quiet hs.objs (v:= .bool (if q then p1 else p2)) ?_ (.sc rfl));cases q with
   |true=>have hxv:a.eval x'= .bool p1:=(hs.opRel x' x (.sc (.bool p1)) h2 (by simp[St.e',hx rfl,hc1 rfl])).sc_eq;simp[execOp,hcv,hxv,asBool]
   |false=>have hyv:a.eval y'= .bool p2:=(hs.opRel y' y (.sc (.bool p2)) h3 (by simp[St.e',hy rfl,hc2 rfl])).sc_eq;simp[execOp,hcv,hyv,asBool]
  |inpl z bytes x y id n tot s q v p ho hg hx hy hm hsrc hcc hp=>
   have hcc':=B2x hcc;rw[ho]at hop;obtain⟨dst,op,type,pos,after,guard⟩:=o;obtain⟨x',y',t,el,i,zv,rfl,ht,hi,hz,hzs,rfl,rfl,h1,h2⟩:=E5d hop;obtain⟨bs,hrun⟩:=A80 a.eval .append x' y' ⟨[t,t]⟩ dst type pos after guard;refine fin ?_;rw[hrun];obtain⟨q1,q2,q3,q4,q5⟩:=hp;have hmem:x∈ao.op.ops/\y∈ao.op.ops:=by rw[ho];simp[AOp.ops]
   exact F32 ht hi hz rfl rfl hzs hs.objs h1 h2 hs.opRel (by rw[<-A88 (hcc' x hmem.1)];exact hx) (by rw[<-A88 (hcc' y hmem.2)];exact hy) hm hsrc q1 q2 q3 q4 q5
  |sl3 z x lo hi mx id off n tot s l h k ho hg hx hl hh hk hm hcc hp=>
   have hcc':=B2x hcc;rw[ho]at hop;obtain⟨dst,op,type,pos,after,guard⟩:=o;obtain⟨t,el,x',lo',hi',mx',rfl,ht,hz,h1,h2,h3,h4⟩:=D6g hop;refine fin ?_;obtain⟨q1,q2,q3,q4,q5,q6,q7⟩:=hp;have hopt: ∀y∈ [lo,hi,mx],A0k σ.e' y=A0k σ.e y:=λy hy=>by
    cases y with
    |none=>rfl
    |some b=>
     have:b∈ao.op.ops:=by
      rw[ho];simp only[AOp.ops,zo,zj,yV,xi]
      grind
     simp only[A0k];rw[A88 (hcc' b this)]
   have hmem:x∈ao.op.ops:=by rw[ho];simp[AOp.ops]
   have hr:=hs.opRel x' x _ h1 ((A88 (hcc' x hmem)).symm.trans hx)
   have hL:=A0u hs.opRel h2 ((hopt lo p_).trans hl)
   have hH:=A0u hs.opRel h3 ((hopt hi p_).trans hh)
   have hM:=A0u hs.opRel h4 ((hopt mx p_).trans hk)
   have shape: ∃b cap,a.eval x'= .slice b n cap/\n<=cap:=by
    generalize a.eval x'=v at hr;cases hr with
    |sl i hi2 hle hss hvv=>
     obtain⟨_,_,hl1,_,hrow⟩:=hs.objs.own id _ i hm hi2;obtain⟨v1,v2,v3⟩:=hvv (by rw[hl1,q1])
     grind
   obtain⟨b,cap,hxe,hcap⟩:=shape;have hrun:=B85 (w:=w) ht hz hL hH hM (a:=b) hcap q2 q3 q4 (by simpa using q5) (by simp only[Option.getD_some];omega) (λ_=>q7);simp only[execOp];rw[hxe];exact⟨G,w,ob,_, .inl (A3n hrun),hs.objs,λ_ e=>(by cases e),D4.refl ob,Fr.refl G w ob⟩
  |slx z x lo hi mx id n tot s l h ho hg hx hl hh hk hm hcc hp=>
   have hcc':=B2x hcc;rw[ho]at hop;obtain⟨dst,op,type,pos,after,guard⟩:=o;obtain⟨t,el,x',lo',hi',mx',rfl,ht,hz,h1,h2,h3,h4⟩:=D6g hop;refine fin ?_;simp only[execOp];have hopt: ∀y∈ [lo,hi,mx],A0k σ.e' y=A0k σ.e y:=λy hy=>by
    cases y with
    |none=>rfl
    |some b=>
     have:b∈ao.op.ops:=by
      rw[ho];simp only[AOp.ops,zo,zj,yV,xi]
      grind
     simp only[A0k];rw[A88 (hcc' b this)]
   have hmem:x∈ao.op.ops:=by rw[ho];simp[AOp.ops]
   exact F7c ht hz h2 h3 h4 hs.objs h1 hs.opRel ((A88 (hcc' x hmem)).symm.trans hx) ((hopt lo p_).trans hl) ((hopt hi p_).trans hh) ((hopt mx p_).trans hk) hm hp
  |call _ f avs r hg ht hcc hdd hw=>
   have hcd:=hdd rfl
   have hcc':=B2x hcc;obtain⟨dst,op,type,pos,after,guard⟩:=o;have key: ∃vals:List Value,(execOp a.eval ⟨dst,op,type,pos,after,guard⟩).run P w= .ok (.enter f vals.toArray) w/\A59 G w ob avs vals:=by
    simp only at hop;have hcall:=hcd.callable;obtain⟨cl,rfl⟩:=(D02 hop).2 (B2e ht);simp only[cop]at hop;obtain⟨callee,args,argTypes⟩:=cl;obtain⟨args⟩:=args;obtain⟨argTypes⟩:=argTypes;simp only at hop;split at hop
    ·exfalso;split at hop <;> simp only[za,reduceCtorEq]at hop <;> (rw[<-hop]at ht;simp[target]at ht)
    ·exfalso;split at hop
     ·split at hop
      ·split at hop
       ·split at hop
        ·simp only[za]at hop;rw[<-hop]at ht;simp[target]at ht
        ·split at hop
         ·simp only[za]at hop;rw[<-hop]at ht;simp[target]at ht
         ·cases hop
       ·cases hop
      ·cases hop
     ·cases hop
    ·exfalso;split at hop <;> simp only[za,reduceCtorEq]at hop;rw[<-hop]at ht;simp[target]at ht
    ·exfalso;split at hop
     ·split at hop <;> simp only[za,reduceCtorEq]at hop;rw[<-hop]at ht;simp[target]at ht
     ·cases hop
    ·exfalso;split at hop
     ·split at hop
      ·split at hop
       ·split at hop
        ·simp only[za]at hop;rw[<-hop]at ht;simp[target]at ht
        ·cases hop
       ·cases hop
      ·cases hop
     ·cases hop
    ·exfalso;split at hop <;> simp only[za,reduceCtorEq]at hop;rw[<-hop]at ht;simp[target]at ht
    ·exfalso;split at hop <;> simp only[za,reduceCtorEq]at hop;rw[<-hop]at ht;simp[target]at ht
    ·
     split at hop
     case h_2=>cases hop
     split at hop
     case isFalse=>cases hop
     split at hop
     case h_2=>cases hop
     rename_i al hal;simp only[za]at hop;rw[<-hop]at ht hcc';simp only[target]at ht;split at ht
     case h_2=>cases ht
     rename_i vs hvs;cases ht;refine⟨args.map a.eval,?_,D0r hs hal hvs hcc'⟩;simp[execOp,resolve,Act.eval,Deferred.ofValue,invoke,A8a hcall]
    ·
     rename_i x _;split at hop
     case h_2=>cases hop
     rename_i ax al hax hal;simp only[za]at hop;rw[<-hop]at ht hcc';simp only[target]at ht;split at ht
     case h_2=>cases ht
     rename_i f' first cap vs hfv hvs
     cases ht;have hxr:=hs.opRel x ax _ hax (by rw[<-A88 (hcc' ax (by simp[AOp.ops]))];exact hfv)
     have har:=D0r hs hal hvs (λx hx=>hcc' x (by simp[AOp.ops,hx]));generalize hxv:a.eval x=xv at hxr;cases hxr with
     |fn fs us hn hm hr hq=>refine⟨fs.toList++args.map a.eval++us.toList,?_,C94 (C94 ⟨by simp[hn],λj av hj=>by simpa using hr j av hj⟩ har) ⟨by simp[hm],λj av hj=>by simpa using hq j av hj⟩⟩;simp[execOp,resolve,hxv,Deferred.ofValue,invoke,A8a hcall]
    ·cases hop
   obtain⟨vals,hrun,hrel⟩:=key;unfold Oper.wp;rw[hrun];simp only[Oper.upon];refine(C9t hcd hs.objs hrel).mono ?_;rintro e w' ⟨v,G',ob',rfl,h1,h2,h3,h4⟩;have hsim:=hs.put_true (dst:=dst) (r:=r) (v:=v) hdN h1 h2 h3 h4
   grind
end
def AOp.mayWrite:AOp->Bool
 | .alloc _ | .box _ | .bslice .. | .store .. | .append .. | .mkslice .. | .mkmap _ | .mset .. | .mkmapS _ | .msetS .. | .aslice .. | .aslc .. | .copy .. | .clr .. | .appz .. | .call .. | .callv .. =>true
 |_=>false
def AOp.touches:AOp->Bool
 | .load .. | .iaddr .. | .mlen _ | .lookup .. | .lookupS .. | .isnil .. | .slice .. | .bstr .. =>true
 |op=>op.mayWrite
def A0j(σ:St)(o:dC):List Nat:=if o.op.touches then o.op.ops.flatMap (λx=>match σ.e x with |some v=>(if o.op.isCall then A76 σ.objs v else v.ids) |none=> [])else []
def keys(r:Res):List Nat:=r.wr.map (·.1)
section
variable {P:Program}
variable {σ:St} {o:dC}
theorem B8x {x:AX}{v:AV}(ht:o.op.touches=true)(hx:x∈o.op.ops)(hv:σ.e x=some v){i:Nat}(hi:i∈v.ids):i∈A0j σ o:=by unfold A0j;rw[zc ht,yX];exact⟨x,hx,by rw[hv];dsimp only;split;exact C3l hi;exact hi⟩
theorem C0g {x:AX}{v:AV}(ht:o.op.touches=true)(hc:o.op.isCall=true)(hx:x∈o.op.ops)(hv:σ.e x=some v){i:Nat}(hi:i∈A76 σ.objs v):i∈A0j σ o:=by unfold A0j;rw[zc ht,yX];exact⟨x,hx,by rw[hv];dsimp only;rw[zc hc];exact hi⟩
variable {av:AV}
theorem D91 {v:AV}(h: ∀i∈av.ids,i∈v.ids){i:Nat}(hi:i∈A76 m av):i∈A76 m v:=by
 unfold A76 at hi⊢;rcases zj.1 hi with hi |hi
 ·exact zj.2 (.inl (h i hi))
 ·obtain⟨j,hj,hji⟩:=yX.1 hi;exact zj.2 (.inr (yX.2 ⟨j,h j hj,hji⟩))
mutual
theorem C6i {m m':Nat->Option A7}: ∀ {c:AV},(∀i∈c.ids,m i=m' i)->R5 m c=R5 m' c
 | .sl id off len tot,h=>by simp only[R5];rw[h id (by simp[AV.ids])]
 | .ptr id k o tot,h=>by simp only[R5];rw[h id (by simp[AV.ids])]
 | .fn f a b,h=>by simp only[R5];rw[B24 (cs:=a) (λi hi=>h i (by simp[AV.ids,hi])),B24 (cs:=b) (λi hi=>h i (by simp[AV.ids,hi]))]
 | .sc _,_=>rfl
 | .dsl ..,_=>rfl
 | .dslx ..,_=>rfl
 | .dE _,_=>rfl
 | .mp _,_=>rfl
 | .agg _,_=>rfl
 | .tup _,_=>rfl
 | .own ..,_=>rfl
 | .hole,_=>rfl
theorem B24 {m m':Nat->Option A7}: ∀ {cs:List AV},(∀i∈F6 cs,m i=m' i)->A1b m cs=A1b m' cs
 | [],_=>rfl
 |c::cs,h=>by simp only[A1b];rw[C6i (λi hi=>h i (by simp[F6,hi])),B24 (λi hi=>h i (by simp[F6,hi]))]
end
variable {m':Nat->Option A7}
theorem E5s {c:AV}(h: ∀i∈c.ids,m i=m' i):A0x m c=A0x m' c:=by
 cases c with
 |agg cs=>simp only[A0x];rw[B24 (λi hi=>h i (by simpa[AV.ids]using hi))]
 |tup cs=>rfl
 |_=>simp only[A0x];exact C6i h
variable {z:Nat}
theorem B5r {c:AV}(h: ∀i∈c.ids,m i=m' i):Y2 m z c=Y2 m' z c:=by
 cases c with
 |sl id off len tot=>simp only[Y2];rw[h id (by simp[AV.ids])]
 |sc v=>unfold Y2;split <;> first |rfl |simp_all
 |_=>rfl
theorem D23(v:AV): ∀i∈F6 v.cells,i∈v.ids:=by
 intro i hi;cases v with
 |agg cs=>simpa[AV.cells,AV.ids]using hi
 |tup l=>simpa[AV.cells,AV.ids,F6]using hi
 |_=>simpa[AV.cells,F6]using hi
theorem D6j {e:AX->Option AV}: ∀(ps:List (Nat×Nat×AX)) (cs cs':List AV),A7q e cs ps=some cs'-> ∀i∈F6 cs',i∈F6 cs\/ ∃x∈ps.map (·.2.2),∃v,e x=some v/\i∈v.ids
 | [],cs,cs',h=>by simp only[A7q,za]at h;subst h;exact λi hi=> .inl hi
 |(o,s,x)::ps,cs,cs',h=>by
  simp only[A7q]at h;split at h
  ·cases h
  ·rename_i v hnt hv;split at h
   ·rename_i hc;intro i hi;rcases D6j ps _ _ h i hi with h1 |⟨y,h1,u,h2,h3⟩
    ·have: ∀(cs p:List AV) (n:Nat),∀i∈F6 (T3 cs n p),i∈F6 cs\/i∈F6 p:=by
      have happ: ∀(a b:List AV),F6 (a++b)=F6 a++F6 b:=by
       intro a b;induction a with
       |nil=>rfl
       |cons c a ih=>simp[F6,ih]
      have hdrop: ∀(n:Nat) (a:List AV),∀i∈F6 (a.drop n),i∈F6 a:=by
       intro n;induction n with
       |zero=>intro a i hi;simpa using hi
       |succ n ih=>intro a i hi;cases a with
        |nil=>simpa using hi
        |cons c a=>simp only[List.drop_succ_cons]at hi;simp[F6,ih a i hi]
      intro cs p n;induction cs generalizing n with
      |nil=>cases n <;> intro i hi
            ·simp only[T3,List.drop_nil,qF]at hi;exact .inr hi
            ·simp only[T3]at hi;exact .inr hi
      |cons c cs ih=>
       cases n with
       |zero=>
        intro i hi;simp only[T3,happ,zj]at hi
        grind
       |succ n=>
        intro i hi;simp only[T3,F6,zj]at hi⊢
        grind
     rcases this _ _ _ i h1 with h4 |h4
     ·exact .inl h4
     ·exact .inr ⟨x,p_,v,hv,D23 v i h4⟩
    grind
   ·cases h
  ·cases h
theorem F3q(l:List Value):F6 (l.map .sc)= []:=by
 induction l with
 |nil=>rfl
 |cons v l ih=>simp[F6,AV.ids,ih]
variable {r:Res}
theorem F6l {op:AOp}{e:AX->Option AV}(hv:eval op e m d=some (p,r))
  (h1:op.touches=true-> ∀x∈op.ops,∀v,e x=some v-> ∀i∈v.ids,m i=m' i)(h2: ∀i∈keys r,m i=m' i):eval op e m' d=some (p,r):=by
 cases op <;> simp only[eval]at hv <;> simp only[eval]
 case mov=>exact hv
 case alloc z=>
  split at hv
  ·rename_i hm;cases hv;rw[<-h2 (nid d) (by simp[keys]),hm]
  ·cases hv
 case box x=>
  have hd:m (nid d)=none:=by grind
  have hk:nid d∈keys r:=by
   rw[hd]at hv;cases hx:e x with
   |none=>simp[hx]at hv
   |some v=>rw[hx]at hv;cases v <;> simp at hv <;> (obtain⟨_,rfl⟩:=hv;simp[keys])
  rw[<-h2 _ hk];exact hv
 case build=>exact hv
 case bslice z len zero ps=>
  split at hv
  case h_2=>cases hv
  rename_i cs hm hf;split at hv
  case h_2=>cases hv
  rename_i p' cs' wr hfr;cases hv;have hfr':A1b m' cs=A1b m cs:=(B24 λi hi=>by
   rcases D6j _ _ _ hf i hi with h |⟨x,hx,v,hv,hi⟩
   ·rw[F3q]at h;cases h
   ·exact h1 rfl x hx v hv i hi).symm
  rw[<-h2 (nid d) (by simp[keys]),hm,hf];simp only[hfr',hfr]
 case load n x=>
  split at hv
  ·omega
  ·rename_i id k o tot hx
   (try simp only[hx])
   have hid:=h1 rfl x (by simp[AOp.ops]) _ hx id (by simp[AV.ids])
   have:cellsOf m' id k tot=cellsOf m id k tot:=by unfold cellsOf;rw[hid]
   rw[this,<-hid];cases hm:m id with
   |none=>rw[hm]at hv;exact hv
   |some obj=>
    rw[hm]at hv;cases obj with
    |arrP z s=>
     simp only at hv⊢;generalize List.drop o (s.g k)=l at hv⊢;cases l with
     |nil=>exact hv
     |cons c cs=>
      cases c with
      |own z' n' g'=>
       simp only[B00]at hv⊢;split at hv
       ·rename_i hnd;cases hv;rw[<-h2 (nid d) (by simp[keys]),hnd]
       ·cases hv
      |_=>exact hv
    |_=>exact hv
  ·cases hv
 case store n x y=>
  split at hv
  case h_2=>cases hv
  rename_i id k o tot v hx hy;have hid:=h1 rfl x (by simp[AOp.ops]) _ hx id (by simp[AV.ids])
  (try simp only[hx,hy])
  rw[<-hid];split at hv
  ·rename_i z s hm
   (try simp only[hm])
   cases v with
   |sl id' off len tot'=>simp only[C2u]at hv⊢;rw[<-h1 rfl y (by simp[AOp.ops]) _ hy id' (by simp[AV.ids])];exact hv
   |_=>exact hv
  ·omega
  ·rename_i z s hm;have:A1b m' v.cells=A1b m v.cells:=(B24 λi hi=>h1 rfl y (by simp[AOp.ops]) _ hy i (D23 v i hi)).symm
   grind
  ·cases hv
 case iaddr z x y=>
  split at hv
  ·omega
  ·omega
  ·rename_i id off len tot k j hx hy
   (try simp only[hx,hy])
   rw[<-h1 rfl x (by simp[AOp.ops]) _ hx id (by simp[AV.ids])];exact hv
  ·cases hv
 case mlen x=>
  split at hv
  ·rename_i id hx
   (try simp only[hx])
   rw[<-h1 rfl x (by simp[AOp.ops]) _ hx id (by simp[AV.ids])];exact hv
  ·cases hv
 case append z by_ x y=>
  split at hv
  ·rename_i b hx hy
   (try simp only[hx,hy])
   have hs:Y2 m' z b=Y2 m z b:=(B5r λi hi=>h1 rfl y (by simp[AOp.ops]) _ hy i hi).symm;split at hv
   case h_2=>cases hv
   rename_i p' t hm hsrc;cases hv;rw[<-h2 (nid d) (by simp[keys]),hm,hs,hsrc]
  ·rename_i z' n g b hx hy
   (try simp only[hx,hy])
   have hs:Y2 m' z b=Y2 m z b:=(B5r λi hi=>h1 rfl y (by simp[AOp.ops]) _ hy i hi).symm;rw[hs];exact hv
  ·rename_i id off n tot b hx hy
   (try simp only[hx,hy])
   have hs:Y2 m' z b=Y2 m z b:=(B5r λi hi=>h1 rfl y (by simp[AOp.ops]) _ hy i hi).symm;rw[<-h1 rfl x (by simp[AOp.ops]) _ hx id (by simp[AV.ids]),hs];exact hv
  ·cases hv
 case mkslice z by_ zero x y=>
  split at hv
  case h_2=>cases hv
  rename_i k1 l k2 c hm hx hy;cases hv;rw[<-h2 (nid d) (by simp[keys]),hm,hx,hy]
 case mkmap k=>
  split at hv
  ·rename_i hm;cases hv;rw[<-h2 (nid d) (by simp[keys]),hm]
  ·cases hv
 case lookup k zero ok x y=>
  split at hv
  case h_2=>cases hv
  rename_i id k' z hx hy
  (try simp only[hx,hy])
  rw[<-h1 rfl x (by simp[AOp.ops]) _ hx id (by simp[AV.ids])];exact hv
 case mset k x y u=>
  split at hv
  case h_2=>cases hv
  rename_i id k' z v hx hy hu
  (try simp only[hx,hy,hu])
  rw[<-h1 rfl x (by simp[AOp.ops]) _ hx id (by simp[AV.ids])];exact hv
 case mkmapS k=>
  split at hv
  ·rename_i hm;cases hv;rw[<-h2 (nid d) (by simp[keys]),hm]
  ·cases hv
 case lookupS k zero ok x y=>
  split at hv
  case h_2=>cases hv
  rename_i id cs hx hy
  (try simp only[hx,hy])
  rw[<-h1 rfl x (by simp[AOp.ops]) _ hx id (by simp[AV.ids])];exact hv
 case msetS k x y u=>
  split at hv
  case h_2=>cases hv
  rename_i id cs v hx hy hu
  (try simp only[hx,hy,hu])
  rw[<-h1 rfl x (by simp[AOp.ops]) _ hx id (by simp[AV.ids])];exact hv
 case isnil kd neg x=>
  cases hx:e x with
  |none=>rw[hx]at hv;exact hv
  |some a=>
   rw[hx]at hv;have:A63 m' kd a=A63 m kd a:=by
    have:=h1 rfl x (by simp[AOp.ops]) _ hx;cases a with
    |sl id off n tot=>
     match kd with
     |0=>simp only[A63];rw[this id (by simp[AV.ids])]
     |_+1=>simp only[A63]
    |_=>unfold A63;split <;> simp_all
   simp only[this];exact hv
 case slice z x lo hi mx=>
  split at hv
  ·omega
  ·omega
  ·omega
  ·rename_i id off n tot l h hx h2 h3 h4
   (try simp only[hx,h2,h3,h4])
   rw[<-h1 rfl x (by simp[AOp.ops]) _ hx id (by simp[AV.ids])];exact hv
  ·cases hv
 case aslice n z x=>
  split at hv
  ·rename_i hx;(try simp only[hx]);exact hv
  ·rename_i id k o tot hx
   (try simp only[hx])
   rw[<-h1 rfl x (by simp[AOp.ops]) _ hx id (by simp[AV.ids])];exact hv
  ·cases hv
 case aslc n z x lo hi=>
  split at hv
  ·omega
  ·rename_i id k o tot l h hx h2 h3
   (try simp only[hx,h2,h3])
   rw[<-h1 rfl x (by simp[AOp.ops]) _ hx id (by simp[AV.ids])];exact hv
  ·cases hv
 case appz z by_ zero x y=>
  split at hv
  case h_2=>cases hv
  rename_i k1 k hm hx hy;cases hv;rw[<-h2 (nid d) (by simp[keys]),hm,hx,hy];rfl
 case bstr x=>
  cases hx:e x with
  |none=>rw[hx]at hv;exact hv
  |some b=>rw[hx]at hv;have hs:Y2 m' 1 b=Y2 m 1 b:=(B5r λi hi=>h1 rfl x (by simp[AOp.ops]) _ hx i hi).symm;simp only[hs];exact hv
 case clr z zero x=>
  split at hv
  ·rename_i id off n tot hx
   (try simp only[hx])
   rw[<-h1 rfl x (by simp[AOp.ops]) _ hx id (by simp[AV.ids])];exact hv
  ·cases hv
 case copy z x y=>
  split at hv
  ·rename_i id off n tot b hx hy
   (try simp only[hx,hy])
   have hs:Y2 m' z b=Y2 m z b:=(B5r λi hi=>h1 rfl y (by simp[AOp.ops]) _ hy i hi).symm;rw[<-h1 rfl x (by simp[AOp.ops]) _ hx id (by simp[AV.ids]),hs];exact hv
  ·cases hv
 all_goals exact hv
def A4z(op:AOp)(r:Res):Prop:=match op with
 | .load .. =>r.wr= []
 |_=>True
theorem E5p {op:AOp}{e:AX->Option AV}(hv:eval op e m d=some (p,r))(hw:op.mayWrite=false)(hq:A4z op r):r.wr= []:=by
 by_cases hl: ∃n x,op= .load n x
 ·obtain⟨n,x,rfl⟩:=hl;exact hq
 clear hq;cases op <;> simp only[AOp.mayWrite,zG]at hw <;> (first |(exact absurd ⟨_,_,rfl⟩ hl) |skip) <;> simp only[eval]at hv
 all_goals
  (repeat' split at hv)
  all_goals first
   |(cases hv;done)
   |(cases hv;rfl)
   |(simp only[zh,zq]at hv;obtain⟨_,_,_,rfl⟩:=hv;rfl)
   |(simp only[zh,zq,Prod.exists]at hv;obtain⟨_,_,_,_,rfl⟩:=hv;rfl)
theorem D8h(l:List (Nat×A7)){x:Nat}(h:m x=m' x):wrm m l x=wrm m' l x:=by
 induction l generalizing m m' with
 |nil=>exact h
 |cons p l ih=>
  show wrm (upd m p.1 (some p.2)) l x=wrm (upd m' p.1 (some p.2)) l x;refine ih ?_;unfold upd;split
  ·rfl
  ·exact h
theorem D0q {m m':Nat->Option A7}{ρ:Nat->Nat}{O:List (Nat×A7)}: ∀(md:List Bool) (avs cargs:List AV) (wr:List (Nat×A7)),
  S4 m ρ O md avs cargs wr->(∀av∈avs,∀i∈av.ids,m i=m' i)->S4 m' ρ O md avs cargs wr
 | [],[],[],wr,h,_=>h
 |true::md,av::avs,c::cs,wr,h,hm=>by simp only[S4]at h⊢;exact⟨h.1,h.2.1,D0q md avs cs wr h.2.2 (λav hav=>hm av (qf _ hav))⟩
 |false::md,av::avs,c::cs,wr,h,hm=>by simp only[S4]at h⊢;obtain⟨p,w1,w2,h1,h2,h3,h4⟩:=h;exact⟨p,w1,w2,by rw[<-E5s (hm av (qp ..))];exact h1,h2,h3,D0q md avs cs w2 h4 (λav hav=>hm av (qf _ hav))⟩
 | [],_::_,_,_,h,_=>by simp[S4]at h
 | [],[],_::_,_,h,_=>by simp[S4]at h
 |true::_,[],_,_,h,_=>by simp[S4]at h
 |true::_,_::_,[],_,h,_=>by simp[S4]at h
 |false::_,[],_,_,h,_=>by simp[S4]at h
 |false::_,_::_,[],_,h,_=>by simp[S4]at h
variable {O:List (Nat×A7)} {i:Nat}
theorem A9b(h:(ofL O i).isSome): ∃o,(i,o)∈O:=by
 have key: ∀(l:List (Nat×A7)) (f:Nat->Option A7),(wrm f l i).isSome->(f i).isSome\/ ∃o,(i,o)∈l:=by
  intro l;induction l with
  |nil=>intro f h;exact .inl h
  |cons p l ih=>
   intro f h;rcases ih (upd f p.1 (some p.2)) h with h |⟨o,ho⟩
   ·unfold upd at h
    grind
   grind
 rcases key O _ h with h |h
 ·simp at h
 ·exact h
variable {f:FuncId} {avs:List AV}
theorem E43(h:O9 P m f avs r)
  (h1: ∀av∈avs,∀i∈A76 m av,m i=m' i)(h2: ∀i∈keys r,m i=m' i):O9 P m' f avs r:=by
 revert h2;induction h with
 |dropW v wr W _ hs hk ih=>
  intro h3;have key: ∀p∈wr,m p.1=m' p.1:=λp hp=>by obtain⟨av,ha,hi⟩:=hk p hp;exact h1 av ha _ hi
  refine .dropW v wr W (ih λi hi=> ?_) (λp hp=>by rw[<-key p hp];exact hs p hp) λp hp=>by obtain⟨av,ha,hi⟩:=hk p hp;exact⟨av,ha,by rw[<-E5u λi hi=>h1 av ha i (C3l hi)];exact hi⟩
  simp only[keys,qN,zj]at hi;rcases hi with hi |hi
  ·simp only[qL]at hi
   grind
  ·exact h3 i hi
 |mk md cargs O r O' ρ wr keep spec ha hO hOc hOO hnew hnd hk=>
  intro h2;have hk2: ∀i,(ofL O' i).isSome->m (ρ i)=m' (ρ i):=λi hi=>by obtain⟨o,ho⟩:=A9b hi;refine h2 _ ?_;simp only[keys,qN,zj];refine .inr ?_;simp only[A3v,List.map_map,qL,Function.comp];exact⟨(i,o),ho,rfl⟩
  exact .mk md cargs O r O' ρ wr keep spec (D0q md avs cargs wr ha λav hav i hi=>h1 av hav i (C3l hi))
   (λi o ho=>by rw[<-D8h wr (hk2 i (hOO i (by rw[ho];rfl)))];exact hO i o ho) hOc hOO
   (λi hi=>(hnew i hi).imp id (λh=>by rw[<-hk2 i hi];exact h)) hnd hk
def dC.looks(o:dC):List Nat:=(o.op.ops.filterMap λ| .t n=>some n | .k _=>none)++(match o.guard with |some (g,_)=> [g] |none=> [])
variable {τ:St}
theorem E1y(h: ∀t∈o.looks,σ.env t=τ.env t){x:AX}(hx:x∈o.op.ops):σ.ev x=τ.ev x:=by
 cases x with
 |t n=>exact h n (by simp only[dC.looks,zj,xn];exact .inl ⟨.t n,hx,rfl⟩)
 |k v=>rfl
theorem D1d {σ τ:St}: ∀ {l:List AX},(∀x∈l,σ.e x=τ.e x)->σ.es l=τ.es l
 | [],_=>rfl
 |x::l,h=>by simp only[St.es];rw[h x (qp ..),D1d (λy hy=>h y (qf _ hy))]
theorem B0o {σ τ:St}{b:Bool}: ∀ {l:List AX},(∀x∈l,σ.c x=τ.c x)->A7f σ b l->A7f τ b l
 | [],_,_=>trivial
 |x::l,h,hc=>⟨λhb=>by rw[<-h x (qp ..)];exact hc.1 hb,B0o (λy hy=>h y (qf _ hy)) hc.2⟩
variable {b:Bool}
theorem F6b(h:A3s P o σ b r)(hl: ∀t∈o.looks,σ.env t=τ.env t)
  (hf: ∀i∈A0j σ o,σ.objs i=τ.objs i)(hk: ∀i∈keys r,σ.objs i=τ.objs i):A3s P o τ b r:=by
 have hev: ∀x∈o.op.ops,σ.ev x=τ.ev x:=λx hx=>E1y hl hx
 have he: ∀x∈o.op.ops,σ.e x=τ.e x:=λx hx=>by unfold St.e;rw[hev x hx]
 have hcc: ∀x∈o.op.ops,σ.c x=τ.c x:=λx hx=>by unfold St.c;rw[hev x hx]
 have hg:A2b σ o.guard=A2b τ o.guard:=by
  cases hgd:o.guard with
  |none=>rfl
  |some gw=>obtain⟨g,want⟩:=gw;simp only[A2b];rw[hl g (by simp[dC.looks,hgd])]
 cases h with
 |skip hg'=>exact .skip (hg▸hg')
 |op _ p r d hg' hb hc hp hw=>refine .op _ p r d (hg▸hg') ?_ (B0o hcc hc) hp hw;rw[<-C3h he];exact F6l hb (λht x hx v hv i hi=>hf i (B8x ht hx hv hi)) hk
 |pick _ c x y q p1 p2 c1 c2 cc ho hg' hq hx hy hc=>
  have hmem:c∈o.op.ops/\x∈o.op.ops/\y∈o.op.ops:=by rw[ho];simp[AOp.ops]
  exact .pick _ c x y q p1 p2 c1 c2 cc ho (hg▸hg') (by rw[<-hev c hmem.1];exact hq) (λh=>by rw[<-hev x hmem.2.1];exact hx h) (λh=>by rw[<-hev y hmem.2.2];exact hy h) hc
 |inpl z bytes x y id n tot s q v p ho hg' hx hy hm hs hc hp=>
  have hmem:x∈o.op.ops/\y∈o.op.ops:=by rw[ho];simp[AOp.ops]
  have ht:o.op.touches=true:=by rw[ho];rfl
  refine .inpl z bytes x y id n tot s q v p ho (hg▸hg') (by rw[<-he x hmem.1];exact hx) (by rw[<-he y hmem.2];exact hy) ?_ ?_ (B0o hcc hc) hp
  ·rw[<-hf id (B8x ht hmem.1 hx (by simp[AV.ids]))];exact hm
  ·rw[<-B5r λi hi=>hf i (B8x ht hmem.2 hy hi)];exact hs
 |sl3 z x lo hi mx id off n tot s l h k ho hg' hx hl hh hkk hm hc hp=>
  have hmem:x∈o.op.ops:=by rw[ho];simp[AOp.ops]
  have ht:o.op.touches=true:=by rw[ho];rfl
  have hopt: ∀y∈ [lo,hi,mx],A0k τ.e y=A0k σ.e y:=λy hy=>by
   cases y with
   |none=>rfl
   |some a=>
    have:a∈o.op.ops:=by
     rw[ho];simp only[AOp.ops,zo,zj,yV,xi]
     grind
    simp only[A0k];rw[he a this]
  refine .sl3 z x lo hi mx id off n tot s l h k ho (hg▸hg') (by rw[<-he x hmem];exact hx) (by rw[hopt lo p_];exact hl) (by rw[hopt hi p_];exact hh) (by rw[hopt mx p_];exact hkk) ?_ (B0o hcc hc) hp;rw[<-hf id (B8x ht hmem hx (by simp[AV.ids]))];exact hm
 |slx z x lo hi mx id n tot s l h ho hg' hx hl hh hkk hm hc hp=>
  have hmem:x∈o.op.ops:=by rw[ho];simp[AOp.ops]
  have ht:o.op.touches=true:=by rw[ho];rfl
  have hopt: ∀y∈ [lo,hi,mx],A0k τ.e y=A0k σ.e y:=λy hy=>by
   cases y with
   |none=>rfl
   |some a=>
    have:a∈o.op.ops:=by
     rw[ho];simp only[AOp.ops,zo,zj,yV,xi]
     grind
    simp only[A0k];rw[he a this]
  refine .slx z x lo hi mx id n tot s l h ho (hg▸hg') (by rw[<-he x hmem];exact hx) (by rw[hopt lo p_];exact hl) (by rw[hopt hi p_];exact hh) (by rw[hopt mx p_];exact hkk) ?_ (B0o hcc hc) hp;rw[<-hf id (B8x ht hmem hx (by simp[AV.ids]))];exact hm
 |call _ f avs r hg' ht hc hd hw=>
  have htouch:o.op.touches=true:=by have:=B2e ht;cases hop:o.op <;> simp_all [AOp.isCall,AOp.touches,AOp.mayWrite]
  have ht':target τ o.op=some (f,avs):=by
   rw[<-ht];cases hop:o.op with
   |call f' xs=>simp only[target];rw[D1d (λx hx=>(he x (by rw[hop];simpa[AOp.ops]using hx)).symm)]
   |callv x xs=>simp only[target];rw[D1d (λy hy=>(he y (by rw[hop];simp[AOp.ops,hy])).symm),he x (by rw[hop];simp[AOp.ops])]
   |_=>rfl
  have hcall:o.op.isCall=true:=B2e ht
  have hids: ∀av∈avs,∀i∈A76 σ.objs av,i∈A0j σ o:=by
   intro av hav i hi;cases hop:o.op with
   |call f' xs=>
    rw[hop]at ht;simp only[target]at ht;split at ht
    ·rename_i vs hvs;cases ht;obtain⟨j,hj⟩:=zA hav;obtain⟨x,hx,hxv⟩:=(C8n hvs).2 j av hj;exact C0g htouch hcall (by rw[hop];exact qv hx) hxv hi
    ·cases ht
   |callv x xs=>
    rw[hop]at ht;simp only[target]at ht;split at ht
    ·rename_i f' first cap vs hfv hvs
     cases ht;rcases zj.1 hav with hav |hav
     ·rcases zj.1 hav with hav |hav
      ·obtain⟨j,hj⟩:=zA hav;exact C0g htouch hcall (by rw[hop];simp[AOp.ops]) hfv (D91 (λi hi=>by simp only[AV.ids,zj];exact .inl (P7 hj i hi)) hi)
      ·obtain⟨j,hj⟩:=zA hav;obtain⟨y,hy,hyv⟩:=(C8n hvs).2 j av hj;exact C0g htouch hcall (by rw[hop];exact qf _ (qv hy)) hyv hi
     ·obtain⟨j,hj⟩:=zA hav;exact C0g htouch hcall (by rw[hop];simp[AOp.ops]) hfv (D91 (λi hi=>by simp only[AV.ids,zj];exact .inr (P7 hj i hi)) hi)
    ·cases ht
   |_=>rw[hop]at ht;simp[target]at ht
  exact .call _ f avs r (hg▸hg') ht' (B0o hcc hc) (λhb=>E43 (hd hb) (λav hav i hi=>hf i (hids av hav i hi)) hk) hw
end
def B9x(P:Program)(m:Nat->Option A7)(f:FuncId)(avs:List AV)(b:Bool)(K:Res->Prop):Prop:=∃r,(b=true->O9 P m f avs r)/\(r.wr≠ []->b=true)/\K r
variable {f:FuncId} {b:Bool} {avs:List AV} {m':Nat->Option A7}
@[congr] theorem F73 {P:Program}{avs':List AV}{b':Bool}{K:Res->Prop}(h1:m=m')(h2:avs=avs')(h3:b=b'):
  B9x P m f avs b K=B9x P m' f avs' b' K:=by rw[h1,h2,h3]
def D55(P:Program)(o:dC)(σ:St)(b:Bool)(K:Bool->Res->Prop):Prop:=
 match o.op with
 | .pick c x y=>match σ.ev c with
   |some (cc, .sc (.bool q))=>match σ.ev x,σ.ev y with
    |some (c1, .sc (.bool p1)),some (c2, .sc (.bool p2))=>(b=true->cc=true/\(q=true->c1=true)/\(q=false->c2=true))/\K b ⟨some (.sc (.bool (if q then p1 else p2))),[]⟩
    |some (c1, .sc (.bool p1)),none=>q=true/\(b=true->cc=true/\c1=true)/\K b ⟨some (.sc (.bool p1)),[]⟩
    |none,some (c2, .sc (.bool p2))=>q=false/\(b=true->cc=true/\c2=true)/\K b ⟨some (.sc (.bool p2)),[]⟩
    |_,_=>False
   |_=>b=false/\K false ⟨none,[]⟩
 | .call f xs=>match target σ (.call f xs)with
   |some (f,avs)=>A7f σ b (AOp.call f xs).ops/\B9x P σ.objs f avs b (K b)
   |none=>b=false/\K false ⟨none,[]⟩
 | .callv x xs=>match target σ (.callv x xs)with
   |some (f,avs)=>A7f σ b (AOp.callv x xs).ops/\B9x P σ.objs f avs b (K b)
   |none=>b=false/\K false ⟨none,[]⟩
 |op=>match eval op σ.e σ.objs (o.dst.getD 0)with
  |some (p,r)=>(match r.wr with
   | []=>A7f σ b op.ops/\(b=true->p)/\K b r
   |_::_=>if b=true then A7f σ true op.ops/\p/\K true r else K false ⟨none,[]⟩)
  |none=>b=false/\K false ⟨none,[]⟩
def wop(P:Program)(o:dC)(σ:St)(K:Bool->Res->Prop):Prop:=
 match A2b σ o.guard with
 |some b=>D55 P o σ b K
 |none=>False
def D43(a b:List Nat):Prop:= ∀i∈a,i∉b
def A3m(seen:List (List Nat×List Nat))(f k:List Nat):List Nat->Prop
 | []=>True
 |c::cs=>(match seen[c]? with |some (f',k')=>D43 k (f'++k')/\D43 k' (f++k) |none=>False)/\A3m seen f k cs
def A5c(P:Program):List dC->(St->Prop)->St->Prop
 | [],Q,σ=>Q σ
 |o::os,Q,σ=>wop P o σ λb r=>A5c P os Q (σ.put o.dst b r)
def C1v(P:Program):List dC->List (List Nat×List Nat)->(St->Prop)->St->Prop
 | [],_,Q,σ=>Q σ
 |o::os,seen,Q,σ=>wop P o σ λb r=>A4z o.op r/\A3m seen (A0j σ o) (keys r) o.chk/\C1v P os (seen++ [(A0j σ o,keys r)]) Q (σ.put o.dst b r)
variable {σ:St} {o:dC} {σ':St}
@[congr] theorem F8y {P:Program}{b':Bool}{K:Bool->Res->Prop}(h:σ=σ')(hb:b=b'):D55 P o σ b K=D55 P o σ' b' K:=by rw[h,hb]
@[congr] theorem F87 {P:Program}{K:Bool->Res->Prop}(h:σ=σ'):wop P o σ K=wop P o σ' K:=by rw[h]
@[congr] theorem F8z {P:Program}{l:List dC}{Q:St->Prop}(h:σ=σ'):A5c P l Q σ=A5c P l Q σ':=by rw[h]
variable {seen:List (List Nat×List Nat)}
@[congr] theorem F8x {P:Program}{l:List dC}{seen':List (List Nat×List Nat)}{Q:St->Prop}(hs:seen=seen')(h:σ=σ'):C1v P l seen Q σ=C1v P l seen' Q σ':=by rw[h,hs]
section
variable {P:Program}
theorem E88 {K:Bool->Res->Prop}(hg:A2b σ o.guard=some b)(h:D55 P o σ b K): ∃b r,A3s P o σ b r/\K b r:=by
 have hskip:b=false/\K false ⟨none,[]⟩-> ∃b r,A3s P o σ b r/\K b r:=by rintro⟨rfl,hk⟩;exact⟨false,_, .skip hg,hk⟩
 unfold D55 at h;split at h
 ·rename_i c x y ho;split at h
  ·rename_i cc q hc;split at h
   ·rename_i c1 p1 c2 p2 hx hy;exact⟨b,_, .pick _ c x y q p1 p2 c1 c2 cc ho hg hc (λ_=>hx) (λ_=>hy) h.1,h.2⟩
   ·rename_i c1 p1 hx hy;obtain⟨rfl,h1,h2⟩:=h;exact⟨b,_, .pick _ c x y true p1 p1 c1 c1 cc ho hg hc (λ_=>hx) (λh=>by cases h) (λhb=>⟨(h1 hb).1,λ_=>(h1 hb).2,λh=>by cases h⟩),by simpa using h2⟩
   ·rename_i c2 p2 hx hy;obtain⟨rfl,h1,h2⟩:=h;exact⟨b,_, .pick _ c x y false p2 p2 c2 c2 cc ho hg hc (λh=>by cases h) (λ_=>hy) (λhb=>⟨(h1 hb).1,λh=>(by cases h),λ_=>(h1 hb).2⟩),by simpa using h2⟩
   ·exact h.elim
  ·exact hskip h
 ·rename_i f xs ho;split at h
  ·rename_i f' avs ht;obtain⟨h1,r,h2,h3,h4⟩:=h;exact⟨b,r, .call _ f' avs r hg (by rw[ho];exact ht) (by rw[ho];exact h1) h2 h3,h4⟩
  ·exact hskip h
 ·rename_i x xs ho;split at h
  ·rename_i f' avs ht;obtain⟨h1,r,h2,h3,h4⟩:=h;exact⟨b,r, .call _ f' avs r hg (by rw[ho];exact ht) (by rw[ho];exact h1) h2 h3,h4⟩
  ·exact hskip h
 ·split at h
  ·rename_i p r hv;split at h
   ·rename_i hw;obtain⟨h1,h2,h4⟩:=h;exact⟨b,r, .op _ p r _ hg hv h1 h2 (λhne=>absurd hw hne),h4⟩
   ·split at h
    ·rename_i hb;subst hb;obtain⟨h1,h2,h4⟩:=h;exact⟨true,r, .op _ p r _ hg hv h1 (λ_=>h2) (λ_=>rfl),h4⟩
    grind
  ·exact hskip h
theorem B2u {K:Bool->Res->Prop}(h:wop P o σ K): ∃b r,A3s P o σ b r/\K b r:=by
 unfold wop at h;split at h
 ·rename_i b hg;exact E88 hg h
 ·exact h.elim
structure Ent where
 dst:Option Nat
 b:Bool
 r:Res
def St.by(σ:St)(e:Ent):St:=σ.put e.dst e.b e.r
def atS(E:Nat->Ent)(σ:St)(S:Nat->Bool):Nat->St
 |0=>σ
 |k+1=>bif S k then(atS E σ S k).by (E k)else atS E σ S k
theorem B2v {m:Nat->Option A7}: ∀ {l:List (Nat×A7)} {x:Nat},x∉l.map (·.1)->wrm m l x=m x
 | [],x,_=>rfl
 |p::l,x,h=>by simp only[qw,zo,qy]at h;show wrm (upd m p.1 (some p.2)) l x=m x;rw[B2v h.2,J0 h.1]
theorem E28 {E:Nat->Ent}{σ:St}{S S':Nat->Bool}{t:Nat}: ∀k,(∀j,j<k->S j≠S' j->(E j).dst≠some t)->(atS E σ S k).env t=(atS E σ S' k).env t
 |0,_=>rfl
 |k+1,h=>by
  have ih:=E28 (E:=E) (σ:=σ) (S:=S) (S':=S') (t:=t) k (λj hj hn=>h j o_ hn)
  have hk:=h k o_
  have put1: ∀(τ:St),(E k).dst≠some t->(τ.by (E k)).env t=τ.env t:=λτ hd=>by
   unfold St.by St.put;cases hdst:(E k).dst with
   |none=>rfl
   |some d=>simp only;exact J0 (λe=>hd (by rw[hdst,e]))
  have put2: ∀(τ τ':St),τ.env t=τ'.env t->(τ.by (E k)).env t=(τ'.by (E k)).env t:=λτ τ' e=>by
   unfold St.by St.put;cases(E k).dst with
   |none=>exact e
   |some d=>
    simp only[upd];split
    ·rfl
    ·exact e
  simp only[atS];cases hs:S k <;> cases hs':S' k
  all_goals grind
theorem D0t {E:Nat->Ent}{σ:St}{S S':Nat->Bool}{x:Nat}: ∀k,(∀j,j<k->S j≠S' j->x∉keys (E j).r)->(atS E σ S k).objs x=(atS E σ S' k).objs x
 |0,_=>rfl
 |k+1,h=>by
  have ih:=D0t (E:=E) (σ:=σ) (S:=S) (S':=S') (x:=x) k (λj hj hn=>h j o_ hn)
  have hk:=h k o_;simp only[atS];cases hs:S k <;> cases hs':S' k
  ·simpa using ih
  ·simp only[cond_true,cond_false,St.by,St.put];rw[B2v (hk (by rw[hs,hs'];simp))];exact ih
  ·simp only[cond_true,cond_false,St.by,St.put];rw[B2v (hk (by rw[hs,hs'];simp))];exact ih
  ·simp only[cond_true,St.by,St.put];exact D8h _ ih
theorem D2t {E:Nat->Ent}{σ:St}{S S':Nat->Bool}: ∀k,(∀j,j<k->S j=S' j)->atS E σ S k=atS E σ S' k
 |0,_=>rfl
 |k+1,h=>by simp only[atS];rw[h k o_,D2t k (λj hj=>h j o_)]
def E6v(e e':Ent):Prop:=(∀d,e.dst=some d->e'.dst≠some d)/\D43 (keys e.r) (keys e'.r)
theorem F28(σ:St){e e':Ent}(h:E6v e e'):(σ.by e).by e'=(σ.by e').by e:=by
 obtain⟨h1,h2⟩:=h;have henv:((σ.by e).by e').env=((σ.by e').by e).env:=by
  unfold St.by St.put;cases hd:e.dst with
  |none=>rfl
  |some d=>cases hd':e'.dst with
   |none=>rfl
   |some d'=>
    have hne:d≠d':=λhe=>h1 d hd (by rw[hd',he]);funext x;simp only[upd]
    grind
 have hobj:((σ.by e).by e').objs=((σ.by e').by e).objs:=by
  funext x;simp only[St.by,St.put];by_cases hx:x∈keys e.r
  ·have hx':x∉keys e'.r:=h2 x hx
   rw[B2v hx'];exact D8h _ (B2v hx').symm
  ·rw[B2v (l:=e.r.wr) hx];exact D8h _ (B2v hx)
 cases h:(σ.by e).by e';simp_all
theorem E29 {E:Nat->Ent}{σ:St}{S:Nat->Bool}{i:Nat}(hi:S i=false): ∀k,i<k->(∀j,i<j->j<k->S j=true->E6v (E i) (E j))->
  atS E σ (λj=>if j=i then true else S j) k=(atS E σ S k).by (E i)
 |0,h,_=>by omega
 |k+1,h,hj=>by
  simp only[atS];by_cases hk:k=i
  ·subst hk;rw[zc rfl,hi,cond_true,cond_false,D2t (S:=λj=>if j=k then true else S j) (S':=S) k (λj hj=>by simp[show j≠k by omega])]
  ·rw[zb hk,E29 hi k o_ (λj h1 h2 h3=>hj j h1 o_ h3)];cases hs:S k with
   |false=>simp
   |true=>simp only[cond_true];exact F28 _ (hj k o_ o_ hs)
theorem D81 {E:Nat->Ent}{σ:St}(n:Nat): ∀k,n<=k->atS E σ (λj=>decide (j<n)) k=atS E σ (λ_=>true) n
 |0,h=>by have:n=0:=o_
          subst this;rfl
 |k+1,h=>by
  by_cases hk:n=k+1
  ·subst hk;exact D2t _ (λj hj=>by simp[hj])
  ·simp only[atS];rw[zp (show ¬k<n by omega),cond_false];exact D81 n k o_
variable {r:Res}
theorem A3s.reclad {o':dC}(h:A3s P o σ b r)(h1:o'.dst=o.dst)(h2:o'.op=o.op)(h3:o'.guard=o.guard):A3s P o' σ b r:=by
 cases h with
 |op _ p r d hg hb hc hp hw=>exact .op _ p r d (by rw[h3];exact hg) (by rw[h2];exact hb) (by rw[h2];exact hc) hp hw
 |pick _ c x y q p1 p2 c1 c2 cc ho hg hq hx hy hc=>exact .pick _ c x y q p1 p2 c1 c2 cc (by rw[h2];exact ho) (by rw[h3];exact hg) hq hx hy hc
 |call _ f avs r hg ht hc hd hw=>exact .call _ f avs r (by rw[h3];exact hg) (by rw[h2];exact ht) (by rw[h2];exact hc) hd hw
 |inpl z bytes x y id n tot s q v p ho hg hx hy hm hs hc hp=>exact .inpl z bytes x y id n tot s q v p (by rw[h2];exact ho) (by rw[h3];exact hg) hx hy hm hs (by rw[h2];exact hc) hp
 |sl3 z x lo hi mx id off n tot s l h k ho hg hx hl hh hk hm hc hp=>exact .sl3 z x lo hi mx id off n tot s l h k (by rw[h2];exact ho) (by rw[h3];exact hg) hx hl hh hk hm (by rw[h2];exact hc) hp
 |slx z x lo hi mx id n tot s l h ho hg hx hl hh hk hm hc hp=>exact .slx z x lo hi mx id n tot s l h (by rw[h2];exact ho) (by rw[h3];exact hg) hx hl hh hk hm (by rw[h2];exact hc) hp
 |skip hg=>exact .skip (by rw[h3];exact hg)
end
def B2i(acc:List Nat):List Edge->Nat
 | []=>0
 |e::es=>if Region.binds .any e then 2^e.on ||| (acc.getD e.on 0 ||| B2i acc es)else B2i acc es
def C3s:List Oper->List Nat->List Nat
 | [],acc=>acc
 |o::os,acc=>C3s os (acc++ [B2i acc o.after.toList])
def C12(ops:List Oper)(j:Nat):Bool:=
 match ops with
 | []=>true
 |o::os=>(o.after.toList.all λe=> !Region.binds .any e||decide (e.on<j))&&C12 os (j+1)
def D2r(a b:dC):Bool:=(match a.dst with |some d=> !(b.looks.contains d)&&b.dst != some d |none=>true)&&(match b.dst with |some d=> !(a.looks.contains d) |none=>true)
def C0d(a b:dC):Bool:=(a.op.mayWrite&&b.op.touches)||(b.op.mayWrite&&a.op.touches)
def B47(m:Nat)(b:dC):List dC->Nat->Bool
 | [],_=>true
 |a::as,i=>(m.testBit i||D2r a b)&&B47 m b as (i+1)
def B95(m:Nat)(b:dC):List dC->Nat->List Nat
 | [],_=> []
 |a::as,i=>if !m.testBit i&&C0d a b then i::B95 m b as (i+1)else B95 m b as (i+1)
def B46(ahead:List dC):List dC->List Nat->Option (List dC)
 | [],_=>some []
 |b::bs,m::ms=>if B47 m b ahead 0 then(match B46 (ahead++ [b]) bs ms with
   |some r=>some ({b with chk:=B95 m b ahead 0}::r)
   |none=>none)else none
 |_::_,[]=>none
def S5(P:Program)(N:Nat)(ops:Array Oper):List Oper->Option (List dC)
 | []=>some []
 |o::os=>match B17 P N ops o,S5 P N ops os with
  |some a,some as=>some (a::as)
  |_,_=>none
def A87(P:Program)(N:Nat)(ops:Array Oper)(draw:Bool):Option (List dC):=
 match S5 P N ops ops.toList with
 |some as=>if draw then(if C12 ops.toList 0 then B46 [] as (C3s ops.toList [])else none)else some as
 |none=>none
section
variable {P:Program} {N:Nat}
theorem D2x {ops:Array Oper}: ∀ {l:List Oper} {as:List dC},S5 P N ops l=some as->as.length=l.length/\ ∀(i:Nat) (o:Oper),l[i]? =some o-> ∃a,as[i]? =some a/\B17 P N ops o=some a
 | [],as,h=>by simp only[S5,za]at h;grind
 |o::l,as,h=>by
  simp only[S5]at h;split at h
  ·rename_i a as' h1 h2;cases h;obtain⟨h3,h4⟩:=D2x h2
   grind
  ·cases h
theorem C88 {ops:Array Oper}{Q:St->Prop}{R:Exit->Act->World->Prop}: ∀(l:List Oper) (as:List dC) (k:Nat) (σ:St) (a:Act) (w:World) (ob:Place) (G:Nat->Prop),
  S5 P N ops l=some as->(∀i o,l[i]? =some o->ops[k+i]? =some o)->Sim N σ a w ob G->A5c P as Q σ->
  (∀τ a' w' ob' G',Q τ->Sim N τ a' w' ob' G'->Fr G w ob G' w' ob'->D4 ob ob'->R .normal a' w')->
  wpOps P ops R (List.range' k l.length) a w
 | [],as,k,σ,a,w,ob,G,hc,hl,hs,h,hQ=>by simp only[S5,za]at hc;subst hc;exact hQ σ a w ob G h hs (Fr.refl G w ob) (D4.refl ob)
 |o::l,as,k,σ,a,w,ob,G,hc,hl,hs,h,hQ=>by
  simp only[S5]at hc;split at hc
  case h_2=>cases hc
  rename_i ao as' h1 h2;cases hc;obtain⟨b,r,hd,hk⟩:=B2u h;have ho:ops[k]? =some o:=by simpa using hl 0 o p_
  simp only[List.length_cons,yq];simp only[wpOps,ho];have:=C10 (K:=wpOps P ops R (List.range' (k+1) l.length)) (Q:=R) h1 hs hd (λa' w' ob' G' s f e=>C88 l as' (k+1) _ a' w' ob' G' h2
   (λi o' hi=>by have:=hl (i+1) o' (by simpa using hi);grind) s hk
   (λτ a'' w'' ob'' G'' q s' f' e'=>hQ τ a'' w'' ob'' G'' q s' (f.trans f') (e.trans e')))
  grind
def B34(σ:St)(es:List Ent):St:=es.foldl St.by σ
theorem C4x {Q:St->Prop}: ∀(aos:List dC) (seen:List (List Nat×List Nat)) (σ:St),C1v P aos seen Q σ->
  ∃(es:List Ent) (ft:List (List Nat×List Nat)),es.length=aos.length/\ft.length=aos.length/\Q (B34 σ es)/\
   ∀i o,aos[i]? =some o-> ∃e f,es[i]? =some e/\ft[i]? =some f/\e.dst=o.dst/\f=(A0j (B34 σ (es.take i)) o,keys e.r)/\
    A3s P o (B34 σ (es.take i)) e.b e.r/\A3m (seen++ft.take i) f.1 f.2 o.chk/\A4z o.op e.r
 | [],seen,σ,h=>⟨[],[],rfl,rfl,h,λi o hi=>by simp at hi⟩
 |o::os,seen,σ,h=>by
  obtain⟨b,r,hd,hqr,hk,hrest⟩:=B2u h;obtain⟨es,ft,h1,h2,h3,h4⟩:=C4x os _ _ hrest;refine⟨⟨o.dst,b,r⟩::es,(A0j σ o,keys r)::ft,by simp[h1],by simp[h2],h3,λi o' hi=> ?_⟩;cases i with
  |zero=>simp only[List.getElem?_cons_zero,za]at hi;subst hi;exact⟨_,_,rfl,rfl,rfl,rfl,hd,by simpa using hk,hqr⟩
  |succ i=>simp only[List.getElem?_cons_succ]at hi;obtain⟨e,f,g1,g2,g3,g4,g5,g6,g7⟩:=h4 i o' hi;exact⟨e,f,by simpa using g1,by simpa using g2,g3,g4,g5,by simpa using g6,g7⟩
theorem E3a {es:List Ent}{σ:St}: ∀k,k<=es.length->atS (λi=>es.getD i ⟨none,false,⟨none,[]⟩⟩) σ (λ_=>true) k=B34 σ (es.take k)
 |0,_=>rfl
 |k+1,h=>by
  simp only[atS,cond_true];rw[E3a k o_];have:es.take (k+1)=es.take k++ [es.getD k ⟨none,false,⟨none,[]⟩⟩]:=by
   rw[yW,zg o_]
   grind
  rw[this,B34,B34,qR];rfl
def D2g(ops:Array Oper)(S:Nat->Bool):Prop:= ∀(j:Nat) (o:Oper),ops[j]? =some o->S j=true-> ∀e∈o.after,Region.binds .any e=true->S e.on=true
theorem B8s {acc:List Nat}{i:Nat}: ∀ {es:List Edge},(B2i acc es).testBit i=true-> ∃e∈es,Region.binds .any e=true/\(i=e.on\/(acc.getD e.on 0).testBit i=true)
 | [],h=>by simp[B2i]at h
 |e::es,h=>by
  simp only[B2i]at h;split at h
  ·rename_i hb;simp only[Nat.testBit_or,zy,Nat.testBit_two_pow,zk]at h;rcases h with h |h |h
   ·grind
   ·grind
   ·obtain⟨e',h1,h2⟩:=B8s h
    grind
  ·obtain⟨e',h1,h2⟩:=B8s h
   grind
theorem D28 {ops:Array Oper}{S:Nat->Bool}(hS:D2g ops S): ∀(os:List Oper) (acc:List Nat),
  (∀i o,os[i]? =some o->ops[acc.length+i]? =some o)->(∀k i,(acc.getD k 0).testBit i=true->S k=true->S i=true)->
  (C3s os acc).length=acc.length+os.length/\ ∀k i,((C3s os acc).getD k 0).testBit i=true->S k=true->S i=true
 | [],acc,_,h=>⟨rfl,h⟩
 |o::os,acc,ho,h=>by
  have:=D28 hS os (acc++ [B2i acc o.after.toList]) (λi o' hi=>by
   have:=ho (i+1) o' (by simpa using hi)
   grind) (λk i hb hk=>by
   by_cases hlt:k<acc.length
   ·grind
   ·by_cases hk':k=acc.length
    ·subst hk';rw[List.getD,zY (ze _)]at hb;simp only[yt,List.getElem?_cons_zero,Option.getD_some]at hb;obtain⟨e,he,hbind,h1⟩:=B8s hb;have hse:=hS acc.length o (by simpa using ho 0 o p_) hk e (by simpa using he) hbind
     grind
    grind)
  refine⟨?_,this.2⟩;have h1:=this.1;simp only[zd,List.length_cons,List.length_nil]at h1;simp only[C3s,List.length_cons];omega
theorem C58: ∀ {os:List Oper} {j:Nat},C12 os j=true-> ∀i o,os[i]? =some o-> ∀e∈o.after,Region.binds .any e=true->e.on<j+i
 | [],j,_,i,o,h=>by simp at h
 |o'::os,j,hk,i,o,h=>by
  simp only[C12,zi,qm,zy,zQ,zk]at hk;cases i with
  |zero=>grind
  |succ i=>simp only[List.getElem?_cons_succ]at h;intro e he hb;have:=C58 hk.2 i o h e he hb;omega
theorem C4z {m:Nat}{b:dC}: ∀ {as:List dC} {i:Nat},B47 m b as i=true-> ∀j a,as[j]? =some a->m.testBit (i+j)=true\/D2r a b=true
 | [],i,_,j,a,h=>by simp at h
 |a'::as,i,hk,j,a,h=>by
  simp only[B47,zi,zy]at hk;cases j with
  |zero=>grind
  |succ j=>
   simp only[List.getElem?_cons_succ]at h;have:=C4z hk.2 j a h
   grind
theorem D2w {m:Nat}{b:dC}: ∀ {as:List dC} {i:Nat} (j:Nat) (a:dC),as[j]? =some a->m.testBit (i+j)=false->C0d a b=true->i+j∈B95 m b as i
 | [],i,j,a,h,_,_=>by simp at h
 |a'::as,i,j,a,h,hm,hi=>by
  cases j with
  |zero=>simp only[List.getElem?_cons_zero,za]at h;subst h;simp only[Nat.add_zero]at hm;simp[B95,hm,hi]
  |succ j=>simp only[List.getElem?_cons_succ]at h;have:=D2w (m:=m) (b:=b) (as:=as) (i:=i+1) j a h (by rwa[show i+1+j=i+(j+1)by omega]) hi;rw[show i+1+j=i+(j+1)by omega]at this;simp only[B95];grind
theorem C5x: ∀ {bs:List dC} {ahead:List dC} {ms:List Nat} {r:List dC},B46 ahead bs ms=some r->r.length=bs.length/\
  ∀j b,bs[j]? =some b-> ∃m,ms[j]? =some m/\r[j]? =some {b with chk:=B95 m b (ahead++bs.take j) 0}/\B47 m b (ahead++bs.take j) 0=true
 | [],ahead,ms,r,h=>by simp only[B46,za]at h;grind
 |b::bs,ahead,m::ms,r,h=>by
  simp only[B46]at h;split at h
  case isFalse=>cases h
  rename_i hap;split at h
  case h_2=>cases h
  rename_i r' hr;cases h;obtain⟨h1,h2⟩:=C5x hr;refine⟨by simp[h1],λj b' hj=> ?_⟩;cases j with
  |zero=>grind
  |succ j=>grind
 |b::bs,ahead,[],r,h=>by simp[B46]at h
theorem C6n {seen:List (List Nat×List Nat)}{f k:List Nat}: ∀ {l:List Nat},A3m seen f k l-> ∀c∈l,∃f' k',seen[c]? =some (f',k')/\D43 k (f'++k')/\D43 k' (f++k)
 | [],_,c,hc=>by cases hc
 |c'::l,h,c,hc=>by
  rcases zo.1 hc with rfl |hc
  ·have:=h.1
   grind
  ·exact C6n h.2 c hc
theorem D1n {op:AOp}(h:op.mayWrite=true):op.touches=true:=by cases op <;> first |rfl |exact h
variable {r:Res}
theorem A3s.quiet(h:A3s P o σ b r)(hw:o.op.mayWrite=false)(hq:A4z o.op r):keys r= []:=by
 cases h with
 |op _ p r d hg hb hc hp hw'=>rw[keys,E5p hb hw hq];rfl
 |pick=>rfl
 |call _ f avs r hg ht hc hd hw'=>have:=B2e ht;cases ho:o.op <;> simp_all [AOp.isCall,AOp.mayWrite]
 |inpl z bytes x y id n tot s q v p ho=>rw[ho]at hw;cases hw
 |sl3=>rfl
 |slx=>rfl
 |skip=>rfl
theorem D22(h:o.op.touches=false):A0j σ o= []:=by unfold A0j;rw[zb (by simp[h])]
end
section
variable {P:Program} {N:Nat}
theorem D9e {p q:Nat->Bool}{i:Nat}(hpq: ∀x,q x=true->p x=true)(hp:p i=true)(hq:q i=false): ∀(l:List Nat),i∈l->l.countP q<l.countP p
 | [],h=>by cases h
 |x::l,h=>by
  have hle:l.countP q<=l.countP p:=List.countP_mono_left λx _=>hpq x;rcases zo.1 h with rfl |h
  ·grind
  ·have:=D9e hpq hp hq l h
   grind
structure D2d (ai aj:dC) (fi fj:List Nat) (ei ej:Ent):Prop where
 di: ∀d,ei.dst=some d->d∉aj.looks/\ej.dst≠some d
 dj: ∀d,ej.dst=some d->d∉ai.looks/\ei.dst≠some d
 ij: ∀x∈keys ei.r,x∉fj/\x∉keys ej.r
 ji: ∀x∈keys ej.r,x∉fi/\x∉keys ei.r
theorem D2d.symm {ai aj:dC}{fi fj:List Nat}{ei ej:Ent}(h:D2d ai aj fi fj ei ej):D2d aj ai fj fi ej ei:=⟨h.dj,h.di,h.ji,h.ij⟩
theorem E1r {a b:dC}(h:D2r a b=true):(∀d,a.dst=some d->d∉b.looks/\b.dst≠some d)/\(∀d,b.dst=some d->d∉a.looks/\a.dst≠some d):=by
 unfold D2r at h
 grind
variable {w:World} {G:Nat->Prop} {ob:Place} {a:Act} {as:List dC}
theorem D4i {ops:Array Oper}{Q:St->Prop}{R:Exit->Act->World->Prop}{id:Nat}
  (hm:P.follows .mixedOrders=true)(hc:A87 P N ops true=some as)(hs:Sim N σ a w ob G)(h: ∃(es:List Ent) (ft:List (List Nat×List Nat)),es.length=as.length/\ft.length=as.length/\Q (B34 σ es)/\
    ∀i o,as[i]? =some o-> ∃e f,es[i]? =some e/\ft[i]? =some f/\e.dst=o.dst/\f=(A0j (B34 σ (es.take i)) o,keys e.r)/\
     A3s P o (B34 σ (es.take i)) e.b e.r/\A3m ([]++ft.take i) f.1 f.2 o.chk/\A4z o.op e.r)
  (hQ: ∀τ a' w' ob' G',Q τ->Sim N τ a' w' ob' G'->Fr G w ob G' w' ob'->D4 ob ob'->R .normal a' w'):(Code.region id ops true).wp P R a w:=by
 unfold A87 at hc;split at hc
 case h_2=>cases hc
 rename_i as0 hcop;rw[zc rfl]at hc;split at hc
 case isFalse=>cases hc
 rename_i hedge;obtain⟨hl0,hget0⟩:=D2x hcop;obtain⟨hl1,hget1⟩:=C5x hc;obtain⟨es,ft,hle,hlf,hQn,htr⟩:=h;have hn:as.length=ops.size:=by rw[hl1,hl0];simp
 let E:Nat->Ent:=λi=>es.getD i ⟨none,false,⟨none,[]⟩⟩
 have hE: ∀k,k<=ops.size->atS E σ (λ_=>true) k=B34 σ (es.take k):=λk hk=>E3a k o_
 have hEget: ∀i e,es[i]? =some e->E i=e:=λi e he=>by simp only[E,List.getD];rw[he];rfl
 let ms:=C3s ops.toList []
 have hmask: ∀S,D2g ops S-> ∀k i,(ms.getD k 0).testBit i=true->S k=true->S i=true:=λS hS=>(D28 hS ops.toList [] (λi o hi=>by simpa using hi) (λk i hb=>by simp at hb)).2
 have one: ∀i,i<ops.size-> ∃o ao ao0 m f,ops[i]? =some o/\as0[i]? =some ao0/\as[i]? =some ao/\ao= {ao0 with chk:=B95 m ao0 (as0.take i) 0}/\ms[i]? =some m/\
   B17 P N ops o=some ao0/\B47 m ao0 (as0.take i) 0=true/\(E i).dst=ao.dst/\ft[i]? =some f/\f=(A0j (atS E σ (λ_=>true) i) ao,keys (E i).r)/\
   A3s P ao (atS E σ (λ_=>true) i) (E i).b (E i).r/\A3m (ft.take i) f.1 f.2 ao.chk/\A4z ao.op (E i).r:=λi hi=>by
  have ho:ops.toList[i]? =some ops[i]:=by simp[hi]
  grind
 have pair: ∀i j,i<j->j<ops.size->(∃m,ms[j]? =some m/\m.testBit i=false)-> ∀ai aj,as[i]? =some ai->as[j]? =some aj->
   D2d ai aj (A0j (atS E σ (λ_=>true) i) ai) (A0j (atS E σ (λ_=>true) j) aj) (E i) (E j):=λi j hij hj hb ai aj hai haj=>by
  obtain⟨o,ao,ao0,m,f,p1,p2,p3,p4,p5,p6,p7,p8,p9,p10,p11,p12,p13⟩:=one j hj;obtain⟨o',ao',ao0',m',f',q1,q2,q3,q4,q5,q6,q7,q8,q9,q10,q11,q12,q13⟩:=one i o_;rw[hai]at q3;injection q3 with q3;subst q3;rw[haj]at p3;injection p3 with p3;subst p3;obtain⟨m2,hm2,hbit⟩:=hb;rw[p5]at hm2;injection hm2 with hm2;subst hm2;have hgi:(as0.take j)[i]? =some ao0':=by rw[qX];simp[hij,q2]
  have hap:=(C4z p7 i ao0' hgi).resolve_left (by simp[hbit]);obtain⟨s1,s2⟩:=E1r hap;have dyn:(∀x∈keys (E i).r,x∉A0j (atS E σ (λ_=>true) j) aj/\x∉keys (E j).r)/\(∀x∈keys (E j).r,x∉A0j (atS E σ (λ_=>true) i) ai/\x∉keys (E i).r):=by
   cases hin:C0d ao0' ao0 with
   |true=>
    have hch:=D2w (i:=0) i ao0' hgi (by simpa using hbit) hin;obtain⟨f2,k2,hf2,hd1,hd2⟩:=C6n p12 i (by rw[p4];simpa using hch);rw[qX,zc hij,q9]at hf2;injection hf2 with hf2;rw[q10]at hf2;injection hf2 with e1 e2;subst e1;subst e2;rw[p10]at hd1 hd2;simp only at hd1 hd2;refine⟨λx hx=> ?_,λx hx=> ?_⟩
    ·have:=hd2 x hx
     simpa[zj,qy]using this
    ·have:=hd1 x hx
     simpa[zj,qy]using this
   |false=>
    simp only[C0d,yb,Bool.and_eq_false_iff]at hin;have hopi:ai.op=ao0'.op:=by rw[q4]
    have hopj:aj.op=ao0.op:=by rw[p4]
    rw[<-hopi,<-hopj]at hin;obtain⟨h1,h2⟩:=hin;have quiet: ∀(b:dC) (τ:St) (c:Bool) (r:Res),A3s P b τ c r->b.op.mayWrite=false->A4z b.op r->keys r= []:=λb τ c r hd hw hq=>hd.quiet hw hq
    have tch: ∀op:AOp,op.touches=false->op.mayWrite=false:=λop ht=>by
     cases hw:op.mayWrite with
     |false=>rfl
     |true=>rw[D1n hw]at ht;cases ht
    refine⟨λx hx=> ?_,λx hx=> ?_⟩
    ·rcases h1 with h1 |h1
     ·grind
     ·exact⟨by rw[D22 h1];simp,by rw[quiet _ _ _ _ p11 (tch _ h1) p13];simp⟩
    ·rcases h2 with h2 |h2
     ·grind
     ·exact⟨by rw[D22 h2];simp,by rw[quiet _ _ _ _ q11 (tch _ h2) q13];simp⟩
  refine⟨λd hd=> ?_,λd hd=> ?_,dyn.1,dyn.2⟩
  ·rw[q8,q4]at hd;have:=s1 d hd;rw[p8,p4];exact this
  ·rw[p8,p4]at hd;have:=s2 d hd;rw[q8,q4];exact this
 have main: ∀(fuel:Nat) (listed:Array Bool) (a':Act) (w':World) (ob':Place) (G':Nat->Prop),listed.size=ops.size->
   (List.range ops.size).countP (λi=> !listed.getD i false)<=fuel->D2g ops (λi=>listed.getD i false)->
   Sim N (atS E σ (λi=>listed.getD i false) ops.size) a' w' ob' G'->Fr G w ob G' w' ob'->D4 ob ob'->wpAny P .any ops R fuel listed a' w':=by
  intro fuel;have final: ∀(listed:Array Bool) (a':Act) (w':World) (ob':Place) (G':Nat->Prop),listed.size=ops.size->Region.ready .any ops listed= []->
    Sim N (atS E σ (λi=>listed.getD i false) ops.size) a' w' ob' G'->Fr G w ob G' w' ob'->D4 ob ob'->R .normal a' w':=by
   intro listed a' w' ob' G' hsz hr hsim hfr hob;have hall: ∀i,i<ops.size->listed.getD i false=true:=by
    intro i;induction i using Nat.strongRecOn with
    |_ i ih=>
     intro hi;by_cases hli:listed.getD i false=true
     ·exact hli
     ·exfalso;have:i∈Region.ready .any ops listed:=by
       rw[mem_ready];refine⟨?_,ops[i],by simp[hi],λe he hb=> ?_⟩
       ·grind
       ·have:=C58 hedge i ops[i] (by simp[hi]) e he hb
        exact ih e.on o_ o_
      rw[hr]at this;cases this
   have heq:atS E σ (λi=>listed.getD i false) ops.size=B34 σ es:=by rw[D2t (S':=λ_=>true) ops.size (λj hj=>hall j hj),hE _ (ze _),List.take_of_length_le o_]
   grind
  induction fuel with
  |zero=>
   intro listed a' w' ob' G' hsz hcnt hcl hsim hfr hob;have hr:Region.ready .any ops listed= []:=by
    cases hr:Region.ready .any ops listed with
    |nil=>rfl
    |cons i rs=>
     exfalso;have hi:i∈Region.ready .any ops listed:=by rw[hr];exact qp ..
     obtain⟨h0,o,ho,_⟩:=mem_ready.1 hi;have hlt:i<ops.size:=(qb.1 ho).1
     have:0<(List.range ops.size).countP (λi=> !listed.getD i false):=by
      rw[List.countP_pos_iff]
      grind
     omega
   exact⟨hr,final listed a' w' ob' G' hsz hr hsim hfr hob⟩
  |succ fuel ih=>
   intro listed a' w' ob' G' hsz hcnt hcl hsim hfr hob;refine⟨λhr=>final listed a' w' ob' G' hsz hr hsim hfr hob,λj hj=> ?_⟩;obtain⟨h0,o,ho,hedges⟩:=mem_ready.1 hj;have hlt:j<ops.size:=(qb.1 ho).1
   have hlt':j<listed.size:=o_
   have h0':listed.getD j false=false:=by simp only[qO,qh hlt',Option.getD_some]at h0⊢;exact h0
   have hset:(λi=>(listed.setIfInBounds j true).getD i false)=λi=>if i=j then true else listed.getD i false:=by
    funext i;by_cases hij:i=j
    ·subst hij;simp[hlt']
    ·rw[getD_set_ne false (λe=>hij e.symm)];simp[hij]
   have hcl':D2g ops (λi=>(listed.setIfInBounds j true).getD i false):=by
    rw[hset];intro k o' ho' hk e he hb;by_cases hej:e.on=j
    ·simp[hej]
    ·simp only[hej,zJ];by_cases hkj:k=j
     ·subst hkj;rw[ho]at ho';injection ho' with ho';subst ho';exact hedges e he hb
     ·simp only[hkj,zJ]at hk;exact hcl k o' ho' hk e he hb
   obtain⟨o1,ao,ao0,m,f,p1,p2,p3,p4,p5,p6,p7,p8,p9,p10,p11,p12⟩:=one j hlt;rw[ho]at p1;injection p1 with p1;subst p1;have odd: ∀k,k<ops.size->k≠j->decide (k<j)≠listed.getD k false-> ∀ak,as[k]? =some ak->
     D2d ak ao (A0j (atS E σ (λ_=>true) k) ak) (A0j (atS E σ (λ_=>true) j) ao) (E k) (E j):=by
    intro k hk hkj hne ak hak;rcases Nat.lt_or_gt_of_ne hkj with hlt2 |hgt
    ·have hSk:listed.getD k false=false:=by
      cases hs:listed.getD k false with
      |false=>rfl
      |true=>rw[hs,zT hlt2]at hne;exact absurd rfl hne
     refine pair k j hlt2 hlt ⟨m,p5,?_⟩ ak ao hak p3;cases hbit:m.testBit k with
     |false=>rfl
     |true=>
      have hj':=congrFun hset j
      have hk':=congrFun hset k;simp only at hj' hk';have:=hmask _ hcl' j k (by rw[List.getD,p5];exact hbit) (by rw[hj'];simp);rw[hk',zb hkj,hSk]at this;cases this
    ·have hSk:listed.getD k false=true:=by
      cases hs:listed.getD k false with
      |true=>rfl
      |false=>rw[hs,zp o_]at hne;exact absurd rfl hne
     obtain⟨_,_,_,m',_,_,_,_,_,q5,_⟩:=one k hk;refine(pair j k hgt hk ⟨m',q5,?_⟩ ao ak p3 hak).symm;cases hbit:m'.testBit j with
     |false=>rfl
     |true=>have:=hmask _ hcl k j (by rw[List.getD,q5];exact hbit) hSk;rw[h0']at this;cases this
   have hask: ∀k,k<ops.size-> ∃ak,as[k]? =some ak:=λk hk=>⟨as[k]' o_,zg _⟩
   have hup:atS E σ (λ_=>true) j=atS E σ (λi=>decide (i<j)) ops.size:=(D81 j ops.size o_).symm
   have hdo:A3s P ao (atS E σ (λi=>listed.getD i false) ops.size) (E j).b (E j).r:=by
    refine F6b p11 (λt ht=> ?_) (λx hx=> ?_) (λx hx=> ?_)
    ·rw[hup];refine E28 ops.size λk hk hne hd=> ?_;by_cases hkj:k=j
     ·subst hkj;rw[h0',zp o_]at hne;exact hne rfl
     ·obtain⟨ak,hak⟩:=hask k hk;exact((odd k hk hkj hne ak hak).di t hd).1 ht
    ·rw[hup];refine D0t ops.size λk hk hne hd=> ?_;by_cases hkj:k=j
     ·subst hkj;rw[h0',zp o_]at hne;exact hne rfl
     ·obtain⟨ak,hak⟩:=hask k hk;exact((odd k hk hkj hne ak hak).ij x hd).1 hx
    ·rw[hup];refine D0t ops.size λk hk hne hd=> ?_;by_cases hkj:k=j
     ·subst hkj;rw[h0',zp o_]at hne;exact hne rfl
     ·obtain⟨ak,hak⟩:=hask k hk;exact((odd k hk hkj hne ak hak).ij x hd).2 hx
   have hdo0:A3s P ao0 (atS E σ (λi=>listed.getD i false) ops.size) (E j).b (E j).r:=hdo.reclad (by rw[p4]) (by rw[p4]) (by rw[p4])
   have hd0:ao0.dst=(E j).dst:=by rw[p8,p4]
   have:=C10 (K:=wpAny P .any ops R fuel (listed.setIfInBounds j true)) (Q:=R) p6 hsim hdo0 (λa2 w2 ob2 G2 s2 f2 e2=>by
    have hst:(atS E σ (λi=>listed.getD i false) ops.size).put ao0.dst (E j).b (E j).r=atS E σ (λi=>(listed.setIfInBounds j true).getD i false) ops.size:=by
     rw[hset,E29 h0' ops.size hlt]
     ·rw[hd0];rfl
     ·intro k hjk hk hSk;obtain⟨ak,hak⟩:=hask k hk;have hap:=(odd k hk o_ (by rw[hSk,zp o_];simp) ak hak).symm;exact⟨λd hd=>(hap.di d hd).2,λx hx=>(hap.ij x hx).2⟩
    rw[hst]at s2;refine ih _ a2 w2 ob2 G2 (by simpa using hsz) ?_ hcl' s2 (hfr.trans f2) (hob.trans e2);have:=D9e (p:=λi=> !listed.getD i false) (q:=λi=> !(listed.setIfInBounds j true).getD i false) (i:=j)
     (λx hx=>by
       by_cases hxj:x=j
       ·subst hxj;simp[h0']
       ·rw[getD_set_ne false (λe=>hxj e.symm)]at hx;exact hx)
     (by simp[h0']) (by simp[hlt']) (List.range ops.size) (xj.2 hlt)
    omega)
   unfold wpOp;rw[ho];by_cases hw:Region.wanted o (yielded ops a'.tmps)=true
   all_goals grind
 refine wp_region_any hm ?_;have hsim0:Sim N (atS E σ (λi=>(Array.replicate ops.size false).getD i false) ops.size) a {w with drawn:=w.drawn+1} ob G:=by
  have:atS E σ (λi=>(Array.replicate ops.size false).getD i false) ops.size=σ:=by
   have key: ∀k,atS E σ (λi=>(Array.replicate ops.size false).getD i false) k=σ:=by
    intro k;induction k with
    |zero=>rfl
    |succ k ih=>
     simp only[atS];rw[ih];have:(Array.replicate ops.size false).getD k false=false:=by simp only[qO,Array.getElem?_replicate];split <;> rfl
     rw[this];rfl
   exact key _
  rw[this];refine⟨hs.size,hs.defers,hs.objs.heap_eq rfl,λt av ht=> ?_,hs.env0⟩;obtain⟨v,h1,h2⟩:=hs.env t av ht;exact⟨v,h1,h2.ext (λ_ h=>h) (λ_ _=>rfl) (D4.refl ob)⟩
 refine main ops.size _ a _ ob G p_ ?_ ?_ hsim0 (Fr.of_heap (ze _) (λ_ _ _=>rfl) (λ_ h=> .inl h) rfl rfl rfl) (D4.refl ob)
 ·exact qd (List.countP_le_length) p_
 ·intro j o ho hj;have:(Array.replicate ops.size false).getD j false=false:=by
   simp only[qO,Array.getElem?_replicate];split <;> rfl
  simp only[this]at hj;cases hj
theorem E2y {ops:Array Oper}{Q:St->Prop}{R:Exit->Act->World->Prop}{id:Nat}
  (hm:P.follows .mixedOrders=true)(hc:A87 P N ops true=some as)(hs:Sim N σ a w ob G)(h:C1v P as [] Q σ)
  (hQ: ∀τ a' w' ob' G',Q τ->Sim N τ a' w' ob' G'->Fr G w ob G' w' ob'->D4 ob ob'->R .normal a' w'):(Code.region id ops true).wp P R a w:=
 D4i hm hc hs (C4x as [] σ h) hQ
end
structure J2 (c c':AV):Prop where
 rel: ∀G w ob v,Rel G w ob c v->Rel G w ob c' v
 flat:c.flat=true->c'.flat=true
 pure:c.pure=true->c'.pure=true
 one:c.one=true->c'.one=true
def A52:List AV->List AV->Prop
 | [],[]=>True
 |a::as,b::bs=>J2 a b/\A52 as bs
 |_,_=>False
theorem J2.refl(c:AV):J2 c c:=⟨λ_ _ _ _ h=>h,id,id,id⟩
variable {c':AV}
theorem J2.of_eq {c:AV}(h:c=c'):J2 c c':=h▸J2.refl c
theorem A52.refl: ∀(l:List AV),A52 l l
 | []=>trivial
 |a::l=>⟨J2.refl a,A52.refl l⟩
theorem A52.get: ∀ {l l':List AV},A52 l l'->l'.length=l.length/\ ∀(j:Nat) (b:AV),l'[j]? =some b-> ∃a,l[j]? =some a/\J2 a b
 | [],[],_=>⟨rfl,λj b h=>by simp at h⟩
 |a::l,b::l',h=>by
  obtain⟨h1,h2⟩:=A52.get h.2;refine⟨by simp[h1],λj b' hj=> ?_⟩;cases j with
  |zero=>simp only[List.getElem?_cons_zero,za]at hj;subst hj;exact⟨a,rfl,h.1⟩
  |succ j=>grind
 | [],_::_,h=>h.elim
 |_::_,[],h=>h.elim
theorem J2.dsl {z n:Nat}{g g':Nat->List AV}(h: ∀i,i<n->A52 (g i) (g' i)):J2 (.dsl z n g) (.dsl z n g'):=by
 refine⟨λG w ob v hr=> ?_,id,id,id⟩;cases hr with
 |dslNil=>exact .dslNil
 |dslE a cap=>exact .dslE a cap
 |dsl b off cap c hG hcap hlen hp hc hr=>
  refine .dsl b off cap c hG hcap (λi hi=>by rw[(h i hi).get.1];exact hlen i hi) (λi j av hi hj=> ?_) hc (λi j av hi hj=> ?_)
  ·obtain⟨a,ha,hle⟩:=(h i hi).get.2 j av hj;exact hle.pure (hp i j a hi ha)
  ·obtain⟨a,ha,hle⟩:=(h i hi).get.2 j av hj;exact hle.rel _ _ _ _ (hr i j a hi ha)
theorem J2.dslx {z n:Nat}{g g':Nat->List AV}(h: ∀i,i<n->A52 (g i) (g' i)):J2 (.dslx z n g) (.dslx z n g'):=by
 refine⟨λG w ob v hr=> ?_,id,id,id⟩;cases hr with
 |dslxNil=>exact .dslxNil
 |dslxE a=>exact .dslxE a
 |dslx b off c hG hlen hp hc hr=>
  refine .dslx b off c hG (λi hi=>by rw[(h i hi).get.1];exact hlen i hi) (λi j av hi hj=> ?_) hc (λi j av hi hj=> ?_)
  ·obtain⟨a,ha,hle⟩:=(h i hi).get.2 j av hj;exact hle.pure (hp i j a hi ha)
  ·obtain⟨a,ha,hle⟩:=(h i hi).get.2 j av hj;exact hle.rel _ _ _ _ (hr i j a hi ha)
variable {z:Nat} {g:Nat->List AV}
theorem J2.dslx_dsl:J2 (.dslx z n g) (.dsl z n g):=by
 refine⟨λG w ob v hr=> ?_,λ_=>rfl,λ_=>rfl,λ_=>rfl⟩;cases hr with
 |dslxNil=>exact .dslNil
 |dslxE a=>exact .dslE a 0
 |dslx b off c hG hlen hp hc hr=>exact .dsl b off n c hG (ze n) hlen hp hc hr
theorem J2.nil:J2 (.sc (.slice none 0 0)) (.dsl z 0 g):=by refine⟨λG w ob v hr=> ?_,λ_=>rfl,λ_=>rfl,λ_=>rfl⟩;have:=hr.sc_eq;subst this;exact .dslNil
theorem J2.trans {a b c:AV}(h:J2 a b)(h':J2 b c):J2 a c:=⟨λG w ob v hr=>h'.rel G w ob v (h.rel G w ob v hr),λx=>h'.flat (h.flat x),λx=>h'.pure (h.pure x),λx=>h'.one (h.one x)⟩
theorem J2.agg {cs cs':List AV}(h:A52 cs cs'):J2 (.agg cs) (.agg cs'):=by
 refine⟨λG w ob v hr=> ?_,λhf=> ?_,λhp=>(by simp[AV.pure]at hp),λhp=>(by simp[AV.one]at hp)⟩
 ·cases hr with
  |agg vs hn ho hrr=>
   refine .agg vs (by rw[hn,h.get.1]) (λj av hj=> ?_) (λj av hj=> ?_)
   ·obtain⟨a,ha,hle⟩:=h.get.2 j av hj;exact hle.one (ho j a ha)
   ·obtain⟨a,ha,hle⟩:=h.get.2 j av hj;exact hle.rel _ _ _ _ (hrr j a ha)
 ·simp only[AV.flat,qm]at hf⊢;intro av hav;obtain⟨j,hj⟩:=zA hav;obtain⟨a,ha,hle⟩:=h.get.2 j av hj;exact hle.pure (hf a (qv ha))
structure B13 (o o':A7):Prop where
 rel: ∀G w ob i,P4 G w ob i o->P4 G w ob i o'
 owned:o'.owned=true->o.owned=true
theorem B13.refl(o:A7):B13 o o:=⟨λ_ _ _ _ h=>h,id⟩
variable {s':Sq}
theorem B0l.le {G:Nat->Prop}{w:World}{ob:Place}{arr:Array Value}(h:B0l G w ob arr z s)(hn:s.n=s'.n)(hg: ∀i,i<s.n->A52 (s.g i) (s'.g i)):B0l G w ob arr z s':=by
 refine⟨λi hi=> ?_,λi j av hi hj=> ?_⟩
 ·rw[<-hn]at hi;rw[(hg i hi).get.1];exact h.1 i hi
 ·rw[<-hn]at hi;obtain⟨a,ha,hle⟩:=(hg i hi).get.2 j av hj;obtain⟨h1,v,h2,h3⟩:=h.2 i j a hi ha;exact⟨hle.pure h1,v,h2,hle.rel _ _ _ _ h3⟩
theorem B13.arr {z:Nat}{s s':Sq}(hn:s.n=s'.n)(hg: ∀i,i<s.n->A52 (s.g i) (s'.g i)):B13 (.arr z s) (.arr z s'):=by
 refine⟨λG w ob i h=> ?_,λ_=>rfl⟩;obtain⟨h0,h00,h1,h2,h3⟩:=h;refine⟨h0,h00,by rw[h1,hn],by rw[<-hn];exact h2,?_⟩;rcases h3 with⟨h3,h4,h5⟩ |⟨b,arr,T,h3,h4,h5,h6⟩
 ·grind
 ·exact .inr ⟨b,arr,T,h3,h4,h5,h6.le hn hg⟩
theorem B13.frz(hn:s.n=s'.n)(hg: ∀i,i<s.n->A52 (s.g i) (s'.g i)):B13 (.frz z s) (.frz z s'):=by
 refine⟨λG w ob i h=> ?_,λh=>(by simp[A7.owned]at h)⟩;obtain⟨h0,h00,h1,h2,h3⟩:=h;refine⟨h0,h00,by rw[h1,hn],by rw[<-hn];exact h2,?_⟩;rcases h3 with⟨h3,h4,h5⟩ |⟨b,arr,T,fz,h3,hG,h4,h6⟩
 ·grind
 ·exact .inr ⟨b,arr,T,fz,h3,hG,h4,h6.le hn hg⟩
structure A7o (c c':AV):Prop where
 rel: ∀G w ob β v,A9o G w ob β c v->A9o G w ob β c' v
theorem A7o.refl(c:AV):A7o c c:=⟨λ_ _ _ _ _ h=>h⟩
theorem A7o.own {g':Nat->List AV}(h: ∀i,i<n->A52 (g i) (g' i)):A7o (.own z n g) (.own z n g'):=by
 refine⟨λG w ob β v hc=> ?_⟩;rcases hc with hc |⟨b,cap,arr,T,h1,h2,h3,h4,h5,h6⟩
 ·exact .inl hc
 ·exact .inr ⟨b,cap,arr,T,h1,h2,h3,h4,h5,h6.le rfl h⟩
theorem A7o.nil:A7o (.sc (.slice none 0 0)) (.own z 0 g):=by refine⟨λG w ob β v hc=> ?_⟩;obtain⟨_,h1,h2⟩:=hc;have:=h2.sc_eq;exact .inl ⟨h1,rfl, .inl this⟩
theorem A7o.pure {c c':AV}(hp:c.pure=true)(h:J2 c c'):A7o c c':=by
 have hp':=h.pure hp;refine⟨λG w ob β v hc=> ?_⟩;have hc':c.pure=true/\β=none/\Rel G w ob c v:=by
  cases c with
  |own=>simp[AV.pure]at hp
  |hole=>simp[AV.pure]at hp
  |_=>exact hc
 have hr:=h.rel _ _ _ _ hc'.2.2;cases c' with
 |own=>simp[AV.pure]at hp'
 |hole=>simp[AV.pure]at hp'
 |_=>exact⟨hp',hc'.2.1,hr⟩
def B8b:List AV->List AV->Prop
 | [],[]=>True
 |a::as,b::bs=>A7o a b/\B8b as bs
 |_,_=>False
theorem B8b.get: ∀ {l l':List AV},B8b l l'->l'.length=l.length/\ ∀(j:Nat) (b:AV),l'[j]? =some b-> ∃a,l[j]? =some a/\A7o a b
 | [],[],_=>⟨rfl,λj b h=>by simp at h⟩
 |a::l,b::l',h=>by
  obtain⟨h1,h2⟩:=B8b.get h.2;refine⟨by simp[h1],λj b' hj=> ?_⟩;cases j with
  |zero=>simp only[List.getElem?_cons_zero,za]at hj;subst hj;exact⟨a,rfl,h.1⟩
  |succ j=>grind
 | [],_::_,h=>h.elim
 |_::_,[],h=>h.elim
theorem A7y.le {G:Nat->Prop}{w:World}{ob:Place}{arr:Array Value}{β:Nat->Nat->Option Nat}(h:A7y G w ob arr z s β)(hn:s.n=s'.n)(hg: ∀i,i<s.n->B8b (s.g i) (s'.g i)):A7y G w ob arr z s' β:=by
 refine⟨λi hi=> ?_,λi j av hi hj=> ?_⟩
 ·rw[<-hn]at hi;rw[(hg i hi).get.1];exact h.1 i hi
 ·rw[<-hn]at hi;obtain⟨a,ha,hle⟩:=(hg i hi).get.2 j av hj;obtain⟨v,h2,h3⟩:=h.2 i j a hi ha;exact⟨v,h2,hle.rel _ _ _ _ _ h3⟩
theorem B13.arrP(hn:s.n=s'.n)(hg: ∀i,i<s.n->B8b (s.g i) (s'.g i)):B13 (.arrP z s) (.arrP z s'):=by
 refine⟨λG w ob i h=> ?_,λ_=>rfl⟩;obtain⟨h00,h1,h2,p,hk,h3⟩:=h;refine⟨h00,by rw[h1,hn],by rw[<-hn];exact h2,p,hk,?_⟩;rcases h3 with⟨h3,h4,h5⟩ |⟨b,arr,T,β,h3,h4,h5,h6,h7⟩
 ·grind
 ·exact .inr ⟨b,arr,T,β,h3,h4,h5,h6.le hn hg,by rw[<-hn];exact h7⟩
inductive C0u where
 |cA |eP |fA
abbrev Slots:=List (Nat×C0u×AV)
def A2e:Slots->Nat->Option (Bool×AV)
 | [],_=>none
 |(k,_,v)::r,t=>if t=k then some (true,v)else A2e r t
theorem B21: ∀ {T:Slots} {t:Nat} {av:AV},¬A2e T t=some (false,av)
 | [],_,_,h=>by simp[A2e]at h
 |(k,_,v)::r,t,av,h=>by
  simp only[A2e]at h;split at h
  ·simp at h
  ·exact B21 h
def A19(T:Slots)(O:List (Nat×A7)):St:=⟨A2e T,ofL O⟩
def B3a(σ:St)(ρ:Nat->Nat)(A:List Nat)(O:List (Nat×A7)):Slots->List (Nat×A7)->(List (Nat×A7)->Prop)->Prop
 | [],acc,K=>K acc
 |(t, .cA,c)::r,acc,K=>σ.env t=some (true,c.ren ρ)/\(∀i∈c.ids,(ofL O i).isSome/\i∉A)/\B3a σ ρ A O r acc K
 |(t, .eP,c)::r,acc,K=>match σ.env t with
  |some (b,av)=>b=true/\(match A0x σ.objs av with
   |some (p,c1,w1)=>p/\J2 c1 c/\B3a σ ρ A O r (acc++w1) K
   |none=>False)
  |none=>False
 |(t, .fA,c)::r,acc,K=>σ.env t=some (true, .sc (.slice none 0 0))/\(match c with | .sl x 0 0 0=>x∈A/\(ofL O x).isSome |_=>False)/\B3a σ ρ A O r acc K
inductive B8d (ρ:Nat->Nat) (A:List Nat) (O:List (Nat×A7)):AV->AV->Prop
 |cA {c:AV} (h: ∀j∈c.ids,(ofL O j).isSome/\j∉A):B8d ρ A O (c.ren ρ) c
 |fA {x:Nat} (h:x∈A) (ho:(ofL O x).isSome):B8d ρ A O (.sc (.slice none 0 0)) (.sl x 0 0 0)
 |le {c' c:AV} (h:c'.pure=true) (hle:J2 c' c):B8d ρ A O c' c
inductive B9w (ρ:Nat->Nat) (A:List Nat) (O:List (Nat×A7)):List AV->List AV->Prop
 |nil:B9w ρ A O [] []
 |cons {c' c:AV} {cs' cs:List AV} (h:B8d ρ A O c' c) (hs:B9w ρ A O cs' cs):B9w ρ A O (c'::cs') (c::cs)
variable {O:List (Nat×A7)} {cs:List AV} {A:List Nat}
theorem B9w.get {ρ:Nat->Nat}{cs':List AV}(h:B9w ρ A O cs' cs):cs'.length=cs.length/\ ∀(j:Nat) (c:AV),cs[j]? =some c-> ∃c',cs'[j]? =some c'/\B8d ρ A O c' c:=by
 induction h with
 |nil=>exact⟨rfl,λj c h=>by simp at h⟩
 |cons h hs ih=>grind
def D2h(ρ:Nat->Nat)(A:List Nat)(O:List (Nat×A7))(o' o:A7):Prop:=(∃cs' cs,o'= .box cs'/\o= .box cs/\B9w ρ A O cs' cs)\/((∀cs,o'≠ .box cs)/\(∀cs,o≠ .box cs)/\(o'=o\/B13 o' o))
def C18(m:Nat->Option A7)(ρ:Nat->Nat)(A:List Nat)(O:List (Nat×A7)):List (Nat×A7)->Prop
 | []=>True
 |(i,o)::r=>(if i∈A then(match o with | .arr _ s=>s.n=0 | .arrP _ s=>s.n=0 |_=>False)else(match m (ρ i)with |some o'=>D2h ρ A O o' o |none=>False))/\C18 m ρ A O r
def J1:List (Nat×Nat)->Nat->Nat
 | [],i=>i
 |(a,b)::r,i=>if i=a then b else J1 r i
structure F17 (K:List Nat) (σ:St) (ρ:Nat->Nat) (A:List Nat) (T:Slots) (O:List (Nat×A7)):Prop where
 nodup:(O.map (·.1)).Nodup
 inj:((O.map (·.1)).filter λi=> !A.contains i).map ρ|>.Nodup
 keep: ∀k∈K,k∉A/\ρ k=k/\(ofL O k).isSome
 slots:B3a σ ρ A O T [] λwr=>C18 (wrm σ.objs wr) ρ A O O
def obW(ob:Place)(ρ:Nat->Nat)(A:List Nat)(O:List (Nat×A7)):Place:=λi=>
 match ofL O i with
 |none=>none
 |some o=>if i∈A then some ⟨none,(match o with | .arr z _=>z | .arrP z _=>z |_=>0),0,0,(match o with | .arrP .. => .priv λ_=>False |_=> .cells)⟩else ob (ρ i)
section
variable {P:Program} {G:Nat->Prop} {w:World} {ob:Place} {N:Nat} {σ:St} {a:Act}
theorem B74 {ρ:Nat->Nat}{A:List Nat}{O:List (Nat×A7)}{Kp:List (Nat×A7)->Prop}(hs:Sim N σ a w ob G): ∀(T:Slots) (acc:List (Nat×A7)) (G1:Nat->Prop),
  B3a σ ρ A O T acc Kp->E8 G1 w ob (wrm σ.objs acc)->A6m σ.objs (wrm σ.objs acc)->(∀b,G b->G1 b)->(∀b,G1 b->G b\/P6 ob b)->
  ∃acc' G2,Kp acc'/\E8 G2 w ob (wrm σ.objs acc')/\(∀b,G1 b->G2 b)/\(∀b,G2 b->G b\/P6 ob b)/\
   ∀t av,A2e T t=some (true,av)-> ∃v,a.tmps[t]? =some v/\
    ((av.flat=true/\Rel G2 w ob av v)\/((∀i∈av.ids,(ofL O i).isSome/\i∉A)/\Rel G2 w ob (av.ren ρ) v)\/(∃x,av= .sl x 0 0 0/\x∈A/\(ofL O x).isSome/\v= .slice none 0 0))
 | [],acc,G1,h,h1,h2,h3,h4=>⟨acc,G1,h,h1,λ_ h=>h,h4,λt av h=>by simp[A2e]at h⟩
 |(k, .cA,c)::r,acc,G1,h,h1,h2,h3,h4=>by
  obtain⟨g1,g2,g3⟩:=h;obtain⟨acc',G2,k1,k2,k3,k4,k5⟩:=B74 hs r acc G1 g3 h1 h2 h3 h4;refine⟨acc',G2,k1,k2,k3,k4,λt av ht=> ?_⟩;simp only[A2e]at ht;split at ht
  ·rename_i e;subst e;simp only[za,zq,qo]at ht;subst ht;obtain⟨v,hv,hr⟩:=hs.env t _ g1;exact⟨v,hv, .inr (.inl ⟨g2,hr.ext (λb hb=>k3 b (h3 b hb)) (λ_ _=>rfl) (D4.refl ob)⟩)⟩
  ·exact k5 t av ht
 |(k, .eP,c)::r,acc,G1,h,h1,h2,h3,h4=>by
  simp only[B3a]at h;split at h
  case h_2=>exact h.elim
  rename_i b av0 hk;obtain⟨rfl,h⟩:=h;split at h
  case h_2=>exact h.elim
  rename_i p c1 w1 hf;obtain⟨hp,hle,hrest⟩:=h;obtain⟨v,hv,hr⟩:=hs.env k _ hk;obtain⟨G',b1,b2,b3,b4,b5,b6⟩:=C90 hf hp h1 h2 (hr.ext h3 (λ_ _=>rfl) (D4.refl ob));rw[<-A4r]at b1 b2;obtain⟨acc',G2,k1,k2,k3,k4,k5⟩:=B74 hs r (acc++w1) G' hrest b1 b2 (λb hb=>b3 b (h3 b hb)) (λb hb=>by grind)
  refine⟨acc',G2,k1,k2,λb hb=>k3 b (b3 b hb),k4,λt av ht=> ?_⟩;simp only[A2e]at ht;split at ht
  ·rename_i e;subst e;simp only[za,zq,qo]at ht;subst ht;exact⟨v,hv, .inl ⟨hle.flat b5,hle.rel _ _ _ _ (b6.ext k3 (λ_ _=>rfl) (D4.refl ob))⟩⟩
  ·exact k5 t av ht
 |(k, .fA,c)::r,acc,G1,h,h1,h2,h3,h4=>by
  obtain⟨g1,g2,g3⟩:=h;obtain⟨acc',G2,k1,k2,k3,k4,k5⟩:=B74 hs r acc G1 g3 h1 h2 h3 h4;refine⟨acc',G2,k1,k2,k3,k4,λt av ht=> ?_⟩;simp only[A2e]at ht;split at ht
  ·rename_i e;subst e;simp only[za,zq,qo]at ht;subst ht;obtain⟨v,hv,hr⟩:=hs.env t _ g1;split at g2
   ·rename_i x;exact⟨v,hv, .inr (.inr ⟨x,rfl,g2.1,g2.2,hr.sc_eq⟩)⟩
   ·exact g2.elim
  ·exact k5 t av ht
theorem D3c {m:Nat->Option A7}{ρ:Nat->Nat}{A:List Nat}{O:List (Nat×A7)}: ∀ {l:List (Nat×A7)},C18 m ρ A O l-> ∀p∈l,
  (if p.1∈A then(match p.2 with | .arr _ s=>s.n=0 | .arrP _ s=>s.n=0 |_=>False)else(match m (ρ p.1)with |some o'=>D2h ρ A O o' p.2 |none=>False))
 | [],_,p,hp=>by cases hp
 |(i,o)::l,h,p,hp=>by
  rcases zo.1 hp with rfl |hp
  ·exact h.1
  ·exact D3c h.2 p hp
theorem A0z(hn:(O.map (·.1)).Nodup){i:Nat}{o:A7}(h:ofL O i=some o):(i,o)∈O:=by
 rw[B5k O hn,zh]at h
 grind
theorem C43 {ρ:Nat->Nat}: ∀ {l:List Nat},(l.map ρ).Nodup-> ∀i∈l,∀j∈l,ρ i=ρ j->i=j
 | [],_,i,hi,_,_,_=>by cases hi
 |x::l,h,i,hi,j,hj,e=>by
  simp only[qw,yG]at h;rcases zo.1 hi with rfl |hi'
  ·grind
  ·rcases zo.1 hj with rfl |hj'
   ·grind
   ·exact C43 h.2 i hi' j hj' e
variable {K:List Nat} {T:Slots}
theorem B3d {ρ:Nat->Nat}(hs:Sim N σ a w ob G)(h:F17 K σ ρ A T O):
  ∃ob2 G2,Sim N (A19 T O) a w ob2 G2/\Fr G w ob G2 w ob2/\ ∀k∈K,ob2 k=ob k:=by
 obtain⟨hnd,hinj,hkeep,hslots⟩:=h;obtain⟨wr,G2,hobj,hsim,hsub,hnew,henv⟩:=B74 hs T [] G hslots hs.objs (A6m.refl _) (λ_ h=>h) (λ_ h=> .inl h);have hget: ∀i o,ofL O i=some o->_:=λi o hi=>D3c hobj (i,o) (A0z hnd hi)
 have hnA: ∀i o,ofL O i=some o->i∉A-> ∃o',wrm σ.objs wr (ρ i)=some o'/\D2h ρ A O o' o:=λi o hi hA=>by grind
 have hobW: ∀i inf,obW ob ρ A O i=some inf-> ∃o,ofL O i=some o/\((i∈A/\ ∀b,¬inf.has b)\/(i∉A/\ob (ρ i)=some inf)):=λi inf hi=>by
  unfold obW at hi;split at hi
  ·cases hi
  ·rename_i o ho;refine⟨o,ho,?_⟩;split at hi
   ·rename_i hA;cases hi;exact .inl ⟨hA,λb hb=>by
     rcases hb with hb |hb
     ·cases hb
     ·unfold L4.pv at hb;cases o <;> exact hb⟩
   ·rename_i hA;exact .inr ⟨hA,hi⟩
 have hin: ∀i o,ofL O i=some o->i∉A->obW ob ρ A O i=ob (ρ i):=λi o hi hA=>by unfold obW;rw[hi];simp[hA]
 have hmem: ∀i o,ofL O i=some o->i∉A->i∈(O.map (·.1)).filter λi=> !A.contains i:=λi o hi hA=>by rw[List.mem_filter];exact⟨qS (f:=(·.1)) (A0z hnd hi),by simpa using hA⟩
 have hadopt: ∀x,x∈A->(ofL O x).isSome->Rel G2 w (obW ob ρ A O) (.sl x 0 0 0) (.slice none 0 0):=λx h1 h2=>by
  obtain⟨o,ho⟩:=qr.1 h2;have: ∃z kd,obW ob ρ A O x=some ⟨none,z,0,0,kd⟩:=by unfold obW;simp_all
  obtain⟨z,kd,this⟩:=this;exact .sl _ this (zm _) ⟨_,_,rfl⟩ λ_=>⟨ze _,λ_=> .inl rfl,λb hb=>by cases hb⟩
 have hblk: ∀b,P6 (obW ob ρ A O) b->P6 ob b:=by
  rintro b ⟨i,inf,hi,hb⟩;obtain⟨o,ho,h⟩:=hobW i inf hi;rcases h with⟨_,h⟩ |⟨_,h⟩
  ·exact absurd hb (h b)
  ·exact⟨_,inf,h,hb⟩
 refine⟨obW ob ρ A O,G2,⟨hs.size,hs.defers,⟨λi=> ?_,λi j inf inf' b hi hj hb hb'=> ?_,hsim.lt,λi o inf ho hi=> ?_,λi o inf b ho how hi hb=> ?_⟩,λt av ht=> ?_,λt av ht=>absurd ht B21⟩,?_,λk hk=> ?_⟩
 ·show ofL O i=none↔_;constructor
  ·intro h;unfold obW;rw[h]
  ·intro h;cases ho:ofL O i with
   |none=>rfl
   |some o=>
    unfold obW at h;rw[ho]at h;simp only at h;split at h
    ·cases h
    ·rename_i hA;obtain⟨o',h1,_⟩:=hnA i o ho hA;rw[(hsim.dom _).2 h]at h1;cases h1
 ·obtain⟨o,ho,h⟩:=hobW i inf hi;obtain⟨o',ho',h'⟩:=hobW j inf' hj;rcases h with⟨_,h⟩ |⟨hA,h⟩
  ·exact absurd hb (h b)
  ·rcases h' with⟨_,h'⟩ |⟨hA',h'⟩
   ·exact absurd hb' (h' b)
   ·exact C43 hinj i (hmem i o ho hA) j (hmem j o' ho' hA') (hsim.inj _ _ _ _ b h h' hb hb')
 ·have ho:ofL O i=some o:=ho
  by_cases hA:i∈A
  ·have h1:=hget i o ho
   rw[zc hA]at h1;simp only at h1;unfold obW at hi;rw[ho]at hi;simp only[hA,zL,za]at hi;subst hi;cases o with
   |arr z s=>exact⟨rfl,rfl,h1.symm,by show s.n<=0;rw[h1];exact ze 0, .inl ⟨rfl,h1,rfl⟩⟩
   |arrP z s=>exact⟨rfl,h1.symm,by show s.n<=0;rw[h1];exact ze 0,_,rfl, .inl ⟨rfl,h1,rfl,λ_ h=>h⟩⟩
   |_=>exact h1.elim
  ·rw[hin i o ho hA]at hi;obtain⟨o',h1,h2⟩:=hnA i o ho hA;have hr:=hsim.own _ _ inf h1 hi;rcases h2 with⟨cs',cs,rfl,rfl,hle⟩ |⟨h2,h2',h3⟩
   ·obtain⟨g0,g1,g2,b,arr,T,g3,g4,g5,g6⟩:=hr;obtain⟨hlen,hcell⟩:=hle.get;refine⟨g0,g1,by rw[g2,hlen],b,arr,T,g3,g4,by rw[g5,hlen],λj c hj=> ?_⟩;obtain⟨c',hj',hcl⟩:=hcell j c hj;obtain⟨hone,v,hv,hrel⟩:=g6 j c' hj';cases hcl with
    |cA hids=>rw[C2c]at hone;refine⟨hone,v,hv,hrel.unren c rfl λi hi=> ?_⟩;obtain⟨h3,h4⟩:=hids i hi;obtain⟨o,ho⟩:=qr.1 h3;exact hin i o ho h4
    |fA hx hox=>refine⟨rfl,v,hv,?_⟩;rw[hrel.sc_eq];exact hadopt _ hx hox
    |le hp hle=>exact⟨hle.one hone,v,hv,(hle.rel _ _ _ _ hrel).ob_free (hle.pure hp)⟩
   ·have key:P4 G2 w (obW ob ρ A O) inf o':=by
     have hren:o'.ren ρ=o':=by cases o' with
      |box cs=>exact absurd rfl (h2 cs)
      |_=>rfl
     exact P4.unren (ob2:=ob) (ρ:=ρ) (by rw[hren];exact hr) λcs hc=>absurd hc (h2 cs)
    rcases h3 with rfl |h3
    ·exact key
    ·exact h3.rel _ _ _ _ key
 ·have ho:ofL O i=some o:=ho
  obtain⟨o1,ho1,h⟩:=hobW i inf hi;rcases h with⟨_,h⟩ |⟨hA,h⟩
  ·exact absurd hb (h b)
  ·obtain⟨o',h1,h2⟩:=hnA i o ho hA;refine hsim.sep _ o' inf b h1 ?_ h hb;rcases h2 with⟨cs',cs,rfl,rfl,_⟩ |⟨_,_,rfl |h3⟩
   ·rfl
   ·exact how
   ·exact h3.owned how
 ·obtain⟨v,hv,h⟩:=henv t av ht;refine⟨v,hv,?_⟩;rcases h with⟨h1,h2⟩ |⟨h1,h2⟩ |⟨x,rfl,h1,h2,rfl⟩
  ·exact h2.flat_free h1
  ·refine h2.unren av rfl λi hi=> ?_;obtain⟨h3,h4⟩:=h1 i hi;obtain⟨o,ho⟩:=qr.1 h3;exact hin i o ho h4
  ·exact hadopt x h1 h2
 ·exact⟨ze _,λ_ _ _=>rfl,λb hb=> .inl (hblk b hb),hsub,λb hb=>(hnew b hb).imp id .inr,rfl,rfl,rfl,ze _⟩
 ·obtain⟨h1,h2,h3⟩:=hkeep k hk;obtain⟨o,ho⟩:=qr.1 h3;rw[hin k o ho h1,h2]
end
end Go.Abs
end
