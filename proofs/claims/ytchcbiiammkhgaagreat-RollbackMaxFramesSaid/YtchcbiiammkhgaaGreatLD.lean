/- A part of the proof: what a function does, over abstract values and objects, and its ties to the model. -/
import Derived.Test.YtchcbiiammkhgaaGreatLC
import Derived.LoopN
import Derived.Recover
import Derived.RangeFuncRecord
set_option linter.unusedSimpArgs false
set_option linter.unusedVariables false
set_option linter.unnecessarySimpa false
set_option maxRecDepth 100000
set_option maxHeartbeats 2000000
noncomputable section
namespace Go.Abs
section
variable (P:Program) (N:Nat) (K:List Nat)
def Wr(x:ACode)(Q:Out->St->Prop):Nat->St->Prop
 |0,_=>False
 |n+1,σ=>W P N K x (Out.then (Wr x Q n) Q) σ
def Wri(x:ACode)(n:Nat) [Q:Cont](σ:St):Prop:=Wr P N K x Q.q n σ
@[reducible] def E8v(x:ACode)(n:Nat)(Q:Cont):Cont:=⟨Out.then (Wr P N K x Q.q n) Q.q⟩
variable {P N K}
variable {σ:St} {n:Nat} {Q:Cont}
theorem D93 {x:ACode}: @Qi (E8v P N K x n Q) .normal σ= @Wri P N K x n Q σ:=Eq.trans rfl rfl
variable {j:Nat}
theorem E5b {x:ACode}: @Qi (E8v P N K x n Q) (.exit j) σ= @Qi Q (.exit j) σ:=Eq.trans rfl rfl
theorem E6x {x:ACode}: @Qi (E8v P N K x n Q) .ret σ= @Qi Q .ret σ:=Eq.trans rfl rfl
variable {σ':St}
@[congr] theorem G7b {x:ACode}(h:σ=σ'): @Wri P N K x n Q σ= @Wri P N K x n Q σ':=by rw[h]
end
attribute [go_sem] D93 E5b E6x
theorem F4z {n:Int}(h1: -9223372036854775808<=n)(h2:n<9223372036854775808):IntKind.i64.wrap n=n:=by rw[IntKind.wrap_i64];omega
theorem G3s {n:Int}(h1:0<=n)(h2:n<18446744073709551616):IntKind.u64.wrap n=n:=by simp[IntKind.wrap,IntKind.bits,IntKind.signed];omega
section
variable (P:Program) (N:Nat) (K:List Nat)
variable {P N K}
end
section
variable {P:Program} {N:Nat} {K:List Nat} {ev:Int->Value} {D:Int->Prop}
variable (P N K)
variable {P N K}
end
section
variable {P:Program} {N:Nat}
def _root_.Go.Act.more(a:Act)(ds:List Deferred):Act:= {a with defers:=a.defers++ds}
theorem B6h(a:Act)(d:Option Nat)(v:Value)(ds:List Deferred):(a.put d v).more ds=(a.more ds).put d v:=by cases d <;> rfl
variable {a:Act}
theorem F7a {o:Oper}{ds:List Deferred}{K K':Act->World->Prop}{R:Exit->Act->World->Prop}(hK: ∀a w,K a w->K' (a.more ds) w){r:Result Next}
  (h:o.upon P a K (λe a w=>R e (a.more ds) w) r):o.upon P (a.more ds) K' R r:=by
 unfold Oper.upon at h⊢;split at h
 ·have:=hK _ _ h;rw[B6h]at this;exact this
 ·have:=hK _ _ h;rw[B6h]at this;exact this
 ·have:=hK _ _ h;rw[B6h]at this;exact this
 ·refine h.mono ?_;intro e w';cases e with
  |returned v=>intro h;have:=hK _ _ h;rw[B6h]at this;exact this
  |panicked chain=>exact id
  |outgrown=>rintro⟨a',w',h⟩;exact⟨_,w',h⟩
 ·exact h.mono λv w' h=>by have:=hK _ _ h;rw[B6h]at this;exact this
 ·exact h
 ·exact h.elim
variable {w:World}
theorem G2j {ops:Array Oper}{o:Oper}{ds:List Deferred}{K K':Act->World->Prop}{R:Exit->Act->World->Prop}(hK: ∀a w,K a w->K' (a.more ds) w)
  (h:if Region.wanted o (yielded ops a.tmps)then o.wp P a w K (λe a w=>R e (a.more ds) w)\/(o.asks P a w/\LetsOut λe a w=>R e (a.more ds) w)else K (a.put o.dst undef) w):
  if Region.wanted o (yielded ops (a.more ds).tmps)then o.wp P (a.more ds) w K' R\/(o.asks P (a.more ds) w/\LetsOut R)else K' ((a.more ds).put o.dst undef) w:=by
 by_cases hw:Region.wanted o (yielded ops a.tmps)=true
 ·have hw':Region.wanted o (yielded ops (a.more ds).tmps)=true:=hw
  rw[if_pos hw]at h;rw[if_pos hw'];rcases h with h |h
  ·exact .inl (F7a hK h)
  ·exact .inr ⟨h.1,by obtain⟨a',w',h⟩:=h.2;exact⟨_,w',h⟩⟩
 ·have hw': ¬Region.wanted o (yielded ops (a.more ds).tmps)=true:=hw
  rw[if_neg hw]at h;rw[if_neg hw',<-B6h];exact hK _ _ h
theorem C8n {ops:Array Oper}{ds:List Deferred}{R:Exit->Act->World->Prop}: ∀(l:List Nat) (a:Act) (w:World),wpOps P ops (λe a w=>R e (a.more ds) w) l a w->wpOps P ops R l (a.more ds) w
 | [],a,w,h=>h
 |i::l,a,w,h=>by
  rw[wpOps]at h⊢;cases ho:ops[i]? with
  |none=>rw[ho]at h;exact C8n l a w h
  |some o=>rw[ho]at h;exact G2j (λa w=>C8n l a w) h
variable {G:Nat->Prop} {ob:Place} {m:Nat->Option A7} {w':World}
theorem E9.frame(h:E9 G w ob m)(hs:w.heap.size<=w'.heap.size)(he: ∀b,b<w.heap.size->(G b\/P5 ob b)->w'.heap[b]? =w.heap[b]?):E9 G w' ob m where
 dom:=h.dom
 inj:=h.inj
 lt:=λb hb=>Nat.lt_of_lt_of_le (h.lt b hb) hs
 own:=λid o i ho hi=>(h.own id o i ho hi).ext (λ_ h=>h) (λb hb=>he b (h.lt b hb) (.inl hb)) (D4.refl ob) λb hb=>he b ((h.own id o i ho hi).has_lt hb) (.inr ⟨id,i,hi,hb⟩)
 sep:=h.sep
end
def rn(d k:Nat):Nat:=16*(d+1)+k-1
section
variable {P:Program} {m:Nat->Option A7}
def C67(m:Nat->Option A7):List AV->Option (Prop×List AV×List (Nat×A7))
 | []=>some (True,[],[])
 |a::as=>match A0n m a,C67 m as with
  |some (p,c,w),some (q,cs,w')=>some (p/\q,c::cs,w++w')
  |_,_=>none
theorem D39 {ρ:Nat->Nat}: ∀ {avs cs:List AV} {p:Prop} {wr:List (Nat×A7)},C67 m avs=some (p,cs,wr)->p-> ∃md,S2 m ρ [] md avs cs wr
 | [],cs,p,wr,h,hp=>by simp only[C67,Option.some.injEq,Prod.mk.injEq]at h;obtain⟨rfl,rfl,rfl⟩:=h;exact⟨[],rfl⟩
 |a::as,cs,p,wr,h,hp=>by
  simp only[C67]at h;split at h
  ·rename_i p1 c1 w1 q1 cs1 w2 h1 h2;simp only[Option.some.injEq,Prod.mk.injEq]at h;obtain⟨rfl,rfl,rfl⟩:=h;obtain⟨md,hm⟩:=D39 (ρ:=ρ) h2 hp.2;exact⟨false::md,p1,w1,w2,h1,hp.1,rfl,hm⟩
  ·cases h
variable {f:FuncId} {avs cs:List AV} {O' wr:List (Nat×A7)}
theorem E7k {r:AV}{md:List Bool}{ρ:Nat->Nat}(hc:D5 P f cs [] r O')(ha:S2 m ρ [] md avs cs wr)
  (hnew:D2h m ρ [] O')(hd:(O'.map λp=>ρ p.1).Nodup):R5 P m f avs ⟨some (r.ren ρ),wr++A3u ρ O'⟩:=by
 refine R5.mk md cs [] r O' ρ wr false hc ha (λi o h=>by simp[ofL,wrm]at h) (λi cs h=>by simp[ofL,wrm]at h) (λi h=>by simp[ofL,wrm]at h) (λi hi=> ?_) hd (λh=>by cases h);obtain⟨o,ho⟩:=A89 hi;exact C0v hnew i o ho
variable {p:Prop} {d:Nat} {b:Bool}
theorem J2 {Q:ContR}{r:AV}(hz:C67 m avs=some (p,cs,wr))(hp:p)(hc:D5 P f cs [] r O')
  (hK:D2h m (rn d) [] O'/\(O'.map λp=>rn d p.1).Nodup/\b=true/\ @Ri Q b ⟨some (r.ren (rn d)),wr++A3u (rn d) O'⟩): @B65 P d m f avs b Q:=by
 obtain⟨md,hm⟩:=D39 (ρ:=rn d) hz hp;exact⟨_,λ_=>E7k hc hm hK.1 hK.2.1,λ_=>hK.2.2.1,hK.2.2.2⟩
theorem B92 {Q:ContR}{r:AV}(hz:C67 m avs=some (p,cs,wr))(hp:p)(hc:D5 P f cs [] r [])
  (hn:r.noDsl=true)(hK: @Ri Q b ⟨some r,[]⟩): @B65 P d m f avs b Q:=by
 obtain⟨md,hm⟩:=D39 (ρ:=id) hz hp;exact⟨_,λ_=>B2p hc hm true (λ_=>hn),λh=>absurd rfl h,hK⟩
def D2i:List (Nat×A7)->Prop
 | []=>True
 |(_,o)::r=>o.NoDsl/\D2i r
theorem E0s: ∀ {O:List (Nat×A7)},D2i O-> ∀i o,(i,o)∈O->o.NoDsl
 | [],_,i,o,h=>by cases h
 |(k,o1)::O,h,i,o,hm=>by
  rcases List.mem_cons.1 hm with e |hm
  ·obtain⟨rfl,rfl⟩:=Prod.mk.inj e;exact h.1
  ·exact E0s h.2 i o hm
theorem D50 {Q:ContR}{r:AV}(hz:C67 m avs=some (p,cs,wr))(hp:p)(hc:D5 P f cs [] r O')
  (hr:r.noDsl=true)(hn:D2i O')(hK:D2h m (rn d) [] O'/\(O'.map λp=>rn d p.1).Nodup/\b=true/\ @Ri Q b ⟨some (r.ren (rn d)),A3u (rn d) O'⟩): @B65 P d m f avs b Q:=by
 obtain⟨md,hm⟩:=D39 (ρ:=rn d) hz hp;refine⟨_,λ_=>R5.mk md cs [] r O' (rn d) wr true hc hm (λi o h=>by simp[ofL,wrm]at h) (λi cs h=>by simp[ofL,wrm]at h) (λi h=>by simp[ofL,wrm]at h) (λi hi=> ?_) hK.2.1 (λ_=>⟨hr,λi o hi=> ?_⟩),λ_=>hK.2.2.1,hK.2.2.2⟩
 ·obtain⟨o,ho⟩:=A89 hi;exact C0v hK.1 i o ho
 ·exact E0s hn i o (A0p (B4r hK.2.1).1 hi)
variable {O:List (Nat×A7)} {cargs:List AV}
theorem D9b {Q:ContR}{r:AV}(md:List Bool)(ρs:List (Nat×Nat))(hc:D5 P f cargs O r O)
  (hnO:(O.map (·.1)).Nodup)(hnd:(O.map λp=>D3 ρs p.1).Nodup)(hid: ∀p∈O,∃av∈avs,D3 ρs p.1∈B0c m av)
  (ha:L8 m (D3 ρs) O md avs cargs [] λwr=>wr= []/\B9y m (D3 ρs) O O/\ @Ri Q b ⟨some (r.ren (D3 ρs)),[]⟩): @A21 P m f avs b Q:=by
 obtain⟨cs,wr,h1,h2,h3,h4,h5⟩:=C19 ha;rw[List.nil_append]at h3;subst h3;have hO: ∀i o,ofL O i=some o->m (D3 ρs i)=some (o.ren (D3 ρs)):=λi o hi=>(A88 h4 i o (A0p hnO hi)).1;refine⟨_,λ_=>R5.drop _ _ (R5.mk md cs O r O (D3 ρs) [] false (hc.args_le h2) h1 hO
  (λi cs hi=>(A88 h4 i _ (A0p hnO hi)).2 cs rfl) (λi hi=>hi) (λi hi=> .inl hi) hnd (λh=>by cases h)) (λp hp=> ?_) (λp hp=> ?_),λh=>absurd rfl h,h5⟩
 ·simp only[Bool.false_eq_true,if_false,List.nil_append,A3u,List.mem_map]at hp;obtain⟨q,hq,rfl⟩:=hp;exact(A88 h4 q.1 q.2 hq).1
 ·simp only[Bool.false_eq_true,if_false,List.nil_append,A3u,List.mem_map]at hp;obtain⟨q,hq,rfl⟩:=hp;exact hid q hq
theorem E3s {Q:ContR}{r:AV}(md:List Bool)(ρs:List (Nat×Nat))(hc:D5 P f cargs O r O)
  (hnO:(O.map (·.1)).Nodup)(hnd:(O.map λp=>D3 ρs p.1).Nodup)(hid: ∀p∈O,∃av∈avs,D3 ρs p.1∈av.ids)
  (ha:L8 m (D3 ρs) O md avs cargs [] λwr=>wr= []/\B9y m (D3 ρs) O O/\ @Ri Q b ⟨some (r.ren (D3 ρs)),[]⟩): @A21 P m f avs b Q:=
 D9b md ρs hc hnO hnd (λp hp=>let⟨av,h,h2⟩:=hid p hp;⟨av,h,C7a h2⟩) ha
mutual
def F9n:AV->AV->List (Nat×Nat)
 | .sl id _ _ _, .sl k _ _ _=>if id=k then []else [(k,id)]
 | .agg as, .agg bs=>E3c as bs
 |_,_=> []
def E3c:List AV->List AV->List (Nat×Nat)
 |a::as,b::bs=>F9n a b++E3c as bs
 |_,_=> []
end
def ad1:AV->AV->List Nat
 | .sc _, .sl k _ _ _=> [k]
 |_,_=> []
def adL:List AV->List AV->List Nat
 |a::as,b::bs=>ad1 a b++adL as bs
 |_,_=> []
def md1:AV->AV->C3n
 | .sc _, .sl .. => .eZ
 | .sc _, .dsl .. => .eQ
 | .sl .., .dsl .. => .eQ
 | .dsl .., .dsl .. => .eQ
 | .dslx .., .dsl .. => .eQ
 | .agg _, .agg _=> .eQ
 |_,_=> .cA
def mdL:List AV->List AV->List C3n
 |a::as,b::bs=>md1 a b::mdL as bs
 |_,_=> []
variable {σ:St} {rs:List AV} {K ts A:List Nat}
theorem D2o {vs:List AV}{md:List C3n}{ρs:List (Nat×Nat)}(_hv:σ.es (ts.map AX.t)=some vs)(_e1:mdL vs rs=md)(_e2:E3c vs rs=ρs)(_e3:adL vs rs=A)
  (hm:md.length=ts.length)(hr:rs.length=ts.length)
  (h1:(O.map (·.1)).Nodup)(h2:(((O.map (·.1)).filter λi=> !A.contains i).map (D3 ρs)).Nodup)
  (h3: ∀k∈K,k∉A/\D3 ρs k=k/\(ofL O k).isSome)(h4:A3i σ (D3 ρs) A O (C1g ts md rs) [] λwr=>B4s (wrm σ.objs wr) (D3 ρs) A O O):A8c K σ ts rs O:=
 F2g md ρs A hm hr h1 h2 h3 h4
end
attribute [go_sem] C67 rn
variable {σ:St} {O:List (Nat×A7)} {rs:List AV} {K ts:List Nat}
theorem gr_(h:A8c K σ ts rs O):A8c K σ ts rs O:=h
variable {d:Nat} {f:FuncId} {b:Bool} {avs:List AV}
theorem gD_ {P:Program}{m:Nat->Option A7}{Q:ContR}(h: @B65 P d m f avs b Q): @B65 P d m f avs b Q:=h
theorem ev_ {α:Sort _}{a b:α}(h:a=b:=by first |(simp only[go_sem,E3c,F9n,adL,ad1,mdL,md1,↓reduceIte,Nat.reduceEqDiff,Nat.reduceAdd,Nat.reduceMul,Nat.reduceSub,List.map_cons,List.map_nil,List.append_nil,List.nil_append,List.cons_append];done) |(simp only[go_sem,E3c,F9n,adL,ad1,mdL,md1,↓reduceIte,Nat.reduceEqDiff,Nat.reduceAdd,Nat.reduceMul,Nat.reduceSub,List.map_cons,List.map_nil,List.append_nil,List.nil_append,List.cons_append];first |rfl |exact⟨rfl,rfl,rfl⟩ |exact⟨rfl,rfl⟩) |rfl):a=b:=h
theorem nd_(h:D2i O:=by first |exact⟨λ_ _=>rfl,trivial⟩ |exact⟨λ_ _=>rfl,λ_ _=>rfl,trivial⟩):D2i O:=h
variable {p:Prop}
theorem ns_(h:p:=by simp[go_sem,D3]):p:=h
variable {T:J6} {A:List Nat}
theorem E1s {vs:List AV}{ρs:List (Nat×Nat)}(_hv:σ.es (T.map λp=>AX.t p.1)=some vs)(_e2:E3c vs (T.map λp=>p.2.2)=ρs)(_e3:adL vs (T.map λp=>p.2.2)=A)
  (h1:(O.map (·.1)).Nodup)(h2:(((O.map (·.1)).filter λi=> !A.contains i).map (D3 ρs)).Nodup)(h3: ∀k∈K,k∉A/\D3 ρs k=k/\(ofL O k).isSome)
  (h4:A3i σ (D3 ρs) A O T [] λwr=>B4s (wrm σ.objs wr) (D3 ρs) A O O):V9 K σ T O:=C1f ρs A h1 h2 h3 h4
theorem U1 {S:Type}{f:Nat->S->S}(len:S->Nat)(h: ∀i s,len (f i s)=len s): ∀n s,len (itr f n s)=len s
 |0,_=>rfl
 |n+1,s=>by rw[H6,h,U1 len h n s]
theorem F9z(s:Sq)(k:Nat)(c:List AV):(s.set k c).g k=c:=by simp[Sq.set]
theorem F4u(s:Sq)(k:Nat)(c c':List AV):(s.set k c).set k c'=s.set k c':=by simp only[Sq.set,Sq.mk.injEq,true_and];funext i;split <;> rfl
variable {α:Type} {z:Nat} {l:List α} {g:Nat->List AV}
theorem C0o {enc:α->List AV}{d:α}(hg: ∀i,g i=enc (l.getD (1+i) d)):AV.dsl z ((l.length:Int)-1).toNat g= .dsl z l.tail.length (I8 enc d l.tail):=by
 have h1:((l.length:Int)-1).toNat=l.tail.length:=by rw[List.length_tail];omega
 have h2:g=I8 enc d l.tail:=by
  funext i;rw[hg];unfold I8;cases l with
  |nil=>rfl
  |cons a l=>rw[Nat.add_comm];rfl
 rw[h1,h2]
variable {n:Nat}
theorem B9m {enc:α->List AV}{d:α}{cells:List AV}{ρ:Nat->Nat}(hz: ∀a∈l,(enc a).length=z)(hc:cells=l.flatMap enc)(hn:n=l.length):
  A31 ρ (.arr z ⟨n,λi=>(cells.drop (i*z)).take z⟩) (.arr z (A9 enc d l)):=by
 have h:=E7b (d:=d) hz hc hn;unfold A4 at h;rw[U4]at h;exact h
variable {l':List α}
theorem F1b {enc:α->List AV}{d:α}{cells:List AV}(hz: ∀a∈l,(enc a).length=z)(hc:cells=l.flatMap enc)(hn:n=l.length)(i:Nat)(hi:i<n+l'.length):
  ((⟨n,λi=>(cells.drop (i*z)).take z⟩:Sq).app (A9 enc d l')).g i=I8 enc d (l++l') i:=by
 subst hn;show(if i<l.length then(cells.drop (i*z)).take z else(A9 enc d l').g (i-l.length))=enc ((l++l').getD i d);split
 ·rename_i h;rw[hc,B9k (d:=d) hz h];congr 1;simp[List.getD,List.getElem?_append,h]
 ·rename_i h;show enc (l'.getD (i-l.length) d)=_;congr 1;simp[List.getD,List.getElem?_append,h]
variable {N:Nat}
theorem C3p {N':Nat}{enc:α->List AV}{d:α}{L:List α}{cells:List AV}(hz: ∀a∈l,(enc a).length=z)(hc:cells=l.flatMap enc)(hn:n=l.length)(hL:L=l++l')(hN:N=n+l'.length)(hN':N'=L.length):
  M9 (.dsl z N ((⟨n,λi=>(cells.drop (i*z)).take z⟩:Sq).app (A9 enc d l')).g) (.dsl z N' (I8 enc d L)):=by
 subst hN;subst hN';subst hL;rw[U4];refine⟨rfl,by rw[hn,List.length_append],λi hi=> ?_⟩;rw[F1b hz hc hn i hi];exact H9 _
theorem D8r {enc:α->List AV}{d:α}{L:List α}{cells:List AV}{ρ:Nat->Nat}(hz: ∀a∈l,(enc a).length=z)(hc:cells=l.flatMap enc)(hn:n=l.length)(hL:L=l++l'):
  A31 ρ (.arr z ((⟨n,λi=>(cells.drop (i*z)).take z⟩:Sq).app (A9 enc d l'))) (.arr z (A9 enc d L)):=by
 subst hL;refine⟨rfl,?_,λi hi=> ?_⟩
 ·show n+l'.length=(l++l').length;rw[hn,List.length_append]
 ·rw[F1b hz hc hn i hi];exact H9 _
theorem F15 {enc:α->List AV}{d:α}{cells:List AV}(hz: ∀a∈l',(enc a).length=z)(hc:cells=l'.flatMap enc)(hn:n=l'.length)(i:Nat)(hi:i<l.length+n):
  ((A9 enc d l).app (⟨n,λi=>(cells.drop (i*z)).take z⟩:Sq)).g i=I8 enc d (l++l') i:=by
 subst hn;show(if i<l.length then enc (l.getD i d)else(cells.drop ((i-l.length)*z)).take z)=enc ((l++l').getD i d);split
 ·rename_i h;congr 1;simp[List.getD,List.getElem?_append,h]
 ·rename_i h;rw[hc,B9k (d:=d) hz (by omega)];congr 1;simp[List.getD,List.getElem?_append,h]
theorem C3o {N':Nat}{enc:α->List AV}{d:α}{L:List α}{cells:List AV}(hz: ∀a∈l',(enc a).length=z)(hc:cells=l'.flatMap enc)(hn:n=l'.length)(hL:L=l++l')(hN:N=l.length+n)(hN':N'=L.length):
  M9 (.dsl z N ((A9 enc d l).app (⟨n,λi=>(cells.drop (i*z)).take z⟩:Sq)).g) (.dsl z N' (I8 enc d L)):=by
 subst hN;subst hN';subst hL;rw[U4];refine⟨rfl,by rw[hn,List.length_append],λi hi=> ?_⟩;rw[F15 hz hc hn i hi];exact H9 _
theorem D8q {enc:α->List AV}{d:α}{L:List α}{cells:List AV}{ρ:Nat->Nat}(hz: ∀a∈l',(enc a).length=z)(hc:cells=l'.flatMap enc)(hn:n=l'.length)(hL:L=l++l'):
  A31 ρ (.arr z ((A9 enc d l).app (⟨n,λi=>(cells.drop (i*z)).take z⟩:Sq))) (.arr z (A9 enc d L)):=by
 subst hL;refine⟨rfl,?_,λi hi=> ?_⟩
 ·show l.length+n=(l++l').length;rw[hn,List.length_append]
 ·rw[F15 hz hc hn i hi];exact H9 _
theorem E0y {enc:α->List AV}{d:α}{ρ:Nat->Nat}:A31 ρ (.arr z ⟨0,g⟩) (.arr z (A9 enc d [])):=⟨rfl,rfl,λi hi=>absurd hi (Nat.not_lt_zero i)⟩
theorem U2(l:List α)(i:Nat)(x d:α)(hi:i<l.length):(l.set i x).getD i d=x:=by rw[C69 l i i x d hi,if_pos rfl]
attribute [go_sem] F9z F4u List.length_set List.set_set
open Api
structure cE where
 dL:cI
 cZ:Int
 fJ:Int
 eP:Int
 deriving DecidableEq,Inhabited
def cE.enc(x:cE):List AV:=[.sc (.int .i64 x.dL.X), .sc (.int .i64 x.dL.Y), .sc (.int .i64 x.cZ), .sc (.int .i64 x.fJ), .sc (.int .i64 x.eP)]
def cE.zero:List AV:= [.sc (.int .i64 0), .sc (.int .i64 0), .sc (.int .i64 0), .sc (.int .i64 0), .sc (.int .i64 0)]
attribute [go_sem] cE.enc cE.zero
@[go_sem] theorem G1t(x:cE):cE.mk x.dL x.cZ x.fJ x.eP=x:=rfl
structure Row where
 A:Int
 B:Int
 dF:cI
 fO:Int
 fN:Int
 eE:Int
 fZ:Int
 dN:Int
 dS:Int
 dD:Int
 fM:Int
 eN:Int
 eI:Int
 deriving DecidableEq,Inhabited
def Row.enc(x:Row):List AV:=[.sc (.int .i64 x.A), .sc (.int .i64 x.B), .sc (.int .i64 x.dF.X), .sc (.int .i64 x.dF.Y), .sc (.int .i64 x.fO), .sc (.int .i64 x.fN), .sc (.int .i64 x.eE), .sc (.int .i64 x.fZ), .sc (.int .i64 x.dN), .sc (.int .i64 x.dS), .sc (.int .i64 x.dD), .sc (.int .i64 x.fM), .sc (.int .i64 x.eN), .sc (.int .i64 x.eI)]
def Row.zero:List AV:= [.sc (.int .i64 0), .sc (.int .i64 0), .sc (.int .i64 0), .sc (.int .i64 0), .sc (.int .i64 0), .sc (.int .i64 0), .sc (.int .i64 0), .sc (.int .i64 0), .sc (.int .i64 0), .sc (.int .i64 0), .sc (.int .i64 0), .sc (.int .i64 0), .sc (.int .i64 0), .sc (.int .i64 0)]
attribute [go_sem] Row.enc Row.zero
@[go_sem] theorem G8p(x:Row):Row.mk x.A x.B x.dF x.fO x.fN x.eE x.fZ x.dN x.dS x.dD x.fM x.eN x.eI=x:=rfl
theorem A29(l:List cI)(i:Nat)(a_0:Int)(a_1:Int)(hi:i<l.length):(A9 cI.enc default l).set i [.sc (.int .i64 a_0), .sc (.int .i64 a_1)]=A9 cI.enc default (l.set i ⟨a_0,a_1⟩):=A65 _ hi rfl
theorem A1u(l:List cF)(i:Nat)(a_0:Int)(a_1:Int)(a_2_0_0:Int)(a_2_0_1:Int)(a_2_1:Int)(a_3_0:Int)(a_3_1:Int)(a_4:Int)(a_5_0:Int)(a_5_1:Int)(a_6:Int)(a_7:Int)(a_8:Int)(a_9:Int)(a_10:Bool)(a_11:Bool)(a_12:Bool)(a_13:Bool)(a_14:Int)(a_15:List dB)(hi:i<l.length):(A9 cF.enc default l).set i [.sc (.int .i64 a_0), .sc (.int .i64 a_1), .sc (.int .i64 a_2_0_0), .sc (.int .i64 a_2_0_1), .sc (.int .i64 a_2_1), .sc (.int .i64 a_3_0), .sc (.int .i64 a_3_1), .sc (.int .i64 a_4), .sc (.int .i64 a_5_0), .sc (.int .i64 a_5_1), .sc (.int .i64 a_6), .sc (.int .i64 a_7), .sc (.int .i64 a_8), .sc (.int .i64 a_9), .sc (.bool a_10), .sc (.bool a_11), .sc (.bool a_12), .sc (.bool a_13), .sc (.int .i64 a_14),A4 10 dB.enc default a_15]=A9 cF.enc default (l.set i ⟨a_0,a_1,⟨⟨a_2_0_0,a_2_0_1⟩,a_2_1⟩,⟨a_3_0,a_3_1⟩,a_4,⟨a_5_0,a_5_1⟩,a_6,a_7,a_8,a_9,a_10,a_11,a_12,a_13,a_14,a_15⟩):=A65 _ hi rfl
theorem A1f(l:List cG)(i:Nat)(a_0:Int)(a_1:Int)(a_2:Int)(a_3:Int)(a_4_0:Int)(a_4_1:Int)(a_5_0:Int)(a_5_1:Int)(a_6_0:Int)(a_6_1:Int)(a_7:Int)(a_8:Bool)(a_9:Int)(a_10:Int)(a_11:Bool)(a_12:Int)(a_13:Int)(a_14:Int)(a_15:Int)(a_16:Bool)(a_17_0:Int)(a_17_1:Int)(a_17_2:Int)(a_17_3:Int)(hi:i<l.length):(A9 cG.enc default l).set i [.sc (.int .i64 a_0), .sc (.int .i64 a_1), .sc (.int .i64 a_2), .sc (.int .i64 a_3), .sc (.int .i64 a_4_0), .sc (.int .i64 a_4_1), .sc (.int .i64 a_5_0), .sc (.int .i64 a_5_1), .sc (.int .i64 a_6_0), .sc (.int .i64 a_6_1), .sc (.int .i64 a_7), .sc (.bool a_8), .sc (.int .i64 a_9), .sc (.int .i64 a_10), .sc (.bool a_11), .sc (.int .i64 a_12), .sc (.int .i64 a_13), .sc (.int .i64 a_14), .sc (.int .i64 a_15), .sc (.bool a_16), .sc (.int .i64 a_17_0), .sc (.int .i64 a_17_1), .sc (.int .i64 a_17_2), .sc (.int .i64 a_17_3)]=A9 cG.enc default (l.set i ⟨a_0,a_1,a_2,a_3,⟨a_4_0,a_4_1⟩,⟨a_5_0,a_5_1⟩,⟨a_6_0,a_6_1⟩,a_7,a_8,a_9,a_10,a_11,a_12,a_13,a_14,a_15,a_16,⟨a_17_0,a_17_1,a_17_2,a_17_3⟩⟩):=A65 _ hi rfl
theorem X5(l:List cY)(i:Nat)(a_0_0:Int)(a_0_1:Int)(a_0_2:Int)(a_0_3:Int)(a_1_0_0:Int)(a_1_0_1:Int)(a_1_1:List cO)(hi:i<l.length):(A9 cY.enc default l).set i [.sc (.int .i64 a_0_0), .sc (.int .i64 a_0_1), .sc (.int .i64 a_0_2), .sc (.int .i64 a_0_3), .sc (.int .i64 a_1_0_0), .sc (.int .i64 a_1_0_1),A4 6 cO.enc default a_1_1]=A9 cY.enc default (l.set i ⟨⟨a_0_0,a_0_1,a_0_2,a_0_3⟩,⟨⟨a_1_0_0,a_1_0_1⟩,a_1_1⟩⟩):=A65 _ hi rfl
theorem N5(l:List cO)(i:Nat)(a_0_0:Int)(a_0_1:Int)(a_1:Int)(a_2:Int)(a_3:Int)(a_4:Int)(hi:i<l.length):(A9 cO.enc default l).set i [.sc (.int .i64 a_0_0), .sc (.int .i64 a_0_1), .sc (.int .i64 a_1), .sc (.int .i64 a_2), .sc (.int .i64 a_3), .sc (.int .i64 a_4)]=A9 cO.enc default (l.set i ⟨⟨a_0_0,a_0_1⟩,a_1,a_2,a_3,a_4⟩):=A65 _ hi rfl
theorem A28(l:List Row)(i:Nat)(a_0:Int)(a_1:Int)(a_2_0:Int)(a_2_1:Int)(a_3:Int)(a_4:Int)(a_5:Int)(a_6:Int)(a_7:Int)(a_8:Int)(a_9:Int)(a_10:Int)(a_11:Int)(a_12:Int)(hi:i<l.length):(A9 Row.enc default l).set i [.sc (.int .i64 a_0), .sc (.int .i64 a_1), .sc (.int .i64 a_2_0), .sc (.int .i64 a_2_1), .sc (.int .i64 a_3), .sc (.int .i64 a_4), .sc (.int .i64 a_5), .sc (.int .i64 a_6), .sc (.int .i64 a_7), .sc (.int .i64 a_8), .sc (.int .i64 a_9), .sc (.int .i64 a_10), .sc (.int .i64 a_11), .sc (.int .i64 a_12)]=A9 Row.enc default (l.set i ⟨a_0,a_1,⟨a_2_0,a_2_1⟩,a_3,a_4,a_5,a_6,a_7,a_8,a_9,a_10,a_11,a_12⟩):=A65 _ hi rfl
theorem Q3(l:List cE)(i:Nat)(a_0_0:Int)(a_0_1:Int)(a_1:Int)(a_2:Int)(a_3:Int)(hi:i<l.length):(A9 cE.enc default l).set i [.sc (.int .i64 a_0_0), .sc (.int .i64 a_0_1), .sc (.int .i64 a_1), .sc (.int .i64 a_2), .sc (.int .i64 a_3)]=A9 cE.enc default (l.set i ⟨⟨a_0_0,a_0_1⟩,a_1,a_2,a_3⟩):=A65 _ hi rfl
theorem A27(l:List Int)(i:Nat)(a:Int)(hi:i<l.length):(A9 C6 0 l).set i [.sc (.int .i64 a)]=A9 C6 0 (l.set i a):=A65 _ hi rfl
theorem K0(h:p:=by first
 |exact ob_
 |exact And.left (by assumption)
 |((repeat' (with_reducible apply And.intro)) <;> first |omega |assumption |(apply_assumption;exact B8 _ (by omega)) |with_reducible rfl |(simp only[List.length_append];done) |(simp only[List.length_append,maxLen];omega) |(simp only[beq_iff_eq,bne_iff_ne,ne_eq,Bool.or_eq_true,Bool.and_eq_true,decide_eq_true_eq,not_or,Bool.not_eq_true',decide_eq_false_iff_not,Bool.not_eq_true,bne_eq_false_iff_eq,Decidable.not_not]at*;first |omega |(simp only[IntKind.wrap_i64];omega) |exact Int.tmod_nonneg _ (by first |omega |(rw[IntKind.wrap_i64];omega)) |exact Int.tmod_lt_of_pos _ (by omega)) |(rw[IntKind.wrap_i64];omega) |exact ob_ |rfl |(simp_all only[beq_iff_eq,bne_iff_ne,ne_eq,Bool.or_eq_true,Bool.and_eq_true,decide_eq_true_eq,not_or,Bool.not_eq_true',decide_eq_false_iff_not,Bool.not_eq_true,bne_eq_false_iff_eq,Decidable.not_not,Bool.not_eq_false,Bool.not_eq_false',forall_const,true_implies,and_true,true_and,or_self,or_false,false_or,or_true,true_or,and_self,and_false,false_and];omega))):p:=h
variable {n':Nat}
theorem E7a {enc:α->List AV}{d:α}(h:l'=l)(hn:n=l.length)(hn':n'=l'.length):M9 (.dsl z n (I8 enc d l)) (.dsl z n' (I8 enc d l')):=by subst h;subst hn;subst hn';exact D0 _
theorem lE_(h:p:=by first
 |with_reducible rfl
 |(simp only[*,if_true,if_false,eq_self,Bool.false_eq_true,Bool.true_eq_false,not_true_eq_false,not_false_eq_true,reduceCtorEq,J3,R8,A1k,A1l,Bool.and_true,Bool.true_and,Bool.and_false,Bool.false_and,Bool.or_true,Bool.true_or,Bool.or_false,Bool.false_or,Bool.not_true,Bool.not_false,decide_true,decide_false,H6,A2j,A3q,A6e,beq_iff_eq,bne_iff_ne,ne_eq,Bool.or_eq_true,Bool.and_eq_true,decide_eq_true_eq,not_or,Bool.not_eq_true',decide_eq_false_iff_not,Bool.not_eq_true,bne_eq_false_iff_eq,Decidable.not_not,List.append_assoc,or_self,or_false,false_or,or_true,true_or,and_self,and_false,false_and];first |done |rfl)):p:=h
theorem lN_(h:p:=by first |with_reducible rfl |omega |(simp only[List.length_append,List.length_cons,List.length_nil];first |done |omega)):p:=h
theorem G5a(h:p:=by first
 |exact E7a lE_ lN_ rfl
 |exact A32 (by simp only[*,if_true,if_false,eq_self,Bool.false_eq_true,Bool.true_eq_false,not_true_eq_false,not_false_eq_true,reduceCtorEq,J3,R8,A1k,A1l,Bool.and_true,Bool.true_and,Bool.and_false,Bool.false_and,Bool.or_true,Bool.true_or,Bool.or_false,Bool.false_or,Bool.not_true,Bool.not_false,decide_true,decide_false,H6,A2j,A3q,A6e,beq_iff_eq,bne_iff_ne,ne_eq,Bool.or_eq_true,Bool.and_eq_true,decide_eq_true_eq,not_or,Bool.not_eq_true',decide_eq_false_iff_not,Bool.not_eq_true,bne_eq_false_iff_eq,Decidable.not_not,or_self,or_false,false_or,or_true,true_or,and_self,and_false,false_and];first |done |rfl)
 |(simp only[*,if_true,if_false,eq_self,Bool.false_eq_true,Bool.true_eq_false,not_true_eq_false,not_false_eq_true,reduceCtorEq,J3,R8,A1k,A1l,Bool.and_true,Bool.true_and,Bool.and_false,Bool.false_and,Bool.or_true,Bool.true_or,Bool.or_false,Bool.false_or,Bool.not_true,Bool.not_false,decide_true,decide_false,H6,A2j,A3q,A6e,beq_iff_eq,bne_iff_ne,ne_eq,Bool.or_eq_true,Bool.and_eq_true,decide_eq_true_eq,not_or,Bool.not_eq_true',decide_eq_false_iff_not,Bool.not_eq_true,bne_eq_false_iff_eq,Decidable.not_not,or_self,or_false,false_or,or_true,true_or,and_self,and_false,false_and];first |done |rfl |omega |(simp only[List.length_set];first |done |omega) |(simp;first |done |omega))):p:=h
theorem G8b(h:p:=by first
 |with_reducible rfl
 |trivial
 |omega
 |exact E7a lE_ lN_ rfl |exact C3p (λ_ _=>rfl) rfl rfl lE_ lN_ rfl |exact D8r (λ_ _=>rfl) rfl rfl lE_ |exact C3o (λ_ _=>rfl) rfl rfl lE_ lN_ rfl |exact D8q (λ_ _=>rfl) rfl rfl lE_ |exact A32 rfl |exact A1g _ rfl rfl |exact A2y _ (by first |omega |(simp only[List.length_set];omega)) rfl rfl |exact B9m (λ_ _=>rfl) rfl rfl |exact E0y |exact C0o (λ_=>rfl)
 |(simp only[*,if_true,if_false,eq_self,Bool.false_eq_true,Bool.true_eq_false,not_true_eq_false,not_false_eq_true,reduceCtorEq,J3,R8,A1k,A1l,Bool.and_true,Bool.true_and,Bool.and_false,Bool.false_and,Bool.or_true,Bool.true_or,Bool.or_false,Bool.false_or,Bool.not_true,Bool.not_false,decide_true,decide_false,H6,A2j,A3q,A6e,beq_iff_eq,bne_iff_ne,ne_eq,Bool.or_eq_true,Bool.and_eq_true,decide_eq_true_eq,not_or,Bool.not_eq_true',decide_eq_false_iff_not,Bool.not_eq_true,bne_eq_false_iff_eq,Decidable.not_not,or_self,or_false,false_or,or_true,true_or,and_self,and_false,false_and];first |omega |(simp only[List.length_set];first |done |omega) |(simp;first |done |omega))
 |exact A32 (by simp only[*,if_true,if_false,eq_self,Bool.false_eq_true,Bool.true_eq_false,not_true_eq_false,not_false_eq_true,reduceCtorEq,J3,R8,A1k,A1l,Bool.and_true,Bool.true_and,Bool.and_false,Bool.false_and,Bool.or_true,Bool.true_or,Bool.or_false,Bool.false_or,Bool.not_true,Bool.not_false,decide_true,decide_false,H6,A2j,A3q,A6e,beq_iff_eq,bne_iff_ne,ne_eq,Bool.or_eq_true,Bool.and_eq_true,decide_eq_true_eq,not_or,Bool.not_eq_true',decide_eq_false_iff_not,Bool.not_eq_true,bne_eq_false_iff_eq,Decidable.not_not,or_self,or_false,false_or,or_true,true_or,and_self,and_false,false_and];first |done |rfl)
 |(simp only[*,if_true,if_false,eq_self,Bool.false_eq_true,Bool.true_eq_false,not_true_eq_false,not_false_eq_true,reduceCtorEq,J3,R8,A1k,A1l,Bool.and_true,Bool.true_and,Bool.and_false,Bool.false_and,Bool.or_true,Bool.true_or,Bool.or_false,Bool.false_or,Bool.not_true,Bool.not_false,decide_true,decide_false,H6,A2j,A3q,A6e,beq_iff_eq,bne_iff_ne,ne_eq,Bool.or_eq_true,Bool.and_eq_true,decide_eq_true_eq,not_or,Bool.not_eq_true',decide_eq_false_iff_not,Bool.not_eq_true,bne_eq_false_iff_eq,Decidable.not_not,or_self,or_false,false_or,or_true,true_or,and_self,and_false,false_and];first |done |exact H1 (λ_ _=>rfl) rfl rfl rfl |exact C3p (λ_ _=>rfl) rfl rfl rfl lN_ rfl |exact D8r (λ_ _=>rfl) rfl rfl rfl |exact C3o (λ_ _=>rfl) rfl rfl rfl lN_ rfl |exact D8q (λ_ _=>rfl) rfl rfl rfl |exact B9m (λ_ _=>rfl) rfl rfl |exact A1g _ rfl rfl |exact A2y _ (by first |omega |(simp only[List.length_set];omega)) rfl rfl)
 |(simp only[*,if_true,if_false,eq_self,Bool.false_eq_true,Bool.true_eq_false,not_true_eq_false,not_false_eq_true,reduceCtorEq,J3,R8,A1k,A1l,Bool.and_true,Bool.true_and,Bool.and_false,Bool.false_and,Bool.or_true,Bool.true_or,Bool.or_false,Bool.false_or,Bool.not_true,Bool.not_false,decide_true,decide_false,H6,A2j,A3q,A6e,go_sem,beq_iff_eq,bne_iff_ne,ne_eq,Bool.or_eq_true,Bool.and_eq_true,decide_eq_true_eq,not_or,Bool.not_eq_true',decide_eq_false_iff_not,Bool.not_eq_true,bne_eq_false_iff_eq,Decidable.not_not,or_self,or_false,false_or,or_true,true_or,and_self,and_false,false_and];first |done |with_reducible rfl |((repeat' (with_reducible apply And.intro)) <;> first |with_reducible rfl |trivial |omega |(rw[IntKind.wrap_i64];omega) |exact D0 _ |exact G8 rfl |exact A32 rfl |exact A1g _ rfl rfl |exact A2y _ (by first |omega |(simp only[List.length_set];omega)) rfl rfl |exact B9m (λ_ _=>rfl) rfl rfl |exact E0y |exact C0o (λ_=>rfl) |(simp only[List.length_tail];omega) |(simp only[List.length_tail,List.length_drop]at*;rw[IntKind.wrap_i64];omega) |exact A8j))
 |(have hE:=E79 (by assumption) (by assumption) (by simp only[*,if_true,if_false,eq_self,Bool.false_eq_true,Bool.true_eq_false,not_true_eq_false,not_false_eq_true,reduceCtorEq,J3,R8,A1k,A1l,Bool.and_true,Bool.true_and,Bool.and_false,Bool.false_and,Bool.or_true,Bool.true_or,Bool.or_false,Bool.false_or,Bool.not_true,Bool.not_false,decide_true,decide_false,beq_iff_eq,bne_iff_ne,ne_eq,Bool.or_eq_true,Bool.and_eq_true,decide_eq_true_eq,not_or,Bool.not_eq_true',decide_eq_false_iff_not,Bool.not_eq_true,bne_eq_false_iff_eq,Decidable.not_not,or_self,or_false,false_or,or_true,true_or,and_self,and_false,false_and];first |done |rfl);simp only[hE, *,if_true,if_false,eq_self,Bool.false_eq_true,Bool.true_eq_false,not_true_eq_false,not_false_eq_true,reduceCtorEq,J3,R8,A1k,A1l,Bool.and_true,Bool.true_and,Bool.and_false,Bool.false_and,Bool.or_true,Bool.true_or,Bool.or_false,Bool.false_or,Bool.not_true,Bool.not_false,decide_true,decide_false,H6,A2j,A3q,A6e,go_sem,beq_iff_eq,bne_iff_ne,ne_eq,Bool.or_eq_true,Bool.and_eq_true,decide_eq_true_eq,not_or,Bool.not_eq_true',decide_eq_false_iff_not,Bool.not_eq_true,bne_eq_false_iff_eq,Decidable.not_not,or_self,or_false,false_or,or_true,true_or,and_self,and_false,false_and];first |done |with_reducible rfl |((repeat' (with_reducible apply And.intro)) <;> first |with_reducible rfl |trivial |omega |(rw[IntKind.wrap_i64];omega) |exact D0 _ |exact G8 rfl |exact A32 rfl |exact A1g _ rfl rfl |exact A2y _ (by first |omega |(simp only[List.length_set];omega)) rfl rfl |exact B9m (λ_ _=>rfl) rfl rfl |exact E0y |exact C0o (λ_=>rfl) |(simp only[List.length_tail];omega) |(simp only[List.length_tail,List.length_drop]at*;rw[IntKind.wrap_i64];omega) |exact A8j))
 |exact A8j
 |(simp_all only[beq_iff_eq,bne_iff_ne,ne_eq,Bool.or_eq_true,Bool.and_eq_true,decide_eq_true_eq,not_or,Bool.not_eq_true',decide_eq_false_iff_not,Bool.not_eq_true,bne_eq_false_iff_eq,Decidable.not_not,Bool.not_eq_false,Bool.not_eq_false',forall_const,true_implies,and_true,true_and,if_true,if_false,eq_self,not_true_eq_false,not_false_eq_true,reduceCtorEq,H6,J3,R8,A2j,A3q,A6e,A1k,A1l,or_self,or_false,false_or,or_true,true_or,and_self,and_false,false_and];first |done |with_reducible rfl |omega |exact D0 _ |((repeat' (with_reducible apply And.intro)) <;> first |with_reducible rfl |exact D0 _ |exact G8 rfl) |exact H1 (λ_ _=>rfl) rfl rfl rfl |exact C3p (λ_ _=>rfl) rfl rfl rfl lN_ rfl |exact D8r (λ_ _=>rfl) rfl rfl rfl |exact C3o (λ_ _=>rfl) rfl rfl rfl lN_ rfl |exact D8q (λ_ _=>rfl) rfl rfl rfl |exact B9m (λ_ _=>rfl) rfl rfl |exact A1g _ rfl rfl |exact A2y _ (by first |omega |(simp only[List.length_set];omega)) rfl rfl |rfl)):p:=h
theorem A9v {k:IntKind}{a b c d v i:Int}(h:0<=i/\i<4):T1 [AV.sc (.int k a), .sc (.int k b), .sc (.int k c), .sc (.int k d)] (0+i.toNat*1) [.sc (.int k v)]=
  [.sc (.int k (if i=0 then v else a)), .sc (.int k (if i=1 then v else b)), .sc (.int k (if i=2 then v else c)), .sc (.int k (if i=3 then v else d))]:=by
 have:i=0\/i=1\/i=2\/i=3:=by omega
 rcases this with rfl |rfl |rfl |rfl <;> simp[T1]
theorem K1(h:p:=by
 (simp(maxSteps:=1000000) only[go_sem,C9,E8,C3,D7];try(simp(disch:=(first |omega |(simp only[List.length_set];omega) |(apply_assumption;done))) only[A29,A1u,A1f,X5,N5,A28,Q3,A27,U2,A9v];try simp(maxSteps:=1000000) only[go_sem,C9,E8,C3,D7]))
 repeat' (first
  |((with_reducible refine And.intro ?_ ?_);focus (first |exact K0 |exact ie_ |exact G5a |(first |with_reducible rfl |trivial |omega |(rw[IntKind.wrap_i64];omega) |exact D0 _ |exact G8 rfl |exact A32 rfl |exact A1g _ rfl rfl |exact A2y _ (by first |omega |(simp only[List.length_set];omega)) rfl rfl |exact B9m (λ_ _=>rfl) rfl rfl |exact E0y |exact C0o (λ_=>rfl) |(simp only[List.length_tail];omega) |(simp only[List.length_tail,List.length_drop]at*;rw[IntKind.wrap_i64];omega) |exact A8j)))
  |((with_reducible refine it_ (λhc_=> ?_) (λhc_=> ?_)) <;> (have hd_:=hc_;try simp only[beq_iff_eq,bne_iff_ne,ne_eq,Bool.or_eq_true,Bool.and_eq_true,decide_eq_true_eq,not_or,Bool.not_eq_true',decide_eq_false_iff_not,Bool.not_eq_true,bne_eq_false_iff_eq,Decidable.not_not]at hd_))
  |(with_reducible refine gd_ ?_;with_reducible refine A0 (by apply_assumption <;> first |exact K0 |(apply_assumption <;> first |assumption |exact K0)) rfl ?_;(simp(maxSteps:=1000000) only[go_sem,C9,E8,C3,D7];try(simp(disch:=(first |omega |(simp only[List.length_set];omega) |(apply_assumption;done))) only[A29,A1u,A1f,X5,N5,A28,Q3,A27,U2,A9v];try simp(maxSteps:=1000000) only[go_sem,C9,E8,C3,D7])))
  |((with_reducible refine gD_ ?_);refine B92 ev_ K0 (by apply_assumption <;> first |exact K0 |(apply_assumption <;> first |assumption |exact K0)) (by rfl) ?_;(simp(maxSteps:=1000000) only[go_sem,C9,E8,C3,D7];try(simp(disch:=(first |omega |(simp only[List.length_set];omega) |(apply_assumption;done))) only[A29,A1u,A1f,X5,N5,A28,Q3,A27,U2,A9v];try simp(maxSteps:=1000000) only[go_sem,C9,E8,C3,D7])))
  |((with_reducible refine gD_ ?_);refine D50 ev_ K0 (by apply_assumption <;> first |exact K0 |(apply_assumption <;> first |assumption |exact K0)) (by rfl) nd_ ?_;(simp(maxSteps:=1000000) only[go_sem,C9,E8,C3,D7];try(simp(disch:=(first |omega |(simp only[List.length_set];omega) |(apply_assumption;done))) only[A29,A1u,A1f,X5,N5,A28,Q3,A27,U2,A9v];try simp(maxSteps:=1000000) only[go_sem,C9,E8,C3,D7])))
  |((with_reducible refine gD_ ?_);refine J2 ev_ K0 (by apply_assumption <;> first |exact K0 |(apply_assumption <;> first |assumption |exact K0)) ?_;(simp(maxSteps:=1000000) only[go_sem,C9,E8,C3,D7];try(simp(disch:=(first |omega |(simp only[List.length_set];omega) |(apply_assumption;done))) only[A29,A1u,A1f,X5,N5,A28,Q3,A27,U2,A9v];try simp(maxSteps:=1000000) only[go_sem,C9,E8,C3,D7])))
  |(with_reducible refine gw_ ?_;apply_assumption)
  |((with_reducible refine hb_ ?_);intros;simp only[go_sem,C9,E8,C3,D7,J3,A2j])
  |((with_reducible refine gk_ ?_);refine E1s ev_ ev_ ev_ ns_ ns_ ns_ ?_;(simp(maxSteps:=1000000) only[go_sem,C9,E8,C3,D7];try(simp(disch:=(first |omega |(simp only[List.length_set];omega) |(apply_assumption;done))) only[A29,A1u,A1f,X5,N5,A28,Q3,A27,U2,A9v];try simp(maxSteps:=1000000) only[go_sem,C9,E8,C3,D7])))
  |((with_reducible refine gr_ ?_);(try simp only[*,if_true,if_false,eq_self,Bool.false_eq_true,Bool.true_eq_false,not_true_eq_false,not_false_eq_true,reduceCtorEq,J3,R8,A1k,A1l,Bool.and_true,Bool.true_and,Bool.and_false,Bool.false_and,Bool.or_true,Bool.true_or,Bool.or_false,Bool.false_or,Bool.not_true,Bool.not_false,decide_true,decide_false,beq_iff_eq,bne_iff_ne,ne_eq,Bool.or_eq_true,Bool.and_eq_true,decide_eq_true_eq,not_or,Bool.not_eq_true',decide_eq_false_iff_not,Bool.not_eq_true,bne_eq_false_iff_eq,Decidable.not_not,or_self,or_false,false_or,or_true,true_or,and_self,and_false,false_and]);refine D2o ev_ ev_ ev_ ev_ rfl rfl ns_ ns_ ns_ ?_;(simp(maxSteps:=1000000) only[go_sem,C9,E8,C3,D7];try(simp(disch:=(first |omega |(simp only[List.length_set];omega) |(apply_assumption;done))) only[A29,A1u,A1f,X5,N5,A28,Q3,A27,U2,A9v];try simp(maxSteps:=1000000) only[go_sem,C9,E8,C3,D7])))
  |exact G8b)):p:=h
section
variable {P:Program} {N:Nat} {K:List Nat}
inductive D6m (P:Program):List dA->St->St->Prop
 |nil (σ:St):D6m P [] σ σ
 |cons {o:dA} {os:List dA} {σ τ:St} {b:Bool} {r:Res} (h:A3r P o σ b r) (hs:D6m P os (σ.put o.dst b r) τ):D6m P (o::os) σ τ
theorem F1q {ops:Array Oper}{Q:St->Prop}{R:Exit->Act->World->Prop}: ∀(l:List Oper) (as:List dA) (k:Nat) (σ τ:St) (a:Act) (w:World) (ob:Place) (G:Nat->Prop),
  S4 P N ops l=some as->(∀i o,l[i]? =some o->ops[k+i]? =some o)->Sim N σ a w ob G->D6m P as σ τ->Q τ->
  (∀τ a' w' ob' G',Q τ->Sim N τ a' w' ob' G'->Fr G w ob G' w' ob'->D4 ob ob'->R .normal a' w')->
  wpOps P ops R (List.range' k l.length) a w
 | [],as,k,σ,τ,a,w,ob,G,hc,hl,hs,h,hq,hQ=>by simp only[S4,Option.some.injEq]at hc;subst hc;cases h;exact hQ σ a w ob G hq hs (Fr.refl G w ob) (D4.refl ob)
 |o::l,as,k,σ,τ,a,w,ob,G,hc,hl,hs,h,hq,hQ=>by
  simp only[S4]at hc;split at hc
  case h_2=>cases hc
  rename_i ao as' h1 h2;simp only[Option.some.injEq]at hc;subst hc;cases h with
  |cons hd hk=>
  rename_i b r;have ho:ops[k]? =some o:=by simpa using hl 0 o (by simp)
  simp only[List.length_cons,List.range'_succ];simp only[wpOps,ho];have:=C47 (K:=wpOps P ops R (List.range' (k+1) l.length)) (Q:=R) h1 hs hd (λa' w' ob' G' s f e=>F1q l as' (k+1) _ τ a' w' ob' G' h2
   (λi o' hi=>by have:=hl (i+1) o' (by simpa using hi);rwa[show k+(i+1)=k+1+i by omega]at this) s hk hq
   (λτ a'' w'' ob'' G'' q s' f' e'=>hQ τ a'' w'' ob'' G'' q s' (f.trans f') (e.trans e')))
  by_cases hw:Region.wanted o (yielded ops a.tmps)=true
  ·rw[if_pos hw]at this⊢;exact .inl this
  ·rw[if_neg hw]at this⊢;exact this
end
section
variable {P:Program}
theorem A7.ren_id: ∀(o:A7),o.ren id=o
 | .box cs=>by simp only[A7.ren,O5]
 | .arr .. =>rfl
 | .frz .. =>rfl
 | .frzb _=>rfl
 | .map .. =>rfl
 | .mapS .. =>rfl
 | .arrP .. =>rfl
 | .gone=>rfl
theorem C5g(O:List (Nat×A7)):A3u id O=O:=by
 unfold A3u
 conv=>rhs;rw[<-List.map_id O]
 refine List.map_congr_left λp _=> ?_;simp only[A7.ren_id,id]
theorem C0u {i:Nat}: ∀ {l:List AV},i∈F0 l↔ ∃a∈l,i∈a.ids
 | []=>by simp[F0]
 |a::l=>by simp[F0,C0u (l:=l)]
end
section
variable {P:Program}
end
end Go.Abs
end
noncomputable section
namespace Go.Abs
structure RfT where
 nt:Nat
 as0:List dA
 as1:List dA
 as2:List dA
 gx:Nat
 as3:List dA
 as4:List dA
 rvs:List (Nat×Option (Option Nat))
section
variable {P:Program} {N:Nat} {σ:St} {a:Act} {w:World} {ob:Place} {G:Nat->Prop}
variable {m:Nat->Option A7}
theorem E9.blks_lt(hs:E9 G w ob m){b:Nat}(h:P5 ob b):b<w.heap.size:=by
 obtain⟨id,i,hi,hb⟩:=h;cases hm:m id with
 |none=>rw[(hs.dom id).1 hm]at hi;cases hi
 |some o=>exact(hs.own id o i hm hi).has_lt hb
theorem Sim.frame(hs:Sim N σ a w ob G){w':World}(h1:w.heap.size<=w'.heap.size)(h2: ∀b,b<w.heap.size->(G b\/P5 ob b)->w'.heap[b]? =w.heap[b]?):Sim N σ a w' ob G:=⟨hs.size,hs.defers,hs.objs.frame h1 h2,λt av ht=>let⟨v,h3,h4⟩:=hs.env t av ht;⟨v,h3,h4.ext (λ_ h=>h) (λb hb=>h2 b (hs.objs.lt b hb) (.inl hb)) (D4.refl ob)⟩,hs.env0⟩
end
end Go.Abs
namespace Go.Abs
end Go.Abs
end
noncomputable section
namespace Go.Abs
section
variable {P:Program} {N:Nat} {K:List Nat}
variable {σ τ:St}
theorem Wp.dseq {d:Bool}{ops:List dA}(hd:d=false)(h:D6m P ops σ τ){Q:Out->St->Prop}(hQ:Q .normal τ):Wp P N K (.region d ops) Q σ:=by
 subst hd;intro c hc Γ a w ob G hs hΓ;cases c <;> simp only[F9,ACode.strip,Option.some.injEq,reduceCtorEq]at hc
 case region id os draw=>
  split at hc
  ·rename_i as has;simp only[Option.some.injEq,ACode.region.injEq]at hc;obtain⟨rfl,rfl⟩:=hc;unfold A85 at has;split at has
   ·rename_i as' hcop;simp only[Bool.false_eq_true,if_false,Option.some.injEq]at has;subst has;refine wp_region ?_;have:=F1q (Q:=Q .normal) (R:=E8e K N Γ Q) os.toList as' 0 σ τ a w ob G hcop (λi o hi=>by simpa using hi) hs h hQ
     (λτ a' w' ob' G' hq s f e=>⟨.normal,τ,ob',G',rfl,hq,s,hΓ.step f e⟩)
    rw[List.range_eq_range'];simpa using this
   ·cases has
  ·cases hc
 all_goals(repeat' split at hc) <;> simp at hc
end
end Go.Abs
namespace Go.Abs
end Go.Abs
end
noncomputable section
namespace Go.Abs
section
variable {P:Program} {N:Nat} {K:List Nat}
def B9b(o:dA)(σ:St) [Q:ContR]:Prop:=
 o.guard=none/\match o.op with
 | .append z bytes x y=>match σ.e x,σ.e y with
   |some (.sl id off n tot),some v=>match σ.objs id,X6 σ.objs z v with
    |some (.arr z' s),some (p,q)=>z'=z/\off=0/\A7d σ true (AOp.append z bytes x y).ops/\(p/\tot=s.n/\n+q.n<=s.n/\(n+q.n)*bytes<=140737488355328/\n+q.n<=maxLen)/\
      Ri true ⟨some (.sl id 0 (n+q.n) tot),[(id, .arr z (s.over n q))]⟩
    |_,_=>False
   |_,_=>False
 | .slice z x lo hi mx=>match σ.e x,A0b σ.e lo,A0b σ.e hi,A0b σ.e mx with
   |some (.sl id _ n tot),some l,some h,some (some k)=>match σ.objs id with
    |some (.arr z' s)=>z'=z/\A7d σ true (AOp.slice z x lo hi mx).ops/\(tot=s.n/\0<=l.getD 0/\l.getD 0<=h.getD n/\h.getD n<=n/\h.getD n<=k/\k<=n/\h.isSome)/\Ri true ⟨none,[]⟩
    |_=>False
   |some (.sl id off n tot),some l,some (some h),some none=>match σ.objs id with
    |some (.arr z' s)=>z'=z/\off=0/\A7d σ true (AOp.slice z x lo hi mx).ops/\(tot=s.n/\0<=l.getD 0/\l.getD 0<=h/\h<=tot)/\Ri true ⟨some (.sl id (l.getD 0).toNat (h-l.getD 0).toNat tot),[]⟩
    |_=>False
   |_,_,_,_=>False
 |_=>False
variable {σ:St} {o:dA}
theorem F25 {Q:ContR}(h: @B9b o σ Q): ∃b r,A3r P o σ b r/\Q.q b r:=by
 unfold B9b at h;obtain⟨hg,h⟩:=h;have hg':A15 σ o.guard=some true:=by rw[hg];rfl
 split at h
 ·rename_i z bytes x y ho;split at h
  ·rename_i id off n tot v hx hy;split at h
   ·rename_i z' s p q hm hs;obtain⟨rfl,rfl,hc,hp,hk⟩:=h;exact⟨true,_, .inpl _ bytes x y id n tot s q v p ho hg' hx hy hm hs (by rw[ho];exact hc) hp,hk⟩
   ·exact h.elim
  ·exact h.elim
 ·rename_i z x lo hi mx ho;split at h
  ·rename_i id off n tot l hh k hx hl hhi hk;split at h
   ·rename_i z' s hm;obtain⟨rfl,hc,hp,hq⟩:=h;exact⟨true,_, .sl3 _ x lo hi mx id off n tot s l hh k ho hg' hx hl hhi hk hm (by rw[ho];exact hc) hp,hq⟩
   ·exact h.elim
  ·rename_i id off n tot l hh hx hl hhi hk;split at h
   ·rename_i z' s hm;obtain⟨rfl,rfl,hc,hp,hq⟩:=h;exact⟨true,_, .slx _ x lo hi mx id n tot s l hh ho hg' hx hl hhi hk hm (by rw[ho];exact hc) hp,hq⟩
   ·exact h.elim
  ·exact h.elim
 ·exact h.elim
variable (P)
def E1v:Nat->List dA->(St->Prop)->St->Prop
 |_,[],Q,σ=>Q σ
 |0,o::os,Q,σ=> @B9b o σ ⟨λ_ r=>A47 P os Q (σ.put o.dst true r)⟩
 |k+1,o::os,Q,σ=>wop P o σ λb r=>E1v k os Q (σ.put o.dst b r)
def E1r:Nat->List dA->List (List Nat×List Nat)->(St->Prop)->St->Prop
 |_,[],_,Q,σ=>Q σ
 |0,o::os,seen,Q,σ=> @B9b o σ ⟨λ_ r=>A4s o.op r/\A3l seen (A0a σ o) (keys r) o.chk/\C4l P os (seen++ [(A0a σ o,keys r)]) Q (σ.put o.dst true r)⟩
 |k+1,o::os,seen,Q,σ=>wop P o σ λb r=>A4s o.op r/\A3l seen (A0a σ o) (keys r) o.chk/\E1r k os (seen++ [(A0a σ o,keys r)]) Q (σ.put o.dst b r)
variable {P}
theorem D95 {K:Res->Prop}(h: @B9b o σ ⟨λ_ r=>K r⟩): ∃r,A3r P o σ true r/\K r:=by
 obtain⟨b,r,hd,hk⟩:=F25 (P:=P) h;unfold B9b at h;have hg':A15 σ o.guard=some true:=by rw[h.1];rfl
 cases b with
 |true=>exact⟨r,hd,hk⟩
 |false=>
  have hf:A15 σ o.guard=some false:=by cases hd <;> assumption
  rw[hg']at hf;cases hf
theorem D1v {Q:St->Prop}: ∀ {l:List dA} {σ:St},A47 P l Q σ-> ∃τ,D6m P l σ τ/\Q τ
 | [],σ,h=>⟨σ, .nil σ,h⟩
 |o::os,σ,h=>by obtain⟨b,r,hd,hk⟩:=B3c h;obtain⟨τ,h1,h2⟩:=D1v hk;exact⟨τ, .cons hd h1,h2⟩
theorem C8t {Q:St->Prop}: ∀ {k:Nat} {l:List dA} {σ:St},E1v P k l Q σ-> ∃τ,D6m P l σ τ/\Q τ
 |0,[],σ,h=>⟨σ, .nil σ,h⟩
 |_+1,[],σ,h=>⟨σ, .nil σ,h⟩
 |0,o::os,σ,h=>by obtain⟨r,hd,hk⟩:=D95 (P:=P) h;obtain⟨τ,h1,h2⟩:=D1v hk;exact⟨τ, .cons hd h1,h2⟩
 |k+1,o::os,σ,h=>by obtain⟨b,r,hd,hk⟩:=B3c h;obtain⟨τ,h1,h2⟩:=C8t hk;exact⟨τ, .cons hd h1,h2⟩
theorem D6l {Q:St->Prop}: ∀(k:Nat) (aos:List dA) (seen:List (List Nat×List Nat)) (σ:St),E1r P k aos seen Q σ->
  ∃(es:List Ent) (ft:List (List Nat×List Nat)),es.length=aos.length/\ft.length=aos.length/\Q (B4x σ es)/\
   ∀i o,aos[i]? =some o-> ∃e f,es[i]? =some e/\ft[i]? =some f/\e.dst=o.dst/\f=(A0a (B4x σ (es.take i)) o,keys e.r)/\
    A3r P o (B4x σ (es.take i)) e.b e.r/\A3l (seen++ft.take i) f.1 f.2 o.chk/\A4s o.op e.r
 |0,[],seen,σ,h=>⟨[],[],rfl,rfl,h,λi o hi=>by simp at hi⟩
 |_+1,[],seen,σ,h=>⟨[],[],rfl,rfl,h,λi o hi=>by simp at hi⟩
 |0,o::os,seen,σ,h=>by
  obtain⟨r,hd,hqr,hk,hrest⟩:=D95 (P:=P) h;obtain⟨es,ft,h1,h2,h3,h4⟩:=C8m os _ _ hrest;refine⟨⟨o.dst,true,r⟩::es,(A0a σ o,keys r)::ft,by simp[h1],by simp[h2],h3,λi o' hi=> ?_⟩;cases i with
  |zero=>simp only[List.getElem?_cons_zero,Option.some.injEq]at hi;subst hi;exact⟨_,_,rfl,rfl,rfl,rfl,hd,by simpa using hk,hqr⟩
  |succ i=>simp only[List.getElem?_cons_succ]at hi;obtain⟨e,f,g1,g2,g3,g4,g5,g6,g7⟩:=h4 i o' hi;exact⟨e,f,by simpa using g1,by simpa using g2,g3,g4,g5,by simpa using g6,g7⟩
 |k+1,o::os,seen,σ,h=>by
  obtain⟨b,r,hd,hqr,hk,hrest⟩:=B3c h;obtain⟨es,ft,h1,h2,h3,h4⟩:=D6l k os _ _ hrest;refine⟨⟨o.dst,b,r⟩::es,(A0a σ o,keys r)::ft,by simp[h1],by simp[h2],h3,λi o' hi=> ?_⟩;cases i with
  |zero=>simp only[List.getElem?_cons_zero,Option.some.injEq]at hi;subst hi;exact⟨_,_,rfl,rfl,rfl,rfl,hd,by simpa using hk,hqr⟩
  |succ i=>simp only[List.getElem?_cons_succ]at hi;obtain⟨e,f,g1,g2,g3,g4,g5,g6,g7⟩:=h4 i o' hi;exact⟨e,f,by simpa using g1,by simpa using g2,g3,g4,g5,by simpa using g6,g7⟩
theorem Wp.regF(k:Nat){l:List dA}{Q:Out->St->Prop}{σ:St}(h:E1v P k l (Q .normal) σ):Wp P N K (.region false l) Q σ:=by obtain⟨τ,h1,h2⟩:=C8t h;exact Wp.dseq rfl h1 h2
theorem Wp.regT(k:Nat)(hm:P.follows .mixedOrders=true){l:List dA}{Q:Out->St->Prop}{σ:St}(h:E1r P k l [] (Q .normal) σ):Wp P N K (.region true l) Q σ:=by
 intro c hc Γ a w ob G hs hΓ;cases c <;> simp only[F9,ACode.strip,Option.some.injEq,reduceCtorEq]at hc
 case region id os draw=>
  split at hc
  ·rename_i as has;simp only[Option.some.injEq,ACode.region.injEq]at hc;obtain⟨rfl,rfl⟩:=hc;exact E1u (Q:=Q .normal) hm has hs (D6l k _ [] σ h) λτ a' w' ob' G' hq s f e=>⟨.normal,τ,ob',G',rfl,hq,s,hΓ.step f e⟩
  ·cases hc
 all_goals(repeat' split at hc) <;> simp at hc
def WsI(P:Program)(k:Nat)(l:List dA) [Q:ContS](σ:St):Prop:=E1v P k l Q.q σ
def WnI(P:Program)(k:Nat)(l:List dA)(seen:List (List Nat×List Nat)) [Q:ContS](σ:St):Prop:=E1r P k l seen Q.q σ
@[reducible] def G0p(P:Program)(k:Nat)(os:List dA)(Q:ContS)(d:Option Nat)(σ:St):ContR:=⟨λb r=>E1v P k os Q.q (σ.put d b r)⟩
@[reducible] def G0f(P:Program)(k:Nat)(o:dA)(os:List dA)(seen:List (List Nat×List Nat))(Q:ContS)(σ:St):ContR:=⟨λb r=>A4s o.op r/\A3l seen (A0a σ o) (keys r) o.chk/\E1r P k os (seen++ [(A0a σ o,keys r)]) Q.q (σ.put o.dst b r)⟩
@[reducible] def G0o(P:Program)(os:List dA)(Q:ContS)(d:Option Nat)(σ:St):ContR:=⟨λ_ r=>A47 P os Q.q (σ.put d true r)⟩
@[reducible] def G0e(P:Program)(o:dA)(os:List dA)(seen:List (List Nat×List Nat))(Q:ContS)(σ:St):ContR:=⟨λ_ r=>A4s o.op r/\A3l seen (A0a σ o) (keys r) o.chk/\C4l P os (seen++ [(A0a σ o,keys r)]) Q.q (σ.put o.dst true r)⟩
variable {os:List dA}
theorem F7p {Q:ContS}: @WsI P 0 (o::os) Q σ= @B9b o σ (G0o P os Q o.dst σ):=rfl
variable {k:Nat}
theorem F7o {Q:ContS}: @WsI P (k+1) (o::os) Q σ= @Woi P o σ (G0p P k os Q o.dst σ):=rfl
variable {seen:List (List Nat×List Nat)}
theorem F7m {Q:ContS}: @WnI P 0 (o::os) seen Q σ= @B9b o σ (G0e P o os seen Q σ):=rfl
theorem F7l {Q:ContS}: @WnI P (k+1) (o::os) seen Q σ= @Woi P o σ (G0f P k o os seen Q σ):=rfl
variable {r:Res} {b:Bool}
theorem G0z {Q:ContS}{d:Option Nat}: @Ri (G0p P k os Q d σ) b r= @WsI P k os Q (σ.put d b r):=rfl
theorem G0y {Q:ContS}{d:Option Nat}: @Ri (G0o P os Q d σ) b r= @Wsi P os Q (σ.put d true r):=rfl
theorem G0x {Q:ContS}:
  @Ri (G0f P k o os seen Q σ) b r=(A4s o.op r/\A3l seen (A0a σ o) (keys r) o.chk/\ @WnI P k os (seen++ [(A0a σ o,keys r)]) Q (σ.put o.dst b r)):=rfl
theorem G0w {Q:ContS}:
  @Ri (G0e P o os seen Q σ) b r=(A4s o.op r/\A3l seen (A0a σ o) (keys r) o.chk/\ @Wni P os (seen++ [(A0a σ o,keys r)]) Q (σ.put o.dst true r)):=rfl
end
attribute [go_sem] F7p F7o F7m F7l G0z G0y G0x G0w B9b
section
variable {P:Program} {N:Nat} {K:List Nat} {L:List (Nat×List Bool)} {f:FuncId} {fn:Func} {ac a b:ACode} {args rs:List AV} {r:AV} {O O':List (Nat×A7)} {ts:List Nat} {Q:Cont} {σ:St}
theorem F8c(hm:P.follows .mixedOrders=true)(hL:okE P L=true)(hf:P.funcs[f]? =some fn)(hc:N9 P L fn.ntmps (fn.body.getD .skip)=some ac)(hts:A4u fn.results.toList=some ts)
  (h: @Wpi P fn.ntmps [] ac (E29 ts [r]) (A0s args []))(hb:fn.body=some (fn.body.getD .skip):=by kernel_rfl)(hname:(fn.name != "runtime.NumGoroutine")=true:=by kernel_rfl)(hnd:ts.Nodup:=by decide)(hl:(args.length.ble fn.ntmps)=true:=by kernel_rfl):
  D5 P f args [] r []:=D1q (ac:= .mark ac) hm hf hb hname (have e:F9 P fn.ntmps (fn.body.getD .skip)=some ac.strip:=cs2 hL hc;e) hts hnd hl h
theorem B0z(hm:P.follows .mixedOrders=true)(hL:okE P L=true)(hf:P.funcs[f]? =some fn)(hc:N9 P L fn.ntmps (fn.body.getD .skip)=some ac)(hts:A4u fn.results.toList=some ts)
  (h: @Wpi P fn.ntmps (O.map (·.1)) ac (C7n (O.map (·.1)) ts [r] O') (A0s args O))(hb:fn.body=some (fn.body.getD .skip):=by kernel_rfl)(hname:(fn.name != "runtime.NumGoroutine")=true:=by kernel_rfl)(hnd:ts.Nodup:=by decide)(hl:(args.length.ble fn.ntmps)=true:=by kernel_rfl):
  D5 P f args O r O':=B9g (ac:= .mark ac) hm hf hb hname (have e:F9 P fn.ntmps (fn.body.getD .skip)=some ac.strip:=cs2 hL hc;e) hts hnd hl h
theorem G6q(hm:P.follows .mixedOrders=true)(hL:okE P L=true)(hf:P.funcs[f]? =some fn)(hc:N9 P L fn.ntmps (fn.body.getD .skip)=some ac)(hts:A4u fn.results.toList=some ts)
  (h: @Wpi P fn.ntmps (O.map (·.1)) ac (C7n (O.map (·.1)) ts rs O') (A0s args O))(hp:A5t rs= .tup rs:=by rfl)(hb:fn.body=some (fn.body.getD .skip):=by kernel_rfl)(hname:(fn.name != "runtime.NumGoroutine")=true:=by kernel_rfl)(hnd:ts.Nodup:=by decide)(hl:(args.length.ble fn.ntmps)=true:=by kernel_rfl):
  D5 P f args O (.tup rs) O':=hp▸B9g (ac:= .mark ac) hm hf hb hname (have e:F9 P fn.ntmps (fn.body.getD .skip)=some ac.strip:=cs2 hL hc;e) hts hnd hl h
theorem E0h(N:Nat)(rvs:List (Nat×Option (Option Nat)))(hm:P.follows .mixedOrders=true)(hL:okE P L=true)(hf:P.funcs[f]? =some fn)(hc:N9 P L fn.ntmps (fn.body.getD .skip)=some ac)
  (h: @Wpi P N [] ac (C2p N rvs rs) (A0s args []))(hp:A5t rs= .tup rs:=by rfl)(hN:fn.ntmps=N:=by kernel_rfl)(hts:A6a P fn.results.toList=some rvs:=by kernel_rfl)(hb:fn.body=some (fn.body.getD .skip):=by kernel_rfl)(hname:(fn.name != "runtime.NumGoroutine")=true:=by kernel_rfl)(hlt:(rvs.all λp=>p.1.blt N)=true:=by decide)(hl:(args.length.ble N)=true:=by kernel_rfl):
  D5 P f args [] (.tup rs) []:=hp▸B6u (ac:= .mark ac) hm hf hb hname (have e:F9 P fn.ntmps (fn.body.getD .skip)=some ac.strip:=cs2 hL hc;e) hN hts hlt hl h
@[reducible] def wkC(K:List Nat)(T:J6)(O:List (Nat×A7)):Cont:=⟨λo τ=>match o with | .normal=>V9 K τ T O |_=>False⟩
variable {T:J6}
theorem G33: @Qi (wkC K T O) .normal σ=V9 K σ T O:=rfl
theorem B2(T:J6)(O:List (Nat×A7))(h1: @Wpi P N K a (wkC K T O) σ)(h2: @Wpi P N K b Q (A13 T O)): @Wpi P N K (.seq a b) Q σ:=
 Wp.seq (Wp.mono (show Wp P N K a (wkC K T O).q σ from h1) λo τ ho=>by
  cases o with
  |normal=>exact Wp.weak ho h2
  |exit i=>exact ho.elim
  |ret=>exact ho.elim)
theorem E6z(k:Nat)(hm:P.follows .mixedOrders=true){l:List dA}(h: @WnI P k l [] (E0r Q) σ): @Wpi P N K (.region true l) Q σ:=Wp.regT k hm h
theorem C6q(k:Nat){l:List dA}(h: @WsI P k l (E0r Q) σ): @Wpi P N K (.region false l) Q σ:=Wp.regF k h
variable {i:Nat}
theorem Y7(h: @Wpi P N K a (D1o i Q) σ): @Wpi P N K (.block i a) Q σ:=Wp.block h
end
attribute [go_sem] G33
theorem E9c(s t:Sq):(s.app t).n=s.n+t.n:=rfl
variable {α:Type} {l:List α}
theorem F1s {enc:α->List AV}{d:α}:(A9 enc d l).n=l.length:=rfl
attribute [go_sem] E9c F1s
variable {z n:Nat} {g:Nat->List AV} {n':Nat}
theorem A0c {enc:α->List AV}{d:α}{L:List α}(x:α)(hg:g 0=enc x)(hL:L=l++ [x])(hn:n=l.length+1)(hn':n'=L.length):
  M9 (.dsl z n ((A9 enc d l).app ⟨1,g⟩).g) (.dsl z n' (I8 enc d L)):=by
 subst hn;subst hn';subst hL;rw[U4];refine⟨rfl,by simp,λi hi=> ?_⟩;have h:=(A1g (ρ:=id) (z:=z) (d:=d) (l:=l) x hg rfl).2.2 i (by simpa[E9c,F1s]using hi);exact h
variable {p:Prop}
theorem bO_(h:p:=by first |exact K0 |((repeat' (with_reducible apply And.intro)) <;> first |omega |(simp only[IntKind.wrap_i64];omega) |(exact Int.tmod_nonneg _ (by first |omega |(rw[IntKind.wrap_i64];omega))) |(exact Int.tmod_lt_of_pos _ (by omega)) |(intro hob0;(repeat' (with_reducible apply And.intro)) <;> first |omega |(exact Int.tmod_nonneg _ (by first |omega |(rw[IntKind.wrap_i64];omega))) |(exact Int.tmod_lt_of_pos _ (by omega))) |trivial |assumption |(simp only[maxLen];omega) |(intro hob;first |omega |(simp only[Bool.and_eq_true,Bool.or_eq_true,decide_eq_true_eq,Bool.not_eq_true',decide_eq_false_iff_not,Bool.or_eq_false_iff]at hob;first |omega |(simp only[IntKind.wrap_i64];omega)) |(simp only[hob,Bool.not_false,Bool.not_true,Bool.true_and,Bool.and_true,true_and,and_true,imp_self,implies_true];done) |(simp[hob];done) |(simp_all;done) |(simp_all;omega)))):p:=h
theorem eO_(h:p:=by((try dsimp only);(repeat' (with_reducible apply And.intro)) <;> first |with_reducible rfl |trivial |(rw[IntKind.wrap_i64];omega) |omega |(simp only[List.length_append,List.length_cons,List.length_nil];done) |rfl |exact G8 rfl |exact A32 rfl |(simp only[go_sem,↓reduceIte,Nat.reduceEqDiff,reduceCtorEq,Nat.reduceAdd,Nat.reduceLeDiff,Nat.reduceMul,Nat.reduceSub,Int.reduceToNat,C9,E8,C3,D7];done) |(simp_all;done) |(simp only[decide_eq_false_iff_not,Bool.not_eq_false,decide_eq_true_eq]at*;omega) |(intro hob;simp only[hob,Bool.not_false,Bool.not_true,Bool.true_and,Bool.and_true,true_and,and_true,imp_self,implies_true];done) |(intro hob;simp[hob];done) |((repeat' (with_reducible apply And.intro)) <;> first |omega |(simp only[IntKind.wrap_i64];omega) |(exact Int.tmod_nonneg _ (by first |omega |(rw[IntKind.wrap_i64];omega))) |(exact Int.tmod_lt_of_pos _ (by omega)) |(intro hob0;(repeat' (with_reducible apply And.intro)) <;> first |omega |(exact Int.tmod_nonneg _ (by first |omega |(rw[IntKind.wrap_i64];omega))) |(exact Int.tmod_lt_of_pos _ (by omega))) |trivial |assumption |(simp only[maxLen];omega) |(intro hob;first |omega |(simp only[Bool.and_eq_true,Bool.or_eq_true,decide_eq_true_eq,Bool.not_eq_true',decide_eq_false_iff_not,Bool.or_eq_false_iff]at hob;first |omega |(simp only[IntKind.wrap_i64];omega)) |(simp only[hob,Bool.not_false,Bool.not_true,Bool.true_and,Bool.and_true,true_and,and_true,imp_self,implies_true];done) |(simp[hob];done) |(simp_all;done) |(simp_all;omega))))):p:=h
variable {σ:St} {O:List (Nat×A7)} {rs:List AV} {K ts:List Nat}
theorem B6(md:List C3n)(ρs:List (Nat×Nat))(A:List Nat)(h4:A3i σ (D3 ρs) A O (C1g ts md rs) [] λwr=>B4s (wrm σ.objs wr) (D3 ρs) A O O)
  (hm:md.length=ts.length:=by rfl)(hr:rs.length=ts.length:=by rfl)(h1:(O.map (·.1)).Nodup:=by simp[go_sem])(h2:(((O.map (·.1)).filter λi=> !A.contains i).map (D3 ρs)).Nodup:=by simp[D3,go_sem])(h3: ∀k∈K,k∉A/\D3 ρs k=k/\(ofL O k).isSome:=by simp[go_sem,D3]):A8c K σ ts rs O:=F2g md ρs A hm hr h1 h2 h3 h4
variable {T:J6}
theorem B0(ρs:List (Nat×Nat))(A:List Nat)(h4:A3i σ (D3 ρs) A O T [] λwr=>B4s (wrm σ.objs wr) (D3 ρs) A O O)(h1:(O.map (·.1)).Nodup:=by simp[go_sem])(h2:(((O.map (·.1)).filter λi=> !A.contains i).map (D3 ρs)).Nodup:=by simp[D3,go_sem])(h3: ∀k∈K,k∉A/\D3 ρs k=k/\(ofL O k).isSome:=by simp[go_sem,D3]):V9 K σ T O:=C1f ρs A h1 h2 h3 h4
def mdA:Nat->C3n
 |0=> .eZ
 |_+1=> .cA
theorem F81:mdA 0= .eZ:=rfl
theorem F80(i:Nat):mdA (i+1)= .cA:=rfl
attribute [go_sem] F81 F80
theorem eE_(h:p:=by
  (repeat' (with_reducible apply And.intro)) <;> first
    |with_reducible rfl |trivial |rfl |exact D0 _ |exact G8 rfl |exact A32 rfl |exact⟨rfl,rfl,λ_ _=>H9 _⟩ |(rw[IntKind.wrap_i64];omega) |omega |exact A0c _ rfl rfl rfl rfl |exact A1g _ rfl rfl |assumption |(simp only[maxLen];omega) |(simp only[List.length_append,List.length_cons,List.length_nil];omega) |(simp;done)):p:=h
theorem bE_(h:p:=by(repeat' (with_reducible apply And.intro)) <;> first |omega |(rw[IntKind.wrap_i64];omega) |(simp only[maxLen];omega) |trivial):p:=h
section
variable {P:Program} {G:Nat->Prop} {w:World} {ob:Place} {m:Nat->Option A7}
variable {av:AV}
theorem AV.flat_of_pure(h:av.pure=true):av.flat=true:=by cases av <;> first |exact h |simp[AV.pure]at h
end
section
variable {P:Program} {N:Nat}
variable {a:Act} {next:Act->World->Prop}
theorem F4x {o:Oper}{Q:Exit->Act->World->Prop}{rr:Nat}{r:Result Next}(h:o.upon P a next Q r):o.uponIn (Fence.wide.inRound rr) n P a next Q r:=by
 unfold Oper.upon at h;unfold Oper.uponIn;split at h
 ·exact h
 ·exact h
 ·exact h
 ·refine⟨λh=>by simp[Fence.wide]at h,?_⟩;have h2:CallsIn (Fence.wide.inRound rr) (n-1) P _ _ _ _:=(callsIn_wide (n:=n-1)).2 h;omega
 ·refine⟨λh=>by simp[Fence.wide]at h,λc cs _=> ?_⟩;obtain⟨v,w',r,s⟩:=h c cs;exact⟨v,w',r,stepsIn_wide.2 s⟩
 ·exact h
 ·exact h.elim
variable {w:World}
theorem F4e {o:Oper}{Q:Exit->Act->World->Prop}{rr:Nat}(hd: ∀c,o.op≠ .defer c)(h:o.wp P a w next Q):o.wpIn (Fence.wide.inRound rr) n P a w next Q:=by
 refine⟨λ_ _=>trivial,?_⟩;show o.uponIn (Fence.wide.inRound rr) n P a next Q ((o.semAt (some rr) a.eval).run P w)
 rw[Oper.semAt_eq _ _ _ hd];exact F4x h
theorem E1w {ops:Array Oper}{Q:St->Prop}{R:Exit->Act->World->Prop}{rr n:Nat}: ∀(l:List Oper) (as:List dA) (k:Nat) (σ:St) (a:Act) (w:World) (ob:Place) (G:Nat->Prop),
  (∀o∈l,∀c,o.op≠ .defer c)->S4 P N ops l=some as->(∀i o,l[i]? =some o->ops[k+i]? =some o)->Sim N σ a w ob G->A47 P as Q σ->
  (∀τ a' w' ob' G',Q τ->Sim N τ a' w' ob' G'->Fr G w ob G' w' ob'->D4 ob ob'->R .normal a' w')->
  wpOpsIn (Fence.wide.inRound rr) n P ops R (List.range' k l.length) a w
 | [],as,k,σ,a,w,ob,G,_,hc,hl,hs,h,hQ=>by simp only[S4,Option.some.injEq]at hc;subst hc;exact hQ σ a w ob G h hs (Fr.refl G w ob) (D4.refl ob)
 |o::l,as,k,σ,a,w,ob,G,hnd,hc,hl,hs,h,hQ=>by
  simp only[S4]at hc;split at hc
  case h_2=>cases hc
  rename_i ao as' h1 h2;simp only[Option.some.injEq]at hc;subst hc;obtain⟨b,r,hd,hk⟩:=B3c h;have ho:ops[k]? =some o:=by simpa using hl 0 o (by simp)
  simp only[List.length_cons,List.range'_succ];simp only[wpOpsIn,ho];have:=C47 (K:=wpOpsIn (Fence.wide.inRound rr) n P ops R (List.range' (k+1) l.length)) (Q:=R) h1 hs hd (λa' w' ob' G' s f e=>E1w l as' (k+1) _ a' w' ob' G' (λo ho=>hnd o (List.mem_cons_of_mem _ ho)) h2
   (λi o' hi=>by have:=hl (i+1) o' (by simpa using hi);grind) s hk
   (λτ a'' w'' ob'' G'' q s' f' e'=>hQ τ a'' w'' ob'' G'' q s' (f.trans f') (e.trans e')))
  by_cases hw:Region.wanted o (yielded ops a.tmps)=true
  ·rw[if_pos hw]at this⊢;exact F4e (hnd o (List.mem_cons_self ..)) this
  ·rw[if_neg hw]at this⊢;exact⟨λ_ _=>trivial,this⟩
def F6c(o:Oper):Bool:=match o.op with | .defer _=>false |_=>true
def A3c:Code->Bool
 | .region _ ops draw=>ops.toList.all F6c&& !draw
 | .seq a b=>A3c a&&A3c b
 | .cond _ a b=>A3c a&&A3c b
 | .skip=>true
 | .block _ a=>A3c a
 |_=>false
def plA:ACode->Bool
 | .region _ _=>true
 | .seq a b=>plA a&&plA b
 | .cond _ a b=>plA a&&plA b
 | .block _ a=>plA a
 | .skip=>true
 |_=>false
theorem B55 {rr n:Nat}{K:List Nat}: ∀(c:Code) (ac:ACode) {Q:Out->St->Prop} {σ:St} {a:Act} {w:World} {ob:Place} {G:Nat->Prop} {R:Exit->Act->World->Prop},
  A3c c=true->plA ac=true->F9 P N c=some ac.strip->Sim N σ a w ob G->W P N K ac Q σ->
  (∀τ a' w' ob' G',Q .normal τ->Sim N τ a' w' ob' G'->Fr G w ob G' w' ob'->D4 ob ob'->R .normal a' w')->c.wpIn (Fence.wide.inRound rr) n P R a w
 | .skip,ac,Q,σ,a,w,ob,G,R,_,hp,hc,hs,h,hR=>by cases ac <;> simp only[F9,ACode.strip,Option.some.injEq,reduceCtorEq,plA]at hc hp;exact wpIn_skip (hR σ a w ob G h hs (Fr.refl G w ob) (D4.refl ob))
 | .region i ops draw,ac,Q,σ,a,w,ob,G,R,hn,hp,hc,hs,h,hR=>by
   simp only[A3c,Bool.and_eq_true,Bool.not_eq_true',List.all_eq_true]at hn;obtain⟨hn,rfl⟩:=hn;simp only[F9,A85]at hc;cases ac with
   |region d os=>
    simp only[ACode.strip]at hc;split at hc
    ·rename_i as has;simp only[Option.some.injEq,ACode.region.injEq]at hc;obtain⟨rfl,rfl⟩:=hc;split at has
     ·rename_i as' hcop;simp only[Bool.false_eq_true,if_false,Option.some.injEq]at has;subst has;refine wpIn_region ?_;have:=E1w (rr:=rr) (n:=n) (Q:=Q .normal) (R:=R) ops.toList as' 0 σ a w ob G (λo ho c e=>by have:=hn o ho;simp[F6c,e]at this) hcop (λi o hi=>by simpa using hi) hs h hR;rw[List.range_eq_range'];simpa using this
     ·cases has
    ·cases hc
   |_=>
    simp only[plA,Bool.false_eq_true]at hp
    all_goals((repeat' split at hc) <;> simp[ACode.strip]at hc)
 | .seq x y,ac,Q,σ,a,w,ob,G,R,hn,hp,hc,hs,h,hR=>by
   simp only[A3c,Bool.and_eq_true]at hn;simp only[F9]at hc;cases ac with
   |seq x' y'=>
    simp only[plA,Bool.and_eq_true]at hp;simp only[ACode.strip]at hc;split at hc
    ·rename_i x1 y1 h1 h2;simp only[Option.some.injEq,ACode.seq.injEq]at hc;obtain⟨rfl,rfl⟩:=hc;refine wpIn_seq (B55 x x' hn.1 hp.1 h1 hs h λτ a1 w1 ob1 G1 q1 s1 f1 e1=> ?_);exact B55 y y' hn.2 hp.2 h2 s1 q1 λτ' a2 w2 ob2 G2 q2 s2 f2 e2=>hR τ' a2 w2 ob2 G2 q2 s2 (f1.trans f2) (e1.trans e2)
    ·cases hc
   |_=>
    simp only[plA,Bool.false_eq_true]at hp
    all_goals((repeat' split at hc) <;> simp[ACode.strip]at hc)
 | .cond c x y,ac,Q,σ,a,w,ob,G,R,hn,hp,hc,hs,h,hR=>by
   simp only[A3c,Bool.and_eq_true]at hn;simp only[F9]at hc;cases ac with
   |cond k x' y'=>
    simp only[plA,Bool.and_eq_true]at hp;simp only[ACode.strip]at hc;split at hc
    ·rename_i k1 x1 y1 hk h1 h2;simp only[Option.some.injEq,ACode.cond.injEq]at hc;obtain⟨rfl,rfl,rfl⟩:=hc;simp only[W]at h;split at h
     ·rename_i t ht;have hv:a.eval c= .bool t:=by
       have:=hs.opRel c k1 (.sc (.bool t)) hk (by unfold St.e';rw[ht]);exact this.sc_eq
      refine wpIn_cond hv ?_;cases t with
      |true=>exact B55 x x' hn.1 hp.1 h1 hs (by simpa using h) hR
      |false=>exact B55 y y' hn.2 hp.2 h2 hs (by simpa using h) hR
     ·exact h.elim
    ·cases hc
   |_=>
    simp only[plA,Bool.false_eq_true]at hp
    all_goals((repeat' split at hc) <;> simp[ACode.strip]at hc)
 | .block id x,ac,Q,σ,a,w,ob,G,R,hn,hp,hc,hs,h,hR=>by
   simp only[A3c]at hn;simp only[F9]at hc;cases ac with
   |block k x'=>
    simp only[plA]at hp;simp only[ACode.strip]at hc;split at hc
    ·rename_i x1 h1;simp only[Option.some.injEq,ACode.block.injEq]at hc;obtain⟨rfl,rfl⟩:=hc;exact wpIn_block (B55 x x' hn hp h1 hs h λτ' a2 w2 ob2 G2 q2 s2 f2 e2=>hR τ' a2 w2 ob2 G2 q2 s2 f2 e2)
    ·cases hc
   |_=>
    simp only[plA,Bool.false_eq_true]at hp
    all_goals((repeat' split at hc) <;> simp[ACode.strip]at hc)
 | .loop ..,_,_,_,_,_,_,_,_,hn,_,_,_,_,_=>by simp[A3c]at hn
 | .exit ..,_,_,_,_,_,_,_,_,hn,_,_,_,_,_=>by simp[A3c]at hn
 | .ret,_,_,_,_,_,_,_,_,hn,_,_,_,_,_=>by simp[A3c]at hn
 | .label ..,_,_,_,_,_,_,_,_,hn,_,_,_,_,_=>by simp[A3c]at hn
 | .goto ..,_,_,_,_,_,_,_,_,hn,_,_,_,_,_=>by simp[A3c]at hn
 | .scope ..,_,_,_,_,_,_,_,_,hn,_,_,_,_,_=>by simp[A3c]at hn
 | .rangeFunc ..,_,_,_,_,_,_,_,_,hn,_,_,_,_,_=>by simp[A3c]at hn
variable {G:Nat->Prop} {ob:Place} {m:Nat->Option A7} {G':Nat->Prop}
theorem E9.shrink(hs:E9 G' w ob m)(hsub: ∀b,G b->G' b)(hn: ∀id o,m id=some o->o.NoDsl):E9 G w ob m:=⟨hs.dom,hs.inj,λb h=>hs.lt b (hsub b h),λid o i h1 h2=>(hs.own id o i h1 h2).noDsl (hn id o h1),λid o i b h1 h2 h3 h4 h5=>hs.sep id o i b h1 h2 h3 h4 (hsub b h5)⟩
structure Ext (w w':World):Prop where
 size:w.heap.size<=w'.heap.size
 same: ∀b,b<w.heap.size->w'.heap[b]? =w.heap[b]?
 os:w'.os=w.os
 tape:w'.tape=w.tape
 output:w'.output=w.output
 drawn:w.drawn<=w'.drawn
variable {w':World} {ob':Place}
theorem Ext.of_fr(f:Fr G w (λ_=>none) G' w' ob'):Ext w w':=⟨f.size,λb hb=>f.same b hb (.inr λ⟨_,_,h,_⟩=>by cases h),f.os,f.tape,f.output,f.drawn⟩
theorem Fr.ext {w1 w2:World}(f:Fr G w ob G' w1 ob')(e:Ext w1 w2):Fr G w ob G' w2 ob':=⟨Nat.le_trans f.size e.size,λb hb hc=>(e.same b (Nat.lt_of_lt_of_le hb f.size)).trans (f.same b hb hc),f.blk,f.sub,f.new,e.os.trans f.os,e.tape.trans f.tape,e.output.trans f.output,Nat.le_trans f.drawn e.drawn⟩
end
section
variable {P:Program} {N:Nat}
structure C3m (P:Program) (α:Type)where
 l:Nat
 encs:α->List AV
 J:List α->World->(Nat->Prop)->Prop
 bound:Nat
 lt: ∀pre W Φ b,J pre W Φ->Φ b->b<W.heap.size
 ext: ∀pre W W' Φ,J pre W Φ->Ext W W'->J pre W' Φ
 rnd: ∀pre x W Φ (vals:List Value),J pre W Φ->pre.length<bound->(∀G ob,A55 G W ob (encs x) vals)->
  ∃fn tmps asg bd,(Instr.yield l vals.toArray).run P W= .ok (.round l fn tmps asg bd) W/\
   ∀n,RoundIn Fence.wide n P l fn tmps asg bd W λe W'=>e= .returned (.bool true)/\ ∃Φ',J (pre++ [x]) W' Φ'/\(∀b,Φ' b->Φ b\/W.heap.size<=b)/\W.heap.size<=W'.heap.size/\ ∀b,b<W.heap.size-> ¬Φ b->W'.heap[b]? =W.heap[b]?
variable {a:Act} {next:Act->World->Prop}
theorem F7b {o:Oper}{Q:Exit->Act->World->Prop}{r:Result Next}(h:o.upon P a next Q r):o.uponIn Fence.wide n P a next Q r:=by
 unfold Oper.upon at h;unfold Oper.uponIn;split at h
 ·exact h
 ·exact h
 ·exact h
 ·refine⟨λh=>by simp[Fence.wide]at h,?_⟩;refine((callsIn_wide (n:=n-1)).2 h).mono λe w' he=> ?_;cases e <;> exact he
 ·refine⟨λh=>by simp[Fence.wide]at h,λc cs _=> ?_⟩;obtain⟨v,w',r,s⟩:=h c cs;exact⟨v,w',r,stepsIn_wide.2 s⟩
 ·exact h
 ·exact h.elim
theorem E3r {ops:Array Oper}{Q:St->Prop}{R:Exit->Act->World->Prop}{n:Nat}{rest:List Nat}: ∀(l:List Oper) (as:List dA) (k:Nat) (σ:St) (a:Act) (w:World) (ob:Place) (G:Nat->Prop),
  S4 P N ops l=some as->(∀i o,l[i]? =some o->ops[k+i]? =some o)->Sim N σ a w ob G->A47 P as Q σ->
  (∀τ a' w' ob' G',Q τ->Sim N τ a' w' ob' G'->Fr G w ob G' w' ob'->D4 ob ob'->wpOpsIn Fence.wide n P ops R rest a' w')->
  wpOpsIn Fence.wide n P ops R (List.range' k l.length++rest) a w
 | [],as,k,σ,a,w,ob,G,hc,hl,hs,h,hQ=>by simp only[S4,Option.some.injEq]at hc;subst hc;exact hQ σ a w ob G h hs (Fr.refl G w ob) (D4.refl ob)
 |o::l,as,k,σ,a,w,ob,G,hc,hl,hs,h,hQ=>by
  simp only[S4]at hc;split at hc
  case h_2=>cases hc
  rename_i ao as' h1 h2;simp only[Option.some.injEq]at hc;subst hc;obtain⟨b,r,hd,hk⟩:=B3c h;have ho:ops[k]? =some o:=by simpa using hl 0 o (by simp)
  simp only[List.length_cons,List.range'_succ,List.cons_append];simp only[wpOpsIn,ho];have:=C47 (K:=wpOpsIn Fence.wide n P ops R (List.range' (k+1) l.length++rest)) (Q:=R) h1 hs hd (λa' w' ob' G' s f e=>E3r l as' (k+1) _ a' w' ob' G' h2
   (λi o' hi=>by have:=hl (i+1) o' (by simpa using hi);grind) s hk
   (λτ a'' w'' ob'' G'' q s' f' e'=>hQ τ a'' w'' ob'' G'' q s' (f.trans f') (e.trans e')))
  by_cases hw:Region.wanted o (yielded ops a.tmps)=true
  ·rw[if_pos hw]at this⊢;exact⟨λ_ _=>trivial,F7b this⟩
  ·rw[if_neg hw]at this⊢;exact⟨λ_ _=>trivial,this⟩
theorem D1t {ops:Array Oper}: ∀ {pre:List dA} {l:List Oper} {x:dA} {post:List dA},S4 P N ops l=some (pre++x::post)->
  ∃l1 o l2,l=l1++o::l2/\S4 P N ops l1=some pre/\B2q P N ops o=some x/\S4 P N ops l2=some post
 | [],[],x,post,h=>by simp[S4]at h
 | [],o::l,x,post,h=>by
   simp only[S4]at h;split at h
   ·rename_i h1 h2;simp only[List.nil_append,Option.some.injEq,List.cons.injEq]at h;obtain⟨rfl,rfl⟩:=h;exact⟨[],o,l,rfl,rfl,h1,h2⟩
   ·cases h
 |p::pre,[],x,post,h=>by simp[S4]at h
 |p::pre,o::l,x,post,h=>by
  simp only[S4]at h;split at h
  ·rename_i h1 h2;simp only[List.cons_append,Option.some.injEq,List.cons.injEq]at h;obtain⟨rfl,rfl⟩:=h;obtain⟨l1,o',l2,rfl,g1,g2,g3⟩:=D1t h2;exact⟨o::l1,o',l2,rfl,by simp only[S4,h1,g1],g2,g3⟩
  ·cases h
variable {α:Type}
def SJ(I:C3m P α)(N:Nat)(T:J6)(pre:List α)(a:Act)(W:World):Prop:=∃ob G Φ,Sim N (A13 T []) a W ob G/\I.J pre W Φ/\ ∀b,G b-> ¬Φ b
variable {w:World} {G:Nat->Prop} {ob:Place}
theorem D4h(h:E9 G w ob (ofL [])):ob=λ_=>none:=by funext id;exact(h.dom id).1 rfl
variable {ob':Place} {G':Nat->Prop} {τ:St} {I:C3m P α} {pre:List α}
theorem SJ.step {T':J6}{a':Act}{W W':World}{Φ:Nat->Prop}(hs:Sim N (A13 T []) a W ob G)(hJ:I.J pre W Φ)(hd: ∀b,G b-> ¬Φ b)
  (s:Sim N τ a' W' ob' G')(f:Fr G W ob G' W' ob')(hw:V9 [] τ T' []):SJ I N T' pre a' W':=by
 obtain⟨ρ,A,hw⟩:=hw;obtain⟨ob2,G2,g1,g2,_⟩:=B3z s hw;have f2:=f.trans g2
 have e0:=D4h hs.objs;subst e0;have hx:Ext W W':=Ext.of_fr f2;refine⟨ob2,G2,Φ,g1,I.ext _ _ _ _ hJ hx,λb hb hΦ=> ?_⟩;have hlt:=I.lt _ _ _ b hJ hΦ;rcases f2.new b hb with h |h |⟨id,i,h,_⟩
 ·exact hd b h hΦ
 ·omega
 ·cases h
def Yp(I:C3m P α)(N:Nat)(ac:ACode)(Q:Out->J6->List α->Prop)(T:J6)(pre:List α):Prop:=∀c,F9 P N c=some ac.strip-> ∀a W,SJ I N T pre a W->c.wp P (λe a' W'=> ∃o T' pre',e=Out.exit' o/\Q o T' pre'/\SJ I N T' pre' a' W') a W
variable {ac:ACode}
theorem Yp.plain {Q:Out->J6->List α->Prop}(h:Wp P N [] ac (λo τ=> ∃T',Q o T' pre/\V9 [] τ T' []) (A13 T [])):Yp I N ac Q T pre:=by intro c hc a W ⟨ob,G,Φ,hs,hJ,hd⟩;refine wp_mono (h c hc ⟨G,W,ob⟩ a W ob G hs ⟨Fr.refl G W ob,λid i hk=>by cases hk⟩) ?_;rintro e a' W' ⟨o,τ,ob',G',rfl,⟨T',q,hw⟩,s,hΓ⟩;exact⟨o,T',pre,rfl,q,SJ.step hs hJ hd s hΓ.fr hw⟩
def F27(f:J6->List α->Prop)(Q:Out->J6->List α->Prop):Out->J6->List α->Prop
 | .normal,T,p=>f T p
 |o,T,p=>Q o T p
def E61(id:Nat)(Q:Out->J6->List α->Prop):Out->J6->List α->Prop
 | .exit i,T,p=>if i=id then Q .normal T p else Q (.exit i) T p
 |o,T,p=>Q o T p
theorem Yp.seq {I:C3m P α}{x y:ACode}{Q:Out->J6->List α->Prop}{T:J6}{pre:List α}(h:Yp I N x (F27 (λT' p'=>Yp I N y Q T' p') Q) T pre):Yp I N (.seq x y) Q T pre:=by
 intro c hc a W hS;cases c <;> simp only[F9,ACode.strip,Option.some.injEq,reduceCtorEq]at hc
 case seq c1 c2=>
  split at hc
  ·rename_i x' y' h1 h2;simp only[Option.some.injEq,ACode.seq.injEq]at hc;obtain⟨rfl,rfl⟩:=hc;refine wp_seq (wp_mono (h c1 h1 a W hS) ?_);rintro e a' w' ⟨o,T',p',rfl,hq,s⟩;cases o with
   |normal=>exact hq c2 h2 a' w' s
   |exit i=>exact⟨.exit i,T',p',rfl,hq,s⟩
   |ret=>exact⟨.ret,T',p',rfl,hq,s⟩
  ·cases hc
 all_goals grind
theorem Yp.block {I:C3m P α}{id:Nat}{x:ACode}{Q:Out->J6->List α->Prop}{T:J6}{pre:List α}(h:Yp I N x (E61 id Q) T pre):Yp I N (.block id x) Q T pre:=by
 intro c hc a W hS;cases c <;> simp only[F9,ACode.strip,Option.some.injEq,reduceCtorEq]at hc
 case block id' c1=>
  split at hc
  ·rename_i x' h1;simp only[Option.some.injEq,ACode.block.injEq]at hc;obtain⟨rfl,rfl⟩:=hc;refine wp_block (wp_mono (h c1 h1 a W hS) ?_);rintro e a' w' ⟨o,T',p',rfl,hq,s⟩;cases o with
   |normal=>exact⟨.normal,T',p',rfl,hq,s⟩
   |exit i=>
    simp only[Out.exit',Exit.inBlock];simp only[E61]at hq
    grind
   |ret=>exact⟨.ret,T',p',rfl,hq,s⟩
  ·cases hc
 all_goals grind
theorem Yp.cond {I:C3m P α}{k:AX}{t:Bool}{x y:ACode}{Q:Out->J6->List α->Prop}{T:J6}{pre:List α}(ht:(A13 T []).ev k=some (true, .sc (.bool t)))(h:Yp I N (if t=true then x else y) Q T pre):Yp I N (.cond k x y) Q T pre:=by
 intro c hc a W hS;cases c <;> simp only[F9,ACode.strip,Option.some.injEq,reduceCtorEq]at hc
 case cond c0 c1 c2=>
  split at hc
  ·rename_i k' x' y' h0 h1 h2;simp only[Option.some.injEq,ACode.cond.injEq]at hc;obtain⟨rfl,rfl,rfl⟩:=hc;obtain⟨ob,G,Φ,hs,hJ,hd⟩:=hS;have hv:a.eval c0= .bool t:=(hs.opRel c0 k' (.sc (.bool t)) h0 (by simp[St.e',ht])).sc_eq;refine wp_cond hv ?_;cases t with
   |true=>rw[if_pos rfl]at h;exact h c1 h1 a W ⟨ob,G,Φ,hs,hJ,hd⟩
   |false=>rw[if_neg (by simp)]at h;exact h c2 h2 a W ⟨ob,G,Φ,hs,hJ,hd⟩
  ·cases hc
 all_goals grind
theorem Yp.loop {I:C3m P α}{x:ACode}{Q:Out->J6->List α->Prop}{ι:Type}(T:ι->J6)(p:ι->List α)(μ:ι->Nat)(i0:ι)
  (h: ∀i,Yp I N x (F27 (λT' p'=> ∃i',μ i'<μ i/\T'=T i'/\p'=p i') Q) (T i) (p i)):Yp I N (.loop x) Q (T i0) (p i0):=by
 intro c hc a W hS;cases c <;> simp only[F9,ACode.strip,Option.some.injEq,reduceCtorEq]at hc
 case loop c1=>
  split at hc
  ·rename_i x' h1;simp only[Option.some.injEq,ACode.loop.injEq]at hc;obtain rfl:=hc;intro b k cs;have key: ∀n i,μ i=n-> ∀(a':Act) (w':World),SJ I N (T i) (p i) a' w'->
     ∃e a2 w2,(∃o T' pre',e=Out.exit' o/\Q o T' pre'/\SJ I N T' pre' a2 w2)/\Arrives P (lone (b.at a' (.code c1:: .inLoop c1::k)) cs w') b k cs e a2 w2:=by
    intro n;induction n using Nat.strongRecOn with
    |_ n ih=>
     intro i hn a' w' hs';obtain⟨e,a1,w1,hq,harr⟩:=h i c1 h1 a' w' hs' b (.inLoop c1::k) cs;obtain⟨o,T',p',rfl,hq,s⟩:=hq;cases o with
     |normal=>obtain⟨i',hlt,rfl,rfl⟩:=hq;obtain⟨e2,a2,w2,hq2,harr2⟩:=ih (μ i') (hn▸hlt) i' rfl a1 w1 s;exact⟨e2,a2,w2,hq2, .of_steps (Steps.trans harr (.one step_inLoop)) harr2⟩
     |exit id=>exact⟨.exit id,a1,w1,⟨.exit id,T',p',rfl,hq,s⟩, .pass (x:= .inLoop c1) rfl (λ_ _=> .inl (by simp)) harr⟩
     |ret=>exact⟨.ret,a1,w1,⟨.ret,T',p',rfl,hq,s⟩, .pass (x:= .inLoop c1) rfl (λ_ _=> .inl (by simp)) harr⟩
   obtain⟨e,a',w',hq,harr⟩:=key _ i0 rfl a W hS;exact⟨e,a',w',hq, .of_steps (.one step_loop) harr⟩
  ·cases hc
 all_goals grind
variable {avs:List AV} {xs:List AX}
theorem F7e {ops:Array Oper}{o:Oper}{d:Option Nat}{x:AX}{W:World}{l:Nat}(hc:B2q P N ops o=some ⟨d, .callv x xs,none,[]⟩)(hs:Sim N τ a W ob G)
  (hx:τ.ev x=some (true, .fn (.yield l) [] []))(he:τ.es xs=some avs)(ht: ∀y∈xs,τ.c y=true):
  ∃vals:List Value,(execOp a.eval o).run P W=(Instr.yield l vals.toArray).run P W/\A55 G W ob avs vals:=by
 obtain⟨hop,-,-⟩:=C3r hc;obtain⟨dst,op,type,pos,after,guard⟩:=o;simp only at hop;have hop':cop P op=some (.callv x xs):=by
  unfold A8d at hop
  grind
 obtain⟨cl,rfl⟩:=(D72 hop').2 rfl;simp only[cop]at hop';obtain⟨callee,args,argTypes⟩:=cl;obtain⟨args⟩:=args;obtain⟨argTypes⟩:=argTypes;simp only at hop';split at hop'
 case h_9=>
  rename_i y _;split at hop'
  case h_2=>cases hop'
  rename_i ax al hax hal;simp only[Option.some.injEq,AOp.callv.injEq]at hop';obtain⟨rfl,rfl⟩:=hop';have hxr:=hs.opRel y ax _ hax (by unfold St.e';rw[hx])
  have har:=D7r hs hal he ht;generalize hxv:a.eval y=xv at hxr;cases hxr with
  |fn fs us hn hm hr hq=>
   have e1:fs= #[]:=Array.eq_empty_of_size_eq_zero (by simpa using hn)
   have e2:us= #[]:=Array.eq_empty_of_size_eq_zero (by simpa using hm);subst e1;subst e2;refine⟨args.map a.eval,?_,har⟩;simp[execOp,resolve,hxv,Deferred.ofValue,invoke]
 all_goals(exfalso;(repeat' split at hop') <;> simp at hop')
variable {d:Nat}
theorem Yp.yield {pr po:List dA}{x:AX}{p:List α}{Q:Out->J6->List α->Prop}(v:α)(hp:p.length<I.bound)(hE: ∀G W ob vals,A55 G W ob (I.encs v) vals-> ∀G' ob',A55 G' W ob' (I.encs v) vals)
  {A:St->Prop}(h1:A47 P pr A (A13 T []))(hA: ∀τ,A τ->τ.ev x=some (true, .fn (.yield I.l) [] [])/\τ.es xs=some (I.encs v)/\(∀y∈xs,τ.c y=true)/\τ.objs=ofL []/\
    ∃B,A47 P po B (τ.put (some d) true ⟨some (.sc (.bool true)),[]⟩)/\ ∀τ',B τ'-> ∃T',Q .normal T' (p++ [v])/\V9 [] τ' T' []):Yp I N (.region false (pr++⟨some d, .callv x xs,none,[]⟩::po)) Q T p:=by
 intro c hc a W ⟨ob,G,Φ,hs,hJ,hd⟩;cases c <;> simp only[F9,ACode.strip,Option.some.injEq,reduceCtorEq]at hc
 case region id os draw=>
  split at hc
  ·rename_i as has;simp only[Option.some.injEq,ACode.region.injEq]at hc;obtain⟨rfl,rfl⟩:=hc;unfold A85 at has;split at has
   ·rename_i as' hcop;simp only[Bool.false_eq_true,if_false,Option.some.injEq]at has;subst has;obtain⟨l1,o,l2,hl,c1,c2,c3⟩:=D1t hcop;have hget: ∀i o',(l1++o::l2)[i]? =some o'->os[i]? =some o':=λi o' hi=>by rw[<-hl,Array.getElem?_toList]at hi;exact hi
    refine(wpIn_wide (n:=1)).1 (wpIn_region ?_);have hr:List.range os.size=List.range' 0 l1.length++(l1.length::List.range' (l1.length+1) l2.length):=by
     have e:os.size=l1.length+(l2.length+1):=by rw[<-Array.length_toList,hl];simp
     rw[e,List.range_eq_range',List.range'_append_1.symm,Nat.zero_add];rfl
    rw[hr];refine E3r l1 pr 0 _ a W ob G c1 (λi o' hi=>hget _ _ (by grind)) hs h1 ?_;rintro τ a1 W1 ob1 G1 hAτ s1 f1 _;obtain⟨hx,he,ht,hob,B,hpo,hB⟩:=hA τ hAτ;have e0:=D4h hs.objs;subst e0;have hX:=Ext.of_fr f1
    have e1:ob1=λ_=>none:=by have:=s1.objs;rw[hob]at this;exact D4h this
    subst e1;have hJ1:=I.ext _ _ _ _ hJ hX
    have hd1: ∀b,G1 b-> ¬Φ b:=λb hb hΦ=>by
     have hlt:=I.lt _ _ _ b hJ hΦ;rcases f1.new b hb with h |h |⟨id,i,h,_⟩
     all_goals grind
    obtain⟨vals,hrun,hrel⟩:=F7e c2 s1 hx he ht;obtain⟨fn,tmps,asg,bd,hy,hR⟩:=I.rnd p v W1 Φ vals hJ1 hp (λG' ob'=>hE _ _ _ _ hrel _ _);have ho:os[l1.length]? =some o:=hget _ _ (by grind)
    have hgw:Region.wanted o (yielded os a1.tmps)=true:=D16 s1 c2 rfl;simp only[wpOpsIn,ho];rw[if_pos hgw];obtain⟨_,hdst,hdN⟩:=C3r c2;refine⟨λ_ _=>trivial,?_⟩;show o.uponIn Fence.wide 1 P a1 _ _ ((execOp a1.eval o).run P W1);rw[hrun,hy];refine⟨λh=>by simp[Fence.wide]at h,(hR 0).mono ?_⟩;rintro e W2 ⟨rfl,Φ',hJ2,hΦ',hsz,hsame⟩;show wpOpsIn Fence.wide 1 P os _ _ (a1.put o.dst (.bool true)) W2;have s2:Sim N τ a1 W2 (λ_=>none) G1:=s1.frame hsz λb hb hc=>by
     rcases hc with hc |⟨id,i,h,_⟩
     all_goals grind
    have hd2: ∀b,G1 b-> ¬Φ' b:=λb hb hΦ=>by
     rcases hΦ' b hΦ with h |h
     ·exact hd1 b hb h
     ·have:=s1.objs.lt b hb;omega
    rw[<-hdst];have s3:Sim N (τ.put (some d) true ⟨some (.sc (.bool true)),[]⟩) (a1.put (some d) (.bool true)) W2 (λ_=>none) G1:=s2.put_true (dst:=some d) (r:=⟨some (.sc (.bool true)),[]⟩) (v:= .bool true) (by rw[<-hdst]at hdN;exact hdN) s2.objs (λav hav=>by simp only[Option.some.injEq]at hav;subst hav;exact .sc rfl) (D4.refl _) (Fr.refl _ _ _)
    have:=E3r (n:=1) (R:=λe a' W'=> ∃o T' pre',e=Out.exit' o/\Q o T' pre'/\SJ I N T' pre' a' W') (rest:= []) l2 po (l1.length+1) _ _ W2 _ G1 c3 (λi o' hi=>hget _ _ (by rw[List.getElem?_append_right (by omega),show l1.length+1+i-l1.length=i+1 by omega];simpa using hi)) s3 hpo ?_
    ·rw[List.append_nil]at this;exact this
    ·rintro τ' a3 W3 ob3 G3 hBτ s4 f4 _;obtain⟨T',q,hw'⟩:=hB τ' hBτ;refine⟨.normal,T',p++ [v],rfl,q,?_⟩;have s2':Sim N (A13 [] []) a1 W2 (λ_=>none) G1:=⟨s2.size,s2.defers,by have:=s2.objs;rw[hob]at this;exact this,λt av h=>by simp[A13,A17]at h,λt av h=>by simp[A13,A17]at h⟩;exact SJ.step s2' hJ2 hd2 s4 f4 hw'
   ·cases has
  ·cases hc
 all_goals grind
variable {f:FuncId} {fn:Func}
theorem F52 {caps:List AV}{xs:List α}{us:List Value}{W:World}{Φ:Nat->Prop}
  (hf:P.funcs[f]? =some fn)(hb:fn.body=some (fn.body.getD .skip))(hc:F9 P fn.ntmps (fn.body.getD .skip)=some ac.strip)(hts:A6a P fn.results.toList=some [])(hl:(caps.length+1)<=fn.ntmps)
  (hr:A55 G W (λ_=>none) caps us)(hlt: ∀b,G b->b<W.heap.size)(hJ:I.J [] W Φ)(hd: ∀b,G b-> ¬Φ b)
  {T:J6}(hT: ∀t av,A17 T t=some (true,av)->(AV.fn (.yield I.l) [] []::caps)[t]? =some av)(h:Yp I fn.ntmps ac (λo _ p=>(o= .normal\/o= .ret)/\p=xs) T []):
  CallsIn Fence.wide 1 P f (#[.func (.yield I.l) #[] #[]]++us.toArray) W λe W'=>(∃v,e= .returned v)/\ ∃Φ',I.J xs W' Φ':=by
 refine callsIn_wide.2 (calls_of_wp hf hb ?_);have hus:us.length=caps.length:=hr.1
 have hs0:Sim fn.ntmps (A13 T []) {tmps:=(#[Value.func (.yield I.l) #[] #[]]++us.toArray)++Array.replicate (fn.ntmps-(#[Value.func (.yield I.l) #[] #[]]++us.toArray).size) undef,defers:= []} W (λ_=>none) G:=by
  refine⟨by simp;omega,rfl,⟨λid=>by simp[A13,ofL,wrm],λ_ _ _ _ _ h=>(by cases h),hlt,λ_ _ _ _ h=>(by cases h),λ_ _ _ _ _ _ h=>(by cases h)⟩,λt av ht=> ?_,λt av ht=>absurd ht B3n⟩;have h1:=hT t av ht;cases t with
  |zero=>
   simp only[List.getElem?_cons_zero,Option.some.injEq]at h1;subst h1;have e1:(#[Value.func (.yield I.l) #[] #[]]++us.toArray:Array Value)[0]? =some (.func (.yield I.l) #[] #[]):=by grind
   refine⟨.func (.yield I.l) #[] #[],(by grind), .fn #[] #[] rfl rfl (λj av hj=>by simp at hj) (λj av hj=>by simp at hj)⟩
  |succ t=>
   simp only[List.getElem?_cons_succ]at h1;have h2:=hr.2 t av h1
   have hlt:t<us.length:=by grind
   refine⟨us.getD t undef,?_,h2⟩;rw[Array.getElem?_append_left (by simp;omega),Array.getElem?_append_right (by simp)];simp[List.getD,hlt]
 refine wp_mono (h _ hc _ W ⟨_,G,Φ,hs0,hJ,hd⟩) ?_;rintro e a' W' ⟨o,T',p',rfl,⟨ho,rfl⟩,ob',G',Φ',s,hJ',_⟩;obtain⟨σ2,a2,v,k1,k2,hv,hv'⟩:=C0y (K:=λ_=>True) hts s (λp hp=>by cases hp) trivial;have fin:a'.defers= []/\ ∃v,(results fn a'.tmps).run P W'= .ok v W'/\((∃u,Ending.returned v= .returned u)/\ ∃Φ',I.J p' W' Φ'):=⟨s.defers,v,hv,⟨v,rfl⟩,Φ',hJ'⟩;rcases ho with rfl |rfl
 ·exact fin
 ·exact fin
end
section
variable {P:Program} {N:Nat} {α:Type}
variable {w:World} {G:Nat->Prop} {ob:Place} {i:Nat} {a:Act} {as:List dA}
theorem F9m {ops:Array Oper}{Q:St->Prop}(hc:S4 P N ops ops.toList=some as)(h:A47 P as Q σ)(hs:Sim N σ a w ob G)
  {R:Exit->Act->World->Prop}(hk: ∀τ a' w' ob' G',Q τ->Sim N τ a' w' ob' G'->Fr G w ob G' w' ob'->D4 ob ob'->R .normal a' w'):(Code.region i ops false).wp P R a w:=by
 refine wp_region ?_;have:=D4q (Q:=Q) (R:=R) ops.toList as 0 σ a w ob G hc (λi o hi=>by simpa using hi) hs h hk;rw[List.range_eq_range'];simpa using this
theorem E4h {ops:Array Oper}{Q:St->Prop}(hc:S4 P N ops ops.toList=some as)(h:A47 P as Q σ)(hs:Sim N σ a w ob G){ds:List Deferred}
  {R:Exit->Act->World->Prop}(hk: ∀τ a' w' ob' G',Q τ->Sim N τ a' w' ob' G'->Fr G w ob G' w' ob'->D4 ob ob'->R .normal (a'.more ds) w'):(Code.region i ops false).wp P R (a.more ds) w:=by
 refine wp_region (C8n _ a w ?_);have:=D4q (Q:=Q) (R:=λe a w=>R e (a.more ds) w) ops.toList as 0 σ a w ob G hc (λi o hi=>by simpa using hi) hs h hk;rw[List.range_eq_range'];simpa using this
variable {w':World} {ob':Place} {G':Nat->Prop}
theorem Fr.put {l:Nat}{o o0:Obj}(f:Fr G (w.putObj l o) ob G' w' ob')(hl:w.heap[l]? =some o0):Fr G w ob G' (w'.putObj l o0) ob':=by
 have hlt:l<w.heap.size:=(Array.getElem?_eq_some_iff.1 hl).1
 have hsz:w.heap.size<=w'.heap.size:=by have:=f.size;simpa using this
 refine⟨by simpa using hsz,λb hb hc=> ?_,λb hb=> ?_,f.sub,λb hb=> ?_,?_,?_,?_,?_⟩
 ·by_cases e:b=l
  ·subst e;rw[World.putObj_heap_same (by omega),hl]
  ·rw[World.putObj_heap_other e,f.same b (by simpa using hb) hc,World.putObj_heap_other e]
 ·have:=f.blk b hb;simpa using this
 ·have:=f.new b hb;simpa using this
 ·exact f.os
 ·exact f.tape
 ·exact f.output
 ·exact f.drawn
structure G3y (P:Program) (f:FuncId) (R:RfT) (ps:List Nat) (acA acB:ACode):Prop where
 ok: ∃(fn:Func) (i0 i1 i2 i3 i4 j:Nat) (o0 o1 o2 o3 o4:Array Oper) (asg bd:Code),P.funcs[f]? =some fn/\
  fn.body=some (.seq (.region i0 o0 false) (.seq (.region i1 o1 false) (.seq (.seq (.region i2 o2 false) (.block j (.rangeFunc (.tmp R.gx) ps.toArray asg bd))) (.seq (.region i3 o3 false) (.seq (.region i4 o4 false) .ret)))))/\
  (fn.name != "runtime.NumGoroutine")=true/\S4 P fn.ntmps o0 o0.toList=some R.as0/\S4 P fn.ntmps o1 o1.toList=some R.as1/\S4 P fn.ntmps o2 o2.toList=some R.as2/\
  S4 P fn.ntmps o3 o3.toList=some R.as3/\S4 P fn.ntmps o4 o4.toList=some R.as4/\A6a P fn.results.toList=some R.rvs/\(R.rvs.all λp=>p.1.blt fn.ntmps)=true/\fn.ntmps=R.nt/\
  F9 P R.nt asg=some acA.strip/\F9 P R.nt bd=some acB.strip/\A3c asg=true/\A3c bd=true/\plA acA=true/\plA acB=true
def psS:List Nat->List AV->J6
 |p::ps,v::vs=>(p, .cA,v)::psS ps vs
 |_,_=> []
def G0a(P:Program)(h:FuncId)(caps:List AV)(encs:α->List AV)(xs:List α):Prop:=
 ∀(I:C3m P α),I.encs=encs->I.bound=xs.length-> ∀(us:List Value) (W:World) (G Φ:Nat->Prop),A55 G W (λ_=>none) caps us->(∀b,G b->b<W.heap.size)->I.J [] W Φ->(∀b,G b-> ¬Φ b)->
  CallsIn Fence.wide 1 P h (#[.func (.yield I.l) #[] #[]]++us.toArray) W λe W'=>(∃v,e= .returned v)/\ ∃Φ',I.J xs W' Φ'
structure E3t (P:Program) (R:RfT) (ps:List Nat) (acA acB:ACode) (rs:List AV) (α:Type) (τ:St) (h:FuncId) (caps:List AV) (T:J6) (Obj:List α->List (Nat×A7)) (encs:α->List AV) (xs:List α):Prop where
 gx:τ.env R.gx=some (true, .fn (.func h) [] caps)
 pure:A3e caps=true
 call:A3o P h=true
 weak:V9 [] τ T (Obj [])
 nd: ∀pre id o,ofL (Obj pre) id=some o->o.NoDsl/\o.owned=true
 len: ∀x,(encs x).length=ps.length
 it:G0a P h caps encs xs
 body: ∀pre x,pre.length<xs.length->W P R.nt [] acA (λo τ1=>o= .normal/\W P R.nt [] acB (λo τ2=>o= .normal/\V9 ((Obj pre).map (·.1)) τ2 [] (Obj (pre++ [x]))) τ1) (A13 (psS ps (encs x)++T) (Obj pre))
 post:A47 P R.as3 (λτ'=>A47 P R.as4 (λτ''=>(B4w R.nt [] R.rvs rs []).q .ret τ'') τ') (A13 T (Obj xs))
theorem D13: ∀(ps:List Nat) (vs:List Value) (t0:Array Value),((ps.zip vs).foldl (λ(t:Array Value) (p:Nat×Value)=>t.setIfInBounds p.1 p.2) t0).size=t0.size
 | [],_,t0=>by simp
 |p::ps,[],t0=>by simp
 |p::ps,v::vs,t0=>by simp only[List.zip_cons_cons,List.foldl_cons];rw[D13 ps vs];simp
theorem D59: ∀(ps:List Nat) (vs:List Value) (t0:Array Value) (t:Nat),t∉ps->((ps.zip vs).foldl (λ(t:Array Value) (p:Nat×Value)=>t.setIfInBounds p.1 p.2) t0)[t]? =t0[t]?
 | [],_,t0,t,_=>by simp
 |p::ps,[],t0,t,_=>by simp
 |p::ps,v::vs,t0,t,h=>by simp only[List.mem_cons,not_or]at h;simp only[List.zip_cons_cons,List.foldl_cons];rw[D59 ps vs _ t h.2,Array.getElem?_setIfInBounds_ne (λe=>h.1 e.symm)]
theorem F2d {G:Nat->Prop}{w:World}{ob:Place}: ∀(ps:List Nat) (avs:List AV) (vs:List Value) (t0:Array Value) (T:J6),ps.Nodup->(∀p∈ps,p<t0.size)->avs.length=ps.length->A55 G w ob avs vs->
  (∀t av,A17 T t=some (true,av)-> ∃v,t0[t]? =some v/\Rel G w ob av v)->
  ∀t av,A17 (psS ps avs++T) t=some (true,av)-> ∃v,((ps.zip vs).foldl (λ(t:Array Value) (p:Nat×Value)=>t.setIfInBounds p.1 p.2) t0)[t]? =some v/\Rel G w ob av v
 | [],avs,vs,t0,T,_,_,_,_,hT,t,av,h=>by simpa[psS]using hT t av (by simpa[psS]using h)
 |p::ps,[],vs,t0,T,_,_,hl,_,hT,t,av,h=>by simp at hl
 |p::ps,v::avs,vs,t0,T,hn,hb,hl,hr,hT,t,av,h=>by
  obtain⟨h1,h2⟩:=hr;cases vs with
  |nil=>simp at h1
  |cons u us=>
   simp only[psS,List.cons_append,A17]at h;simp only[List.zip_cons_cons,List.foldl_cons];rw[List.nodup_cons]at hn;split at h
   ·rename_i e;subst e;simp only[Option.some.injEq,Prod.mk.injEq,true_and]at h;subst h;refine⟨u,?_,by simpa using h2 0 v rfl⟩;rw[D59 ps us _ t hn.1]
    grind
   ·rename_i e;refine F2d ps avs us (t0.setIfInBounds p u) (T.filter λs=>s.1 != p) hn.2 (λq hq=>by simpa using hb q (List.mem_cons_of_mem _ hq)) (by simpa using hl) ⟨by simpa using h1,λj av hj=>by simpa using h2 (j+1) av (by simpa using hj)⟩ ?_ t av ?_
    ·intro t' av' h';have:t'≠p/\A17 T t'=some (true,av'):=by
      clear hT h;induction T with
      |nil=>simp[A17]at h'
      |cons s T ih=>
       obtain⟨k,md,c⟩:=s;simp only[List.filter_cons]at h';split at h'
       ·rename_i hk;simp only[bne_iff_ne,ne_eq]at hk;simp only[A17]at h'⊢
        grind
       ·rename_i hk;simp only[bne_iff_ne,ne_eq,Decidable.not_not]at hk;have:=ih h';refine⟨this.1,?_⟩;simp only[A17]
        grind
     grind
    ·have app: ∀(A:J6) (T:J6),A17 (A++T) t=some (true,av)->A17 (A++T.filter λs=>s.1 != p) t=some (true,av):=by
      intro A T hh;induction A with
      |nil=>
       simp only[List.nil_append]at hh⊢;induction T with
       |nil=>exact hh
       |cons s T ih=>
        obtain⟨k,md,c⟩:=s;simp only[List.filter_cons];simp only[A17]at hh;split at hh
        ·rename_i e';rw[if_pos (by grind)];simp only[A17];rw[if_pos e'];exact hh
        ·rename_i e';split
         ·simp only[A17];rw[if_neg e'];exact ih hh
         ·exact ih hh
      |cons s A ih=>
       obtain⟨k,md,c⟩:=s;simp only[List.cons_append,A17]at hh⊢
       grind
     exact app _ _ h
end
section
variable {P:Program} {N:Nat} {α:Type}
variable {w:World} {G:Nat->Prop} {ob:Place}
theorem F6e(h:E9 G w ob (ofL O)){id:Nat}{i:L0}(hi:ob id=some i):id∈O.map (·.1):=by
 cases ho:ofL O id with
 |none=>rw[(h.dom id).1 ho]at hi;cases hi
 |some o=>obtain⟨o',ho'⟩:=A89 (by rw[ho];rfl);exact List.mem_map_of_mem (f:=(·.1)) ho'
structure RJ (R:RfT) (T:J6) (Obj:List α->List (Nat×A7)) (a:Act) (w:World) (ob:Place) (G:Nat->Prop) (l D:Nat) (rec:Loop) (pre:List α) (W:World) (Φ:Nat->Prop) (ob':Place):Prop where
 sim:Sim R.nt (A13 T (Obj pre)) a W ob' G
 fr:Fr G w ob G W ob'
 ext:D4 ob ob'
 hl:W.heap[l]? =some (.loop rec)
 hD:W.heap[D]? =some (.deferred (some []))
 ne: ∀b,P5 ob' b->b≠l/\b≠D
 phi:Φ=λb=>b=l\/b=D\/P5 ob' b
def B08(fnId:FuncId)(a:Act)(ps:List Nat)(asg bd:Code)(D:Nat)(s:LoopState):Loop:= {state:=s,pending:=none,fn:=fnId,tmps:=a.tmps,params:=ps.toArray,assign:=asg,body:=bd,defers:=D}
variable {a:Act} {D:Nat} {acA acB:ACode}
theorem G3c {R:RfT}{Obj:List α->List (Nat×A7)}{l:Nat}{ps:List Nat}{asg bd:Code}{fnId:FuncId}{encs:α->List AV}
  (hw: ∀b,G b->b<w.heap.size)(hlw:w.heap.size<=l)(hDw:w.heap.size<=D)(hpn:ps.Nodup)(hpN: ∀p∈ps,p<R.nt)(hlen: ∀x,(encs x).length=ps.length)(hlD:l≠D)
  (hca:F9 P R.nt asg=some acA.strip)(hcb:F9 P R.nt bd=some acB.strip)(hna:A3c asg=true)(hnb:A3c bd=true)(hpa:plA acA=true)(hpb:plA acB=true)(nd: ∀pre id o,ofL (Obj pre) id=some o->o.NoDsl)
  {pre:List α}{x:α}{W:World}{Φ:Nat->Prop}{ob':Place}{vals:List Value}
  (hJ:RJ R T Obj a w ob G l D (B08 fnId a ps asg bd D .ready) pre W Φ ob')
  (hr: ∀G ob,A55 G W ob (encs x) vals)
  (hbody:Go.Abs.W P R.nt [] acA (λo τ1=>o= .normal/\Go.Abs.W P R.nt [] acB (λo τ2=>o= .normal/\V9 ((Obj pre).map (·.1)) τ2 [] (Obj (pre++ [x]))) τ1) (A13 (psS ps (encs x)++T) (Obj pre))):
  ∃tmps,(Instr.yield l vals.toArray).run P W= .ok (.round l fnId tmps asg bd) W/\
   ∀n,RoundIn Fence.wide n P l fnId tmps asg bd W λe W'=>e= .returned (.bool true)/\ ∃Φ',(∃ob'',RJ R T Obj a w ob G l D (B08 fnId a ps asg bd D .ready) (pre++ [x]) W' Φ' ob'')/\
    (∀b,Φ' b->Φ b\/W.heap.size<=b)/\W.heap.size<=W'.heap.size/\ ∀b,b<W.heap.size-> ¬Φ b->W'.heap[b]? =W.heap[b]? :=by
 obtain⟨s,f,xt,hl,hD,hne,rfl⟩:=hJ;have hvl:vals.length=ps.length:=by rw[(hr G ob').1,hlen]
 have hy:=run_yield (P:=P) (args:=vals.toArray) hl (by simp[B08,hvl])
 have hll:l<W.heap.size:=(Array.getElem?_eq_some_iff.1 hl).1
 have hDl:D<W.heap.size:=(Array.getElem?_eq_some_iff.1 hD).1;refine⟨_,hy,λn=>roundIn_of_wpIn trivial ?_⟩;have hfold:((B08 fnId a ps asg bd D .ready).params.zip vals.toArray).foldl (λ(tmps:Array Value) (x:Nat×Value)=>tmps.setIfInBounds x.1 x.2) a.tmps=(ps.zip vals).foldl (λ(t:Array Value) (p:Nat×Value)=>t.setIfInBounds p.1 p.2) a.tmps:=by show(ps.toArray.zip vals.toArray).foldl _ _=_;rw[List.zip_toArray,List.foldl_toArray]
 have s0:Sim R.nt (A13 (psS ps (encs x)++T) (Obj pre)) {tmps:=((B08 fnId a ps asg bd D .ready).params.zip vals.toArray).foldl (λ(tmps:Array Value) (x:Nat×Value)=>tmps.setIfInBounds x.1 x.2) a.tmps,defers:= []} W ob' G:=by rw[hfold];refine⟨by rw[D13];exact s.size,rfl,s.objs,λt av ht=> ?_,λt av ht=>absurd ht B3n⟩;exact F2d ps (encs x) vals a.tmps T hpn (λp hp=>by rw[s.size];exact hpN p hp) (hlen x) (hr G ob') (λt av ht=>s.env t av ht) t av ht
 have hlb: ¬P5 ob' l:=λh=>(hne l h).1 rfl
 have hDb: ¬P5 ob' D:=λh=>(hne D h).2 rfl
 have hGl: ¬G l:=λh=>by have:=hw l h;omega
 have hGD: ¬G D:=λh=>by have:=hw D h;omega
 refine B55 asg acA hna hpa hca s0 hbody ?_;rintro τ1 a1 W1 ob1 G1 ⟨_,hb1⟩ s1 f1 x1;have hl1:W1.heap[l]? =some (.loop (B08 fnId a ps asg bd D .ready)):=(f1.same l hll (.inr hlb)).trans hl
 have hll1:l<W1.heap.size:=(Array.getElem?_eq_some_iff.1 hl1).1
 have nG1: ¬G1 l:=λh=>by
  rcases f1.new l h with h |h |h
  all_goals grind
 have nB1: ¬P5 ob1 l:=λh=>by
  rcases f1.blk l h with h |h
  ·exact hlb h
  ·omega
 refine⟨_,run_beginRound hl1 rfl,?_⟩;have s1':Sim R.nt τ1 a1 (W1.putObj l (.loop {B08 fnId a ps asg bd D .ready with state:= .busy})) ob1 G1:=s1.frame (by simp) λb hb hc=>World.putObj_heap_other λe=>by grind
 refine B55 bd acB hnb hpb hcb s1' hb1 ?_;rintro τ2 a2 W2 ob2 G2 ⟨_,hwk⟩ s2 f2 x2;have hl2:W2.heap[l]? =some (.loop {B08 fnId a ps asg bd D .ready with state:= .busy}):=by rw[f2.same l (by simpa using hll1) (.inr nB1)];exact World.putObj_heap_same hll1
 have hll2:l<W2.heap.size:=(Array.getElem?_eq_some_iff.1 hl2).1
 have f2':=Fr.put f2 hl1
 have nG2: ¬G2 l:=λh=>by
  rcases f2'.new l h with h |h |h
  all_goals grind
 have nB2: ¬P5 ob2 l:=λh=>by
  rcases f2'.blk l h with h |h
  ·exact nB1 h
  ·omega
 have s2':Sim R.nt τ2 a2 (W2.putObj l (.loop (B08 fnId a ps asg bd D .ready))) ob2 G2:=s2.frame (by simp) λb hb hc=>World.putObj_heap_other λe=>by grind
 obtain⟨ρ,A,hwk⟩:=hwk;obtain⟨ob4,G4,g1,g2,g3⟩:=B3z s2' hwk;have F:Fr G W ob' G4 (W2.putObj l (.loop (B08 fnId a ps asg bd D .ready))) ob4:=(f1.trans f2').trans g2
 have hend:=run_endRound (P:=P) none hl2;refine⟨_,_,hend,?_⟩;show _=_/\_;refine⟨rfl,λb=>b=l\/b=D\/P5 ob4 b,⟨ob4,?_,?_,?_,?_,?_,?_,rfl⟩,?_,F.size,?_⟩
 ·refine⟨s.size,s.defers,g1.objs.shrink F.sub (nd _),λt av ht=> ?_,λt av ht=>absurd ht B3n⟩;obtain⟨v,hv,hrel⟩:=s.env t av ht;refine⟨v,hv,hrel.ext (λ_ h=>h) (λb hb=>F.same b (by have:=f.size;have:=hw b hb;omega) (.inl hb)) λid i hi=> ?_⟩;obtain⟨i2,hi2,hh⟩:=(x1.trans x2) id i hi;exact⟨i2,by rw[g3 id (F6e s.objs hi)];exact hi2,hh⟩
 ·have F':=f.trans F
  exact⟨F'.size,F'.same,F'.blk,λ_ h=>h,λ_ h=> .inl h,F'.os,F'.tape,F'.output,F'.drawn⟩
 ·intro id i hi;obtain⟨i1,hi1,h1⟩:=xt id i hi;have h12:D4 ob' ob4:=λid i hi=>by
   obtain⟨i2,hi2,hh⟩:=(x1.trans x2) id i hi;exact⟨i2,by rw[g3 id (F6e s.objs hi)];exact hi2,hh⟩
  exact(xt.trans h12) id i hi
 ·exact World.putObj_heap_same hll2
 ·exact(F.same D hDl (.inr hDb)).trans hD
 ·intro b hb;rcases F.blk b hb with h |h
  all_goals grind
 ·rintro b (h |h |h)
  ·exact .inl (.inl h)
  ·exact .inl (.inr (.inl h))
  ·rcases F.blk b h with h |h
   all_goals grind
 ·intro b hb hn;exact F.same b hb (.inr λh=>hn (.inr (.inr h)))
variable {f:FuncId}
theorem G63 {R:RfT}{ps:List Nat}(hR:G3y P f R ps acA acB){avs rs:List AV}(hl0:avs.length<=R.nt)(hpn:ps.Nodup)(hpN: ∀p∈ps,p<R.nt)
  (hrun:A47 P R.as0 (λτ=>A47 P R.as1 (λτ=>A47 P R.as2 (λτ=> ∃h caps T Obj encs xs,E3t P R ps acA acB rs α τ h caps T Obj encs xs) τ) τ) (A0s avs [])):D5 P f avs [] (A5t rs) []:=by
 obtain⟨fn,i0,i1,i2,i3,i4,j,o0,o1,o2,o3,o4,asg,bd,hf,hb,hname,c0,c1,c2,c3,c4,hts,hlt,hnt,hca,hcb,hna,hnb,hpa,hpb⟩:=hR.ok;refine⟨by unfold A3o;rw[hf];simp only;rw[hb];simp[hname],λG w ob vals hs hr=> ?_⟩;refine callsIn_wide.1 (callsIn_of_wp_marks (F:=Fence.wide) (n:=1) hf hb trivial (wpIn_wide.2 ?_));have hst:Sim fn.ntmps (A0s avs []) {tmps:=vals.toArray++Array.replicate (fn.ntmps-vals.toArray.size) undef,defers:= []} w ob G:=D3q hs hr (by rw[hnt];exact hl0);refine wp_seq (F9m c0 hrun hst λτ0 a0 w0 ob0 G0 q0 k0 f0 x0=> ?_);show(Code.seq _ _).wp P _ a0 w0;refine wp_seq (F9m c1 q0 k0 λτ1 a1 w1 ob1 G1 q1 k1 f1 x1=> ?_);show(Code.seq _ _).wp P _ a1 w1;refine wp_seq (wp_seq (F9m c2 q1 k1 λτ2 a2 w2 ob2 G2 q2 k2 f2 x2=> ?_));show(Code.block _ _).wp P _ a2 w2;obtain⟨hh,caps,T,Obj,encs,xs,LR⟩:=q2;obtain⟨v,hv,hrel⟩:=k2.env R.gx _ LR.gx;cases hrel with
 |fn vs us hvn hum hvr hur=>
 have hvs:vs= #[]:=Array.eq_empty_of_size_eq_zero (by simpa using hvn);subst hvs;have hev:a2.eval (.tmp R.gx)= .func (.func hh) #[] us:=by show a2.tmps.getD R.gx undef=_;rw[Array.getD_eq_getD_getElem?,hv];rfl
 obtain⟨ρ,A,hwk⟩:=LR.weak;obtain⟨ob3,G3,s3,f3,_⟩:=B3z k2 hwk;have F3:Fr G w ob G3 w2 ob3:=((f0.trans f1).trans f2).trans f3;rw[hnt]at s3;refine wp_block (wpIn_wide.1 (wpIn_rangeFunc (F:=Fence.wide) (n:=1) λfnId _=> ?_));let wA:World:=(w2.alloc (.deferred (some []))).alloc (.loop {state:= .ready,pending:=none,fn:=fnId,tmps:=a2.tmps,params:=ps.toArray,assign:=asg,body:=bd,defers:=w2.heap.size})
 have hszA:wA.heap.size=w2.heap.size+2:=by simp[wA]
 have oldA: ∀b,b<w2.heap.size->wA.heap[b]? =w2.heap[b]? :=λb hb=>by show(World.alloc _ _).heap[b]? =_;rw[heap_alloc_old _ _ (by simp;omega),heap_alloc_old _ _ hb]
 have defA:wA.heap[w2.heap.size]? =some (.deferred (some [])):=by show(World.alloc _ _).heap[w2.heap.size]? =_;rw[heap_alloc_old _ _ (by simp),heap_alloc_new]
 have loopA:wA.heap[w2.heap.size+1]? =some (.loop (B08 fnId a2 ps asg bd w2.heap.size .ready)):=by have:=heap_alloc_new (w2.alloc (.deferred (some []))) (.loop {state:= .ready,pending:=none,fn:=fnId,tmps:=a2.tmps,params:=ps.toArray,assign:=asg,body:=bd,defers:=w2.heap.size});rw[World.size_alloc]at this;exact this
 have extA:Ext w2 wA:=⟨by omega,oldA,rfl,rfl,rfl,Nat.le_refl _⟩
 have hG3: ∀b,G3 b->b<w2.heap.size:=s3.objs.lt
 let I:C3m P α:= {
  l:=w2.heap.size+1,encs:=encs,bound:=xs.length
  J:=λpre W Φ=> ∃ob',RJ R T Obj a2 w2 ob3 G3 (w2.heap.size+1) w2.heap.size (B08 fnId a2 ps asg bd w2.heap.size .ready) pre W Φ ob'
  lt:=by
   rintro pre W Φ b ⟨ob',hJ⟩ hb;obtain⟨s,f,xt,hl,hD,hne,rfl⟩:=hJ;rcases hb with rfl |rfl |hb
   ·exact(Array.getElem?_eq_some_iff.1 hl).1
   ·exact(Array.getElem?_eq_some_iff.1 hD).1
   ·exact s.objs.blks_lt hb
  ext:=by rintro pre W W' Φ ⟨ob',hJ⟩ hx;obtain⟨s,f,xt,hl,hD,hne,rfl⟩:=hJ;exact⟨ob',s.frame hx.size λb hb _=>hx.same b hb,f.ext hx,xt,(hx.same _ (Array.getElem?_eq_some_iff.1 hl).1).trans hl,(hx.same _ (Array.getElem?_eq_some_iff.1 hD).1).trans hD,hne,rfl⟩
  rnd:=by rintro pre x W Φ vals ⟨ob',hJ⟩ hlen hrl;obtain⟨tmps,h1,h2⟩:=G3c (P:=P) hG3 (by omega) (Nat.le_refl _) hpn hpN LR.len (by omega) hca hcb hna hnb hpa hpb (λpre id o h=>(LR.nd pre id o h).1) hJ hrl (LR.body pre x hlen);exact⟨_,tmps,_,_,h1,h2⟩}
 have hJ0:I.J [] wA (λb=>b=w2.heap.size+1\/b=w2.heap.size\/P5 ob3 b):=by refine⟨ob3,s3.frame (by omega) λb hb _=>oldA b hb,(Fr.refl G3 w2 ob3).ext extA,D4.refl _,loopA,defA,λb hb=> ?_,rfl⟩;have:=s3.objs.blks_lt hb;exact⟨by omega,by omega⟩
 have hpure: ∀ {Gx:Nat->Prop} {ob':Place},(∀b,G2 b->Gx b)->A55 Gx wA ob' caps us.toList:=λ{Gx ob'} hg=>by
  refine⟨by simp[hum],λj av hj=> ?_⟩;have h1:=hur j av hj
  have h2:Rel G2 w2 ob' av (us.getD j undef):=h1.flat_free (AV.flat_of_pure (B7l LR.pure hj))
  have h3:=h2.ext hg (λb hb=>oldA b (k2.objs.lt b hb)) (D4.refl _);simpa[List.getD]using h3
 have hcall:=LR.it I rfl rfl us.toList wA (λb=>G2 b) (λb=>b=w2.heap.size+1\/b=w2.heap.size\/P5 ob3 b) (hpure λ_ h=>h) (λb hb=>by have:=k2.objs.lt b hb;omega) hJ0 ?_
 case refine_1=>
  rintro b hb (h |h |h)
  ·have:=k2.objs.lt b hb;omega
  ·have:=k2.objs.lt b hb;omega
  ·obtain⟨id,i,hi,hh⟩:=h;cases ho:ofL (Obj []) id with
   |none=>rw[(s3.objs.dom id).1 ho]at hi;cases hi
   |some o=>exact s3.objs.sep id o i b ho (LR.nd _ _ _ ho).2 hi hh (f3.sub b hb)
 have hcall2:=callsIn_wide.1 hcall
 have eus:us.toList.toArray=us:=by simp
 rw[eus]at hcall2;refine⟨w2.heap.size+1,[{target:= .collected w2.heap.size,args:= #[]}],wA,{target:= .fn (.func hh) us,args:= #[.func (.yield (w2.heap.size+1)) #[] #[]]},wA,hh,_,wA,run_enterLoop_outer ..,?_,λ_ _=>trivial,?_,λh=>by simp[Fence.wide]at h,callsIn_wide.2 (hcall2.mono ?_)⟩
 ·simp[resolve,Deferred.ofValue,Act.eval,hv]
 ·simp[invoke,A76 LR.call];rfl
 rintro e w4 ⟨⟨v4,rfl⟩,Φ4,ob4,J4⟩;obtain⟨s4,f4,x4,hl4,hd4,hne4,_⟩:=J4;refine⟨none,_,run_endLoop hl4 (by simp[B08]),?_⟩;show Exit.inBlock _ _ _ _ _;generalize hw5:w4.putObj (w2.heap.size+1) _=w5;have hsz5:w5.heap.size=w4.heap.size:=by rw[<-hw5];simp
 have hwA':w2.heap.size+2<=w4.heap.size:=by grind
 have old5: ∀b,b≠w2.heap.size+1->w5.heap[b]? =w4.heap[b]? :=λb hb=>by rw[<-hw5];exact World.putObj_heap_other hb
 have hsz4:=f4.size
 have F5:Fr G3 w2 ob3 G3 w5 ob4:=by
  refine⟨by omega,λb hb hc=> ?_,f4.blk,λ_ h=>h,λ_ h=> .inl h,?_,?_,?_,?_⟩
  ·rw[old5 b (by omega)];exact f4.same b hb hc
  ·rw[<-hw5];exact f4.os
  ·rw[<-hw5];exact f4.tape
  ·rw[<-hw5];exact f4.output
  ·rw[<-hw5];exact f4.drawn
 have k3:Sim R.nt (A13 T (Obj xs)) a2 w5 ob4 G3:=s4.frame (by omega) λb hb hc=>old5 b λe=>by grind
 have hd5:w5.heap[w2.heap.size]? =some (.deferred (some [])):=(old5 _ (by omega)).trans hd4
 have hdf:({a2 with defers:= [{target:= .collected w2.heap.size,args:= #[]}]++a2.defers}:Act)=a2.more [{target:= .collected w2.heap.size,args:= #[]}]:=by unfold Act.more;rw[k2.defers];rfl
 rw[hdf];rw[hnt]at c3 c4 hlt;show(Code.seq _ _).wp P _ (a2.more _) w5;refine wp_seq (E4h c3 LR.post k3 λτ3 a3 w6 ob6 G6 q3 k4 f6 x6=> ?_);show(Code.seq _ _).wp P _ (a3.more _) w6;refine wp_seq (E4h c4 q3 k4 λτ4 a4 w7 ob7 G7 q4 k5 f7 x7=> ?_);show Code.ret.wp P _ (a4.more _) w7;refine wp_ret ?_;show LeavesInM _ _ P fn a4.tmps _ (a4.defers++ [_]) .returning w7;rw[k5.defers,List.nil_append];have F7:Fr G3 w5 ob4 G7 w7 ob7:=f6.trans f7
 have nB5: ¬P5 ob4 w2.heap.size:=λhb=>(hne4 _ hb).2 rfl
 have hd7:w7.heap[w2.heap.size]? =some (.deferred (some [])):=(F7.same _ (by omega) (.inr nB5)).trans hd5;refine⟨by simp, .inl ⟨_,_,rfl,run_takeDeferred hd7,?_⟩⟩;have notG7: ¬G7 w2.heap.size:=λhG=>by
  rcases F7.new _ hG with h |h |h
  all_goals grind
 have notB7: ¬P5 ob7 w2.heap.size:=λhb=>by
  rcases F7.blk _ hb with h |h
  ·exact nB5 h
  ·omega
 have old8: ∀b,b≠w2.heap.size->(w7.putObj w2.heap.size (.deferred none)).heap[b]? =w7.heap[b]? :=λb hb=>World.putObj_heap_other hb
 have k8:Sim R.nt τ4 a4 (w7.putObj w2.heap.size (.deferred none)) ob7 G7:=k5.frame (by simp) λb hb hc=>old8 b λe=>by grind
 have FT:Fr G w ob G7 w7 ob7:=(F3.trans F5).trans F7
 have F8:Fr G w ob G7 (w7.putObj w2.heap.size (.deferred none)) ob7:=by refine⟨by simp;exact FT.size,λb hb hc=> ?_,FT.blk,FT.sub,FT.new,FT.os,FT.tape,FT.output,FT.drawn⟩;have:=F3.size;rw[old8 b (by omega)];exact FT.same b hb hc
 have hlt': ∀p∈R.rvs,p.1<R.nt:=λp hp=>by have:=List.all_eq_true.1 hlt p hp;simpa[Nat.blt_eq]using this
 obtain⟨σ2,aF,vF,q1,q2,hvF,hvF'⟩:=C0y hts k8 hlt' q4;obtain⟨md,hml,hrl,ρ,A,hw⟩:=q1;obtain⟨obF,GF,z1,z2,z3⟩:=B3z q2 hw;refine⟨vF,hvF,vF,GF,obF,rfl,z1.objs,?_,F8.trans z2,?_⟩
 ·rw[hvF'];exact D8p hrl λj t r ht hr=>z1.env t r (C2g hml hrl List.nodup_range' j t r ht hr)
 ·intro id i hi;have e0:=D4h hs;rw[e0]at hi;cases hi
end
section
variable {P:Program} {N:Nat} {α:Type} {I:C3m P α}
@[reducible] def yC(T':J6):Cont:=⟨λo τ=>match o with | .normal=>V9 [] τ T' [] |_=>False⟩
theorem G6l {T':J6}: @Qi (yC T') .normal σ=V9 [] σ T' []:=rfl
attribute [go_sem] G6l
theorem Yp.plainN(hm:P.follows .mixedOrders=true){ac:ACode}{Q:Out->J6->List α->Prop}{T:J6}{pre:List α}(T':J6)(h: @Wi P N [] ac (yC T') (A13 T []))(hq:Q .normal T' pre):Yp I N ac Q T pre:=by
 refine Yp.plain ((Wp.of_W hm ac h).mono λo τ ho=> ?_);cases o with
 |normal=>exact⟨T',hq,ho⟩
 |exit i=>exact ho.elim
 |ret=>exact ho.elim
variable {ac:ACode} {pre:List α}
theorem Yp.pre_eq {Q:Out->J6->List α->Prop}{pre':List α}(e:pre=pre')(h:Yp I N ac Q T pre'):Yp I N ac Q T pre:=e▸h
theorem Yp.skip(hm:P.follows .mixedOrders=true){Q:Out->J6->List α->Prop}{T:J6}{pre:List α}(h:Q .normal T pre):Yp I N .skip Q T pre:=by
 intro c hc a W hS;cases c <;> simp only[F9,ACode.strip,Option.some.injEq,reduceCtorEq]at hc
 case skip=>exact wp_skip ⟨.normal,T,pre,rfl,h,hS⟩
 case label=>exact wp_label ⟨.normal,T,pre,rfl,h,hS⟩
 all_goals(repeat' split at hc) <;> simp at hc
theorem Yp.exit {id:Nat}{Q:Out->J6->List α->Prop}{T:J6}{pre:List α}(h:Q (.exit id) T pre):Yp I N (.exit id) Q T pre:=by
 intro c hc a W hS;cases c <;> simp only[F9,ACode.strip,Option.some.injEq,reduceCtorEq]at hc
 case exit id'=>simp only[ACode.exit.injEq]at hc;subst hc;exact wp_exit ⟨.exit id',T,pre,rfl,h,hS⟩
 all_goals(repeat' split at hc) <;> simp at hc
@[reducible] def rfC(Q:St->Prop):Cont:=⟨λo τ=>match o with | .normal=>Q τ |_=>False⟩
theorem F42 {Q:St->Prop}: @Qi (rfC Q) .normal σ=Q σ:=rfl
variable {d:Nat} {xs:List AX}
theorem Yp.yieldI {pr po:List dA}{x:AX}{p:List α}{Q:Out->J6->List α->Prop}(v:α)(T':J6)(hp:p.length<I.bound)(hn: ∀av∈I.encs v,av.noDsl=true/\av.flat=true)
  (h1: @Wi P N [] (.region false pr) (rfC λτ=>τ.ev x=some (true, .fn (.yield I.l) [] [])/\τ.es xs=some (I.encs v)/\(∀y∈xs,τ.c y=true)/\τ.objs=ofL []/\
    @Wi P N [] (.region false po) (yC T') (τ.put (some d) true ⟨some (.sc (.bool true)),[]⟩)) (A13 T []))(hq:Q .normal T' (p++ [v])):Yp I N (.region false (pr++⟨some d, .callv x xs,none,[]⟩::po)) Q T p:=by
 refine Yp.yield v hp (λG W ob vals hr G' ob'=>⟨hr.1,λj av hj=> ?_⟩) (show A47 P pr _ _ from h1) λτ hτ=> ?_
 ·have hm':=List.mem_of_getElem? hj
  exact((hr.2 j av hj).noDsl (hn av hm').1).flat_free (hn av hm').2
 ·obtain⟨a1,a2,a3,a5,a6⟩:=hτ;exact⟨a1,a2,a3,a5,_,(show A47 P po _ _ from a6),λτ' h'=>⟨T',hq,h'⟩⟩
theorem G7q(α:Type){L:List (Nat×List Bool)}{f:FuncId}{fn:Func}(N:Nat)(rvs:List (Nat×Option (Option Nat))){i0 i1 i2 i3 i4 j gx:Nat}{o0 o1 o2 o3 o4:Array Oper}(ps:List Nat){asg bd:Code}{a0 a1 a2 a3 a4:List dA}{acA acB:ACode}{avs rs:List AV}
  (hL:okE P L=true)(hf:P.funcs[f]? =some fn)
  (hb:fn.body=some (.seq (.region i0 o0 false) (.seq (.region i1 o1 false) (.seq (.seq (.region i2 o2 false) (.block j (.rangeFunc (.tmp gx) ps.toArray asg bd))) (.seq (.region i3 o3 false) (.seq (.region i4 o4 false) .ret))))))
  (h0:B0u P L N o0 o0.toList=some a0)(h1:B0u P L N o1 o1.toList=some a1)(h2:B0u P L N o2 o2.toList=some a2)(h3:B0u P L N o3 o3.toList=some a3)(h4:B0u P L N o4 o4.toList=some a4)
  (hA:N9 P L N asg=some acA)(hB:N9 P L N bd=some acB)(n1:A3c asg=true)(n2:A3c bd=true)(p1:plA acA=true)(p2:plA acB=true)(hps:ps.Nodup)(hpN: ∀p∈ps,p<N)(hl:avs.length<=N)
  (hrun: @Wi P N [] (.seq (.region false a0) (.seq (.region false a1) (.region false a2))) (rfC λτ=> ∃(h:FuncId) (caps:List AV) (T:J6) (Obj:List α->List (Nat×A7)) (encs:α->List AV) (xs:List α),E3t P ⟨N,a0,a1,a2,gx,a3,a4,rvs⟩ ps acA acB rs α τ h caps T Obj encs xs) (A0s avs []))
  (hN:fn.ntmps=N:=by kernel_rfl)(hts:A6a P fn.results.toList=some rvs:=by kernel_rfl)
  (hname:(fn.name != "runtime.NumGoroutine")=true:=by kernel_rfl)(hlt:(rvs.all λp=>p.1.blt N)=true:=by decide):D5 P f avs [] (A5t rs) []:=by
 subst hN;exact G63 (α:=α) (R:=⟨fn.ntmps,a0,a1,a2,gx,a3,a4,rvs⟩) ⟨⟨fn,i0,i1,i2,i3,i4,j,o0,o1,o2,o3,o4,asg,bd,hf,hb,hname,A8e hL h0,A8e hL h1,A8e hL h2,A8e hL h3,A8e hL h4,hts,hlt,rfl,cs2 hL hA,cs2 hL hB,n1,n2,p1,p2⟩⟩ hl hps hpN hrun
end
end Go.Abs
end
