/- A part of the proof: what a function does, over abstract values and objects, and its ties to the model. -/
import Derived.Test.YtchcbiiammkhgaaGreatLC
import Derived.LoopN
import Derived.Recover
import Derived.RangeFuncRecord
set_option linter.unusedSimpArgs false
set_option linter.unusedVariables false
set_option linter.unnecessarySimpa false
set_option maxRecDepth 100000
set_option maxHeartbeats 2000000
noncomputable section
namespace Go.Abs
section
variable (P:Program) (N:Nat) (K:List Nat)
def Wr(x:ACode)(Q:Out->St->Prop):Nat->St->Prop
 |0,_=>False
 |n+1,σ=>W P N K x (Out.then (Wr x Q n) Q) σ
def Wri(x:ACode)(n:Nat) [Q:Cont](σ:St):Prop:=Wr P N K x Q.q n σ
@[reducible] def E0r(x:ACode)(n:Nat)(Q:Cont):Cont:=⟨Out.then (Wr P N K x Q.q n) Q.q⟩
variable {P N K}
variable {σ:St} {n:Nat} {Q:Cont}
theorem D2l {x:ACode}: @Qi (E0r P N K x n Q) .normal σ= @Wri P N K x n Q σ:=yf rfl rfl
variable {j:Nat}
theorem D7e {x:ACode}: @Qi (E0r P N K x n Q) (.exit j) σ= @Qi Q (.exit j) σ:=yf rfl rfl
theorem D8o {x:ACode}: @Qi (E0r P N K x n Q) .ret σ= @Qi Q .ret σ:=yf rfl rfl
variable {σ':St}
@[congr] theorem F81 {x:ACode}(h:σ=σ'): @Wri P N K x n Q σ= @Wri P N K x n Q σ':=by rw[h]
end
attribute [go_sem] D2l D7e D8o
theorem E6r {n:Int}(h1: -9223372036854775808<=n)(h2:n<9223372036854775808):IntKind.i64.wrap n=n:=by rw[IntKind.wrap_i64];omega
theorem F5k {n:Int}(h1:0<=n)(h2:n<18446744073709551616):IntKind.u64.wrap n=n:=by simp[IntKind.wrap,IntKind.bits,IntKind.signed];omega
section
variable (P:Program) (N:Nat) (K:List Nat)
variable {P N K}
end
section
variable {P:Program} {N:Nat} {K:List Nat} {ev:Int->Value} {D:Int->Prop}
variable (P N K)
variable {P N K}
end
section
variable {P:Program} {N:Nat}
def _root_.Go.Act.more(a:Act)(ds:List Deferred):Act:= {a with defers:=a.defers++ds}
theorem B5h(a:Act)(d:Option Nat)(v:Value)(ds:List Deferred):(a.put d v).more ds=(a.more ds).put d v:=by cases d <;> rfl
variable {a:Act}
theorem E83 {o:Oper}{ds:List Deferred}{K K':Act->World->Prop}{R:Exit->Act->World->Prop}(hK: ∀a w,K a w->K' (a.more ds) w){r:Result Next}
  (h:o.upon P a K (λe a w=>R e (a.more ds) w) r):o.upon P (a.more ds) K' R r:=by
 unfold Oper.upon at h⊢;split at h
 ·have:=hK _ _ h;rw[B5h]at this;exact this
 ·have:=hK _ _ h;rw[B5h]at this;exact this
 ·have:=hK _ _ h;rw[B5h]at this;exact this
 ·refine h.mono ?_;intro e w';cases e with
  |returned v=>intro h;have:=hK _ _ h;rw[B5h]at this;exact this
  |panicked chain=>exact id
  |outgrown=>rintro⟨a',w',h⟩;exact⟨_,w',h⟩
 ·exact h.mono λv w' h=>by have:=hK _ _ h;rw[B5h]at this;exact this
 ·exact h
 ·exact h.elim
variable {w:World}
theorem F4b {ops:Array Oper}{o:Oper}{ds:List Deferred}{K K':Act->World->Prop}{R:Exit->Act->World->Prop}(hK: ∀a w,K a w->K' (a.more ds) w)
  (h:if Region.wanted o (yielded ops a.tmps)then o.wp P a w K (λe a w=>R e (a.more ds) w)\/(o.asks P a w/\LetsOut λe a w=>R e (a.more ds) w)else K (a.put o.dst undef) w):
  if Region.wanted o (yielded ops (a.more ds).tmps)then o.wp P (a.more ds) w K' R\/(o.asks P (a.more ds) w/\LetsOut R)else K' ((a.more ds).put o.dst undef) w:=by
 by_cases hw:Region.wanted o (yielded ops a.tmps)=true
 ·have hw':Region.wanted o (yielded ops (a.more ds).tmps)=true:=hw
  rw[zc hw]at h;rw[zc hw'];rcases h with h |h
  ·exact .inl (E83 hK h)
  ·exact .inr ⟨h.1,by obtain⟨a',w',h⟩:=h.2;exact⟨_,w',h⟩⟩
 ·have hw': ¬Region.wanted o (yielded ops (a.more ds).tmps)=true:=hw
  rw[zb hw]at h;rw[zb hw',<-B5h];exact hK _ _ h
theorem C4y {ops:Array Oper}{ds:List Deferred}{R:Exit->Act->World->Prop}: ∀(l:List Nat) (a:Act) (w:World),wpOps P ops (λe a w=>R e (a.more ds) w) l a w->wpOps P ops R l (a.more ds) w
 | [],a,w,h=>h
 |i::l,a,w,h=>by
  rw[wpOps]at h⊢;cases ho:ops[i]? with
  |none=>rw[ho]at h;exact C4y l a w h
  |some o=>rw[ho]at h;exact F4b (λa w=>C4y l a w) h
variable {G:Nat->Prop} {ob:Place} {m:Nat->Option A7} {w':World}
theorem E8.frame(h:E8 G w ob m)(hs:w.heap.size<=w'.heap.size)(he: ∀b,b<w.heap.size->(G b\/P6 ob b)->w'.heap[b]? =w.heap[b]?):E8 G w' ob m where
 dom:=h.dom
 inj:=h.inj
 lt:=λb hb=>qH (h.lt b hb) hs
 own:=λid o i ho hi=>(h.own id o i ho hi).ext (λ_ h=>h) (λb hb=>he b (h.lt b hb) (.inl hb)) (D4.refl ob) λb hb=>he b ((h.own id o i ho hi).has_lt hb) (.inr ⟨id,i,hi,hb⟩)
 sep:=h.sep
end
def rn(d k:Nat):Nat:=16*(d+1)+k-1
section
variable {P:Program} {m:Nat->Option A7}
def C6j(m:Nat->Option A7):List AV->Option (Prop×List AV×List (Nat×A7))
 | []=>some (True,[],[])
 |a::as=>match A0x m a,C6j m as with
  |some (p,c,w),some (q,cs,w')=>some (p/\q,c::cs,w++w')
  |_,_=>none
theorem C8r {ρ:Nat->Nat}: ∀ {avs cs:List AV} {p:Prop} {wr:List (Nat×A7)},C6j m avs=some (p,cs,wr)->p-> ∃md,S4 m ρ [] md avs cs wr
 | [],cs,p,wr,h,hp=>by simp only[C6j,za,zq]at h;obtain⟨rfl,rfl,rfl⟩:=h;exact⟨[],rfl⟩
 |a::as,cs,p,wr,h,hp=>by
  simp only[C6j]at h;split at h
  ·rename_i p1 c1 w1 q1 cs1 w2 h1 h2;cases h;obtain⟨md,hm⟩:=C8r (ρ:=ρ) h2 hp.2;exact⟨false::md,p1,w1,w2,h1,hp.1,rfl,hm⟩
  ·cases h
variable {f:FuncId} {avs cs:List AV} {O' wr:List (Nat×A7)}
theorem D9c {r:AV}{md:List Bool}{ρ:Nat->Nat}(hc:D5 P f cs [] r O')(ha:S4 m ρ [] md avs cs wr)
  (hnew:C6w m ρ [] O')(hd:(O'.map λp=>ρ p.1).Nodup):O9 P m f avs ⟨some (r.ren ρ),wr++A3v ρ O'⟩:=by
 refine O9.mk md cs [] r O' ρ wr false hc ha (λi o h=>by simp[ofL,wrm]at h) (λi cs h=>by simp[ofL,wrm]at h) (λi h=>by simp[ofL,wrm]at h) (λi hi=> ?_) hd (λh=>by cases h);obtain⟨o,ho⟩:=A9b hi;exact B8z hnew i o ho
variable {p:Prop} {d:Nat} {b:Bool}
theorem J5 {Q:ContR}{r:AV}(hz:C6j m avs=some (p,cs,wr))(hp:p)(hc:D5 P f cs [] r O')
  (hK:C6w m (rn d) [] O'/\(O'.map λp=>rn d p.1).Nodup/\b=true/\ @Ri Q b ⟨some (r.ren (rn d)),wr++A3v (rn d) O'⟩): @B55 P d m f avs b Q:=by
 obtain⟨md,hm⟩:=C8r (ρ:=rn d) hz hp;exact⟨_,λ_=>D9c hc hm hK.1 hK.2.1,λ_=>hK.2.2.1,hK.2.2.2⟩
theorem B8c {Q:ContR}{r:AV}(hz:C6j m avs=some (p,cs,wr))(hp:p)(hc:D5 P f cs [] r [])
  (hn:r.noDsl=true)(hK: @Ri Q b ⟨some r,[]⟩): @B55 P d m f avs b Q:=by
 obtain⟨md,hm⟩:=C8r (ρ:=id) hz hp;exact⟨_,λ_=>B16 hc hm true (λ_=>hn),λh=>absurd rfl h,hK⟩
def C6y:List (Nat×A7)->Prop
 | []=>True
 |(_,o)::r=>o.NoDsl/\C6y r
theorem D3b: ∀ {O:List (Nat×A7)},C6y O-> ∀i o,(i,o)∈O->o.NoDsl
 | [],_,i,o,h=>by cases h
 |(k,o1)::O,h,i,o,hm=>by
  rcases zo.1 hm with e |hm
  ·obtain⟨rfl,rfl⟩:=Prod.mk.inj e;exact h.1
  ·exact D3b h.2 i o hm
theorem C9r {Q:ContR}{r:AV}(hz:C6j m avs=some (p,cs,wr))(hp:p)(hc:D5 P f cs [] r O')
  (hr:r.noDsl=true)(hn:C6y O')(hK:C6w m (rn d) [] O'/\(O'.map λp=>rn d p.1).Nodup/\b=true/\ @Ri Q b ⟨some (r.ren (rn d)),A3v (rn d) O'⟩): @B55 P d m f avs b Q:=by
 obtain⟨md,hm⟩:=C8r (ρ:=rn d) hz hp;refine⟨_,λ_=>O9.mk md cs [] r O' (rn d) wr true hc hm (λi o h=>by simp[ofL,wrm]at h) (λi cs h=>by simp[ofL,wrm]at h) (λi h=>by simp[ofL,wrm]at h) (λi hi=> ?_) hK.2.1 (λ_=>⟨hr,λi o hi=> ?_⟩),λ_=>hK.2.2.1,hK.2.2.2⟩
 ·obtain⟨o,ho⟩:=A9b hi;exact B8z hK.1 i o ho
 ·exact D3b hn i o (A0z (B30 hK.2.1).1 hi)
variable {O:List (Nat×A7)} {cargs:List AV}
theorem B7k {Q:ContR}{r:AV}(md:List Bool)(ρs:List (Nat×Nat))(hc:D5 P f cargs O r O)
  (hnO:(O.map (·.1)).Nodup)(hnd:(O.map λp=>J1 ρs p.1).Nodup)(hid: ∀p∈O,∃av∈avs,J1 ρs p.1∈A76 m av)
  (ha:A5r m (J1 ρs) O md avs cargs [] λwr=>wr= []/\B78 m (J1 ρs) O O/\ @Ri Q b ⟨some (r.ren (J1 ρs)),[]⟩): @A25 P m f avs b Q:=by
 obtain⟨cs,wr,h1,h2,h3,h4,h5⟩:=B92 ha;rw[List.nil_append]at h3;subst h3;have hO: ∀i o,ofL O i=some o->m (J1 ρs i)=some (o.ren (J1 ρs)):=λi o hi=>(A9a h4 i o (A0z hnO hi)).1;refine⟨_,λ_=>O9.drop _ _ (O9.mk md cs O r O (J1 ρs) [] false (hc.args_le h2) h1 hO
  (λi cs hi=>(A9a h4 i _ (A0z hnO hi)).2 cs rfl) (λi hi=>hi) (λi hi=> .inl hi) hnd (λh=>by cases h)) (λp hp=> ?_) (λp hp=> ?_),λh=>absurd rfl h,h5⟩
 ·simp only[zf,zJ,List.nil_append,A3v,qL]at hp;obtain⟨q,hq,rfl⟩:=hp;exact(A9a h4 q.1 q.2 hq).1
 ·simp only[zf,zJ,List.nil_append,A3v,qL]at hp;obtain⟨q,hq,rfl⟩:=hp;exact hid q hq
theorem D57 {Q:ContR}{r:AV}(md:List Bool)(ρs:List (Nat×Nat))(hc:D5 P f cargs O r O)
  (hnO:(O.map (·.1)).Nodup)(hnd:(O.map λp=>J1 ρs p.1).Nodup)(hid: ∀p∈O,∃av∈avs,J1 ρs p.1∈av.ids)
  (ha:A5r m (J1 ρs) O md avs cargs [] λwr=>wr= []/\B78 m (J1 ρs) O O/\ @Ri Q b ⟨some (r.ren (J1 ρs)),[]⟩): @A25 P m f avs b Q:=
 B7k md ρs hc hnO hnd (λp hp=>let⟨av,h,h2⟩:=hid p hp;⟨av,h,C3l h2⟩) ha
mutual
def F1h:AV->AV->List (Nat×Nat)
 | .sl id _ _ _, .sl k _ _ _=>if id=k then []else [(k,id)]
 | .agg as, .agg bs=>D5q as bs
 |_,_=> []
def D5q:List AV->List AV->List (Nat×Nat)
 |a::as,b::bs=>F1h a b++D5q as bs
 |_,_=> []
end
def ad1:AV->AV->List Nat
 | .sc _, .sl k _ _ _=> [k]
 |_,_=> []
def adL:List AV->List AV->List Nat
 |a::as,b::bs=>ad1 a b++adL as bs
 |_,_=> []
def md1:AV->AV->C0u
 | .sc _, .sl .. => .fA
 | .sc _, .dsl .. => .eP
 | .sl .., .dsl .. => .eP
 | .dsl .., .dsl .. => .eP
 | .dslx .., .dsl .. => .eP
 | .agg _, .agg _=> .eP
 |_,_=> .cA
def mdL:List AV->List AV->List C0u
 |a::as,b::bs=>md1 a b::mdL as bs
 |_,_=> []
variable {σ:St} {rs:List AV} {K ts A:List Nat}
theorem C64 {vs:List AV}{md:List C0u}{ρs:List (Nat×Nat)}(_hv:σ.es (ts.map AX.t)=some vs)(_e1:mdL vs rs=md)(_e2:D5q vs rs=ρs)(_e3:adL vs rs=A)
  (hm:md.length=ts.length)(hr:rs.length=ts.length)
  (h1:(O.map (·.1)).Nodup)(h2:(((O.map (·.1)).filter λi=> !A.contains i).map (J1 ρs)).Nodup)
  (h3: ∀k∈K,k∉A/\J1 ρs k=k/\(ofL O k).isSome)(h4:A21 σ (J1 ρs) A O (B9m ts md rs) [] λwr=>B31 (wrm σ.objs wr) (J1 ρs) A O O):A8f K σ ts rs O:=
 E38 md ρs A hm hr h1 h2 h3 h4
end
attribute [go_sem] C6j rn
variable {σ:St} {O:List (Nat×A7)} {rs:List AV} {K ts:List Nat}
theorem gr_(h:A8f K σ ts rs O):A8f K σ ts rs O:=h
variable {d:Nat} {f:FuncId} {b:Bool} {avs:List AV}
theorem gD_ {P:Program}{m:Nat->Option A7}{Q:ContR}(h: @B55 P d m f avs b Q): @B55 P d m f avs b Q:=h
theorem ev_ {α:Sort _}{a b:α}(h:a=b:=by first |(simp only[go_sem,D5q,F1h,adL,ad1,mdL,md1,↓reduceIte,Nat.reduceEqDiff,Nat.reduceAdd,Nat.reduceMul,Nat.reduceSub];done) |(simp only[go_sem,D5q,F1h,adL,ad1,mdL,md1,↓reduceIte,Nat.reduceEqDiff,Nat.reduceAdd,Nat.reduceMul,Nat.reduceSub];first |rfl |exact⟨rfl,rfl,rfl⟩ |exact⟨rfl,rfl⟩) |rfl):a=b:=h
theorem nd_(h:C6y O:=by first |exact⟨λ_ _=>rfl,trivial⟩ |exact⟨λ_ _=>rfl,λ_ _=>rfl,trivial⟩):C6y O:=h
variable {p:Prop}
theorem ns_(h:p:=by simp[go_sem]):p:=h
variable {T:Slots} {A:List Nat}
theorem D4g {vs:List AV}{ρs:List (Nat×Nat)}(_hv:σ.es (T.map λp=>AX.t p.1)=some vs)(_e2:D5q vs (T.map λp=>p.2.2)=ρs)(_e3:adL vs (T.map λp=>p.2.2)=A)
  (h1:(O.map (·.1)).Nodup)(h2:(((O.map (·.1)).filter λi=> !A.contains i).map (J1 ρs)).Nodup)(h3: ∀k∈K,k∉A/\J1 ρs k=k/\(ofL O k).isSome)
  (h4:A21 σ (J1 ρs) A O T [] λwr=>B31 (wrm σ.objs wr) (J1 ρs) A O O):V5 K σ T O:=B9l ρs A h1 h2 h3 h4
theorem U2 {S:Type}{f:Nat->S->S}(len:S->Nat)(h: ∀i s,len (f i s)=len s): ∀n s,len (itr f n s)=len s
 |0,_=>rfl
 |n+1,s=>by rw[H7,h,U2 len h n s]
theorem F1u(s:Sq)(k:Nat)(c:List AV):(s.set k c).g k=c:=by simp[Sq.set]
theorem E6m(s:Sq)(k:Nat)(c c':List AV):(s.set k c).set k c'=s.set k c':=by simp only[Sq.set,Sq.mk.injEq,qo];funext i;split <;> rfl
variable {α:Type} {z:Nat} {l:List α} {g:Nat->List AV}
theorem B8r {enc:α->List AV}{d:α}(hg: ∀i,g i=enc (l.getD (1+i) d)):AV.dsl z ((l.length:Int)-1).toNat g= .dsl z l.tail.length (I9 enc d l.tail):=by
 have h1:((l.length:Int)-1).toNat=l.tail.length:=by rw[qY];omega
 have h2:g=I9 enc d l.tail:=by
  funext i;rw[hg];unfold I9;cases l with
  |nil=>rfl
  |cons a l=>rw[xf];rfl
 rw[h1,h2]
variable {n:Nat}
theorem B7x {enc:α->List AV}{d:α}{cells:List AV}{ρ:Nat->Nat}(hz: ∀a∈l,(enc a).length=z)(hc:cells=l.flatMap enc)(hn:n=l.length):
  A31 ρ (.arr z ⟨n,λi=>(cells.drop (i*z)).take z⟩) (.arr z (B0 enc d l)):=by
 have h:=D84 (d:=d) hz hc hn;unfold A4 at h;rw[U6]at h;exact h
variable {l':List α}
theorem E24 {enc:α->List AV}{d:α}{cells:List AV}(hz: ∀a∈l,(enc a).length=z)(hc:cells=l.flatMap enc)(hn:n=l.length)(i:Nat)(hi:i<n+l'.length):
  ((⟨n,λi=>(cells.drop (i*z)).take z⟩:Sq).app (B0 enc d l')).g i=I9 enc d (l++l') i:=by
 subst hn;show(if i<l.length then(cells.drop (i*z)).take z else(B0 enc d l').g (i-l.length))=enc ((l++l').getD i d);split
 ·rename_i h;rw[hc,B7v (d:=d) hz h];congr 1;simp[List.getD,qZ,h]
 ·rename_i h;show enc (l'.getD (i-l.length) d)=_;congr 1;simp[List.getD,qZ,h]
variable {N:Nat}
theorem C0x {N':Nat}{enc:α->List AV}{d:α}{L:List α}{cells:List AV}(hz: ∀a∈l,(enc a).length=z)(hc:cells=l.flatMap enc)(hn:n=l.length)(hL:L=l++l')(hN:N=n+l'.length)(hN':N'=L.length):
  M9 (.dsl z N ((⟨n,λi=>(cells.drop (i*z)).take z⟩:Sq).app (B0 enc d l')).g) (.dsl z N' (I9 enc d L)):=by
 subst hN;subst hN';subst hL;rw[U6];refine⟨rfl,by rw[hn,zd],λi hi=> ?_⟩;rw[E24 hz hc hn i hi];exact I5 _
theorem D1u {enc:α->List AV}{d:α}{L:List α}{cells:List AV}{ρ:Nat->Nat}(hz: ∀a∈l,(enc a).length=z)(hc:cells=l.flatMap enc)(hn:n=l.length)(hL:L=l++l'):
  A31 ρ (.arr z ((⟨n,λi=>(cells.drop (i*z)).take z⟩:Sq).app (B0 enc d l'))) (.arr z (B0 enc d L)):=by
 subst hL;refine⟨rfl,?_,λi hi=> ?_⟩
 ·show n+l'.length=(l++l').length;rw[hn,zd]
 ·rw[E24 hz hc hn i hi];exact I5 _
theorem E3x {enc:α->List AV}{d:α}{cells:List AV}(hz: ∀a∈l',(enc a).length=z)(hc:cells=l'.flatMap enc)(hn:n=l'.length)(i:Nat)(hi:i<l.length+n):
  ((B0 enc d l).app (⟨n,λi=>(cells.drop (i*z)).take z⟩:Sq)).g i=I9 enc d (l++l') i:=by
 subst hn;show(if i<l.length then enc (l.getD i d)else(cells.drop ((i-l.length)*z)).take z)=enc ((l++l').getD i d);split
 ·rename_i h;congr 1;simp[List.getD,qZ,h]
 ·rename_i h;rw[hc,B7v (d:=d) hz o_];congr 1;simp[List.getD,qZ,h]
theorem C0w {N':Nat}{enc:α->List AV}{d:α}{L:List α}{cells:List AV}(hz: ∀a∈l',(enc a).length=z)(hc:cells=l'.flatMap enc)(hn:n=l'.length)(hL:L=l++l')(hN:N=l.length+n)(hN':N'=L.length):
  M9 (.dsl z N ((B0 enc d l).app (⟨n,λi=>(cells.drop (i*z)).take z⟩:Sq)).g) (.dsl z N' (I9 enc d L)):=by
 subst hN;subst hN';subst hL;rw[U6];refine⟨rfl,by rw[hn,zd],λi hi=> ?_⟩;rw[E3x hz hc hn i hi];exact I5 _
theorem D1t {enc:α->List AV}{d:α}{L:List α}{cells:List AV}{ρ:Nat->Nat}(hz: ∀a∈l',(enc a).length=z)(hc:cells=l'.flatMap enc)(hn:n=l'.length)(hL:L=l++l'):
  A31 ρ (.arr z ((B0 enc d l).app (⟨n,λi=>(cells.drop (i*z)).take z⟩:Sq))) (.arr z (B0 enc d L)):=by
 subst hL;refine⟨rfl,?_,λi hi=> ?_⟩
 ·show l.length+n=(l++l').length;rw[hn,zd]
 ·rw[E3x hz hc hn i hi];exact I5 _
theorem D3l {enc:α->List AV}{d:α}{ρ:Nat->Nat}:A31 ρ (.arr z ⟨0,g⟩) (.arr z (B0 enc d [])):=⟨rfl,rfl,λi hi=>absurd hi (Nat.not_lt_zero i)⟩
theorem U3(l:List α)(i:Nat)(x d:α)(hi:i<l.length):(l.set i x).getD i d=x:=by rw[C3k l i i x d hi,zc rfl]
attribute [go_sem] F1u E6m List.length_set List.set_set
open Api
structure cG where
 dO:cI
 dA:Int
 fK:Int
 eR:Int
 deriving DecidableEq,Inhabited
def cG.enc(x:cG):List AV:=[.sc (.int .i64 x.dO.X), .sc (.int .i64 x.dO.Y), .sc (.int .i64 x.dA), .sc (.int .i64 x.fK), .sc (.int .i64 x.eR)]
def cG.zero:List AV:= [.sc (.int .i64 0), .sc (.int .i64 0), .sc (.int .i64 0), .sc (.int .i64 0), .sc (.int .i64 0)]
attribute [go_sem] cG.enc cG.zero
@[go_sem] theorem F3l(x:cG):cG.mk x.dO x.dA x.fK x.eR=x:=rfl
structure Row where
 A:Int
 B:Int
 dG:cI
 fP:Int
 fO:Int
 eI:Int
 fZ:Int
 dQ:Int
 dS:Int
 dB:Int
 fN:Int
 eQ:Int
 eK:Int
 deriving DecidableEq,Inhabited
def Row.enc(x:Row):List AV:=[.sc (.int .i64 x.A), .sc (.int .i64 x.B), .sc (.int .i64 x.dG.X), .sc (.int .i64 x.dG.Y), .sc (.int .i64 x.fP), .sc (.int .i64 x.fO), .sc (.int .i64 x.eI), .sc (.int .i64 x.fZ), .sc (.int .i64 x.dQ), .sc (.int .i64 x.dS), .sc (.int .i64 x.dB), .sc (.int .i64 x.fN), .sc (.int .i64 x.eQ), .sc (.int .i64 x.eK)]
def Row.zero:List AV:= [.sc (.int .i64 0), .sc (.int .i64 0), .sc (.int .i64 0), .sc (.int .i64 0), .sc (.int .i64 0), .sc (.int .i64 0), .sc (.int .i64 0), .sc (.int .i64 0), .sc (.int .i64 0), .sc (.int .i64 0), .sc (.int .i64 0), .sc (.int .i64 0), .sc (.int .i64 0), .sc (.int .i64 0)]
attribute [go_sem] Row.enc Row.zero
@[go_sem] theorem G0c(x:Row):Row.mk x.A x.B x.dG x.fP x.fO x.eI x.fZ x.dQ x.dS x.dB x.fN x.eQ x.eK=x:=rfl
theorem A3d(l:List cI)(i:Nat)(a_0:Int)(a_1:Int)(hi:i<l.length):(B0 cI.enc default l).set i [.sc (.int .i64 a_0), .sc (.int .i64 a_1)]=B0 cI.enc default (l.set i ⟨a_0,a_1⟩):=A67 _ hi rfl
theorem A1y(l:List cE)(i:Nat)(a_0:Int)(a_1:Int)(a_2_0_0:Int)(a_2_0_1:Int)(a_2_1:Int)(a_3_0:Int)(a_3_1:Int)(a_4:Int)(a_5_0:Int)(a_5_1:Int)(a_6:Int)(a_7:Int)(a_8:Int)(a_9:Int)(a_10:Bool)(a_11:Bool)(a_12:Bool)(a_13:Bool)(a_14:Int)(a_15:List cY)(hi:i<l.length):(B0 cE.enc default l).set i [.sc (.int .i64 a_0), .sc (.int .i64 a_1), .sc (.int .i64 a_2_0_0), .sc (.int .i64 a_2_0_1), .sc (.int .i64 a_2_1), .sc (.int .i64 a_3_0), .sc (.int .i64 a_3_1), .sc (.int .i64 a_4), .sc (.int .i64 a_5_0), .sc (.int .i64 a_5_1), .sc (.int .i64 a_6), .sc (.int .i64 a_7), .sc (.int .i64 a_8), .sc (.int .i64 a_9), .sc (.bool a_10), .sc (.bool a_11), .sc (.bool a_12), .sc (.bool a_13), .sc (.int .i64 a_14),A4 10 cY.enc default a_15]=B0 cE.enc default (l.set i ⟨a_0,a_1,⟨⟨a_2_0_0,a_2_0_1⟩,a_2_1⟩,⟨a_3_0,a_3_1⟩,a_4,⟨a_5_0,a_5_1⟩,a_6,a_7,a_8,a_9,a_10,a_11,a_12,a_13,a_14,a_15⟩):=A67 _ hi rfl
theorem A1p(l:List cF)(i:Nat)(a_0:Int)(a_1:Int)(a_2:Int)(a_3:Int)(a_4_0:Int)(a_4_1:Int)(a_5_0:Int)(a_5_1:Int)(a_6_0:Int)(a_6_1:Int)(a_7:Int)(a_8:Bool)(a_9:Int)(a_10:Int)(a_11:Bool)(a_12:Int)(a_13:Int)(a_14:Int)(a_15:Int)(a_16:Bool)(a_17_0:Int)(a_17_1:Int)(a_17_2:Int)(a_17_3:Int)(hi:i<l.length):(B0 cF.enc default l).set i [.sc (.int .i64 a_0), .sc (.int .i64 a_1), .sc (.int .i64 a_2), .sc (.int .i64 a_3), .sc (.int .i64 a_4_0), .sc (.int .i64 a_4_1), .sc (.int .i64 a_5_0), .sc (.int .i64 a_5_1), .sc (.int .i64 a_6_0), .sc (.int .i64 a_6_1), .sc (.int .i64 a_7), .sc (.bool a_8), .sc (.int .i64 a_9), .sc (.int .i64 a_10), .sc (.bool a_11), .sc (.int .i64 a_12), .sc (.int .i64 a_13), .sc (.int .i64 a_14), .sc (.int .i64 a_15), .sc (.bool a_16), .sc (.int .i64 a_17_0), .sc (.int .i64 a_17_1), .sc (.int .i64 a_17_2), .sc (.int .i64 a_17_3)]=B0 cF.enc default (l.set i ⟨a_0,a_1,a_2,a_3,⟨a_4_0,a_4_1⟩,⟨a_5_0,a_5_1⟩,⟨a_6_0,a_6_1⟩,a_7,a_8,a_9,a_10,a_11,a_12,a_13,a_14,a_15,a_16,⟨a_17_0,a_17_1,a_17_2,a_17_3⟩⟩):=A67 _ hi rfl
theorem X8(l:List cX)(i:Nat)(a_0_0:Int)(a_0_1:Int)(a_0_2:Int)(a_0_3:Int)(a_1_0_0:Int)(a_1_0_1:Int)(a_1_1:List cN)(hi:i<l.length):(B0 cX.enc default l).set i [.sc (.int .i64 a_0_0), .sc (.int .i64 a_0_1), .sc (.int .i64 a_0_2), .sc (.int .i64 a_0_3), .sc (.int .i64 a_1_0_0), .sc (.int .i64 a_1_0_1),A4 6 cN.enc default a_1_1]=B0 cX.enc default (l.set i ⟨⟨a_0_0,a_0_1,a_0_2,a_0_3⟩,⟨⟨a_1_0_0,a_1_0_1⟩,a_1_1⟩⟩):=A67 _ hi rfl
theorem N4(l:List cN)(i:Nat)(a_0_0:Int)(a_0_1:Int)(a_1:Int)(a_2:Int)(a_3:Int)(a_4:Int)(hi:i<l.length):(B0 cN.enc default l).set i [.sc (.int .i64 a_0_0), .sc (.int .i64 a_0_1), .sc (.int .i64 a_1), .sc (.int .i64 a_2), .sc (.int .i64 a_3), .sc (.int .i64 a_4)]=B0 cN.enc default (l.set i ⟨⟨a_0_0,a_0_1⟩,a_1,a_2,a_3,a_4⟩):=A67 _ hi rfl
theorem A3c(l:List Row)(i:Nat)(a_0:Int)(a_1:Int)(a_2_0:Int)(a_2_1:Int)(a_3:Int)(a_4:Int)(a_5:Int)(a_6:Int)(a_7:Int)(a_8:Int)(a_9:Int)(a_10:Int)(a_11:Int)(a_12:Int)(hi:i<l.length):(B0 Row.enc default l).set i [.sc (.int .i64 a_0), .sc (.int .i64 a_1), .sc (.int .i64 a_2_0), .sc (.int .i64 a_2_1), .sc (.int .i64 a_3), .sc (.int .i64 a_4), .sc (.int .i64 a_5), .sc (.int .i64 a_6), .sc (.int .i64 a_7), .sc (.int .i64 a_8), .sc (.int .i64 a_9), .sc (.int .i64 a_10), .sc (.int .i64 a_11), .sc (.int .i64 a_12)]=B0 Row.enc default (l.set i ⟨a_0,a_1,⟨a_2_0,a_2_1⟩,a_3,a_4,a_5,a_6,a_7,a_8,a_9,a_10,a_11,a_12⟩):=A67 _ hi rfl
theorem Q6(l:List cG)(i:Nat)(a_0_0:Int)(a_0_1:Int)(a_1:Int)(a_2:Int)(a_3:Int)(hi:i<l.length):(B0 cG.enc default l).set i [.sc (.int .i64 a_0_0), .sc (.int .i64 a_0_1), .sc (.int .i64 a_1), .sc (.int .i64 a_2), .sc (.int .i64 a_3)]=B0 cG.enc default (l.set i ⟨⟨a_0_0,a_0_1⟩,a_1,a_2,a_3⟩):=A67 _ hi rfl
theorem A3b(l:List Int)(i:Nat)(a:Int)(hi:i<l.length):(B0 C8 0 l).set i [.sc (.int .i64 a)]=B0 C8 0 (l.set i a):=A67 _ hi rfl
theorem K1(h:p:=by first
 |exact ob_
 |exact And.left (by assumption)
 |((with_reducible and_intros) <;> first |omega |assumption |(apply_assumption;exact B6 _ o_) |with_reducible rfl |(simp only[zd];done) |(simp only[zd,maxLen];omega) |(simp only[qc,qB,ne_eq,zy,zi,zk,qy,zQ,zC,qs,qg,qe]at*;first |omega |(simp only[IntKind.wrap_i64];omega) |exact qT _ (by first |omega |(rw[IntKind.wrap_i64];omega)) |exact qE _ o_) |(rw[IntKind.wrap_i64];omega) |exact ob_ |rfl |(simp_all only[qc,qB,ne_eq,zy,zi,zk,qy,zQ,zC,qs,qg,qe,qK,xo,forall_const,xg,qV,qo,yD,zU,yy,yJ,yE,yl,yg,qJ];omega))):p:=h
variable {n':Nat}
theorem D83 {enc:α->List AV}{d:α}(h:l'=l)(hn:n=l.length)(hn':n'=l'.length):M9 (.dsl z n (I9 enc d l)) (.dsl z n' (I9 enc d l')):=by subst h;subst hn;subst hn';exact D0 _
theorem lE_(h:p:=by first
 |with_reducible rfl
 |(simp only[*,zL,zJ,qj,zf,zG,zN,zK,reduceCtorEq,G9,L2,P9,Q0,zO,zH,zX,zI,z8,zV,zZ,zS,zR,zD,z6,zP,H7,A2p,A3r,A6i,qc,qB,ne_eq,zy,zi,zk,qy,zQ,zC,qs,qg,qe,zx,yD,zU,yy,yJ,yE,yl,yg,qJ];first |done |rfl)):p:=h
theorem lN_(h:p:=by first |with_reducible rfl |omega |(simp only[zd,List.length_cons,List.length_nil];first |done |omega)):p:=h
theorem F61(h:p:=by first
 |exact D83 lE_ lN_ rfl
 |exact A32 (by simp only[*,zL,zJ,qj,zf,zG,zN,zK,reduceCtorEq,G9,L2,P9,Q0,zO,zH,zX,zI,z8,zV,zZ,zS,zR,zD,z6,zP,H7,A2p,A3r,A6i,qc,qB,ne_eq,zy,zi,zk,qy,zQ,zC,qs,qg,qe,yD,zU,yy,yJ,yE,yl,yg,qJ];first |done |rfl)
 |(simp only[*,zL,zJ,qj,zf,zG,zN,zK,reduceCtorEq,G9,L2,P9,Q0,zO,zH,zX,zI,z8,zV,zZ,zS,zR,zD,z6,zP,H7,A2p,A3r,A6i,qc,qB,ne_eq,zy,zi,zk,qy,zQ,zC,qs,qg,qe,yD,zU,yy,yJ,yE,yl,yg,qJ];first |done |rfl |omega |(simp only[zM];first |done |omega) |(simp;first |done |omega))):p:=h
theorem F90(h:p:=by first
 |with_reducible rfl
 |trivial
 |omega
 |exact D83 lE_ lN_ rfl |exact C0x (λ_ _=>rfl) rfl rfl lE_ lN_ rfl |exact D1u (λ_ _=>rfl) rfl rfl lE_ |exact C0w (λ_ _=>rfl) rfl rfl lE_ lN_ rfl |exact D1t (λ_ _=>rfl) rfl rfl lE_ |exact A32 rfl |exact A0q _ rfl rfl |exact A22 _ (by first |omega |(simp only[zM];omega)) rfl rfl |exact B7x (λ_ _=>rfl) rfl rfl |exact D3l |exact B8r (λ_=>rfl)
 |(simp only[*,zL,zJ,qj,zf,zG,zN,zK,reduceCtorEq,G9,L2,P9,Q0,zO,zH,zX,zI,z8,zV,zZ,zS,zR,zD,z6,zP,H7,A2p,A3r,A6i,qc,qB,ne_eq,zy,zi,zk,qy,zQ,zC,qs,qg,qe,yD,zU,yy,yJ,yE,yl,yg,qJ];first |omega |(simp only[zM];first |done |omega) |(simp;first |done |omega))
 |exact A32 (by simp only[*,zL,zJ,qj,zf,zG,zN,zK,reduceCtorEq,G9,L2,P9,Q0,zO,zH,zX,zI,z8,zV,zZ,zS,zR,zD,z6,zP,H7,A2p,A3r,A6i,qc,qB,ne_eq,zy,zi,zk,qy,zQ,zC,qs,qg,qe,yD,zU,yy,yJ,yE,yl,yg,qJ];first |done |rfl)
 |(simp only[*,zL,zJ,qj,zf,zG,zN,zK,reduceCtorEq,G9,L2,P9,Q0,zO,zH,zX,zI,z8,zV,zZ,zS,zR,zD,z6,zP,H7,A2p,A3r,A6i,qc,qB,ne_eq,zy,zi,zk,qy,zQ,zC,qs,qg,qe,yD,zU,yy,yJ,yE,yl,yg,qJ];first |done |exact H1 (λ_ _=>rfl) rfl rfl rfl |exact C0x (λ_ _=>rfl) rfl rfl rfl lN_ rfl |exact D1u (λ_ _=>rfl) rfl rfl rfl |exact C0w (λ_ _=>rfl) rfl rfl rfl lN_ rfl |exact D1t (λ_ _=>rfl) rfl rfl rfl |exact B7x (λ_ _=>rfl) rfl rfl |exact A0q _ rfl rfl |exact A22 _ (by first |omega |(simp only[zM];omega)) rfl rfl)
 |(simp only[*,reduceCtorEq,G9,L2,P9,Q0,zI,zV,zS,z6,zP,H7,A2p,A3r,A6i,go_sem,qc,qB,zy,zi,qy,zC,qs,qg,qe,yD,yy,yE];first |done |with_reducible rfl |((with_reducible and_intros) <;> first |with_reducible rfl |trivial |omega |(rw[IntKind.wrap_i64];omega) |exact D0 _ |exact G5 rfl |exact A32 rfl |exact A0q _ rfl rfl |exact A22 _ (by first |omega |(simp only[zM];omega)) rfl rfl |exact B7x (λ_ _=>rfl) rfl rfl |exact D3l |exact B8r (λ_=>rfl) |(simp only[qY];omega) |(simp only[qY,qn]at*;rw[IntKind.wrap_i64];omega) |exact A8n))
 |(have hE:=D94 (by assumption) (by assumption) (by simp only[*,zL,zJ,qj,zf,zG,zN,zK,reduceCtorEq,G9,L2,P9,Q0,zO,zH,zX,zI,z8,zV,zZ,zS,zR,zD,z6,zP,qc,qB,ne_eq,zy,zi,zk,qy,zQ,zC,qs,qg,qe,yD,zU,yy,yJ,yE,yl,yg,qJ];first |done |rfl);simp only[hE, *,reduceCtorEq,G9,L2,P9,Q0,zI,zV,zS,z6,zP,H7,A2p,A3r,A6i,go_sem,qc,qB,zy,zi,qy,zC,qs,qg,qe,yD,yy,yE];first |done |with_reducible rfl |((with_reducible and_intros) <;> first |with_reducible rfl |trivial |omega |(rw[IntKind.wrap_i64];omega) |exact D0 _ |exact G5 rfl |exact A32 rfl |exact A0q _ rfl rfl |exact A22 _ (by first |omega |(simp only[zM];omega)) rfl rfl |exact B7x (λ_ _=>rfl) rfl rfl |exact D3l |exact B8r (λ_=>rfl) |(simp only[qY];omega) |(simp only[qY,qn]at*;rw[IntKind.wrap_i64];omega) |exact A8n))
 |exact A8n
 |(simp_all only[qc,qB,ne_eq,zy,zi,zk,qy,zQ,zC,qs,qg,qe,qK,xo,forall_const,xg,qV,qo,zL,zJ,qj,zN,zK,reduceCtorEq,H7,G9,L2,A2p,A3r,A6i,P9,Q0,yD,zU,yy,yJ,yE,yl,yg,qJ];first |done |with_reducible rfl |omega |exact D0 _ |((with_reducible and_intros) <;> first |with_reducible rfl |exact D0 _ |exact G5 rfl) |exact H1 (λ_ _=>rfl) rfl rfl rfl |exact C0x (λ_ _=>rfl) rfl rfl rfl lN_ rfl |exact D1u (λ_ _=>rfl) rfl rfl rfl |exact C0w (λ_ _=>rfl) rfl rfl rfl lN_ rfl |exact D1t (λ_ _=>rfl) rfl rfl rfl |exact B7x (λ_ _=>rfl) rfl rfl |exact A0q _ rfl rfl |exact A22 _ (by first |omega |(simp only[zM];omega)) rfl rfl |rfl)):p:=h
theorem A9t {k:IntKind}{a b c d v i:Int}(h:0<=i/\i<4):T3 [AV.sc (.int k a), .sc (.int k b), .sc (.int k c), .sc (.int k d)] (0+i.toNat*1) [.sc (.int k v)]=
  [.sc (.int k (if i=0 then v else a)), .sc (.int k (if i=1 then v else b)), .sc (.int k (if i=2 then v else c)), .sc (.int k (if i=3 then v else d))]:=by
 have:i=0\/i=1\/i=2\/i=3:=o_
 rcases this with rfl |rfl |rfl |rfl <;> simp[T3]
theorem K2(h:p:=by
 (simp(maxSteps:=1000000) only[go_sem,C7,D6,C0,D1];try(simp(disch:=(first |omega |(simp only[zM];omega) |(apply_assumption;done))) only[A3d,A1y,A1p,X8,N4,A3c,Q6,A3b,U3,A9t];try simp(maxSteps:=1000000) only[go_sem,C7,D6,C0,D1]))
 repeat' (first
  |((with_reducible refine And.intro ?_ ?_);focus (first |exact K1 |exact ie_ |exact F61 |(first |with_reducible rfl |trivial |omega |(rw[IntKind.wrap_i64];omega) |exact D0 _ |exact G5 rfl |exact A32 rfl |exact A0q _ rfl rfl |exact A22 _ (by first |omega |(simp only[zM];omega)) rfl rfl |exact B7x (λ_ _=>rfl) rfl rfl |exact D3l |exact B8r (λ_=>rfl) |(simp only[qY];omega) |(simp only[qY,qn]at*;rw[IntKind.wrap_i64];omega) |exact A8n)))
  |((with_reducible refine it_ (λhc_=> ?_) (λhc_=> ?_)) <;> (have hd_:=hc_;try simp only[qc,qB,ne_eq,zy,zi,zk,qy,zQ,zC,qs,qg,qe]at hd_))
  |(with_reducible refine gd_ ?_;with_reducible refine A0 (by apply_assumption <;> first |exact K1 |(apply_assumption <;> first |assumption |exact K1)) rfl ?_;(simp(maxSteps:=1000000) only[go_sem,C7,D6,C0,D1];try(simp(disch:=(first |omega |(simp only[zM];omega) |(apply_assumption;done))) only[A3d,A1y,A1p,X8,N4,A3c,Q6,A3b,U3,A9t];try simp(maxSteps:=1000000) only[go_sem,C7,D6,C0,D1])))
  |((with_reducible refine gD_ ?_);refine B8c ev_ K1 (by apply_assumption <;> first |exact K1 |(apply_assumption <;> first |assumption |exact K1)) (by rfl) ?_;(simp(maxSteps:=1000000) only[go_sem,C7,D6,C0,D1];try(simp(disch:=(first |omega |(simp only[zM];omega) |(apply_assumption;done))) only[A3d,A1y,A1p,X8,N4,A3c,Q6,A3b,U3,A9t];try simp(maxSteps:=1000000) only[go_sem,C7,D6,C0,D1])))
  |((with_reducible refine gD_ ?_);refine C9r ev_ K1 (by apply_assumption <;> first |exact K1 |(apply_assumption <;> first |assumption |exact K1)) (by rfl) nd_ ?_;(simp(maxSteps:=1000000) only[go_sem,C7,D6,C0,D1];try(simp(disch:=(first |omega |(simp only[zM];omega) |(apply_assumption;done))) only[A3d,A1y,A1p,X8,N4,A3c,Q6,A3b,U3,A9t];try simp(maxSteps:=1000000) only[go_sem,C7,D6,C0,D1])))
  |((with_reducible refine gD_ ?_);refine J5 ev_ K1 (by apply_assumption <;> first |exact K1 |(apply_assumption <;> first |assumption |exact K1)) ?_;(simp(maxSteps:=1000000) only[go_sem,C7,D6,C0,D1];try(simp(disch:=(first |omega |(simp only[zM];omega) |(apply_assumption;done))) only[A3d,A1y,A1p,X8,N4,A3c,Q6,A3b,U3,A9t];try simp(maxSteps:=1000000) only[go_sem,C7,D6,C0,D1])))
  |(with_reducible refine gw_ ?_;apply_assumption)
  |((with_reducible refine hb_ ?_);intros;simp only[go_sem,C7,D6,C0,D1,G9,A2p])
  |((with_reducible refine gk_ ?_);refine D4g ev_ ev_ ev_ ns_ ns_ ns_ ?_;(simp(maxSteps:=1000000) only[go_sem,C7,D6,C0,D1];try(simp(disch:=(first |omega |(simp only[zM];omega) |(apply_assumption;done))) only[A3d,A1y,A1p,X8,N4,A3c,Q6,A3b,U3,A9t];try simp(maxSteps:=1000000) only[go_sem,C7,D6,C0,D1])))
  |((with_reducible refine gr_ ?_);(try simp only[*,zL,zJ,qj,zf,zG,zN,zK,reduceCtorEq,G9,L2,P9,Q0,zO,zH,zX,zI,z8,zV,zZ,zS,zR,zD,z6,zP,qc,qB,ne_eq,zy,zi,zk,qy,zQ,zC,qs,qg,qe,yD,zU,yy,yJ,yE,yl,yg,qJ]);refine C64 ev_ ev_ ev_ ev_ rfl rfl ns_ ns_ ns_ ?_;(simp(maxSteps:=1000000) only[go_sem,C7,D6,C0,D1];try(simp(disch:=(first |omega |(simp only[zM];omega) |(apply_assumption;done))) only[A3d,A1y,A1p,X8,N4,A3c,Q6,A3b,U3,A9t];try simp(maxSteps:=1000000) only[go_sem,C7,D6,C0,D1])))
  |exact F90)):p:=h
section
variable {P:Program} {N:Nat} {K:List Nat}
inductive D0h (P:Program):List dC->St->St->Prop
 |nil (σ:St):D0h P [] σ σ
 |cons {o:dC} {os:List dC} {σ τ:St} {b:Bool} {r:Res} (h:A3s P o σ b r) (hs:D0h P os (σ.put o.dst b r) τ):D0h P (o::os) σ τ
theorem E3k {ops:Array Oper}{Q:St->Prop}{R:Exit->Act->World->Prop}: ∀(l:List Oper) (as:List dC) (k:Nat) (σ τ:St) (a:Act) (w:World) (ob:Place) (G:Nat->Prop),
  S5 P N ops l=some as->(∀i o,l[i]? =some o->ops[k+i]? =some o)->Sim N σ a w ob G->D0h P as σ τ->Q τ->
  (∀τ a' w' ob' G',Q τ->Sim N τ a' w' ob' G'->Fr G w ob G' w' ob'->D4 ob ob'->R .normal a' w')->
  wpOps P ops R (List.range' k l.length) a w
 | [],as,k,σ,τ,a,w,ob,G,hc,hl,hs,h,hq,hQ=>by simp only[S5,za]at hc;subst hc;cases h;exact hQ σ a w ob G hq hs (Fr.refl G w ob) (D4.refl ob)
 |o::l,as,k,σ,τ,a,w,ob,G,hc,hl,hs,h,hq,hQ=>by
  simp only[S5]at hc;split at hc
  case h_2=>cases hc
  rename_i ao as' h1 h2;cases hc;cases h with
  |cons hd hk=>
  rename_i b r;have ho:ops[k]? =some o:=by simpa using hl 0 o p_
  simp only[List.length_cons,yq];simp only[wpOps,ho];have:=C10 (K:=wpOps P ops R (List.range' (k+1) l.length)) (Q:=R) h1 hs hd (λa' w' ob' G' s f e=>E3k l as' (k+1) _ τ a' w' ob' G' h2
   (λi o' hi=>by have:=hl (i+1) o' (by simpa using hi);rwa[show k+(i+1)=k+1+i by omega]at this) s hk hq
   (λτ a'' w'' ob'' G'' q s' f' e'=>hQ τ a'' w'' ob'' G'' q s' (f.trans f') (e.trans e')))
  by_cases hw:Region.wanted o (yielded ops a.tmps)=true
  ·rw[zc hw]at this⊢;exact .inl this
  ·rw[zb hw]at this⊢;exact this
end
section
variable {P:Program}
theorem A7.ren_id: ∀(o:A7),o.ren id=o
 | .box cs=>by simp only[A7.ren,O3]
 | .arr .. =>rfl
 | .frz .. =>rfl
 | .frzb _=>rfl
 | .map .. =>rfl
 | .mapS .. =>rfl
 | .arrP .. =>rfl
 | .gone=>rfl
theorem C2b(O:List (Nat×A7)):A3v id O=O:=by
 unfold A3v
 conv=>rhs;rw[<-List.map_id O]
 refine List.map_congr_left λp _=> ?_;simp only[A7.ren_id,id]
theorem B8y {i:Nat}: ∀ {l:List AV},i∈F6 l↔ ∃a∈l,i∈a.ids
 | []=>by simp[F6]
 |a::l=>by simp[F6,B8y (l:=l)]
end
section
variable {P:Program}
end
end Go.Abs
end
noncomputable section
namespace Go.Abs
structure RfT where
 nt:Nat
 as0:List dC
 as1:List dC
 as2:List dC
 gx:Nat
 as3:List dC
 as4:List dC
 rvs:List (Nat×Option (Option Nat))
section
variable {P:Program} {N:Nat} {σ:St} {a:Act} {w:World} {ob:Place} {G:Nat->Prop}
variable {m:Nat->Option A7}
theorem E8.blks_lt(hs:E8 G w ob m){b:Nat}(h:P6 ob b):b<w.heap.size:=by
 obtain⟨id,i,hi,hb⟩:=h;cases hm:m id with
 |none=>rw[(hs.dom id).1 hm]at hi;cases hi
 |some o=>exact(hs.own id o i hm hi).has_lt hb
theorem Sim.frame(hs:Sim N σ a w ob G){w':World}(h1:w.heap.size<=w'.heap.size)(h2: ∀b,b<w.heap.size->(G b\/P6 ob b)->w'.heap[b]? =w.heap[b]?):Sim N σ a w' ob G:=⟨hs.size,hs.defers,hs.objs.frame h1 h2,λt av ht=>let⟨v,h3,h4⟩:=hs.env t av ht;⟨v,h3,h4.ext (λ_ h=>h) (λb hb=>h2 b (hs.objs.lt b hb) (.inl hb)) (D4.refl ob)⟩,hs.env0⟩
end
end Go.Abs
namespace Go.Abs
end Go.Abs
end
noncomputable section
namespace Go.Abs
section
variable {P:Program} {N:Nat} {K:List Nat}
variable {σ τ:St}
theorem Wp.dseq {d:Bool}{ops:List dC}(hd:d=false)(h:D0h P ops σ τ){Q:Out->St->Prop}(hQ:Q .normal τ):Wp P N K (.region d ops) Q σ:=by
 subst hd;intro c hc Γ a w ob G hs hΓ;cases c <;> simp only[F2,ACode.strip,za,reduceCtorEq]at hc
 case region id os draw=>
  split at hc
  ·rename_i as has;simp only[za,ACode.region.injEq]at hc;obtain⟨rfl,rfl⟩:=hc;unfold A87 at has;split at has
   ·rename_i as' hcop;simp only[zf,zJ,za]at has;subst has;refine wp_region ?_;have:=E3k (Q:=Q .normal) (R:=D99 K N Γ Q) os.toList as' 0 σ τ a w ob G hcop (λi o hi=>by simpa using hi) hs h hQ
     (λτ a' w' ob' G' hq s f e=>⟨.normal,τ,ob',G',rfl,hq,s,hΓ.step f e⟩)
    rw[ya];simpa using this
   ·cases has
  ·cases hc
 all_goals(repeat' split at hc) <;> simp at hc
end
end Go.Abs
namespace Go.Abs
end Go.Abs
end
noncomputable section
namespace Go.Abs
section
variable {P:Program} {N:Nat} {K:List Nat}
def B7n(o:dC)(σ:St) [Q:ContR]:Prop:=
 o.guard=none/\match o.op with
 | .append z bytes x y=>match σ.e x,σ.e y with
   |some (.sl id off n tot),some v=>match σ.objs id,Y2 σ.objs z v with
    |some (.arr z' s),some (p,q)=>z'=z/\off=0/\A7f σ true (AOp.append z bytes x y).ops/\(p/\tot=s.n/\n+q.n<=s.n/\(n+q.n)*bytes<=140737488355328/\n+q.n<=maxLen)/\
      Ri true ⟨some (.sl id 0 (n+q.n) tot),[(id, .arr z (s.over n q))]⟩
    |_,_=>False
   |_,_=>False
 | .slice z x lo hi mx=>match σ.e x,A0k σ.e lo,A0k σ.e hi,A0k σ.e mx with
   |some (.sl id _ n tot),some l,some h,some (some k)=>match σ.objs id with
    |some (.arr z' s)=>z'=z/\A7f σ true (AOp.slice z x lo hi mx).ops/\(tot=s.n/\0<=l.getD 0/\l.getD 0<=h.getD n/\h.getD n<=n/\h.getD n<=k/\k<=n/\h.isSome)/\Ri true ⟨none,[]⟩
    |_=>False
   |some (.sl id off n tot),some l,some (some h),some none=>match σ.objs id with
    |some (.arr z' s)=>z'=z/\off=0/\A7f σ true (AOp.slice z x lo hi mx).ops/\(tot=s.n/\0<=l.getD 0/\l.getD 0<=h/\h<=tot)/\Ri true ⟨some (.sl id (l.getD 0).toNat (h-l.getD 0).toNat tot),[]⟩
    |_=>False
   |_,_,_,_=>False
 |_=>False
variable {σ:St} {o:dC}
theorem E4s {Q:ContR}(h: @B7n o σ Q): ∃b r,A3s P o σ b r/\Q.q b r:=by
 unfold B7n at h;obtain⟨hg,h⟩:=h;have hg':A2b σ o.guard=some true:=by rw[hg];rfl
 split at h
 ·rename_i z bytes x y ho;split at h
  ·rename_i id off n tot v hx hy;split at h
   ·rename_i z' s p q hm hs;obtain⟨rfl,rfl,hc,hp,hk⟩:=h;exact⟨true,_, .inpl _ bytes x y id n tot s q v p ho hg' hx hy hm hs (by rw[ho];exact hc) hp,hk⟩
   ·exact h.elim
  ·exact h.elim
 ·rename_i z x lo hi mx ho;split at h
  ·rename_i id off n tot l hh k hx hl hhi hk;split at h
   ·rename_i z' s hm;obtain⟨rfl,hc,hp,hq⟩:=h;exact⟨true,_, .sl3 _ x lo hi mx id off n tot s l hh k ho hg' hx hl hhi hk hm (by rw[ho];exact hc) hp,hq⟩
   ·exact h.elim
  ·rename_i id off n tot l hh hx hl hhi hk;split at h
   ·rename_i z' s hm;obtain⟨rfl,rfl,hc,hp,hq⟩:=h;exact⟨true,_, .slx _ x lo hi mx id n tot s l hh ho hg' hx hl hhi hk hm (by rw[ho];exact hc) hp,hq⟩
   ·exact h.elim
  ·exact h.elim
 ·exact h.elim
variable (P)
def D4j:Nat->List dC->(St->Prop)->St->Prop
 |_,[],Q,σ=>Q σ
 |0,o::os,Q,σ=> @B7n o σ ⟨λ_ r=>A5c P os Q (σ.put o.dst true r)⟩
 |k+1,o::os,Q,σ=>wop P o σ λb r=>D4j k os Q (σ.put o.dst b r)
def D4f:Nat->List dC->List (List Nat×List Nat)->(St->Prop)->St->Prop
 |_,[],_,Q,σ=>Q σ
 |0,o::os,seen,Q,σ=> @B7n o σ ⟨λ_ r=>A4z o.op r/\A3m seen (A0j σ o) (keys r) o.chk/\C1v P os (seen++ [(A0j σ o,keys r)]) Q (σ.put o.dst true r)⟩
 |k+1,o::os,seen,Q,σ=>wop P o σ λb r=>A4z o.op r/\A3m seen (A0j σ o) (keys r) o.chk/\D4f k os (seen++ [(A0j σ o,keys r)]) Q (σ.put o.dst b r)
variable {P}
theorem D2o {K:Res->Prop}(h: @B7n o σ ⟨λ_ r=>K r⟩): ∃r,A3s P o σ true r/\K r:=by
 obtain⟨b,r,hd,hk⟩:=E4s (P:=P) h;unfold B7n at h;have hg':A2b σ o.guard=some true:=by rw[h.1];rfl
 cases b with
 |true=>exact⟨r,hd,hk⟩
 |false=>
  have hf:A2b σ o.guard=some false:=by cases hd <;> assumption
  rw[hg']at hf;cases hf
theorem C57 {Q:St->Prop}: ∀ {l:List dC} {σ:St},A5c P l Q σ-> ∃τ,D0h P l σ τ/\Q τ
 | [],σ,h=>⟨σ, .nil σ,h⟩
 |o::os,σ,h=>by obtain⟨b,r,hd,hk⟩:=B2u h;obtain⟨τ,h1,h2⟩:=C57 hk;exact⟨τ, .cons hd h1,h2⟩
theorem C40 {Q:St->Prop}: ∀ {k:Nat} {l:List dC} {σ:St},D4j P k l Q σ-> ∃τ,D0h P l σ τ/\Q τ
 |0,[],σ,h=>⟨σ, .nil σ,h⟩
 |_+1,[],σ,h=>⟨σ, .nil σ,h⟩
 |0,o::os,σ,h=>by obtain⟨r,hd,hk⟩:=D2o (P:=P) h;obtain⟨τ,h1,h2⟩:=C57 hk;exact⟨τ, .cons hd h1,h2⟩
 |k+1,o::os,σ,h=>by obtain⟨b,r,hd,hk⟩:=B2u h;obtain⟨τ,h1,h2⟩:=C40 hk;exact⟨τ, .cons hd h1,h2⟩
theorem D0g {Q:St->Prop}: ∀(k:Nat) (aos:List dC) (seen:List (List Nat×List Nat)) (σ:St),D4f P k aos seen Q σ->
  ∃(es:List Ent) (ft:List (List Nat×List Nat)),es.length=aos.length/\ft.length=aos.length/\Q (B34 σ es)/\
   ∀i o,aos[i]? =some o-> ∃e f,es[i]? =some e/\ft[i]? =some f/\e.dst=o.dst/\f=(A0j (B34 σ (es.take i)) o,keys e.r)/\
    A3s P o (B34 σ (es.take i)) e.b e.r/\A3m (seen++ft.take i) f.1 f.2 o.chk/\A4z o.op e.r
 |0,[],seen,σ,h=>⟨[],[],rfl,rfl,h,λi o hi=>by simp at hi⟩
 |_+1,[],seen,σ,h=>⟨[],[],rfl,rfl,h,λi o hi=>by simp at hi⟩
 |0,o::os,seen,σ,h=>by
  obtain⟨r,hd,hqr,hk,hrest⟩:=D2o (P:=P) h;obtain⟨es,ft,h1,h2,h3,h4⟩:=C4x os _ _ hrest;refine⟨⟨o.dst,true,r⟩::es,(A0j σ o,keys r)::ft,by simp[h1],by simp[h2],h3,λi o' hi=> ?_⟩;cases i with
  |zero=>simp only[List.getElem?_cons_zero,za]at hi;subst hi;exact⟨_,_,rfl,rfl,rfl,rfl,hd,by simpa using hk,hqr⟩
  |succ i=>simp only[List.getElem?_cons_succ]at hi;obtain⟨e,f,g1,g2,g3,g4,g5,g6,g7⟩:=h4 i o' hi;exact⟨e,f,by simpa using g1,by simpa using g2,g3,g4,g5,by simpa using g6,g7⟩
 |k+1,o::os,seen,σ,h=>by
  obtain⟨b,r,hd,hqr,hk,hrest⟩:=B2u h;obtain⟨es,ft,h1,h2,h3,h4⟩:=D0g k os _ _ hrest;refine⟨⟨o.dst,b,r⟩::es,(A0j σ o,keys r)::ft,by simp[h1],by simp[h2],h3,λi o' hi=> ?_⟩;cases i with
  |zero=>simp only[List.getElem?_cons_zero,za]at hi;subst hi;exact⟨_,_,rfl,rfl,rfl,rfl,hd,by simpa using hk,hqr⟩
  |succ i=>simp only[List.getElem?_cons_succ]at hi;obtain⟨e,f,g1,g2,g3,g4,g5,g6,g7⟩:=h4 i o' hi;exact⟨e,f,by simpa using g1,by simpa using g2,g3,g4,g5,by simpa using g6,g7⟩
theorem Wp.regF(k:Nat){l:List dC}{Q:Out->St->Prop}{σ:St}(h:D4j P k l (Q .normal) σ):Wp P N K (.region false l) Q σ:=by obtain⟨τ,h1,h2⟩:=C40 h;exact Wp.dseq rfl h1 h2
theorem Wp.regT(k:Nat)(hm:P.follows .mixedOrders=true){l:List dC}{Q:Out->St->Prop}{σ:St}(h:D4f P k l [] (Q .normal) σ):Wp P N K (.region true l) Q σ:=by
 intro c hc Γ a w ob G hs hΓ;cases c <;> simp only[F2,ACode.strip,za,reduceCtorEq]at hc
 case region id os draw=>
  split at hc
  ·rename_i as has;simp only[za,ACode.region.injEq]at hc;obtain⟨rfl,rfl⟩:=hc;exact D4i (Q:=Q .normal) hm has hs (D0g k _ [] σ h) λτ a' w' ob' G' hq s f e=>⟨.normal,τ,ob',G',rfl,hq,s,hΓ.step f e⟩
  ·cases hc
 all_goals(repeat' split at hc) <;> simp at hc
def WsI(P:Program)(k:Nat)(l:List dC) [Q:ContS](σ:St):Prop:=D4j P k l Q.q σ
def WnI(P:Program)(k:Nat)(l:List dC)(seen:List (List Nat×List Nat)) [Q:ContS](σ:St):Prop:=D4f P k l seen Q.q σ
@[reducible] def F2i(P:Program)(k:Nat)(os:List dC)(Q:ContS)(d:Option Nat)(σ:St):ContR:=⟨λb r=>D4j P k os Q.q (σ.put d b r)⟩
@[reducible] def F19(P:Program)(k:Nat)(o:dC)(os:List dC)(seen:List (List Nat×List Nat))(Q:ContS)(σ:St):ContR:=⟨λb r=>A4z o.op r/\A3m seen (A0j σ o) (keys r) o.chk/\D4f P k os (seen++ [(A0j σ o,keys r)]) Q.q (σ.put o.dst b r)⟩
@[reducible] def F2h(P:Program)(os:List dC)(Q:ContS)(d:Option Nat)(σ:St):ContR:=⟨λ_ r=>A5c P os Q.q (σ.put d true r)⟩
@[reducible] def F18(P:Program)(o:dC)(os:List dC)(seen:List (List Nat×List Nat))(Q:ContS)(σ:St):ContR:=⟨λ_ r=>A4z o.op r/\A3m seen (A0j σ o) (keys r) o.chk/\C1v P os (seen++ [(A0j σ o,keys r)]) Q.q (σ.put o.dst true r)⟩
variable {os:List dC}
theorem E9m {Q:ContS}: @WsI P 0 (o::os) Q σ= @B7n o σ (F2h P os Q o.dst σ):=rfl
variable {k:Nat}
theorem E9l {Q:ContS}: @WsI P (k+1) (o::os) Q σ= @Woi P o σ (F2i P k os Q o.dst σ):=rfl
variable {seen:List (List Nat×List Nat)}
theorem E9i {Q:ContS}: @WnI P 0 (o::os) seen Q σ= @B7n o σ (F18 P o os seen Q σ):=rfl
theorem E9h {Q:ContS}: @WnI P (k+1) (o::os) seen Q σ= @Woi P o σ (F19 P k o os seen Q σ):=rfl
variable {r:Res} {b:Bool}
theorem F2s {Q:ContS}{d:Option Nat}: @Ri (F2i P k os Q d σ) b r= @WsI P k os Q (σ.put d b r):=rfl
theorem F2r {Q:ContS}{d:Option Nat}: @Ri (F2h P os Q d σ) b r= @Wsi P os Q (σ.put d true r):=rfl
theorem F2q {Q:ContS}:
  @Ri (F19 P k o os seen Q σ) b r=(A4z o.op r/\A3m seen (A0j σ o) (keys r) o.chk/\ @WnI P k os (seen++ [(A0j σ o,keys r)]) Q (σ.put o.dst b r)):=rfl
theorem F2p {Q:ContS}:
  @Ri (F18 P o os seen Q σ) b r=(A4z o.op r/\A3m seen (A0j σ o) (keys r) o.chk/\ @Wni P os (seen++ [(A0j σ o,keys r)]) Q (σ.put o.dst true r)):=rfl
end
attribute [go_sem] E9m E9l E9i E9h F2s F2r F2q F2p B7n
section
variable {P:Program} {N:Nat} {K:List Nat} {L:List (Nat×List Bool)} {f:FuncId} {fn:Func} {ac a b:ACode} {args rs:List AV} {r:AV} {O O':List (Nat×A7)} {ts:List Nat} {Q:Cont} {σ:St}
theorem E5h(hm:P.follows .mixedOrders=true)(hL:okE P L=true)(hf:P.funcs[f]? =some fn)(hc:N8 P L fn.ntmps (fn.body.getD .skip)=some ac)(hts:A41 fn.results.toList=some ts)
  (h: @Wpi P fn.ntmps [] ac (D5n ts [r]) (A02 args []))(hb:fn.body=some (fn.body.getD .skip):=by kernel_rfl)(hname:(fn.name != "runtime.NumGoroutine")=true:=by kernel_rfl)(hnd:ts.Nodup:=by decide)(hl:(args.length.ble fn.ntmps)=true:=by kernel_rfl):
  D5 P f args [] r []:=C52 (ac:= .mark ac) hm hf hb hname (have e:F2 P fn.ntmps (fn.body.getD .skip)=some ac.strip:=cs2 hL hc;e) hts hnd hl h
theorem A8m(hm:P.follows .mixedOrders=true)(hL:okE P L=true)(hf:P.funcs[f]? =some fn)(hc:N8 P L fn.ntmps (fn.body.getD .skip)=some ac)(hts:A41 fn.results.toList=some ts)
  (h: @Wpi P fn.ntmps (O.map (·.1)) ac (C3z (O.map (·.1)) ts [r] O') (A02 args O))(hb:fn.body=some (fn.body.getD .skip):=by kernel_rfl)(hname:(fn.name != "runtime.NumGoroutine")=true:=by kernel_rfl)(hnd:ts.Nodup:=by decide)(hl:(args.length.ble fn.ntmps)=true:=by kernel_rfl):
  D5 P f args O r O':=B7r (ac:= .mark ac) hm hf hb hname (have e:F2 P fn.ntmps (fn.body.getD .skip)=some ac.strip:=cs2 hL hc;e) hts hnd hl h
theorem F8f(hm:P.follows .mixedOrders=true)(hL:okE P L=true)(hf:P.funcs[f]? =some fn)(hc:N8 P L fn.ntmps (fn.body.getD .skip)=some ac)(hts:A41 fn.results.toList=some ts)
  (h: @Wpi P fn.ntmps (O.map (·.1)) ac (C3z (O.map (·.1)) ts rs O') (A02 args O))(hp:A5x rs= .tup rs:=by rfl)(hb:fn.body=some (fn.body.getD .skip):=by kernel_rfl)(hname:(fn.name != "runtime.NumGoroutine")=true:=by kernel_rfl)(hnd:ts.Nodup:=by decide)(hl:(args.length.ble fn.ntmps)=true:=by kernel_rfl):
  D5 P f args O (.tup rs) O':=hp▸B7r (ac:= .mark ac) hm hf hb hname (have e:F2 P fn.ntmps (fn.body.getD .skip)=some ac.strip:=cs2 hL hc;e) hts hnd hl h
theorem D2z(N:Nat)(rvs:List (Nat×Option (Option Nat)))(hm:P.follows .mixedOrders=true)(hL:okE P L=true)(hf:P.funcs[f]? =some fn)(hc:N8 P L fn.ntmps (fn.body.getD .skip)=some ac)
  (h: @Wpi P N [] ac (C0i N rvs rs) (A02 args []))(hp:A5x rs= .tup rs:=by rfl)(hN:fn.ntmps=N:=by kernel_rfl)(hts:A6e P fn.results.toList=some rvs:=by kernel_rfl)(hb:fn.body=some (fn.body.getD .skip):=by kernel_rfl)(hname:(fn.name != "runtime.NumGoroutine")=true:=by kernel_rfl)(hlt:(rvs.all λp=>p.1.blt N)=true:=by decide)(hl:(args.length.ble N)=true:=by kernel_rfl):
  D5 P f args [] (.tup rs) []:=hp▸B5t (ac:= .mark ac) hm hf hb hname (have e:F2 P fn.ntmps (fn.body.getD .skip)=some ac.strip:=cs2 hL hc;e) hN hts hlt hl h
@[reducible] def wkC(K:List Nat)(T:Slots)(O:List (Nat×A7)):Cont:=⟨λo τ=>match o with | .normal=>V5 K τ T O |_=>False⟩
variable {T:Slots}
theorem F5w: @Qi (wkC K T O) .normal σ=V5 K σ T O:=rfl
theorem B2(T:Slots)(O:List (Nat×A7))(h1: @Wpi P N K a (wkC K T O) σ)(h2: @Wpi P N K b Q (A19 T O)): @Wpi P N K (.seq a b) Q σ:=
 Wp.seq (Wp.mono (show Wp P N K a (wkC K T O).q σ from h1) λo τ ho=>by
  cases o with
  |normal=>exact Wp.weak ho h2
  |exit i=>exact ho.elim
  |ret=>exact ho.elim)
theorem D8s(k:Nat)(hm:P.follows .mixedOrders=true){l:List dC}(h: @WnI P k l [] (D3a Q) σ): @Wpi P N K (.region true l) Q σ:=Wp.regT k hm h
theorem C2z(k:Nat){l:List dC}(h: @WsI P k l (D3a Q) σ): @Wpi P N K (.region false l) Q σ:=Wp.regF k h
variable {i:Nat}
theorem V0(h: @Wpi P N K a (C50 i Q) σ): @Wpi P N K (.block i a) Q σ:=Wp.block h
end
attribute [go_sem] F5w
theorem E1c(s t:Sq):(s.app t).n=s.n+t.n:=rfl
variable {α:Type} {l:List α}
theorem E3l {enc:α->List AV}{d:α}:(B0 enc d l).n=l.length:=rfl
attribute [go_sem] E1c E3l
variable {z n:Nat} {g:Nat->List AV} {n':Nat}
theorem A0l {enc:α->List AV}{d:α}{L:List α}(x:α)(hg:g 0=enc x)(hL:L=l++ [x])(hn:n=l.length+1)(hn':n'=L.length):
  M9 (.dsl z n ((B0 enc d l).app ⟨1,g⟩).g) (.dsl z n' (I9 enc d L)):=by
 subst hn;subst hn';subst hL;rw[U6];refine⟨rfl,p_,λi hi=> ?_⟩;have h:=(A0q (ρ:=id) (z:=z) (d:=d) (l:=l) x hg rfl).2.2 i (by simpa[E1c,E3l]using hi);exact h
variable {p:Prop}
theorem bO_(h:p:=by first |exact K1 |((with_reducible and_intros) <;> first |omega |(simp only[IntKind.wrap_i64];omega) |(exact qT _ (by first |omega |(rw[IntKind.wrap_i64];omega))) |(exact qE _ o_) |(intro hob0;(with_reducible and_intros) <;> first |omega |(exact qT _ (by first |omega |(rw[IntKind.wrap_i64];omega))) |(exact qE _ o_)) |trivial |assumption |(simp only[maxLen];omega) |(intro hob;first |omega |(simp only[zi,zy,zk,zQ,zC,yb]at hob;first |omega |(simp only[IntKind.wrap_i64];omega)) |(simp only[hob,zD,zR,zH,zO,qo,qV,xk,yB];done) |(simp[hob];done) |(simp_all;done) |(simp_all;omega)))):p:=h
theorem eO_(h:p:=by((try dsimp only);(with_reducible and_intros) <;> first |with_reducible rfl |trivial |(rw[IntKind.wrap_i64];omega) |omega |(simp only[zd,List.length_cons,List.length_nil];done) |rfl |exact G5 rfl |exact A32 rfl |(simp only[go_sem,↓reduceIte,Nat.reduceEqDiff,reduceCtorEq,Nat.reduceAdd,Nat.reduceLeDiff,Nat.reduceMul,Nat.reduceSub,Int.reduceToNat,C7,D6,C0,D1];done) |(simp_all;done) |(simp only[zC,qK,zk]at*;omega) |(intro hob;simp only[hob,zD,zR,zH,zO,qo,qV,xk,yB];done) |(intro hob;simp[hob];done) |((with_reducible and_intros) <;> first |omega |(simp only[IntKind.wrap_i64];omega) |(exact qT _ (by first |omega |(rw[IntKind.wrap_i64];omega))) |(exact qE _ o_) |(intro hob0;(with_reducible and_intros) <;> first |omega |(exact qT _ (by first |omega |(rw[IntKind.wrap_i64];omega))) |(exact qE _ o_)) |trivial |assumption |(simp only[maxLen];omega) |(intro hob;first |omega |(simp only[zi,zy,zk,zQ,zC,yb]at hob;first |omega |(simp only[IntKind.wrap_i64];omega)) |(simp only[hob,zD,zR,zH,zO,qo,qV,xk,yB];done) |(simp[hob];done) |(simp_all;done) |(simp_all;omega))))):p:=h
variable {σ:St} {O:List (Nat×A7)} {rs:List AV} {K ts:List Nat}
theorem B8(md:List C0u)(ρs:List (Nat×Nat))(A:List Nat)(h4:A21 σ (J1 ρs) A O (B9m ts md rs) [] λwr=>B31 (wrm σ.objs wr) (J1 ρs) A O O)
  (hm:md.length=ts.length:=by rfl)(hr:rs.length=ts.length:=by rfl)(h1:(O.map (·.1)).Nodup:=by simp[go_sem])(h2:(((O.map (·.1)).filter λi=> !A.contains i).map (J1 ρs)).Nodup:=by simp[go_sem])(h3: ∀k∈K,k∉A/\J1 ρs k=k/\(ofL O k).isSome:=by simp[go_sem]):A8f K σ ts rs O:=E38 md ρs A hm hr h1 h2 h3 h4
variable {T:Slots}
theorem A9(ρs:List (Nat×Nat))(A:List Nat)(h4:A21 σ (J1 ρs) A O T [] λwr=>B31 (wrm σ.objs wr) (J1 ρs) A O O)(h1:(O.map (·.1)).Nodup:=by simp[go_sem])(h2:(((O.map (·.1)).filter λi=> !A.contains i).map (J1 ρs)).Nodup:=by simp[go_sem])(h3: ∀k∈K,k∉A/\J1 ρs k=k/\(ofL O k).isSome:=by simp[go_sem]):V5 K σ T O:=B9l ρs A h1 h2 h3 h4
def mdA:Nat->C0u
 |0=> .fA
 |_+1=> .cA
theorem F0v:mdA 0= .fA:=rfl
theorem F0u(i:Nat):mdA (i+1)= .cA:=rfl
attribute [go_sem] F0v F0u
theorem eE_(h:p:=by
  (with_reducible and_intros) <;> first
    |with_reducible rfl |trivial |rfl |exact D0 _ |exact G5 rfl |exact A32 rfl |exact⟨rfl,rfl,λ_ _=>I5 _⟩ |(rw[IntKind.wrap_i64];omega) |omega |exact A0l _ rfl rfl rfl rfl |exact A0q _ rfl rfl |assumption |(simp only[maxLen];omega) |(simp only[zd,List.length_cons,List.length_nil];omega) |(simp;done)):p:=h
theorem bE_(h:p:=by(with_reducible and_intros) <;> first |omega |(rw[IntKind.wrap_i64];omega) |(simp only[maxLen];omega) |trivial):p:=h
section
variable {P:Program} {G:Nat->Prop} {w:World} {ob:Place} {m:Nat->Option A7}
variable {av:AV}
theorem AV.flat_of_pure(h:av.pure=true):av.flat=true:=by cases av <;> first |exact h |simp[AV.pure]at h
end
section
variable {P:Program} {N:Nat}
variable {a:Act} {next:Act->World->Prop}
theorem E6p {o:Oper}{Q:Exit->Act->World->Prop}{rr:Nat}{r:Result Next}(h:o.upon P a next Q r):o.uponIn (Fence.wide.inRound rr) n P a next Q r:=by
 unfold Oper.upon at h;unfold Oper.uponIn;split at h
 ·exact h
 ·exact h
 ·exact h
 ·refine⟨λh=>by simp[Fence.wide]at h,?_⟩;have h2:CallsIn (Fence.wide.inRound rr) (n-1) P _ _ _ _:=(callsIn_wide (n:=n-1)).2 h;omega
 ·refine⟨λh=>by simp[Fence.wide]at h,λc cs _=> ?_⟩;obtain⟨v,w',r,s⟩:=h c cs;exact⟨v,w',r,stepsIn_wide.2 s⟩
 ·exact h
 ·exact h.elim
variable {w:World}
theorem E54 {o:Oper}{Q:Exit->Act->World->Prop}{rr:Nat}(hd: ∀c,o.op≠ .defer c)(h:o.wp P a w next Q):o.wpIn (Fence.wide.inRound rr) n P a w next Q:=by
 refine⟨λ_ _=>trivial,?_⟩;show o.uponIn (Fence.wide.inRound rr) n P a next Q ((o.semAt (some rr) a.eval).run P w)
 rw[Oper.semAt_eq _ _ _ hd];exact E6p h
theorem D4k {ops:Array Oper}{Q:St->Prop}{R:Exit->Act->World->Prop}{rr n:Nat}: ∀(l:List Oper) (as:List dC) (k:Nat) (σ:St) (a:Act) (w:World) (ob:Place) (G:Nat->Prop),
  (∀o∈l,∀c,o.op≠ .defer c)->S5 P N ops l=some as->(∀i o,l[i]? =some o->ops[k+i]? =some o)->Sim N σ a w ob G->A5c P as Q σ->
  (∀τ a' w' ob' G',Q τ->Sim N τ a' w' ob' G'->Fr G w ob G' w' ob'->D4 ob ob'->R .normal a' w')->
  wpOpsIn (Fence.wide.inRound rr) n P ops R (List.range' k l.length) a w
 | [],as,k,σ,a,w,ob,G,_,hc,hl,hs,h,hQ=>by simp only[S5,za]at hc;subst hc;exact hQ σ a w ob G h hs (Fr.refl G w ob) (D4.refl ob)
 |o::l,as,k,σ,a,w,ob,G,hnd,hc,hl,hs,h,hQ=>by
  simp only[S5]at hc;split at hc
  case h_2=>cases hc
  rename_i ao as' h1 h2;cases hc;obtain⟨b,r,hd,hk⟩:=B2u h;have ho:ops[k]? =some o:=by simpa using hl 0 o p_
  simp only[List.length_cons,yq];simp only[wpOpsIn,ho];have:=C10 (K:=wpOpsIn (Fence.wide.inRound rr) n P ops R (List.range' (k+1) l.length)) (Q:=R) h1 hs hd (λa' w' ob' G' s f e=>D4k l as' (k+1) _ a' w' ob' G' (λo ho=>hnd o (qf _ ho)) h2
   (λi o' hi=>by have:=hl (i+1) o' (by simpa using hi);grind) s hk
   (λτ a'' w'' ob'' G'' q s' f' e'=>hQ τ a'' w'' ob'' G'' q s' (f.trans f') (e.trans e')))
  by_cases hw:Region.wanted o (yielded ops a.tmps)=true
  ·rw[zc hw]at this⊢;exact E54 (hnd o (qp ..)) this
  ·rw[zb hw]at this⊢;exact⟨λ_ _=>trivial,this⟩
def E74(o:Oper):Bool:=match o.op with | .defer _=>false |_=>true
def A3g:Code->Bool
 | .region _ ops draw=>ops.toList.all E74&& !draw
 | .seq a b=>A3g a&&A3g b
 | .cond _ a b=>A3g a&&A3g b
 | .skip=>true
 | .block _ a=>A3g a
 |_=>false
def plA:ACode->Bool
 | .region _ _=>true
 | .seq a b=>plA a&&plA b
 | .cond _ a b=>plA a&&plA b
 | .block _ a=>plA a
 | .skip=>true
 |_=>false
theorem B45 {rr n:Nat}{K:List Nat}: ∀(c:Code) (ac:ACode) {Q:Out->St->Prop} {σ:St} {a:Act} {w:World} {ob:Place} {G:Nat->Prop} {R:Exit->Act->World->Prop},
  A3g c=true->plA ac=true->F2 P N c=some ac.strip->Sim N σ a w ob G->W P N K ac Q σ->
  (∀τ a' w' ob' G',Q .normal τ->Sim N τ a' w' ob' G'->Fr G w ob G' w' ob'->D4 ob ob'->R .normal a' w')->c.wpIn (Fence.wide.inRound rr) n P R a w
 | .skip,ac,Q,σ,a,w,ob,G,R,_,hp,hc,hs,h,hR=>by cases ac <;> simp only[F2,ACode.strip,za,reduceCtorEq,plA]at hc hp;exact wpIn_skip (hR σ a w ob G h hs (Fr.refl G w ob) (D4.refl ob))
 | .region i ops draw,ac,Q,σ,a,w,ob,G,R,hn,hp,hc,hs,h,hR=>by
   simp only[A3g,zi,zQ,qm]at hn;obtain⟨hn,rfl⟩:=hn;simp only[F2,A87]at hc;cases ac with
   |region d os=>
    simp only[ACode.strip]at hc;split at hc
    ·rename_i as has;simp only[za,ACode.region.injEq]at hc;obtain⟨rfl,rfl⟩:=hc;split at has
     ·rename_i as' hcop;simp only[zf,zJ,za]at has;subst has;refine wpIn_region ?_;have:=D4k (rr:=rr) (n:=n) (Q:=Q .normal) (R:=R) ops.toList as' 0 σ a w ob G (λo ho c e=>by have:=hn o ho;simp[E74,e]at this) hcop (λi o hi=>by simpa using hi) hs h hR;rw[ya];simpa using this
     ·cases has
    ·cases hc
   |_=>
    simp only[plA,zf]at hp
    all_goals((repeat' split at hc) <;> simp[ACode.strip]at hc)
 | .seq x y,ac,Q,σ,a,w,ob,G,R,hn,hp,hc,hs,h,hR=>by
   simp only[A3g,zi]at hn;simp only[F2]at hc;cases ac with
   |seq x' y'=>
    simp only[plA,zi]at hp;simp only[ACode.strip]at hc;split at hc
    ·rename_i x1 y1 h1 h2;simp only[za,ACode.seq.injEq]at hc;obtain⟨rfl,rfl⟩:=hc;refine wpIn_seq (B45 x x' hn.1 hp.1 h1 hs h λτ a1 w1 ob1 G1 q1 s1 f1 e1=> ?_);exact B45 y y' hn.2 hp.2 h2 s1 q1 λτ' a2 w2 ob2 G2 q2 s2 f2 e2=>hR τ' a2 w2 ob2 G2 q2 s2 (f1.trans f2) (e1.trans e2)
    ·cases hc
   |_=>
    simp only[plA,zf]at hp
    all_goals((repeat' split at hc) <;> simp[ACode.strip]at hc)
 | .cond c x y,ac,Q,σ,a,w,ob,G,R,hn,hp,hc,hs,h,hR=>by
   simp only[A3g,zi]at hn;simp only[F2]at hc;cases ac with
   |cond k x' y'=>
    simp only[plA,zi]at hp;simp only[ACode.strip]at hc;split at hc
    ·rename_i k1 x1 y1 hk h1 h2;simp only[za,ACode.cond.injEq]at hc;obtain⟨rfl,rfl,rfl⟩:=hc;simp only[W]at h;split at h
     ·rename_i t ht;have hv:a.eval c= .bool t:=by
       have:=hs.opRel c k1 (.sc (.bool t)) hk (by unfold St.e';rw[ht]);exact this.sc_eq
      refine wpIn_cond hv ?_;cases t with
      |true=>exact B45 x x' hn.1 hp.1 h1 hs (by simpa using h) hR
      |false=>exact B45 y y' hn.2 hp.2 h2 hs (by simpa using h) hR
     ·exact h.elim
    ·cases hc
   |_=>
    simp only[plA,zf]at hp
    all_goals((repeat' split at hc) <;> simp[ACode.strip]at hc)
 | .block id x,ac,Q,σ,a,w,ob,G,R,hn,hp,hc,hs,h,hR=>by
   simp only[A3g]at hn;simp only[F2]at hc;cases ac with
   |block k x'=>
    simp only[plA]at hp;simp only[ACode.strip]at hc;split at hc
    ·rename_i x1 h1;simp only[za,ACode.block.injEq]at hc;obtain⟨rfl,rfl⟩:=hc;exact wpIn_block (B45 x x' hn hp h1 hs h λτ' a2 w2 ob2 G2 q2 s2 f2 e2=>hR τ' a2 w2 ob2 G2 q2 s2 f2 e2)
    ·cases hc
   |_=>
    simp only[plA,zf]at hp
    all_goals((repeat' split at hc) <;> simp[ACode.strip]at hc)
 | .loop ..,_,_,_,_,_,_,_,_,hn,_,_,_,_,_=>by simp[A3g]at hn
 | .exit ..,_,_,_,_,_,_,_,_,hn,_,_,_,_,_=>by simp[A3g]at hn
 | .ret,_,_,_,_,_,_,_,_,hn,_,_,_,_,_=>by simp[A3g]at hn
 | .label ..,_,_,_,_,_,_,_,_,hn,_,_,_,_,_=>by simp[A3g]at hn
 | .goto ..,_,_,_,_,_,_,_,_,hn,_,_,_,_,_=>by simp[A3g]at hn
 | .scope ..,_,_,_,_,_,_,_,_,hn,_,_,_,_,_=>by simp[A3g]at hn
 | .rangeFunc ..,_,_,_,_,_,_,_,_,hn,_,_,_,_,_=>by simp[A3g]at hn
variable {G:Nat->Prop} {ob:Place} {m:Nat->Option A7} {G':Nat->Prop}
theorem E8.shrink(hs:E8 G' w ob m)(hsub: ∀b,G b->G' b)(hn: ∀id o,m id=some o->o.NoDsl):E8 G w ob m:=⟨hs.dom,hs.inj,λb h=>hs.lt b (hsub b h),λid o i h1 h2=>(hs.own id o i h1 h2).noDsl (hn id o h1),λid o i b h1 h2 h3 h4 h5=>hs.sep id o i b h1 h2 h3 h4 (hsub b h5)⟩
structure Ext (w w':World):Prop where
 size:w.heap.size<=w'.heap.size
 same: ∀b,b<w.heap.size->w'.heap[b]? =w.heap[b]?
 os:w'.os=w.os
 tape:w'.tape=w.tape
 output:w'.output=w.output
 drawn:w.drawn<=w'.drawn
theorem Ext.refl(w:World):Ext w w:=⟨ze _,λ_ _=>rfl,rfl,rfl,rfl,ze _⟩
theorem Ext.trans {u v w:World}(h:Ext u v)(k:Ext v w):Ext u w:=⟨qd h.size k.size,λb hb=>(k.same b (qH hb h.size)).trans (h.same b hb),k.os.trans h.os,k.tape.trans h.tape,k.output.trans h.output,qd h.drawn k.drawn⟩
variable {w':World} {ob':Place}
theorem Ext.of_fr(f:Fr G w (λ_=>none) G' w' ob'):Ext w w':=⟨f.size,λb hb=>f.same b hb (.inr λ⟨_,_,h,_⟩=>by cases h),f.os,f.tape,f.output,f.drawn⟩
theorem Fr.ext {w1 w2:World}(f:Fr G w ob G' w1 ob')(e:Ext w1 w2):Fr G w ob G' w2 ob':=⟨qd f.size e.size,λb hb hc=>(e.same b (qH hb f.size)).trans (f.same b hb hc),f.blk,f.sub,f.new,e.os.trans f.os,e.tape.trans f.tape,e.output.trans f.output,qd f.drawn e.drawn⟩
end
section
variable {P:Program} {N:Nat}
structure C0t (P:Program) (α:Type)where
 l:Nat
 encs:α->List AV
 J:List α->World->(Nat->Prop)->Prop
 bound:Nat
 lt: ∀pre W Φ b,J pre W Φ->Φ b->b<W.heap.size
 ext: ∀pre W W' Φ,J pre W Φ->Ext W W'->J pre W' Φ
 rnd: ∀pre x W Φ (vals:List Value),J pre W Φ->pre.length<bound->(∀G ob,A59 G W ob (encs x) vals)->
  ∃fn tmps asg bd,(Instr.yield l vals.toArray).run P W= .ok (.round l fn tmps asg bd) W/\
   ∀n,RoundIn Fence.wide n P l fn tmps asg bd W λe W'=>e= .returned (.bool true)/\ ∃Φ',J (pre++ [x]) W' Φ'/\(∀b,Φ' b->Φ b\/W.heap.size<=b)/\W.heap.size<=W'.heap.size/\ ∀b,b<W.heap.size-> ¬Φ b->W'.heap[b]? =W.heap[b]?
variable {a:Act} {next:Act->World->Prop}
theorem E84 {o:Oper}{Q:Exit->Act->World->Prop}{r:Result Next}(h:o.upon P a next Q r):o.uponIn Fence.wide n P a next Q r:=by
 unfold Oper.upon at h;unfold Oper.uponIn;split at h
 ·exact h
 ·exact h
 ·exact h
 ·refine⟨λh=>by simp[Fence.wide]at h,?_⟩;refine((callsIn_wide (n:=n-1)).2 h).mono λe w' he=> ?_;cases e <;> exact he
 ·refine⟨λh=>by simp[Fence.wide]at h,λc cs _=> ?_⟩;obtain⟨v,w',r,s⟩:=h c cs;exact⟨v,w',r,stepsIn_wide.2 s⟩
 ·exact h
 ·exact h.elim
theorem D56 {ops:Array Oper}{Q:St->Prop}{R:Exit->Act->World->Prop}{n:Nat}{rest:List Nat}: ∀(l:List Oper) (as:List dC) (k:Nat) (σ:St) (a:Act) (w:World) (ob:Place) (G:Nat->Prop),
  S5 P N ops l=some as->(∀i o,l[i]? =some o->ops[k+i]? =some o)->Sim N σ a w ob G->A5c P as Q σ->
  (∀τ a' w' ob' G',Q τ->Sim N τ a' w' ob' G'->Fr G w ob G' w' ob'->D4 ob ob'->wpOpsIn Fence.wide n P ops R rest a' w')->
  wpOpsIn Fence.wide n P ops R (List.range' k l.length++rest) a w
 | [],as,k,σ,a,w,ob,G,hc,hl,hs,h,hQ=>by simp only[S5,za]at hc;subst hc;exact hQ σ a w ob G h hs (Fr.refl G w ob) (D4.refl ob)
 |o::l,as,k,σ,a,w,ob,G,hc,hl,hs,h,hQ=>by
  simp only[S5]at hc;split at hc
  case h_2=>cases hc
  rename_i ao as' h1 h2;cases hc;obtain⟨b,r,hd,hk⟩:=B2u h;have ho:ops[k]? =some o:=by simpa using hl 0 o p_
  simp only[List.length_cons,yq,List.cons_append];simp only[wpOpsIn,ho];have:=C10 (K:=wpOpsIn Fence.wide n P ops R (List.range' (k+1) l.length++rest)) (Q:=R) h1 hs hd (λa' w' ob' G' s f e=>D56 l as' (k+1) _ a' w' ob' G' h2
   (λi o' hi=>by have:=hl (i+1) o' (by simpa using hi);grind) s hk
   (λτ a'' w'' ob'' G'' q s' f' e'=>hQ τ a'' w'' ob'' G'' q s' (f.trans f') (e.trans e')))
  by_cases hw:Region.wanted o (yielded ops a.tmps)=true
  ·rw[zc hw]at this⊢;exact⟨λ_ _=>trivial,E84 this⟩
  ·rw[zb hw]at this⊢;exact⟨λ_ _=>trivial,this⟩
theorem C55 {ops:Array Oper}: ∀ {pre:List dC} {l:List Oper} {x:dC} {post:List dC},S5 P N ops l=some (pre++x::post)->
  ∃l1 o l2,l=l1++o::l2/\S5 P N ops l1=some pre/\B17 P N ops o=some x/\S5 P N ops l2=some post
 | [],[],x,post,h=>by simp[S5]at h
 | [],o::l,x,post,h=>by
   simp only[S5]at h;split at h
   ·rename_i h1 h2;simp only[List.nil_append,za,xh]at h;obtain⟨rfl,rfl⟩:=h;exact⟨[],o,l,rfl,rfl,h1,h2⟩
   ·cases h
 |p::pre,[],x,post,h=>by simp[S5]at h
 |p::pre,o::l,x,post,h=>by
  simp only[S5]at h;split at h
  ·rename_i h1 h2;simp only[List.cons_append,za,xh]at h;obtain⟨rfl,rfl⟩:=h;obtain⟨l1,o',l2,rfl,g1,g2,g3⟩:=C55 h2;exact⟨o::l1,o',l2,rfl,by simp only[S5,h1,g1],g2,g3⟩
  ·cases h
variable {α:Type}
def SJ(I:C0t P α)(N:Nat)(T:Slots)(pre:List α)(a:Act)(W:World):Prop:=∃ob G Φ,Sim N (A19 T []) a W ob G/\I.J pre W Φ/\ ∀b,G b-> ¬Φ b
variable {w:World} {G:Nat->Prop} {ob:Place}
theorem C8z(h:E8 G w ob (ofL [])):ob=λ_=>none:=by funext id;exact(h.dom id).1 rfl
variable {ob':Place} {G':Nat->Prop} {τ:St} {I:C0t P α} {pre:List α}
theorem SJ.step {T':Slots}{a':Act}{W W':World}{Φ:Nat->Prop}(hs:Sim N (A19 T []) a W ob G)(hJ:I.J pre W Φ)(hd: ∀b,G b-> ¬Φ b)
  (s:Sim N τ a' W' ob' G')(f:Fr G W ob G' W' ob')(hw:V5 [] τ T' []):SJ I N T' pre a' W':=by
 obtain⟨ρ,A,hw⟩:=hw;obtain⟨ob2,G2,g1,g2,_⟩:=B3d s hw;have f2:=f.trans g2
 have e0:=C8z hs.objs;subst e0;have hx:Ext W W':=Ext.of_fr f2;refine⟨ob2,G2,Φ,g1,I.ext _ _ _ _ hJ hx,λb hb hΦ=> ?_⟩;have hlt:=I.lt _ _ _ b hJ hΦ;rcases f2.new b hb with h |h |⟨id,i,h,_⟩
 ·exact hd b h hΦ
 ·omega
 ·cases h
def Yp(I:C0t P α)(N:Nat)(ac:ACode)(Q:Out->Slots->List α->Prop)(T:Slots)(pre:List α):Prop:=∀c,F2 P N c=some ac.strip-> ∀a W,SJ I N T pre a W->c.wp P (λe a' W'=> ∃o T' pre',e=Out.exit' o/\Q o T' pre'/\SJ I N T' pre' a' W') a W
variable {ac:ACode}
theorem Yp.plain {Q:Out->Slots->List α->Prop}(h:Wp P N [] ac (λo τ=> ∃T',Q o T' pre/\V5 [] τ T' []) (A19 T [])):Yp I N ac Q T pre:=by intro c hc a W ⟨ob,G,Φ,hs,hJ,hd⟩;refine wp_mono (h c hc ⟨G,W,ob⟩ a W ob G hs ⟨Fr.refl G W ob,λid i hk=>by cases hk⟩) ?_;rintro e a' W' ⟨o,τ,ob',G',rfl,⟨T',q,hw⟩,s,hΓ⟩;exact⟨o,T',pre,rfl,q,SJ.step hs hJ hd s hΓ.fr hw⟩
def E4u(f:Slots->List α->Prop)(Q:Out->Slots->List α->Prop):Out->Slots->List α->Prop
 | .normal,T,p=>f T p
 |o,T,p=>Q o T p
def D8u(id:Nat)(Q:Out->Slots->List α->Prop):Out->Slots->List α->Prop
 | .exit i,T,p=>if i=id then Q .normal T p else Q (.exit i) T p
 |o,T,p=>Q o T p
theorem Yp.seq {I:C0t P α}{x y:ACode}{Q:Out->Slots->List α->Prop}{T:Slots}{pre:List α}(h:Yp I N x (E4u (λT' p'=>Yp I N y Q T' p') Q) T pre):Yp I N (.seq x y) Q T pre:=by
 intro c hc a W hS;cases c <;> simp only[F2,ACode.strip,za,reduceCtorEq]at hc
 case seq c1 c2=>
  split at hc
  ·rename_i x' y' h1 h2;simp only[za,ACode.seq.injEq]at hc;obtain⟨rfl,rfl⟩:=hc;refine wp_seq (wp_mono (h c1 h1 a W hS) ?_);rintro e a' w' ⟨o,T',p',rfl,hq,s⟩;cases o with
   |normal=>exact hq c2 h2 a' w' s
   |exit i=>exact⟨.exit i,T',p',rfl,hq,s⟩
   |ret=>exact⟨.ret,T',p',rfl,hq,s⟩
  ·cases hc
 all_goals grind
theorem Yp.block {I:C0t P α}{id:Nat}{x:ACode}{Q:Out->Slots->List α->Prop}{T:Slots}{pre:List α}(h:Yp I N x (D8u id Q) T pre):Yp I N (.block id x) Q T pre:=by
 intro c hc a W hS;cases c <;> simp only[F2,ACode.strip,za,reduceCtorEq]at hc
 case block id' c1=>
  split at hc
  ·rename_i x' h1;simp only[za,ACode.block.injEq]at hc;obtain⟨rfl,rfl⟩:=hc;refine wp_block (wp_mono (h c1 h1 a W hS) ?_);rintro e a' w' ⟨o,T',p',rfl,hq,s⟩;cases o with
   |normal=>exact⟨.normal,T',p',rfl,hq,s⟩
   |exit i=>
    simp only[Out.exit',Exit.inBlock];simp only[D8u]at hq
    grind
   |ret=>exact⟨.ret,T',p',rfl,hq,s⟩
  ·cases hc
 all_goals grind
theorem Yp.cond {I:C0t P α}{k:AX}{t:Bool}{x y:ACode}{Q:Out->Slots->List α->Prop}{T:Slots}{pre:List α}(ht:(A19 T []).ev k=some (true, .sc (.bool t)))(h:Yp I N (if t=true then x else y) Q T pre):Yp I N (.cond k x y) Q T pre:=by
 intro c hc a W hS;cases c <;> simp only[F2,ACode.strip,za,reduceCtorEq]at hc
 case cond c0 c1 c2=>
  split at hc
  ·rename_i k' x' y' h0 h1 h2;simp only[za,ACode.cond.injEq]at hc;obtain⟨rfl,rfl,rfl⟩:=hc;obtain⟨ob,G,Φ,hs,hJ,hd⟩:=hS;have hv:a.eval c0= .bool t:=(hs.opRel c0 k' (.sc (.bool t)) h0 (by simp[St.e',ht])).sc_eq;refine wp_cond hv ?_;cases t with
   |true=>rw[zc rfl]at h;exact h c1 h1 a W ⟨ob,G,Φ,hs,hJ,hd⟩
   |false=>rw[zb p_]at h;exact h c2 h2 a W ⟨ob,G,Φ,hs,hJ,hd⟩
  ·cases hc
 all_goals grind
theorem Yp.loop {I:C0t P α}{x:ACode}{Q:Out->Slots->List α->Prop}{ι:Type}(T:ι->Slots)(p:ι->List α)(μ:ι->Nat)(i0:ι)
  (h: ∀i,Yp I N x (E4u (λT' p'=> ∃i',μ i'<μ i/\T'=T i'/\p'=p i') Q) (T i) (p i)):Yp I N (.loop x) Q (T i0) (p i0):=by
 intro c hc a W hS;cases c <;> simp only[F2,ACode.strip,za,reduceCtorEq]at hc
 case loop c1=>
  split at hc
  ·rename_i x' h1;simp only[za,ACode.loop.injEq]at hc;obtain rfl:=hc;intro b k cs;have key: ∀n i,μ i=n-> ∀(a':Act) (w':World),SJ I N (T i) (p i) a' w'->
     ∃e a2 w2,(∃o T' pre',e=Out.exit' o/\Q o T' pre'/\SJ I N T' pre' a2 w2)/\Arrives P (lone (b.at a' (.code c1:: .inLoop c1::k)) cs w') b k cs e a2 w2:=by
    intro n;induction n using Nat.strongRecOn with
    |_ n ih=>
     intro i hn a' w' hs';obtain⟨e,a1,w1,hq,harr⟩:=h i c1 h1 a' w' hs' b (.inLoop c1::k) cs;obtain⟨o,T',p',rfl,hq,s⟩:=hq;cases o with
     |normal=>obtain⟨i',hlt,rfl,rfl⟩:=hq;obtain⟨e2,a2,w2,hq2,harr2⟩:=ih (μ i') (hn▸hlt) i' rfl a1 w1 s;exact⟨e2,a2,w2,hq2, .of_steps (Steps.trans harr (.one step_inLoop)) harr2⟩
     |exit id=>exact⟨.exit id,a1,w1,⟨.exit id,T',p',rfl,hq,s⟩, .pass (x:= .inLoop c1) rfl (λ_ _=> .inl p_) harr⟩
     |ret=>exact⟨.ret,a1,w1,⟨.ret,T',p',rfl,hq,s⟩, .pass (x:= .inLoop c1) rfl (λ_ _=> .inl p_) harr⟩
   obtain⟨e,a',w',hq,harr⟩:=key _ i0 rfl a W hS;exact⟨e,a',w',hq, .of_steps (.one step_loop) harr⟩
  ·cases hc
 all_goals grind
variable {avs:List AV} {xs:List AX}
theorem E9a {ops:Array Oper}{o:Oper}{d:Option Nat}{x:AX}{W:World}{l:Nat}(hc:B17 P N ops o=some ⟨d, .callv x xs,none,[]⟩)(hs:Sim N τ a W ob G)
  (hx:τ.ev x=some (true, .fn (.yield l) [] []))(he:τ.es xs=some avs)(ht: ∀y∈xs,τ.c y=true):
  ∃vals:List Value,(execOp a.eval o).run P W=(Instr.yield l vals.toArray).run P W/\A59 G W ob avs vals:=by
 obtain⟨hop,-,-⟩:=C0z hc;obtain⟨dst,op,type,pos,after,guard⟩:=o;simp only at hop;have hop':cop P op=some (.callv x xs):=by
  unfold A8g at hop
  grind
 obtain⟨cl,rfl⟩:=(D02 hop').2 rfl;simp only[cop]at hop';obtain⟨callee,args,argTypes⟩:=cl;obtain⟨args⟩:=args;obtain⟨argTypes⟩:=argTypes;simp only at hop';split at hop'
 case h_9=>
  rename_i y _;split at hop'
  case h_2=>cases hop'
  rename_i ax al hax hal;simp only[za,AOp.callv.injEq]at hop';obtain⟨rfl,rfl⟩:=hop';have hxr:=hs.opRel y ax _ hax (by unfold St.e';rw[hx])
  have har:=D0r hs hal he ht;generalize hxv:a.eval y=xv at hxr;cases hxr with
  |fn fs us hn hm hr hq=>
   have e1:fs= #[]:=qI (by simpa using hn)
   have e2:us= #[]:=qI (by simpa using hm);subst e1;subst e2;refine⟨args.map a.eval,?_,har⟩;simp[execOp,resolve,hxv,Deferred.ofValue,invoke]
 all_goals(exfalso;(repeat' split at hop') <;> simp at hop')
variable {d:Nat}
theorem Yp.yield {pr po:List dC}{x:AX}{p:List α}{Q:Out->Slots->List α->Prop}(v:α)(hp:p.length<I.bound)(hE: ∀G W ob vals,A59 G W ob (I.encs v) vals-> ∀G' ob',A59 G' W ob' (I.encs v) vals)
  {A:St->Prop}(h1:A5c P pr A (A19 T []))(hA: ∀τ,A τ->τ.ev x=some (true, .fn (.yield I.l) [] [])/\τ.es xs=some (I.encs v)/\(∀y∈xs,τ.c y=true)/\τ.objs=ofL []/\
    ∃B,A5c P po B (τ.put (some d) true ⟨some (.sc (.bool true)),[]⟩)/\ ∀τ',B τ'-> ∃T',Q .normal T' (p++ [v])/\V5 [] τ' T' []):Yp I N (.region false (pr++⟨some d, .callv x xs,none,[]⟩::po)) Q T p:=by
 intro c hc a W ⟨ob,G,Φ,hs,hJ,hd⟩;cases c <;> simp only[F2,ACode.strip,za,reduceCtorEq]at hc
 case region id os draw=>
  split at hc
  ·rename_i as has;simp only[za,ACode.region.injEq]at hc;obtain⟨rfl,rfl⟩:=hc;unfold A87 at has;split at has
   ·rename_i as' hcop;simp only[zf,zJ,za]at has;subst has;obtain⟨l1,o,l2,hl,c1,c2,c3⟩:=C55 hcop;have hget: ∀i o',(l1++o::l2)[i]? =some o'->os[i]? =some o':=λi o' hi=>by rw[<-hl,Array.getElem?_toList]at hi;exact hi
    refine(wpIn_wide (n:=1)).1 (wpIn_region ?_);have hr:List.range os.size=List.range' 0 l1.length++(l1.length::List.range' (l1.length+1) l2.length):=by
     have e:os.size=l1.length+(l2.length+1):=by rw[<-Array.length_toList,hl];simp
     rw[e,ya,List.range'_append_1.symm,qk];rfl
    rw[hr];refine D56 l1 pr 0 _ a W ob G c1 (λi o' hi=>hget _ _ (by grind)) hs h1 ?_;rintro τ a1 W1 ob1 G1 hAτ s1 f1 _;obtain⟨hx,he,ht,hob,B,hpo,hB⟩:=hA τ hAτ;have e0:=C8z hs.objs;subst e0;have hX:=Ext.of_fr f1
    have e1:ob1=λ_=>none:=by have:=s1.objs;rw[hob]at this;exact C8z this
    subst e1;have hJ1:=I.ext _ _ _ _ hJ hX
    have hd1: ∀b,G1 b-> ¬Φ b:=λb hb hΦ=>by
     have hlt:=I.lt _ _ _ b hJ hΦ;rcases f1.new b hb with h |h |⟨id,i,h,_⟩
     all_goals grind
    obtain⟨vals,hrun,hrel⟩:=E9a c2 s1 hx he ht;obtain⟨fn,tmps,asg,bd,hy,hR⟩:=I.rnd p v W1 Φ vals hJ1 hp (λG' ob'=>hE _ _ _ _ hrel _ _);have ho:os[l1.length]? =some o:=hget _ _ (by grind)
    have hgw:Region.wanted o (yielded os a1.tmps)=true:=C6k s1 c2 rfl;simp only[wpOpsIn,ho];rw[zc hgw];obtain⟨_,hdst,hdN⟩:=C0z c2;refine⟨λ_ _=>trivial,?_⟩;show o.uponIn Fence.wide 1 P a1 _ _ ((execOp a1.eval o).run P W1);rw[hrun,hy];refine⟨λh=>by simp[Fence.wide]at h,(hR 0).mono ?_⟩;rintro e W2 ⟨rfl,Φ',hJ2,hΦ',hsz,hsame⟩;show wpOpsIn Fence.wide 1 P os _ _ (a1.put o.dst (.bool true)) W2;have s2:Sim N τ a1 W2 (λ_=>none) G1:=s1.frame hsz λb hb hc=>by
     rcases hc with hc |⟨id,i,h,_⟩
     all_goals grind
    have hd2: ∀b,G1 b-> ¬Φ' b:=λb hb hΦ=>by
     rcases hΦ' b hΦ with h |h
     ·exact hd1 b hb h
     ·have:=s1.objs.lt b hb;omega
    rw[<-hdst];have s3:Sim N (τ.put (some d) true ⟨some (.sc (.bool true)),[]⟩) (a1.put (some d) (.bool true)) W2 (λ_=>none) G1:=s2.put_true (dst:=some d) (r:=⟨some (.sc (.bool true)),[]⟩) (v:= .bool true) (by rw[<-hdst]at hdN;exact hdN) s2.objs (λav hav=>by cases hav;exact .sc rfl) (D4.refl _) (Fr.refl _ _ _)
    have:=D56 (n:=1) (R:=λe a' W'=> ∃o T' pre',e=Out.exit' o/\Q o T' pre'/\SJ I N T' pre' a' W') (rest:= []) l2 po (l1.length+1) _ _ W2 _ G1 c3 (λi o' hi=>hget _ _ (by rw[zY o_,show l1.length+1+i-l1.length=i+1 by omega];simpa using hi)) s3 hpo ?_
    ·rw[qF]at this;exact this
    ·rintro τ' a3 W3 ob3 G3 hBτ s4 f4 _;obtain⟨T',q,hw'⟩:=hB τ' hBτ;refine⟨.normal,T',p++ [v],rfl,q,?_⟩;have s2':Sim N (A19 [] []) a1 W2 (λ_=>none) G1:=⟨s2.size,s2.defers,by have:=s2.objs;rw[hob]at this;exact this,λt av h=>by simp[A19,A2e]at h,λt av h=>by simp[A19,A2e]at h⟩;exact SJ.step s2' hJ2 hd2 s4 f4 hw'
   ·cases has
  ·cases hc
 all_goals grind
variable {f:FuncId} {fn:Func}
theorem E7v {caps:List AV}{xs:List α}{us:List Value}{W:World}{Φ:Nat->Prop}
  (hf:P.funcs[f]? =some fn)(hb:fn.body=some (fn.body.getD .skip))(hc:F2 P fn.ntmps (fn.body.getD .skip)=some ac.strip)(hts:A6e P fn.results.toList=some [])(hl:(caps.length+1)<=fn.ntmps)
  (hr:A59 G W (λ_=>none) caps us)(hlt: ∀b,G b->b<W.heap.size)(hJ:I.J [] W Φ)(hd: ∀b,G b-> ¬Φ b)
  {T:Slots}(hT: ∀t av,A2e T t=some (true,av)->(AV.fn (.yield I.l) [] []::caps)[t]? =some av)(h:Yp I fn.ntmps ac (λo _ p=>(o= .normal\/o= .ret)/\p=xs) T []):
  CallsIn Fence.wide 1 P f (#[.func (.yield I.l) #[] #[]]++us.toArray) W λe W'=>(∃v,e= .returned v)/\ ∃Φ',I.J xs W' Φ':=by
 refine callsIn_wide.2 (calls_of_wp hf hb ?_);have hus:us.length=caps.length:=hr.1
 have hs0:Sim fn.ntmps (A19 T []) {tmps:=(#[Value.func (.yield I.l) #[] #[]]++us.toArray)++Array.replicate (fn.ntmps-(#[Value.func (.yield I.l) #[] #[]]++us.toArray).size) undef,defers:= []} W (λ_=>none) G:=by
  refine⟨by simp;omega,rfl,⟨λid=>by simp[A19,ofL,wrm],λ_ _ _ _ _ h=>(by cases h),hlt,λ_ _ _ _ h=>(by cases h),λ_ _ _ _ _ _ h=>(by cases h)⟩,λt av ht=> ?_,λt av ht=>absurd ht B21⟩;have h1:=hT t av ht;cases t with
  |zero=>
   simp only[List.getElem?_cons_zero,za]at h1;subst h1;have e1:(#[Value.func (.yield I.l) #[] #[]]++us.toArray:Array Value)[0]? =some (.func (.yield I.l) #[] #[]):=by grind
   refine⟨.func (.yield I.l) #[] #[],(by grind), .fn #[] #[] rfl rfl (λj av hj=>by simp at hj) (λj av hj=>by simp at hj)⟩
  |succ t=>
   simp only[List.getElem?_cons_succ]at h1;have h2:=hr.2 t av h1
   have hlt:t<us.length:=by grind
   refine⟨us.getD t undef,?_,h2⟩;rw[ye (by simp;omega),Array.getElem?_append_right p_];simp[List.getD,hlt]
 refine wp_mono (h _ hc _ W ⟨_,G,Φ,hs0,hJ,hd⟩) ?_;rintro e a' W' ⟨o,T',p',rfl,⟨ho,rfl⟩,ob',G',Φ',s,hJ',_⟩;obtain⟨σ2,a2,v,k1,k2,hv,hv'⟩:=B82 (K:=λ_=>True) hts s (λp hp=>by cases hp) trivial;have fin:a'.defers= []/\ ∃v,(results fn a'.tmps).run P W'= .ok v W'/\((∃u,Ending.returned v= .returned u)/\ ∃Φ',I.J p' W' Φ'):=⟨s.defers,v,hv,⟨v,rfl⟩,Φ',hJ'⟩;rcases ho with rfl |rfl
 ·exact fin
 ·exact fin
end
section
variable {P:Program} {N:Nat} {α:Type}
variable {w:World} {G:Nat->Prop} {ob:Place} {i:Nat} {a:Act} {as:List dC}
theorem F1g {ops:Array Oper}{Q:St->Prop}(hc:S5 P N ops ops.toList=some as)(h:A5c P as Q σ)(hs:Sim N σ a w ob G)
  {R:Exit->Act->World->Prop}(hk: ∀τ a' w' ob' G',Q τ->Sim N τ a' w' ob' G'->Fr G w ob G' w' ob'->D4 ob ob'->R .normal a' w'):(Code.region i ops false).wp P R a w:=by
 refine wp_region ?_;have:=C88 (Q:=Q) (R:=R) ops.toList as 0 σ a w ob G hc (λi o hi=>by simpa using hi) hs h hk;rw[ya];simpa using this
theorem D6w {ops:Array Oper}{Q:St->Prop}(hc:S5 P N ops ops.toList=some as)(h:A5c P as Q σ)(hs:Sim N σ a w ob G){ds:List Deferred}
  {R:Exit->Act->World->Prop}(hk: ∀τ a' w' ob' G',Q τ->Sim N τ a' w' ob' G'->Fr G w ob G' w' ob'->D4 ob ob'->R .normal (a'.more ds) w'):(Code.region i ops false).wp P R (a.more ds) w:=by
 refine wp_region (C4y _ a w ?_);have:=C88 (Q:=Q) (R:=λe a w=>R e (a.more ds) w) ops.toList as 0 σ a w ob G hc (λi o hi=>by simpa using hi) hs h hk;rw[ya];simpa using this
variable {w':World} {ob':Place} {G':Nat->Prop}
theorem Fr.put {l:Nat}{o o0:Obj}(f:Fr G (w.putObj l o) ob G' w' ob')(hl:w.heap[l]? =some o0):Fr G w ob G' (w'.putObj l o0) ob':=by
 have hlt:l<w.heap.size:=(qb.1 hl).1
 have hsz:w.heap.size<=w'.heap.size:=by have:=f.size;simpa using this
 refine⟨by simpa using hsz,λb hb hc=> ?_,λb hb=> ?_,f.sub,λb hb=> ?_,?_,?_,?_,?_⟩
 ·by_cases e:b=l
  ·subst e;rw[World.putObj_heap_same o_,hl]
  ·rw[World.putObj_heap_other e,f.same b (by simpa using hb) hc,World.putObj_heap_other e]
 ·have:=f.blk b hb;simpa using this
 ·have:=f.new b hb;simpa using this
 ·exact f.os
 ·exact f.tape
 ·exact f.output
 ·exact f.drawn
structure F5q (P:Program) (f:FuncId) (R:RfT) (ps:List Nat) (acA acB:ACode):Prop where
 ok: ∃(fn:Func) (i0 i1 i2 i3 i4 j:Nat) (o0 o1 o2 o3 o4:Array Oper) (asg bd:Code),P.funcs[f]? =some fn/\
  fn.body=some (.seq (.region i0 o0 false) (.seq (.region i1 o1 false) (.seq (.seq (.region i2 o2 false) (.block j (.rangeFunc (.tmp R.gx) ps.toArray asg bd))) (.seq (.region i3 o3 false) (.seq (.region i4 o4 false) .ret)))))/\
  (fn.name != "runtime.NumGoroutine")=true/\S5 P fn.ntmps o0 o0.toList=some R.as0/\S5 P fn.ntmps o1 o1.toList=some R.as1/\S5 P fn.ntmps o2 o2.toList=some R.as2/\
  S5 P fn.ntmps o3 o3.toList=some R.as3/\S5 P fn.ntmps o4 o4.toList=some R.as4/\A6e P fn.results.toList=some R.rvs/\(R.rvs.all λp=>p.1.blt fn.ntmps)=true/\fn.ntmps=R.nt/\
  F2 P R.nt asg=some acA.strip/\F2 P R.nt bd=some acB.strip/\A3g asg=true/\A3g bd=true/\plA acA=true/\plA acB=true
def psS:List Nat->List AV->Slots
 |p::ps,v::vs=>(p, .cA,v)::psS ps vs
 |_,_=> []
def F15(P:Program)(h:FuncId)(caps:List AV)(encs:α->List AV)(xs:List α):Prop:=
 ∀(I:C0t P α),I.encs=encs->I.bound=xs.length-> ∀(us:List Value) (W:World) (G Φ:Nat->Prop),A59 G W (λ_=>none) caps us->(∀b,G b->b<W.heap.size)->I.J [] W Φ->(∀b,G b-> ¬Φ b)->
  CallsIn Fence.wide 1 P h (#[.func (.yield I.l) #[] #[]]++us.toArray) W λe W'=>(∃v,e= .returned v)/\ ∃Φ',I.J xs W' Φ'
structure D58 (P:Program) (R:RfT) (ps:List Nat) (acA acB:ACode) (rs:List AV) (α:Type) (τ:St) (h:FuncId) (caps:List AV) (T:Slots) (Obj:List α->List (Nat×A7)) (encs:α->List AV) (xs:List α):Prop where
 gx:τ.env R.gx=some (true, .fn (.func h) [] caps)
 pure:A2m caps=true
 call:A3p P h=true
 weak:V5 [] τ T (Obj [])
 nd: ∀pre id o,ofL (Obj pre) id=some o->o.NoDsl/\o.owned=true
 len: ∀x,(encs x).length=ps.length
 it:F15 P h caps encs xs
 body: ∀pre x,pre.length<xs.length->W P R.nt [] acA (λo τ1=>o= .normal/\W P R.nt [] acB (λo τ2=>o= .normal/\V5 ((Obj pre).map (·.1)) τ2 [] (Obj (pre++ [x]))) τ1) (A19 (psS ps (encs x)++T) (Obj pre))
 post:A5c P R.as3 (λτ'=>A5c P R.as4 (λτ''=>(B33 R.nt [] R.rvs rs []).q .ret τ'') τ') (A19 T (Obj xs))
theorem C6g: ∀(ps:List Nat) (vs:List Value) (t0:Array Value),((ps.zip vs).foldl (λ(t:Array Value) (p:Nat×Value)=>t.setIfInBounds p.1 p.2) t0).size=t0.size
 | [],_,t0=>by simp
 |p::ps,[],t0=>by simp
 |p::ps,v::vs,t0=>by simp only[List.zip_cons_cons,List.foldl_cons];rw[C6g ps vs];simp
theorem C9z: ∀(ps:List Nat) (vs:List Value) (t0:Array Value) (t:Nat),t∉ps->((ps.zip vs).foldl (λ(t:Array Value) (p:Nat×Value)=>t.setIfInBounds p.1 p.2) t0)[t]? =t0[t]?
 | [],_,t0,t,_=>by simp
 |p::ps,[],t0,t,_=>by simp
 |p::ps,v::vs,t0,t,h=>by simp only[zo,qy]at h;simp only[List.zip_cons_cons,List.foldl_cons];rw[C9z ps vs _ t h.2,qQ (λe=>h.1 e.symm)]
theorem E35 {G:Nat->Prop}{w:World}{ob:Place}: ∀(ps:List Nat) (avs:List AV) (vs:List Value) (t0:Array Value) (T:Slots),ps.Nodup->(∀p∈ps,p<t0.size)->avs.length=ps.length->A59 G w ob avs vs->
  (∀t av,A2e T t=some (true,av)-> ∃v,t0[t]? =some v/\Rel G w ob av v)->
  ∀t av,A2e (psS ps avs++T) t=some (true,av)-> ∃v,((ps.zip vs).foldl (λ(t:Array Value) (p:Nat×Value)=>t.setIfInBounds p.1 p.2) t0)[t]? =some v/\Rel G w ob av v
 | [],avs,vs,t0,T,_,_,_,_,hT,t,av,h=>by simpa[psS]using hT t av (by simpa[psS]using h)
 |p::ps,[],vs,t0,T,_,_,hl,_,hT,t,av,h=>by simp at hl
 |p::ps,v::avs,vs,t0,T,hn,hb,hl,hr,hT,t,av,h=>by
  obtain⟨h1,h2⟩:=hr;cases vs with
  |nil=>simp at h1
  |cons u us=>
   simp only[psS,List.cons_append,A2e]at h;simp only[List.zip_cons_cons,List.foldl_cons];rw[yG]at hn;split at h
   ·rename_i e;subst e;simp only[za,zq,qo]at h;subst h;refine⟨u,?_,by simpa using h2 0 v rfl⟩;rw[C9z ps us _ t hn.1]
    grind
   ·rename_i e;refine E35 ps avs us (t0.setIfInBounds p u) (T.filter λs=>s.1 != p) hn.2 (λq hq=>by simpa using hb q (qf _ hq)) (by simpa using hl) ⟨by simpa using h1,λj av hj=>by simpa using h2 (j+1) av (by simpa using hj)⟩ ?_ t av ?_
    ·intro t' av' h';have:t'≠p/\A2e T t'=some (true,av'):=by
      clear hT h;induction T with
      |nil=>simp[A2e]at h'
      |cons s T ih=>
       obtain⟨k,md,c⟩:=s;simp only[yY]at h';split at h'
       ·rename_i hk;simp only[qB,ne_eq]at hk;simp only[A2e]at h'⊢
        grind
       ·rename_i hk;simp only[qB,ne_eq,qe]at hk;have:=ih h';refine⟨this.1,?_⟩;simp only[A2e]
        grind
     grind
    ·have app: ∀(A:Slots) (T:Slots),A2e (A++T) t=some (true,av)->A2e (A++T.filter λs=>s.1 != p) t=some (true,av):=by
      intro A T hh;induction A with
      |nil=>
       simp only[List.nil_append]at hh⊢;induction T with
       |nil=>exact hh
       |cons s T ih=>
        obtain⟨k,md,c⟩:=s;simp only[yY];simp only[A2e]at hh;split at hh
        ·rename_i e';rw[zc (by grind)];simp only[A2e];rw[zc e'];exact hh
        ·rename_i e';split
         ·simp only[A2e];rw[zb e'];exact ih hh
         ·exact ih hh
      |cons s A ih=>
       obtain⟨k,md,c⟩:=s;simp only[List.cons_append,A2e]at hh⊢
       grind
     exact app _ _ h
end
section
variable {P:Program} {N:Nat} {α:Type}
variable {w:World} {G:Nat->Prop} {ob:Place}
theorem E76(h:E8 G w ob (ofL O)){id:Nat}{i:L4}(hi:ob id=some i):id∈O.map (·.1):=by
 cases ho:ofL O id with
 |none=>rw[(h.dom id).1 ho]at hi;cases hi
 |some o=>obtain⟨o',ho'⟩:=A9b (by rw[ho];rfl);exact qS (f:=(·.1)) ho'
structure RJ (R:RfT) (T:Slots) (Obj:List α->List (Nat×A7)) (a:Act) (w:World) (ob:Place) (G:Nat->Prop) (l D:Nat) (rec:Loop) (pre:List α) (W:World) (Φ:Nat->Prop) (ob':Place):Prop where
 sim:Sim R.nt (A19 T (Obj pre)) a W ob' G
 fr:Fr G w ob G W ob'
 ext:D4 ob ob'
 hl:W.heap[l]? =some (.loop rec)
 hD:W.heap[D]? =some (.deferred (some []))
 ne: ∀b,P6 ob' b->b≠l/\b≠D
 phi:Φ=λb=>b=l\/b=D\/P6 ob' b
def B02(fnId:FuncId)(a:Act)(ps:List Nat)(asg bd:Code)(D:Nat)(s:LoopState):Loop:= {state:=s,pending:=none,fn:=fnId,tmps:=a.tmps,params:=ps.toArray,assign:=asg,body:=bd,defers:=D}
variable {a:Act} {D:Nat} {acA acB:ACode}
theorem F44 {R:RfT}{Obj:List α->List (Nat×A7)}{l:Nat}{ps:List Nat}{asg bd:Code}{fnId:FuncId}{encs:α->List AV}
  (hw: ∀b,G b->b<w.heap.size)(hlw:w.heap.size<=l)(hDw:w.heap.size<=D)(hpn:ps.Nodup)(hpN: ∀p∈ps,p<R.nt)(hlen: ∀x,(encs x).length=ps.length)(hlD:l≠D)
  (hca:F2 P R.nt asg=some acA.strip)(hcb:F2 P R.nt bd=some acB.strip)(hna:A3g asg=true)(hnb:A3g bd=true)(hpa:plA acA=true)(hpb:plA acB=true)(nd: ∀pre id o,ofL (Obj pre) id=some o->o.NoDsl)
  {pre:List α}{x:α}{W:World}{Φ:Nat->Prop}{ob':Place}{vals:List Value}
  (hJ:RJ R T Obj a w ob G l D (B02 fnId a ps asg bd D .ready) pre W Φ ob')
  (hr: ∀G ob,A59 G W ob (encs x) vals)
  (hbody:Go.Abs.W P R.nt [] acA (λo τ1=>o= .normal/\Go.Abs.W P R.nt [] acB (λo τ2=>o= .normal/\V5 ((Obj pre).map (·.1)) τ2 [] (Obj (pre++ [x]))) τ1) (A19 (psS ps (encs x)++T) (Obj pre))):
  ∃tmps,(Instr.yield l vals.toArray).run P W= .ok (.round l fnId tmps asg bd) W/\
   ∀n,RoundIn Fence.wide n P l fnId tmps asg bd W λe W'=>e= .returned (.bool true)/\ ∃Φ',(∃ob'',RJ R T Obj a w ob G l D (B02 fnId a ps asg bd D .ready) (pre++ [x]) W' Φ' ob'')/\
    (∀b,Φ' b->Φ b\/W.heap.size<=b)/\W.heap.size<=W'.heap.size/\ ∀b,b<W.heap.size-> ¬Φ b->W'.heap[b]? =W.heap[b]? :=by
 obtain⟨s,f,xt,hl,hD,hne,rfl⟩:=hJ;have hvl:vals.length=ps.length:=by rw[(hr G ob').1,hlen]
 have hy:=run_yield (P:=P) (args:=vals.toArray) hl (by simp[B02,hvl])
 have hll:l<W.heap.size:=(qb.1 hl).1
 have hDl:D<W.heap.size:=(qb.1 hD).1;refine⟨_,hy,λn=>roundIn_of_wpIn trivial ?_⟩;have hfold:((B02 fnId a ps asg bd D .ready).params.zip vals.toArray).foldl (λ(tmps:Array Value) (x:Nat×Value)=>tmps.setIfInBounds x.1 x.2) a.tmps=(ps.zip vals).foldl (λ(t:Array Value) (p:Nat×Value)=>t.setIfInBounds p.1 p.2) a.tmps:=by show(ps.toArray.zip vals.toArray).foldl _ _=_;rw[List.zip_toArray,List.foldl_toArray]
 have s0:Sim R.nt (A19 (psS ps (encs x)++T) (Obj pre)) {tmps:=((B02 fnId a ps asg bd D .ready).params.zip vals.toArray).foldl (λ(tmps:Array Value) (x:Nat×Value)=>tmps.setIfInBounds x.1 x.2) a.tmps,defers:= []} W ob' G:=by rw[hfold];refine⟨by rw[C6g];exact s.size,rfl,s.objs,λt av ht=> ?_,λt av ht=>absurd ht B21⟩;exact E35 ps (encs x) vals a.tmps T hpn (λp hp=>by rw[s.size];exact hpN p hp) (hlen x) (hr G ob') (λt av ht=>s.env t av ht) t av ht
 have hlb: ¬P6 ob' l:=λh=>(hne l h).1 rfl
 have hDb: ¬P6 ob' D:=λh=>(hne D h).2 rfl
 have hGl: ¬G l:=λh=>by have:=hw l h;omega
 have hGD: ¬G D:=λh=>by have:=hw D h;omega
 refine B45 asg acA hna hpa hca s0 hbody ?_;rintro τ1 a1 W1 ob1 G1 ⟨_,hb1⟩ s1 f1 x1;have hl1:W1.heap[l]? =some (.loop (B02 fnId a ps asg bd D .ready)):=(f1.same l hll (.inr hlb)).trans hl
 have hll1:l<W1.heap.size:=(qb.1 hl1).1
 have nG1: ¬G1 l:=λh=>by
  rcases f1.new l h with h |h |h
  all_goals grind
 have nB1: ¬P6 ob1 l:=λh=>by
  rcases f1.blk l h with h |h
  ·exact hlb h
  ·omega
 refine⟨_,run_beginRound hl1 rfl,?_⟩;have s1':Sim R.nt τ1 a1 (W1.putObj l (.loop {B02 fnId a ps asg bd D .ready with state:= .busy})) ob1 G1:=s1.frame p_ λb hb hc=>World.putObj_heap_other λe=>by grind
 refine B45 bd acB hnb hpb hcb s1' hb1 ?_;rintro τ2 a2 W2 ob2 G2 ⟨_,hwk⟩ s2 f2 x2;have hl2:W2.heap[l]? =some (.loop {B02 fnId a ps asg bd D .ready with state:= .busy}):=by rw[f2.same l (by simpa using hll1) (.inr nB1)];exact World.putObj_heap_same hll1
 have hll2:l<W2.heap.size:=(qb.1 hl2).1
 have f2':=Fr.put f2 hl1
 have nG2: ¬G2 l:=λh=>by
  rcases f2'.new l h with h |h |h
  all_goals grind
 have nB2: ¬P6 ob2 l:=λh=>by
  rcases f2'.blk l h with h |h
  ·exact nB1 h
  ·omega
 have s2':Sim R.nt τ2 a2 (W2.putObj l (.loop (B02 fnId a ps asg bd D .ready))) ob2 G2:=s2.frame p_ λb hb hc=>World.putObj_heap_other λe=>by grind
 obtain⟨ρ,A,hwk⟩:=hwk;obtain⟨ob4,G4,g1,g2,g3⟩:=B3d s2' hwk;have F:Fr G W ob' G4 (W2.putObj l (.loop (B02 fnId a ps asg bd D .ready))) ob4:=(f1.trans f2').trans g2
 have hend:=run_endRound (P:=P) none hl2;refine⟨_,_,hend,?_⟩;show _=_/\_;refine⟨rfl,λb=>b=l\/b=D\/P6 ob4 b,⟨ob4,?_,?_,?_,?_,?_,?_,rfl⟩,?_,F.size,?_⟩
 ·refine⟨s.size,s.defers,g1.objs.shrink F.sub (nd _),λt av ht=> ?_,λt av ht=>absurd ht B21⟩;obtain⟨v,hv,hrel⟩:=s.env t av ht;refine⟨v,hv,hrel.ext (λ_ h=>h) (λb hb=>F.same b (by have:=f.size;have:=hw b hb;omega) (.inl hb)) λid i hi=> ?_⟩;obtain⟨i2,hi2,hh⟩:=(x1.trans x2) id i hi;exact⟨i2,by rw[g3 id (E76 s.objs hi)];exact hi2,hh⟩
 ·have F':=f.trans F
  exact⟨F'.size,F'.same,F'.blk,λ_ h=>h,λ_ h=> .inl h,F'.os,F'.tape,F'.output,F'.drawn⟩
 ·intro id i hi;obtain⟨i1,hi1,h1⟩:=xt id i hi;have h12:D4 ob' ob4:=λid i hi=>by
   obtain⟨i2,hi2,hh⟩:=(x1.trans x2) id i hi;exact⟨i2,by rw[g3 id (E76 s.objs hi)];exact hi2,hh⟩
  exact(xt.trans h12) id i hi
 ·exact World.putObj_heap_same hll2
 ·exact(F.same D hDl (.inr hDb)).trans hD
 ·intro b hb;rcases F.blk b hb with h |h
  all_goals grind
 ·rintro b (h |h |h)
  ·exact .inl (.inl h)
  ·exact .inl (.inr (.inl h))
  ·rcases F.blk b h with h |h
   all_goals grind
 ·intro b hb hn;exact F.same b hb (.inr λh=>hn (.inr (.inr h)))
variable {f:FuncId}
theorem F8s {R:RfT}{ps:List Nat}(hR:F5q P f R ps acA acB){avs rs:List AV}(hl0:avs.length<=R.nt)(hpn:ps.Nodup)(hpN: ∀p∈ps,p<R.nt)
  (hrun:A5c P R.as0 (λτ=>A5c P R.as1 (λτ=>A5c P R.as2 (λτ=> ∃h caps T Obj encs xs,D58 P R ps acA acB rs α τ h caps T Obj encs xs) τ) τ) (A02 avs [])):D5 P f avs [] (A5x rs) []:=by
 obtain⟨fn,i0,i1,i2,i3,i4,j,o0,o1,o2,o3,o4,asg,bd,hf,hb,hname,c0,c1,c2,c3,c4,hts,hlt,hnt,hca,hcb,hna,hnb,hpa,hpb⟩:=hR.ok;refine⟨by unfold A3p;rw[hf];simp only;rw[hb];simp[hname],λG w ob vals hs hr=> ?_⟩;refine callsIn_wide.1 (callsIn_of_wp_marks (F:=Fence.wide) (n:=1) hf hb trivial (wpIn_wide.2 ?_));have hst:Sim fn.ntmps (A02 avs []) {tmps:=vals.toArray++Array.replicate (fn.ntmps-vals.toArray.size) undef,defers:= []} w ob G:=C77 hs hr (by rw[hnt];exact hl0);refine wp_seq (F1g c0 hrun hst λτ0 a0 w0 ob0 G0 q0 k0 f0 x0=> ?_);show(Code.seq _ _).wp P _ a0 w0;refine wp_seq (F1g c1 q0 k0 λτ1 a1 w1 ob1 G1 q1 k1 f1 x1=> ?_);show(Code.seq _ _).wp P _ a1 w1;refine wp_seq (wp_seq (F1g c2 q1 k1 λτ2 a2 w2 ob2 G2 q2 k2 f2 x2=> ?_));show(Code.block _ _).wp P _ a2 w2;obtain⟨hh,caps,T,Obj,encs,xs,LR⟩:=q2;obtain⟨v,hv,hrel⟩:=k2.env R.gx _ LR.gx;cases hrel with
 |fn vs us hvn hum hvr hur=>
 have hvs:vs= #[]:=qI (by simpa using hvn);subst hvs;have hev:a2.eval (.tmp R.gx)= .func (.func hh) #[] us:=by show a2.tmps.getD R.gx undef=_;rw[qO,hv];rfl
 obtain⟨ρ,A,hwk⟩:=LR.weak;obtain⟨ob3,G3,s3,f3,_⟩:=B3d k2 hwk;have F3:Fr G w ob G3 w2 ob3:=((f0.trans f1).trans f2).trans f3;rw[hnt]at s3;refine wp_block (wpIn_wide.1 (wpIn_rangeFunc (F:=Fence.wide) (n:=1) λfnId _=> ?_));let wA:World:=(w2.alloc (.deferred (some []))).alloc (.loop {state:= .ready,pending:=none,fn:=fnId,tmps:=a2.tmps,params:=ps.toArray,assign:=asg,body:=bd,defers:=w2.heap.size})
 have hszA:wA.heap.size=w2.heap.size+2:=by simp[wA]
 have oldA: ∀b,b<w2.heap.size->wA.heap[b]? =w2.heap[b]? :=λb hb=>by show(World.alloc _ _).heap[b]? =_;rw[heap_alloc_old _ _ (by simp;omega),heap_alloc_old _ _ hb]
 have defA:wA.heap[w2.heap.size]? =some (.deferred (some [])):=by show(World.alloc _ _).heap[w2.heap.size]? =_;rw[heap_alloc_old _ _ p_,heap_alloc_new]
 have loopA:wA.heap[w2.heap.size+1]? =some (.loop (B02 fnId a2 ps asg bd w2.heap.size .ready)):=by have:=heap_alloc_new (w2.alloc (.deferred (some []))) (.loop {state:= .ready,pending:=none,fn:=fnId,tmps:=a2.tmps,params:=ps.toArray,assign:=asg,body:=bd,defers:=w2.heap.size});rw[World.size_alloc]at this;exact this
 have extA:Ext w2 wA:=⟨o_,oldA,rfl,rfl,rfl,ze _⟩
 have hG3: ∀b,G3 b->b<w2.heap.size:=s3.objs.lt
 let I:C0t P α:= {
  l:=w2.heap.size+1,encs:=encs,bound:=xs.length
  J:=λpre W Φ=> ∃ob',RJ R T Obj a2 w2 ob3 G3 (w2.heap.size+1) w2.heap.size (B02 fnId a2 ps asg bd w2.heap.size .ready) pre W Φ ob'
  lt:=by
   rintro pre W Φ b ⟨ob',hJ⟩ hb;obtain⟨s,f,xt,hl,hD,hne,rfl⟩:=hJ;rcases hb with rfl |rfl |hb
   ·exact(qb.1 hl).1
   ·exact(qb.1 hD).1
   ·exact s.objs.blks_lt hb
  ext:=by rintro pre W W' Φ ⟨ob',hJ⟩ hx;obtain⟨s,f,xt,hl,hD,hne,rfl⟩:=hJ;exact⟨ob',s.frame hx.size λb hb _=>hx.same b hb,f.ext hx,xt,(hx.same _ (qb.1 hl).1).trans hl,(hx.same _ (qb.1 hD).1).trans hD,hne,rfl⟩
  rnd:=by rintro pre x W Φ vals ⟨ob',hJ⟩ hlen hrl;obtain⟨tmps,h1,h2⟩:=F44 (P:=P) hG3 o_ (ze _) hpn hpN LR.len o_ hca hcb hna hnb hpa hpb (λpre id o h=>(LR.nd pre id o h).1) hJ hrl (LR.body pre x hlen);exact⟨_,tmps,_,_,h1,h2⟩}
 have hJ0:I.J [] wA (λb=>b=w2.heap.size+1\/b=w2.heap.size\/P6 ob3 b):=by refine⟨ob3,s3.frame o_ λb hb _=>oldA b hb,(Fr.refl G3 w2 ob3).ext extA,D4.refl _,loopA,defA,λb hb=> ?_,rfl⟩;have:=s3.objs.blks_lt hb;exact⟨o_,o_⟩
 have hpure: ∀ {Gx:Nat->Prop} {ob':Place},(∀b,G2 b->Gx b)->A59 Gx wA ob' caps us.toList:=λ{Gx ob'} hg=>by
  refine⟨by simp[hum],λj av hj=> ?_⟩;have h1:=hur j av hj
  have h2:Rel G2 w2 ob' av (us.getD j undef):=h1.flat_free (AV.flat_of_pure (B6c LR.pure hj))
  have h3:=h2.ext hg (λb hb=>oldA b (k2.objs.lt b hb)) (D4.refl _);simpa[List.getD]using h3
 have hcall:=LR.it I rfl rfl us.toList wA (λb=>G2 b) (λb=>b=w2.heap.size+1\/b=w2.heap.size\/P6 ob3 b) (hpure λ_ h=>h) (λb hb=>by have:=k2.objs.lt b hb;omega) hJ0 ?_
 case refine_1=>
  rintro b hb (h |h |h)
  ·have:=k2.objs.lt b hb;omega
  ·have:=k2.objs.lt b hb;omega
  ·obtain⟨id,i,hi,hh⟩:=h;cases ho:ofL (Obj []) id with
   |none=>rw[(s3.objs.dom id).1 ho]at hi;cases hi
   |some o=>exact s3.objs.sep id o i b ho (LR.nd _ _ _ ho).2 hi hh (f3.sub b hb)
 have hcall2:=callsIn_wide.1 hcall
 have eus:us.toList.toArray=us:=p_
 rw[eus]at hcall2;refine⟨w2.heap.size+1,[{target:= .collected w2.heap.size,args:= #[]}],wA,{target:= .fn (.func hh) us,args:= #[.func (.yield (w2.heap.size+1)) #[] #[]]},wA,hh,_,wA,run_enterLoop_outer ..,?_,λ_ _=>trivial,?_,λh=>by simp[Fence.wide]at h,callsIn_wide.2 (hcall2.mono ?_)⟩
 ·simp[resolve,Deferred.ofValue,Act.eval,hv]
 ·simp[invoke,A8a LR.call];rfl
 rintro e w4 ⟨⟨v4,rfl⟩,Φ4,ob4,J4⟩;obtain⟨s4,f4,x4,hl4,hd4,hne4,_⟩:=J4;refine⟨none,_,run_endLoop hl4 (by simp[B02]),?_⟩;show Exit.inBlock _ _ _ _ _;generalize hw5:w4.putObj (w2.heap.size+1) _=w5;have hsz5:w5.heap.size=w4.heap.size:=by rw[<-hw5];simp
 have hwA':w2.heap.size+2<=w4.heap.size:=by grind
 have old5: ∀b,b≠w2.heap.size+1->w5.heap[b]? =w4.heap[b]? :=λb hb=>by rw[<-hw5];exact World.putObj_heap_other hb
 have hsz4:=f4.size
 have F5:Fr G3 w2 ob3 G3 w5 ob4:=by
  refine⟨o_,λb hb hc=> ?_,f4.blk,λ_ h=>h,λ_ h=> .inl h,?_,?_,?_,?_⟩
  ·rw[old5 b o_];exact f4.same b hb hc
  ·rw[<-hw5];exact f4.os
  ·rw[<-hw5];exact f4.tape
  ·rw[<-hw5];exact f4.output
  ·rw[<-hw5];exact f4.drawn
 have k3:Sim R.nt (A19 T (Obj xs)) a2 w5 ob4 G3:=s4.frame o_ λb hb hc=>old5 b λe=>by grind
 have hd5:w5.heap[w2.heap.size]? =some (.deferred (some [])):=(old5 _ o_).trans hd4
 have hdf:({a2 with defers:= [{target:= .collected w2.heap.size,args:= #[]}]++a2.defers}:Act)=a2.more [{target:= .collected w2.heap.size,args:= #[]}]:=by unfold Act.more;rw[k2.defers];rfl
 rw[hdf];rw[hnt]at c3 c4 hlt;show(Code.seq _ _).wp P _ (a2.more _) w5;refine wp_seq (D6w c3 LR.post k3 λτ3 a3 w6 ob6 G6 q3 k4 f6 x6=> ?_);show(Code.seq _ _).wp P _ (a3.more _) w6;refine wp_seq (D6w c4 q3 k4 λτ4 a4 w7 ob7 G7 q4 k5 f7 x7=> ?_);show Code.ret.wp P _ (a4.more _) w7;refine wp_ret ?_;show LeavesInM _ _ P fn a4.tmps _ (a4.defers++ [_]) .returning w7;rw[k5.defers,List.nil_append];have F7:Fr G3 w5 ob4 G7 w7 ob7:=f6.trans f7
 have nB5: ¬P6 ob4 w2.heap.size:=λhb=>(hne4 _ hb).2 rfl
 have hd7:w7.heap[w2.heap.size]? =some (.deferred (some [])):=(F7.same _ o_ (.inr nB5)).trans hd5;refine⟨p_, .inl ⟨_,_,rfl,run_takeDeferred hd7,?_⟩⟩;have notG7: ¬G7 w2.heap.size:=λhG=>by
  rcases F7.new _ hG with h |h |h
  all_goals grind
 have notB7: ¬P6 ob7 w2.heap.size:=λhb=>by
  rcases F7.blk _ hb with h |h
  ·exact nB5 h
  ·omega
 have old8: ∀b,b≠w2.heap.size->(w7.putObj w2.heap.size (.deferred none)).heap[b]? =w7.heap[b]? :=λb hb=>World.putObj_heap_other hb
 have k8:Sim R.nt τ4 a4 (w7.putObj w2.heap.size (.deferred none)) ob7 G7:=k5.frame p_ λb hb hc=>old8 b λe=>by grind
 have FT:Fr G w ob G7 w7 ob7:=(F3.trans F5).trans F7
 have F8:Fr G w ob G7 (w7.putObj w2.heap.size (.deferred none)) ob7:=by refine⟨by simp;exact FT.size,λb hb hc=> ?_,FT.blk,FT.sub,FT.new,FT.os,FT.tape,FT.output,FT.drawn⟩;have:=F3.size;rw[old8 b o_];exact FT.same b hb hc
 have hlt': ∀p∈R.rvs,p.1<R.nt:=λp hp=>by have:=qm.1 hlt p hp;simpa[Nat.blt_eq]using this
 obtain⟨σ2,aF,vF,q1,q2,hvF,hvF'⟩:=B82 hts k8 hlt' q4;obtain⟨md,hml,hrl,ρ,A,hw⟩:=q1;obtain⟨obF,GF,z1,z2,z3⟩:=B3d q2 hw;refine⟨vF,hvF,vF,GF,obF,rfl,z1.objs,?_,F8.trans z2,?_⟩
 ·rw[hvF'];exact D1s hrl λj t r ht hr=>z1.env t r (B99 hml hrl List.nodup_range' j t r ht hr)
 ·intro id i hi;have e0:=C8z hs;rw[e0]at hi;cases hi
end
section
variable {P:Program} {N:Nat} {α:Type} {I:C0t P α}
@[reducible] def yC(T':Slots):Cont:=⟨λo τ=>match o with | .normal=>V5 [] τ T' [] |_=>False⟩
theorem F8a {T':Slots}: @Qi (yC T') .normal σ=V5 [] σ T' []:=rfl
attribute [go_sem] F8a
theorem Yp.plainN(hm:P.follows .mixedOrders=true){ac:ACode}{Q:Out->Slots->List α->Prop}{T:Slots}{pre:List α}(T':Slots)(h: @Wi P N [] ac (yC T') (A19 T []))(hq:Q .normal T' pre):Yp I N ac Q T pre:=by
 refine Yp.plain ((Wp.of_W hm ac h).mono λo τ ho=> ?_);cases o with
 |normal=>exact⟨T',hq,ho⟩
 |exit i=>exact ho.elim
 |ret=>exact ho.elim
variable {ac:ACode} {pre:List α}
theorem Yp.pre_eq {Q:Out->Slots->List α->Prop}{pre':List α}(e:pre=pre')(h:Yp I N ac Q T pre'):Yp I N ac Q T pre:=e▸h
theorem Yp.skip(hm:P.follows .mixedOrders=true){Q:Out->Slots->List α->Prop}{T:Slots}{pre:List α}(h:Q .normal T pre):Yp I N .skip Q T pre:=by
 intro c hc a W hS;cases c <;> simp only[F2,ACode.strip,za,reduceCtorEq]at hc
 case skip=>exact wp_skip ⟨.normal,T,pre,rfl,h,hS⟩
 case label=>exact wp_label ⟨.normal,T,pre,rfl,h,hS⟩
 all_goals(repeat' split at hc) <;> simp at hc
theorem Yp.exit {id:Nat}{Q:Out->Slots->List α->Prop}{T:Slots}{pre:List α}(h:Q (.exit id) T pre):Yp I N (.exit id) Q T pre:=by
 intro c hc a W hS;cases c <;> simp only[F2,ACode.strip,za,reduceCtorEq]at hc
 case exit id'=>simp only[ACode.exit.injEq]at hc;subst hc;exact wp_exit ⟨.exit id',T,pre,rfl,h,hS⟩
 all_goals(repeat' split at hc) <;> simp at hc
@[reducible] def rfC(Q:St->Prop):Cont:=⟨λo τ=>match o with | .normal=>Q τ |_=>False⟩
theorem F5v {Q:St->Prop}: @Qi (rfC Q) .normal σ=Q σ:=rfl
variable {d:Nat} {xs:List AX}
theorem Yp.yieldI {pr po:List dC}{x:AX}{p:List α}{Q:Out->Slots->List α->Prop}(v:α)(T':Slots)(hp:p.length<I.bound)(hn: ∀av∈I.encs v,av.noDsl=true/\av.flat=true)
  (h1: @Wi P N [] (.region false pr) (rfC λτ=>τ.ev x=some (true, .fn (.yield I.l) [] [])/\τ.es xs=some (I.encs v)/\(∀y∈xs,τ.c y=true)/\τ.objs=ofL []/\
    @Wi P N [] (.region false po) (yC T') (τ.put (some d) true ⟨some (.sc (.bool true)),[]⟩)) (A19 T []))(hq:Q .normal T' (p++ [v])):Yp I N (.region false (pr++⟨some d, .callv x xs,none,[]⟩::po)) Q T p:=by
 refine Yp.yield v hp (λG W ob vals hr G' ob'=>⟨hr.1,λj av hj=> ?_⟩) (show A5c P pr _ _ from h1) λτ hτ=> ?_
 ·have hm':=qv hj
  exact((hr.2 j av hj).noDsl (hn av hm').1).flat_free (hn av hm').2
 ·obtain⟨a1,a2,a3,a5,a6⟩:=hτ;exact⟨a1,a2,a3,a5,_,(show A5c P po _ _ from a6),λτ' h'=>⟨T',hq,h'⟩⟩
theorem F9g(α:Type){L:List (Nat×List Bool)}{f:FuncId}{fn:Func}(N:Nat)(rvs:List (Nat×Option (Option Nat))){i0 i1 i2 i3 i4 j gx:Nat}{o0 o1 o2 o3 o4:Array Oper}(ps:List Nat){asg bd:Code}{a0 a1 a2 a3 a4:List dC}{acA acB:ACode}{avs rs:List AV}
  (hL:okE P L=true)(hf:P.funcs[f]? =some fn)
  (hb:fn.body=some (.seq (.region i0 o0 false) (.seq (.region i1 o1 false) (.seq (.seq (.region i2 o2 false) (.block j (.rangeFunc (.tmp gx) ps.toArray asg bd))) (.seq (.region i3 o3 false) (.seq (.region i4 o4 false) .ret))))))
  (h0:B0p P L N o0 o0.toList=some a0)(h1:B0p P L N o1 o1.toList=some a1)(h2:B0p P L N o2 o2.toList=some a2)(h3:B0p P L N o3 o3.toList=some a3)(h4:B0p P L N o4 o4.toList=some a4)
  (hA:N8 P L N asg=some acA)(hB:N8 P L N bd=some acB)(n1:A3g asg=true)(n2:A3g bd=true)(p1:plA acA=true)(p2:plA acB=true)(hps:ps.Nodup)(hpN: ∀p∈ps,p<N)(hl:avs.length<=N)
  (hrun: @Wi P N [] (.seq (.region false a0) (.seq (.region false a1) (.region false a2))) (rfC λτ=> ∃(h:FuncId) (caps:List AV) (T:Slots) (Obj:List α->List (Nat×A7)) (encs:α->List AV) (xs:List α),D58 P ⟨N,a0,a1,a2,gx,a3,a4,rvs⟩ ps acA acB rs α τ h caps T Obj encs xs) (A02 avs []))
  (hN:fn.ntmps=N:=by kernel_rfl)(hts:A6e P fn.results.toList=some rvs:=by kernel_rfl)
  (hname:(fn.name != "runtime.NumGoroutine")=true:=by kernel_rfl)(hlt:(rvs.all λp=>p.1.blt N)=true:=by decide):D5 P f avs [] (A5x rs) []:=by
 subst hN;exact F8s (α:=α) (R:=⟨fn.ntmps,a0,a1,a2,gx,a3,a4,rvs⟩) ⟨⟨fn,i0,i1,i2,i3,i4,j,o0,o1,o2,o3,o4,asg,bd,hf,hb,hname,A8h hL h0,A8h hL h1,A8h hL h2,A8h hL h3,A8h hL h4,hts,hlt,rfl,cs2 hL hA,cs2 hL hB,n1,n2,p1,p2⟩⟩ hl hps hpN hrun
end
end Go.Abs
end
