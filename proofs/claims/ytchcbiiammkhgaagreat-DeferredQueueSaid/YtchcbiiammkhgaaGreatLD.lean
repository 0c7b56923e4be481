/- A part of the proof: what a function does, over abstract values and objects, and its ties to the model. -/
import Derived.Test.YtchcbiiammkhgaaGreatLC
import Derived.LoopN
import Derived.RangeFuncRecord
set_option linter.unusedSimpArgs false
set_option linter.unusedVariables false
set_option linter.unnecessarySimpa false
set_option maxRecDepth 100000
set_option maxHeartbeats 2000000
noncomputable section
namespace Go.Abs
section
variable (P:Program) (N:Nat) (K:List Nat)
def Wr(x:ACode)(Q:Out->St->Prop):Nat->St->Prop
 |0,_=>False
 |n+1,σ=>W P N K x (Out.then (Wr x Q n) Q) σ
def Wri(x:ACode)(n:Nat) [Q:Cont](σ:St):Prop:=Wr P N K x Q.q n σ
@[reducible] def D7l(x:ACode)(n:Nat)(Q:Cont):Cont:=⟨Out.then (Wr P N K x Q.q n) Q.q⟩
variable {P N K}
theorem Wp.rounds {x:ACode}{Q:Out->St->Prop}{σ:St}(hm:P.follows .mixedOrders=true)(n:Nat)(h:Wr P N K x Q n σ):Wp P N K (.loop x) Q σ:=by
 intro c hc Γ a w ob G hs hΓ;cases c <;> simp only[D9,ACode.strip,Option.some.injEq,reduceCtorEq]at hc
 case loop c1=>
  split at hc
  ·rename_i x' h1;simp only[Option.some.injEq,ACode.loop.injEq]at hc;obtain rfl:=hc;refine wp_loop_rounds n ?_;have key: ∀(n:Nat) (σ:St) (a:Act) (w:World) (ob:Place) (G:Nat->Prop),Wr P N K x Q n σ->Sim N σ a w ob G->B72 K Γ G w ob->Code.rounds P c1 (E46 K N Γ Q) n a w:=by
    intro n;induction n with
    |zero=>intro σ a w ob G h;exact h.elim
    |succ n ih=>
     intro σ a w ob G h hs hΓ;rw[rounds_succ];refine wp_mono (Wp.of_W hm x h c1 h1 Γ a w ob G hs hΓ) ?_;rintro e a' w' ⟨o,τ,ob',G',rfl,hq,s,hΓ'⟩;cases o with
     |normal=>exact ih τ a' w' ob' G' hq s hΓ'
     |exit i=>exact⟨.exit i,τ,ob',G',rfl,hq,s,hΓ'⟩
     |ret=>exact⟨.ret,τ,ob',G',rfl,hq,s,hΓ'⟩
   exact key n σ a w ob G h hs hΓ
  ·cases hc
 all_goals(repeat' split at hc) <;> simp at hc
variable {σ:St} {n:Nat} {Q:Cont}
theorem E3w {x:ACode}: @Wri P N K x (n+1) Q σ= @Wi P N K x (D7l P N K x n Q) σ:=Eq.trans rfl rfl
theorem D6s {x:ACode}: @Qi (D7l P N K x n Q) .normal σ= @Wri P N K x n Q σ:=Eq.trans rfl rfl
variable {j:Nat}
theorem E16 {x:ACode}: @Qi (D7l P N K x n Q) (.exit j) σ= @Qi Q (.exit j) σ:=Eq.trans rfl rfl
theorem E3u {x:ACode}: @Qi (D7l P N K x n Q) .ret σ= @Qi Q .ret σ:=Eq.trans rfl rfl
variable {σ':St}
@[congr] theorem G3s {x:ACode}(h:σ=σ'): @Wri P N K x n Q σ= @Wri P N K x n Q σ':=by rw[h]
theorem D6u {x:ACode}(hm:P.follows .mixedOrders=true)(n:Nat)(h: @Wri P N K x n Q σ): @Wpi P N K (.loop x) Q σ:=Wp.rounds hm n h
end
attribute [go_sem] D6s E16 E3u
theorem D8d {n:Int}(h1: -9223372036854775808<=n)(h2:n<9223372036854775808):IntKind.i64.wrap n=n:=by rw[IntKind.wrap_i64];omega
theorem G0j {n:Int}(h1:0<=n)(h2:n<18446744073709551616):IntKind.u64.wrap n=n:=by simp[IntKind.wrap,IntKind.bits,IntKind.signed];omega
section
variable (P:Program) (N:Nat) (K:List Nat)
variable {P N K}
end
section
variable {P:Program} {N:Nat} {K:List Nat} {ev:Int->Value} {D:Int->Prop}
variable (P N K)
variable {P N K}
end
section
variable {P:Program} {N:Nat}
def _root_.Go.Act.more(a:Act)(ds:List Deferred):Act:= {a with defers:=a.defers++ds}
theorem B5k(a:Act)(d:Option Nat)(v:Value)(ds:List Deferred):(a.put d v).more ds=(a.more ds).put d v:=by cases d <;> rfl
variable {a:Act}
theorem F4f {o:Oper}{ds:List Deferred}{K K':Act->World->Prop}{R:Exit->Act->World->Prop}(hK: ∀a w,K a w->K' (a.more ds) w){r:Result Next}
  (h:o.upon P a K (λe a w=>R e (a.more ds) w) r):o.upon P (a.more ds) K' R r:=by
 unfold Oper.upon at h⊢;split at h
 ·have:=hK _ _ h;rw[B5k]at this;exact this
 ·have:=hK _ _ h;rw[B5k]at this;exact this
 ·have:=hK _ _ h;rw[B5k]at this;exact this
 ·refine h.mono ?_;intro e w';cases e with
  |returned v=>intro h;have:=hK _ _ h;rw[B5k]at this;exact this
  |panicked chain=>exact id
  |outgrown=>rintro⟨a',w',h⟩;exact⟨_,w',h⟩
 ·exact h.mono λv w' h=>by have:=hK _ _ h;rw[B5k]at this;exact this
 ·exact h
 ·exact h.elim
variable {w:World}
theorem F9b {ops:Array Oper}{o:Oper}{ds:List Deferred}{K K':Act->World->Prop}{R:Exit->Act->World->Prop}(hK: ∀a w,K a w->K' (a.more ds) w)
  (h:if Region.wanted o (yielded ops a.tmps)then o.wp P a w K (λe a w=>R e (a.more ds) w)\/(o.asks P a w/\LetsOut λe a w=>R e (a.more ds) w)else K (a.put o.dst undef) w):
  if Region.wanted o (yielded ops (a.more ds).tmps)then o.wp P (a.more ds) w K' R\/(o.asks P (a.more ds) w/\LetsOut R)else K' ((a.more ds).put o.dst undef) w:=by
 by_cases hw:Region.wanted o (yielded ops a.tmps)=true
 ·have hw':Region.wanted o (yielded ops (a.more ds).tmps)=true:=hw
  rw[if_pos hw]at h;rw[if_pos hw'];rcases h with h |h
  ·exact .inl (F4f hK h)
  ·exact .inr ⟨h.1,by obtain⟨a',w',h⟩:=h.2;exact⟨_,w',h⟩⟩
 ·have hw': ¬Region.wanted o (yielded ops (a.more ds).tmps)=true:=hw
  rw[if_neg hw]at h;rw[if_neg hw',<-B5k];exact hK _ _ h
theorem C6h {ops:Array Oper}{ds:List Deferred}{R:Exit->Act->World->Prop}: ∀(l:List Nat) (a:Act) (w:World),wpOps P ops (λe a w=>R e (a.more ds) w) l a w->wpOps P ops R l (a.more ds) w
 | [],a,w,h=>h
 |i::l,a,w,h=>by
  rw[wpOps]at h⊢;cases ho:ops[i]? with
  |none=>rw[ho]at h;exact C6h l a w h
  |some o=>rw[ho]at h;exact F9b (λa w=>C6h l a w) h
variable {G:Nat->Prop} {ob:Place} {m:Nat->Option A5} {w':World}
theorem D5.frame(h:D5 G w ob m)(hs:w.heap.size<=w'.heap.size)(he: ∀b,b<w.heap.size->(G b\/O7 ob b)->w'.heap[b]? =w.heap[b]?):D5 G w' ob m where
 dom:=h.dom
 inj:=h.inj
 lt:=λb hb=>Nat.lt_of_lt_of_le (h.lt b hb) hs
 own:=λid o i ho hi=>(h.own id o i ho hi).ext (λ_ h=>h) (λb hb=>he b (h.lt b hb) (.inl hb)) (C9.refl ob) λb hb=>he b ((h.own id o i ho hi).has_lt hb) (.inr ⟨id,i,hi,hb⟩)
 sep:=h.sep
end
def rn(d k:Nat):Nat:=16*(d+1)+k-1
section
variable {P:Program} {m:Nat->Option A5}
def C48(m:Nat->Option A5):List AV->Option (Prop×List AV×List (Nat×A5))
 | []=>some (True,[],[])
 |a::as=>match Z8 m a,C48 m as with
  |some (p,c,w),some (q,cs,w')=>some (p/\q,c::cs,w++w')
  |_,_=>none
theorem D1m {ρ:Nat->Nat}: ∀ {avs cs:List AV} {p:Prop} {wr:List (Nat×A5)},C48 m avs=some (p,cs,wr)->p-> ∃md,R4 m ρ [] md avs cs wr
 | [],cs,p,wr,h,hp=>by simp only[C48,Option.some.injEq,Prod.mk.injEq]at h;obtain⟨rfl,rfl,rfl⟩:=h;exact⟨[],rfl⟩
 |a::as,cs,p,wr,h,hp=>by
  simp only[C48]at h;split at h
  ·rename_i p1 c1 w1 q1 cs1 w2 h1 h2;simp only[Option.some.injEq,Prod.mk.injEq]at h;obtain⟨rfl,rfl,rfl⟩:=h;obtain⟨md,hm⟩:=D1m (ρ:=ρ) h2 hp.2;exact⟨false::md,p1,w1,w2,h1,hp.1,rfl,hm⟩
  ·cases h
variable {f:FuncId} {avs cs:List AV} {O' wr:List (Nat×A5)}
theorem E4b {r:AV}{md:List Bool}{ρ:Nat->Nat}(hc:A1 P f cs [] r O')(ha:R4 m ρ [] md avs cs wr)
  (hnew:C9u m ρ [] O')(hd:(O'.map λp=>ρ p.1).Nodup):T7 P m f avs ⟨some (r.ren ρ),wr++A3w ρ O'⟩:=by
 refine T7.mk md cs [] r O' ρ wr false hc ha (λi o h=>by simp[ofL,wrm]at h) (λi cs h=>by simp[ofL,wrm]at h) (λi h=>by simp[ofL,wrm]at h) (λi hi=> ?_) hd (λh=>by cases h);obtain⟨o,ho⟩:=A88 hi;exact B9e hnew i o ho
variable {p:Prop} {d:Nat} {b:Bool}
theorem K1 {Q:ContR}{r:AV}(hz:C48 m avs=some (p,cs,wr))(hp:p)(hc:A1 P f cs [] r O')
  (hK:C9u m (rn d) [] O'/\(O'.map λp=>rn d p.1).Nodup/\b=true/\ @Ri Q b ⟨some (r.ren (rn d)),wr++A3w (rn d) O'⟩): @B8p P d m f avs b Q:=by
 obtain⟨md,hm⟩:=D1m (ρ:=rn d) hz hp;exact⟨_,λ_=>E4b hc hm hK.1 hK.2.1,λ_=>hK.2.2.1,hK.2.2.2⟩
theorem C7x {Q:ContR}{r:AV}(hz:C48 m avs=some (p,cs,wr))(hp:p)(hc:A1 P f cs [] r [])
  (hn:r.noDsl=true)(hK: @Ri Q b ⟨some r,[]⟩): @B8p P d m f avs b Q:=by
 obtain⟨md,hm⟩:=D1m (ρ:=id) hz hp;exact⟨_,λ_=>B19 hc hm true (λ_=>hn),λh=>absurd rfl h,hK⟩
def C9v:List (Nat×A5)->Prop
 | []=>True
 |(_,o)::r=>o.NoDsl/\C9v r
theorem D7b: ∀ {O:List (Nat×A5)},C9v O-> ∀i o,(i,o)∈O->o.NoDsl
 | [],_,i,o,h=>by cases h
 |(k,o1)::O,h,i,o,hm=>by
  rcases List.mem_cons.1 hm with e |hm
  ·obtain⟨rfl,rfl⟩:=Prod.mk.inj e;exact h.1
  ·exact D7b h.2 i o hm
theorem D3b {Q:ContR}{r:AV}(hz:C48 m avs=some (p,cs,wr))(hp:p)(hc:A1 P f cs [] r O')
  (hr:r.noDsl=true)(hn:C9v O')(hK:C9u m (rn d) [] O'/\(O'.map λp=>rn d p.1).Nodup/\b=true/\ @Ri Q b ⟨some (r.ren (rn d)),A3w (rn d) O'⟩): @B8p P d m f avs b Q:=by
 obtain⟨md,hm⟩:=D1m (ρ:=rn d) hz hp;refine⟨_,λ_=>T7.mk md cs [] r O' (rn d) wr true hc hm (λi o h=>by simp[ofL,wrm]at h) (λi cs h=>by simp[ofL,wrm]at h) (λi h=>by simp[ofL,wrm]at h) (λi hi=> ?_) hK.2.1 (λ_=>⟨hr,λi o hi=> ?_⟩),λ_=>hK.2.2.1,hK.2.2.2⟩
 ·obtain⟨o,ho⟩:=A88 hi;exact B9e hK.1 i o ho
 ·exact D7b hn i o (A1i (B33 hK.2.1).1 hi)
variable {O:List (Nat×A5)} {cargs:List AV}
theorem E0h {Q:ContR}{r:AV}(md:List Bool)(ρs:List (Nat×Nat))(hc:A1 P f cargs O r O)
  (hnO:(O.map (·.1)).Nodup)(hnd:(O.map λp=>A6 ρs p.1).Nodup)(hid: ∀p∈O,∃av∈avs,A6 ρs p.1∈av.ids)
  (ha:A6b m (A6 ρs) O md avs cargs [] λwr=>wr= []/\C3n m (A6 ρs) O O/\ @Ri Q b ⟨some (r.ren (A6 ρs)),[]⟩): @A4z P m f avs b Q:=by
 obtain⟨cs,wr,h1,h2,h3,h4,h5⟩:=C0l ha;rw[List.nil_append]at h3;subst h3;have hO: ∀i o,ofL O i=some o->m (A6 ρs i)=some (o.ren (A6 ρs)):=λi o hi=>(A87 h4 i o (A1i hnO hi)).1;refine⟨_,λ_=>T7.drop _ _ (T7.mk md cs O r O (A6 ρs) [] false (hc.args_le h2) h1 hO
  (λi cs hi=>(A87 h4 i _ (A1i hnO hi)).2 cs rfl) (λi hi=>hi) (λi hi=> .inl hi) hnd (λh=>by cases h)) (λp hp=> ?_) (λp hp=> ?_),λh=>absurd rfl h,h5⟩
 ·simp only[Bool.false_eq_true,if_false,List.nil_append,A3w,List.mem_map]at hp;obtain⟨q,hq,rfl⟩:=hp;exact(A87 h4 q.1 q.2 hq).1
 ·simp only[Bool.false_eq_true,if_false,List.nil_append,A3w,List.mem_map]at hp;obtain⟨q,hq,rfl⟩:=hp;exact hid q hq
mutual
def F6m:AV->AV->List (Nat×Nat)
 | .sl id _ _ _, .sl k _ _ _=>if id=k then []else [(k,id)]
 | .agg as, .agg bs=>D9y as bs
 |_,_=> []
def D9y:List AV->List AV->List (Nat×Nat)
 |a::as,b::bs=>F6m a b++D9y as bs
 |_,_=> []
end
def ad1:AV->AV->List Nat
 | .sc _, .sl k _ _ _=> [k]
 |_,_=> []
def adL:List AV->List AV->List Nat
 |a::as,b::bs=>ad1 a b++adL as bs
 |_,_=> []
def md1:AV->AV->C1w
 | .sc _, .sl .. => .adopt
 | .sc _, .dsl .. => .thaw
 | .sl .., .dsl .. => .thaw
 | .dsl .., .dsl .. => .thaw
 | .dslx .., .dsl .. => .thaw
 | .agg _, .agg _=> .thaw
 |_,_=> .share
def mdL:List AV->List AV->List C1w
 |a::as,b::bs=>md1 a b::mdL as bs
 |_,_=> []
variable {σ:St} {rs:List AV} {K ts A:List Nat}
theorem C91 {vs:List AV}{md:List C1w}{ρs:List (Nat×Nat)}(_hv:σ.es (ts.map AX.t)=some vs)(_e1:mdL vs rs=md)(_e2:D9y vs rs=ρs)(_e3:adL vs rs=A)
  (hm:md.length=ts.length)(hr:rs.length=ts.length)
  (h1:(O.map (·.1)).Nodup)(h2:(((O.map (·.1)).filter λi=> !A.contains i).map (A6 ρs)).Nodup)
  (h3: ∀k∈K,k∉A/\A6 ρs k=k/\(ofL O k).isSome)(h4:A3b σ (A6 ρs) A O (B9x ts md rs) [] λwr=>B34 (wrm σ.objs wr) (A6 ρs) A O O):A8c K σ ts rs O:=
 C8 md ρs A hm hr h1 h2 h3 h4
end
attribute [go_sem] C48 rn
variable {σ:St} {O:List (Nat×A5)} {rs:List AV} {K ts:List Nat}
theorem gr_(h:A8c K σ ts rs O):A8c K σ ts rs O:=h
variable {d:Nat} {f:FuncId} {b:Bool} {avs:List AV}
theorem gD_ {P:Program}{m:Nat->Option A5}{Q:ContR}(h: @B8p P d m f avs b Q): @B8p P d m f avs b Q:=h
theorem ev_ {α:Sort _}{a b:α}(h:a=b:=by first |(simp only[go_sem,D9y,F6m,adL,ad1,mdL,md1,↓reduceIte,Nat.reduceEqDiff,Nat.reduceAdd,Nat.reduceMul,Nat.reduceSub,List.map_cons,List.map_nil,List.append_nil,List.nil_append,List.cons_append];done) |(simp only[go_sem,D9y,F6m,adL,ad1,mdL,md1,↓reduceIte,Nat.reduceEqDiff,Nat.reduceAdd,Nat.reduceMul,Nat.reduceSub,List.map_cons,List.map_nil,List.append_nil,List.nil_append,List.cons_append];first |rfl |exact⟨rfl,rfl,rfl⟩ |exact⟨rfl,rfl⟩) |rfl):a=b:=h
theorem nd_(h:C9v O:=by first |exact⟨λ_ _=>rfl,trivial⟩ |exact⟨λ_ _=>rfl,λ_ _=>rfl,trivial⟩):C9v O:=h
variable {p:Prop}
theorem ns_(h:p:=by simp[go_sem,A6]):p:=h
variable {T:H6} {A:List Nat}
theorem D8b {vs:List AV}{ρs:List (Nat×Nat)}(_hv:σ.es (T.map λp=>AX.t p.1)=some vs)(_e2:D9y vs (T.map λp=>p.2.2)=ρs)(_e3:adL vs (T.map λp=>p.2.2)=A)
  (h1:(O.map (·.1)).Nodup)(h2:(((O.map (·.1)).filter λi=> !A.contains i).map (A6 ρs)).Nodup)(h3: ∀k∈K,k∉A/\A6 ρs k=k/\(ofL O k).isSome)
  (h4:A3b σ (A6 ρs) A O T [] λwr=>B34 (wrm σ.objs wr) (A6 ρs) A O O):Y5 K σ T O:=B6 ρs A h1 h2 h3 h4
theorem T4 {S:Type}{f:Nat->S->S}(len:S->Nat)(h: ∀i s,len (f i s)=len s): ∀n s,len (itr f n s)=len s
 |0,_=>rfl
 |n+1,s=>by rw[E4,h,T4 len h n s]
theorem F61(s:Sq)(k:Nat)(c:List AV):(s.set k c).g k=c:=by simp[Sq.set]
theorem F1p(s:Sq)(k:Nat)(c c':List AV):(s.set k c).set k c'=s.set k c':=by simp only[Sq.set,Sq.mk.injEq,true_and];funext i;split <;> rfl
variable {α:Type} {z:Nat} {l:List α} {g:Nat->List AV}
theorem B89 {enc:α->List AV}{d:α}(hg: ∀i,g i=enc (l.getD (1+i) d)):AV.dsl z ((l.length:Int)-1).toNat g= .dsl z l.tail.length (L7 enc d l.tail):=by
 have h1:((l.length:Int)-1).toNat=l.tail.length:=by rw[List.length_tail];omega
 have h2:g=L7 enc d l.tail:=by
  funext i;rw[hg];unfold L7;cases l with
  |nil=>rfl
  |cons a l=>rw[Nat.add_comm];rfl
 rw[h1,h2]
variable {n:Nat}
theorem B8c {enc:α->List AV}{d:α}{cells:List AV}{ρ:Nat->Nat}(hz: ∀a∈l,(enc a).length=z)(hc:cells=l.flatMap enc)(hn:n=l.length):
  A3o ρ (.arr z ⟨n,λi=>(cells.drop (i*z)).take z⟩) (.arr z (A8 enc d l)):=by
 have h:=E35 (d:=d) hz hc hn;unfold A2 at h;rw[A11]at h;exact h
variable {l':List α}
theorem E8a {enc:α->List AV}{d:α}{cells:List AV}(hz: ∀a∈l,(enc a).length=z)(hc:cells=l.flatMap enc)(hn:n=l.length)(i:Nat)(hi:i<n+l'.length):
  ((⟨n,λi=>(cells.drop (i*z)).take z⟩:Sq).app (A8 enc d l')).g i=L7 enc d (l++l') i:=by
 subst hn;show(if i<l.length then(cells.drop (i*z)).take z else(A8 enc d l').g (i-l.length))=enc ((l++l').getD i d);split
 ·rename_i h;rw[hc,B8a (d:=d) hz h];congr 1;simp[List.getD,List.getElem?_append,h]
 ·rename_i h;show enc (l'.getD (i-l.length) d)=_;congr 1;simp[List.getD,List.getElem?_append,h]
variable {N:Nat}
theorem C1y {N':Nat}{enc:α->List AV}{d:α}{L:List α}{cells:List AV}(hz: ∀a∈l,(enc a).length=z)(hc:cells=l.flatMap enc)(hn:n=l.length)(hL:L=l++l')(hN:N=n+l'.length)(hN':N'=L.length):
  M4 (.dsl z N ((⟨n,λi=>(cells.drop (i*z)).take z⟩:Sq).app (A8 enc d l')).g) (.dsl z N' (L7 enc d L)):=by
 subst hN;subst hN';subst hL;rw[A11];refine⟨rfl,by rw[hn,List.length_append],λi hi=> ?_⟩;rw[E8a hz hc hn i hi];exact L3 _
theorem D5g {enc:α->List AV}{d:α}{L:List α}{cells:List AV}{ρ:Nat->Nat}(hz: ∀a∈l,(enc a).length=z)(hc:cells=l.flatMap enc)(hn:n=l.length)(hL:L=l++l'):
  A3o ρ (.arr z ((⟨n,λi=>(cells.drop (i*z)).take z⟩:Sq).app (A8 enc d l'))) (.arr z (A8 enc d L)):=by
 subst hL;refine⟨rfl,?_,λi hi=> ?_⟩
 ·show n+l'.length=(l++l').length;rw[hn,List.length_append]
 ·rw[E8a hz hc hn i hi];exact L3 _
theorem E81 {enc:α->List AV}{d:α}{cells:List AV}(hz: ∀a∈l',(enc a).length=z)(hc:cells=l'.flatMap enc)(hn:n=l'.length)(i:Nat)(hi:i<l.length+n):
  ((A8 enc d l).app (⟨n,λi=>(cells.drop (i*z)).take z⟩:Sq)).g i=L7 enc d (l++l') i:=by
 subst hn;show(if i<l.length then enc (l.getD i d)else(cells.drop ((i-l.length)*z)).take z)=enc ((l++l').getD i d);split
 ·rename_i h;congr 1;simp[List.getD,List.getElem?_append,h]
 ·rename_i h;rw[hc,B8a (d:=d) hz (by omega)];congr 1;simp[List.getD,List.getElem?_append,h]
theorem C1x {N':Nat}{enc:α->List AV}{d:α}{L:List α}{cells:List AV}(hz: ∀a∈l',(enc a).length=z)(hc:cells=l'.flatMap enc)(hn:n=l'.length)(hL:L=l++l')(hN:N=l.length+n)(hN':N'=L.length):
  M4 (.dsl z N ((A8 enc d l).app (⟨n,λi=>(cells.drop (i*z)).take z⟩:Sq)).g) (.dsl z N' (L7 enc d L)):=by
 subst hN;subst hN';subst hL;rw[A11];refine⟨rfl,by rw[hn,List.length_append],λi hi=> ?_⟩;rw[E81 hz hc hn i hi];exact L3 _
theorem D5f {enc:α->List AV}{d:α}{L:List α}{cells:List AV}{ρ:Nat->Nat}(hz: ∀a∈l',(enc a).length=z)(hc:cells=l'.flatMap enc)(hn:n=l'.length)(hL:L=l++l'):
  A3o ρ (.arr z ((A8 enc d l).app (⟨n,λi=>(cells.drop (i*z)).take z⟩:Sq))) (.arr z (A8 enc d L)):=by
 subst hL;refine⟨rfl,?_,λi hi=> ?_⟩
 ·show l.length+n=(l++l').length;rw[hn,List.length_append]
 ·rw[E81 hz hc hn i hi];exact L3 _
theorem D7j {enc:α->List AV}{d:α}{ρ:Nat->Nat}:A3o ρ (.arr z ⟨0,g⟩) (.arr z (A8 enc d [])):=⟨rfl,rfl,λi hi=>absurd hi (Nat.not_lt_zero i)⟩
theorem T6(l:List α)(i:Nat)(x d:α)(hi:i<l.length):(l.set i x).getD i d=x:=by rw[C5a l i i x d hi,if_pos rfl]
attribute [go_sem] F61 F1p List.length_set List.set_set
open Api
structure SolverBody where
 Velocity:Vec
 AngularVelocity:Int
 InvMass:Int
 InvInertia:Int
 deriving DecidableEq,Inhabited
def SolverBody.enc(x:SolverBody):List AV:=[.sc (.int .i64 x.Velocity.X), .sc (.int .i64 x.Velocity.Y), .sc (.int .i64 x.AngularVelocity), .sc (.int .i64 x.InvMass), .sc (.int .i64 x.InvInertia)]
def SolverBody.zero:List AV:= [.sc (.int .i64 0), .sc (.int .i64 0), .sc (.int .i64 0), .sc (.int .i64 0), .sc (.int .i64 0)]
attribute [go_sem] SolverBody.enc SolverBody.zero
@[go_sem] theorem F8o(x:SolverBody):SolverBody.mk x.Velocity x.AngularVelocity x.InvMass x.InvInertia=x:=rfl
structure Row where
 A:Int
 B:Int
 Normal:Vec
 ArmA:Int
 ArmB:Int
 EffectiveMass:Int
 Bias:Int
 Lower:Int
 Upper:Int
 Softness:Int
 Impulse:Int
 FrictionOf:Int
 Friction:Int
 deriving DecidableEq,Inhabited
def Row.enc(x:Row):List AV:=[.sc (.int .i64 x.A), .sc (.int .i64 x.B), .sc (.int .i64 x.Normal.X), .sc (.int .i64 x.Normal.Y), .sc (.int .i64 x.ArmA), .sc (.int .i64 x.ArmB), .sc (.int .i64 x.EffectiveMass), .sc (.int .i64 x.Bias), .sc (.int .i64 x.Lower), .sc (.int .i64 x.Upper), .sc (.int .i64 x.Softness), .sc (.int .i64 x.Impulse), .sc (.int .i64 x.FrictionOf), .sc (.int .i64 x.Friction)]
def Row.zero:List AV:= [.sc (.int .i64 0), .sc (.int .i64 0), .sc (.int .i64 0), .sc (.int .i64 0), .sc (.int .i64 0), .sc (.int .i64 0), .sc (.int .i64 0), .sc (.int .i64 0), .sc (.int .i64 0), .sc (.int .i64 0), .sc (.int .i64 0), .sc (.int .i64 0), .sc (.int .i64 0), .sc (.int .i64 0)]
attribute [go_sem] Row.enc Row.zero
@[go_sem] theorem G4i(x:Row):Row.mk x.A x.B x.Normal x.ArmA x.ArmB x.EffectiveMass x.Bias x.Lower x.Upper x.Softness x.Impulse x.FrictionOf x.Friction=x:=rfl
theorem A22(l:List Vec)(i:Nat)(a_0:Int)(a_1:Int)(hi:i<l.length):(A8 Vec.enc default l).set i [.sc (.int .i64 a_0), .sc (.int .i64 a_1)]=A8 Vec.enc default (l.set i ⟨a_0,a_1⟩):=B1v _ hi rfl
theorem A1w(l:List Body)(i:Nat)(a_0:Int)(a_1:Int)(a_2_0_0:Int)(a_2_0_1:Int)(a_2_1:Int)(a_3_0:Int)(a_3_1:Int)(a_4:Int)(a_5_0:Int)(a_5_1:Int)(a_6:Int)(a_7:Int)(a_8:Int)(a_9:Int)(a_10:Bool)(a_11:Bool)(a_12:Bool)(a_13:Bool)(a_14:Int)(a_15:List Fixture)(hi:i<l.length):(A8 Body.enc default l).set i [.sc (.int .i64 a_0), .sc (.int .i64 a_1), .sc (.int .i64 a_2_0_0), .sc (.int .i64 a_2_0_1), .sc (.int .i64 a_2_1), .sc (.int .i64 a_3_0), .sc (.int .i64 a_3_1), .sc (.int .i64 a_4), .sc (.int .i64 a_5_0), .sc (.int .i64 a_5_1), .sc (.int .i64 a_6), .sc (.int .i64 a_7), .sc (.int .i64 a_8), .sc (.int .i64 a_9), .sc (.bool a_10), .sc (.bool a_11), .sc (.bool a_12), .sc (.bool a_13), .sc (.int .i64 a_14),A2 10 Fixture.enc default a_15]=A8 Body.enc default (l.set i ⟨a_0,a_1,⟨⟨a_2_0_0,a_2_0_1⟩,a_2_1⟩,⟨a_3_0,a_3_1⟩,a_4,⟨a_5_0,a_5_1⟩,a_6,a_7,a_8,a_9,a_10,a_11,a_12,a_13,a_14,a_15⟩):=B1v _ hi rfl
theorem A02(l:List Joint)(i:Nat)(a_0:Int)(a_1:Int)(a_2:Int)(a_3:Int)(a_4_0:Int)(a_4_1:Int)(a_5_0:Int)(a_5_1:Int)(a_6_0:Int)(a_6_1:Int)(a_7:Int)(a_8:Bool)(a_9:Int)(a_10:Int)(a_11:Bool)(a_12:Int)(a_13:Int)(a_14:Int)(a_15:Int)(a_16:Bool)(a_17_0:Int)(a_17_1:Int)(a_17_2:Int)(a_17_3:Int)(hi:i<l.length):(A8 Joint.enc default l).set i [.sc (.int .i64 a_0), .sc (.int .i64 a_1), .sc (.int .i64 a_2), .sc (.int .i64 a_3), .sc (.int .i64 a_4_0), .sc (.int .i64 a_4_1), .sc (.int .i64 a_5_0), .sc (.int .i64 a_5_1), .sc (.int .i64 a_6_0), .sc (.int .i64 a_6_1), .sc (.int .i64 a_7), .sc (.bool a_8), .sc (.int .i64 a_9), .sc (.int .i64 a_10), .sc (.bool a_11), .sc (.int .i64 a_12), .sc (.int .i64 a_13), .sc (.int .i64 a_14), .sc (.int .i64 a_15), .sc (.bool a_16), .sc (.int .i64 a_17_0), .sc (.int .i64 a_17_1), .sc (.int .i64 a_17_2), .sc (.int .i64 a_17_3)]=A8 Joint.enc default (l.set i ⟨a_0,a_1,a_2,a_3,⟨a_4_0,a_4_1⟩,⟨a_5_0,a_5_1⟩,⟨a_6_0,a_6_1⟩,a_7,a_8,a_9,a_10,a_11,a_12,a_13,a_14,a_15,a_16,⟨a_17_0,a_17_1,a_17_2,a_17_3⟩⟩):=B1v _ hi rfl
theorem V6(l:List Contact)(i:Nat)(a_0_0:Int)(a_0_1:Int)(a_0_2:Int)(a_0_3:Int)(a_1_0_0:Int)(a_1_0_1:Int)(a_1_1:List ContactPoint)(hi:i<l.length):(A8 Contact.enc default l).set i [.sc (.int .i64 a_0_0), .sc (.int .i64 a_0_1), .sc (.int .i64 a_0_2), .sc (.int .i64 a_0_3), .sc (.int .i64 a_1_0_0), .sc (.int .i64 a_1_0_1),A2 6 ContactPoint.enc default a_1_1]=A8 Contact.enc default (l.set i ⟨⟨a_0_0,a_0_1,a_0_2,a_0_3⟩,⟨⟨a_1_0_0,a_1_0_1⟩,a_1_1⟩⟩):=B1v _ hi rfl
theorem L9(l:List ContactPoint)(i:Nat)(a_0_0:Int)(a_0_1:Int)(a_1:Int)(a_2:Int)(a_3:Int)(a_4:Int)(hi:i<l.length):(A8 ContactPoint.enc default l).set i [.sc (.int .i64 a_0_0), .sc (.int .i64 a_0_1), .sc (.int .i64 a_1), .sc (.int .i64 a_2), .sc (.int .i64 a_3), .sc (.int .i64 a_4)]=A8 ContactPoint.enc default (l.set i ⟨⟨a_0_0,a_0_1⟩,a_1,a_2,a_3,a_4⟩):=B1v _ hi rfl
theorem A21(l:List Row)(i:Nat)(a_0:Int)(a_1:Int)(a_2_0:Int)(a_2_1:Int)(a_3:Int)(a_4:Int)(a_5:Int)(a_6:Int)(a_7:Int)(a_8:Int)(a_9:Int)(a_10:Int)(a_11:Int)(a_12:Int)(hi:i<l.length):(A8 Row.enc default l).set i [.sc (.int .i64 a_0), .sc (.int .i64 a_1), .sc (.int .i64 a_2_0), .sc (.int .i64 a_2_1), .sc (.int .i64 a_3), .sc (.int .i64 a_4), .sc (.int .i64 a_5), .sc (.int .i64 a_6), .sc (.int .i64 a_7), .sc (.int .i64 a_8), .sc (.int .i64 a_9), .sc (.int .i64 a_10), .sc (.int .i64 a_11), .sc (.int .i64 a_12)]=A8 Row.enc default (l.set i ⟨a_0,a_1,⟨a_2_0,a_2_1⟩,a_3,a_4,a_5,a_6,a_7,a_8,a_9,a_10,a_11,a_12⟩):=B1v _ hi rfl
theorem P6(l:List SolverBody)(i:Nat)(a_0_0:Int)(a_0_1:Int)(a_1:Int)(a_2:Int)(a_3:Int)(hi:i<l.length):(A8 SolverBody.enc default l).set i [.sc (.int .i64 a_0_0), .sc (.int .i64 a_0_1), .sc (.int .i64 a_1), .sc (.int .i64 a_2), .sc (.int .i64 a_3)]=A8 SolverBody.enc default (l.set i ⟨⟨a_0_0,a_0_1⟩,a_1,a_2,a_3⟩):=B1v _ hi rfl
theorem A20(l:List Int)(i:Nat)(a:Int)(hi:i<l.length):(A8 B9 0 l).set i [.sc (.int .i64 a)]=A8 B9 0 (l.set i a):=B1v _ hi rfl
theorem J8(h:p:=by first
 |exact ob_
 |exact And.left (by assumption)
 |((repeat' (with_reducible apply And.intro)) <;> first |omega |assumption |(apply_assumption;exact B7 _ (by omega)) |with_reducible rfl |(simp only[List.length_append];done) |(simp only[List.length_append,maxLen];omega) |(simp only[beq_iff_eq,bne_iff_ne,ne_eq,Bool.or_eq_true,Bool.and_eq_true,decide_eq_true_eq,not_or,Bool.not_eq_true',decide_eq_false_iff_not,Bool.not_eq_true,bne_eq_false_iff_eq,Decidable.not_not]at*;first |omega |(simp only[IntKind.wrap_i64];omega) |exact Int.tmod_nonneg _ (by first |omega |(rw[IntKind.wrap_i64];omega)) |exact Int.tmod_lt_of_pos _ (by omega)) |(rw[IntKind.wrap_i64];omega) |exact ob_ |rfl |(simp_all only[beq_iff_eq,bne_iff_ne,ne_eq,Bool.or_eq_true,Bool.and_eq_true,decide_eq_true_eq,not_or,Bool.not_eq_true',decide_eq_false_iff_not,Bool.not_eq_true,bne_eq_false_iff_eq,Decidable.not_not,Bool.not_eq_false,Bool.not_eq_false',forall_const,true_implies,and_true,true_and,or_self,or_false,false_or,or_true,true_or,and_self,and_false,false_and];omega))):p:=h
variable {n':Nat}
theorem E34 {enc:α->List AV}{d:α}(h:l'=l)(hn:n=l.length)(hn':n'=l'.length):M4 (.dsl z n (L7 enc d l)) (.dsl z n' (L7 enc d l')):=by subst h;subst hn;subst hn';exact I4 _
theorem lE_(h:p:=by first
 |with_reducible rfl
 |(simp only[*,if_true,if_false,eq_self,Bool.false_eq_true,Bool.true_eq_false,not_true_eq_false,not_false_eq_true,reduceCtorEq,H3,R2,A05,A06,Bool.and_true,Bool.true_and,Bool.and_false,Bool.false_and,Bool.or_true,Bool.true_or,Bool.or_false,Bool.false_or,Bool.not_true,Bool.not_false,decide_true,decide_false,E4,A2c,A3i,A53,beq_iff_eq,bne_iff_ne,ne_eq,Bool.or_eq_true,Bool.and_eq_true,decide_eq_true_eq,not_or,Bool.not_eq_true',decide_eq_false_iff_not,Bool.not_eq_true,bne_eq_false_iff_eq,Decidable.not_not,List.append_assoc,or_self,or_false,false_or,or_true,true_or,and_self,and_false,false_and];first |done |rfl)):p:=h
theorem lN_(h:p:=by first |with_reducible rfl |omega |(simp only[List.length_append,List.length_cons,List.length_nil];first |done |omega)):p:=h
theorem G1o(h:p:=by first
 |exact E34 lE_ lN_ rfl
 |exact A3p (by simp only[*,if_true,if_false,eq_self,Bool.false_eq_true,Bool.true_eq_false,not_true_eq_false,not_false_eq_true,reduceCtorEq,H3,R2,A05,A06,Bool.and_true,Bool.true_and,Bool.and_false,Bool.false_and,Bool.or_true,Bool.true_or,Bool.or_false,Bool.false_or,Bool.not_true,Bool.not_false,decide_true,decide_false,E4,A2c,A3i,A53,beq_iff_eq,bne_iff_ne,ne_eq,Bool.or_eq_true,Bool.and_eq_true,decide_eq_true_eq,not_or,Bool.not_eq_true',decide_eq_false_iff_not,Bool.not_eq_true,bne_eq_false_iff_eq,Decidable.not_not,or_self,or_false,false_or,or_true,true_or,and_self,and_false,false_and];first |done |rfl)
 |(simp only[*,if_true,if_false,eq_self,Bool.false_eq_true,Bool.true_eq_false,not_true_eq_false,not_false_eq_true,reduceCtorEq,H3,R2,A05,A06,Bool.and_true,Bool.true_and,Bool.and_false,Bool.false_and,Bool.or_true,Bool.true_or,Bool.or_false,Bool.false_or,Bool.not_true,Bool.not_false,decide_true,decide_false,E4,A2c,A3i,A53,beq_iff_eq,bne_iff_ne,ne_eq,Bool.or_eq_true,Bool.and_eq_true,decide_eq_true_eq,not_or,Bool.not_eq_true',decide_eq_false_iff_not,Bool.not_eq_true,bne_eq_false_iff_eq,Decidable.not_not,or_self,or_false,false_or,or_true,true_or,and_self,and_false,false_and];first |done |rfl |omega |(simp only[List.length_set];first |done |omega) |(simp;first |done |omega))):p:=h
theorem G39(h:p:=by first
 |with_reducible rfl
 |trivial
 |omega
 |exact E34 lE_ lN_ rfl |exact C1y (λ_ _=>rfl) rfl rfl lE_ lN_ rfl |exact D5g (λ_ _=>rfl) rfl rfl lE_ |exact C1x (λ_ _=>rfl) rfl rfl lE_ lN_ rfl |exact D5f (λ_ _=>rfl) rfl rfl lE_ |exact A3p rfl |exact A1q _ rfl rfl |exact A2q _ (by first |omega |(simp only[List.length_set];omega)) rfl rfl |exact B8c (λ_ _=>rfl) rfl rfl |exact D7j |exact B89 (λ_=>rfl)
 |(simp only[*,if_true,if_false,eq_self,Bool.false_eq_true,Bool.true_eq_false,not_true_eq_false,not_false_eq_true,reduceCtorEq,H3,R2,A05,A06,Bool.and_true,Bool.true_and,Bool.and_false,Bool.false_and,Bool.or_true,Bool.true_or,Bool.or_false,Bool.false_or,Bool.not_true,Bool.not_false,decide_true,decide_false,E4,A2c,A3i,A53,beq_iff_eq,bne_iff_ne,ne_eq,Bool.or_eq_true,Bool.and_eq_true,decide_eq_true_eq,not_or,Bool.not_eq_true',decide_eq_false_iff_not,Bool.not_eq_true,bne_eq_false_iff_eq,Decidable.not_not,or_self,or_false,false_or,or_true,true_or,and_self,and_false,false_and];first |omega |(simp only[List.length_set];first |done |omega) |(simp;first |done |omega))
 |exact A3p (by simp only[*,if_true,if_false,eq_self,Bool.false_eq_true,Bool.true_eq_false,not_true_eq_false,not_false_eq_true,reduceCtorEq,H3,R2,A05,A06,Bool.and_true,Bool.true_and,Bool.and_false,Bool.false_and,Bool.or_true,Bool.true_or,Bool.or_false,Bool.false_or,Bool.not_true,Bool.not_false,decide_true,decide_false,E4,A2c,A3i,A53,beq_iff_eq,bne_iff_ne,ne_eq,Bool.or_eq_true,Bool.and_eq_true,decide_eq_true_eq,not_or,Bool.not_eq_true',decide_eq_false_iff_not,Bool.not_eq_true,bne_eq_false_iff_eq,Decidable.not_not,or_self,or_false,false_or,or_true,true_or,and_self,and_false,false_and];first |done |rfl)
 |(simp only[*,if_true,if_false,eq_self,Bool.false_eq_true,Bool.true_eq_false,not_true_eq_false,not_false_eq_true,reduceCtorEq,H3,R2,A05,A06,Bool.and_true,Bool.true_and,Bool.and_false,Bool.false_and,Bool.or_true,Bool.true_or,Bool.or_false,Bool.false_or,Bool.not_true,Bool.not_false,decide_true,decide_false,E4,A2c,A3i,A53,beq_iff_eq,bne_iff_ne,ne_eq,Bool.or_eq_true,Bool.and_eq_true,decide_eq_true_eq,not_or,Bool.not_eq_true',decide_eq_false_iff_not,Bool.not_eq_true,bne_eq_false_iff_eq,Decidable.not_not,or_self,or_false,false_or,or_true,true_or,and_self,and_false,false_and];first |done |exact A2e (λ_ _=>rfl) rfl rfl rfl |exact C1y (λ_ _=>rfl) rfl rfl rfl lN_ rfl |exact D5g (λ_ _=>rfl) rfl rfl rfl |exact C1x (λ_ _=>rfl) rfl rfl rfl lN_ rfl |exact D5f (λ_ _=>rfl) rfl rfl rfl |exact B8c (λ_ _=>rfl) rfl rfl |exact A1q _ rfl rfl |exact A2q _ (by first |omega |(simp only[List.length_set];omega)) rfl rfl)
 |(simp only[*,if_true,if_false,eq_self,Bool.false_eq_true,Bool.true_eq_false,not_true_eq_false,not_false_eq_true,reduceCtorEq,H3,R2,A05,A06,Bool.and_true,Bool.true_and,Bool.and_false,Bool.false_and,Bool.or_true,Bool.true_or,Bool.or_false,Bool.false_or,Bool.not_true,Bool.not_false,decide_true,decide_false,E4,A2c,A3i,A53,go_sem,beq_iff_eq,bne_iff_ne,ne_eq,Bool.or_eq_true,Bool.and_eq_true,decide_eq_true_eq,not_or,Bool.not_eq_true',decide_eq_false_iff_not,Bool.not_eq_true,bne_eq_false_iff_eq,Decidable.not_not,or_self,or_false,false_or,or_true,true_or,and_self,and_false,false_and];first |done |with_reducible rfl |((repeat' (with_reducible apply And.intro)) <;> first |with_reducible rfl |trivial |omega |(rw[IntKind.wrap_i64];omega) |exact I4 _ |exact O9 rfl |exact A3p rfl |exact A1q _ rfl rfl |exact A2q _ (by first |omega |(simp only[List.length_set];omega)) rfl rfl |exact B8c (λ_ _=>rfl) rfl rfl |exact D7j |exact B89 (λ_=>rfl) |(simp only[List.length_tail];omega) |(simp only[List.length_tail,List.length_drop]at*;rw[IntKind.wrap_i64];omega) |exact A23))
 |(have hE:=E4y (by assumption) (by assumption) (by simp only[*,if_true,if_false,eq_self,Bool.false_eq_true,Bool.true_eq_false,not_true_eq_false,not_false_eq_true,reduceCtorEq,H3,R2,A05,A06,Bool.and_true,Bool.true_and,Bool.and_false,Bool.false_and,Bool.or_true,Bool.true_or,Bool.or_false,Bool.false_or,Bool.not_true,Bool.not_false,decide_true,decide_false,beq_iff_eq,bne_iff_ne,ne_eq,Bool.or_eq_true,Bool.and_eq_true,decide_eq_true_eq,not_or,Bool.not_eq_true',decide_eq_false_iff_not,Bool.not_eq_true,bne_eq_false_iff_eq,Decidable.not_not,or_self,or_false,false_or,or_true,true_or,and_self,and_false,false_and];first |done |rfl);simp only[hE, *,if_true,if_false,eq_self,Bool.false_eq_true,Bool.true_eq_false,not_true_eq_false,not_false_eq_true,reduceCtorEq,H3,R2,A05,A06,Bool.and_true,Bool.true_and,Bool.and_false,Bool.false_and,Bool.or_true,Bool.true_or,Bool.or_false,Bool.false_or,Bool.not_true,Bool.not_false,decide_true,decide_false,E4,A2c,A3i,A53,go_sem,beq_iff_eq,bne_iff_ne,ne_eq,Bool.or_eq_true,Bool.and_eq_true,decide_eq_true_eq,not_or,Bool.not_eq_true',decide_eq_false_iff_not,Bool.not_eq_true,bne_eq_false_iff_eq,Decidable.not_not,or_self,or_false,false_or,or_true,true_or,and_self,and_false,false_and];first |done |with_reducible rfl |((repeat' (with_reducible apply And.intro)) <;> first |with_reducible rfl |trivial |omega |(rw[IntKind.wrap_i64];omega) |exact I4 _ |exact O9 rfl |exact A3p rfl |exact A1q _ rfl rfl |exact A2q _ (by first |omega |(simp only[List.length_set];omega)) rfl rfl |exact B8c (λ_ _=>rfl) rfl rfl |exact D7j |exact B89 (λ_=>rfl) |(simp only[List.length_tail];omega) |(simp only[List.length_tail,List.length_drop]at*;rw[IntKind.wrap_i64];omega) |exact A23))
 |exact A23
 |(simp_all only[beq_iff_eq,bne_iff_ne,ne_eq,Bool.or_eq_true,Bool.and_eq_true,decide_eq_true_eq,not_or,Bool.not_eq_true',decide_eq_false_iff_not,Bool.not_eq_true,bne_eq_false_iff_eq,Decidable.not_not,Bool.not_eq_false,Bool.not_eq_false',forall_const,true_implies,and_true,true_and,if_true,if_false,eq_self,not_true_eq_false,not_false_eq_true,reduceCtorEq,E4,H3,R2,A2c,A3i,A53,A05,A06,or_self,or_false,false_or,or_true,true_or,and_self,and_false,false_and];first |done |with_reducible rfl |omega |exact I4 _ |((repeat' (with_reducible apply And.intro)) <;> first |with_reducible rfl |exact I4 _ |exact O9 rfl) |exact A2e (λ_ _=>rfl) rfl rfl rfl |exact C1y (λ_ _=>rfl) rfl rfl rfl lN_ rfl |exact D5g (λ_ _=>rfl) rfl rfl rfl |exact C1x (λ_ _=>rfl) rfl rfl rfl lN_ rfl |exact D5f (λ_ _=>rfl) rfl rfl rfl |exact B8c (λ_ _=>rfl) rfl rfl |exact A1q _ rfl rfl |exact A2q _ (by first |omega |(simp only[List.length_set];omega)) rfl rfl |rfl)):p:=h
theorem A9r {k:IntKind}{a b c d v i:Int}(h:0<=i/\i<4):S5 [AV.sc (.int k a), .sc (.int k b), .sc (.int k c), .sc (.int k d)] (0+i.toNat*1) [.sc (.int k v)]=
  [.sc (.int k (if i=0 then v else a)), .sc (.int k (if i=1 then v else b)), .sc (.int k (if i=2 then v else c)), .sc (.int k (if i=3 then v else d))]:=by
 have:i=0\/i=1\/i=2\/i=3:=by omega
 rcases this with rfl |rfl |rfl |rfl <;> simp[S5]
theorem J1(h:p:=by
 (simp(maxSteps:=1000000) only[go_sem,B4,C3,A9,C5];try(simp(disch:=(first |omega |(simp only[List.length_set];omega) |(apply_assumption;done))) only[A22,A1w,A02,V6,L9,A21,P6,A20,T6,A9r];try simp(maxSteps:=1000000) only[go_sem,B4,C3,A9,C5]))
 repeat' (first
  |((with_reducible refine And.intro ?_ ?_);focus (first |exact J8 |exact ie_ |exact G1o |(first |with_reducible rfl |trivial |omega |(rw[IntKind.wrap_i64];omega) |exact I4 _ |exact O9 rfl |exact A3p rfl |exact A1q _ rfl rfl |exact A2q _ (by first |omega |(simp only[List.length_set];omega)) rfl rfl |exact B8c (λ_ _=>rfl) rfl rfl |exact D7j |exact B89 (λ_=>rfl) |(simp only[List.length_tail];omega) |(simp only[List.length_tail,List.length_drop]at*;rw[IntKind.wrap_i64];omega) |exact A23)))
  |((with_reducible refine it_ (λhc_=> ?_) (λhc_=> ?_)) <;> (have hd_:=hc_;try simp only[beq_iff_eq,bne_iff_ne,ne_eq,Bool.or_eq_true,Bool.and_eq_true,decide_eq_true_eq,not_or,Bool.not_eq_true',decide_eq_false_iff_not,Bool.not_eq_true,bne_eq_false_iff_eq,Decidable.not_not]at hd_))
  |(with_reducible refine gd_ ?_;with_reducible refine A0 (by apply_assumption <;> first |exact J8 |(apply_assumption <;> first |assumption |exact J8)) rfl ?_;(simp(maxSteps:=1000000) only[go_sem,B4,C3,A9,C5];try(simp(disch:=(first |omega |(simp only[List.length_set];omega) |(apply_assumption;done))) only[A22,A1w,A02,V6,L9,A21,P6,A20,T6,A9r];try simp(maxSteps:=1000000) only[go_sem,B4,C3,A9,C5])))
  |((with_reducible refine gD_ ?_);refine C7x ev_ J8 (by apply_assumption <;> first |exact J8 |(apply_assumption <;> first |assumption |exact J8)) (by rfl) ?_;(simp(maxSteps:=1000000) only[go_sem,B4,C3,A9,C5];try(simp(disch:=(first |omega |(simp only[List.length_set];omega) |(apply_assumption;done))) only[A22,A1w,A02,V6,L9,A21,P6,A20,T6,A9r];try simp(maxSteps:=1000000) only[go_sem,B4,C3,A9,C5])))
  |((with_reducible refine gD_ ?_);refine D3b ev_ J8 (by apply_assumption <;> first |exact J8 |(apply_assumption <;> first |assumption |exact J8)) (by rfl) nd_ ?_;(simp(maxSteps:=1000000) only[go_sem,B4,C3,A9,C5];try(simp(disch:=(first |omega |(simp only[List.length_set];omega) |(apply_assumption;done))) only[A22,A1w,A02,V6,L9,A21,P6,A20,T6,A9r];try simp(maxSteps:=1000000) only[go_sem,B4,C3,A9,C5])))
  |((with_reducible refine gD_ ?_);refine K1 ev_ J8 (by apply_assumption <;> first |exact J8 |(apply_assumption <;> first |assumption |exact J8)) ?_;(simp(maxSteps:=1000000) only[go_sem,B4,C3,A9,C5];try(simp(disch:=(first |omega |(simp only[List.length_set];omega) |(apply_assumption;done))) only[A22,A1w,A02,V6,L9,A21,P6,A20,T6,A9r];try simp(maxSteps:=1000000) only[go_sem,B4,C3,A9,C5])))
  |(with_reducible refine gw_ ?_;apply_assumption)
  |((with_reducible refine hb_ ?_);intros;simp only[go_sem,B4,C3,A9,C5,H3,A2c])
  |((with_reducible refine gk_ ?_);refine D8b ev_ ev_ ev_ ns_ ns_ ns_ ?_;(simp(maxSteps:=1000000) only[go_sem,B4,C3,A9,C5];try(simp(disch:=(first |omega |(simp only[List.length_set];omega) |(apply_assumption;done))) only[A22,A1w,A02,V6,L9,A21,P6,A20,T6,A9r];try simp(maxSteps:=1000000) only[go_sem,B4,C3,A9,C5])))
  |((with_reducible refine gr_ ?_);(try simp only[*,if_true,if_false,eq_self,Bool.false_eq_true,Bool.true_eq_false,not_true_eq_false,not_false_eq_true,reduceCtorEq,H3,R2,A05,A06,Bool.and_true,Bool.true_and,Bool.and_false,Bool.false_and,Bool.or_true,Bool.true_or,Bool.or_false,Bool.false_or,Bool.not_true,Bool.not_false,decide_true,decide_false,beq_iff_eq,bne_iff_ne,ne_eq,Bool.or_eq_true,Bool.and_eq_true,decide_eq_true_eq,not_or,Bool.not_eq_true',decide_eq_false_iff_not,Bool.not_eq_true,bne_eq_false_iff_eq,Decidable.not_not,or_self,or_false,false_or,or_true,true_or,and_self,and_false,false_and]);refine C91 ev_ ev_ ev_ ev_ rfl rfl ns_ ns_ ns_ ?_;(simp(maxSteps:=1000000) only[go_sem,B4,C3,A9,C5];try(simp(disch:=(first |omega |(simp only[List.length_set];omega) |(apply_assumption;done))) only[A22,A1w,A02,V6,L9,A21,P6,A20,T6,A9r];try simp(maxSteps:=1000000) only[go_sem,B4,C3,A9,C5])))
  |exact G39)):p:=h
section
variable {P:Program}
theorem A5.ren_id: ∀(o:A5),o.ren id=o
 | .box cs=>by simp only[A5.ren,N1]
 | .arr .. =>rfl
 | .frz .. =>rfl
 | .frzb _=>rfl
 | .map .. =>rfl
 | .mapS .. =>rfl
 | .arrP .. =>rfl
 | .gone=>rfl
theorem D1y(O:List (Nat×A5)):A3w id O=O:=by
 unfold A3w
 conv=>rhs;rw[<-List.map_id O]
 refine List.map_congr_left λp _=> ?_;simp only[A5.ren_id,id]
end
section
variable {P:Program}
end
end Go.Abs
end
noncomputable section
namespace Go.Abs
structure RfT where
 nt:Nat
 as0:List AOper
 as1:List AOper
 as2:List AOper
 gx:Nat
 as3:List AOper
 as4:List AOper
 rvs:List (Nat×Option (Option Nat))
section
variable {P:Program} {N:Nat} {σ:St} {a:Act} {w:World} {ob:Place} {G:Nat->Prop}
variable {m:Nat->Option A5}
theorem D5.blks_lt(hs:D5 G w ob m){b:Nat}(h:O7 ob b):b<w.heap.size:=by
 obtain⟨id,i,hi,hb⟩:=h;cases hm:m id with
 |none=>rw[(hs.dom id).1 hm]at hi;cases hi
 |some o=>exact(hs.own id o i hm hi).has_lt hb
theorem Sim.frame(hs:Sim N σ a w ob G){w':World}(h1:w.heap.size<=w'.heap.size)(h2: ∀b,b<w.heap.size->(G b\/O7 ob b)->w'.heap[b]? =w.heap[b]?):Sim N σ a w' ob G:=⟨hs.size,hs.defers,hs.objs.frame h1 h2,λt av ht=>let⟨v,h3,h4⟩:=hs.env t av ht;⟨v,h3,h4.ext (λ_ h=>h) (λb hb=>h2 b (hs.objs.lt b hb) (.inl hb)) (C9.refl ob)⟩,hs.env0⟩
end
end Go.Abs
namespace Go.Abs
end Go.Abs
end
noncomputable section
namespace Go.Abs
section
variable {P:Program} {N:Nat} {K:List Nat}
def D6t(o:AOper)(σ:St) [Q:ContR]:Prop:=
 o.guard=none/\match o.op with
 | .append z bytes x y=>match σ.e x,σ.e y with
   |some (.sl id off n tot),some v=>match σ.objs id,V8 σ.objs z v with
    |some (.arr z' s),some (p,q)=>z'=z/\off=0/\A61 σ true (AOp.append z bytes x y).ops/\(p/\tot=s.n/\n+q.n<=s.n/\(n+q.n)*bytes<=140737488355328/\n+q.n<=maxLen)/\
      Ri true ⟨some (.sl id 0 (n+q.n) tot),[(id, .arr z (s.over n q))]⟩
    |_,_=>False
   |_,_=>False
 | .slice z x lo hi mx=>match σ.e x,Y7 σ.e lo,Y7 σ.e hi,Y7 σ.e mx with
   |some (.sl id _ n tot),some l,some h,some (some k)=>match σ.objs id with
    |some (.arr z' s)=>z'=z/\A61 σ true (AOp.slice z x lo hi mx).ops/\(tot=s.n/\0<=l.getD 0/\l.getD 0<=h.getD n/\h.getD n<=n/\h.getD n<=k/\k<=n/\h.isSome)/\Ri true ⟨none,[]⟩
    |_=>False
   |some (.sl id off n tot),some l,some (some h),some none=>match σ.objs id with
    |some (.arr z' s)=>z'=z/\off=0/\A61 σ true (AOp.slice z x lo hi mx).ops/\(tot=s.n/\0<=l.getD 0/\l.getD 0<=h/\h<=tot)/\Ri true ⟨some (.sl id (l.getD 0).toNat (h-l.getD 0).toNat tot),[]⟩
    |_=>False
   |_,_,_,_=>False
 |_=>False
variable (P)
def F1x:Nat->List AOper->(St->Prop)->St->Prop
 |_,[],Q,σ=>Q σ
 |0,o::os,Q,σ=> @D6t o σ ⟨λ_ r=>A5h P os Q (σ.put o.dst true r)⟩
 |k+1,o::os,Q,σ=>wop P o σ λb r=>F1x k os Q (σ.put o.dst b r)
def F1u:Nat->List AOper->List (List Nat×List Nat)->(St->Prop)->St->Prop
 |_,[],_,Q,σ=>Q σ
 |0,o::os,seen,Q,σ=> @D6t o σ ⟨λ_ r=>A41 o.op r/\A3u seen (A1g σ o) (Q8 r) o.chk/\C2t P os (seen++ [(A1g σ o,Q8 r)]) Q (σ.put o.dst true r)⟩
 |k+1,o::os,seen,Q,σ=>wop P o σ λb r=>A41 o.op r/\A3u seen (A1g σ o) (Q8 r) o.chk/\F1u k os (seen++ [(A1g σ o,Q8 r)]) Q (σ.put o.dst b r)
variable {P}
def WsI(P:Program)(k:Nat)(l:List AOper) [Q:ContS](σ:St):Prop:=F1x P k l Q.q σ
def WnI(P:Program)(k:Nat)(l:List AOper)(seen:List (List Nat×List Nat)) [Q:ContS](σ:St):Prop:=F1u P k l seen Q.q σ
@[reducible] def F7n(P:Program)(k:Nat)(os:List AOper)(Q:ContS)(d:Option Nat)(σ:St):ContR:=⟨λb r=>F1x P k os Q.q (σ.put d b r)⟩
@[reducible] def F7b(P:Program)(k:Nat)(o:AOper)(os:List AOper)(seen:List (List Nat×List Nat))(Q:ContS)(σ:St):ContR:=⟨λb r=>A41 o.op r/\A3u seen (A1g σ o) (Q8 r) o.chk/\F1u P k os (seen++ [(A1g σ o,Q8 r)]) Q.q (σ.put o.dst b r)⟩
@[reducible] def F7m(P:Program)(os:List AOper)(Q:ContS)(d:Option Nat)(σ:St):ContR:=⟨λ_ r=>A5h P os Q.q (σ.put d true r)⟩
@[reducible] def F7a(P:Program)(o:AOper)(os:List AOper)(seen:List (List Nat×List Nat))(Q:ContS)(σ:St):ContR:=⟨λ_ r=>A41 o.op r/\A3u seen (A1g σ o) (Q8 r) o.chk/\C2t P os (seen++ [(A1g σ o,Q8 r)]) Q.q (σ.put o.dst true r)⟩
variable {σ:St} {o:AOper} {os:List AOper}
theorem F4z {Q:ContS}: @WsI P 0 (o::os) Q σ= @D6t o σ (F7m P os Q o.dst σ):=rfl
variable {k:Nat}
theorem F4y {Q:ContS}: @WsI P (k+1) (o::os) Q σ= @Woi P o σ (F7n P k os Q o.dst σ):=rfl
variable {seen:List (List Nat×List Nat)}
theorem F4w {Q:ContS}: @WnI P 0 (o::os) seen Q σ= @D6t o σ (F7a P o os seen Q σ):=rfl
theorem F4v {Q:ContS}: @WnI P (k+1) (o::os) seen Q σ= @Woi P o σ (F7b P k o os seen Q σ):=rfl
variable {r:Res} {b:Bool}
theorem F7w {Q:ContS}{d:Option Nat}: @Ri (F7n P k os Q d σ) b r= @WsI P k os Q (σ.put d b r):=rfl
theorem F7v {Q:ContS}{d:Option Nat}: @Ri (F7m P os Q d σ) b r= @Wsi P os Q (σ.put d true r):=rfl
theorem F7u {Q:ContS}:
  @Ri (F7b P k o os seen Q σ) b r=(A41 o.op r/\A3u seen (A1g σ o) (Q8 r) o.chk/\ @WnI P k os (seen++ [(A1g σ o,Q8 r)]) Q (σ.put o.dst b r)):=rfl
theorem F7t {Q:ContS}:
  @Ri (F7a P o os seen Q σ) b r=(A41 o.op r/\A3u seen (A1g σ o) (Q8 r) o.chk/\ @Wni P os (seen++ [(A1g σ o,Q8 r)]) Q (σ.put o.dst true r)):=rfl
end
attribute [go_sem] F4z F4y F4w F4v F7w F7v F7u F7t D6t
section
variable {P:Program} {N:Nat} {K:List Nat} {L:List (Nat×List Bool)} {f:FuncId} {fn:Func} {ac a b:ACode} {args rs:List AV} {r:AV} {O O':List (Nat×A5)} {ts:List Nat} {Q:Cont} {σ:St}
theorem F5f(hm:P.follows .mixedOrders=true)(hL:okE P L=true)(hf:P.funcs[f]? =some fn)(hc:M5 P L fn.ntmps (fn.body.getD .skip)=some ac)(hts:A4m fn.results.toList=some ts)
  (h: @Wpi P fn.ntmps [] ac (D9v ts [r]) (A0b args []))(hb:fn.body=some (fn.body.getD .skip):=by kernel_rfl)(hname:(fn.name != "runtime.NumGoroutine")=true:=by kernel_rfl)(hnd:ts.Nodup:=by decide)(hl:(args.length.ble fn.ntmps)=true:=by kernel_rfl):
  A1 P f args [] r []:=C86 (ac:= .mark ac) hm hf hb hname (have e:D9 P fn.ntmps (fn.body.getD .skip)=some ac.strip:=cs2 hL hc;e) hts hnd hl h
theorem F0n(hm:P.follows .mixedOrders=true)(hL:okE P L=true)(hf:P.funcs[f]? =some fn)(hc:M5 P L fn.ntmps (fn.body.getD .skip)=some ac)(hts:A4m fn.results.toList=some ts)
  (h: @Wpi P fn.ntmps (O.map (·.1)) ac (C5l (O.map (·.1)) ts [r] O') (A0b args O))(hb:fn.body=some (fn.body.getD .skip):=by kernel_rfl)(hname:(fn.name != "runtime.NumGoroutine")=true:=by kernel_rfl)(hnd:ts.Nodup:=by decide)(hl:(args.length.ble fn.ntmps)=true:=by kernel_rfl):
  A1 P f args O r O':=B76 (ac:= .mark ac) hm hf hb hname (have e:D9 P fn.ntmps (fn.body.getD .skip)=some ac.strip:=cs2 hL hc;e) hts hnd hl h
theorem G27(hm:P.follows .mixedOrders=true)(hL:okE P L=true)(hf:P.funcs[f]? =some fn)(hc:M5 P L fn.ntmps (fn.body.getD .skip)=some ac)(hts:A4m fn.results.toList=some ts)
  (h: @Wpi P fn.ntmps (O.map (·.1)) ac (C5l (O.map (·.1)) ts rs O') (A0b args O))(hp:A5a rs= .tup rs:=by rfl)(hb:fn.body=some (fn.body.getD .skip):=by kernel_rfl)(hname:(fn.name != "runtime.NumGoroutine")=true:=by kernel_rfl)(hnd:ts.Nodup:=by decide)(hl:(args.length.ble fn.ntmps)=true:=by kernel_rfl):
  A1 P f args O (.tup rs) O':=hp▸B76 (ac:= .mark ac) hm hf hb hname (have e:D9 P fn.ntmps (fn.body.getD .skip)=some ac.strip:=cs2 hL hc;e) hts hnd hl h
theorem F7e(N:Nat)(rvs:List (Nat×Option (Option Nat)))(hm:P.follows .mixedOrders=true)(hL:okE P L=true)(hf:P.funcs[f]? =some fn)(hc:M5 P L fn.ntmps (fn.body.getD .skip)=some ac)
  (h: @Wpi P N [] ac (C0x N rvs rs) (A0b args []))(hp:A5a rs= .tup rs:=by rfl)(hN:fn.ntmps=N:=by kernel_rfl)(hts:A51 P fn.results.toList=some rvs:=by kernel_rfl)(hb:fn.body=some (fn.body.getD .skip):=by kernel_rfl)(hname:(fn.name != "runtime.NumGoroutine")=true:=by kernel_rfl)(hlt:(rvs.all λp=>p.1.blt N)=true:=by decide)(hl:(args.length.ble N)=true:=by kernel_rfl):
  A1 P f args [] (.tup rs) []:=hp▸B5y (ac:= .mark ac) hm hf hb hname (have e:D9 P fn.ntmps (fn.body.getD .skip)=some ac.strip:=cs2 hL hc;e) hN hts hlt hl h
@[reducible] def wkC(K:List Nat)(T:H6)(O:List (Nat×A5)):Cont:=⟨λo τ=>match o with | .normal=>Y5 K τ T O |_=>False⟩
variable {T:H6}
theorem G0t: @Qi (wkC K T O) .normal σ=Y5 K σ T O:=rfl
theorem C4(T:H6)(O:List (Nat×A5))(h1: @Wpi P N K a (wkC K T O) σ)(h2: @Wpi P N K b Q (A14 T O)): @Wpi P N K (.seq a b) Q σ:=
 Wp.seq (Wp.mono (show Wp P N K a (wkC K T O).q σ from h1) λo τ ho=>by
  cases o with
  |normal=>exact Wp.weak ho h2
  |exit i=>exact ho.elim
  |ret=>exact ho.elim)
variable {i:Nat}
theorem A3f(h: @Wpi P N K a (C85 i Q) σ): @Wpi P N K (.block i a) Q σ:=Wp.block h
end
attribute [go_sem] G0t
theorem E51(s t:Sq):(s.app t).n=s.n+t.n:=rfl
variable {α:Type} {l:List α}
theorem E8m {enc:α->List AV}{d:α}:(A8 enc d l).n=l.length:=rfl
attribute [go_sem] E51 E8m
variable {z n:Nat} {g:Nat->List AV} {n':Nat}
theorem F18 {enc:α->List AV}{d:α}{L:List α}(x:α)(hg:g 0=enc x)(hL:L=l++ [x])(hn:n=l.length+1)(hn':n'=L.length):
  M4 (.dsl z n ((A8 enc d l).app ⟨1,g⟩).g) (.dsl z n' (L7 enc d L)):=by
 subst hn;subst hn';subst hL;rw[A11];refine⟨rfl,by simp,λi hi=> ?_⟩;have h:=(A1q (ρ:=id) (z:=z) (d:=d) (l:=l) x hg rfl).2.2 i (by simpa[E51,E8m]using hi);exact h
variable {p:Prop}
theorem bO_(h:p:=by first |exact J8 |((repeat' (with_reducible apply And.intro)) <;> first |omega |(simp only[IntKind.wrap_i64];omega) |(exact Int.tmod_nonneg _ (by first |omega |(rw[IntKind.wrap_i64];omega))) |(exact Int.tmod_lt_of_pos _ (by omega)) |(intro hob0;(repeat' (with_reducible apply And.intro)) <;> first |omega |(exact Int.tmod_nonneg _ (by first |omega |(rw[IntKind.wrap_i64];omega))) |(exact Int.tmod_lt_of_pos _ (by omega))) |trivial |assumption |(simp only[maxLen];omega) |(intro hob;first |omega |(simp only[Bool.and_eq_true,Bool.or_eq_true,decide_eq_true_eq,Bool.not_eq_true',decide_eq_false_iff_not,Bool.or_eq_false_iff]at hob;first |omega |(simp only[IntKind.wrap_i64];omega)) |(simp only[hob,Bool.not_false,Bool.not_true,Bool.true_and,Bool.and_true,true_and,and_true,imp_self,implies_true];done) |(simp[hob];done) |(simp_all;done) |(simp_all;omega)))):p:=h
theorem eO_(h:p:=by((try dsimp only);(repeat' (with_reducible apply And.intro)) <;> first |with_reducible rfl |trivial |(rw[IntKind.wrap_i64];omega) |omega |(simp only[List.length_append,List.length_cons,List.length_nil];done) |rfl |exact O9 rfl |exact A3p rfl |(simp only[go_sem,↓reduceIte,Nat.reduceEqDiff,reduceCtorEq,Nat.reduceAdd,Nat.reduceLeDiff,Nat.reduceMul,Nat.reduceSub,Int.reduceToNat,B4,C3,A9,C5];done) |(simp_all;done) |(simp only[decide_eq_false_iff_not,Bool.not_eq_false,decide_eq_true_eq]at*;omega) |(intro hob;simp only[hob,Bool.not_false,Bool.not_true,Bool.true_and,Bool.and_true,true_and,and_true,imp_self,implies_true];done) |(intro hob;simp[hob];done) |((repeat' (with_reducible apply And.intro)) <;> first |omega |(simp only[IntKind.wrap_i64];omega) |(exact Int.tmod_nonneg _ (by first |omega |(rw[IntKind.wrap_i64];omega))) |(exact Int.tmod_lt_of_pos _ (by omega)) |(intro hob0;(repeat' (with_reducible apply And.intro)) <;> first |omega |(exact Int.tmod_nonneg _ (by first |omega |(rw[IntKind.wrap_i64];omega))) |(exact Int.tmod_lt_of_pos _ (by omega))) |trivial |assumption |(simp only[maxLen];omega) |(intro hob;first |omega |(simp only[Bool.and_eq_true,Bool.or_eq_true,decide_eq_true_eq,Bool.not_eq_true',decide_eq_false_iff_not,Bool.or_eq_false_iff]at hob;first |omega |(simp only[IntKind.wrap_i64];omega)) |(simp only[hob,Bool.not_false,Bool.not_true,Bool.true_and,Bool.and_true,true_and,and_true,imp_self,implies_true];done) |(simp[hob];done) |(simp_all;done) |(simp_all;omega))))):p:=h
variable {σ:St} {O:List (Nat×A5)} {rs:List AV} {K ts:List Nat}
theorem V7(md:List C1w)(ρs:List (Nat×Nat))(A:List Nat)(h4:A3b σ (A6 ρs) A O (B9x ts md rs) [] λwr=>B34 (wrm σ.objs wr) (A6 ρs) A O O)
  (hm:md.length=ts.length:=by rfl)(hr:rs.length=ts.length:=by rfl)(h1:(O.map (·.1)).Nodup:=by simp[go_sem])(h2:(((O.map (·.1)).filter λi=> !A.contains i).map (A6 ρs)).Nodup:=by simp[A6,go_sem])(h3: ∀k∈K,k∉A/\A6 ρs k=k/\(ofL O k).isSome:=by simp[go_sem,A6]):A8c K σ ts rs O:=C8 md ρs A hm hr h1 h2 h3 h4
variable {T:H6}
theorem C0(ρs:List (Nat×Nat))(A:List Nat)(h4:A3b σ (A6 ρs) A O T [] λwr=>B34 (wrm σ.objs wr) (A6 ρs) A O O)(h1:(O.map (·.1)).Nodup:=by simp[go_sem])(h2:(((O.map (·.1)).filter λi=> !A.contains i).map (A6 ρs)).Nodup:=by simp[A6,go_sem])(h3: ∀k∈K,k∉A/\A6 ρs k=k/\(ofL O k).isSome:=by simp[go_sem,A6]):Y5 K σ T O:=B6 ρs A h1 h2 h3 h4
def mdA:Nat->C1w
 |0=> .adopt
 |_+1=> .share
theorem F5x:mdA 0= .adopt:=rfl
theorem F5w(i:Nat):mdA (i+1)= .share:=rfl
attribute [go_sem] F5x F5w
theorem eE_(h:p:=by
  (repeat' (with_reducible apply And.intro)) <;> first
    |with_reducible rfl |trivial |rfl |exact I4 _ |exact O9 rfl |exact A3p rfl |exact⟨rfl,rfl,λ_ _=>L3 _⟩ |(rw[IntKind.wrap_i64];omega) |omega |exact F18 _ rfl rfl rfl rfl |exact A1q _ rfl rfl |assumption |(simp only[maxLen];omega) |(simp only[List.length_append,List.length_cons,List.length_nil];omega) |(simp;done)):p:=h
theorem bE_(h:p:=by(repeat' (with_reducible apply And.intro)) <;> first |omega |(rw[IntKind.wrap_i64];omega) |(simp only[maxLen];omega) |trivial):p:=h
section
variable {P:Program} {G:Nat->Prop} {w:World} {ob:Place} {m:Nat->Option A5}
variable {av:AV}
theorem AV.flat_of_pure(h:av.pure=true):av.flat=true:=by cases av <;> first |exact h |simp[AV.pure]at h
end
section
variable {P:Program} {N:Nat}
variable {a:Act} {next:Act->World->Prop}
theorem F1t {o:Oper}{Q:Exit->Act->World->Prop}{rr:Nat}{r:Result Next}(h:o.upon P a next Q r):o.uponIn (Fence.wide.inRound rr) n P a next Q r:=by
 unfold Oper.upon at h;unfold Oper.uponIn;split at h
 ·exact h
 ·exact h
 ·exact h
 ·refine⟨λh=>by simp[Fence.wide]at h,?_⟩;have h2:CallsIn (Fence.wide.inRound rr) (n-1) P _ _ _ _:=(callsIn_wide (n:=n-1)).2 h;omega
 ·refine⟨λh=>by simp[Fence.wide]at h,λc cs _=> ?_⟩;obtain⟨v,w',r,s⟩:=h c cs;exact⟨v,w',r,stepsIn_wide.2 s⟩
 ·exact h
 ·exact h.elim
variable {w:World}
theorem F09 {o:Oper}{Q:Exit->Act->World->Prop}{rr:Nat}(hd: ∀c,o.op≠ .defer c)(h:o.wp P a w next Q):o.wpIn (Fence.wide.inRound rr) n P a w next Q:=by
 refine⟨λ_ _=>trivial,?_⟩;show o.uponIn (Fence.wide.inRound rr) n P a next Q ((o.semAt (some rr) a.eval).run P w)
 rw[Oper.semAt_eq _ _ _ hd];exact F1t h
theorem D8e {ops:Array Oper}{Q:St->Prop}{R:Exit->Act->World->Prop}{rr n:Nat}: ∀(l:List Oper) (as:List AOper) (k:Nat) (σ:St) (a:Act) (w:World) (ob:Place) (G:Nat->Prop),
  (∀o∈l,∀c,o.op≠ .defer c)->T8 P N ops l=some as->(∀i o,l[i]? =some o->ops[k+i]? =some o)->Sim N σ a w ob G->A5h P as Q σ->
  (∀τ a' w' ob' G',Q τ->Sim N τ a' w' ob' G'->Fr G w ob G' w' ob'->C9 ob ob'->R .normal a' w')->
  wpOpsIn (Fence.wide.inRound rr) n P ops R (List.range' k l.length) a w
 | [],as,k,σ,a,w,ob,G,_,hc,hl,hs,h,hQ=>by simp only[T8,Option.some.injEq]at hc;subst hc;exact hQ σ a w ob G h hs (Fr.refl G w ob) (C9.refl ob)
 |o::l,as,k,σ,a,w,ob,G,hnd,hc,hl,hs,h,hQ=>by
  simp only[T8]at hc;split at hc
  case h_2=>cases hc
  rename_i ao as' h1 h2;simp only[Option.some.injEq]at hc;subst hc;obtain⟨b,r,hd,hk⟩:=C6g h;have ho:ops[k]? =some o:=by simpa using hl 0 o (by simp)
  simp only[List.length_cons,List.range'_succ];simp only[wpOpsIn,ho];have:=D1b (K:=wpOpsIn (Fence.wide.inRound rr) n P ops R (List.range' (k+1) l.length)) (Q:=R) h1 hs hd (λa' w' ob' G' s f e=>D8e l as' (k+1) _ a' w' ob' G' (λo ho=>hnd o (List.mem_cons_of_mem _ ho)) h2
   (λi o' hi=>by have:=hl (i+1) o' (by simpa using hi);grind) s hk
   (λτ a'' w'' ob'' G'' q s' f' e'=>hQ τ a'' w'' ob'' G'' q s' (f.trans f') (e.trans e')))
  by_cases hw:Region.wanted o (yielded ops a.tmps)=true
  ·rw[if_pos hw]at this⊢;exact F09 (hnd o (List.mem_cons_self ..)) this
  ·rw[if_neg hw]at this⊢;exact⟨λ_ _=>trivial,this⟩
def F3e(o:Oper):Bool:=match o.op with | .defer _=>false |_=>true
def A27:Code->Bool
 | .region _ ops draw=>ops.toList.all F3e&& !draw
 | .seq a b=>A27 a&&A27 b
 | .cond _ a b=>A27 a&&A27 b
 | .skip=>true
 | .block _ a=>A27 a
 |_=>false
def plA:ACode->Bool
 | .region _ _=>true
 | .seq a b=>plA a&&plA b
 | .cond _ a b=>plA a&&plA b
 | .block _ a=>plA a
 | .skip=>true
 |_=>false
theorem B5b {rr n:Nat}{K:List Nat}: ∀(c:Code) (ac:ACode) {Q:Out->St->Prop} {σ:St} {a:Act} {w:World} {ob:Place} {G:Nat->Prop} {R:Exit->Act->World->Prop},
  A27 c=true->plA ac=true->D9 P N c=some ac.strip->Sim N σ a w ob G->W P N K ac Q σ->
  (∀τ a' w' ob' G',Q .normal τ->Sim N τ a' w' ob' G'->Fr G w ob G' w' ob'->C9 ob ob'->R .normal a' w')->c.wpIn (Fence.wide.inRound rr) n P R a w
 | .skip,ac,Q,σ,a,w,ob,G,R,_,hp,hc,hs,h,hR=>by cases ac <;> simp only[D9,ACode.strip,Option.some.injEq,reduceCtorEq,plA]at hc hp;exact wpIn_skip (hR σ a w ob G h hs (Fr.refl G w ob) (C9.refl ob))
 | .region i ops draw,ac,Q,σ,a,w,ob,G,R,hn,hp,hc,hs,h,hR=>by
   simp only[A27,Bool.and_eq_true,Bool.not_eq_true',List.all_eq_true]at hn;obtain⟨hn,rfl⟩:=hn;simp only[D9,B0r]at hc;cases ac with
   |region d os=>
    simp only[ACode.strip]at hc;split at hc
    ·rename_i as has;simp only[Option.some.injEq,ACode.region.injEq]at hc;obtain⟨rfl,rfl⟩:=hc;split at has
     ·rename_i as' hcop;simp only[Bool.false_eq_true,if_false,Option.some.injEq]at has;subst has;refine wpIn_region ?_;have:=D8e (rr:=rr) (n:=n) (Q:=Q .normal) (R:=R) ops.toList as' 0 σ a w ob G (λo ho c e=>by have:=hn o ho;simp[F3e,e]at this) hcop (λi o hi=>by simpa using hi) hs h hR;rw[List.range_eq_range'];simpa using this
     ·cases has
    ·cases hc
   |_=>
    simp only[plA,Bool.false_eq_true]at hp
    all_goals((repeat' split at hc) <;> simp[ACode.strip]at hc)
 | .seq x y,ac,Q,σ,a,w,ob,G,R,hn,hp,hc,hs,h,hR=>by
   simp only[A27,Bool.and_eq_true]at hn;simp only[D9]at hc;cases ac with
   |seq x' y'=>
    simp only[plA,Bool.and_eq_true]at hp;simp only[ACode.strip]at hc;split at hc
    ·rename_i x1 y1 h1 h2;simp only[Option.some.injEq,ACode.seq.injEq]at hc;obtain⟨rfl,rfl⟩:=hc;refine wpIn_seq (B5b x x' hn.1 hp.1 h1 hs h λτ a1 w1 ob1 G1 q1 s1 f1 e1=> ?_);exact B5b y y' hn.2 hp.2 h2 s1 q1 λτ' a2 w2 ob2 G2 q2 s2 f2 e2=>hR τ' a2 w2 ob2 G2 q2 s2 (f1.trans f2) (e1.trans e2)
    ·cases hc
   |_=>
    simp only[plA,Bool.false_eq_true]at hp
    all_goals((repeat' split at hc) <;> simp[ACode.strip]at hc)
 | .cond c x y,ac,Q,σ,a,w,ob,G,R,hn,hp,hc,hs,h,hR=>by
   simp only[A27,Bool.and_eq_true]at hn;simp only[D9]at hc;cases ac with
   |cond k x' y'=>
    simp only[plA,Bool.and_eq_true]at hp;simp only[ACode.strip]at hc;split at hc
    ·rename_i k1 x1 y1 hk h1 h2;simp only[Option.some.injEq,ACode.cond.injEq]at hc;obtain⟨rfl,rfl,rfl⟩:=hc;simp only[W]at h;split at h
     ·rename_i t ht;have hv:a.eval c= .bool t:=by
       have:=hs.opRel c k1 (.sc (.bool t)) hk (by unfold St.e';rw[ht]);exact this.sc_eq
      refine wpIn_cond hv ?_;cases t with
      |true=>exact B5b x x' hn.1 hp.1 h1 hs (by simpa using h) hR
      |false=>exact B5b y y' hn.2 hp.2 h2 hs (by simpa using h) hR
     ·exact h.elim
    ·cases hc
   |_=>
    simp only[plA,Bool.false_eq_true]at hp
    all_goals((repeat' split at hc) <;> simp[ACode.strip]at hc)
 | .block id x,ac,Q,σ,a,w,ob,G,R,hn,hp,hc,hs,h,hR=>by
   simp only[A27]at hn;simp only[D9]at hc;cases ac with
   |block k x'=>
    simp only[plA]at hp;simp only[ACode.strip]at hc;split at hc
    ·rename_i x1 h1;simp only[Option.some.injEq,ACode.block.injEq]at hc;obtain⟨rfl,rfl⟩:=hc;exact wpIn_block (B5b x x' hn hp h1 hs h λτ' a2 w2 ob2 G2 q2 s2 f2 e2=>hR τ' a2 w2 ob2 G2 q2 s2 f2 e2)
    ·cases hc
   |_=>
    simp only[plA,Bool.false_eq_true]at hp
    all_goals((repeat' split at hc) <;> simp[ACode.strip]at hc)
 | .loop ..,_,_,_,_,_,_,_,_,hn,_,_,_,_,_=>by simp[A27]at hn
 | .exit ..,_,_,_,_,_,_,_,_,hn,_,_,_,_,_=>by simp[A27]at hn
 | .ret,_,_,_,_,_,_,_,_,hn,_,_,_,_,_=>by simp[A27]at hn
 | .label ..,_,_,_,_,_,_,_,_,hn,_,_,_,_,_=>by simp[A27]at hn
 | .goto ..,_,_,_,_,_,_,_,_,hn,_,_,_,_,_=>by simp[A27]at hn
 | .scope ..,_,_,_,_,_,_,_,_,hn,_,_,_,_,_=>by simp[A27]at hn
 | .rangeFunc ..,_,_,_,_,_,_,_,_,hn,_,_,_,_,_=>by simp[A27]at hn
variable {G:Nat->Prop} {ob:Place} {m:Nat->Option A5} {G':Nat->Prop}
theorem D5.shrink(hs:D5 G' w ob m)(hsub: ∀b,G b->G' b)(hn: ∀id o,m id=some o->o.NoDsl):D5 G w ob m:=⟨hs.dom,hs.inj,λb h=>hs.lt b (hsub b h),λid o i h1 h2=>(hs.own id o i h1 h2).noDsl (hn id o h1),λid o i b h1 h2 h3 h4 h5=>hs.sep id o i b h1 h2 h3 h4 (hsub b h5)⟩
structure Ext (w w':World):Prop where
 size:w.heap.size<=w'.heap.size
 same: ∀b,b<w.heap.size->w'.heap[b]? =w.heap[b]?
 os:w'.os=w.os
 tape:w'.tape=w.tape
 output:w'.output=w.output
 drawn:w.drawn<=w'.drawn
theorem Ext.refl(w:World):Ext w w:=⟨Nat.le_refl _,λ_ _=>rfl,rfl,rfl,rfl,Nat.le_refl _⟩
theorem Ext.trans {u v w:World}(h:Ext u v)(k:Ext v w):Ext u w:=⟨Nat.le_trans h.size k.size,λb hb=>(k.same b (Nat.lt_of_lt_of_le hb h.size)).trans (h.same b hb),k.os.trans h.os,k.tape.trans h.tape,k.output.trans h.output,Nat.le_trans h.drawn k.drawn⟩
variable {w':World} {ob':Place}
theorem Ext.of_fr(f:Fr G w (λ_=>none) G' w' ob'):Ext w w':=⟨f.size,λb hb=>f.same b hb (.inr λ⟨_,_,h,_⟩=>by cases h),f.os,f.tape,f.output,f.drawn⟩
theorem Fr.ext {w1 w2:World}(f:Fr G w ob G' w1 ob')(e:Ext w1 w2):Fr G w ob G' w2 ob':=⟨Nat.le_trans f.size e.size,λb hb hc=>(e.same b (Nat.lt_of_lt_of_le hb f.size)).trans (f.same b hb hc),f.blk,f.sub,f.new,e.os.trans f.os,e.tape.trans f.tape,e.output.trans f.output,Nat.le_trans f.drawn e.drawn⟩
end
section
variable {P:Program} {N:Nat}
structure C1v (P:Program) (α:Type)where
 l:Nat
 encs:α->List AV
 J:List α->World->(Nat->Prop)->Prop
 bound:Nat
 lt: ∀pre W Φ b,J pre W Φ->Φ b->b<W.heap.size
 ext: ∀pre W W' Φ,J pre W Φ->Ext W W'->J pre W' Φ
 rnd: ∀pre x W Φ (vals:List Value),J pre W Φ->pre.length<bound->(∀G ob,A6z G W ob (encs x) vals)->
  ∃fn tmps asg bd,(Instr.yield l vals.toArray).run P W= .ok (.round l fn tmps asg bd) W/\
   ∀n,RoundIn Fence.wide n P l fn tmps asg bd W λe W'=>e= .returned (.bool true)/\ ∃Φ',J (pre++ [x]) W' Φ'/\(∀b,Φ' b->Φ b\/W.heap.size<=b)/\W.heap.size<=W'.heap.size/\ ∀b,b<W.heap.size-> ¬Φ b->W'.heap[b]? =W.heap[b]?
variable {a:Act} {next:Act->World->Prop}
theorem F4g {o:Oper}{Q:Exit->Act->World->Prop}{r:Result Next}(h:o.upon P a next Q r):o.uponIn Fence.wide n P a next Q r:=by
 unfold Oper.upon at h;unfold Oper.uponIn;split at h
 ·exact h
 ·exact h
 ·exact h
 ·refine⟨λh=>by simp[Fence.wide]at h,?_⟩;refine((callsIn_wide (n:=n-1)).2 h).mono λe w' he=> ?_;cases e <;> exact he
 ·refine⟨λh=>by simp[Fence.wide]at h,λc cs _=> ?_⟩;obtain⟨v,w',r,s⟩:=h c cs;exact⟨v,w',r,stepsIn_wide.2 s⟩
 ·exact h
 ·exact h.elim
theorem E0g {ops:Array Oper}{Q:St->Prop}{R:Exit->Act->World->Prop}{n:Nat}{rest:List Nat}: ∀(l:List Oper) (as:List AOper) (k:Nat) (σ:St) (a:Act) (w:World) (ob:Place) (G:Nat->Prop),
  T8 P N ops l=some as->(∀i o,l[i]? =some o->ops[k+i]? =some o)->Sim N σ a w ob G->A5h P as Q σ->
  (∀τ a' w' ob' G',Q τ->Sim N τ a' w' ob' G'->Fr G w ob G' w' ob'->C9 ob ob'->wpOpsIn Fence.wide n P ops R rest a' w')->
  wpOpsIn Fence.wide n P ops R (List.range' k l.length++rest) a w
 | [],as,k,σ,a,w,ob,G,hc,hl,hs,h,hQ=>by simp only[T8,Option.some.injEq]at hc;subst hc;exact hQ σ a w ob G h hs (Fr.refl G w ob) (C9.refl ob)
 |o::l,as,k,σ,a,w,ob,G,hc,hl,hs,h,hQ=>by
  simp only[T8]at hc;split at hc
  case h_2=>cases hc
  rename_i ao as' h1 h2;simp only[Option.some.injEq]at hc;subst hc;obtain⟨b,r,hd,hk⟩:=C6g h;have ho:ops[k]? =some o:=by simpa using hl 0 o (by simp)
  simp only[List.length_cons,List.range'_succ,List.cons_append];simp only[wpOpsIn,ho];have:=D1b (K:=wpOpsIn Fence.wide n P ops R (List.range' (k+1) l.length++rest)) (Q:=R) h1 hs hd (λa' w' ob' G' s f e=>E0g l as' (k+1) _ a' w' ob' G' h2
   (λi o' hi=>by have:=hl (i+1) o' (by simpa using hi);grind) s hk
   (λτ a'' w'' ob'' G'' q s' f' e'=>hQ τ a'' w'' ob'' G'' q s' (f.trans f') (e.trans e')))
  by_cases hw:Region.wanted o (yielded ops a.tmps)=true
  ·rw[if_pos hw]at this⊢;exact⟨λ_ _=>trivial,F4g this⟩
  ·rw[if_neg hw]at this⊢;exact⟨λ_ _=>trivial,this⟩
theorem C9a {ops:Array Oper}: ∀ {pre:List AOper} {l:List Oper} {x:AOper} {post:List AOper},T8 P N ops l=some (pre++x::post)->
  ∃l1 o l2,l=l1++o::l2/\T8 P N ops l1=some pre/\B2b P N ops o=some x/\T8 P N ops l2=some post
 | [],[],x,post,h=>by simp[T8]at h
 | [],o::l,x,post,h=>by
   simp only[T8]at h;split at h
   ·rename_i h1 h2;simp only[List.nil_append,Option.some.injEq,List.cons.injEq]at h;obtain⟨rfl,rfl⟩:=h;exact⟨[],o,l,rfl,rfl,h1,h2⟩
   ·cases h
 |p::pre,[],x,post,h=>by simp[T8]at h
 |p::pre,o::l,x,post,h=>by
  simp only[T8]at h;split at h
  ·rename_i h1 h2;simp only[List.cons_append,Option.some.injEq,List.cons.injEq]at h;obtain⟨rfl,rfl⟩:=h;obtain⟨l1,o',l2,rfl,g1,g2,g3⟩:=C9a h2;exact⟨o::l1,o',l2,rfl,by simp only[T8,h1,g1],g2,g3⟩
  ·cases h
variable {α:Type}
def SJ(I:C1v P α)(N:Nat)(T:H6)(pre:List α)(a:Act)(W:World):Prop:=∃ob G Φ,Sim N (A14 T []) a W ob G/\I.J pre W Φ/\ ∀b,G b-> ¬Φ b
variable {w:World} {G:Nat->Prop} {ob:Place}
theorem D1t(h:D5 G w ob (ofL [])):ob=λ_=>none:=by funext id;exact(h.dom id).1 rfl
variable {ob':Place} {G':Nat->Prop} {τ:St} {I:C1v P α} {pre:List α}
theorem SJ.step {T':H6}{a':Act}{W W':World}{Φ:Nat->Prop}(hs:Sim N (A14 T []) a W ob G)(hJ:I.J pre W Φ)(hd: ∀b,G b-> ¬Φ b)
  (s:Sim N τ a' W' ob' G')(f:Fr G W ob G' W' ob')(hw:Y5 [] τ T' []):SJ I N T' pre a' W':=by
 obtain⟨ρ,A,hw⟩:=hw;obtain⟨ob2,G2,g1,g2,_⟩:=B3h s hw;have f2:=f.trans g2
 have e0:=D1t hs.objs;subst e0;have hx:Ext W W':=Ext.of_fr f2;refine⟨ob2,G2,Φ,g1,I.ext _ _ _ _ hJ hx,λb hb hΦ=> ?_⟩;have hlt:=I.lt _ _ _ b hJ hΦ;rcases f2.new b hb with h |h |⟨id,i,h,_⟩
 ·exact hd b h hΦ
 ·omega
 ·cases h
def Yp(I:C1v P α)(N:Nat)(ac:ACode)(Q:Out->H6->List α->Prop)(T:H6)(pre:List α):Prop:=∀c,D9 P N c=some ac.strip-> ∀a W,SJ I N T pre a W->c.wp P (λe a' W'=> ∃o T' pre',e=Out.exit' o/\Q o T' pre'/\SJ I N T' pre' a' W') a W
variable {ac:ACode}
theorem Yp.plain {Q:Out->H6->List α->Prop}(h:Wp P N [] ac (λo τ=> ∃T',Q o T' pre/\Y5 [] τ T' []) (A14 T [])):Yp I N ac Q T pre:=by intro c hc a W ⟨ob,G,Φ,hs,hJ,hd⟩;refine wp_mono (h c hc ⟨G,W,ob⟩ a W ob G hs ⟨Fr.refl G W ob,λid i hk=>by cases hk⟩) ?_;rintro e a' W' ⟨o,τ,ob',G',rfl,⟨T',q,hw⟩,s,hΓ⟩;exact⟨o,T',pre,rfl,q,SJ.step hs hJ hd s hΓ.fr hw⟩
def E92(f:H6->List α->Prop)(Q:Out->H6->List α->Prop):Out->H6->List α->Prop
 | .normal,T,p=>f T p
 |o,T,p=>Q o T p
def E3x(id:Nat)(Q:Out->H6->List α->Prop):Out->H6->List α->Prop
 | .exit i,T,p=>if i=id then Q .normal T p else Q (.exit i) T p
 |o,T,p=>Q o T p
theorem Yp.seq {I:C1v P α}{x y:ACode}{Q:Out->H6->List α->Prop}{T:H6}{pre:List α}(h:Yp I N x (E92 (λT' p'=>Yp I N y Q T' p') Q) T pre):Yp I N (.seq x y) Q T pre:=by
 intro c hc a W hS;cases c <;> simp only[D9,ACode.strip,Option.some.injEq,reduceCtorEq]at hc
 case seq c1 c2=>
  split at hc
  ·rename_i x' y' h1 h2;simp only[Option.some.injEq,ACode.seq.injEq]at hc;obtain⟨rfl,rfl⟩:=hc;refine wp_seq (wp_mono (h c1 h1 a W hS) ?_);rintro e a' w' ⟨o,T',p',rfl,hq,s⟩;cases o with
   |normal=>exact hq c2 h2 a' w' s
   |exit i=>exact⟨.exit i,T',p',rfl,hq,s⟩
   |ret=>exact⟨.ret,T',p',rfl,hq,s⟩
  ·cases hc
 all_goals grind
theorem Yp.block {I:C1v P α}{id:Nat}{x:ACode}{Q:Out->H6->List α->Prop}{T:H6}{pre:List α}(h:Yp I N x (E3x id Q) T pre):Yp I N (.block id x) Q T pre:=by
 intro c hc a W hS;cases c <;> simp only[D9,ACode.strip,Option.some.injEq,reduceCtorEq]at hc
 case block id' c1=>
  split at hc
  ·rename_i x' h1;simp only[Option.some.injEq,ACode.block.injEq]at hc;obtain⟨rfl,rfl⟩:=hc;refine wp_block (wp_mono (h c1 h1 a W hS) ?_);rintro e a' w' ⟨o,T',p',rfl,hq,s⟩;cases o with
   |normal=>exact⟨.normal,T',p',rfl,hq,s⟩
   |exit i=>
    simp only[Out.exit',Exit.inBlock];simp only[E3x]at hq
    grind
   |ret=>exact⟨.ret,T',p',rfl,hq,s⟩
  ·cases hc
 all_goals grind
theorem Yp.cond {I:C1v P α}{k:AX}{t:Bool}{x y:ACode}{Q:Out->H6->List α->Prop}{T:H6}{pre:List α}(ht:(A14 T []).ev k=some (true, .sc (.bool t)))(h:Yp I N (if t=true then x else y) Q T pre):Yp I N (.cond k x y) Q T pre:=by
 intro c hc a W hS;cases c <;> simp only[D9,ACode.strip,Option.some.injEq,reduceCtorEq]at hc
 case cond c0 c1 c2=>
  split at hc
  ·rename_i k' x' y' h0 h1 h2;simp only[Option.some.injEq,ACode.cond.injEq]at hc;obtain⟨rfl,rfl,rfl⟩:=hc;obtain⟨ob,G,Φ,hs,hJ,hd⟩:=hS;have hv:a.eval c0= .bool t:=(hs.opRel c0 k' (.sc (.bool t)) h0 (by simp[St.e',ht])).sc_eq;refine wp_cond hv ?_;cases t with
   |true=>rw[if_pos rfl]at h;exact h c1 h1 a W ⟨ob,G,Φ,hs,hJ,hd⟩
   |false=>rw[if_neg (by simp)]at h;exact h c2 h2 a W ⟨ob,G,Φ,hs,hJ,hd⟩
  ·cases hc
 all_goals grind
theorem Yp.loop {I:C1v P α}{x:ACode}{Q:Out->H6->List α->Prop}{ι:Type}(T:ι->H6)(p:ι->List α)(μ:ι->Nat)(i0:ι)
  (h: ∀i,Yp I N x (E92 (λT' p'=> ∃i',μ i'<μ i/\T'=T i'/\p'=p i') Q) (T i) (p i)):Yp I N (.loop x) Q (T i0) (p i0):=by
 intro c hc a W hS;cases c <;> simp only[D9,ACode.strip,Option.some.injEq,reduceCtorEq]at hc
 case loop c1=>
  split at hc
  ·rename_i x' h1;simp only[Option.some.injEq,ACode.loop.injEq]at hc;obtain rfl:=hc;intro b k cs;have key: ∀n i,μ i=n-> ∀(a':Act) (w':World),SJ I N (T i) (p i) a' w'->
     ∃e a2 w2,(∃o T' pre',e=Out.exit' o/\Q o T' pre'/\SJ I N T' pre' a2 w2)/\Arrives P (lone (b.at a' (.code c1:: .inLoop c1::k)) cs w') b k cs e a2 w2:=by
    intro n;induction n using Nat.strongRecOn with
    |_ n ih=>
     intro i hn a' w' hs';obtain⟨e,a1,w1,hq,harr⟩:=h i c1 h1 a' w' hs' b (.inLoop c1::k) cs;obtain⟨o,T',p',rfl,hq,s⟩:=hq;cases o with
     |normal=>obtain⟨i',hlt,rfl,rfl⟩:=hq;obtain⟨e2,a2,w2,hq2,harr2⟩:=ih (μ i') (hn▸hlt) i' rfl a1 w1 s;exact⟨e2,a2,w2,hq2, .of_steps (Steps.trans harr (.one step_inLoop)) harr2⟩
     |exit id=>exact⟨.exit id,a1,w1,⟨.exit id,T',p',rfl,hq,s⟩, .pass (x:= .inLoop c1) rfl (λ_ _=> .inl (by simp)) harr⟩
     |ret=>exact⟨.ret,a1,w1,⟨.ret,T',p',rfl,hq,s⟩, .pass (x:= .inLoop c1) rfl (λ_ _=> .inl (by simp)) harr⟩
   obtain⟨e,a',w',hq,harr⟩:=key _ i0 rfl a W hS;exact⟨e,a',w',hq, .of_steps (.one step_loop) harr⟩
  ·cases hc
 all_goals grind
variable {avs:List AV} {xs:List AX}
theorem F4l {ops:Array Oper}{o:Oper}{d:Option Nat}{x:AX}{W:World}{l:Nat}(hc:B2b P N ops o=some ⟨d, .callv x xs,none,[]⟩)(hs:Sim N τ a W ob G)
  (hx:τ.ev x=some (true, .fn (.yield l) [] []))(he:τ.es xs=some avs)(ht: ∀y∈xs,τ.c y=true):
  ∃vals:List Value,(execOp a.eval o).run P W=(Instr.yield l vals.toArray).run P W/\A6z G W ob avs vals:=by
 obtain⟨hop,-,-⟩:=C12 hc;obtain⟨dst,op,type,pos,after,guard⟩:=o;simp only at hop;have hop':cop P op=some (.callv x xs):=by
  unfold A8d at hop
  grind
 obtain⟨cl,rfl⟩:=(D4z hop').2 rfl;simp only[cop]at hop';obtain⟨callee,args,argTypes⟩:=cl;obtain⟨args⟩:=args;obtain⟨argTypes⟩:=argTypes;simp only at hop';split at hop'
 case h_9=>
  rename_i y _;split at hop'
  case h_2=>cases hop'
  rename_i ax al hax hal;simp only[Option.some.injEq,AOp.callv.injEq]at hop';obtain⟨rfl,rfl⟩:=hop';have hxr:=hs.opRel y ax _ hax (by unfold St.e';rw[hx])
  have har:=D4q hs hal he ht;generalize hxv:a.eval y=xv at hxr;cases hxr with
  |fn fs us hn hm hr hq=>
   have e1:fs= #[]:=Array.eq_empty_of_size_eq_zero (by simpa using hn)
   have e2:us= #[]:=Array.eq_empty_of_size_eq_zero (by simpa using hm);subst e1;subst e2;refine⟨args.map a.eval,?_,har⟩;simp[execOp,resolve,hxv,Deferred.ofValue,invoke]
 all_goals(exfalso;(repeat' split at hop') <;> simp at hop')
variable {d:Nat}
theorem Yp.yield {pr po:List AOper}{x:AX}{p:List α}{Q:Out->H6->List α->Prop}(v:α)(hp:p.length<I.bound)(hE: ∀G W ob vals,A6z G W ob (I.encs v) vals-> ∀G' ob',A6z G' W ob' (I.encs v) vals)
  {A:St->Prop}(h1:A5h P pr A (A14 T []))(hA: ∀τ,A τ->τ.ev x=some (true, .fn (.yield I.l) [] [])/\τ.es xs=some (I.encs v)/\(∀y∈xs,τ.c y=true)/\τ.objs=ofL []/\
    ∃B,A5h P po B (τ.put (some d) true ⟨some (.sc (.bool true)),[]⟩)/\ ∀τ',B τ'-> ∃T',Q .normal T' (p++ [v])/\Y5 [] τ' T' []):Yp I N (.region false (pr++⟨some d, .callv x xs,none,[]⟩::po)) Q T p:=by
 intro c hc a W ⟨ob,G,Φ,hs,hJ,hd⟩;cases c <;> simp only[D9,ACode.strip,Option.some.injEq,reduceCtorEq]at hc
 case region id os draw=>
  split at hc
  ·rename_i as has;simp only[Option.some.injEq,ACode.region.injEq]at hc;obtain⟨rfl,rfl⟩:=hc;unfold B0r at has;split at has
   ·rename_i as' hcop;simp only[Bool.false_eq_true,if_false,Option.some.injEq]at has;subst has;obtain⟨l1,o,l2,hl,c1,c2,c3⟩:=C9a hcop;have hget: ∀i o',(l1++o::l2)[i]? =some o'->os[i]? =some o':=λi o' hi=>by rw[<-hl,Array.getElem?_toList]at hi;exact hi
    refine(wpIn_wide (n:=1)).1 (wpIn_region ?_);have hr:List.range os.size=List.range' 0 l1.length++(l1.length::List.range' (l1.length+1) l2.length):=by
     have e:os.size=l1.length+(l2.length+1):=by rw[<-Array.length_toList,hl];simp
     rw[e,List.range_eq_range',List.range'_append_1.symm,Nat.zero_add];rfl
    rw[hr];refine E0g l1 pr 0 _ a W ob G c1 (λi o' hi=>hget _ _ (by grind)) hs h1 ?_;rintro τ a1 W1 ob1 G1 hAτ s1 f1 _;obtain⟨hx,he,ht,hob,B,hpo,hB⟩:=hA τ hAτ;have e0:=D1t hs.objs;subst e0;have hX:=Ext.of_fr f1
    have e1:ob1=λ_=>none:=by have:=s1.objs;rw[hob]at this;exact D1t this
    subst e1;have hJ1:=I.ext _ _ _ _ hJ hX
    have hd1: ∀b,G1 b-> ¬Φ b:=λb hb hΦ=>by
     have hlt:=I.lt _ _ _ b hJ hΦ;rcases f1.new b hb with h |h |⟨id,i,h,_⟩
     all_goals grind
    obtain⟨vals,hrun,hrel⟩:=F4l c2 s1 hx he ht;obtain⟨fn,tmps,asg,bd,hy,hR⟩:=I.rnd p v W1 Φ vals hJ1 hp (λG' ob'=>hE _ _ _ _ hrel _ _);have ho:os[l1.length]? =some o:=hget _ _ (by grind)
    have hgw:Region.wanted o (yielded os a1.tmps)=true:=C9k s1 c2 rfl;simp only[wpOpsIn,ho];rw[if_pos hgw];obtain⟨_,hdst,hdN⟩:=C12 c2;refine⟨λ_ _=>trivial,?_⟩;show o.uponIn Fence.wide 1 P a1 _ _ ((execOp a1.eval o).run P W1);rw[hrun,hy];refine⟨λh=>by simp[Fence.wide]at h,(hR 0).mono ?_⟩;rintro e W2 ⟨rfl,Φ',hJ2,hΦ',hsz,hsame⟩;show wpOpsIn Fence.wide 1 P os _ _ (a1.put o.dst (.bool true)) W2;have s2:Sim N τ a1 W2 (λ_=>none) G1:=s1.frame hsz λb hb hc=>by
     rcases hc with hc |⟨id,i,h,_⟩
     all_goals grind
    have hd2: ∀b,G1 b-> ¬Φ' b:=λb hb hΦ=>by
     rcases hΦ' b hΦ with h |h
     ·exact hd1 b hb h
     ·have:=s1.objs.lt b hb;omega
    rw[<-hdst];have s3:Sim N (τ.put (some d) true ⟨some (.sc (.bool true)),[]⟩) (a1.put (some d) (.bool true)) W2 (λ_=>none) G1:=s2.put_true (dst:=some d) (r:=⟨some (.sc (.bool true)),[]⟩) (v:= .bool true) (by rw[<-hdst]at hdN;exact hdN) s2.objs (λav hav=>by simp only[Option.some.injEq]at hav;subst hav;exact .sc rfl) (C9.refl _) (Fr.refl _ _ _)
    have:=E0g (n:=1) (R:=λe a' W'=> ∃o T' pre',e=Out.exit' o/\Q o T' pre'/\SJ I N T' pre' a' W') (rest:= []) l2 po (l1.length+1) _ _ W2 _ G1 c3 (λi o' hi=>hget _ _ (by rw[List.getElem?_append_right (by omega),show l1.length+1+i-l1.length=i+1 by omega];simpa using hi)) s3 hpo ?_
    ·rw[List.append_nil]at this;exact this
    ·rintro τ' a3 W3 ob3 G3 hBτ s4 f4 _;obtain⟨T',q,hw'⟩:=hB τ' hBτ;refine⟨.normal,T',p++ [v],rfl,q,?_⟩;have s2':Sim N (A14 [] []) a1 W2 (λ_=>none) G1:=⟨s2.size,s2.defers,by have:=s2.objs;rw[hob]at this;exact this,λt av h=>by simp[A14,A1u]at h,λt av h=>by simp[A14,A1u]at h⟩;exact SJ.step s2' hJ2 hd2 s4 f4 hw'
   ·cases has
  ·cases hc
 all_goals grind
variable {f:FuncId} {fn:Func}
theorem F22 {caps:List AV}{xs:List α}{us:List Value}{W:World}{Φ:Nat->Prop}
  (hf:P.funcs[f]? =some fn)(hb:fn.body=some (fn.body.getD .skip))(hc:D9 P fn.ntmps (fn.body.getD .skip)=some ac.strip)(hts:A51 P fn.results.toList=some [])(hl:(caps.length+1)<=fn.ntmps)
  (hr:A6z G W (λ_=>none) caps us)(hlt: ∀b,G b->b<W.heap.size)(hJ:I.J [] W Φ)(hd: ∀b,G b-> ¬Φ b)
  {T:H6}(hT: ∀t av,A1u T t=some (true,av)->(AV.fn (.yield I.l) [] []::caps)[t]? =some av)(h:Yp I fn.ntmps ac (λo _ p=>(o= .normal\/o= .ret)/\p=xs) T []):
  CallsIn Fence.wide 1 P f (#[.func (.yield I.l) #[] #[]]++us.toArray) W λe W'=>(∃v,e= .returned v)/\ ∃Φ',I.J xs W' Φ':=by
 refine callsIn_wide.2 (calls_of_wp hf hb ?_);have hus:us.length=caps.length:=hr.1
 have hs0:Sim fn.ntmps (A14 T []) {tmps:=(#[Value.func (.yield I.l) #[] #[]]++us.toArray)++Array.replicate (fn.ntmps-(#[Value.func (.yield I.l) #[] #[]]++us.toArray).size) undef,defers:= []} W (λ_=>none) G:=by
  refine⟨by simp;omega,rfl,⟨λid=>by simp[A14,ofL,wrm],λ_ _ _ _ _ h=>(by cases h),hlt,λ_ _ _ _ h=>(by cases h),λ_ _ _ _ _ _ h=>(by cases h)⟩,λt av ht=> ?_,λt av ht=>absurd ht B26⟩;have h1:=hT t av ht;cases t with
  |zero=>
   simp only[List.getElem?_cons_zero,Option.some.injEq]at h1;subst h1;have e1:(#[Value.func (.yield I.l) #[] #[]]++us.toArray:Array Value)[0]? =some (.func (.yield I.l) #[] #[]):=by grind
   refine⟨.func (.yield I.l) #[] #[],(by grind), .fn #[] #[] rfl rfl (λj av hj=>by simp at hj) (λj av hj=>by simp at hj)⟩
  |succ t=>
   simp only[List.getElem?_cons_succ]at h1;have h2:=hr.2 t av h1
   have hlt:t<us.length:=by grind
   refine⟨us.getD t undef,?_,h2⟩;rw[Array.getElem?_append_left (by simp;omega),Array.getElem?_append_right (by simp)];simp[List.getD,hlt]
 refine wp_mono (h _ hc _ W ⟨_,G,Φ,hs0,hJ,hd⟩) ?_;rintro e a' W' ⟨o,T',p',rfl,⟨ho,rfl⟩,ob',G',Φ',s,hJ',_⟩;obtain⟨σ2,a2,v,k1,k2,hv,hv'⟩:=B9g (K:=λ_=>True) hts s (λp hp=>by cases hp) trivial;have fin:a'.defers= []/\ ∃v,(results fn a'.tmps).run P W'= .ok v W'/\((∃u,Ending.returned v= .returned u)/\ ∃Φ',I.J p' W' Φ'):=⟨s.defers,v,hv,⟨v,rfl⟩,Φ',hJ'⟩;rcases ho with rfl |rfl
 ·exact fin
 ·exact fin
end
section
variable {P:Program} {N:Nat} {α:Type}
variable {w:World} {G:Nat->Prop} {ob:Place} {i:Nat} {a:Act} {as:List AOper}
theorem F6l {ops:Array Oper}{Q:St->Prop}(hc:T8 P N ops ops.toList=some as)(h:A5h P as Q σ)(hs:Sim N σ a w ob G)
  {R:Exit->Act->World->Prop}(hk: ∀τ a' w' ob' G',Q τ->Sim N τ a' w' ob' G'->Fr G w ob G' w' ob'->C9 ob ob'->R .normal a' w'):(Code.region i ops false).wp P R a w:=by
 refine wp_region ?_;have:=D13 (Q:=Q) (R:=R) ops.toList as 0 σ a w ob G hc (λi o hi=>by simpa using hi) hs h hk;rw[List.range_eq_range'];simpa using this
theorem E06 {ops:Array Oper}{Q:St->Prop}(hc:T8 P N ops ops.toList=some as)(h:A5h P as Q σ)(hs:Sim N σ a w ob G){ds:List Deferred}
  {R:Exit->Act->World->Prop}(hk: ∀τ a' w' ob' G',Q τ->Sim N τ a' w' ob' G'->Fr G w ob G' w' ob'->C9 ob ob'->R .normal (a'.more ds) w'):(Code.region i ops false).wp P R (a.more ds) w:=by
 refine wp_region (C6h _ a w ?_);have:=D13 (Q:=Q) (R:=λe a w=>R e (a.more ds) w) ops.toList as 0 σ a w ob G hc (λi o hi=>by simpa using hi) hs h hk;rw[List.range_eq_range'];simpa using this
variable {w':World} {ob':Place} {G':Nat->Prop}
theorem Fr.put {l:Nat}{o o0:Obj}(f:Fr G (w.putObj l o) ob G' w' ob')(hl:w.heap[l]? =some o0):Fr G w ob G' (w'.putObj l o0) ob':=by
 have hlt:l<w.heap.size:=(Array.getElem?_eq_some_iff.1 hl).1
 have hsz:w.heap.size<=w'.heap.size:=by have:=f.size;simpa using this
 refine⟨by simpa using hsz,λb hb hc=> ?_,λb hb=> ?_,f.sub,λb hb=> ?_,?_,?_,?_,?_⟩
 ·by_cases e:b=l
  ·subst e;rw[World.putObj_heap_same (by omega),hl]
  ·rw[World.putObj_heap_other e,f.same b (by simpa using hb) hc,World.putObj_heap_other e]
 ·have:=f.blk b hb;simpa using this
 ·have:=f.new b hb;simpa using this
 ·exact f.os
 ·exact f.tape
 ·exact f.output
 ·exact f.drawn
structure G0o (P:Program) (f:FuncId) (R:RfT) (ps:List Nat) (acA acB:ACode):Prop where
 ok: ∃(fn:Func) (i0 i1 i2 i3 i4 j:Nat) (o0 o1 o2 o3 o4:Array Oper) (asg bd:Code),P.funcs[f]? =some fn/\
  fn.body=some (.seq (.region i0 o0 false) (.seq (.region i1 o1 false) (.seq (.seq (.region i2 o2 false) (.block j (.rangeFunc (.tmp R.gx) ps.toArray asg bd))) (.seq (.region i3 o3 false) (.seq (.region i4 o4 false) .ret)))))/\
  (fn.name != "runtime.NumGoroutine")=true/\T8 P fn.ntmps o0 o0.toList=some R.as0/\T8 P fn.ntmps o1 o1.toList=some R.as1/\T8 P fn.ntmps o2 o2.toList=some R.as2/\
  T8 P fn.ntmps o3 o3.toList=some R.as3/\T8 P fn.ntmps o4 o4.toList=some R.as4/\A51 P fn.results.toList=some R.rvs/\(R.rvs.all λp=>p.1.blt fn.ntmps)=true/\fn.ntmps=R.nt/\
  D9 P R.nt asg=some acA.strip/\D9 P R.nt bd=some acB.strip/\A27 asg=true/\A27 bd=true/\plA acA=true/\plA acB=true
def psS:List Nat->List AV->H6
 |p::ps,v::vs=>(p, .share,v)::psS ps vs
 |_,_=> []
def F67(P:Program)(h:FuncId)(caps:List AV)(encs:α->List AV)(xs:List α):Prop:=
 ∀(I:C1v P α),I.encs=encs->I.bound=xs.length-> ∀(us:List Value) (W:World) (G Φ:Nat->Prop),A6z G W (λ_=>none) caps us->(∀b,G b->b<W.heap.size)->I.J [] W Φ->(∀b,G b-> ¬Φ b)->
  CallsIn Fence.wide 1 P h (#[.func (.yield I.l) #[] #[]]++us.toArray) W λe W'=>(∃v,e= .returned v)/\ ∃Φ',I.J xs W' Φ'
structure E0i (P:Program) (R:RfT) (ps:List Nat) (acA acB:ACode) (rs:List AV) (α:Type) (τ:St) (h:FuncId) (caps:List AV) (T:H6) (Obj:List α->List (Nat×A5)) (encs:α->List AV) (xs:List α):Prop where
 gx:τ.env R.gx=some (true, .fn (.func h) [] caps)
 pure:A0g caps=true
 call:A3g P h=true
 weak:Y5 [] τ T (Obj [])
 nd: ∀pre id o,ofL (Obj pre) id=some o->o.NoDsl/\o.owned=true
 len: ∀x,(encs x).length=ps.length
 it:F67 P h caps encs xs
 body: ∀pre x,pre.length<xs.length->W P R.nt [] acA (λo τ1=>o= .normal/\W P R.nt [] acB (λo τ2=>o= .normal/\Y5 ((Obj pre).map (·.1)) τ2 [] (Obj (pre++ [x]))) τ1) (A14 (psS ps (encs x)++T) (Obj pre))
 post:A5h P R.as3 (λτ'=>A5h P R.as4 (λτ''=>(B38 R.nt [] R.rvs rs []).q .ret τ'') τ') (A14 T (Obj xs))
theorem C9h: ∀(ps:List Nat) (vs:List Value) (t0:Array Value),((ps.zip vs).foldl (λ(t:Array Value) (p:Nat×Value)=>t.setIfInBounds p.1 p.2) t0).size=t0.size
 | [],_,t0=>by simp
 |p::ps,[],t0=>by simp
 |p::ps,v::vs,t0=>by simp only[List.zip_cons_cons,List.foldl_cons];rw[C9h ps vs];simp
theorem D3i: ∀(ps:List Nat) (vs:List Value) (t0:Array Value) (t:Nat),t∉ps->((ps.zip vs).foldl (λ(t:Array Value) (p:Nat×Value)=>t.setIfInBounds p.1 p.2) t0)[t]? =t0[t]?
 | [],_,t0,t,_=>by simp
 |p::ps,[],t0,t,_=>by simp
 |p::ps,v::vs,t0,t,h=>by simp only[List.mem_cons,not_or]at h;simp only[List.zip_cons_cons,List.foldl_cons];rw[D3i ps vs _ t h.2,Array.getElem?_setIfInBounds_ne (λe=>h.1 e.symm)]
theorem E89 {G:Nat->Prop}{w:World}{ob:Place}: ∀(ps:List Nat) (avs:List AV) (vs:List Value) (t0:Array Value) (T:H6),ps.Nodup->(∀p∈ps,p<t0.size)->avs.length=ps.length->A6z G w ob avs vs->
  (∀t av,A1u T t=some (true,av)-> ∃v,t0[t]? =some v/\Rel G w ob av v)->
  ∀t av,A1u (psS ps avs++T) t=some (true,av)-> ∃v,((ps.zip vs).foldl (λ(t:Array Value) (p:Nat×Value)=>t.setIfInBounds p.1 p.2) t0)[t]? =some v/\Rel G w ob av v
 | [],avs,vs,t0,T,_,_,_,_,hT,t,av,h=>by simpa[psS]using hT t av (by simpa[psS]using h)
 |p::ps,[],vs,t0,T,_,_,hl,_,hT,t,av,h=>by simp at hl
 |p::ps,v::avs,vs,t0,T,hn,hb,hl,hr,hT,t,av,h=>by
  obtain⟨h1,h2⟩:=hr;cases vs with
  |nil=>simp at h1
  |cons u us=>
   simp only[psS,List.cons_append,A1u]at h;simp only[List.zip_cons_cons,List.foldl_cons];rw[List.nodup_cons]at hn;split at h
   ·rename_i e;subst e;simp only[Option.some.injEq,Prod.mk.injEq,true_and]at h;subst h;refine⟨u,?_,by simpa using h2 0 v rfl⟩;rw[D3i ps us _ t hn.1]
    grind
   ·rename_i e;refine E89 ps avs us (t0.setIfInBounds p u) (T.filter λs=>s.1 != p) hn.2 (λq hq=>by simpa using hb q (List.mem_cons_of_mem _ hq)) (by simpa using hl) ⟨by simpa using h1,λj av hj=>by simpa using h2 (j+1) av (by simpa using hj)⟩ ?_ t av ?_
    ·intro t' av' h';have:t'≠p/\A1u T t'=some (true,av'):=by
      clear hT h;induction T with
      |nil=>simp[A1u]at h'
      |cons s T ih=>
       obtain⟨k,md,c⟩:=s;simp only[List.filter_cons]at h';split at h'
       ·rename_i hk;simp only[bne_iff_ne,ne_eq]at hk;simp only[A1u]at h'⊢
        grind
       ·rename_i hk;simp only[bne_iff_ne,ne_eq,Decidable.not_not]at hk;have:=ih h';refine⟨this.1,?_⟩;simp only[A1u]
        grind
     grind
    ·have app: ∀(A:H6) (T:H6),A1u (A++T) t=some (true,av)->A1u (A++T.filter λs=>s.1 != p) t=some (true,av):=by
      intro A T hh;induction A with
      |nil=>
       simp only[List.nil_append]at hh⊢;induction T with
       |nil=>exact hh
       |cons s T ih=>
        obtain⟨k,md,c⟩:=s;simp only[List.filter_cons];simp only[A1u]at hh;split at hh
        ·rename_i e';rw[if_pos (by grind)];simp only[A1u];rw[if_pos e'];exact hh
        ·rename_i e';split
         ·simp only[A1u];rw[if_neg e'];exact ih hh
         ·exact ih hh
      |cons s A ih=>
       obtain⟨k,md,c⟩:=s;simp only[List.cons_append,A1u]at hh⊢
       grind
     exact app _ _ h
end
section
variable {P:Program} {N:Nat} {α:Type}
variable {w:World} {G:Nat->Prop} {ob:Place}
theorem F3g(h:D5 G w ob (ofL O)){id:Nat}{i:J3}(hi:ob id=some i):id∈O.map (·.1):=by
 cases ho:ofL O id with
 |none=>rw[(h.dom id).1 ho]at hi;cases hi
 |some o=>obtain⟨o',ho'⟩:=A88 (by rw[ho];rfl);exact List.mem_map_of_mem (f:=(·.1)) ho'
structure RJ (R:RfT) (T:H6) (Obj:List α->List (Nat×A5)) (a:Act) (w:World) (ob:Place) (G:Nat->Prop) (l D:Nat) (rec:Loop) (pre:List α) (W:World) (Φ:Nat->Prop) (ob':Place):Prop where
 sim:Sim R.nt (A14 T (Obj pre)) a W ob' G
 fr:Fr G w ob G W ob'
 ext:C9 ob ob'
 hl:W.heap[l]? =some (.loop rec)
 hD:W.heap[D]? =some (.deferred (some []))
 ne: ∀b,O7 ob' b->b≠l/\b≠D
 phi:Φ=λb=>b=l\/b=D\/O7 ob' b
def B0y(fnId:FuncId)(a:Act)(ps:List Nat)(asg bd:Code)(D:Nat)(s:LoopState):Loop:= {state:=s,pending:=none,fn:=fnId,tmps:=a.tmps,params:=ps.toArray,assign:=asg,body:=bd,defers:=D}
variable {a:Act} {D:Nat} {acA acB:ACode}
theorem F94 {R:RfT}{Obj:List α->List (Nat×A5)}{l:Nat}{ps:List Nat}{asg bd:Code}{fnId:FuncId}{encs:α->List AV}
  (hw: ∀b,G b->b<w.heap.size)(hlw:w.heap.size<=l)(hDw:w.heap.size<=D)(hpn:ps.Nodup)(hpN: ∀p∈ps,p<R.nt)(hlen: ∀x,(encs x).length=ps.length)(hlD:l≠D)
  (hca:D9 P R.nt asg=some acA.strip)(hcb:D9 P R.nt bd=some acB.strip)(hna:A27 asg=true)(hnb:A27 bd=true)(hpa:plA acA=true)(hpb:plA acB=true)(nd: ∀pre id o,ofL (Obj pre) id=some o->o.NoDsl)
  {pre:List α}{x:α}{W:World}{Φ:Nat->Prop}{ob':Place}{vals:List Value}
  (hJ:RJ R T Obj a w ob G l D (B0y fnId a ps asg bd D .ready) pre W Φ ob')
  (hr: ∀G ob,A6z G W ob (encs x) vals)
  (hbody:Go.Abs.W P R.nt [] acA (λo τ1=>o= .normal/\Go.Abs.W P R.nt [] acB (λo τ2=>o= .normal/\Y5 ((Obj pre).map (·.1)) τ2 [] (Obj (pre++ [x]))) τ1) (A14 (psS ps (encs x)++T) (Obj pre))):
  ∃tmps,(Instr.yield l vals.toArray).run P W= .ok (.round l fnId tmps asg bd) W/\
   ∀n,RoundIn Fence.wide n P l fnId tmps asg bd W λe W'=>e= .returned (.bool true)/\ ∃Φ',(∃ob'',RJ R T Obj a w ob G l D (B0y fnId a ps asg bd D .ready) (pre++ [x]) W' Φ' ob'')/\
    (∀b,Φ' b->Φ b\/W.heap.size<=b)/\W.heap.size<=W'.heap.size/\ ∀b,b<W.heap.size-> ¬Φ b->W'.heap[b]? =W.heap[b]? :=by
 obtain⟨s,f,xt,hl,hD,hne,rfl⟩:=hJ;have hvl:vals.length=ps.length:=by rw[(hr G ob').1,hlen]
 have hy:=run_yield (P:=P) (args:=vals.toArray) hl (by simp[B0y,hvl])
 have hll:l<W.heap.size:=(Array.getElem?_eq_some_iff.1 hl).1
 have hDl:D<W.heap.size:=(Array.getElem?_eq_some_iff.1 hD).1;refine⟨_,hy,λn=>roundIn_of_wpIn trivial ?_⟩;have hfold:((B0y fnId a ps asg bd D .ready).params.zip vals.toArray).foldl (λ(tmps:Array Value) (x:Nat×Value)=>tmps.setIfInBounds x.1 x.2) a.tmps=(ps.zip vals).foldl (λ(t:Array Value) (p:Nat×Value)=>t.setIfInBounds p.1 p.2) a.tmps:=by show(ps.toArray.zip vals.toArray).foldl _ _=_;rw[List.zip_toArray,List.foldl_toArray]
 have s0:Sim R.nt (A14 (psS ps (encs x)++T) (Obj pre)) {tmps:=((B0y fnId a ps asg bd D .ready).params.zip vals.toArray).foldl (λ(tmps:Array Value) (x:Nat×Value)=>tmps.setIfInBounds x.1 x.2) a.tmps,defers:= []} W ob' G:=by rw[hfold];refine⟨by rw[C9h];exact s.size,rfl,s.objs,λt av ht=> ?_,λt av ht=>absurd ht B26⟩;exact E89 ps (encs x) vals a.tmps T hpn (λp hp=>by rw[s.size];exact hpN p hp) (hlen x) (hr G ob') (λt av ht=>s.env t av ht) t av ht
 have hlb: ¬O7 ob' l:=λh=>(hne l h).1 rfl
 have hDb: ¬O7 ob' D:=λh=>(hne D h).2 rfl
 have hGl: ¬G l:=λh=>by have:=hw l h;omega
 have hGD: ¬G D:=λh=>by have:=hw D h;omega
 refine B5b asg acA hna hpa hca s0 hbody ?_;rintro τ1 a1 W1 ob1 G1 ⟨_,hb1⟩ s1 f1 x1;have hl1:W1.heap[l]? =some (.loop (B0y fnId a ps asg bd D .ready)):=(f1.same l hll (.inr hlb)).trans hl
 have hll1:l<W1.heap.size:=(Array.getElem?_eq_some_iff.1 hl1).1
 have nG1: ¬G1 l:=λh=>by
  rcases f1.new l h with h |h |h
  all_goals grind
 have nB1: ¬O7 ob1 l:=λh=>by
  rcases f1.blk l h with h |h
  ·exact hlb h
  ·omega
 refine⟨_,run_beginRound hl1 rfl,?_⟩;have s1':Sim R.nt τ1 a1 (W1.putObj l (.loop {B0y fnId a ps asg bd D .ready with state:= .busy})) ob1 G1:=s1.frame (by simp) λb hb hc=>World.putObj_heap_other λe=>by grind
 refine B5b bd acB hnb hpb hcb s1' hb1 ?_;rintro τ2 a2 W2 ob2 G2 ⟨_,hwk⟩ s2 f2 x2;have hl2:W2.heap[l]? =some (.loop {B0y fnId a ps asg bd D .ready with state:= .busy}):=by rw[f2.same l (by simpa using hll1) (.inr nB1)];exact World.putObj_heap_same hll1
 have hll2:l<W2.heap.size:=(Array.getElem?_eq_some_iff.1 hl2).1
 have f2':=Fr.put f2 hl1
 have nG2: ¬G2 l:=λh=>by
  rcases f2'.new l h with h |h |h
  all_goals grind
 have nB2: ¬O7 ob2 l:=λh=>by
  rcases f2'.blk l h with h |h
  ·exact nB1 h
  ·omega
 have s2':Sim R.nt τ2 a2 (W2.putObj l (.loop (B0y fnId a ps asg bd D .ready))) ob2 G2:=s2.frame (by simp) λb hb hc=>World.putObj_heap_other λe=>by grind
 obtain⟨ρ,A,hwk⟩:=hwk;obtain⟨ob4,G4,g1,g2,g3⟩:=B3h s2' hwk;have F:Fr G W ob' G4 (W2.putObj l (.loop (B0y fnId a ps asg bd D .ready))) ob4:=(f1.trans f2').trans g2
 have hend:=run_endRound (P:=P) none hl2;refine⟨_,_,hend,?_⟩;show _=_/\_;refine⟨rfl,λb=>b=l\/b=D\/O7 ob4 b,⟨ob4,?_,?_,?_,?_,?_,?_,rfl⟩,?_,F.size,?_⟩
 ·refine⟨s.size,s.defers,g1.objs.shrink F.sub (nd _),λt av ht=> ?_,λt av ht=>absurd ht B26⟩;obtain⟨v,hv,hrel⟩:=s.env t av ht;refine⟨v,hv,hrel.ext (λ_ h=>h) (λb hb=>F.same b (by have:=f.size;have:=hw b hb;omega) (.inl hb)) λid i hi=> ?_⟩;obtain⟨i2,hi2,hh⟩:=(x1.trans x2) id i hi;exact⟨i2,by rw[g3 id (F3g s.objs hi)];exact hi2,hh⟩
 ·have F':=f.trans F
  exact⟨F'.size,F'.same,F'.blk,λ_ h=>h,λ_ h=> .inl h,F'.os,F'.tape,F'.output,F'.drawn⟩
 ·intro id i hi;obtain⟨i1,hi1,h1⟩:=xt id i hi;have h12:C9 ob' ob4:=λid i hi=>by
   obtain⟨i2,hi2,hh⟩:=(x1.trans x2) id i hi;exact⟨i2,by rw[g3 id (F3g s.objs hi)];exact hi2,hh⟩
  exact(xt.trans h12) id i hi
 ·exact World.putObj_heap_same hll2
 ·exact(F.same D hDl (.inr hDb)).trans hD
 ·intro b hb;rcases F.blk b hb with h |h
  all_goals grind
 ·rintro b (h |h |h)
  ·exact .inl (.inl h)
  ·exact .inl (.inr (.inl h))
  ·rcases F.blk b h with h |h
   all_goals grind
 ·intro b hb hn;exact F.same b hb (.inr λh=>hn (.inr (.inr h)))
variable {f:FuncId}
theorem G3m {R:RfT}{ps:List Nat}(hR:G0o P f R ps acA acB){avs rs:List AV}(hl0:avs.length<=R.nt)(hpn:ps.Nodup)(hpN: ∀p∈ps,p<R.nt)
  (hrun:A5h P R.as0 (λτ=>A5h P R.as1 (λτ=>A5h P R.as2 (λτ=> ∃h caps T Obj encs xs,E0i P R ps acA acB rs α τ h caps T Obj encs xs) τ) τ) (A0b avs [])):A1 P f avs [] (A5a rs) []:=by
 obtain⟨fn,i0,i1,i2,i3,i4,j,o0,o1,o2,o3,o4,asg,bd,hf,hb,hname,c0,c1,c2,c3,c4,hts,hlt,hnt,hca,hcb,hna,hnb,hpa,hpb⟩:=hR.ok;refine⟨by unfold A3g;rw[hf];simp only;rw[hb];simp[hname],λG w ob vals hs hr=> ?_⟩;refine callsIn_wide.1 (callsIn_of_wp_marks (F:=Fence.wide) (n:=1) hf hb trivial (wpIn_wide.2 ?_));have hst:Sim fn.ntmps (A0b avs []) {tmps:=vals.toArray++Array.replicate (fn.ntmps-vals.toArray.size) undef,defers:= []} w ob G:=D03 hs hr (by rw[hnt];exact hl0);refine wp_seq (F6l c0 hrun hst λτ0 a0 w0 ob0 G0 q0 k0 f0 x0=> ?_);show(Code.seq _ _).wp P _ a0 w0;refine wp_seq (F6l c1 q0 k0 λτ1 a1 w1 ob1 G1 q1 k1 f1 x1=> ?_);show(Code.seq _ _).wp P _ a1 w1;refine wp_seq (wp_seq (F6l c2 q1 k1 λτ2 a2 w2 ob2 G2 q2 k2 f2 x2=> ?_));show(Code.block _ _).wp P _ a2 w2;obtain⟨hh,caps,T,Obj,encs,xs,LR⟩:=q2;obtain⟨v,hv,hrel⟩:=k2.env R.gx _ LR.gx;cases hrel with
 |fn vs us hvn hum hvr hur=>
 have hvs:vs= #[]:=Array.eq_empty_of_size_eq_zero (by simpa using hvn);subst hvs;have hev:a2.eval (.tmp R.gx)= .func (.func hh) #[] us:=by show a2.tmps.getD R.gx undef=_;rw[Array.getD_eq_getD_getElem?,hv];rfl
 obtain⟨ρ,A,hwk⟩:=LR.weak;obtain⟨ob3,G3,s3,f3,_⟩:=B3h k2 hwk;have F3:Fr G w ob G3 w2 ob3:=((f0.trans f1).trans f2).trans f3;rw[hnt]at s3;refine wp_block (wpIn_wide.1 (wpIn_rangeFunc (F:=Fence.wide) (n:=1) λfnId _=> ?_));let wA:World:=(w2.alloc (.deferred (some []))).alloc (.loop {state:= .ready,pending:=none,fn:=fnId,tmps:=a2.tmps,params:=ps.toArray,assign:=asg,body:=bd,defers:=w2.heap.size})
 have hszA:wA.heap.size=w2.heap.size+2:=by simp[wA]
 have oldA: ∀b,b<w2.heap.size->wA.heap[b]? =w2.heap[b]? :=λb hb=>by show(World.alloc _ _).heap[b]? =_;rw[heap_alloc_old _ _ (by simp;omega),heap_alloc_old _ _ hb]
 have defA:wA.heap[w2.heap.size]? =some (.deferred (some [])):=by show(World.alloc _ _).heap[w2.heap.size]? =_;rw[heap_alloc_old _ _ (by simp),heap_alloc_new]
 have loopA:wA.heap[w2.heap.size+1]? =some (.loop (B0y fnId a2 ps asg bd w2.heap.size .ready)):=by have:=heap_alloc_new (w2.alloc (.deferred (some []))) (.loop {state:= .ready,pending:=none,fn:=fnId,tmps:=a2.tmps,params:=ps.toArray,assign:=asg,body:=bd,defers:=w2.heap.size});rw[World.size_alloc]at this;exact this
 have extA:Ext w2 wA:=⟨by omega,oldA,rfl,rfl,rfl,Nat.le_refl _⟩
 have hG3: ∀b,G3 b->b<w2.heap.size:=s3.objs.lt
 let I:C1v P α:= {
  l:=w2.heap.size+1,encs:=encs,bound:=xs.length
  J:=λpre W Φ=> ∃ob',RJ R T Obj a2 w2 ob3 G3 (w2.heap.size+1) w2.heap.size (B0y fnId a2 ps asg bd w2.heap.size .ready) pre W Φ ob'
  lt:=by
   rintro pre W Φ b ⟨ob',hJ⟩ hb;obtain⟨s,f,xt,hl,hD,hne,rfl⟩:=hJ;rcases hb with rfl |rfl |hb
   ·exact(Array.getElem?_eq_some_iff.1 hl).1
   ·exact(Array.getElem?_eq_some_iff.1 hD).1
   ·exact s.objs.blks_lt hb
  ext:=by rintro pre W W' Φ ⟨ob',hJ⟩ hx;obtain⟨s,f,xt,hl,hD,hne,rfl⟩:=hJ;exact⟨ob',s.frame hx.size λb hb _=>hx.same b hb,f.ext hx,xt,(hx.same _ (Array.getElem?_eq_some_iff.1 hl).1).trans hl,(hx.same _ (Array.getElem?_eq_some_iff.1 hD).1).trans hD,hne,rfl⟩
  rnd:=by rintro pre x W Φ vals ⟨ob',hJ⟩ hlen hrl;obtain⟨tmps,h1,h2⟩:=F94 (P:=P) hG3 (by omega) (Nat.le_refl _) hpn hpN LR.len (by omega) hca hcb hna hnb hpa hpb (λpre id o h=>(LR.nd pre id o h).1) hJ hrl (LR.body pre x hlen);exact⟨_,tmps,_,_,h1,h2⟩}
 have hJ0:I.J [] wA (λb=>b=w2.heap.size+1\/b=w2.heap.size\/O7 ob3 b):=by refine⟨ob3,s3.frame (by omega) λb hb _=>oldA b hb,(Fr.refl G3 w2 ob3).ext extA,C9.refl _,loopA,defA,λb hb=> ?_,rfl⟩;have:=s3.objs.blks_lt hb;exact⟨by omega,by omega⟩
 have hpure: ∀ {Gx:Nat->Prop} {ob':Place},(∀b,G2 b->Gx b)->A6z Gx wA ob' caps us.toList:=λ{Gx ob'} hg=>by
  refine⟨by simp[hum],λj av hj=> ?_⟩;have h1:=hur j av hj
  have h2:Rel G2 w2 ob' av (us.getD j undef):=h1.flat_free (AV.flat_of_pure (B6j LR.pure hj))
  have h3:=h2.ext hg (λb hb=>oldA b (k2.objs.lt b hb)) (C9.refl _);simpa[List.getD]using h3
 have hcall:=LR.it I rfl rfl us.toList wA (λb=>G2 b) (λb=>b=w2.heap.size+1\/b=w2.heap.size\/O7 ob3 b) (hpure λ_ h=>h) (λb hb=>by have:=k2.objs.lt b hb;omega) hJ0 ?_
 case refine_1=>
  rintro b hb (h |h |h)
  ·have:=k2.objs.lt b hb;omega
  ·have:=k2.objs.lt b hb;omega
  ·obtain⟨id,i,hi,hh⟩:=h;cases ho:ofL (Obj []) id with
   |none=>rw[(s3.objs.dom id).1 ho]at hi;cases hi
   |some o=>exact s3.objs.sep id o i b ho (LR.nd _ _ _ ho).2 hi hh (f3.sub b hb)
 have hcall2:=callsIn_wide.1 hcall
 have eus:us.toList.toArray=us:=by simp
 rw[eus]at hcall2;refine⟨w2.heap.size+1,[{target:= .collected w2.heap.size,args:= #[]}],wA,{target:= .fn (.func hh) us,args:= #[.func (.yield (w2.heap.size+1)) #[] #[]]},wA,hh,_,wA,run_enterLoop_outer ..,?_,λ_ _=>trivial,?_,λh=>by simp[Fence.wide]at h,callsIn_wide.2 (hcall2.mono ?_)⟩
 ·simp[resolve,Deferred.ofValue,Act.eval,hv]
 ·simp[invoke,A70 LR.call];rfl
 rintro e w4 ⟨⟨v4,rfl⟩,Φ4,ob4,J4⟩;obtain⟨s4,f4,x4,hl4,hd4,hne4,_⟩:=J4;refine⟨none,_,run_endLoop hl4 (by simp[B0y]),?_⟩;show Exit.inBlock _ _ _ _ _;generalize hw5:w4.putObj (w2.heap.size+1) _=w5;have hsz5:w5.heap.size=w4.heap.size:=by rw[<-hw5];simp
 have hwA':w2.heap.size+2<=w4.heap.size:=by grind
 have old5: ∀b,b≠w2.heap.size+1->w5.heap[b]? =w4.heap[b]? :=λb hb=>by rw[<-hw5];exact World.putObj_heap_other hb
 have hsz4:=f4.size
 have F5:Fr G3 w2 ob3 G3 w5 ob4:=by
  refine⟨by omega,λb hb hc=> ?_,f4.blk,λ_ h=>h,λ_ h=> .inl h,?_,?_,?_,?_⟩
  ·rw[old5 b (by omega)];exact f4.same b hb hc
  ·rw[<-hw5];exact f4.os
  ·rw[<-hw5];exact f4.tape
  ·rw[<-hw5];exact f4.output
  ·rw[<-hw5];exact f4.drawn
 have k3:Sim R.nt (A14 T (Obj xs)) a2 w5 ob4 G3:=s4.frame (by omega) λb hb hc=>old5 b λe=>by grind
 have hd5:w5.heap[w2.heap.size]? =some (.deferred (some [])):=(old5 _ (by omega)).trans hd4
 have hdf:({a2 with defers:= [{target:= .collected w2.heap.size,args:= #[]}]++a2.defers}:Act)=a2.more [{target:= .collected w2.heap.size,args:= #[]}]:=by unfold Act.more;rw[k2.defers];rfl
 rw[hdf];rw[hnt]at c3 c4 hlt;show(Code.seq _ _).wp P _ (a2.more _) w5;refine wp_seq (E06 c3 LR.post k3 λτ3 a3 w6 ob6 G6 q3 k4 f6 x6=> ?_);show(Code.seq _ _).wp P _ (a3.more _) w6;refine wp_seq (E06 c4 q3 k4 λτ4 a4 w7 ob7 G7 q4 k5 f7 x7=> ?_);show Code.ret.wp P _ (a4.more _) w7;refine wp_ret ?_;show LeavesInM _ _ P fn a4.tmps _ (a4.defers++ [_]) .returning w7;rw[k5.defers,List.nil_append];have F7:Fr G3 w5 ob4 G7 w7 ob7:=f6.trans f7
 have nB5: ¬O7 ob4 w2.heap.size:=λhb=>(hne4 _ hb).2 rfl
 have hd7:w7.heap[w2.heap.size]? =some (.deferred (some [])):=(F7.same _ (by omega) (.inr nB5)).trans hd5;refine⟨by simp, .inl ⟨_,_,rfl,run_takeDeferred hd7,?_⟩⟩;have notG7: ¬G7 w2.heap.size:=λhG=>by
  rcases F7.new _ hG with h |h |h
  all_goals grind
 have notB7: ¬O7 ob7 w2.heap.size:=λhb=>by
  rcases F7.blk _ hb with h |h
  ·exact nB5 h
  ·omega
 have old8: ∀b,b≠w2.heap.size->(w7.putObj w2.heap.size (.deferred none)).heap[b]? =w7.heap[b]? :=λb hb=>World.putObj_heap_other hb
 have k8:Sim R.nt τ4 a4 (w7.putObj w2.heap.size (.deferred none)) ob7 G7:=k5.frame (by simp) λb hb hc=>old8 b λe=>by grind
 have FT:Fr G w ob G7 w7 ob7:=(F3.trans F5).trans F7
 have F8:Fr G w ob G7 (w7.putObj w2.heap.size (.deferred none)) ob7:=by refine⟨by simp;exact FT.size,λb hb hc=> ?_,FT.blk,FT.sub,FT.new,FT.os,FT.tape,FT.output,FT.drawn⟩;have:=F3.size;rw[old8 b (by omega)];exact FT.same b hb hc
 have hlt': ∀p∈R.rvs,p.1<R.nt:=λp hp=>by have:=List.all_eq_true.1 hlt p hp;simpa[Nat.blt_eq]using this
 obtain⟨σ2,aF,vF,q1,q2,hvF,hvF'⟩:=B9g hts k8 hlt' q4;obtain⟨md,hml,hrl,ρ,A,hw⟩:=q1;obtain⟨obF,GF,z1,z2,z3⟩:=B3h q2 hw;refine⟨vF,hvF,vF,GF,obF,rfl,z1.objs,?_,F8.trans z2,?_⟩
 ·rw[hvF'];exact D5e hrl λj t r ht hr=>z1.env t r (C0r hml hrl List.nodup_range' j t r ht hr)
 ·intro id i hi;have e0:=D1t hs;rw[e0]at hi;cases hi
end
section
variable {P:Program} {N:Nat} {α:Type} {I:C1v P α}
@[reducible] def yC(T':H6):Cont:=⟨λo τ=>match o with | .normal=>Y5 [] τ T' [] |_=>False⟩
theorem G22 {T':H6}: @Qi (yC T') .normal σ=Y5 [] σ T' []:=rfl
attribute [go_sem] G22
theorem Yp.plainN(hm:P.follows .mixedOrders=true){ac:ACode}{Q:Out->H6->List α->Prop}{T:H6}{pre:List α}(T':H6)(h: @Wi P N [] ac (yC T') (A14 T []))(hq:Q .normal T' pre):Yp I N ac Q T pre:=by
 refine Yp.plain ((Wp.of_W hm ac h).mono λo τ ho=> ?_);cases o with
 |normal=>exact⟨T',hq,ho⟩
 |exit i=>exact ho.elim
 |ret=>exact ho.elim
variable {ac:ACode} {pre:List α}
theorem Yp.pre_eq {Q:Out->H6->List α->Prop}{pre':List α}(e:pre=pre')(h:Yp I N ac Q T pre'):Yp I N ac Q T pre:=e▸h
theorem Yp.skip(hm:P.follows .mixedOrders=true){Q:Out->H6->List α->Prop}{T:H6}{pre:List α}(h:Q .normal T pre):Yp I N .skip Q T pre:=by
 intro c hc a W hS;cases c <;> simp only[D9,ACode.strip,Option.some.injEq,reduceCtorEq]at hc
 case skip=>exact wp_skip ⟨.normal,T,pre,rfl,h,hS⟩
 case label=>exact wp_label ⟨.normal,T,pre,rfl,h,hS⟩
 all_goals(repeat' split at hc) <;> simp at hc
theorem Yp.exit {id:Nat}{Q:Out->H6->List α->Prop}{T:H6}{pre:List α}(h:Q (.exit id) T pre):Yp I N (.exit id) Q T pre:=by
 intro c hc a W hS;cases c <;> simp only[D9,ACode.strip,Option.some.injEq,reduceCtorEq]at hc
 case exit id'=>simp only[ACode.exit.injEq]at hc;subst hc;exact wp_exit ⟨.exit id',T,pre,rfl,h,hS⟩
 all_goals(repeat' split at hc) <;> simp at hc
@[reducible] def rfC(Q:St->Prop):Cont:=⟨λo τ=>match o with | .normal=>Q τ |_=>False⟩
theorem F13 {Q:St->Prop}: @Qi (rfC Q) .normal σ=Q σ:=rfl
variable {d:Nat} {xs:List AX}
theorem Yp.yieldI {pr po:List AOper}{x:AX}{p:List α}{Q:Out->H6->List α->Prop}(v:α)(T':H6)(hp:p.length<I.bound)(hn: ∀av∈I.encs v,av.noDsl=true/\av.flat=true)
  (h1: @Wi P N [] (.region false pr) (rfC λτ=>τ.ev x=some (true, .fn (.yield I.l) [] [])/\τ.es xs=some (I.encs v)/\(∀y∈xs,τ.c y=true)/\τ.objs=ofL []/\
    @Wi P N [] (.region false po) (yC T') (τ.put (some d) true ⟨some (.sc (.bool true)),[]⟩)) (A14 T []))(hq:Q .normal T' (p++ [v])):Yp I N (.region false (pr++⟨some d, .callv x xs,none,[]⟩::po)) Q T p:=by
 refine Yp.yield v hp (λG W ob vals hr G' ob'=>⟨hr.1,λj av hj=> ?_⟩) (show A5h P pr _ _ from h1) λτ hτ=> ?_
 ·have hm':=List.mem_of_getElem? hj
  exact((hr.2 j av hj).noDsl (hn av hm').1).flat_free (hn av hm').2
 ·obtain⟨a1,a2,a3,a5,a6⟩:=hτ;exact⟨a1,a2,a3,a5,_,(show A5h P po _ _ from a6),λτ' h'=>⟨T',hq,h'⟩⟩
theorem G33(α:Type){L:List (Nat×List Bool)}{f:FuncId}{fn:Func}(N:Nat)(rvs:List (Nat×Option (Option Nat))){i0 i1 i2 i3 i4 j gx:Nat}{o0 o1 o2 o3 o4:Array Oper}(ps:List Nat){asg bd:Code}{a0 a1 a2 a3 a4:List AOper}{acA acB:ACode}{avs rs:List AV}
  (hL:okE P L=true)(hf:P.funcs[f]? =some fn)
  (hb:fn.body=some (.seq (.region i0 o0 false) (.seq (.region i1 o1 false) (.seq (.seq (.region i2 o2 false) (.block j (.rangeFunc (.tmp gx) ps.toArray asg bd))) (.seq (.region i3 o3 false) (.seq (.region i4 o4 false) .ret))))))
  (h0:B0q P L N o0 o0.toList=some a0)(h1:B0q P L N o1 o1.toList=some a1)(h2:B0q P L N o2 o2.toList=some a2)(h3:B0q P L N o3 o3.toList=some a3)(h4:B0q P L N o4 o4.toList=some a4)
  (hA:M5 P L N asg=some acA)(hB:M5 P L N bd=some acB)(n1:A27 asg=true)(n2:A27 bd=true)(p1:plA acA=true)(p2:plA acB=true)(hps:ps.Nodup)(hpN: ∀p∈ps,p<N)(hl:avs.length<=N)
  (hrun: @Wi P N [] (.seq (.region false a0) (.seq (.region false a1) (.region false a2))) (rfC λτ=> ∃(h:FuncId) (caps:List AV) (T:H6) (Obj:List α->List (Nat×A5)) (encs:α->List AV) (xs:List α),E0i P ⟨N,a0,a1,a2,gx,a3,a4,rvs⟩ ps acA acB rs α τ h caps T Obj encs xs) (A0b avs []))
  (hN:fn.ntmps=N:=by kernel_rfl)(hts:A51 P fn.results.toList=some rvs:=by kernel_rfl)
  (hname:(fn.name != "runtime.NumGoroutine")=true:=by kernel_rfl)(hlt:(rvs.all λp=>p.1.blt N)=true:=by decide):A1 P f avs [] (A5a rs) []:=by
 subst hN;exact G3m (α:=α) (R:=⟨fn.ntmps,a0,a1,a2,gx,a3,a4,rvs⟩) ⟨⟨fn,i0,i1,i2,i3,i4,j,o0,o1,o2,o3,o4,asg,bd,hf,hb,hname,A8e hL h0,A8e hL h1,A8e hL h2,A8e hL h3,A8e hL h4,hts,hlt,rfl,cs2 hL hA,cs2 hL hB,n1,n2,p1,p2⟩⟩ hl hps hpN hrun
end
end Go.Abs
end
