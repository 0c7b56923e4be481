/- A part of the proof: what a function does, over abstract values and objects, and its ties to the model. -/
import Derived.Test.YtchcbiiammkhgaaGreatLC
import Derived.LoopN
import Derived.RangeFuncRecord
set_option linter.unusedSimpArgs false
set_option linter.unusedVariables false
set_option linter.unnecessarySimpa false
set_option maxRecDepth 100000
set_option maxHeartbeats 2000000
noncomputable section
namespace Go.Abs
section
variable (P:Program) (N:Nat) (K:List Nat)
def Wr(x:ACode)(Q:Out->St->Prop):Nat->St->Prop
 |0,_=>False
 |n+1,σ=>W P N K x (Out.then (Wr x Q n) Q) σ
def Wri(x:ACode)(n:Nat) [Q:Cont](σ:St):Prop:=Wr P N K x Q.q n σ
@[reducible] def D7p(x:ACode)(n:Nat)(Q:Cont):Cont:=⟨Out.then (Wr P N K x Q.q n) Q.q⟩
variable {P N K}
theorem Wp.rounds {x:ACode}{Q:Out->St->Prop}{σ:St}(hm:P.follows .mixedOrders=true)(n:Nat)(h:Wr P N K x Q n σ):Wp P N K (.loop x) Q σ:=by
 intro c hc Γ a w ob G hs hΓ;cases c <;> simp only[D9,ACode.strip,Option.some.injEq,reduceCtorEq]at hc
 case loop c1=>
  split at hc
  ·rename_i x' h1;simp only[Option.some.injEq,ACode.loop.injEq]at hc;obtain rfl:=hc;refine wp_loop_rounds n ?_;have key: ∀(n:Nat) (σ:St) (a:Act) (w:World) (ob:Place) (G:Nat->Prop),Wr P N K x Q n σ->Sim N σ a w ob G->B70 K Γ G w ob->Code.rounds P c1 (E3d K N Γ Q) n a w:=by
    intro n;induction n with
    |zero=>intro σ a w ob G h;exact h.elim
    |succ n ih=>
     intro σ a w ob G h hs hΓ;rw[rounds_succ];refine wp_mono (Wp.of_W hm x h c1 h1 Γ a w ob G hs hΓ) ?_;rintro e a' w' ⟨o,τ,ob',G',rfl,hq,s,hΓ'⟩;cases o with
     |normal=>exact ih τ a' w' ob' G' hq s hΓ'
     |exit i=>exact⟨.exit i,τ,ob',G',rfl,hq,s,hΓ'⟩
     |ret=>exact⟨.ret,τ,ob',G',rfl,hq,s,hΓ'⟩
   exact key n σ a w ob G h hs hΓ
  ·cases hc
 all_goals(repeat' split at hc) <;> simp at hc
variable {σ:St} {n:Nat} {Q:Cont}
theorem E5m {x:ACode}: @Wri P N K x (n+1) Q σ= @Wi P N K x (D7p P N K x n Q) σ:=Eq.trans rfl rfl
theorem D7i {x:ACode}: @Qi (D7p P N K x n Q) .normal σ= @Wri P N K x n Q σ:=Eq.trans rfl rfl
variable {j:Nat}
theorem E1i {x:ACode}: @Qi (D7p P N K x n Q) (.exit j) σ= @Qi Q (.exit j) σ:=Eq.trans rfl rfl
theorem E59 {x:ACode}: @Qi (D7p P N K x n Q) .ret σ= @Qi Q .ret σ:=Eq.trans rfl rfl
variable {σ':St}
@[congr] theorem G3u {x:ACode}(h:σ=σ'): @Wri P N K x n Q σ= @Wri P N K x n Q σ':=by rw[h]
theorem D5v {x:ACode}(hm:P.follows .mixedOrders=true)(n:Nat)(h: @Wri P N K x n Q σ): @Wpi P N K (.loop x) Q σ:=Wp.rounds hm n h
end
attribute [go_sem] D7i E1i E59
theorem D65 {n:Int}(h1: -9223372036854775808<=n)(h2:n<9223372036854775808):IntKind.i64.wrap n=n:=by rw[IntKind.wrap_i64];omega
theorem F7q {n:Int}(h1:0<=n)(h2:n<18446744073709551616):IntKind.u64.wrap n=n:=by simp[IntKind.wrap,IntKind.bits,IntKind.signed];omega
section
variable (P:Program) (N:Nat) (K:List Nat)
variable {P N K}
end
section
variable {P:Program} {N:Nat} {K:List Nat} {ev:Int->Value} {D:Int->Prop}
variable (P N K)
variable {P N K}
end
section
variable {P:Program} {N:Nat}
def _root_.Go.Act.more(a:Act)(ds:List Deferred):Act:= {a with defers:=a.defers++ds}
theorem B5k(a:Act)(d:Option Nat)(v:Value)(ds:List Deferred):(a.put d v).more ds=(a.more ds).put d v:=by cases d <;> rfl
variable {a:Act}
theorem F3m {o:Oper}{ds:List Deferred}{K K':Act->World->Prop}{R:Exit->Act->World->Prop}(hK: ∀a w,K a w->K' (a.more ds) w){r:Result Next}
  (h:o.upon P a K (λe a w=>R e (a.more ds) w) r):o.upon P (a.more ds) K' R r:=by
 unfold Oper.upon at h⊢;split at h
 ·have:=hK _ _ h;rw[B5k]at this;exact this
 ·have:=hK _ _ h;rw[B5k]at this;exact this
 ·have:=hK _ _ h;rw[B5k]at this;exact this
 ·refine h.mono ?_;intro e w';cases e with
  |returned v=>intro h;have:=hK _ _ h;rw[B5k]at this;exact this
  |panicked chain=>exact id
  |outgrown=>rintro⟨a',w',h⟩;exact⟨_,w',h⟩
 ·exact h.mono λv w' h=>by have:=hK _ _ h;rw[B5k]at this;exact this
 ·exact h
 ·exact h.elim
variable {w:World}
theorem F8t {ops:Array Oper}{o:Oper}{ds:List Deferred}{K K':Act->World->Prop}{R:Exit->Act->World->Prop}(hK: ∀a w,K a w->K' (a.more ds) w)
  (h:if Region.wanted o (yielded ops a.tmps)then o.wp P a w K (λe a w=>R e (a.more ds) w)\/(o.asks P a w/\LetsOut λe a w=>R e (a.more ds) w)else K (a.put o.dst undef) w):
  if Region.wanted o (yielded ops (a.more ds).tmps)then o.wp P (a.more ds) w K' R\/(o.asks P (a.more ds) w/\LetsOut R)else K' ((a.more ds).put o.dst undef) w:=by
 by_cases hw:Region.wanted o (yielded ops a.tmps)=true
 ·have hw':Region.wanted o (yielded ops (a.more ds).tmps)=true:=hw
  rw[if_pos hw]at h;rw[if_pos hw'];rcases h with h |h
  ·exact .inl (F3m hK h)
  ·exact .inr ⟨h.1,by obtain⟨a',w',h⟩:=h.2;exact⟨_,w',h⟩⟩
 ·have hw': ¬Region.wanted o (yielded ops (a.more ds).tmps)=true:=hw
  rw[if_neg hw]at h;rw[if_neg hw',<-B5k];exact hK _ _ h
theorem C6c {ops:Array Oper}{ds:List Deferred}{R:Exit->Act->World->Prop}: ∀(l:List Nat) (a:Act) (w:World),wpOps P ops (λe a w=>R e (a.more ds) w) l a w->wpOps P ops R l (a.more ds) w
 | [],a,w,h=>h
 |i::l,a,w,h=>by
  rw[wpOps]at h⊢;cases ho:ops[i]? with
  |none=>rw[ho]at h;exact C6c l a w h
  |some o=>rw[ho]at h;exact F8t (λa w=>C6c l a w) h
variable {G:Nat->Prop} {ob:Place} {m:Nat->Option A5} {w':World}
theorem D4.frame(h:D4 G w ob m)(hs:w.heap.size<=w'.heap.size)(he: ∀b,b<w.heap.size->(G b\/O6 ob b)->w'.heap[b]? =w.heap[b]?):D4 G w' ob m where
 dom:=h.dom
 inj:=h.inj
 lt:=λb hb=>Nat.lt_of_lt_of_le (h.lt b hb) hs
 own:=λid o i ho hi=>(h.own id o i ho hi).ext (λ_ h=>h) (λb hb=>he b (h.lt b hb) (.inl hb)) (C7.refl ob) λb hb=>he b ((h.own id o i ho hi).has_lt hb) (.inr ⟨id,i,hi,hb⟩)
 sep:=h.sep
end
def rn(d k:Nat):Nat:=16*(d+1)+k-1
section
variable {P:Program} {m:Nat->Option A5}
def C4p(m:Nat->Option A5):List AV->Option (Prop×List AV×List (Nat×A5))
 | []=>some (True,[],[])
 |a::as=>match Z6 m a,C4p m as with
  |some (p,c,w),some (q,cs,w')=>some (p/\q,c::cs,w++w')
  |_,_=>none
theorem D1e {ρ:Nat->Nat}: ∀ {avs cs:List AV} {p:Prop} {wr:List (Nat×A5)},C4p m avs=some (p,cs,wr)->p-> ∃md,R3 m ρ [] md avs cs wr
 | [],cs,p,wr,h,hp=>by simp only[C4p,Option.some.injEq,Prod.mk.injEq]at h;obtain⟨rfl,rfl,rfl⟩:=h;exact⟨[],rfl⟩
 |a::as,cs,p,wr,h,hp=>by
  simp only[C4p]at h;split at h
  ·rename_i p1 c1 w1 q1 cs1 w2 h1 h2;simp only[Option.some.injEq,Prod.mk.injEq]at h;obtain⟨rfl,rfl,rfl⟩:=h;obtain⟨md,hm⟩:=D1e (ρ:=ρ) h2 hp.2;exact⟨false::md,p1,w1,w2,h1,hp.1,rfl,hm⟩
  ·cases h
variable {f:FuncId} {avs cs:List AV} {O' wr:List (Nat×A5)}
theorem E5l {r:AV}{md:List Bool}{ρ:Nat->Nat}(hc:A1 P f cs [] r O')(ha:R3 m ρ [] md avs cs wr)
  (hnew:C8e m ρ [] O')(hd:(O'.map λp=>ρ p.1).Nodup):T5 P m f avs ⟨some (r.ren ρ),wr++A3n ρ O'⟩:=by
 refine T5.mk md cs [] r O' ρ wr false hc ha (λi o h=>by simp[ofL,wrm]at h) (λi cs h=>by simp[ofL,wrm]at h) (λi h=>by simp[ofL,wrm]at h) (λi hi=> ?_) hd (λh=>by cases h);obtain⟨o,ho⟩:=A85 hi;exact B8r hnew i o ho
variable {p:Prop} {d:Nat} {b:Bool}
theorem K0 {Q:ContR}{r:AV}(hz:C4p m avs=some (p,cs,wr))(hp:p)(hc:A1 P f cs [] r O')
  (hK:C8e m (rn d) [] O'/\(O'.map λp=>rn d p.1).Nodup/\b=true/\ @Ri Q b ⟨some (r.ren (rn d)),wr++A3n (rn d) O'⟩): @B8y P d m f avs b Q:=by
 obtain⟨md,hm⟩:=D1e (ρ:=rn d) hz hp;exact⟨_,λ_=>E5l hc hm hK.1 hK.2.1,λ_=>hK.2.2.1,hK.2.2.2⟩
theorem E57 {Q:ContR}{r:AV}(hz:C4p m avs=some (p,cs,wr))(hp:p)(hc:A1 P f cs [] r [])
  (hn:r.noDsl=true)(hK: @Ri Q b ⟨some r,[]⟩): @B8y P d m f avs b Q:=by
 obtain⟨md,hm⟩:=D1e (ρ:=id) hz hp;exact⟨_,λ_=>B17 hc hm true (λ_=>hn),λh=>absurd rfl h,hK⟩
def C86:List (Nat×A5)->Prop
 | []=>True
 |(_,o)::r=>o.NoDsl/\C86 r
theorem D6y: ∀ {O:List (Nat×A5)},C86 O-> ∀i o,(i,o)∈O->o.NoDsl
 | [],_,i,o,h=>by cases h
 |(k,o1)::O,h,i,o,hm=>by
  rcases List.mem_cons.1 hm with e |hm
  ·obtain⟨rfl,rfl⟩:=Prod.mk.inj e;exact h.1
  ·exact D6y h.2 i o hm
theorem E67 {Q:ContR}{r:AV}(hz:C4p m avs=some (p,cs,wr))(hp:p)(hc:A1 P f cs [] r O')
  (hr:r.noDsl=true)(hn:C86 O')(hK:C8e m (rn d) [] O'/\(O'.map λp=>rn d p.1).Nodup/\b=true/\ @Ri Q b ⟨some (r.ren (rn d)),A3n (rn d) O'⟩): @B8y P d m f avs b Q:=by
 obtain⟨md,hm⟩:=D1e (ρ:=rn d) hz hp;refine⟨_,λ_=>T5.mk md cs [] r O' (rn d) wr true hc hm (λi o h=>by simp[ofL,wrm]at h) (λi cs h=>by simp[ofL,wrm]at h) (λi h=>by simp[ofL,wrm]at h) (λi hi=> ?_) hK.2.1 (λ_=>⟨hr,λi o hi=> ?_⟩),λ_=>hK.2.2.1,hK.2.2.2⟩
 ·obtain⟨o,ho⟩:=A85 hi;exact B8r hK.1 i o ho
 ·exact D6y hn i o (A05 (B3s hK.2.1).1 hi)
variable {O:List (Nat×A5)} {cargs:List AV}
theorem E0v {Q:ContR}{r:AV}(md:List Bool)(ρs:List (Nat×Nat))(hc:A1 P f cargs O r O)
  (hnO:(O.map (·.1)).Nodup)(hnd:(O.map λp=>A6 ρs p.1).Nodup)(hid: ∀p∈O,∃av∈avs,A6 ρs p.1∈av.ids)
  (ha:A53 m (A6 ρs) O md avs cargs [] λwr=>wr= []/\C2t m (A6 ρs) O O/\ @Ri Q b ⟨some (r.ren (A6 ρs)),[]⟩): @A4x P m f avs b Q:=by
 obtain⟨cs,wr,h1,h2,h3,h4,h5⟩:=C02 ha;rw[List.nil_append]at h3;subst h3;have hO: ∀i o,ofL O i=some o->m (A6 ρs i)=some (o.ren (A6 ρs)):=λi o hi=>(A84 h4 i o (A05 hnO hi)).1;refine⟨_,λ_=>T5.drop _ _ (T5.mk md cs O r O (A6 ρs) [] false (hc.args_le h2) h1 hO
  (λi cs hi=>(A84 h4 i _ (A05 hnO hi)).2 cs rfl) (λi hi=>hi) (λi hi=> .inl hi) hnd (λh=>by cases h)) (λp hp=> ?_) (λp hp=> ?_),λh=>absurd rfl h,h5⟩
 ·simp only[Bool.false_eq_true,if_false,List.nil_append,A3n,List.mem_map]at hp;obtain⟨q,hq,rfl⟩:=hp;exact(A84 h4 q.1 q.2 hq).1
 ·simp only[Bool.false_eq_true,if_false,List.nil_append,A3n,List.mem_map]at hp;obtain⟨q,hq,rfl⟩:=hp;exact hid q hq
mutual
def F5a:AV->AV->List (Nat×Nat)
 | .sl id _ _ _, .sl k _ _ _=>if id=k then []else [(k,id)]
 | .agg as, .agg bs=>D8g as bs
 |_,_=> []
def D8g:List AV->List AV->List (Nat×Nat)
 |a::as,b::bs=>F5a a b++D8g as bs
 |_,_=> []
end
def ad1:AV->AV->List Nat
 | .sc _, .sl k _ _ _=> [k]
 |_,_=> []
def adL:List AV->List AV->List Nat
 |a::as,b::bs=>ad1 a b++adL as bs
 |_,_=> []
def md1:AV->AV->C07
 | .sc _, .sl .. => .adopt
 | .sc _, .dsl .. => .thaw
 | .sl .., .dsl .. => .thaw
 | .dsl .., .dsl .. => .thaw
 | .dslx .., .dsl .. => .thaw
 | .agg _, .agg _=> .thaw
 |_,_=> .share
def mdL:List AV->List AV->List C07
 |a::as,b::bs=>md1 a b::mdL as bs
 |_,_=> []
variable {σ:St} {rs:List AV} {K ts A:List Nat}
theorem E0s {vs:List AV}{md:List C07}{ρs:List (Nat×Nat)}(_hv:σ.es (ts.map AX.t)=some vs)(_e1:mdL vs rs=md)(_e2:D8g vs rs=ρs)(_e3:adL vs rs=A)
  (hm:md.length=ts.length)(hr:rs.length=ts.length)
  (h1:(O.map (·.1)).Nodup)(h2:(((O.map (·.1)).filter λi=> !A.contains i).map (A6 ρs)).Nodup)
  (h3: ∀k∈K,k∉A/\A6 ρs k=k/\(ofL O k).isSome)(h4:A2v σ (A6 ρs) A O (B8v ts md rs) [] λwr=>B3k (wrm σ.objs wr) (A6 ρs) A O O):A8g K σ ts rs O:=
 C6 md ρs A hm hr h1 h2 h3 h4
end
attribute [go_sem] C4p rn
variable {σ:St} {O:List (Nat×A5)} {rs:List AV} {K ts:List Nat}
theorem gr_(h:A8g K σ ts rs O):A8g K σ ts rs O:=h
variable {d:Nat} {f:FuncId} {b:Bool} {avs:List AV}
theorem gD_ {P:Program}{m:Nat->Option A5}{Q:ContR}(h: @B8y P d m f avs b Q): @B8y P d m f avs b Q:=h
theorem ev_ {α:Sort _}{a b:α}(h:a=b:=by first |(simp only[go_sem,D8g,F5a,adL,ad1,mdL,md1,↓reduceIte,Nat.reduceEqDiff,Nat.reduceAdd,Nat.reduceMul,Nat.reduceSub,List.map_cons,List.map_nil,List.append_nil,List.nil_append,List.cons_append];done) |(simp only[go_sem,D8g,F5a,adL,ad1,mdL,md1,↓reduceIte,Nat.reduceEqDiff,Nat.reduceAdd,Nat.reduceMul,Nat.reduceSub,List.map_cons,List.map_nil,List.append_nil,List.nil_append,List.cons_append];first |rfl |exact⟨rfl,rfl,rfl⟩ |exact⟨rfl,rfl⟩) |rfl):a=b:=h
theorem nd_(h:C86 O:=by first |exact⟨λ_ _=>rfl,trivial⟩ |exact⟨λ_ _=>rfl,λ_ _=>rfl,trivial⟩):C86 O:=h
variable {p:Prop}
theorem ns_(h:p:=by simp[go_sem,A6]):p:=h
variable {T:H7} {A:List Nat}
theorem F1g {vs:List AV}{ρs:List (Nat×Nat)}(_hv:σ.es (T.map λp=>AX.t p.1)=some vs)(_e2:D8g vs (T.map λp=>p.2.2)=ρs)(_e3:adL vs (T.map λp=>p.2.2)=A)
  (h1:(O.map (·.1)).Nodup)(h2:(((O.map (·.1)).filter λi=> !A.contains i).map (A6 ρs)).Nodup)(h3: ∀k∈K,k∉A/\A6 ρs k=k/\(ofL O k).isSome)
  (h4:A2v σ (A6 ρs) A O T [] λwr=>B3k (wrm σ.objs wr) (A6 ρs) A O O):Y2 K σ T O:=B5 ρs A h1 h2 h3 h4
theorem T1 {S:Type}{f:Nat->S->S}(len:S->Nat)(h: ∀i s,len (f i s)=len s): ∀n s,len (itr f n s)=len s
 |0,_=>rfl
 |n+1,s=>by rw[E4,h,T1 len h n s]
theorem F40(s:Sq)(k:Nat)(c:List AV):(s.set k c).g k=c:=by simp[Sq.set]
theorem E9q(s:Sq)(k:Nat)(c c':List AV):(s.set k c).set k c'=s.set k c':=by simp only[Sq.set,Sq.mk.injEq,true_and];funext i;split <;> rfl
variable {α:Type} {z:Nat} {l:List α} {g:Nat->List AV}
theorem C41 {enc:α->List AV}{d:α}(hg: ∀i,g i=enc (l.getD (1+i) d)):AV.dsl z ((l.length:Int)-1).toNat g= .dsl z l.tail.length (L7 enc d l.tail):=by
 have h1:((l.length:Int)-1).toNat=l.tail.length:=by rw[List.length_tail];omega
 have h2:g=L7 enc d l.tail:=by
  funext i;rw[hg];unfold L7;cases l with
  |nil=>rfl
  |cons a l=>rw[Nat.add_comm];rfl
 rw[h1,h2]
variable {n:Nat}
theorem C0o {enc:α->List AV}{d:α}{cells:List AV}{ρ:Nat->Nat}(hz: ∀a∈l,(enc a).length=z)(hc:cells=l.flatMap enc)(hn:n=l.length):
  A3h ρ (.arr z ⟨n,λi=>(cells.drop (i*z)).take z⟩) (.arr z (A8 enc d l)):=by
 have h:=E5g (d:=d) hz hc hn;unfold A2 at h;rw[A1z]at h;exact h
variable {l':List α}
theorem E8n {enc:α->List AV}{d:α}{cells:List AV}(hz: ∀a∈l,(enc a).length=z)(hc:cells=l.flatMap enc)(hn:n=l.length)(i:Nat)(hi:i<n+l'.length):
  ((⟨n,λi=>(cells.drop (i*z)).take z⟩:Sq).app (A8 enc d l')).g i=L7 enc d (l++l') i:=by
 subst hn;show(if i<l.length then(cells.drop (i*z)).take z else(A8 enc d l').g (i-l.length))=enc ((l++l').getD i d);split
 ·rename_i h;rw[hc,B7y (d:=d) hz h];congr 1;simp[List.getD,List.getElem?_append,h]
 ·rename_i h;show enc (l'.getD (i-l.length) d)=_;congr 1;simp[List.getD,List.getElem?_append,h]
variable {N:Nat}
theorem C2n {N':Nat}{enc:α->List AV}{d:α}{L:List α}{cells:List AV}(hz: ∀a∈l,(enc a).length=z)(hc:cells=l.flatMap enc)(hn:n=l.length)(hL:L=l++l')(hN:N=n+l'.length)(hN':N'=L.length):
  M4 (.dsl z N ((⟨n,λi=>(cells.drop (i*z)).take z⟩:Sq).app (A8 enc d l')).g) (.dsl z N' (L7 enc d L)):=by
 subst hN;subst hN';subst hL;rw[A1z];refine⟨rfl,by rw[hn,List.length_append],λi hi=> ?_⟩;rw[E8n hz hc hn i hi];exact L3 _
theorem D4l {enc:α->List AV}{d:α}{L:List α}{cells:List AV}{ρ:Nat->Nat}(hz: ∀a∈l,(enc a).length=z)(hc:cells=l.flatMap enc)(hn:n=l.length)(hL:L=l++l'):
  A3h ρ (.arr z ((⟨n,λi=>(cells.drop (i*z)).take z⟩:Sq).app (A8 enc d l'))) (.arr z (A8 enc d L)):=by
 subst hL;refine⟨rfl,?_,λi hi=> ?_⟩
 ·show n+l'.length=(l++l').length;rw[hn,List.length_append]
 ·rw[E8n hz hc hn i hi];exact L3 _
theorem E77 {enc:α->List AV}{d:α}{cells:List AV}(hz: ∀a∈l',(enc a).length=z)(hc:cells=l'.flatMap enc)(hn:n=l'.length)(i:Nat)(hi:i<l.length+n):
  ((A8 enc d l).app (⟨n,λi=>(cells.drop (i*z)).take z⟩:Sq)).g i=L7 enc d (l++l') i:=by
 subst hn;show(if i<l.length then enc (l.getD i d)else(cells.drop ((i-l.length)*z)).take z)=enc ((l++l').getD i d);split
 ·rename_i h;congr 1;simp[List.getD,List.getElem?_append,h]
 ·rename_i h;rw[hc,B7y (d:=d) hz (by omega)];congr 1;simp[List.getD,List.getElem?_append,h]
theorem C1y {N':Nat}{enc:α->List AV}{d:α}{L:List α}{cells:List AV}(hz: ∀a∈l',(enc a).length=z)(hc:cells=l'.flatMap enc)(hn:n=l'.length)(hL:L=l++l')(hN:N=l.length+n)(hN':N'=L.length):
  M4 (.dsl z N ((A8 enc d l).app (⟨n,λi=>(cells.drop (i*z)).take z⟩:Sq)).g) (.dsl z N' (L7 enc d L)):=by
 subst hN;subst hN';subst hL;rw[A1z];refine⟨rfl,by rw[hn,List.length_append],λi hi=> ?_⟩;rw[E77 hz hc hn i hi];exact L3 _
theorem D30 {enc:α->List AV}{d:α}{L:List α}{cells:List AV}{ρ:Nat->Nat}(hz: ∀a∈l',(enc a).length=z)(hc:cells=l'.flatMap enc)(hn:n=l'.length)(hL:L=l++l'):
  A3h ρ (.arr z ((A8 enc d l).app (⟨n,λi=>(cells.drop (i*z)).take z⟩:Sq))) (.arr z (A8 enc d L)):=by
 subst hL;refine⟨rfl,?_,λi hi=> ?_⟩
 ·show l.length+n=(l++l').length;rw[hn,List.length_append]
 ·rw[E77 hz hc hn i hi];exact L3 _
theorem E2q {enc:α->List AV}{d:α}{ρ:Nat->Nat}:A3h ρ (.arr z ⟨0,g⟩) (.arr z (A8 enc d [])):=⟨rfl,rfl,λi hi=>absurd hi (Nat.not_lt_zero i)⟩
theorem A4q(l:List α)(i:Nat)(x d:α)(hi:i<l.length):(l.set i x).getD i d=x:=by rw[C5x l i i x d hi,if_pos rfl]
attribute [go_sem] F40 E9q List.length_set List.set_set
open Api
structure SolverBody where
 Velocity:Vec
 AngularVelocity:Int
 InvMass:Int
 InvInertia:Int
 deriving DecidableEq,Inhabited
def SolverBody.enc(x:SolverBody):List AV:=[.sc (.int .i64 x.Velocity.X), .sc (.int .i64 x.Velocity.Y), .sc (.int .i64 x.AngularVelocity), .sc (.int .i64 x.InvMass), .sc (.int .i64 x.InvInertia)]
def SolverBody.zero:List AV:= [.sc (.int .i64 0), .sc (.int .i64 0), .sc (.int .i64 0), .sc (.int .i64 0), .sc (.int .i64 0)]
attribute [go_sem] SolverBody.enc SolverBody.zero
@[go_sem] theorem F9f(x:SolverBody):SolverBody.mk x.Velocity x.AngularVelocity x.InvMass x.InvInertia=x:=rfl
structure Row where
 A:Int
 B:Int
 Normal:Vec
 ArmA:Int
 ArmB:Int
 EffectiveMass:Int
 Bias:Int
 Lower:Int
 Upper:Int
 Softness:Int
 Impulse:Int
 FrictionOf:Int
 Friction:Int
 deriving DecidableEq,Inhabited
def Row.enc(x:Row):List AV:=[.sc (.int .i64 x.A), .sc (.int .i64 x.B), .sc (.int .i64 x.Normal.X), .sc (.int .i64 x.Normal.Y), .sc (.int .i64 x.ArmA), .sc (.int .i64 x.ArmB), .sc (.int .i64 x.EffectiveMass), .sc (.int .i64 x.Bias), .sc (.int .i64 x.Lower), .sc (.int .i64 x.Upper), .sc (.int .i64 x.Softness), .sc (.int .i64 x.Impulse), .sc (.int .i64 x.FrictionOf), .sc (.int .i64 x.Friction)]
def Row.zero:List AV:= [.sc (.int .i64 0), .sc (.int .i64 0), .sc (.int .i64 0), .sc (.int .i64 0), .sc (.int .i64 0), .sc (.int .i64 0), .sc (.int .i64 0), .sc (.int .i64 0), .sc (.int .i64 0), .sc (.int .i64 0), .sc (.int .i64 0), .sc (.int .i64 0), .sc (.int .i64 0), .sc (.int .i64 0)]
attribute [go_sem] Row.enc Row.zero
@[go_sem] theorem G4h(x:Row):Row.mk x.A x.B x.Normal x.ArmA x.ArmB x.EffectiveMass x.Bias x.Lower x.Upper x.Softness x.Impulse x.FrictionOf x.Friction=x:=rfl
theorem B2k(l:List Vec)(i:Nat)(a_0:Int)(a_1:Int)(hi:i<l.length):(A8 Vec.enc default l).set i [.sc (.int .i64 a_0), .sc (.int .i64 a_1)]=A8 Vec.enc default (l.set i ⟨a_0,a_1⟩):=B1l _ hi rfl
theorem B0d(l:List Body)(i:Nat)(a_0:Int)(a_1:Int)(a_2_0_0:Int)(a_2_0_1:Int)(a_2_1:Int)(a_3_0:Int)(a_3_1:Int)(a_4:Int)(a_5_0:Int)(a_5_1:Int)(a_6:Int)(a_7:Int)(a_8:Int)(a_9:Int)(a_10:Bool)(a_11:Bool)(a_12:Bool)(a_13:Bool)(a_14:Int)(a_15:List Fixture)(hi:i<l.length):(A8 Body.enc default l).set i [.sc (.int .i64 a_0), .sc (.int .i64 a_1), .sc (.int .i64 a_2_0_0), .sc (.int .i64 a_2_0_1), .sc (.int .i64 a_2_1), .sc (.int .i64 a_3_0), .sc (.int .i64 a_3_1), .sc (.int .i64 a_4), .sc (.int .i64 a_5_0), .sc (.int .i64 a_5_1), .sc (.int .i64 a_6), .sc (.int .i64 a_7), .sc (.int .i64 a_8), .sc (.int .i64 a_9), .sc (.bool a_10), .sc (.bool a_11), .sc (.bool a_12), .sc (.bool a_13), .sc (.int .i64 a_14),A2 10 Fixture.enc default a_15]=A8 Body.enc default (l.set i ⟨a_0,a_1,⟨⟨a_2_0_0,a_2_0_1⟩,a_2_1⟩,⟨a_3_0,a_3_1⟩,a_4,⟨a_5_0,a_5_1⟩,a_6,a_7,a_8,a_9,a_10,a_11,a_12,a_13,a_14,a_15⟩):=B1l _ hi rfl
theorem A8n(l:List Joint)(i:Nat)(a_0:Int)(a_1:Int)(a_2:Int)(a_3:Int)(a_4_0:Int)(a_4_1:Int)(a_5_0:Int)(a_5_1:Int)(a_6_0:Int)(a_6_1:Int)(a_7:Int)(a_8:Bool)(a_9:Int)(a_10:Int)(a_11:Bool)(a_12:Int)(a_13:Int)(a_14:Int)(a_15:Int)(a_16:Bool)(a_17_0:Int)(a_17_1:Int)(a_17_2:Int)(a_17_3:Int)(hi:i<l.length):(A8 Joint.enc default l).set i [.sc (.int .i64 a_0), .sc (.int .i64 a_1), .sc (.int .i64 a_2), .sc (.int .i64 a_3), .sc (.int .i64 a_4_0), .sc (.int .i64 a_4_1), .sc (.int .i64 a_5_0), .sc (.int .i64 a_5_1), .sc (.int .i64 a_6_0), .sc (.int .i64 a_6_1), .sc (.int .i64 a_7), .sc (.bool a_8), .sc (.int .i64 a_9), .sc (.int .i64 a_10), .sc (.bool a_11), .sc (.int .i64 a_12), .sc (.int .i64 a_13), .sc (.int .i64 a_14), .sc (.int .i64 a_15), .sc (.bool a_16), .sc (.int .i64 a_17_0), .sc (.int .i64 a_17_1), .sc (.int .i64 a_17_2), .sc (.int .i64 a_17_3)]=A8 Joint.enc default (l.set i ⟨a_0,a_1,a_2,a_3,⟨a_4_0,a_4_1⟩,⟨a_5_0,a_5_1⟩,⟨a_6_0,a_6_1⟩,a_7,a_8,a_9,a_10,a_11,a_12,a_13,a_14,a_15,a_16,⟨a_17_0,a_17_1,a_17_2,a_17_3⟩⟩):=B1l _ hi rfl
theorem A5g(l:List Contact)(i:Nat)(a_0_0:Int)(a_0_1:Int)(a_0_2:Int)(a_0_3:Int)(a_1_0_0:Int)(a_1_0_1:Int)(a_1_1:List ContactPoint)(hi:i<l.length):(A8 Contact.enc default l).set i [.sc (.int .i64 a_0_0), .sc (.int .i64 a_0_1), .sc (.int .i64 a_0_2), .sc (.int .i64 a_0_3), .sc (.int .i64 a_1_0_0), .sc (.int .i64 a_1_0_1),A2 6 ContactPoint.enc default a_1_1]=A8 Contact.enc default (l.set i ⟨⟨a_0_0,a_0_1,a_0_2,a_0_3⟩,⟨⟨a_1_0_0,a_1_0_1⟩,a_1_1⟩⟩):=B1l _ hi rfl
theorem A0q(l:List ContactPoint)(i:Nat)(a_0_0:Int)(a_0_1:Int)(a_1:Int)(a_2:Int)(a_3:Int)(a_4:Int)(hi:i<l.length):(A8 ContactPoint.enc default l).set i [.sc (.int .i64 a_0_0), .sc (.int .i64 a_0_1), .sc (.int .i64 a_1), .sc (.int .i64 a_2), .sc (.int .i64 a_3), .sc (.int .i64 a_4)]=A8 ContactPoint.enc default (l.set i ⟨⟨a_0_0,a_0_1⟩,a_1,a_2,a_3,a_4⟩):=B1l _ hi rfl
theorem B2n(l:List Row)(i:Nat)(a_0:Int)(a_1:Int)(a_2_0:Int)(a_2_1:Int)(a_3:Int)(a_4:Int)(a_5:Int)(a_6:Int)(a_7:Int)(a_8:Int)(a_9:Int)(a_10:Int)(a_11:Int)(a_12:Int)(hi:i<l.length):(A8 Row.enc default l).set i [.sc (.int .i64 a_0), .sc (.int .i64 a_1), .sc (.int .i64 a_2_0), .sc (.int .i64 a_2_1), .sc (.int .i64 a_3), .sc (.int .i64 a_4), .sc (.int .i64 a_5), .sc (.int .i64 a_6), .sc (.int .i64 a_7), .sc (.int .i64 a_8), .sc (.int .i64 a_9), .sc (.int .i64 a_10), .sc (.int .i64 a_11), .sc (.int .i64 a_12)]=A8 Row.enc default (l.set i ⟨a_0,a_1,⟨a_2_0,a_2_1⟩,a_3,a_4,a_5,a_6,a_7,a_8,a_9,a_10,a_11,a_12⟩):=B1l _ hi rfl
theorem A20(l:List SolverBody)(i:Nat)(a_0_0:Int)(a_0_1:Int)(a_1:Int)(a_2:Int)(a_3:Int)(hi:i<l.length):(A8 SolverBody.enc default l).set i [.sc (.int .i64 a_0_0), .sc (.int .i64 a_0_1), .sc (.int .i64 a_1), .sc (.int .i64 a_2), .sc (.int .i64 a_3)]=A8 SolverBody.enc default (l.set i ⟨⟨a_0_0,a_0_1⟩,a_1,a_2,a_3⟩):=B1l _ hi rfl
theorem B2q(l:List Int)(i:Nat)(a:Int)(hi:i<l.length):(A8 B9 0 l).set i [.sc (.int .i64 a)]=A8 B9 0 (l.set i a):=B1l _ hi rfl
theorem K8(h:p:=by first
 |exact ob_
 |exact And.left (by assumption)
 |((repeat' (with_reducible apply And.intro)) <;> first |omega |assumption |(apply_assumption;exact B6 _ (by omega)) |with_reducible rfl |(simp only[List.length_append];done) |(simp only[List.length_append,maxLen];omega) |(simp only[beq_iff_eq,bne_iff_ne,ne_eq,Bool.or_eq_true,Bool.and_eq_true,decide_eq_true_eq,not_or,Bool.not_eq_true',decide_eq_false_iff_not,Bool.not_eq_true,bne_eq_false_iff_eq,Decidable.not_not]at*;first |omega |(simp only[IntKind.wrap_i64];omega) |exact Int.tmod_nonneg _ (by first |omega |(rw[IntKind.wrap_i64];omega)) |exact Int.tmod_lt_of_pos _ (by omega)) |(rw[IntKind.wrap_i64];omega) |exact ob_ |rfl |(simp_all only[beq_iff_eq,bne_iff_ne,ne_eq,Bool.or_eq_true,Bool.and_eq_true,decide_eq_true_eq,not_or,Bool.not_eq_true',decide_eq_false_iff_not,Bool.not_eq_true,bne_eq_false_iff_eq,Decidable.not_not,Bool.not_eq_false,Bool.not_eq_false',forall_const,true_implies,and_true,true_and,or_self,or_false,false_or,or_true,true_or,and_self,and_false,false_and];omega))):p:=h
variable {n':Nat}
theorem E5h {enc:α->List AV}{d:α}(h:l'=l)(hn:n=l.length)(hn':n'=l'.length):M4 (.dsl z n (L7 enc d l)) (.dsl z n' (L7 enc d l')):=by subst h;subst hn;subst hn';exact I7 _
theorem lE_(h:p:=by first
 |with_reducible rfl
 |(simp only[*,if_true,if_false,eq_self,Bool.false_eq_true,Bool.true_eq_false,not_true_eq_false,not_false_eq_true,reduceCtorEq,H5,S2,A1j,A1e,Bool.and_true,Bool.true_and,Bool.and_false,Bool.false_and,Bool.or_true,Bool.true_or,Bool.or_false,Bool.false_or,Bool.not_true,Bool.not_false,decide_true,decide_false,E4,A2w,A28,A5z,beq_iff_eq,bne_iff_ne,ne_eq,Bool.or_eq_true,Bool.and_eq_true,decide_eq_true_eq,not_or,Bool.not_eq_true',decide_eq_false_iff_not,Bool.not_eq_true,bne_eq_false_iff_eq,Decidable.not_not,List.append_assoc,or_self,or_false,false_or,or_true,true_or,and_self,and_false,false_and];first |done |rfl)):p:=h
theorem lN_(h:p:=by first |with_reducible rfl |omega |(simp only[List.length_append,List.length_cons,List.length_nil];first |done |omega)):p:=h
theorem G31(h:p:=by first
 |exact E5h lE_ lN_ rfl
 |exact A4f (by simp only[*,if_true,if_false,eq_self,Bool.false_eq_true,Bool.true_eq_false,not_true_eq_false,not_false_eq_true,reduceCtorEq,H5,S2,A1j,A1e,Bool.and_true,Bool.true_and,Bool.and_false,Bool.false_and,Bool.or_true,Bool.true_or,Bool.or_false,Bool.false_or,Bool.not_true,Bool.not_false,decide_true,decide_false,E4,A2w,A28,A5z,beq_iff_eq,bne_iff_ne,ne_eq,Bool.or_eq_true,Bool.and_eq_true,decide_eq_true_eq,not_or,Bool.not_eq_true',decide_eq_false_iff_not,Bool.not_eq_true,bne_eq_false_iff_eq,Decidable.not_not,or_self,or_false,false_or,or_true,true_or,and_self,and_false,false_and];first |done |rfl)
 |(simp only[*,if_true,if_false,eq_self,Bool.false_eq_true,Bool.true_eq_false,not_true_eq_false,not_false_eq_true,reduceCtorEq,H5,S2,A1j,A1e,Bool.and_true,Bool.true_and,Bool.and_false,Bool.false_and,Bool.or_true,Bool.true_or,Bool.or_false,Bool.false_or,Bool.not_true,Bool.not_false,decide_true,decide_false,E4,A2w,A28,A5z,beq_iff_eq,bne_iff_ne,ne_eq,Bool.or_eq_true,Bool.and_eq_true,decide_eq_true_eq,not_or,Bool.not_eq_true',decide_eq_false_iff_not,Bool.not_eq_true,bne_eq_false_iff_eq,Decidable.not_not,or_self,or_false,false_or,or_true,true_or,and_self,and_false,false_and];first |done |rfl |omega |(simp only[List.length_set];first |done |omega) |(simp;first |done |omega))):p:=h
theorem G4d(h:p:=by first
 |with_reducible rfl
 |trivial
 |omega
 |exact E5h lE_ lN_ rfl |exact C2n (λ_ _=>rfl) rfl rfl lE_ lN_ rfl |exact D4l (λ_ _=>rfl) rfl rfl lE_ |exact C1y (λ_ _=>rfl) rfl rfl lE_ lN_ rfl |exact D30 (λ_ _=>rfl) rfl rfl lE_ |exact A4f rfl |exact A1y _ rfl rfl |exact A2k _ (by first |omega |(simp only[List.length_set];omega)) rfl rfl |exact C0o (λ_ _=>rfl) rfl rfl |exact E2q |exact C41 (λ_=>rfl)
 |(simp only[*,if_true,if_false,eq_self,Bool.false_eq_true,Bool.true_eq_false,not_true_eq_false,not_false_eq_true,reduceCtorEq,H5,S2,A1j,A1e,Bool.and_true,Bool.true_and,Bool.and_false,Bool.false_and,Bool.or_true,Bool.true_or,Bool.or_false,Bool.false_or,Bool.not_true,Bool.not_false,decide_true,decide_false,E4,A2w,A28,A5z,beq_iff_eq,bne_iff_ne,ne_eq,Bool.or_eq_true,Bool.and_eq_true,decide_eq_true_eq,not_or,Bool.not_eq_true',decide_eq_false_iff_not,Bool.not_eq_true,bne_eq_false_iff_eq,Decidable.not_not,or_self,or_false,false_or,or_true,true_or,and_self,and_false,false_and];first |omega |(simp only[List.length_set];first |done |omega) |(simp;first |done |omega))
 |exact A4f (by simp only[*,if_true,if_false,eq_self,Bool.false_eq_true,Bool.true_eq_false,not_true_eq_false,not_false_eq_true,reduceCtorEq,H5,S2,A1j,A1e,Bool.and_true,Bool.true_and,Bool.and_false,Bool.false_and,Bool.or_true,Bool.true_or,Bool.or_false,Bool.false_or,Bool.not_true,Bool.not_false,decide_true,decide_false,E4,A2w,A28,A5z,beq_iff_eq,bne_iff_ne,ne_eq,Bool.or_eq_true,Bool.and_eq_true,decide_eq_true_eq,not_or,Bool.not_eq_true',decide_eq_false_iff_not,Bool.not_eq_true,bne_eq_false_iff_eq,Decidable.not_not,or_self,or_false,false_or,or_true,true_or,and_self,and_false,false_and];first |done |rfl)
 |(simp only[*,if_true,if_false,eq_self,Bool.false_eq_true,Bool.true_eq_false,not_true_eq_false,not_false_eq_true,reduceCtorEq,H5,S2,A1j,A1e,Bool.and_true,Bool.true_and,Bool.and_false,Bool.false_and,Bool.or_true,Bool.true_or,Bool.or_false,Bool.false_or,Bool.not_true,Bool.not_false,decide_true,decide_false,E4,A2w,A28,A5z,beq_iff_eq,bne_iff_ne,ne_eq,Bool.or_eq_true,Bool.and_eq_true,decide_eq_true_eq,not_or,Bool.not_eq_true',decide_eq_false_iff_not,Bool.not_eq_true,bne_eq_false_iff_eq,Decidable.not_not,or_self,or_false,false_or,or_true,true_or,and_self,and_false,false_and];first |done |exact A2h (λ_ _=>rfl) rfl rfl rfl |exact C2n (λ_ _=>rfl) rfl rfl rfl lN_ rfl |exact D4l (λ_ _=>rfl) rfl rfl rfl |exact C1y (λ_ _=>rfl) rfl rfl rfl lN_ rfl |exact D30 (λ_ _=>rfl) rfl rfl rfl |exact C0o (λ_ _=>rfl) rfl rfl |exact A1y _ rfl rfl |exact A2k _ (by first |omega |(simp only[List.length_set];omega)) rfl rfl)
 |(simp only[*,if_true,if_false,eq_self,Bool.false_eq_true,Bool.true_eq_false,not_true_eq_false,not_false_eq_true,reduceCtorEq,H5,S2,A1j,A1e,Bool.and_true,Bool.true_and,Bool.and_false,Bool.false_and,Bool.or_true,Bool.true_or,Bool.or_false,Bool.false_or,Bool.not_true,Bool.not_false,decide_true,decide_false,E4,A2w,A28,A5z,go_sem,beq_iff_eq,bne_iff_ne,ne_eq,Bool.or_eq_true,Bool.and_eq_true,decide_eq_true_eq,not_or,Bool.not_eq_true',decide_eq_false_iff_not,Bool.not_eq_true,bne_eq_false_iff_eq,Decidable.not_not,or_self,or_false,false_or,or_true,true_or,and_self,and_false,false_and];first |done |with_reducible rfl |((repeat' (with_reducible apply And.intro)) <;> first |with_reducible rfl |trivial |omega |(rw[IntKind.wrap_i64];omega) |exact I7 _ |exact Q8 rfl |exact A4f rfl |exact A1y _ rfl rfl |exact A2k _ (by first |omega |(simp only[List.length_set];omega)) rfl rfl |exact C0o (λ_ _=>rfl) rfl rfl |exact E2q |exact C41 (λ_=>rfl) |(simp only[List.length_tail];omega) |(simp only[List.length_tail,List.length_drop]at*;rw[IntKind.wrap_i64];omega) |exact A3c))
 |(have hE:=E44 (by assumption) (by assumption) (by simp only[*,if_true,if_false,eq_self,Bool.false_eq_true,Bool.true_eq_false,not_true_eq_false,not_false_eq_true,reduceCtorEq,H5,S2,A1j,A1e,Bool.and_true,Bool.true_and,Bool.and_false,Bool.false_and,Bool.or_true,Bool.true_or,Bool.or_false,Bool.false_or,Bool.not_true,Bool.not_false,decide_true,decide_false,beq_iff_eq,bne_iff_ne,ne_eq,Bool.or_eq_true,Bool.and_eq_true,decide_eq_true_eq,not_or,Bool.not_eq_true',decide_eq_false_iff_not,Bool.not_eq_true,bne_eq_false_iff_eq,Decidable.not_not,or_self,or_false,false_or,or_true,true_or,and_self,and_false,false_and];first |done |rfl);simp only[hE, *,if_true,if_false,eq_self,Bool.false_eq_true,Bool.true_eq_false,not_true_eq_false,not_false_eq_true,reduceCtorEq,H5,S2,A1j,A1e,Bool.and_true,Bool.true_and,Bool.and_false,Bool.false_and,Bool.or_true,Bool.true_or,Bool.or_false,Bool.false_or,Bool.not_true,Bool.not_false,decide_true,decide_false,E4,A2w,A28,A5z,go_sem,beq_iff_eq,bne_iff_ne,ne_eq,Bool.or_eq_true,Bool.and_eq_true,decide_eq_true_eq,not_or,Bool.not_eq_true',decide_eq_false_iff_not,Bool.not_eq_true,bne_eq_false_iff_eq,Decidable.not_not,or_self,or_false,false_or,or_true,true_or,and_self,and_false,false_and];first |done |with_reducible rfl |((repeat' (with_reducible apply And.intro)) <;> first |with_reducible rfl |trivial |omega |(rw[IntKind.wrap_i64];omega) |exact I7 _ |exact Q8 rfl |exact A4f rfl |exact A1y _ rfl rfl |exact A2k _ (by first |omega |(simp only[List.length_set];omega)) rfl rfl |exact C0o (λ_ _=>rfl) rfl rfl |exact E2q |exact C41 (λ_=>rfl) |(simp only[List.length_tail];omega) |(simp only[List.length_tail,List.length_drop]at*;rw[IntKind.wrap_i64];omega) |exact A3c))
 |exact A3c
 |(simp_all only[beq_iff_eq,bne_iff_ne,ne_eq,Bool.or_eq_true,Bool.and_eq_true,decide_eq_true_eq,not_or,Bool.not_eq_true',decide_eq_false_iff_not,Bool.not_eq_true,bne_eq_false_iff_eq,Decidable.not_not,Bool.not_eq_false,Bool.not_eq_false',forall_const,true_implies,and_true,true_and,if_true,if_false,eq_self,not_true_eq_false,not_false_eq_true,reduceCtorEq,E4,H5,S2,A2w,A28,A5z,A1j,A1e,or_self,or_false,false_or,or_true,true_or,and_self,and_false,false_and];first |done |with_reducible rfl |omega |exact I7 _ |((repeat' (with_reducible apply And.intro)) <;> first |with_reducible rfl |exact I7 _ |exact Q8 rfl) |exact A2h (λ_ _=>rfl) rfl rfl rfl |exact C2n (λ_ _=>rfl) rfl rfl rfl lN_ rfl |exact D4l (λ_ _=>rfl) rfl rfl rfl |exact C1y (λ_ _=>rfl) rfl rfl rfl lN_ rfl |exact D30 (λ_ _=>rfl) rfl rfl rfl |exact C0o (λ_ _=>rfl) rfl rfl |exact A1y _ rfl rfl |exact A2k _ (by first |omega |(simp only[List.length_set];omega)) rfl rfl |rfl)):p:=h
theorem C4q {k:IntKind}{a b c d v i:Int}(h:0<=i/\i<4):S3 [AV.sc (.int k a), .sc (.int k b), .sc (.int k c), .sc (.int k d)] (0+i.toNat*1) [.sc (.int k v)]=
  [.sc (.int k (if i=0 then v else a)), .sc (.int k (if i=1 then v else b)), .sc (.int k (if i=2 then v else c)), .sc (.int k (if i=3 then v else d))]:=by
 have:i=0\/i=1\/i=2\/i=3:=by omega
 rcases this with rfl |rfl |rfl |rfl <;> simp[S3]
theorem J1(h:p:=by
 (simp(maxSteps:=1000000) only[go_sem,C0,D2,B3,D8];try(simp(disch:=(first |omega |(simp only[List.length_set];omega) |(apply_assumption;done))) only[B2k,B0d,A8n,A5g,A0q,B2n,A20,B2q,A4q,C4q];try simp(maxSteps:=1000000) only[go_sem,C0,D2,B3,D8]))
 repeat' (first
  |((with_reducible refine And.intro ?_ ?_);focus (first |exact K8 |exact ie_ |exact G31 |(first |with_reducible rfl |trivial |omega |(rw[IntKind.wrap_i64];omega) |exact I7 _ |exact Q8 rfl |exact A4f rfl |exact A1y _ rfl rfl |exact A2k _ (by first |omega |(simp only[List.length_set];omega)) rfl rfl |exact C0o (λ_ _=>rfl) rfl rfl |exact E2q |exact C41 (λ_=>rfl) |(simp only[List.length_tail];omega) |(simp only[List.length_tail,List.length_drop]at*;rw[IntKind.wrap_i64];omega) |exact A3c)))
  |((with_reducible refine it_ (λhc_=> ?_) (λhc_=> ?_)) <;> (have hd_:=hc_;try simp only[beq_iff_eq,bne_iff_ne,ne_eq,Bool.or_eq_true,Bool.and_eq_true,decide_eq_true_eq,not_or,Bool.not_eq_true',decide_eq_false_iff_not,Bool.not_eq_true,bne_eq_false_iff_eq,Decidable.not_not]at hd_))
  |(with_reducible refine gd_ ?_;with_reducible refine A0 (by apply_assumption <;> first |exact K8 |(apply_assumption <;> first |assumption |exact K8)) rfl ?_;(simp(maxSteps:=1000000) only[go_sem,C0,D2,B3,D8];try(simp(disch:=(first |omega |(simp only[List.length_set];omega) |(apply_assumption;done))) only[B2k,B0d,A8n,A5g,A0q,B2n,A20,B2q,A4q,C4q];try simp(maxSteps:=1000000) only[go_sem,C0,D2,B3,D8])))
  |((with_reducible refine gD_ ?_);refine E57 ev_ K8 (by apply_assumption <;> first |exact K8 |(apply_assumption <;> first |assumption |exact K8)) (by rfl) ?_;(simp(maxSteps:=1000000) only[go_sem,C0,D2,B3,D8];try(simp(disch:=(first |omega |(simp only[List.length_set];omega) |(apply_assumption;done))) only[B2k,B0d,A8n,A5g,A0q,B2n,A20,B2q,A4q,C4q];try simp(maxSteps:=1000000) only[go_sem,C0,D2,B3,D8])))
  |((with_reducible refine gD_ ?_);refine E67 ev_ K8 (by apply_assumption <;> first |exact K8 |(apply_assumption <;> first |assumption |exact K8)) (by rfl) nd_ ?_;(simp(maxSteps:=1000000) only[go_sem,C0,D2,B3,D8];try(simp(disch:=(first |omega |(simp only[List.length_set];omega) |(apply_assumption;done))) only[B2k,B0d,A8n,A5g,A0q,B2n,A20,B2q,A4q,C4q];try simp(maxSteps:=1000000) only[go_sem,C0,D2,B3,D8])))
  |((with_reducible refine gD_ ?_);refine K0 ev_ K8 (by apply_assumption <;> first |exact K8 |(apply_assumption <;> first |assumption |exact K8)) ?_;(simp(maxSteps:=1000000) only[go_sem,C0,D2,B3,D8];try(simp(disch:=(first |omega |(simp only[List.length_set];omega) |(apply_assumption;done))) only[B2k,B0d,A8n,A5g,A0q,B2n,A20,B2q,A4q,C4q];try simp(maxSteps:=1000000) only[go_sem,C0,D2,B3,D8])))
  |(with_reducible refine gw_ ?_;apply_assumption)
  |((with_reducible refine hb_ ?_);intros;simp only[go_sem,C0,D2,B3,D8,H5,A2w])
  |((with_reducible refine gk_ ?_);refine F1g ev_ ev_ ev_ ns_ ns_ ns_ ?_;(simp(maxSteps:=1000000) only[go_sem,C0,D2,B3,D8];try(simp(disch:=(first |omega |(simp only[List.length_set];omega) |(apply_assumption;done))) only[B2k,B0d,A8n,A5g,A0q,B2n,A20,B2q,A4q,C4q];try simp(maxSteps:=1000000) only[go_sem,C0,D2,B3,D8])))
  |((with_reducible refine gr_ ?_);(try simp only[*,if_true,if_false,eq_self,Bool.false_eq_true,Bool.true_eq_false,not_true_eq_false,not_false_eq_true,reduceCtorEq,H5,S2,A1j,A1e,Bool.and_true,Bool.true_and,Bool.and_false,Bool.false_and,Bool.or_true,Bool.true_or,Bool.or_false,Bool.false_or,Bool.not_true,Bool.not_false,decide_true,decide_false,beq_iff_eq,bne_iff_ne,ne_eq,Bool.or_eq_true,Bool.and_eq_true,decide_eq_true_eq,not_or,Bool.not_eq_true',decide_eq_false_iff_not,Bool.not_eq_true,bne_eq_false_iff_eq,Decidable.not_not,or_self,or_false,false_or,or_true,true_or,and_self,and_false,false_and]);refine E0s ev_ ev_ ev_ ev_ rfl rfl ns_ ns_ ns_ ?_;(simp(maxSteps:=1000000) only[go_sem,C0,D2,B3,D8];try(simp(disch:=(first |omega |(simp only[List.length_set];omega) |(apply_assumption;done))) only[B2k,B0d,A8n,A5g,A0q,B2n,A20,B2q,A4q,C4q];try simp(maxSteps:=1000000) only[go_sem,C0,D2,B3,D8])))
  |exact G4d)):p:=h
section
variable {P:Program}
theorem A5.ren_id: ∀(o:A5),o.ren id=o
 | .box cs=>by simp only[A5.ren,M9]
 | .arr .. =>rfl
 | .frz .. =>rfl
 | .frzb _=>rfl
 | .map .. =>rfl
 | .mapS .. =>rfl
 | .arrP .. =>rfl
 | .gone=>rfl
theorem D1w(O:List (Nat×A5)):A3n id O=O:=by
 unfold A3n
 conv=>rhs;rw[<-List.map_id O]
 refine List.map_congr_left λp _=> ?_;simp only[A5.ren_id,id]
end
section
variable {P:Program}
end
end Go.Abs
end
noncomputable section
namespace Go.Abs
structure RfT where
 nt:Nat
 as0:List AOper
 as1:List AOper
 as2:List AOper
 gx:Nat
 as3:List AOper
 as4:List AOper
 rvs:List (Nat×Option (Option Nat))
section
variable {P:Program} {N:Nat} {σ:St} {a:Act} {w:World} {ob:Place} {G:Nat->Prop}
variable {m:Nat->Option A5}
theorem D4.blks_lt(hs:D4 G w ob m){b:Nat}(h:O6 ob b):b<w.heap.size:=by
 obtain⟨id,i,hi,hb⟩:=h;cases hm:m id with
 |none=>rw[(hs.dom id).1 hm]at hi;cases hi
 |some o=>exact(hs.own id o i hm hi).has_lt hb
theorem Sim.frame(hs:Sim N σ a w ob G){w':World}(h1:w.heap.size<=w'.heap.size)(h2: ∀b,b<w.heap.size->(G b\/O6 ob b)->w'.heap[b]? =w.heap[b]?):Sim N σ a w' ob G:=⟨hs.size,hs.defers,hs.objs.frame h1 h2,λt av ht=>let⟨v,h3,h4⟩:=hs.env t av ht;⟨v,h3,h4.ext (λ_ h=>h) (λb hb=>h2 b (hs.objs.lt b hb) (.inl hb)) (C7.refl ob)⟩,hs.env0⟩
end
end Go.Abs
namespace Go.Abs
end Go.Abs
end
noncomputable section
namespace Go.Abs
section
variable {P:Program} {N:Nat} {K:List Nat}
def D6o(o:AOper)(σ:St) [Q:ContR]:Prop:=
 o.guard=none/\match o.op with
 | .append z bytes x y=>match σ.e x,σ.e y with
   |some (.sl id off n tot),some v=>match σ.objs id,U8 σ.objs z v with
    |some (.arr z' s),some (p,q)=>z'=z/\off=0/\A63 σ true (AOp.append z bytes x y).ops/\(p/\tot=s.n/\n+q.n<=s.n/\(n+q.n)*bytes<=140737488355328/\n+q.n<=maxLen)/\
      Ri true ⟨some (.sl id 0 (n+q.n) tot),[(id, .arr z (s.over n q))]⟩
    |_,_=>False
   |_,_=>False
 | .slice z x lo hi mx=>match σ.e x,Y3 σ.e lo,Y3 σ.e hi,Y3 σ.e mx with
   |some (.sl id _ n tot),some l,some h,some (some k)=>match σ.objs id with
    |some (.arr z' s)=>z'=z/\A63 σ true (AOp.slice z x lo hi mx).ops/\(tot=s.n/\0<=l.getD 0/\l.getD 0<=h.getD n/\h.getD n<=n/\h.getD n<=k/\k<=n/\h.isSome)/\Ri true ⟨none,[]⟩
    |_=>False
   |some (.sl id off n tot),some l,some (some h),some none=>match σ.objs id with
    |some (.arr z' s)=>z'=z/\off=0/\A63 σ true (AOp.slice z x lo hi mx).ops/\(tot=s.n/\0<=l.getD 0/\l.getD 0<=h/\h<=tot)/\Ri true ⟨some (.sl id (l.getD 0).toNat (h-l.getD 0).toNat tot),[]⟩
    |_=>False
   |_,_,_,_=>False
 |_=>False
variable (P)
def F1r:Nat->List AOper->(St->Prop)->St->Prop
 |_,[],Q,σ=>Q σ
 |0,o::os,Q,σ=> @D6o o σ ⟨λ_ r=>A40 P os Q (σ.put o.dst true r)⟩
 |k+1,o::os,Q,σ=>wop P o σ λb r=>F1r k os Q (σ.put o.dst b r)
def F0j:Nat->List AOper->List (List Nat×List Nat)->(St->Prop)->St->Prop
 |_,[],_,Q,σ=>Q σ
 |0,o::os,seen,Q,σ=> @D6o o σ ⟨λ_ r=>A4v o.op r/\A3o seen (A1d σ o) (Q4 r) o.chk/\C1s P os (seen++ [(A1d σ o,Q4 r)]) Q (σ.put o.dst true r)⟩
 |k+1,o::os,seen,Q,σ=>wop P o σ λb r=>A4v o.op r/\A3o seen (A1d σ o) (Q4 r) o.chk/\F0j k os (seen++ [(A1d σ o,Q4 r)]) Q (σ.put o.dst b r)
variable {P}
def WsI(P:Program)(k:Nat)(l:List AOper) [Q:ContS](σ:St):Prop:=F1r P k l Q.q σ
def WnI(P:Program)(k:Nat)(l:List AOper)(seen:List (List Nat×List Nat)) [Q:ContS](σ:St):Prop:=F0j P k l seen Q.q σ
@[reducible] def F69(P:Program)(k:Nat)(os:List AOper)(Q:ContS)(d:Option Nat)(σ:St):ContR:=⟨λb r=>F1r P k os Q.q (σ.put d b r)⟩
@[reducible] def F7l(P:Program)(k:Nat)(o:AOper)(os:List AOper)(seen:List (List Nat×List Nat))(Q:ContS)(σ:St):ContR:=⟨λb r=>A4v o.op r/\A3o seen (A1d σ o) (Q4 r) o.chk/\F0j P k os (seen++ [(A1d σ o,Q4 r)]) Q.q (σ.put o.dst b r)⟩
@[reducible] def F7n(P:Program)(os:List AOper)(Q:ContS)(d:Option Nat)(σ:St):ContR:=⟨λ_ r=>A40 P os Q.q (σ.put d true r)⟩
@[reducible] def F7m(P:Program)(o:AOper)(os:List AOper)(seen:List (List Nat×List Nat))(Q:ContS)(σ:St):ContR:=⟨λ_ r=>A4v o.op r/\A3o seen (A1d σ o) (Q4 r) o.chk/\C1s P os (seen++ [(A1d σ o,Q4 r)]) Q.q (σ.put o.dst true r)⟩
variable {σ:St} {o:AOper} {os:List AOper}
theorem F6n {Q:ContS}: @WsI P 0 (o::os) Q σ= @D6o o σ (F7n P os Q o.dst σ):=rfl
variable {k:Nat}
theorem F6h {Q:ContS}: @WsI P (k+1) (o::os) Q σ= @Woi P o σ (F69 P k os Q o.dst σ):=rfl
variable {seen:List (List Nat×List Nat)}
theorem F6b {Q:ContS}: @WnI P 0 (o::os) seen Q σ= @D6o o σ (F7m P o os seen Q σ):=rfl
theorem F5l {Q:ContS}: @WnI P (k+1) (o::os) seen Q σ= @Woi P o σ (F7l P k o os seen Q σ):=rfl
variable {r:Res} {b:Bool}
theorem F9x {Q:ContS}{d:Option Nat}: @Ri (F69 P k os Q d σ) b r= @WsI P k os Q (σ.put d b r):=rfl
theorem F9y {Q:ContS}{d:Option Nat}: @Ri (F7n P os Q d σ) b r= @Wsi P os Q (σ.put d true r):=rfl
theorem F82 {Q:ContS}:
  @Ri (F7l P k o os seen Q σ) b r=(A4v o.op r/\A3o seen (A1d σ o) (Q4 r) o.chk/\ @WnI P k os (seen++ [(A1d σ o,Q4 r)]) Q (σ.put o.dst b r)):=rfl
theorem F9a {Q:ContS}:
  @Ri (F7m P o os seen Q σ) b r=(A4v o.op r/\A3o seen (A1d σ o) (Q4 r) o.chk/\ @Wni P os (seen++ [(A1d σ o,Q4 r)]) Q (σ.put o.dst true r)):=rfl
end
attribute [go_sem] F6n F6h F6b F5l F9x F9y F82 F9a D6o
section
variable {P:Program} {N:Nat} {K:List Nat} {L:List (Nat×List Bool)} {f:FuncId} {fn:Func} {ac a b:ACode} {args rs:List AV} {r:AV} {O O':List (Nat×A5)} {ts:List Nat} {Q:Cont} {σ:St}
theorem F6q(hm:P.follows .mixedOrders=true)(hL:okE P L=true)(hf:P.funcs[f]? =some fn)(hc:M6 P L fn.ntmps (fn.body.getD .skip)=some ac)(hts:A39 fn.results.toList=some ts)
  (h: @Wpi P fn.ntmps [] ac (D9u ts [r]) (Z5 args []))(hb:fn.body=some (fn.body.getD .skip):=by kernel_rfl)(hname:(fn.name != "runtime.NumGoroutine")=true:=by kernel_rfl)(hnd:ts.Nodup:=by decide)(hl:(args.length.ble fn.ntmps)=true:=by kernel_rfl):
  A1 P f args [] r []:=C72 (ac:= .mark ac) hm hf hb hname (have e:D9 P fn.ntmps (fn.body.getD .skip)=some ac.strip:=cs2 hL hc;e) hts hnd hl h
theorem E9s(hm:P.follows .mixedOrders=true)(hL:okE P L=true)(hf:P.funcs[f]? =some fn)(hc:M6 P L fn.ntmps (fn.body.getD .skip)=some ac)(hts:A39 fn.results.toList=some ts)
  (h: @Wpi P fn.ntmps (O.map (·.1)) ac (C4z (O.map (·.1)) ts [r] O') (Z5 args O))(hb:fn.body=some (fn.body.getD .skip):=by kernel_rfl)(hname:(fn.name != "runtime.NumGoroutine")=true:=by kernel_rfl)(hnd:ts.Nodup:=by decide)(hl:(args.length.ble fn.ntmps)=true:=by kernel_rfl):
  A1 P f args O r O':=B73 (ac:= .mark ac) hm hf hb hname (have e:D9 P fn.ntmps (fn.body.getD .skip)=some ac.strip:=cs2 hL hc;e) hts hnd hl h
theorem G3d(hm:P.follows .mixedOrders=true)(hL:okE P L=true)(hf:P.funcs[f]? =some fn)(hc:M6 P L fn.ntmps (fn.body.getD .skip)=some ac)(hts:A39 fn.results.toList=some ts)
  (h: @Wpi P fn.ntmps (O.map (·.1)) ac (C4z (O.map (·.1)) ts rs O') (Z5 args O))(hp:A49 rs= .tup rs:=by rfl)(hb:fn.body=some (fn.body.getD .skip):=by kernel_rfl)(hname:(fn.name != "runtime.NumGoroutine")=true:=by kernel_rfl)(hnd:ts.Nodup:=by decide)(hl:(args.length.ble fn.ntmps)=true:=by kernel_rfl):
  A1 P f args O (.tup rs) O':=hp▸B73 (ac:= .mark ac) hm hf hb hname (have e:D9 P fn.ntmps (fn.body.getD .skip)=some ac.strip:=cs2 hL hc;e) hts hnd hl h
theorem F67(N:Nat)(rvs:List (Nat×Option (Option Nat)))(hm:P.follows .mixedOrders=true)(hL:okE P L=true)(hf:P.funcs[f]? =some fn)(hc:M6 P L fn.ntmps (fn.body.getD .skip)=some ac)
  (h: @Wpi P N [] ac (C00 N rvs rs) (Z5 args []))(hp:A49 rs= .tup rs:=by rfl)(hN:fn.ntmps=N:=by kernel_rfl)(hts:A5v P fn.results.toList=some rvs:=by kernel_rfl)(hb:fn.body=some (fn.body.getD .skip):=by kernel_rfl)(hname:(fn.name != "runtime.NumGoroutine")=true:=by kernel_rfl)(hlt:(rvs.all λp=>p.1.blt N)=true:=by decide)(hl:(args.length.ble N)=true:=by kernel_rfl):
  A1 P f args [] (.tup rs) []:=hp▸B5w (ac:= .mark ac) hm hf hb hname (have e:D9 P fn.ntmps (fn.body.getD .skip)=some ac.strip:=cs2 hL hc;e) hN hts hlt hl h
@[reducible] def wkC(K:List Nat)(T:H7)(O:List (Nat×A5)):Cont:=⟨λo τ=>match o with | .normal=>Y2 K τ T O |_=>False⟩
variable {T:H7}
theorem G2q: @Qi (wkC K T O) .normal σ=Y2 K σ T O:=rfl
theorem C3(T:H7)(O:List (Nat×A5))(h1: @Wpi P N K a (wkC K T O) σ)(h2: @Wpi P N K b Q (A1x T O)): @Wpi P N K (.seq a b) Q σ:=
 Wp.seq (Wp.mono (show Wp P N K a (wkC K T O).q σ from h1) λo τ ho=>by
  cases o with
  |normal=>exact Wp.weak ho h2
  |exit i=>exact ho.elim
  |ret=>exact ho.elim)
variable {i:Nat}
theorem A29(h: @Wpi P N K a (D00 i Q) σ): @Wpi P N K (.block i a) Q σ:=Wp.block h
end
attribute [go_sem] G2q
theorem E5w(s t:Sq):(s.app t).n=s.n+t.n:=rfl
variable {α:Type} {l:List α}
theorem E88 {enc:α->List AV}{d:α}:(A8 enc d l).n=l.length:=rfl
attribute [go_sem] E5w E88
variable {z n:Nat} {g:Nat->List AV} {n':Nat}
theorem F3e {enc:α->List AV}{d:α}{L:List α}(x:α)(hg:g 0=enc x)(hL:L=l++ [x])(hn:n=l.length+1)(hn':n'=L.length):
  M4 (.dsl z n ((A8 enc d l).app ⟨1,g⟩).g) (.dsl z n' (L7 enc d L)):=by
 subst hn;subst hn';subst hL;rw[A1z];refine⟨rfl,by simp,λi hi=> ?_⟩;have h:=(A1y (ρ:=id) (z:=z) (d:=d) (l:=l) x hg rfl).2.2 i (by simpa[E5w,E88]using hi);exact h
variable {p:Prop}
theorem bO_(h:p:=by first |exact K8 |((repeat' (with_reducible apply And.intro)) <;> first |omega |(simp only[IntKind.wrap_i64];omega) |(exact Int.tmod_nonneg _ (by first |omega |(rw[IntKind.wrap_i64];omega))) |(exact Int.tmod_lt_of_pos _ (by omega)) |(intro hob0;(repeat' (with_reducible apply And.intro)) <;> first |omega |(exact Int.tmod_nonneg _ (by first |omega |(rw[IntKind.wrap_i64];omega))) |(exact Int.tmod_lt_of_pos _ (by omega))) |trivial |assumption |(simp only[maxLen];omega) |(intro hob;first |omega |(simp only[Bool.and_eq_true,Bool.or_eq_true,decide_eq_true_eq,Bool.not_eq_true',decide_eq_false_iff_not,Bool.or_eq_false_iff]at hob;first |omega |(simp only[IntKind.wrap_i64];omega)) |(simp only[hob,Bool.not_false,Bool.not_true,Bool.true_and,Bool.and_true,true_and,and_true,imp_self,implies_true];done) |(simp[hob];done) |(simp_all;done) |(simp_all;omega)))):p:=h
theorem eO_(h:p:=by((try dsimp only);(repeat' (with_reducible apply And.intro)) <;> first |with_reducible rfl |trivial |(rw[IntKind.wrap_i64];omega) |omega |(simp only[List.length_append,List.length_cons,List.length_nil];done) |rfl |exact Q8 rfl |exact A4f rfl |(simp only[go_sem,↓reduceIte,Nat.reduceEqDiff,reduceCtorEq,Nat.reduceAdd,Nat.reduceLeDiff,Nat.reduceMul,Nat.reduceSub,Int.reduceToNat,C0,D2,B3,D8];done) |(simp_all;done) |(simp only[decide_eq_false_iff_not,Bool.not_eq_false,decide_eq_true_eq]at*;omega) |(intro hob;simp only[hob,Bool.not_false,Bool.not_true,Bool.true_and,Bool.and_true,true_and,and_true,imp_self,implies_true];done) |(intro hob;simp[hob];done) |((repeat' (with_reducible apply And.intro)) <;> first |omega |(simp only[IntKind.wrap_i64];omega) |(exact Int.tmod_nonneg _ (by first |omega |(rw[IntKind.wrap_i64];omega))) |(exact Int.tmod_lt_of_pos _ (by omega)) |(intro hob0;(repeat' (with_reducible apply And.intro)) <;> first |omega |(exact Int.tmod_nonneg _ (by first |omega |(rw[IntKind.wrap_i64];omega))) |(exact Int.tmod_lt_of_pos _ (by omega))) |trivial |assumption |(simp only[maxLen];omega) |(intro hob;first |omega |(simp only[Bool.and_eq_true,Bool.or_eq_true,decide_eq_true_eq,Bool.not_eq_true',decide_eq_false_iff_not,Bool.or_eq_false_iff]at hob;first |omega |(simp only[IntKind.wrap_i64];omega)) |(simp only[hob,Bool.not_false,Bool.not_true,Bool.true_and,Bool.and_true,true_and,and_true,imp_self,implies_true];done) |(simp[hob];done) |(simp_all;done) |(simp_all;omega))))):p:=h
variable {σ:St} {O:List (Nat×A5)} {rs:List AV} {K ts:List Nat}
theorem V3(md:List C07)(ρs:List (Nat×Nat))(A:List Nat)(h4:A2v σ (A6 ρs) A O (B8v ts md rs) [] λwr=>B3k (wrm σ.objs wr) (A6 ρs) A O O)
  (hm:md.length=ts.length:=by rfl)(hr:rs.length=ts.length:=by rfl)(h1:(O.map (·.1)).Nodup:=by simp[go_sem])(h2:(((O.map (·.1)).filter λi=> !A.contains i).map (A6 ρs)).Nodup:=by simp[A6,go_sem])(h3: ∀k∈K,k∉A/\A6 ρs k=k/\(ofL O k).isSome:=by simp[go_sem,A6]):A8g K σ ts rs O:=C6 md ρs A hm hr h1 h2 h3 h4
variable {T:H7}
theorem B8(ρs:List (Nat×Nat))(A:List Nat)(h4:A2v σ (A6 ρs) A O T [] λwr=>B3k (wrm σ.objs wr) (A6 ρs) A O O)(h1:(O.map (·.1)).Nodup:=by simp[go_sem])(h2:(((O.map (·.1)).filter λi=> !A.contains i).map (A6 ρs)).Nodup:=by simp[A6,go_sem])(h3: ∀k∈K,k∉A/\A6 ρs k=k/\(ofL O k).isSome:=by simp[go_sem,A6]):Y2 K σ T O:=B5 ρs A h1 h2 h3 h4
def mdA:Nat->C07
 |0=> .adopt
 |_+1=> .share
theorem F49:mdA 0= .adopt:=rfl
theorem F5c(i:Nat):mdA (i+1)= .share:=rfl
attribute [go_sem] F49 F5c
theorem eE_(h:p:=by
  (repeat' (with_reducible apply And.intro)) <;> first
    |with_reducible rfl |trivial |rfl |exact I7 _ |exact Q8 rfl |exact A4f rfl |exact⟨rfl,rfl,λ_ _=>L3 _⟩ |(rw[IntKind.wrap_i64];omega) |omega |exact F3e _ rfl rfl rfl rfl |exact A1y _ rfl rfl |assumption |(simp only[maxLen];omega) |(simp only[List.length_append,List.length_cons,List.length_nil];omega) |(simp;done)):p:=h
theorem bE_(h:p:=by(repeat' (with_reducible apply And.intro)) <;> first |omega |(rw[IntKind.wrap_i64];omega) |(simp only[maxLen];omega) |trivial):p:=h
section
variable {P:Program} {G:Nat->Prop} {w:World} {ob:Place} {m:Nat->Option A5}
variable {av:AV}
theorem AV.flat_of_pure(h:av.pure=true):av.flat=true:=by cases av <;> first |exact h |simp[AV.pure]at h
end
section
variable {P:Program} {N:Nat}
variable {a:Act} {next:Act->World->Prop}
theorem F1d {o:Oper}{Q:Exit->Act->World->Prop}{rr:Nat}{r:Result Next}(h:o.upon P a next Q r):o.uponIn (Fence.wide.inRound rr) n P a next Q r:=by
 unfold Oper.upon at h;unfold Oper.uponIn;split at h
 ·exact h
 ·exact h
 ·exact h
 ·refine⟨λh=>by simp[Fence.wide]at h,?_⟩;have h2:CallsIn (Fence.wide.inRound rr) (n-1) P _ _ _ _:=(callsIn_wide (n:=n-1)).2 h;omega
 ·refine⟨λh=>by simp[Fence.wide]at h,λc cs _=> ?_⟩;obtain⟨v,w',r,s⟩:=h c cs;exact⟨v,w',r,stepsIn_wide.2 s⟩
 ·exact h
 ·exact h.elim
variable {w:World}
theorem E9r {o:Oper}{Q:Exit->Act->World->Prop}{rr:Nat}(hd: ∀c,o.op≠ .defer c)(h:o.wp P a w next Q):o.wpIn (Fence.wide.inRound rr) n P a w next Q:=by
 refine⟨λ_ _=>trivial,?_⟩;show o.uponIn (Fence.wide.inRound rr) n P a next Q ((o.semAt (some rr) a.eval).run P w)
 rw[Oper.semAt_eq _ _ _ hd];exact F1d h
theorem D7g {ops:Array Oper}{Q:St->Prop}{R:Exit->Act->World->Prop}{rr n:Nat}: ∀(l:List Oper) (as:List AOper) (k:Nat) (σ:St) (a:Act) (w:World) (ob:Place) (G:Nat->Prop),
  (∀o∈l,∀c,o.op≠ .defer c)->T4 P N ops l=some as->(∀i o,l[i]? =some o->ops[k+i]? =some o)->Sim N σ a w ob G->A40 P as Q σ->
  (∀τ a' w' ob' G',Q τ->Sim N τ a' w' ob' G'->Fr G w ob G' w' ob'->C7 ob ob'->R .normal a' w')->
  wpOpsIn (Fence.wide.inRound rr) n P ops R (List.range' k l.length) a w
 | [],as,k,σ,a,w,ob,G,_,hc,hl,hs,h,hQ=>by simp only[T4,Option.some.injEq]at hc;subst hc;exact hQ σ a w ob G h hs (Fr.refl G w ob) (C7.refl ob)
 |o::l,as,k,σ,a,w,ob,G,hnd,hc,hl,hs,h,hQ=>by
  simp only[T4]at hc;split at hc
  case h_2=>cases hc
  rename_i ao as' h1 h2;simp only[Option.some.injEq]at hc;subst hc;obtain⟨b,r,hd,hk⟩:=C5u h;have ho:ops[k]? =some o:=by simpa using hl 0 o (by simp)
  simp only[List.length_cons,List.range'_succ];simp only[wpOpsIn,ho];have:=D1g (K:=wpOpsIn (Fence.wide.inRound rr) n P ops R (List.range' (k+1) l.length)) (Q:=R) h1 hs hd (λa' w' ob' G' s f e=>D7g l as' (k+1) _ a' w' ob' G' (λo ho=>hnd o (List.mem_cons_of_mem _ ho)) h2
   (λi o' hi=>by have:=hl (i+1) o' (by simpa using hi);grind) s hk
   (λτ a'' w'' ob'' G'' q s' f' e'=>hQ τ a'' w'' ob'' G'' q s' (f.trans f') (e.trans e')))
  by_cases hw:Region.wanted o (yielded ops a.tmps)=true
  ·rw[if_pos hw]at this⊢;exact E9r (hnd o (List.mem_cons_self ..)) this
  ·rw[if_neg hw]at this⊢;exact⟨λ_ _=>trivial,this⟩
def F4l(o:Oper):Bool:=match o.op with | .defer _=>false |_=>true
def A2z:Code->Bool
 | .region _ ops draw=>ops.toList.all F4l&& !draw
 | .seq a b=>A2z a&&A2z b
 | .cond _ a b=>A2z a&&A2z b
 | .skip=>true
 | .block _ a=>A2z a
 |_=>false
def plA:ACode->Bool
 | .region _ _=>true
 | .seq a b=>plA a&&plA b
 | .cond _ a b=>plA a&&plA b
 | .block _ a=>plA a
 | .skip=>true
 |_=>false
theorem B5e {rr n:Nat}{K:List Nat}: ∀(c:Code) (ac:ACode) {Q:Out->St->Prop} {σ:St} {a:Act} {w:World} {ob:Place} {G:Nat->Prop} {R:Exit->Act->World->Prop},
  A2z c=true->plA ac=true->D9 P N c=some ac.strip->Sim N σ a w ob G->W P N K ac Q σ->
  (∀τ a' w' ob' G',Q .normal τ->Sim N τ a' w' ob' G'->Fr G w ob G' w' ob'->C7 ob ob'->R .normal a' w')->c.wpIn (Fence.wide.inRound rr) n P R a w
 | .skip,ac,Q,σ,a,w,ob,G,R,_,hp,hc,hs,h,hR=>by cases ac <;> simp only[D9,ACode.strip,Option.some.injEq,reduceCtorEq,plA]at hc hp;exact wpIn_skip (hR σ a w ob G h hs (Fr.refl G w ob) (C7.refl ob))
 | .region i ops draw,ac,Q,σ,a,w,ob,G,R,hn,hp,hc,hs,h,hR=>by
   simp only[A2z,Bool.and_eq_true,Bool.not_eq_true',List.all_eq_true]at hn;obtain⟨hn,rfl⟩:=hn;simp only[D9,B0o]at hc;cases ac with
   |region d os=>
    simp only[ACode.strip]at hc;split at hc
    ·rename_i as has;simp only[Option.some.injEq,ACode.region.injEq]at hc;obtain⟨rfl,rfl⟩:=hc;split at has
     ·rename_i as' hcop;simp only[Bool.false_eq_true,if_false,Option.some.injEq]at has;subst has;refine wpIn_region ?_;have:=D7g (rr:=rr) (n:=n) (Q:=Q .normal) (R:=R) ops.toList as' 0 σ a w ob G (λo ho c e=>by have:=hn o ho;simp[F4l,e]at this) hcop (λi o hi=>by simpa using hi) hs h hR;rw[List.range_eq_range'];simpa using this
     ·cases has
    ·cases hc
   |_=>
    simp only[plA,Bool.false_eq_true]at hp
    all_goals((repeat' split at hc) <;> simp[ACode.strip]at hc)
 | .seq x y,ac,Q,σ,a,w,ob,G,R,hn,hp,hc,hs,h,hR=>by
   simp only[A2z,Bool.and_eq_true]at hn;simp only[D9]at hc;cases ac with
   |seq x' y'=>
    simp only[plA,Bool.and_eq_true]at hp;simp only[ACode.strip]at hc;split at hc
    ·rename_i x1 y1 h1 h2;simp only[Option.some.injEq,ACode.seq.injEq]at hc;obtain⟨rfl,rfl⟩:=hc;refine wpIn_seq (B5e x x' hn.1 hp.1 h1 hs h λτ a1 w1 ob1 G1 q1 s1 f1 e1=> ?_);exact B5e y y' hn.2 hp.2 h2 s1 q1 λτ' a2 w2 ob2 G2 q2 s2 f2 e2=>hR τ' a2 w2 ob2 G2 q2 s2 (f1.trans f2) (e1.trans e2)
    ·cases hc
   |_=>
    simp only[plA,Bool.false_eq_true]at hp
    all_goals((repeat' split at hc) <;> simp[ACode.strip]at hc)
 | .cond c x y,ac,Q,σ,a,w,ob,G,R,hn,hp,hc,hs,h,hR=>by
   simp only[A2z,Bool.and_eq_true]at hn;simp only[D9]at hc;cases ac with
   |cond k x' y'=>
    simp only[plA,Bool.and_eq_true]at hp;simp only[ACode.strip]at hc;split at hc
    ·rename_i k1 x1 y1 hk h1 h2;simp only[Option.some.injEq,ACode.cond.injEq]at hc;obtain⟨rfl,rfl,rfl⟩:=hc;simp only[W]at h;split at h
     ·rename_i t ht;have hv:a.eval c= .bool t:=by
       have:=hs.opRel c k1 (.sc (.bool t)) hk (by unfold St.e';rw[ht]);exact this.sc_eq
      refine wpIn_cond hv ?_;cases t with
      |true=>exact B5e x x' hn.1 hp.1 h1 hs (by simpa using h) hR
      |false=>exact B5e y y' hn.2 hp.2 h2 hs (by simpa using h) hR
     ·exact h.elim
    ·cases hc
   |_=>
    simp only[plA,Bool.false_eq_true]at hp
    all_goals((repeat' split at hc) <;> simp[ACode.strip]at hc)
 | .block id x,ac,Q,σ,a,w,ob,G,R,hn,hp,hc,hs,h,hR=>by
   simp only[A2z]at hn;simp only[D9]at hc;cases ac with
   |block k x'=>
    simp only[plA]at hp;simp only[ACode.strip]at hc;split at hc
    ·rename_i x1 h1;simp only[Option.some.injEq,ACode.block.injEq]at hc;obtain⟨rfl,rfl⟩:=hc;exact wpIn_block (B5e x x' hn hp h1 hs h λτ' a2 w2 ob2 G2 q2 s2 f2 e2=>hR τ' a2 w2 ob2 G2 q2 s2 f2 e2)
    ·cases hc
   |_=>
    simp only[plA,Bool.false_eq_true]at hp
    all_goals((repeat' split at hc) <;> simp[ACode.strip]at hc)
 | .loop ..,_,_,_,_,_,_,_,_,hn,_,_,_,_,_=>by simp[A2z]at hn
 | .exit ..,_,_,_,_,_,_,_,_,hn,_,_,_,_,_=>by simp[A2z]at hn
 | .ret,_,_,_,_,_,_,_,_,hn,_,_,_,_,_=>by simp[A2z]at hn
 | .label ..,_,_,_,_,_,_,_,_,hn,_,_,_,_,_=>by simp[A2z]at hn
 | .goto ..,_,_,_,_,_,_,_,_,hn,_,_,_,_,_=>by simp[A2z]at hn
 | .scope ..,_,_,_,_,_,_,_,_,hn,_,_,_,_,_=>by simp[A2z]at hn
 | .rangeFunc ..,_,_,_,_,_,_,_,_,hn,_,_,_,_,_=>by simp[A2z]at hn
variable {G:Nat->Prop} {ob:Place} {m:Nat->Option A5} {G':Nat->Prop}
theorem D4.shrink(hs:D4 G' w ob m)(hsub: ∀b,G b->G' b)(hn: ∀id o,m id=some o->o.NoDsl):D4 G w ob m:=⟨hs.dom,hs.inj,λb h=>hs.lt b (hsub b h),λid o i h1 h2=>(hs.own id o i h1 h2).noDsl (hn id o h1),λid o i b h1 h2 h3 h4 h5=>hs.sep id o i b h1 h2 h3 h4 (hsub b h5)⟩
structure Ext (w w':World):Prop where
 size:w.heap.size<=w'.heap.size
 same: ∀b,b<w.heap.size->w'.heap[b]? =w.heap[b]?
 os:w'.os=w.os
 tape:w'.tape=w.tape
 output:w'.output=w.output
 drawn:w.drawn<=w'.drawn
theorem Ext.refl(w:World):Ext w w:=⟨Nat.le_refl _,λ_ _=>rfl,rfl,rfl,rfl,Nat.le_refl _⟩
theorem Ext.trans {u v w:World}(h:Ext u v)(k:Ext v w):Ext u w:=⟨Nat.le_trans h.size k.size,λb hb=>(k.same b (Nat.lt_of_lt_of_le hb h.size)).trans (h.same b hb),k.os.trans h.os,k.tape.trans h.tape,k.output.trans h.output,Nat.le_trans h.drawn k.drawn⟩
variable {w':World} {ob':Place}
theorem Ext.of_fr(f:Fr G w (λ_=>none) G' w' ob'):Ext w w':=⟨f.size,λb hb=>f.same b hb (.inr λ⟨_,_,h,_⟩=>by cases h),f.os,f.tape,f.output,f.drawn⟩
theorem Fr.ext {w1 w2:World}(f:Fr G w ob G' w1 ob')(e:Ext w1 w2):Fr G w ob G' w2 ob':=⟨Nat.le_trans f.size e.size,λb hb hc=>(e.same b (Nat.lt_of_lt_of_le hb f.size)).trans (f.same b hb hc),f.blk,f.sub,f.new,e.os.trans f.os,e.tape.trans f.tape,e.output.trans f.output,Nat.le_trans f.drawn e.drawn⟩
end
section
variable {P:Program} {N:Nat}
structure C1q (P:Program) (α:Type)where
 l:Nat
 encs:α->List AV
 J:List α->World->(Nat->Prop)->Prop
 bound:Nat
 lt: ∀pre W Φ b,J pre W Φ->Φ b->b<W.heap.size
 ext: ∀pre W W' Φ,J pre W Φ->Ext W W'->J pre W' Φ
 rnd: ∀pre x W Φ (vals:List Value),J pre W Φ->pre.length<bound->(∀G ob,A6y G W ob (encs x) vals)->
  ∃fn tmps asg bd,(Instr.yield l vals.toArray).run P W= .ok (.round l fn tmps asg bd) W/\
   ∀n,RoundIn Fence.wide n P l fn tmps asg bd W λe W'=>e= .returned (.bool true)/\ ∃Φ',J (pre++ [x]) W' Φ'/\(∀b,Φ' b->Φ b\/W.heap.size<=b)/\W.heap.size<=W'.heap.size/\ ∀b,b<W.heap.size-> ¬Φ b->W'.heap[b]? =W.heap[b]?
variable {a:Act} {next:Act->World->Prop}
theorem F3u {o:Oper}{Q:Exit->Act->World->Prop}{r:Result Next}(h:o.upon P a next Q r):o.uponIn Fence.wide n P a next Q r:=by
 unfold Oper.upon at h;unfold Oper.uponIn;split at h
 ·exact h
 ·exact h
 ·exact h
 ·refine⟨λh=>by simp[Fence.wide]at h,?_⟩;refine((callsIn_wide (n:=n-1)).2 h).mono λe w' he=> ?_;cases e <;> exact he
 ·refine⟨λh=>by simp[Fence.wide]at h,λc cs _=> ?_⟩;obtain⟨v,w',r,s⟩:=h c cs;exact⟨v,w',r,stepsIn_wide.2 s⟩
 ·exact h
 ·exact h.elim
theorem D8j {ops:Array Oper}{Q:St->Prop}{R:Exit->Act->World->Prop}{n:Nat}{rest:List Nat}: ∀(l:List Oper) (as:List AOper) (k:Nat) (σ:St) (a:Act) (w:World) (ob:Place) (G:Nat->Prop),
  T4 P N ops l=some as->(∀i o,l[i]? =some o->ops[k+i]? =some o)->Sim N σ a w ob G->A40 P as Q σ->
  (∀τ a' w' ob' G',Q τ->Sim N τ a' w' ob' G'->Fr G w ob G' w' ob'->C7 ob ob'->wpOpsIn Fence.wide n P ops R rest a' w')->
  wpOpsIn Fence.wide n P ops R (List.range' k l.length++rest) a w
 | [],as,k,σ,a,w,ob,G,hc,hl,hs,h,hQ=>by simp only[T4,Option.some.injEq]at hc;subst hc;exact hQ σ a w ob G h hs (Fr.refl G w ob) (C7.refl ob)
 |o::l,as,k,σ,a,w,ob,G,hc,hl,hs,h,hQ=>by
  simp only[T4]at hc;split at hc
  case h_2=>cases hc
  rename_i ao as' h1 h2;simp only[Option.some.injEq]at hc;subst hc;obtain⟨b,r,hd,hk⟩:=C5u h;have ho:ops[k]? =some o:=by simpa using hl 0 o (by simp)
  simp only[List.length_cons,List.range'_succ,List.cons_append];simp only[wpOpsIn,ho];have:=D1g (K:=wpOpsIn Fence.wide n P ops R (List.range' (k+1) l.length++rest)) (Q:=R) h1 hs hd (λa' w' ob' G' s f e=>D8j l as' (k+1) _ a' w' ob' G' h2
   (λi o' hi=>by have:=hl (i+1) o' (by simpa using hi);grind) s hk
   (λτ a'' w'' ob'' G'' q s' f' e'=>hQ τ a'' w'' ob'' G'' q s' (f.trans f') (e.trans e')))
  by_cases hw:Region.wanted o (yielded ops a.tmps)=true
  ·rw[if_pos hw]at this⊢;exact⟨λ_ _=>trivial,F3u this⟩
  ·rw[if_neg hw]at this⊢;exact⟨λ_ _=>trivial,this⟩
theorem D0n {ops:Array Oper}: ∀ {pre:List AOper} {l:List Oper} {x:AOper} {post:List AOper},T4 P N ops l=some (pre++x::post)->
  ∃l1 o l2,l=l1++o::l2/\T4 P N ops l1=some pre/\B2e P N ops o=some x/\T4 P N ops l2=some post
 | [],[],x,post,h=>by simp[T4]at h
 | [],o::l,x,post,h=>by
   simp only[T4]at h;split at h
   ·rename_i h1 h2;simp only[List.nil_append,Option.some.injEq,List.cons.injEq]at h;obtain⟨rfl,rfl⟩:=h;exact⟨[],o,l,rfl,rfl,h1,h2⟩
   ·cases h
 |p::pre,[],x,post,h=>by simp[T4]at h
 |p::pre,o::l,x,post,h=>by
  simp only[T4]at h;split at h
  ·rename_i h1 h2;simp only[List.cons_append,Option.some.injEq,List.cons.injEq]at h;obtain⟨rfl,rfl⟩:=h;obtain⟨l1,o',l2,rfl,g1,g2,g3⟩:=D0n h2;exact⟨o::l1,o',l2,rfl,by simp only[T4,h1,g1],g2,g3⟩
  ·cases h
variable {α:Type}
def SJ(I:C1q P α)(N:Nat)(T:H7)(pre:List α)(a:Act)(W:World):Prop:=∃ob G Φ,Sim N (A1x T []) a W ob G/\I.J pre W Φ/\ ∀b,G b-> ¬Φ b
variable {w:World} {G:Nat->Prop} {ob:Place}
theorem D09(h:D4 G w ob (ofL [])):ob=λ_=>none:=by funext id;exact(h.dom id).1 rfl
variable {ob':Place} {G':Nat->Prop} {τ:St} {I:C1q P α} {pre:List α}
theorem SJ.step {T':H7}{a':Act}{W W':World}{Φ:Nat->Prop}(hs:Sim N (A1x T []) a W ob G)(hJ:I.J pre W Φ)(hd: ∀b,G b-> ¬Φ b)
  (s:Sim N τ a' W' ob' G')(f:Fr G W ob G' W' ob')(hw:Y2 [] τ T' []):SJ I N T' pre a' W':=by
 obtain⟨ρ,A,hw⟩:=hw;obtain⟨ob2,G2,g1,g2,_⟩:=B3c s hw;have f2:=f.trans g2
 have e0:=D09 hs.objs;subst e0;have hx:Ext W W':=Ext.of_fr f2;refine⟨ob2,G2,Φ,g1,I.ext _ _ _ _ hJ hx,λb hb hΦ=> ?_⟩;have hlt:=I.lt _ _ _ b hJ hΦ;rcases f2.new b hb with h |h |⟨id,i,h,_⟩
 ·exact hd b h hΦ
 ·omega
 ·cases h
def Yp(I:C1q P α)(N:Nat)(ac:ACode)(Q:Out->H7->List α->Prop)(T:H7)(pre:List α):Prop:=∀c,D9 P N c=some ac.strip-> ∀a W,SJ I N T pre a W->c.wp P (λe a' W'=> ∃o T' pre',e=Out.exit' o/\Q o T' pre'/\SJ I N T' pre' a' W') a W
variable {ac:ACode}
theorem Yp.plain {Q:Out->H7->List α->Prop}(h:Wp P N [] ac (λo τ=> ∃T',Q o T' pre/\Y2 [] τ T' []) (A1x T [])):Yp I N ac Q T pre:=by intro c hc a W ⟨ob,G,Φ,hs,hJ,hd⟩;refine wp_mono (h c hc ⟨G,W,ob⟩ a W ob G hs ⟨Fr.refl G W ob,λid i hk=>by cases hk⟩) ?_;rintro e a' W' ⟨o,τ,ob',G',rfl,⟨T',q,hw⟩,s,hΓ⟩;exact⟨o,T',pre,rfl,q,SJ.step hs hJ hd s hΓ.fr hw⟩
def F03(f:H7->List α->Prop)(Q:Out->H7->List α->Prop):Out->H7->List α->Prop
 | .normal,T,p=>f T p
 |o,T,p=>Q o T p
def E5y(id:Nat)(Q:Out->H7->List α->Prop):Out->H7->List α->Prop
 | .exit i,T,p=>if i=id then Q .normal T p else Q (.exit i) T p
 |o,T,p=>Q o T p
theorem Yp.seq {I:C1q P α}{x y:ACode}{Q:Out->H7->List α->Prop}{T:H7}{pre:List α}(h:Yp I N x (F03 (λT' p'=>Yp I N y Q T' p') Q) T pre):Yp I N (.seq x y) Q T pre:=by
 intro c hc a W hS;cases c <;> simp only[D9,ACode.strip,Option.some.injEq,reduceCtorEq]at hc
 case seq c1 c2=>
  split at hc
  ·rename_i x' y' h1 h2;simp only[Option.some.injEq,ACode.seq.injEq]at hc;obtain⟨rfl,rfl⟩:=hc;refine wp_seq (wp_mono (h c1 h1 a W hS) ?_);rintro e a' w' ⟨o,T',p',rfl,hq,s⟩;cases o with
   |normal=>exact hq c2 h2 a' w' s
   |exit i=>exact⟨.exit i,T',p',rfl,hq,s⟩
   |ret=>exact⟨.ret,T',p',rfl,hq,s⟩
  ·cases hc
 all_goals grind
theorem Yp.block {I:C1q P α}{id:Nat}{x:ACode}{Q:Out->H7->List α->Prop}{T:H7}{pre:List α}(h:Yp I N x (E5y id Q) T pre):Yp I N (.block id x) Q T pre:=by
 intro c hc a W hS;cases c <;> simp only[D9,ACode.strip,Option.some.injEq,reduceCtorEq]at hc
 case block id' c1=>
  split at hc
  ·rename_i x' h1;simp only[Option.some.injEq,ACode.block.injEq]at hc;obtain⟨rfl,rfl⟩:=hc;refine wp_block (wp_mono (h c1 h1 a W hS) ?_);rintro e a' w' ⟨o,T',p',rfl,hq,s⟩;cases o with
   |normal=>exact⟨.normal,T',p',rfl,hq,s⟩
   |exit i=>
    simp only[Out.exit',Exit.inBlock];simp only[E5y]at hq
    grind
   |ret=>exact⟨.ret,T',p',rfl,hq,s⟩
  ·cases hc
 all_goals grind
theorem Yp.cond {I:C1q P α}{k:AX}{t:Bool}{x y:ACode}{Q:Out->H7->List α->Prop}{T:H7}{pre:List α}(ht:(A1x T []).ev k=some (true, .sc (.bool t)))(h:Yp I N (if t=true then x else y) Q T pre):Yp I N (.cond k x y) Q T pre:=by
 intro c hc a W hS;cases c <;> simp only[D9,ACode.strip,Option.some.injEq,reduceCtorEq]at hc
 case cond c0 c1 c2=>
  split at hc
  ·rename_i k' x' y' h0 h1 h2;simp only[Option.some.injEq,ACode.cond.injEq]at hc;obtain⟨rfl,rfl,rfl⟩:=hc;obtain⟨ob,G,Φ,hs,hJ,hd⟩:=hS;have hv:a.eval c0= .bool t:=(hs.opRel c0 k' (.sc (.bool t)) h0 (by simp[St.e',ht])).sc_eq;refine wp_cond hv ?_;cases t with
   |true=>rw[if_pos rfl]at h;exact h c1 h1 a W ⟨ob,G,Φ,hs,hJ,hd⟩
   |false=>rw[if_neg (by simp)]at h;exact h c2 h2 a W ⟨ob,G,Φ,hs,hJ,hd⟩
  ·cases hc
 all_goals grind
theorem Yp.loop {I:C1q P α}{x:ACode}{Q:Out->H7->List α->Prop}{ι:Type}(T:ι->H7)(p:ι->List α)(μ:ι->Nat)(i0:ι)
  (h: ∀i,Yp I N x (F03 (λT' p'=> ∃i',μ i'<μ i/\T'=T i'/\p'=p i') Q) (T i) (p i)):Yp I N (.loop x) Q (T i0) (p i0):=by
 intro c hc a W hS;cases c <;> simp only[D9,ACode.strip,Option.some.injEq,reduceCtorEq]at hc
 case loop c1=>
  split at hc
  ·rename_i x' h1;simp only[Option.some.injEq,ACode.loop.injEq]at hc;obtain rfl:=hc;intro b k cs;have key: ∀n i,μ i=n-> ∀(a':Act) (w':World),SJ I N (T i) (p i) a' w'->
     ∃e a2 w2,(∃o T' pre',e=Out.exit' o/\Q o T' pre'/\SJ I N T' pre' a2 w2)/\Arrives P (lone (b.at a' (.code c1:: .inLoop c1::k)) cs w') b k cs e a2 w2:=by
    intro n;induction n using Nat.strongRecOn with
    |_ n ih=>
     intro i hn a' w' hs';obtain⟨e,a1,w1,hq,harr⟩:=h i c1 h1 a' w' hs' b (.inLoop c1::k) cs;obtain⟨o,T',p',rfl,hq,s⟩:=hq;cases o with
     |normal=>obtain⟨i',hlt,rfl,rfl⟩:=hq;obtain⟨e2,a2,w2,hq2,harr2⟩:=ih (μ i') (hn▸hlt) i' rfl a1 w1 s;exact⟨e2,a2,w2,hq2, .of_steps (Steps.trans harr (.one step_inLoop)) harr2⟩
     |exit id=>exact⟨.exit id,a1,w1,⟨.exit id,T',p',rfl,hq,s⟩, .pass (x:= .inLoop c1) rfl (λ_ _=> .inl (by simp)) harr⟩
     |ret=>exact⟨.ret,a1,w1,⟨.ret,T',p',rfl,hq,s⟩, .pass (x:= .inLoop c1) rfl (λ_ _=> .inl (by simp)) harr⟩
   obtain⟨e,a',w',hq,harr⟩:=key _ i0 rfl a W hS;exact⟨e,a',w',hq, .of_steps (.one step_loop) harr⟩
  ·cases hc
 all_goals grind
variable {avs:List AV} {xs:List AX}
theorem F33 {ops:Array Oper}{o:Oper}{d:Option Nat}{x:AX}{W:World}{l:Nat}(hc:B2e P N ops o=some ⟨d, .callv x xs,none,[]⟩)(hs:Sim N τ a W ob G)
  (hx:τ.ev x=some (true, .fn (.yield l) [] []))(he:τ.es xs=some avs)(ht: ∀y∈xs,τ.c y=true):
  ∃vals:List Value,(execOp a.eval o).run P W=(Instr.yield l vals.toArray).run P W/\A6y G W ob avs vals:=by
 obtain⟨hop,-,-⟩:=C1i hc;obtain⟨dst,op,type,pos,after,guard⟩:=o;simp only at hop;have hop':cop P op=some (.callv x xs):=by
  unfold A8h at hop
  grind
 obtain⟨cl,rfl⟩:=(D5o hop').2 rfl;simp only[cop]at hop';obtain⟨callee,args,argTypes⟩:=cl;obtain⟨args⟩:=args;obtain⟨argTypes⟩:=argTypes;simp only at hop';split at hop'
 case h_9=>
  rename_i y _;split at hop'
  case h_2=>cases hop'
  rename_i ax al hax hal;simp only[Option.some.injEq,AOp.callv.injEq]at hop';obtain⟨rfl,rfl⟩:=hop';have hxr:=hs.opRel y ax _ hax (by unfold St.e';rw[hx])
  have har:=D4b hs hal he ht;generalize hxv:a.eval y=xv at hxr;cases hxr with
  |fn fs us hn hm hr hq=>
   have e1:fs= #[]:=Array.eq_empty_of_size_eq_zero (by simpa using hn)
   have e2:us= #[]:=Array.eq_empty_of_size_eq_zero (by simpa using hm);subst e1;subst e2;refine⟨args.map a.eval,?_,har⟩;simp[execOp,resolve,hxv,Deferred.ofValue,invoke]
 all_goals(exfalso;(repeat' split at hop') <;> simp at hop')
variable {d:Nat}
theorem Yp.yield {pr po:List AOper}{x:AX}{p:List α}{Q:Out->H7->List α->Prop}(v:α)(hp:p.length<I.bound)(hE: ∀G W ob vals,A6y G W ob (I.encs v) vals-> ∀G' ob',A6y G' W ob' (I.encs v) vals)
  {A:St->Prop}(h1:A40 P pr A (A1x T []))(hA: ∀τ,A τ->τ.ev x=some (true, .fn (.yield I.l) [] [])/\τ.es xs=some (I.encs v)/\(∀y∈xs,τ.c y=true)/\τ.objs=ofL []/\
    ∃B,A40 P po B (τ.put (some d) true ⟨some (.sc (.bool true)),[]⟩)/\ ∀τ',B τ'-> ∃T',Q .normal T' (p++ [v])/\Y2 [] τ' T' []):Yp I N (.region false (pr++⟨some d, .callv x xs,none,[]⟩::po)) Q T p:=by
 intro c hc a W ⟨ob,G,Φ,hs,hJ,hd⟩;cases c <;> simp only[D9,ACode.strip,Option.some.injEq,reduceCtorEq]at hc
 case region id os draw=>
  split at hc
  ·rename_i as has;simp only[Option.some.injEq,ACode.region.injEq]at hc;obtain⟨rfl,rfl⟩:=hc;unfold B0o at has;split at has
   ·rename_i as' hcop;simp only[Bool.false_eq_true,if_false,Option.some.injEq]at has;subst has;obtain⟨l1,o,l2,hl,c1,c2,c3⟩:=D0n hcop;have hget: ∀i o',(l1++o::l2)[i]? =some o'->os[i]? =some o':=λi o' hi=>by rw[<-hl,Array.getElem?_toList]at hi;exact hi
    refine(wpIn_wide (n:=1)).1 (wpIn_region ?_);have hr:List.range os.size=List.range' 0 l1.length++(l1.length::List.range' (l1.length+1) l2.length):=by
     have e:os.size=l1.length+(l2.length+1):=by rw[<-Array.length_toList,hl];simp
     rw[e,List.range_eq_range',List.range'_append_1.symm,Nat.zero_add];rfl
    rw[hr];refine D8j l1 pr 0 _ a W ob G c1 (λi o' hi=>hget _ _ (by grind)) hs h1 ?_;rintro τ a1 W1 ob1 G1 hAτ s1 f1 _;obtain⟨hx,he,ht,hob,B,hpo,hB⟩:=hA τ hAτ;have e0:=D09 hs.objs;subst e0;have hX:=Ext.of_fr f1
    have e1:ob1=λ_=>none:=by have:=s1.objs;rw[hob]at this;exact D09 this
    subst e1;have hJ1:=I.ext _ _ _ _ hJ hX
    have hd1: ∀b,G1 b-> ¬Φ b:=λb hb hΦ=>by
     have hlt:=I.lt _ _ _ b hJ hΦ;rcases f1.new b hb with h |h |⟨id,i,h,_⟩
     all_goals grind
    obtain⟨vals,hrun,hrel⟩:=F33 c2 s1 hx he ht;obtain⟨fn,tmps,asg,bd,hy,hR⟩:=I.rnd p v W1 Φ vals hJ1 hp (λG' ob'=>hE _ _ _ _ hrel _ _);have ho:os[l1.length]? =some o:=hget _ _ (by grind)
    have hgw:Region.wanted o (yielded os a1.tmps)=true:=C8n s1 c2 rfl;simp only[wpOpsIn,ho];rw[if_pos hgw];obtain⟨_,hdst,hdN⟩:=C1i c2;refine⟨λ_ _=>trivial,?_⟩;show o.uponIn Fence.wide 1 P a1 _ _ ((execOp a1.eval o).run P W1);rw[hrun,hy];refine⟨λh=>by simp[Fence.wide]at h,(hR 0).mono ?_⟩;rintro e W2 ⟨rfl,Φ',hJ2,hΦ',hsz,hsame⟩;show wpOpsIn Fence.wide 1 P os _ _ (a1.put o.dst (.bool true)) W2;have s2:Sim N τ a1 W2 (λ_=>none) G1:=s1.frame hsz λb hb hc=>by
     rcases hc with hc |⟨id,i,h,_⟩
     all_goals grind
    have hd2: ∀b,G1 b-> ¬Φ' b:=λb hb hΦ=>by
     rcases hΦ' b hΦ with h |h
     ·exact hd1 b hb h
     ·have:=s1.objs.lt b hb;omega
    rw[<-hdst];have s3:Sim N (τ.put (some d) true ⟨some (.sc (.bool true)),[]⟩) (a1.put (some d) (.bool true)) W2 (λ_=>none) G1:=s2.put_true (dst:=some d) (r:=⟨some (.sc (.bool true)),[]⟩) (v:= .bool true) (by rw[<-hdst]at hdN;exact hdN) s2.objs (λav hav=>by simp only[Option.some.injEq]at hav;subst hav;exact .sc rfl) (C7.refl _) (Fr.refl _ _ _)
    have:=D8j (n:=1) (R:=λe a' W'=> ∃o T' pre',e=Out.exit' o/\Q o T' pre'/\SJ I N T' pre' a' W') (rest:= []) l2 po (l1.length+1) _ _ W2 _ G1 c3 (λi o' hi=>hget _ _ (by rw[List.getElem?_append_right (by omega),show l1.length+1+i-l1.length=i+1 by omega];simpa using hi)) s3 hpo ?_
    ·rw[List.append_nil]at this;exact this
    ·rintro τ' a3 W3 ob3 G3 hBτ s4 f4 _;obtain⟨T',q,hw'⟩:=hB τ' hBτ;refine⟨.normal,T',p++ [v],rfl,q,?_⟩;have s2':Sim N (A1x [] []) a1 W2 (λ_=>none) G1:=⟨s2.size,s2.defers,by have:=s2.objs;rw[hob]at this;exact this,λt av h=>by simp[A1x,A1o]at h,λt av h=>by simp[A1x,A1o]at h⟩;exact SJ.step s2' hJ2 hd2 s4 f4 hw'
   ·cases has
  ·cases hc
 all_goals grind
variable {f:FuncId} {fn:Func}
theorem F4n {caps:List AV}{xs:List α}{us:List Value}{W:World}{Φ:Nat->Prop}
  (hf:P.funcs[f]? =some fn)(hb:fn.body=some (fn.body.getD .skip))(hc:D9 P fn.ntmps (fn.body.getD .skip)=some ac.strip)(hts:A5v P fn.results.toList=some [])(hl:(caps.length+1)<=fn.ntmps)
  (hr:A6y G W (λ_=>none) caps us)(hlt: ∀b,G b->b<W.heap.size)(hJ:I.J [] W Φ)(hd: ∀b,G b-> ¬Φ b)
  {T:H7}(hT: ∀t av,A1o T t=some (true,av)->(AV.fn (.yield I.l) [] []::caps)[t]? =some av)(h:Yp I fn.ntmps ac (λo _ p=>(o= .normal\/o= .ret)/\p=xs) T []):
  CallsIn Fence.wide 1 P f (#[.func (.yield I.l) #[] #[]]++us.toArray) W λe W'=>(∃v,e= .returned v)/\ ∃Φ',I.J xs W' Φ':=by
 refine callsIn_wide.2 (calls_of_wp hf hb ?_);have hus:us.length=caps.length:=hr.1
 have hs0:Sim fn.ntmps (A1x T []) {tmps:=(#[Value.func (.yield I.l) #[] #[]]++us.toArray)++Array.replicate (fn.ntmps-(#[Value.func (.yield I.l) #[] #[]]++us.toArray).size) undef,defers:= []} W (λ_=>none) G:=by
  refine⟨by simp;omega,rfl,⟨λid=>by simp[A1x,ofL,wrm],λ_ _ _ _ _ h=>(by cases h),hlt,λ_ _ _ _ h=>(by cases h),λ_ _ _ _ _ _ h=>(by cases h)⟩,λt av ht=> ?_,λt av ht=>absurd ht B3f⟩;have h1:=hT t av ht;cases t with
  |zero=>
   simp only[List.getElem?_cons_zero,Option.some.injEq]at h1;subst h1;have e1:(#[Value.func (.yield I.l) #[] #[]]++us.toArray:Array Value)[0]? =some (.func (.yield I.l) #[] #[]):=by grind
   refine⟨.func (.yield I.l) #[] #[],(by grind), .fn #[] #[] rfl rfl (λj av hj=>by simp at hj) (λj av hj=>by simp at hj)⟩
  |succ t=>
   simp only[List.getElem?_cons_succ]at h1;have h2:=hr.2 t av h1
   have hlt:t<us.length:=by grind
   refine⟨us.getD t undef,?_,h2⟩;rw[Array.getElem?_append_left (by simp;omega),Array.getElem?_append_right (by simp)];simp[List.getD,hlt]
 refine wp_mono (h _ hc _ W ⟨_,G,Φ,hs0,hJ,hd⟩) ?_;rintro e a' W' ⟨o,T',p',rfl,⟨ho,rfl⟩,ob',G',Φ',s,hJ',_⟩;obtain⟨σ2,a2,v,k1,k2,hv,hv'⟩:=B8u (K:=λ_=>True) hts s (λp hp=>by cases hp) trivial;have fin:a'.defers= []/\ ∃v,(results fn a'.tmps).run P W'= .ok v W'/\((∃u,Ending.returned v= .returned u)/\ ∃Φ',I.J p' W' Φ'):=⟨s.defers,v,hv,⟨v,rfl⟩,Φ',hJ'⟩;rcases ho with rfl |rfl
 ·exact fin
 ·exact fin
end
section
variable {P:Program} {N:Nat} {α:Type}
variable {w:World} {G:Nat->Prop} {ob:Place} {i:Nat} {a:Act} {as:List AOper}
theorem F5v {ops:Array Oper}{Q:St->Prop}(hc:T4 P N ops ops.toList=some as)(h:A40 P as Q σ)(hs:Sim N σ a w ob G)
  {R:Exit->Act->World->Prop}(hk: ∀τ a' w' ob' G',Q τ->Sim N τ a' w' ob' G'->Fr G w ob G' w' ob'->C7 ob ob'->R .normal a' w'):(Code.region i ops false).wp P R a w:=by
 refine wp_region ?_;have:=D1d (Q:=Q) (R:=R) ops.toList as 0 σ a w ob G hc (λi o hi=>by simpa using hi) hs h hk;rw[List.range_eq_range'];simpa using this
theorem E0y {ops:Array Oper}{Q:St->Prop}(hc:T4 P N ops ops.toList=some as)(h:A40 P as Q σ)(hs:Sim N σ a w ob G){ds:List Deferred}
  {R:Exit->Act->World->Prop}(hk: ∀τ a' w' ob' G',Q τ->Sim N τ a' w' ob' G'->Fr G w ob G' w' ob'->C7 ob ob'->R .normal (a'.more ds) w'):(Code.region i ops false).wp P R (a.more ds) w:=by
 refine wp_region (C6c _ a w ?_);have:=D1d (Q:=Q) (R:=λe a w=>R e (a.more ds) w) ops.toList as 0 σ a w ob G hc (λi o hi=>by simpa using hi) hs h hk;rw[List.range_eq_range'];simpa using this
variable {w':World} {ob':Place} {G':Nat->Prop}
theorem Fr.put {l:Nat}{o o0:Obj}(f:Fr G (w.putObj l o) ob G' w' ob')(hl:w.heap[l]? =some o0):Fr G w ob G' (w'.putObj l o0) ob':=by
 have hlt:l<w.heap.size:=(Array.getElem?_eq_some_iff.1 hl).1
 have hsz:w.heap.size<=w'.heap.size:=by have:=f.size;simpa using this
 refine⟨by simpa using hsz,λb hb hc=> ?_,λb hb=> ?_,f.sub,λb hb=> ?_,?_,?_,?_,?_⟩
 ·by_cases e:b=l
  ·subst e;rw[World.putObj_heap_same (by omega),hl]
  ·rw[World.putObj_heap_other e,f.same b (by simpa using hb) hc,World.putObj_heap_other e]
 ·have:=f.blk b hb;simpa using this
 ·have:=f.new b hb;simpa using this
 ·exact f.os
 ·exact f.tape
 ·exact f.output
 ·exact f.drawn
structure G0t (P:Program) (f:FuncId) (R:RfT) (ps:List Nat) (acA acB:ACode):Prop where
 ok: ∃(fn:Func) (i0 i1 i2 i3 i4 j:Nat) (o0 o1 o2 o3 o4:Array Oper) (asg bd:Code),P.funcs[f]? =some fn/\
  fn.body=some (.seq (.region i0 o0 false) (.seq (.region i1 o1 false) (.seq (.seq (.region i2 o2 false) (.block j (.rangeFunc (.tmp R.gx) ps.toArray asg bd))) (.seq (.region i3 o3 false) (.seq (.region i4 o4 false) .ret)))))/\
  (fn.name != "runtime.NumGoroutine")=true/\T4 P fn.ntmps o0 o0.toList=some R.as0/\T4 P fn.ntmps o1 o1.toList=some R.as1/\T4 P fn.ntmps o2 o2.toList=some R.as2/\
  T4 P fn.ntmps o3 o3.toList=some R.as3/\T4 P fn.ntmps o4 o4.toList=some R.as4/\A5v P fn.results.toList=some R.rvs/\(R.rvs.all λp=>p.1.blt fn.ntmps)=true/\fn.ntmps=R.nt/\
  D9 P R.nt asg=some acA.strip/\D9 P R.nt bd=some acB.strip/\A2z asg=true/\A2z bd=true/\plA acA=true/\plA acB=true
def psS:List Nat->List AV->H7
 |p::ps,v::vs=>(p, .share,v)::psS ps vs
 |_,_=> []
def F7i(P:Program)(h:FuncId)(caps:List AV)(encs:α->List AV)(xs:List α):Prop:=
 ∀(I:C1q P α),I.encs=encs->I.bound=xs.length-> ∀(us:List Value) (W:World) (G Φ:Nat->Prop),A6y G W (λ_=>none) caps us->(∀b,G b->b<W.heap.size)->I.J [] W Φ->(∀b,G b-> ¬Φ b)->
  CallsIn Fence.wide 1 P h (#[.func (.yield I.l) #[] #[]]++us.toArray) W λe W'=>(∃v,e= .returned v)/\ ∃Φ',I.J xs W' Φ'
structure E0f (P:Program) (R:RfT) (ps:List Nat) (acA acB:ACode) (rs:List AV) (α:Type) (τ:St) (h:FuncId) (caps:List AV) (T:H7) (Obj:List α->List (Nat×A5)) (encs:α->List AV) (xs:List α):Prop where
 gx:τ.env R.gx=some (true, .fn (.func h) [] caps)
 pure:A0c caps=true
 call:A27 P h=true
 weak:Y2 [] τ T (Obj [])
 nd: ∀pre id o,ofL (Obj pre) id=some o->o.NoDsl/\o.owned=true
 len: ∀x,(encs x).length=ps.length
 it:F7i P h caps encs xs
 body: ∀pre x,pre.length<xs.length->W P R.nt [] acA (λo τ1=>o= .normal/\W P R.nt [] acB (λo τ2=>o= .normal/\Y2 ((Obj pre).map (·.1)) τ2 [] (Obj (pre++ [x]))) τ1) (A1x (psS ps (encs x)++T) (Obj pre))
 post:A40 P R.as3 (λτ'=>A40 P R.as4 (λτ''=>(B3u R.nt [] R.rvs rs []).q .ret τ'') τ') (A1x T (Obj xs))
theorem C8u: ∀(ps:List Nat) (vs:List Value) (t0:Array Value),((ps.zip vs).foldl (λ(t:Array Value) (p:Nat×Value)=>t.setIfInBounds p.1 p.2) t0).size=t0.size
 | [],_,t0=>by simp
 |p::ps,[],t0=>by simp
 |p::ps,v::vs,t0=>by simp only[List.zip_cons_cons,List.foldl_cons];rw[C8u ps vs];simp
theorem D3p: ∀(ps:List Nat) (vs:List Value) (t0:Array Value) (t:Nat),t∉ps->((ps.zip vs).foldl (λ(t:Array Value) (p:Nat×Value)=>t.setIfInBounds p.1 p.2) t0)[t]? =t0[t]?
 | [],_,t0,t,_=>by simp
 |p::ps,[],t0,t,_=>by simp
 |p::ps,v::vs,t0,t,h=>by simp only[List.mem_cons,not_or]at h;simp only[List.zip_cons_cons,List.foldl_cons];rw[D3p ps vs _ t h.2,Array.getElem?_setIfInBounds_ne (λe=>h.1 e.symm)]
theorem E86 {G:Nat->Prop}{w:World}{ob:Place}: ∀(ps:List Nat) (avs:List AV) (vs:List Value) (t0:Array Value) (T:H7),ps.Nodup->(∀p∈ps,p<t0.size)->avs.length=ps.length->A6y G w ob avs vs->
  (∀t av,A1o T t=some (true,av)-> ∃v,t0[t]? =some v/\Rel G w ob av v)->
  ∀t av,A1o (psS ps avs++T) t=some (true,av)-> ∃v,((ps.zip vs).foldl (λ(t:Array Value) (p:Nat×Value)=>t.setIfInBounds p.1 p.2) t0)[t]? =some v/\Rel G w ob av v
 | [],avs,vs,t0,T,_,_,_,_,hT,t,av,h=>by simpa[psS]using hT t av (by simpa[psS]using h)
 |p::ps,[],vs,t0,T,_,_,hl,_,hT,t,av,h=>by simp at hl
 |p::ps,v::avs,vs,t0,T,hn,hb,hl,hr,hT,t,av,h=>by
  obtain⟨h1,h2⟩:=hr;cases vs with
  |nil=>simp at h1
  |cons u us=>
   simp only[psS,List.cons_append,A1o]at h;simp only[List.zip_cons_cons,List.foldl_cons];rw[List.nodup_cons]at hn;split at h
   ·rename_i e;subst e;simp only[Option.some.injEq,Prod.mk.injEq,true_and]at h;subst h;refine⟨u,?_,by simpa using h2 0 v rfl⟩;rw[D3p ps us _ t hn.1]
    grind
   ·rename_i e;refine E86 ps avs us (t0.setIfInBounds p u) (T.filter λs=>s.1 != p) hn.2 (λq hq=>by simpa using hb q (List.mem_cons_of_mem _ hq)) (by simpa using hl) ⟨by simpa using h1,λj av hj=>by simpa using h2 (j+1) av (by simpa using hj)⟩ ?_ t av ?_
    ·intro t' av' h';have:t'≠p/\A1o T t'=some (true,av'):=by
      clear hT h;induction T with
      |nil=>simp[A1o]at h'
      |cons s T ih=>
       obtain⟨k,md,c⟩:=s;simp only[List.filter_cons]at h';split at h'
       ·rename_i hk;simp only[bne_iff_ne,ne_eq]at hk;simp only[A1o]at h'⊢
        grind
       ·rename_i hk;simp only[bne_iff_ne,ne_eq,Decidable.not_not]at hk;have:=ih h';refine⟨this.1,?_⟩;simp only[A1o]
        grind
     grind
    ·have app: ∀(A:H7) (T:H7),A1o (A++T) t=some (true,av)->A1o (A++T.filter λs=>s.1 != p) t=some (true,av):=by
      intro A T hh;induction A with
      |nil=>
       simp only[List.nil_append]at hh⊢;induction T with
       |nil=>exact hh
       |cons s T ih=>
        obtain⟨k,md,c⟩:=s;simp only[List.filter_cons];simp only[A1o]at hh;split at hh
        ·rename_i e';rw[if_pos (by grind)];simp only[A1o];rw[if_pos e'];exact hh
        ·rename_i e';split
         ·simp only[A1o];rw[if_neg e'];exact ih hh
         ·exact ih hh
      |cons s A ih=>
       obtain⟨k,md,c⟩:=s;simp only[List.cons_append,A1o]at hh⊢
       grind
     exact app _ _ h
end
section
variable {P:Program} {N:Nat} {α:Type}
variable {w:World} {G:Nat->Prop} {ob:Place}
theorem F23(h:D4 G w ob (ofL O)){id:Nat}{i:J3}(hi:ob id=some i):id∈O.map (·.1):=by
 cases ho:ofL O id with
 |none=>rw[(h.dom id).1 ho]at hi;cases hi
 |some o=>obtain⟨o',ho'⟩:=A85 (by rw[ho];rfl);exact List.mem_map_of_mem (f:=(·.1)) ho'
structure RJ (R:RfT) (T:H7) (Obj:List α->List (Nat×A5)) (a:Act) (w:World) (ob:Place) (G:Nat->Prop) (l D:Nat) (rec:Loop) (pre:List α) (W:World) (Φ:Nat->Prop) (ob':Place):Prop where
 sim:Sim R.nt (A1x T (Obj pre)) a W ob' G
 fr:Fr G w ob G W ob'
 ext:C7 ob ob'
 hl:W.heap[l]? =some (.loop rec)
 hD:W.heap[D]? =some (.deferred (some []))
 ne: ∀b,O6 ob' b->b≠l/\b≠D
 phi:Φ=λb=>b=l\/b=D\/O6 ob' b
def B0p(fnId:FuncId)(a:Act)(ps:List Nat)(asg bd:Code)(D:Nat)(s:LoopState):Loop:= {state:=s,pending:=none,fn:=fnId,tmps:=a.tmps,params:=ps.toArray,assign:=asg,body:=bd,defers:=D}
variable {a:Act} {D:Nat} {acA acB:ACode}
theorem F8f {R:RfT}{Obj:List α->List (Nat×A5)}{l:Nat}{ps:List Nat}{asg bd:Code}{fnId:FuncId}{encs:α->List AV}
  (hw: ∀b,G b->b<w.heap.size)(hlw:w.heap.size<=l)(hDw:w.heap.size<=D)(hpn:ps.Nodup)(hpN: ∀p∈ps,p<R.nt)(hlen: ∀x,(encs x).length=ps.length)(hlD:l≠D)
  (hca:D9 P R.nt asg=some acA.strip)(hcb:D9 P R.nt bd=some acB.strip)(hna:A2z asg=true)(hnb:A2z bd=true)(hpa:plA acA=true)(hpb:plA acB=true)(nd: ∀pre id o,ofL (Obj pre) id=some o->o.NoDsl)
  {pre:List α}{x:α}{W:World}{Φ:Nat->Prop}{ob':Place}{vals:List Value}
  (hJ:RJ R T Obj a w ob G l D (B0p fnId a ps asg bd D .ready) pre W Φ ob')
  (hr: ∀G ob,A6y G W ob (encs x) vals)
  (hbody:Go.Abs.W P R.nt [] acA (λo τ1=>o= .normal/\Go.Abs.W P R.nt [] acB (λo τ2=>o= .normal/\Y2 ((Obj pre).map (·.1)) τ2 [] (Obj (pre++ [x]))) τ1) (A1x (psS ps (encs x)++T) (Obj pre))):
  ∃tmps,(Instr.yield l vals.toArray).run P W= .ok (.round l fnId tmps asg bd) W/\
   ∀n,RoundIn Fence.wide n P l fnId tmps asg bd W λe W'=>e= .returned (.bool true)/\ ∃Φ',(∃ob'',RJ R T Obj a w ob G l D (B0p fnId a ps asg bd D .ready) (pre++ [x]) W' Φ' ob'')/\
    (∀b,Φ' b->Φ b\/W.heap.size<=b)/\W.heap.size<=W'.heap.size/\ ∀b,b<W.heap.size-> ¬Φ b->W'.heap[b]? =W.heap[b]? :=by
 obtain⟨s,f,xt,hl,hD,hne,rfl⟩:=hJ;have hvl:vals.length=ps.length:=by rw[(hr G ob').1,hlen]
 have hy:=run_yield (P:=P) (args:=vals.toArray) hl (by simp[B0p,hvl])
 have hll:l<W.heap.size:=(Array.getElem?_eq_some_iff.1 hl).1
 have hDl:D<W.heap.size:=(Array.getElem?_eq_some_iff.1 hD).1;refine⟨_,hy,λn=>roundIn_of_wpIn trivial ?_⟩;have hfold:((B0p fnId a ps asg bd D .ready).params.zip vals.toArray).foldl (λ(tmps:Array Value) (x:Nat×Value)=>tmps.setIfInBounds x.1 x.2) a.tmps=(ps.zip vals).foldl (λ(t:Array Value) (p:Nat×Value)=>t.setIfInBounds p.1 p.2) a.tmps:=by show(ps.toArray.zip vals.toArray).foldl _ _=_;rw[List.zip_toArray,List.foldl_toArray]
 have s0:Sim R.nt (A1x (psS ps (encs x)++T) (Obj pre)) {tmps:=((B0p fnId a ps asg bd D .ready).params.zip vals.toArray).foldl (λ(tmps:Array Value) (x:Nat×Value)=>tmps.setIfInBounds x.1 x.2) a.tmps,defers:= []} W ob' G:=by rw[hfold];refine⟨by rw[C8u];exact s.size,rfl,s.objs,λt av ht=> ?_,λt av ht=>absurd ht B3f⟩;exact E86 ps (encs x) vals a.tmps T hpn (λp hp=>by rw[s.size];exact hpN p hp) (hlen x) (hr G ob') (λt av ht=>s.env t av ht) t av ht
 have hlb: ¬O6 ob' l:=λh=>(hne l h).1 rfl
 have hDb: ¬O6 ob' D:=λh=>(hne D h).2 rfl
 have hGl: ¬G l:=λh=>by have:=hw l h;omega
 have hGD: ¬G D:=λh=>by have:=hw D h;omega
 refine B5e asg acA hna hpa hca s0 hbody ?_;rintro τ1 a1 W1 ob1 G1 ⟨_,hb1⟩ s1 f1 x1;have hl1:W1.heap[l]? =some (.loop (B0p fnId a ps asg bd D .ready)):=(f1.same l hll (.inr hlb)).trans hl
 have hll1:l<W1.heap.size:=(Array.getElem?_eq_some_iff.1 hl1).1
 have nG1: ¬G1 l:=λh=>by
  rcases f1.new l h with h |h |h
  all_goals grind
 have nB1: ¬O6 ob1 l:=λh=>by
  rcases f1.blk l h with h |h
  ·exact hlb h
  ·omega
 refine⟨_,run_beginRound hl1 rfl,?_⟩;have s1':Sim R.nt τ1 a1 (W1.putObj l (.loop {B0p fnId a ps asg bd D .ready with state:= .busy})) ob1 G1:=s1.frame (by simp) λb hb hc=>World.putObj_heap_other λe=>by grind
 refine B5e bd acB hnb hpb hcb s1' hb1 ?_;rintro τ2 a2 W2 ob2 G2 ⟨_,hwk⟩ s2 f2 x2;have hl2:W2.heap[l]? =some (.loop {B0p fnId a ps asg bd D .ready with state:= .busy}):=by rw[f2.same l (by simpa using hll1) (.inr nB1)];exact World.putObj_heap_same hll1
 have hll2:l<W2.heap.size:=(Array.getElem?_eq_some_iff.1 hl2).1
 have f2':=Fr.put f2 hl1
 have nG2: ¬G2 l:=λh=>by
  rcases f2'.new l h with h |h |h
  all_goals grind
 have nB2: ¬O6 ob2 l:=λh=>by
  rcases f2'.blk l h with h |h
  ·exact nB1 h
  ·omega
 have s2':Sim R.nt τ2 a2 (W2.putObj l (.loop (B0p fnId a ps asg bd D .ready))) ob2 G2:=s2.frame (by simp) λb hb hc=>World.putObj_heap_other λe=>by grind
 obtain⟨ρ,A,hwk⟩:=hwk;obtain⟨ob4,G4,g1,g2,g3⟩:=B3c s2' hwk;have F:Fr G W ob' G4 (W2.putObj l (.loop (B0p fnId a ps asg bd D .ready))) ob4:=(f1.trans f2').trans g2
 have hend:=run_endRound (P:=P) none hl2;refine⟨_,_,hend,?_⟩;show _=_/\_;refine⟨rfl,λb=>b=l\/b=D\/O6 ob4 b,⟨ob4,?_,?_,?_,?_,?_,?_,rfl⟩,?_,F.size,?_⟩
 ·refine⟨s.size,s.defers,g1.objs.shrink F.sub (nd _),λt av ht=> ?_,λt av ht=>absurd ht B3f⟩;obtain⟨v,hv,hrel⟩:=s.env t av ht;refine⟨v,hv,hrel.ext (λ_ h=>h) (λb hb=>F.same b (by have:=f.size;have:=hw b hb;omega) (.inl hb)) λid i hi=> ?_⟩;obtain⟨i2,hi2,hh⟩:=(x1.trans x2) id i hi;exact⟨i2,by rw[g3 id (F23 s.objs hi)];exact hi2,hh⟩
 ·have F':=f.trans F
  exact⟨F'.size,F'.same,F'.blk,λ_ h=>h,λ_ h=> .inl h,F'.os,F'.tape,F'.output,F'.drawn⟩
 ·intro id i hi;obtain⟨i1,hi1,h1⟩:=xt id i hi;have h12:C7 ob' ob4:=λid i hi=>by
   obtain⟨i2,hi2,hh⟩:=(x1.trans x2) id i hi;exact⟨i2,by rw[g3 id (F23 s.objs hi)];exact hi2,hh⟩
  exact(xt.trans h12) id i hi
 ·exact World.putObj_heap_same hll2
 ·exact(F.same D hDl (.inr hDb)).trans hD
 ·intro b hb;rcases F.blk b hb with h |h
  all_goals grind
 ·rintro b (h |h |h)
  ·exact .inl (.inl h)
  ·exact .inl (.inr (.inl h))
  ·rcases F.blk b h with h |h
   all_goals grind
 ·intro b hb hn;exact F.same b hb (.inr λh=>hn (.inr (.inr h)))
variable {f:FuncId}
theorem G27 {R:RfT}{ps:List Nat}(hR:G0t P f R ps acA acB){avs rs:List AV}(hl0:avs.length<=R.nt)(hpn:ps.Nodup)(hpN: ∀p∈ps,p<R.nt)
  (hrun:A40 P R.as0 (λτ=>A40 P R.as1 (λτ=>A40 P R.as2 (λτ=> ∃h caps T Obj encs xs,E0f P R ps acA acB rs α τ h caps T Obj encs xs) τ) τ) (Z5 avs [])):A1 P f avs [] (A49 rs) []:=by
 obtain⟨fn,i0,i1,i2,i3,i4,j,o0,o1,o2,o3,o4,asg,bd,hf,hb,hname,c0,c1,c2,c3,c4,hts,hlt,hnt,hca,hcb,hna,hnb,hpa,hpb⟩:=hR.ok;refine⟨by unfold A27;rw[hf];simp only;rw[hb];simp[hname],λG w ob vals hs hr=> ?_⟩;refine callsIn_wide.1 (callsIn_of_wp_marks (F:=Fence.wide) (n:=1) hf hb trivial (wpIn_wide.2 ?_));have hst:Sim fn.ntmps (Z5 avs []) {tmps:=vals.toArray++Array.replicate (fn.ntmps-vals.toArray.size) undef,defers:= []} w ob G:=C8i hs hr (by rw[hnt];exact hl0);refine wp_seq (F5v c0 hrun hst λτ0 a0 w0 ob0 G0 q0 k0 f0 x0=> ?_);show(Code.seq _ _).wp P _ a0 w0;refine wp_seq (F5v c1 q0 k0 λτ1 a1 w1 ob1 G1 q1 k1 f1 x1=> ?_);show(Code.seq _ _).wp P _ a1 w1;refine wp_seq (wp_seq (F5v c2 q1 k1 λτ2 a2 w2 ob2 G2 q2 k2 f2 x2=> ?_));show(Code.block _ _).wp P _ a2 w2;obtain⟨hh,caps,T,Obj,encs,xs,LR⟩:=q2;obtain⟨v,hv,hrel⟩:=k2.env R.gx _ LR.gx;cases hrel with
 |fn vs us hvn hum hvr hur=>
 have hvs:vs= #[]:=Array.eq_empty_of_size_eq_zero (by simpa using hvn);subst hvs;have hev:a2.eval (.tmp R.gx)= .func (.func hh) #[] us:=by show a2.tmps.getD R.gx undef=_;rw[Array.getD_eq_getD_getElem?,hv];rfl
 obtain⟨ρ,A,hwk⟩:=LR.weak;obtain⟨ob3,G3,s3,f3,_⟩:=B3c k2 hwk;have F3:Fr G w ob G3 w2 ob3:=((f0.trans f1).trans f2).trans f3;rw[hnt]at s3;refine wp_block (wpIn_wide.1 (wpIn_rangeFunc (F:=Fence.wide) (n:=1) λfnId _=> ?_));let wA:World:=(w2.alloc (.deferred (some []))).alloc (.loop {state:= .ready,pending:=none,fn:=fnId,tmps:=a2.tmps,params:=ps.toArray,assign:=asg,body:=bd,defers:=w2.heap.size})
 have hszA:wA.heap.size=w2.heap.size+2:=by simp[wA]
 have oldA: ∀b,b<w2.heap.size->wA.heap[b]? =w2.heap[b]? :=λb hb=>by show(World.alloc _ _).heap[b]? =_;rw[heap_alloc_old _ _ (by simp;omega),heap_alloc_old _ _ hb]
 have defA:wA.heap[w2.heap.size]? =some (.deferred (some [])):=by show(World.alloc _ _).heap[w2.heap.size]? =_;rw[heap_alloc_old _ _ (by simp),heap_alloc_new]
 have loopA:wA.heap[w2.heap.size+1]? =some (.loop (B0p fnId a2 ps asg bd w2.heap.size .ready)):=by have:=heap_alloc_new (w2.alloc (.deferred (some []))) (.loop {state:= .ready,pending:=none,fn:=fnId,tmps:=a2.tmps,params:=ps.toArray,assign:=asg,body:=bd,defers:=w2.heap.size});rw[World.size_alloc]at this;exact this
 have extA:Ext w2 wA:=⟨by omega,oldA,rfl,rfl,rfl,Nat.le_refl _⟩
 have hG3: ∀b,G3 b->b<w2.heap.size:=s3.objs.lt
 let I:C1q P α:= {
  l:=w2.heap.size+1,encs:=encs,bound:=xs.length
  J:=λpre W Φ=> ∃ob',RJ R T Obj a2 w2 ob3 G3 (w2.heap.size+1) w2.heap.size (B0p fnId a2 ps asg bd w2.heap.size .ready) pre W Φ ob'
  lt:=by
   rintro pre W Φ b ⟨ob',hJ⟩ hb;obtain⟨s,f,xt,hl,hD,hne,rfl⟩:=hJ;rcases hb with rfl |rfl |hb
   ·exact(Array.getElem?_eq_some_iff.1 hl).1
   ·exact(Array.getElem?_eq_some_iff.1 hD).1
   ·exact s.objs.blks_lt hb
  ext:=by rintro pre W W' Φ ⟨ob',hJ⟩ hx;obtain⟨s,f,xt,hl,hD,hne,rfl⟩:=hJ;exact⟨ob',s.frame hx.size λb hb _=>hx.same b hb,f.ext hx,xt,(hx.same _ (Array.getElem?_eq_some_iff.1 hl).1).trans hl,(hx.same _ (Array.getElem?_eq_some_iff.1 hD).1).trans hD,hne,rfl⟩
  rnd:=by rintro pre x W Φ vals ⟨ob',hJ⟩ hlen hrl;obtain⟨tmps,h1,h2⟩:=F8f (P:=P) hG3 (by omega) (Nat.le_refl _) hpn hpN LR.len (by omega) hca hcb hna hnb hpa hpb (λpre id o h=>(LR.nd pre id o h).1) hJ hrl (LR.body pre x hlen);exact⟨_,tmps,_,_,h1,h2⟩}
 have hJ0:I.J [] wA (λb=>b=w2.heap.size+1\/b=w2.heap.size\/O6 ob3 b):=by refine⟨ob3,s3.frame (by omega) λb hb _=>oldA b hb,(Fr.refl G3 w2 ob3).ext extA,C7.refl _,loopA,defA,λb hb=> ?_,rfl⟩;have:=s3.objs.blks_lt hb;exact⟨by omega,by omega⟩
 have hpure: ∀ {Gx:Nat->Prop} {ob':Place},(∀b,G2 b->Gx b)->A6y Gx wA ob' caps us.toList:=λ{Gx ob'} hg=>by
  refine⟨by simp[hum],λj av hj=> ?_⟩;have h1:=hur j av hj
  have h2:Rel G2 w2 ob' av (us.getD j undef):=h1.flat_free (AV.flat_of_pure (B6r LR.pure hj))
  have h3:=h2.ext hg (λb hb=>oldA b (k2.objs.lt b hb)) (C7.refl _);simpa[List.getD]using h3
 have hcall:=LR.it I rfl rfl us.toList wA (λb=>G2 b) (λb=>b=w2.heap.size+1\/b=w2.heap.size\/O6 ob3 b) (hpure λ_ h=>h) (λb hb=>by have:=k2.objs.lt b hb;omega) hJ0 ?_
 case refine_1=>
  rintro b hb (h |h |h)
  ·have:=k2.objs.lt b hb;omega
  ·have:=k2.objs.lt b hb;omega
  ·obtain⟨id,i,hi,hh⟩:=h;cases ho:ofL (Obj []) id with
   |none=>rw[(s3.objs.dom id).1 ho]at hi;cases hi
   |some o=>exact s3.objs.sep id o i b ho (LR.nd _ _ _ ho).2 hi hh (f3.sub b hb)
 have hcall2:=callsIn_wide.1 hcall
 have eus:us.toList.toArray=us:=by simp
 rw[eus]at hcall2;refine⟨w2.heap.size+1,[{target:= .collected w2.heap.size,args:= #[]}],wA,{target:= .fn (.func hh) us,args:= #[.func (.yield (w2.heap.size+1)) #[] #[]]},wA,hh,_,wA,run_enterLoop_outer ..,?_,λ_ _=>trivial,?_,λh=>by simp[Fence.wide]at h,callsIn_wide.2 (hcall2.mono ?_)⟩
 ·simp[resolve,Deferred.ofValue,Act.eval,hv]
 ·simp[invoke,A7r LR.call];rfl
 rintro e w4 ⟨⟨v4,rfl⟩,Φ4,ob4,J4⟩;obtain⟨s4,f4,x4,hl4,hd4,hne4,_⟩:=J4;refine⟨none,_,run_endLoop hl4 (by simp[B0p]),?_⟩;show Exit.inBlock _ _ _ _ _;generalize hw5:w4.putObj (w2.heap.size+1) _=w5;have hsz5:w5.heap.size=w4.heap.size:=by rw[<-hw5];simp
 have hwA':w2.heap.size+2<=w4.heap.size:=by grind
 have old5: ∀b,b≠w2.heap.size+1->w5.heap[b]? =w4.heap[b]? :=λb hb=>by rw[<-hw5];exact World.putObj_heap_other hb
 have hsz4:=f4.size
 have F5:Fr G3 w2 ob3 G3 w5 ob4:=by
  refine⟨by omega,λb hb hc=> ?_,f4.blk,λ_ h=>h,λ_ h=> .inl h,?_,?_,?_,?_⟩
  ·rw[old5 b (by omega)];exact f4.same b hb hc
  ·rw[<-hw5];exact f4.os
  ·rw[<-hw5];exact f4.tape
  ·rw[<-hw5];exact f4.output
  ·rw[<-hw5];exact f4.drawn
 have k3:Sim R.nt (A1x T (Obj xs)) a2 w5 ob4 G3:=s4.frame (by omega) λb hb hc=>old5 b λe=>by grind
 have hd5:w5.heap[w2.heap.size]? =some (.deferred (some [])):=(old5 _ (by omega)).trans hd4
 have hdf:({a2 with defers:= [{target:= .collected w2.heap.size,args:= #[]}]++a2.defers}:Act)=a2.more [{target:= .collected w2.heap.size,args:= #[]}]:=by unfold Act.more;rw[k2.defers];rfl
 rw[hdf];rw[hnt]at c3 c4 hlt;show(Code.seq _ _).wp P _ (a2.more _) w5;refine wp_seq (E0y c3 LR.post k3 λτ3 a3 w6 ob6 G6 q3 k4 f6 x6=> ?_);show(Code.seq _ _).wp P _ (a3.more _) w6;refine wp_seq (E0y c4 q3 k4 λτ4 a4 w7 ob7 G7 q4 k5 f7 x7=> ?_);show Code.ret.wp P _ (a4.more _) w7;refine wp_ret ?_;show LeavesInM _ _ P fn a4.tmps _ (a4.defers++ [_]) .returning w7;rw[k5.defers,List.nil_append];have F7:Fr G3 w5 ob4 G7 w7 ob7:=f6.trans f7
 have nB5: ¬O6 ob4 w2.heap.size:=λhb=>(hne4 _ hb).2 rfl
 have hd7:w7.heap[w2.heap.size]? =some (.deferred (some [])):=(F7.same _ (by omega) (.inr nB5)).trans hd5;refine⟨by simp, .inl ⟨_,_,rfl,run_takeDeferred hd7,?_⟩⟩;have notG7: ¬G7 w2.heap.size:=λhG=>by
  rcases F7.new _ hG with h |h |h
  all_goals grind
 have notB7: ¬O6 ob7 w2.heap.size:=λhb=>by
  rcases F7.blk _ hb with h |h
  ·exact nB5 h
  ·omega
 have old8: ∀b,b≠w2.heap.size->(w7.putObj w2.heap.size (.deferred none)).heap[b]? =w7.heap[b]? :=λb hb=>World.putObj_heap_other hb
 have k8:Sim R.nt τ4 a4 (w7.putObj w2.heap.size (.deferred none)) ob7 G7:=k5.frame (by simp) λb hb hc=>old8 b λe=>by grind
 have FT:Fr G w ob G7 w7 ob7:=(F3.trans F5).trans F7
 have F8:Fr G w ob G7 (w7.putObj w2.heap.size (.deferred none)) ob7:=by refine⟨by simp;exact FT.size,λb hb hc=> ?_,FT.blk,FT.sub,FT.new,FT.os,FT.tape,FT.output,FT.drawn⟩;have:=F3.size;rw[old8 b (by omega)];exact FT.same b hb hc
 have hlt': ∀p∈R.rvs,p.1<R.nt:=λp hp=>by have:=List.all_eq_true.1 hlt p hp;simpa[Nat.blt_eq]using this
 obtain⟨σ2,aF,vF,q1,q2,hvF,hvF'⟩:=B8u hts k8 hlt' q4;obtain⟨md,hml,hrl,ρ,A,hw⟩:=q1;obtain⟨obF,GF,z1,z2,z3⟩:=B3c q2 hw;refine⟨vF,hvF,vF,GF,obF,rfl,z1.objs,?_,F8.trans z2,?_⟩
 ·rw[hvF'];exact D34 hrl λj t r ht hr=>z1.env t r (C0j hml hrl List.nodup_range' j t r ht hr)
 ·intro id i hi;have e0:=D09 hs;rw[e0]at hi;cases hi
end
section
variable {P:Program} {N:Nat} {α:Type} {I:C1q P α}
@[reducible] def yC(T':H7):Cont:=⟨λo τ=>match o with | .normal=>Y2 [] τ T' [] |_=>False⟩
theorem G3i {T':H7}: @Qi (yC T') .normal σ=Y2 [] σ T' []:=rfl
attribute [go_sem] G3i
theorem Yp.plainN(hm:P.follows .mixedOrders=true){ac:ACode}{Q:Out->H7->List α->Prop}{T:H7}{pre:List α}(T':H7)(h: @Wi P N [] ac (yC T') (A1x T []))(hq:Q .normal T' pre):Yp I N ac Q T pre:=by
 refine Yp.plain ((Wp.of_W hm ac h).mono λo τ ho=> ?_);cases o with
 |normal=>exact⟨T',hq,ho⟩
 |exit i=>exact ho.elim
 |ret=>exact ho.elim
variable {ac:ACode} {pre:List α}
theorem Yp.pre_eq {Q:Out->H7->List α->Prop}{pre':List α}(e:pre=pre')(h:Yp I N ac Q T pre'):Yp I N ac Q T pre:=e▸h
theorem Yp.skip(hm:P.follows .mixedOrders=true){Q:Out->H7->List α->Prop}{T:H7}{pre:List α}(h:Q .normal T pre):Yp I N .skip Q T pre:=by
 intro c hc a W hS;cases c <;> simp only[D9,ACode.strip,Option.some.injEq,reduceCtorEq]at hc
 case skip=>exact wp_skip ⟨.normal,T,pre,rfl,h,hS⟩
 case label=>exact wp_label ⟨.normal,T,pre,rfl,h,hS⟩
 all_goals(repeat' split at hc) <;> simp at hc
theorem Yp.exit {id:Nat}{Q:Out->H7->List α->Prop}{T:H7}{pre:List α}(h:Q (.exit id) T pre):Yp I N (.exit id) Q T pre:=by
 intro c hc a W hS;cases c <;> simp only[D9,ACode.strip,Option.some.injEq,reduceCtorEq]at hc
 case exit id'=>simp only[ACode.exit.injEq]at hc;subst hc;exact wp_exit ⟨.exit id',T,pre,rfl,h,hS⟩
 all_goals(repeat' split at hc) <;> simp at hc
@[reducible] def rfC(Q:St->Prop):Cont:=⟨λo τ=>match o with | .normal=>Q τ |_=>False⟩
theorem F3j {Q:St->Prop}: @Qi (rfC Q) .normal σ=Q σ:=rfl
variable {d:Nat} {xs:List AX}
theorem Yp.yieldI {pr po:List AOper}{x:AX}{p:List α}{Q:Out->H7->List α->Prop}(v:α)(T':H7)(hp:p.length<I.bound)(hn: ∀av∈I.encs v,av.noDsl=true/\av.flat=true)
  (h1: @Wi P N [] (.region false pr) (rfC λτ=>τ.ev x=some (true, .fn (.yield I.l) [] [])/\τ.es xs=some (I.encs v)/\(∀y∈xs,τ.c y=true)/\τ.objs=ofL []/\
    @Wi P N [] (.region false po) (yC T') (τ.put (some d) true ⟨some (.sc (.bool true)),[]⟩)) (A1x T []))(hq:Q .normal T' (p++ [v])):Yp I N (.region false (pr++⟨some d, .callv x xs,none,[]⟩::po)) Q T p:=by
 refine Yp.yield v hp (λG W ob vals hr G' ob'=>⟨hr.1,λj av hj=> ?_⟩) (show A40 P pr _ _ from h1) λτ hτ=> ?_
 ·have hm':=List.mem_of_getElem? hj
  exact((hr.2 j av hj).noDsl (hn av hm').1).flat_free (hn av hm').2
 ·obtain⟨a1,a2,a3,a5,a6⟩:=hτ;exact⟨a1,a2,a3,a5,_,(show A40 P po _ _ from a6),λτ' h'=>⟨T',hq,h'⟩⟩
theorem G37(α:Type){L:List (Nat×List Bool)}{f:FuncId}{fn:Func}(N:Nat)(rvs:List (Nat×Option (Option Nat))){i0 i1 i2 i3 i4 j gx:Nat}{o0 o1 o2 o3 o4:Array Oper}(ps:List Nat){asg bd:Code}{a0 a1 a2 a3 a4:List AOper}{acA acB:ACode}{avs rs:List AV}
  (hL:okE P L=true)(hf:P.funcs[f]? =some fn)
  (hb:fn.body=some (.seq (.region i0 o0 false) (.seq (.region i1 o1 false) (.seq (.seq (.region i2 o2 false) (.block j (.rangeFunc (.tmp gx) ps.toArray asg bd))) (.seq (.region i3 o3 false) (.seq (.region i4 o4 false) .ret))))))
  (h0:B0q P L N o0 o0.toList=some a0)(h1:B0q P L N o1 o1.toList=some a1)(h2:B0q P L N o2 o2.toList=some a2)(h3:B0q P L N o3 o3.toList=some a3)(h4:B0q P L N o4 o4.toList=some a4)
  (hA:M6 P L N asg=some acA)(hB:M6 P L N bd=some acB)(n1:A2z asg=true)(n2:A2z bd=true)(p1:plA acA=true)(p2:plA acB=true)(hps:ps.Nodup)(hpN: ∀p∈ps,p<N)(hl:avs.length<=N)
  (hrun: @Wi P N [] (.seq (.region false a0) (.seq (.region false a1) (.region false a2))) (rfC λτ=> ∃(h:FuncId) (caps:List AV) (T:H7) (Obj:List α->List (Nat×A5)) (encs:α->List AV) (xs:List α),E0f P ⟨N,a0,a1,a2,gx,a3,a4,rvs⟩ ps acA acB rs α τ h caps T Obj encs xs) (Z5 avs []))
  (hN:fn.ntmps=N:=by kernel_rfl)(hts:A5v P fn.results.toList=some rvs:=by kernel_rfl)
  (hname:(fn.name != "runtime.NumGoroutine")=true:=by kernel_rfl)(hlt:(rvs.all λp=>p.1.blt N)=true:=by decide):A1 P f avs [] (A49 rs) []:=by
 subst hN;exact G27 (α:=α) (R:=⟨fn.ntmps,a0,a1,a2,gx,a3,a4,rvs⟩) ⟨⟨fn,i0,i1,i2,i3,i4,j,o0,o1,o2,o3,o4,asg,bd,hf,hb,hname,A77 hL h0,A77 hL h1,A77 hL h2,A77 hL h3,A77 hL h4,hts,hlt,rfl,cs2 hL hA,cs2 hL hB,n1,n2,p1,p2⟩⟩ hl hps hpN hrun
end
end Go.Abs
end
