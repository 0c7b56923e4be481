/- A part of the proof: what a function does, over abstract values and objects, and its ties to the model. -/
import Derived.Test.YtchcbiiammkhgaaGreatLB
import Derived.Scope
import Derived.WalkKit
import Derived.ProofKit
import Derived.OpenShut
import Derived.ChangeOld
import Derived.Below
import Derived.Attr
import Derived.Sort.Grow
import Derived.Lib.SlicesCompact
import Derived.KernelRfl
set_option linter.unusedSimpArgs false
set_option linter.unusedVariables false
set_option linter.unnecessarySimpa false
set_option maxRecDepth 100000
set_option maxHeartbeats 2000000
noncomputable section
namespace Go.Abs
inductive ACode where
 |skip
 |region (draw:Bool) (ops:List dA)
 |seq (a b:ACode)
 |cond (c:AX) (a b:ACode)
 |block (id:Nat) (a:ACode)
 |loop (a:ACode)
 |exit (id:Nat)
 |ret
 |mark (a:ACode)
 |scope (a:ACode)
def ACode.strip:ACode->ACode
 | .seq a b=> .seq a.strip b.strip
 | .cond c a b=> .cond c a.strip b.strip
 | .block id a=> .block id a.strip
 | .loop a=> .loop a.strip
 | .mark a=>a.strip
 | .scope a=> .scope a.strip
 |c=>c
def F9(P:Program)(N:Nat):Code->Option ACode
 | .skip=>some .skip
 | .region _ ops draw=>match A85 P N ops draw with
   |some as=>some (.region draw as)
   |none=>none
 | .seq a b=>match F9 P N a,F9 P N b with
   |some x,some y=>some (.seq x y)
   |_,_=>none
 | .cond c a b=>match cx c,F9 P N a,F9 P N b with
   |some k,some x,some y=>some (.cond k x y)
   |_,_,_=>none
 | .block id a=>match F9 P N a with
   |some x=>some (.block id x)
   |none=>none
 | .loop a=>match F9 P N a with
   |some x=>some (.loop x)
   |none=>none
 | .scope a=>match F9 P N a with
   |some x=>some (.scope x)
   |none=>none
 | .exit id=>some (.exit id)
 | .label _=>some .skip
 | .ret=>some .ret
 |_=>none
inductive Out where
 |normal |exit (id:Nat) |ret
def Out.then(a:St->Prop)(Q:Out->St->Prop):Out->St->Prop
 | .normal,σ=>a σ
 | .exit i,σ=>Q (.exit i) σ
 | .ret,σ=>Q .ret σ
def Out.inBlock(id:Nat)(Q:Out->St->Prop):Out->St->Prop
 | .normal,σ=>Q .normal σ
 | .exit i,σ=>if i=id then Q .normal σ else Q (.exit i) σ
 | .ret,σ=>Q .ret σ
variable {σ σ':St}
@[congr] theorem Out.then_congr {a:St->Prop}{Q:Out->St->Prop}{o o':Out}(h:o=o')(hs:σ=σ'):Out.then a Q o σ=Out.then a Q o' σ':=by rw[h,hs]
@[congr] theorem Out.inBlock_congr {id:Nat}{Q:Out->St->Prop}{o o':Out}(h:o=o')(hs:σ=σ'):Out.inBlock id Q o σ=Out.inBlock id Q o' σ':=by rw[h,hs]
def Out.exit':Out->Exit
 | .normal=> .normal
 | .exit i=> .exit i
 | .ret=> .ret
structure E5x where
 G:Nat->Prop
 w:World
 ob:Place
structure C17 (K:List Nat) (Γ:E5x) (G:Nat->Prop) (w:World) (ob:Place):Prop where
 fr:Fr Γ.G Γ.w Γ.ob G w ob
 ext:OBx (· ∈K) Γ.ob ob
def E8e(K:List Nat)(N:Nat)(Γ:E5x)(Q:Out->St->Prop):Exit->Act->World->Prop:=λe a w=>∃o σ ob G,e=Out.exit' o/\Q o σ/\Sim N σ a w ob G/\C17 K Γ G w ob
def Wp(P:Program)(N:Nat)(K:List Nat)(ac:ACode)(Q:Out->St->Prop)(σ:St):Prop:=∀c,F9 P N c=some ac.strip-> ∀(Γ:E5x) (a:Act) (w:World) (ob:Place) (G:Nat->Prop),Sim N σ a w ob G->C17 K Γ G w ob->c.wp P (E8e K N Γ Q) a w
def W(P:Program)(N:Nat)(K:List Nat):ACode->(Out->St->Prop)->St->Prop
 | .skip,Q,σ=>Q .normal σ
 | .region false ops,Q,σ=>A47 P ops (Q .normal) σ
 | .region true ops,Q,σ=>C4l P ops [] (Q .normal) σ
 | .seq a b,Q,σ=>W P N K a (Out.then (W P N K b Q) Q) σ
 | .cond c a b,Q,σ=>match σ.ev c with
   |some (true, .sc (.bool t))=>if t=true then W P N K a Q σ else W P N K b Q σ
   |_=>False
 | .block id a,Q,σ=>W P N K a (Out.inBlock id Q) σ
 | .loop a,Q,σ=>Wp P N K (.loop a) Q σ
 | .exit id,Q,σ=>Q (.exit id) σ
 | .ret,Q,σ=>Q .ret σ
 | .mark a,Q,σ=>Wp P N K a Q σ
 | .scope a,Q,σ=>W P N K a Q σ
@[congr] theorem G8n {P:Program}{N:Nat}{K:List Nat}{c:ACode}{Q:Out->St->Prop}(h:σ=σ'):W P N K c Q σ=W P N K c Q σ':=by rw[h]
@[congr] theorem G7i {P:Program}{N:Nat}{K:List Nat}{c:ACode}{Q:Out->St->Prop}(h:σ=σ'):Wp P N K c Q σ=Wp P N K c Q σ':=by rw[h]
def V9(K:List Nat)(σ:St)(T:J6)(O:List (Nat×A7)):Prop:= ∃ρ A,G0c K σ ρ A T O
section
variable {P:Program} {N:Nat} {K:List Nat}
theorem OBx.trans {K:Nat->Prop}{o1 o2 o3:Place}(h:OBx K o1 o2)(h':OBx K o2 o3):OBx K o1 o3:=by
 intro id i hk hi;obtain⟨i',hi',h1⟩:=h id i hk hi;obtain⟨i'',hi'',h2⟩:=h' id i' hk hi'
 grind
variable {w:World} {G:Nat->Prop} {ob:Place} {w':World} {ob':Place} {G':Nat->Prop}
theorem C17.step {Γ:E5x}(h:C17 K Γ G w ob)(hf:Fr G w ob G' w' ob')(he:D4 ob ob'):C17 K Γ G' w' ob':=⟨h.fr.trans hf,h.ext.trans λid i _ hi=>he id i hi⟩
variable {ac:ACode}
theorem Wp.mono {Q Q':Out->St->Prop}(h:Wp P N K ac Q σ)(hq: ∀o σ,Q o σ->Q' o σ):Wp P N K ac Q' σ:=λc hc Γ a w ob G hs hΓ=>wp_mono (h c hc Γ a w ob G hs hΓ) λ_ _ _ ⟨o,σ,ob,G,h1,h2,h3,h4⟩=>⟨o,σ,ob,G,h1,hq o σ h2,h3,h4⟩
theorem Wp.of_W(hm:P.follows .mixedOrders=true): ∀(ac:ACode) {Q:Out->St->Prop} {σ:St},W P N K ac Q σ->Wp P N K ac Q σ
 | .skip,Q,σ,h=>λc hc Γ a w ob G hs hΓ=>by
   have hn:E8e K N Γ Q .normal a w:=⟨.normal,σ,ob,G,rfl,h,hs,hΓ⟩;cases c <;> simp only[F9,ACode.strip,Option.some.injEq,reduceCtorEq]at hc
   case skip=>exact wp_skip hn
   case label=>exact wp_label hn
   all_goals grind
 | .region d ops,Q,σ,h=>λc hc Γ a w ob G hs hΓ=>by
   cases c <;> simp only[F9,ACode.strip,Option.some.injEq,reduceCtorEq]at hc
   case region id os draw=>
    split at hc
    ·rename_i as has;simp only[Option.some.injEq,ACode.region.injEq]at hc;obtain⟨rfl,rfl⟩:=hc;cases draw with
     |true=>exact F03 hm has hs h λτ a' w' ob' G' hq s f e=>⟨.normal,τ,ob',G',rfl,hq,s,hΓ.step f e⟩
     |false=>
      unfold A85 at has;split at has
      ·rename_i as' hcop;simp only[Bool.false_eq_true,if_false,Option.some.injEq]at has;subst has;refine wp_region ?_;have:=D4q (Q:=Q .normal) (R:=E8e K N Γ Q) os.toList as' 0 σ a w ob G hcop (λi o hi=>by simpa using hi) hs h
        (λτ a' w' ob' G' hq s f e=>⟨.normal,τ,ob',G',rfl,hq,s,hΓ.step f e⟩)
       rw[List.range_eq_range'];simpa using this
      ·cases has
    ·cases hc
   all_goals grind
 | .seq x y,Q,σ,h=>λc hc Γ a w ob G hs hΓ=>by
   cases c <;> simp only[F9,ACode.strip,Option.some.injEq,reduceCtorEq]at hc
   case seq c1 c2=>
    split at hc
    ·rename_i x' y' h1 h2;simp only[Option.some.injEq,ACode.seq.injEq]at hc;obtain⟨rfl,rfl⟩:=hc;refine wp_seq (wp_mono (Wp.of_W hm x h c1 h1 Γ a w ob G hs hΓ) ?_);rintro e a' w' ⟨o,τ,ob',G',rfl,hq,s,hΓ'⟩;cases o with
     |normal=>exact Wp.of_W hm y hq c2 h2 Γ a' w' ob' G' s hΓ'
     |exit i=>exact⟨.exit i,τ,ob',G',rfl,hq,s,hΓ'⟩
     |ret=>exact⟨.ret,τ,ob',G',rfl,hq,s,hΓ'⟩
    ·cases hc
   all_goals grind
 | .cond k x y,Q,σ,h=>λc hc Γ a w ob G hs hΓ=>by
   cases c <;> simp only[F9,ACode.strip,Option.some.injEq,reduceCtorEq]at hc
   case cond c0 c1 c2=>
    split at hc
    ·rename_i k' x' y' h0 h1 h2;simp only[Option.some.injEq,ACode.cond.injEq]at hc;obtain⟨rfl,rfl,rfl⟩:=hc;simp only[W]at h;split at h
     ·rename_i t ht;have hv:a.eval c0= .bool t:=(hs.opRel c0 k' (.sc (.bool t)) h0 (by simp[St.e',ht])).sc_eq;refine wp_cond hv ?_;cases t with
      |true=>rw[if_pos rfl]at h;exact Wp.of_W hm x h c1 h1 Γ a w ob G hs hΓ
      |false=>rw[if_neg (by simp)]at h;exact Wp.of_W hm y h c2 h2 Γ a w ob G hs hΓ
     ·exact h.elim
    ·cases hc
   all_goals grind
 | .block id x,Q,σ,h=>λc hc Γ a w ob G hs hΓ=>by
   cases c <;> simp only[F9,ACode.strip,Option.some.injEq,reduceCtorEq]at hc
   case block id' c1=>
    split at hc
    ·rename_i x' h1;simp only[Option.some.injEq,ACode.block.injEq]at hc;obtain⟨rfl,rfl⟩:=hc;refine wp_block (wp_mono (Wp.of_W hm x h c1 h1 Γ a w ob G hs hΓ) ?_);rintro e a' w' ⟨o,τ,ob',G',rfl,hq,s,hΓ'⟩;cases o with
     |normal=>exact⟨.normal,τ,ob',G',rfl,hq,s,hΓ'⟩
     |exit i=>
      simp only[Out.exit',Exit.inBlock];simp only[Out.inBlock]at hq;split
      ·rename_i e;rw[if_pos e]at hq;exact⟨.normal,τ,ob',G',rfl,hq,s,hΓ'⟩
      ·rename_i e;rw[if_neg e]at hq;exact⟨.exit i,τ,ob',G',rfl,hq,s,hΓ'⟩
     |ret=>exact⟨.ret,τ,ob',G',rfl,hq,s,hΓ'⟩
    ·cases hc
   all_goals grind
 | .scope x,Q,σ,h=>λc hc Γ a w ob G hs hΓ=>by
   cases c <;> simp only[F9,ACode.strip,Option.some.injEq,reduceCtorEq]at hc
   case scope c1=>
    split at hc
    ·rename_i x' h1;simp only[Option.some.injEq,ACode.scope.injEq]at hc;obtain rfl:=hc;refine wp_scope_straight (wp_mono (Wp.of_W hm x h c1 h1 Γ a w ob G hs hΓ) ?_);rintro e a' w' ⟨o,τ,ob',G',rfl,hq,s,hΓ'⟩;cases o <;> exact⟨_,τ,ob',G',rfl,hq,s,hΓ'⟩
    ·cases hc
   all_goals grind
 | .loop x,Q,σ,h=>h
 | .exit id,Q,σ,h=>λc hc Γ a w ob G hs hΓ=>by
   cases c <;> simp only[F9,ACode.strip,Option.some.injEq,reduceCtorEq]at hc
   case exit id'=>simp only[ACode.exit.injEq]at hc;subst hc;exact wp_exit ⟨.exit id',σ,ob,G,rfl,h,hs,hΓ⟩
   all_goals grind
 | .ret,Q,σ,h=>λc hc Γ a w ob G hs hΓ=>by
   cases c <;> simp only[F9,ACode.strip,Option.some.injEq,reduceCtorEq]at hc
   case ret=>exact wp_ret ⟨.ret,σ,ob,G,rfl,h,hs,hΓ⟩
   all_goals grind
 | .mark x,Q,σ,h=>λc hc=>h c hc
variable {O:List (Nat×A7)} {T:J6}
theorem Wp.weak {Q:Out->St->Prop}(h:V9 K σ T O)(hw:Wp P N K ac Q (A13 T O)):Wp P N K ac Q σ:=by intro c hc Γ a w ob G hs hΓ;obtain⟨ρ,A,h⟩:=h;obtain⟨ob2,G2,h1,h2,h3⟩:=B3z hs h;exact hw c hc Γ a w ob2 G2 h1 ⟨hΓ.fr.trans h2,hΓ.ext.trans λid i hk hi=>⟨i,by rw[h3 id hk];exact hi, .inl rfl⟩⟩
theorem Wp.seq {x y:ACode}{Q:Out->St->Prop}{σ:St}(h:Wp P N K x (Out.then (Wp P N K y Q) Q) σ):Wp P N K (.seq x y) Q σ:=by
 intro c hc Γ a w ob G hs hΓ;cases c <;> simp only[F9,ACode.strip,Option.some.injEq,reduceCtorEq]at hc
 case seq c1 c2=>
  split at hc
  ·rename_i x' y' h1 h2;simp only[Option.some.injEq,ACode.seq.injEq]at hc;obtain⟨rfl,rfl⟩:=hc;refine wp_seq (wp_mono (h c1 h1 Γ a w ob G hs hΓ) ?_);rintro e a' w' ⟨o,τ,ob',G',rfl,hq,s,hΓ'⟩;cases o with
   |normal=>exact hq c2 h2 Γ a' w' ob' G' s hΓ'
   |exit i=>exact⟨.exit i,τ,ob',G',rfl,hq,s,hΓ'⟩
   |ret=>exact⟨.ret,τ,ob',G',rfl,hq,s,hΓ'⟩
  ·cases hc
 all_goals grind
theorem Wp.block {id:Nat}{x:ACode}{Q:Out->St->Prop}{σ:St}(h:Wp P N K x (Out.inBlock id Q) σ):Wp P N K (.block id x) Q σ:=by
 intro c hc Γ a w ob G hs hΓ;cases c <;> simp only[F9,ACode.strip,Option.some.injEq,reduceCtorEq]at hc
 case block id' c1=>
  split at hc
  ·rename_i x' h1;simp only[Option.some.injEq,ACode.block.injEq]at hc;obtain⟨rfl,rfl⟩:=hc;refine wp_block (wp_mono (h c1 h1 Γ a w ob G hs hΓ) ?_);rintro e a' w' ⟨o,τ,ob',G',rfl,hq,s,hΓ'⟩;cases o with
   |normal=>exact⟨.normal,τ,ob',G',rfl,hq,s,hΓ'⟩
   |exit i=>
    simp only[Out.exit',Exit.inBlock];simp only[Out.inBlock]at hq;split
    ·rename_i e;rw[if_pos e]at hq;exact⟨.normal,τ,ob',G',rfl,hq,s,hΓ'⟩
    ·rename_i e;rw[if_neg e]at hq;exact⟨.exit i,τ,ob',G',rfl,hq,s,hΓ'⟩
   |ret=>exact⟨.ret,τ,ob',G',rfl,hq,s,hΓ'⟩
  ·cases hc
 all_goals grind
theorem Wp.loop {x:ACode}{Q:Out->St->Prop}{σ:St}{ι:Type}(T:ι->J6)(O:ι->List (Nat×A7))(μ:ι->Nat)(i0:ι)(h0:V9 K σ (T i0) (O i0))
  (h: ∀i,Wp P N K x (Out.then (λτ=> ∃i',μ i'<μ i/\V9 K τ (T i') (O i')) Q) (A13 (T i) (O i))):Wp P N K (.loop x) Q σ:=by
 intro c hc Γ a w ob G hs hΓ;cases c <;> simp only[F9,ACode.strip,Option.some.injEq,reduceCtorEq]at hc
 case loop c1=>
  split at hc
  ·rename_i x' h1;simp only[Option.some.injEq,ACode.loop.injEq]at hc;obtain rfl:=hc;have enter: ∀(τ:St) (a':Act) (w':World) (ob':Place) (G':Nat->Prop) (i:ι),V9 K τ (T i) (O i)->Sim N τ a' w' ob' G'->C17 K Γ G' w' ob'->
     ∃ob2 G2,Sim N (A13 (T i) (O i)) a' w' ob2 G2/\C17 K Γ G2 w' ob2:=by
    rintro τ a' w' ob' G' i ⟨ρ,A,hw⟩ s hΓ';obtain⟨ob2,G2,g1,g2,g3⟩:=B3z s hw;exact⟨ob2,G2,g1,hΓ'.fr.trans g2,hΓ'.ext.trans λid j hk hi=>⟨j,by rw[g3 id hk];exact hi, .inl rfl⟩⟩
   intro b k cs;have key: ∀n i,μ i=n-> ∀(a':Act) (w':World) (ob':Place) (G':Nat->Prop),Sim N (A13 (T i) (O i)) a' w' ob' G'->C17 K Γ G' w' ob'->
     ∃e a2 w2,E8e K N Γ Q e a2 w2/\Arrives P (lone (b.at a' (.code c1:: .inLoop c1::k)) cs w') b k cs e a2 w2:=by
    intro n;induction n using Nat.strongRecOn with
    |_ n ih=>
     intro i hn a' w' ob' G' hs' hΓ';obtain⟨e,a1,w1,hq,harr⟩:=h i c1 h1 Γ a' w' ob' G' hs' hΓ' b (.inLoop c1::k) cs;obtain⟨o,τ,ob1,G1,rfl,hq,s,hΓ1⟩:=hq;cases o with
     |normal=>obtain⟨i',hlt,hw⟩:=hq;obtain⟨ob2,G2,s2,hΓ2⟩:=enter τ a1 w1 ob1 G1 i' hw s hΓ1;obtain⟨e2,a2,w2,hq2,harr2⟩:=ih (μ i') (hn▸hlt) i' rfl a1 w1 ob2 G2 s2 hΓ2;exact⟨e2,a2,w2,hq2, .of_steps (Steps.trans harr (.one step_inLoop)) harr2⟩
     |exit id=>exact⟨.exit id,a1,w1,⟨.exit id,τ,ob1,G1,rfl,hq,s,hΓ1⟩, .pass (x:= .inLoop c1) rfl (λ_ _=> .inl (by simp)) harr⟩
     |ret=>exact⟨.ret,a1,w1,⟨.ret,τ,ob1,G1,rfl,hq,s,hΓ1⟩, .pass (x:= .inLoop c1) rfl (λ_ _=> .inl (by simp)) harr⟩
   obtain⟨ob2,G2,s2,hΓ2⟩:=enter σ a w ob G i0 h0 hs hΓ;obtain⟨e,a',w',hq,harr⟩:=key _ i0 rfl a w ob2 G2 s2 hΓ2;exact⟨e,a',w',hq, .of_steps (.one step_loop) harr⟩
  ·cases hc
 all_goals grind
end
def B58:Nat->List AV->J6
 |_,[]=> []
 |i,v::vs=>(i, .cA,v)::B58 (i+1) vs
def A0s(args:List AV)(O:List (Nat×A7)):St:=A13 (B58 0 args) O
def A5t:List AV->AV
 | [r]=>r
 |rs=> .tup rs
def C1g:List Nat->List C3n->List AV->J6
 |t::ts,m::ms,r::rs=>(t,m,r)::C1g ts ms rs
 |_,_,_=> []
def A8c(K:List Nat)(σ:St)(ts:List Nat)(rs:List AV)(O:List (Nat×A7)):Prop:= ∃md,md.length=ts.length/\rs.length=ts.length/\V9 K σ (C1g ts md rs) O
def E3a(K:List Nat)(ts:List Nat)(R:List AV->List (Nat×A7)->Prop)(o:Out)(σ:St):Prop:=
 match o with
 | .exit _=>False
 | .normal=> ∃rs O,R rs O/\A8c K σ ts rs O
 | .ret=> ∃rs O,R rs O/\A8c K σ ts rs O
def A4u:List ResultVar->Option (List Nat)
 | []=>some []
 | .tmp t::r=>match A4u r with
   |some ts=>some (t::ts)
   |none=>none
 | .cell .. ::_=>none
section
variable {P:Program} {N:Nat} {K:List Nat}
theorem E4p: ∀ {l:List ResultVar} {ts:List Nat},A4u l=some ts->l=ts.map .tmp
 | [],ts,h=>by simp only[A4u,Option.some.injEq]at h;subst h;rfl
 | .tmp t::r,ts,h=>by
   simp only[A4u]at h;split at h
   ·rename_i ts' h1;simp only[Option.some.injEq]at h;subst h;rw[E4p h1];rfl
   ·cases h
 | .cell a b::r,ts,h=>by simp[A4u]at h
variable {ts:List Nat} {fn:Func}
theorem F0i(h:A4u fn.results.toList=some ts)(tmps:Array Value)(w:World):
  ∃v,(results fn tmps).run P w= .ok v w/\v=(match ts.map (λt=>tmps.getD t undef)with | [x]=>x |vs=> .tuple vs.toArray):=by
 have h1:fn.results=(ts.map ResultVar.tmp).toArray:=by rw[<-E4p h]
 have h2: ∀(f:ResultVar->Sem Value),(∀t,f (.tmp t)=pure (tmps.getD t undef))-> ∀ts:List Nat,(ts.map ResultVar.tmp).mapM f=pure (ts.map λt=>tmps.getD t undef):=by
  intro f hf ts;induction ts with
  |nil=>rfl
  |cons t ts ih=>grind
 refine⟨_,?_,rfl⟩;unfold results;rw[h1,List.mapM_toArray,h2 _ (λt=>rfl)];simp only[map_pure,pure_bind];cases ts with
 |nil=>rfl
 |cons t ts=>cases ts with
  |nil=>rfl
  |cons u us=>rfl
theorem C8u: ∀(args:List AV) (i t:Nat),A17 (B58 i args) t=if i<=t then(args[t-i]?).map (λv=>(true,v))else none
 | [],i,t=>by simp[B58,A17]
 |v::vs,i,t=>by
  simp only[B58,A17,C8u vs (i+1) t]
  grind
variable {O:List (Nat×A7)} {w:World} {G:Nat->Prop} {ob:Place} {args:List AV}
theorem D3q {vals:List Value}(hs:E9 G w ob (ofL O))(hr:A55 G w ob args vals)(hl:args.length<=N):
  Sim N (A0s args O) {tmps:=vals.toArray++Array.replicate (N-vals.toArray.size) undef,defers:= []} w ob G:=by
 refine⟨?_,rfl,hs,λt av ht=> ?_,λt av ht=>absurd ht B3n⟩
 ·have:=hr.1;simp;omega
 ·simp only[A0s,A13,C8u,Nat.zero_le,if_true,Nat.sub_zero,Option.map_eq_some_iff,Prod.mk.injEq,true_and,exists_eq_right]at ht;have hlt:t<vals.length:=by
   rw[hr.1]
   grind
  refine⟨vals.getD t undef,?_,hr.2 t av ht⟩;simp[Array.getElem?_append,hlt,List.getD]
theorem C2g: ∀ {ts:List Nat} {md:List C3n} {rs:List AV},md.length=ts.length->rs.length=ts.length->ts.Nodup-> ∀(j:Nat) (t:Nat) (r:AV),ts[j]? =some t->rs[j]? =some r->A17 (C1g ts md rs) t=some (true,r)
 | [],md,rs,_,_,_,j,t,r,h,_=>by simp at h
 |t0::ts,m::md,r0::rs,h1,h2,hn,j,t,r,ht,hr=>by
  simp only[List.nodup_cons]at hn;simp only[C1g,A17];cases j with
  |zero=>grind
  |succ j=>simp only[List.getElem?_cons_succ]at ht hr;rw[if_neg (λe=>hn.1 (by rw[<-e];exact List.mem_of_getElem? ht))];exact C2g (by simpa using h1) (by simpa using h2) hn.2 j t r ht hr
 |_::_,[],_,h1,_,_,_,_,_,_,_=>by simp at h1
 |_::_,_::_,[],_,h2,_,_,_,_,_,_=>by simp at h2
variable {rs:List AV}
theorem D8p {tmps:Array Value}(hl:rs.length=ts.length)
  (h: ∀(j t:Nat) (r:AV),ts[j]? =some t->rs[j]? =some r-> ∃v,tmps[t]? =some v/\Rel G w ob r v):
  Rel G w ob (A5t rs) (match ts.map (λt=>tmps.getD t undef)with | [x]=>x |vs=> .tuple vs.toArray):=by
 have get: ∀(j t:Nat) (r:AV),ts[j]? =some t->rs[j]? =some r->Rel G w ob r (tmps.getD t undef):=λj t r ht hr=>by obtain⟨v,h1,h2⟩:=h j t r ht hr;simp_all
 match ts,rs,hl with
 | [],[],_=>exact .tup #[] rfl (λj av h=>by simp at h)
 | [t],[r],_=>exact get 0 t r rfl rfl
 |t::u::us,r::s::ss,hl=>
  refine .tup _ (by simp at hl;simp[hl]) λj av hj=> ?_;have hjl:j<(t::u::us).length:=by grind
  have:=get j (t::u::us)[j] av (List.getElem?_eq_getElem hjl) hj
  have e:(((t::u::us).map λt=>tmps.getD t undef).toArray).getD j undef=tmps.getD (t::u::us)[j] undef:=by rw[Array.getD_eq_getD_getElem?,List.getElem?_toArray,List.getElem?_map,List.getElem?_eq_getElem hjl];rfl
  grind
def D0f(P:Program)(f:FuncId)(args:List AV)(O:List (Nat×A7))(R:List AV->List (Nat×A7)->Prop):Prop:=
 A3o P f=true/\ ∀(G:Nat->Prop) (w:World) (ob:Place) (vals:List Value),E9 G w ob (ofL O)->A55 G w ob args vals->
  Calls P f vals.toArray w λe w'=> ∃rs O' v G' ob',R rs O'/\e= .returned v/\E9 G' w' ob' (ofL O')/\Rel G' w' ob' (A5t rs) v/\Fr G w ob G' w' ob'/\D4 ob ob'
variable {f:FuncId} {ac:ACode}
theorem E3z {c:Code}{R:List AV->List (Nat×A7)->Prop}
  (hf:P.funcs[f]? =some fn)(hb:fn.body=some c)(hname:(fn.name != "runtime.NumGoroutine")=true)(hc:F9 P fn.ntmps c=some ac.strip)
  (hts:A4u fn.results.toList=some ts)(hnd:ts.Nodup)(hl:args.length<=fn.ntmps)
  (h:Wp P fn.ntmps (O.map (·.1)) ac (E3a (O.map (·.1)) ts R) (A0s args O)):D0f P f args O R:=by
 refine⟨by unfold A3o;rw[hf];simp[hb,hname],λG w ob vals hs hr=> ?_⟩;refine calls_of_wp hf hb ?_;have h1:=h c hc ⟨G,w,ob⟩ _ w ob G (D3q hs hr hl) ⟨Fr.refl G w ob,λid i _ hi=>⟨i,hi, .inl rfl⟩⟩;refine wp_mono h1 ?_;rintro e a' w' ⟨o,σ,ob1,G1,rfl,hq,s,hΓ⟩;have fin:(∃rs O',R rs O'/\A8c (O.map (·.1)) σ ts rs O')->a'.defers= []/\ ∃v,(results fn a'.tmps).run P w'= .ok v w'/\
   ∃rs O' v' G' ob',R rs O'/\Ending.returned v= .returned v'/\E9 G' w' ob' (ofL O')/\Rel G' w' ob' (A5t rs) v'/\Fr G w ob G' w' ob'/\D4 ob ob':=by
  rintro⟨rs,O',hR,md,hml,hrl,ρ,A,hw⟩;obtain⟨ob2,G2,g1,g2,g3⟩:=B3z s hw;obtain⟨v,hv,hv'⟩:=F0i hts a'.tmps w' (P:=P);refine⟨s.defers,v,hv,rs,O',v,G2,ob2,hR,rfl,g1.objs,?_,hΓ.fr.trans g2,?_⟩
  ·rw[hv'];exact D8p hrl λj t r ht hr=>g1.env t r (C2g hml hrl hnd j t r ht hr)
  ·intro id i hi;have hk:id∈O.map (·.1):=by
    cases ho:ofL O id with
    |none=>rw[(hs.dom id).1 ho]at hi;cases hi
    |some o=>obtain⟨o',ho'⟩:=A89 (by rw[ho];rfl);exact List.mem_map_of_mem (f:=(·.1)) ho'
   obtain⟨i',hi',h'⟩:=hΓ.ext id i hk hi
   grind
 cases o with
 |normal=>exact fin hq
 |exit i=>exact hq.elim
 |ret=>exact fin hq
variable {O':List (Nat×A7)}
theorem D0f.one(h:D0f P f args O (λrs' O1=>rs'=rs/\O1=O')):D5 P f args O (A5t rs) O':=by
 refine⟨h.1,λG w ob vals hs hr=>(h.2 G w ob vals hs hr).mono ?_⟩
 grind
end
end Go.Abs
end
noncomputable section
namespace Go.Abs
variable {β:Type}
theorem F69(f:Nat->Option β)(k:Nat)(v:Option β)(x:Nat):upd f k v x=if x=k then v else f x:=rfl
mutual
def M9:AV->AV->Prop
 | .sc v, .sc v'=>v=v'
 | .sc v, .dsl _ n _=>v= .slice none 0 0/\n=0
 | .dsl z n g, .dsl z' n' g'=>z=z'/\n=n'/\ ∀i,i<n->W0 (g i) (g' i)
 | .dslx z n g, .dslx z' n' g'=>z=z'/\n=n'/\ ∀i,i<n->W0 (g i) (g' i)
 | .dslx z n g, .dsl z' n' g'=>z=z'/\n=n'/\ ∀i,i<n->W0 (g i) (g' i)
 | .agg cs, .agg cs'=>W0 cs cs'
 |a,b=>a=b
def W0:List AV->List AV->Prop
 | [],[]=>True
 |a::as,b::bs=>M9 a b/\W0 as bs
 |_,_=>False
end
mutual
theorem A6b: ∀(a b:AV),M9 a b->J0 a b
 | .sc v,b,h=>by
   cases b <;> simp only[M9,reduceCtorEq]at h
   case sc=>subst h;exact J0.refl _
   case dsl z n g=>obtain⟨rfl,rfl⟩:=h;exact J0.nil
 | .dsl z n g,b,h=>by cases b <;> simp only[M9,reduceCtorEq]at h;obtain⟨rfl,rfl,h⟩:=h;exact J0.dsl λi hi=>A93 _ _ (h i hi)
 | .dslx z n g,b,h=>by
   cases b <;> simp only[M9,reduceCtorEq]at h
   ·obtain⟨rfl,rfl,h⟩:=h;exact(J0.dslx (g':=λi=>_) λi hi=>A93 _ _ (h i hi)).trans J0.dslx_dsl
   ·obtain⟨rfl,rfl,h⟩:=h;exact J0.dslx λi hi=>A93 _ _ (h i hi)
 | .sl ..,b,h=>by cases b <;> simp only[M9,reduceCtorEq]at h;exact J0.of_eq h
 | .ptr ..,b,h=>by cases b <;> simp only[M9,reduceCtorEq]at h;exact J0.of_eq h
 | .mp _,b,h=>by cases b <;> simp only[M9,reduceCtorEq]at h;exact J0.of_eq h
 | .cW _,b,h=>by cases b <;> simp only[M9,reduceCtorEq]at h;exact J0.of_eq h
 | .agg cs,b,h=>by cases b <;> simp only[M9,reduceCtorEq]at h;exact J0.agg (A93 _ _ h)
 | .tup _,b,h=>by cases b <;> simp only[M9,reduceCtorEq]at h;exact J0.of_eq h
 | .fn ..,b,h=>by cases b <;> simp only[M9,reduceCtorEq]at h;exact J0.of_eq h
 | .own ..,b,h=>by cases b <;> simp only[M9,reduceCtorEq]at h;exact J0.of_eq h
 | .hole,b,h=>by cases b <;> simp only[M9,reduceCtorEq]at h;exact J0.of_eq rfl
theorem A93: ∀(as bs:List AV),W0 as bs->A8b as bs
 | [],[],_=>trivial
 |a::as,b::bs,h=>by simp only[W0]at h;exact⟨A6b a b h.1,A93 as bs h.2⟩
 | [],_::_,h=>by simp[W0]at h
 |_::_,[],h=>by simp[W0]at h
end
mutual
theorem D0: ∀(a:AV),M9 a a
 | .sc v=>by simp only[M9]
 | .dsl z n g=>by simp only[M9,true_and];exact λi _=>H9 (g i)
 | .dslx z n g=>by simp only[M9,true_and];exact λi _=>H9 (g i)
 | .agg cs=>by simp only[M9];exact H9 cs
 | .sl .. =>by simp only[M9]
 | .ptr .. =>by simp only[M9]
 | .mp _=>by simp only[M9]
 | .cW _=>by simp only[M9]
 | .tup _=>by simp only[M9]
 | .fn .. =>by simp only[M9]
 | .own .. =>by simp only[M9]
 | .hole=>by simp only[M9]
theorem H9: ∀(l:List AV),W0 l l
 | []=>by simp only[W0]
 |a::l=>by simp only[W0];exact⟨D0 a,H9 l⟩
end
def B9f:AV->AV->Prop
 | .own z n g, .own z' n' g'=>z=z'/\n=n'/\ ∀i,i<n->W0 (g i) (g' i)
 | .sc v, .own _ n _=>v= .slice none 0 0/\n=0
 | .hole, .hole=>True
 |a,b=>a.pure=true/\M9 a b
def C44:List AV->List AV->Prop
 | [],[]=>True
 |a::as,b::bs=>B9f a b/\C44 as bs
 |_,_=>False
theorem F7t {a b:AV}(h:B9f a b):A7m a b:=by
 cases a with
 |own z n g=>cases b <;> simp only[B9f,AV.pure,Bool.false_eq_true,false_and]at h;obtain⟨rfl,rfl,h⟩:=h;exact A7m.own λi hi=>A93 _ _ (h i hi)
 |hole=>cases b <;> simp only[B9f,AV.pure,Bool.false_eq_true,false_and]at h;exact A7m.refl _
 |sc v=>
  cases b <;> simp only[B9f]at h
  case own=>obtain⟨rfl,rfl⟩:=h;exact A7m.nil
  all_goals exact A7m.pure h.1 (A6b _ _ h.2)
 |_=>simp only[B9f]at h;exact A7m.pure h.1 (A6b _ _ h.2)
theorem E3v: ∀ {as bs:List AV},C44 as bs->B91 as bs
 | [],[],_=>trivial
 |a::as,b::bs,h=>⟨F7t h.1,E3v h.2⟩
 | [],_::_,h=>h.elim
 |_::_,[],h=>h.elim
def A3i(σ:St)(ρ:Nat->Nat)(A:List Nat)(O:List (Nat×A7)):J6->List (Nat×A7)->(List (Nat×A7)->Prop)->Prop
 | [],acc,K=>K acc
 |(t, .cA,c)::r,acc,K=>σ.env t=some (true,c.ren ρ)/\(∀i∈c.ids,(ofL O i).isSome/\i∉A)/\A3i σ ρ A O r acc K
 |(t, .eQ,c)::r,acc,K=>match σ.env t with
  |some (b,av)=>b=true/\(match A0n σ.objs av with
   |some (p,c1,w1)=>p/\M9 c1 c/\A3i σ ρ A O r (acc++w1) K
   |none=>False)
  |none=>False
 |(t, .eZ,c)::r,acc,K=>σ.env t=some (true, .sc (.slice none 0 0))/\(match c with | .sl x 0 0 0=>x∈A/\(ofL O x).isSome |_=>False)/\A3i σ ρ A O r acc K
def A31(ρ:Nat->Nat):A7->A7->Prop
 | .arr z s, .arr z' s'=>z=z'/\s.n=s'.n/\ ∀i,i<s.n->W0 (s.g i) (s'.g i)
 | .frz z s, .frz z' s'=>z=z'/\s.n=s'.n/\ ∀i,i<s.n->W0 (s.g i) (s'.g i)
 | .map k es, .map k' es'=>A7.map k es=A7.map k' es'
 | .mapS k es, .mapS k' es'=>A7.mapS k es=A7.mapS k' es'
 | .frzb cs, .frzb cs'=>cs=cs'
 | .arrP z s, .arrP z' s'=>z=z'/\s.n=s'.n/\ ∀i,i<s.n->C44 (s.g i) (s'.g i)
 |_,_=>False
def C6v(ρ:Nat->Nat)(A:List Nat)(O:List (Nat×A7)):AV->AV->Prop
 | .sc v, .sl x o n t=>v= .slice none 0 0/\o=0/\n=0/\t=0/\x∈A/\(ofL O x).isSome
 | .sc v,c=>M9 (.sc v) c
 | .dsl z n g,c=>M9 (.dsl z n g) c
 | .dslx z n g,c=>M9 (.dslx z n g) c
 |c',c=>c'=c.ren ρ/\ ∀j∈c.ids,(ofL O j).isSome/\j∉A
def F3e(ρ:Nat->Nat)(A:List Nat)(O:List (Nat×A7)):List AV->List AV->Prop
 | [],[]=>True
 |c'::cs',c::cs=>C6v ρ A O c' c/\F3e ρ A O cs' cs
 |_,_=>False
variable {O:List (Nat×A7)} {A:List Nat} {c':AV}
theorem F74 {ρ:Nat->Nat}{c:AV}(h:C6v ρ A O c' c):B93 ρ A O c' c:=by
 cases c' with
 |sc v=>
  cases c <;> simp only[C6v]at h
  case sl=>obtain⟨rfl,rfl,rfl,rfl,h1,h2⟩:=h;exact .eZ h1 h2
  all_goals exact .le rfl (A6b _ _ h)
 |dsl z n g=>simp only[C6v]at h;exact .le rfl (A6b _ _ h)
 |dslx z n g=>simp only[C6v]at h;exact .le rfl (A6b _ _ h)
 |_=>simp only[C6v]at h;rw[h.1];exact .cA h.2
theorem F1i {ρ:Nat->Nat}{A:List Nat}{O:List (Nat×A7)}: ∀ {cs' cs:List AV},F3e ρ A O cs' cs->C12 ρ A O cs' cs
 | [],[],_=> .nil
 |c'::cs',c::cs,h=> .cons (F74 h.1) (F1i h.2)
 | [],_::_,h=>h.elim
 |_::_,[],h=>h.elim
def B4s(m:Nat->Option A7)(ρ:Nat->Nat)(A:List Nat)(O:List (Nat×A7)):List (Nat×A7)->Prop
 | []=>True
 |(i,o)::r=>(if i∈A then(match o with | .arr _ s=>s.n=0 | .arrP _ s=>s.n=0 |_=>False)else(match m (ρ i)with |some o'=>(match o',o with | .box cs', .box cs=>F3e ρ A O cs' cs |o',o=>A31 ρ o' o) |none=>False))/\B4s m ρ A O r
theorem B3v {σ:St}{ρ:Nat->Nat}{A:List Nat}{O:List (Nat×A7)}{Kp Kp':List (Nat×A7)->Prop}(hK: ∀l,Kp l->Kp' l): ∀(T:J6) (acc:List (Nat×A7)),A3i σ ρ A O T acc Kp->B3w σ ρ A O T acc Kp'
 | [],acc,h=>hK acc h
 |(t, .cA,c)::r,acc,h=>⟨h.1,h.2.1,B3v hK r acc h.2.2⟩
 |(t, .eQ,c)::r,acc,h=>by
  simp only[A3i]at h;simp only[B3w];split at h
  ·rename_i b av hv;obtain⟨rfl,h⟩:=h;split at h
   ·rename_i p c1 w1 hf;rw[hv];simp only[hf];exact⟨trivial,h.1,A6b _ _ h.2.1,B3v hK r _ h.2.2⟩
   ·exact h.elim
  ·exact h.elim
 |(t, .eZ,c)::r,acc,h=>⟨h.1,h.2.1,B3v hK r acc h.2.2⟩
theorem F6f {ρ:Nat->Nat}{o' o:A7}(h:A31 ρ o' o):D9z ρ A O o' o:=by
 cases o' <;> cases o <;> simp only[A31]at h
 case arr.arr=>obtain⟨rfl,h1,h2⟩:=h;exact .inr ⟨λcs h=>(by cases h),λcs h=>(by cases h), .inr<|B6t.arr h1 λi hi=>A93 _ _ (h2 i hi)⟩
 case frz.frz=>obtain⟨rfl,h1,h2⟩:=h;exact .inr ⟨λcs h=>(by cases h),λcs h=>(by cases h), .inr<|B6t.frz h1 λi hi=>A93 _ _ (h2 i hi)⟩
 case frzb.frzb=>subst h;exact .inr ⟨λcs h=>(by cases h),λcs h=>(by cases h), .inl rfl⟩
 case arrP.arrP=>obtain⟨rfl,h1,h2⟩:=h;exact .inr ⟨λcs h=>(by cases h),λcs h=>(by cases h), .inr<|B6t.arrP h1 λi hi=>E3v (h2 i hi)⟩
 case map.map=>rw[h];exact .inr ⟨λcs h=>(by cases h),λcs h=>(by cases h), .inl rfl⟩
 case mapS.mapS=>rw[h];exact .inr ⟨λcs h=>(by cases h),λcs h=>(by cases h), .inl rfl⟩
theorem E8k {m:Nat->Option A7}{ρ:Nat->Nat}{A:List Nat}{O:List (Nat×A7)}: ∀ {l:List (Nat×A7)},B4s m ρ A O l->D2j m ρ A O l
 | [],_=>trivial
 |(i,o)::l,h=>by
  refine⟨?_,E8k h.2⟩;have h1:=h.1;by_cases hA:i∈A
  ·rw[if_pos hA]at h1⊢;exact h1
  ·rw[if_neg hA]at h1⊢;cases hm:m (ρ i)with
   |none=>rw[hm]at h1;exact h1.elim
   |some o'=>
    rw[hm]at h1;simp only at h1;split at h1
    ·exact .inl ⟨_,_,rfl,rfl,F1i h1⟩
    ·exact F6f h1
variable {σ:St} {T:J6}
theorem C1f {K:List Nat}(ρs:List (Nat×Nat))(A:List Nat)(h1:(O.map (·.1)).Nodup)(h2:(((O.map (·.1)).filter λi=> !A.contains i).map (D3 ρs)).Nodup)
  (h3: ∀k∈K,k∉A/\D3 ρs k=k/\(ofL O k).isSome)(h4:A3i σ (D3 ρs) A O T [] λwr=>B4s (wrm σ.objs wr) (D3 ρs) A O O):V9 K σ T O:=
 ⟨D3 ρs,A,h1,h2,h3,B3v (λ_=>E8k) T [] h4⟩
theorem E1t(h:A3i σ id [] [] T [] λ_=>True):V9 [] σ T []:=⟨id,[],List.nodup_nil,List.nodup_nil,λk hk=>(by cases hk),B3v (λ_ _=>trivial) T [] h⟩
def B6m(σ:St):List Nat->List AV->Prop
 | [],[]=>True
 |t::ts,r::rs=>(match σ.env t with
  |some (b,av)=>b=true/\(match A0n σ.objs av with
   |some (p,c1,_)=>p/\M9 c1 r
   |none=>False)
  |none=>False)/\B6m σ ts rs
 |_,_=>False
theorem C7m {σ:St}: ∀ {ts:List Nat} {rs:List AV} {acc:List (Nat×A7)},B6m σ ts rs-> ∃md,md.length=ts.length/\rs.length=ts.length/\A3i σ id [] [] (C1g ts md rs) acc λ_=>True
 | [],[],acc,_=>⟨[],rfl,rfl,trivial⟩
 |t::ts,r::rs,acc,h=>by
  obtain⟨h1,h2⟩:=h;split at h1
  ·rename_i b av hv;obtain⟨rfl,h1⟩:=h1;split at h1
   ·rename_i p c1 w1 hf;obtain⟨md,g1,g2,g3⟩:=C7m (acc:=acc++w1) h2;refine⟨.eQ::md,by simp[g1],by simp[g2],?_⟩;simp only[C1g,A3i,hv,hf];exact⟨trivial,h1.1,h1.2,g3⟩
   ·exact h1.elim
  ·exact h1.elim
 | [],_::_,_,h=>h.elim
 |_::_,[],_,h=>h.elim
variable {rs:List AV} {ts:List Nat}
theorem E8t {R:List AV->List (Nat×A7)->Prop}(h:B6m σ ts rs)(hR:R rs []):E3a [] ts R .ret σ:=by obtain⟨md,h1,h2,h3⟩:=C7m (acc:= []) h;exact⟨rs,[],hR,md,h1,h2,E1t h3⟩
theorem F4h {K:List Nat}{R:List AV->List (Nat×A7)->Prop}(h:E3a K ts R .ret σ):E3a K ts R .normal σ:=h
mutual
theorem AV.ren_id: ∀(a:AV),a.ren id=a
 | .sc _=>rfl
 | .dsl .. =>rfl
 | .dslx .. =>rfl
 | .sl .. =>rfl
 | .ptr .. =>rfl
 | .mp _=>rfl
 | .cW _=>rfl
 | .own .. =>rfl
 | .hole=>rfl
 | .agg cs=>by simp only[AV.ren,O5 cs]
 | .tup cs=>by simp only[AV.ren,O5 cs]
 | .fn f a b=>by simp only[AV.ren,O5 a,O5 b]
theorem O5: ∀(l:List AV),A9i id l=l
 | []=>rfl
 |a::l=>by simp only[A9i,AV.ren_id a,O5 l]
end
section
variable {P:Program} {m:Nat->Option A7} {f:FuncId} {b:Bool} {K:Res->Prop}
def S3(m:Nat->Option A7):List AV->List AV->List (Nat×A7)->(List (Nat×A7)->Prop)->Prop
 | [],[],acc,K=>K acc
 |a::as,c::cs,acc,K=>match A0n m a with
  |some (p,c1,w)=>p/\M9 c1 c/\S3 m as cs (acc++w) K
  |none=>False
 |_,_,_,_=>False
theorem C6t {Kp:List (Nat×A7)->Prop}: ∀ {avs cargs:List AV} {acc:List (Nat×A7)},S3 m avs cargs acc Kp->
  ∃md cs wr,S2 m id [] md avs cs wr/\A8b cs cargs/\Kp (acc++wr)
 | [],[],acc,h=>⟨[],[],[],rfl,trivial,by simpa[S3]using h⟩
 |a::as,c::cs,acc,h=>by
  simp only[S3]at h;split at h
  ·rename_i p c1 w hf;obtain⟨md,cs',wr,g1,g2,g3⟩:=C6t h.2.2;exact⟨false::md,c1::cs',w++wr,⟨p,w,wr,hf,h.1,rfl,g1⟩,⟨A6b _ _ h.2.1,g2⟩,by simpa using g3⟩
  ·exact h.elim
 | [],_::_,_,h=>by simp[S3]at h
 |_::_,[],_,h=>by simp[S3]at h
variable {O':List (Nat×A7)} {args:List AV}
theorem D5.args_le {args':List AV}{r:AV}(h:D5 P f args' O r O')(hle:A8b args args'):D5 P f args O r O':=
 ⟨h.1,λG w ob vals hs hr=>h.2 G w ob vals hs ⟨by rw[hr.1,hle.get.1],λj av hj=>by obtain⟨a,ha,hl⟩:=hle.get.2 j av hj;exact hl.rel _ _ _ _ (hr.2 j a ha)⟩⟩
variable {avs cs:List AV} {wr:List (Nat×A7)}
theorem B2p {r:AV}{md:List Bool}(hc:D5 P f cs [] r [])(ha:S2 m id [] md avs cs wr)(keep:Bool)(hk:keep=true->r.noDsl=true):
  R5 P m f avs ⟨some r,if keep then []else wr⟩:=by
 have:=R5.mk (P:=P) (m:=m) md cs [] r [] id wr keep hc ha (λi o h=>by simp[ofL,wrm]at h) (λi cs h=>by simp[ofL,wrm]at h) (λi h=>by simp[ofL,wrm]at h)
  (λi h=>by simp[ofL,wrm]at h) List.nodup_nil (λh=>⟨hk h,λi o h=>by simp[ofL,wrm]at h⟩)
 simpa[A3u,AV.ren_id]using this
variable {cargs:List AV}
theorem F3i {r:AV}(hc:D5 P f cargs [] r [])(hn:r.noDsl=true)(ha:S3 m avs cargs [] λ_=>True)(hK:K ⟨some r,[]⟩):C13 P m f avs b K:=by obtain⟨md,cs,wr,h1,h2,_⟩:=C6t ha;exact⟨_,λ_=>B2p (hc.args_le h2) h1 true (λ_=>hn),λh=>absurd rfl h,hK⟩
theorem F3j {r:AV}(hc:D5 P f cargs [] r [])(ha:S3 m avs cargs [] λwr=>(wr≠ []->b=true)/\K ⟨some r,wr⟩):C13 P m f avs b K:=by obtain⟨md,cs,wr,h1,h2,h3,h4⟩:=C6t ha;exact⟨_,λ_=>B2p (hc.args_le h2) h1 false (λh=>by cases h),h3,by simpa using h4⟩
def D37:List AV->Bool
 | []=>true
 |a::as=>a.flat&&D37 as
mutual
theorem C2h: ∀ {c:AV},c.pure=true-> ∃p,p/\R1 m c=some (p,c,[])
 | .sc _,_=>⟨True,trivial,rfl⟩
 | .dsl ..,_=>⟨True,trivial,rfl⟩
 | .dslx ..,_=>⟨True,trivial,rfl⟩
 | .cW _,_=>⟨True,trivial,rfl⟩
 | .fn f a b,h=>by simp only[AV.pure,Bool.and_eq_true]at h;obtain⟨p,hp,h1⟩:=B2s h.1;obtain⟨q,hq,h2⟩:=B2s h.2;exact⟨p/\q,⟨hp,hq⟩,by simp[R1,h1,h2]⟩
 | .sl ..,h=>by simp[AV.pure]at h
 | .ptr ..,h=>by simp[AV.pure]at h
 | .mp _,h=>by simp[AV.pure]at h
 | .agg _,h=>by simp[AV.pure]at h
 | .tup _,h=>by simp[AV.pure]at h
 | .own ..,h=>by simp[AV.pure]at h
 | .hole,h=>by simp[AV.pure]at h
theorem B2s: ∀ {cs:List AV},A3e cs=true-> ∃p,p/\A02 m cs=some (p,cs,[])
 | [],_=>⟨True,trivial,rfl⟩
 |c::cs,h=>by simp only[A3e,Bool.and_eq_true]at h;obtain⟨q,hq,h1⟩:=C2h h.1;obtain⟨p,hp,hf⟩:=B2s h.2;exact⟨q/\p,⟨hq,hp⟩,by simp[A02,h1,hf]⟩
end
theorem F6u(h:cs.all AV.pure=true):A3e cs=true:=C7l λj av hj=>List.all_eq_true.1 h av (List.mem_of_getElem? hj)
theorem E73(h:cs.all AV.pure=true): ∃p,p/\A02 m cs=some (p,cs,[]):=B2s (F6u h)
theorem E5f {a:AV}(h:a.flat=true): ∃p,p/\A0n m a=some (p,a,[]):=by
 cases a with
 |agg cs=>obtain⟨p,hp,hf⟩:=E73 (m:=m) (by simpa[AV.flat]using h);exact⟨p,hp,by simp[A0n,hf]⟩
 |tup cs=>simp[AV.flat,AV.pure]at h
 |_=>simp only[AV.flat]at h;simp only[A0n];exact C2h h
theorem D52: ∀ {avs:List AV},D37 avs=true-> ∃md,S2 m id [] md avs avs []
 | [],_=>⟨[],rfl⟩
 |a::as,h=>by simp only[D37,Bool.and_eq_true]at h;obtain⟨p,hp,hf⟩:=E5f (m:=m) h.1;obtain⟨md,hm⟩:=D52 h.2;exact⟨false::md,p,[],[],hf,hp,rfl,hm⟩
theorem F3h {r:AV}(hc:D5 P f avs [] r [])(hf:D37 avs=true)(hK:K ⟨some r,[]⟩):C13 P m f avs b K:=by obtain⟨md,h1⟩:=D52 (m:=m) hf;exact⟨_,λ_=>B2p hc h1 false (λh=>by cases h),λh=>absurd rfl h,by simpa using hK⟩
end
end Go.Abs
namespace Go.Abs
def G0m(ts:List Nat)(rs:List AV)(o:Out)(σ:St):Prop:=
 match o with
 | .exit _=>False
 | .normal=>B6m σ ts rs
 | .ret=>B6m σ ts rs
variable {rs args:List AV} {ts:List Nat} {ac:ACode} {fn:Func}
theorem F5f {P:Program}{f:FuncId}(hm:P.follows .mixedOrders=true)
  (hf:P.funcs[f]? =some fn)(hb:fn.body=some (fn.body.getD .skip))(hname:(fn.name != "runtime.NumGoroutine")=true)(hc:F9 P fn.ntmps (fn.body.getD .skip)=some ac.strip)
  (hts:A4u fn.results.toList=some ts)(hnd:ts.Nodup)(hl:(args.length.ble fn.ntmps)=true)
  (h:W P fn.ntmps [] ac (G0m ts rs) (A0s args [])):D5 P f args [] (A5t rs) []:=by
 have key:Wp P fn.ntmps [] ac (E3a [] ts λrs' O=>rs'=rs/\O= []) (A0s args []):=(Wp.of_W hm ac h).mono λo σ hq=>by
  cases o with
  |exit i=>exact hq
  |normal=>exact F4h (E8t hq ⟨rfl,rfl⟩)
  |ret=>exact E8t hq ⟨rfl,rfl⟩
 exact D0f.one (E3z hf hb hname hc hts hnd (Nat.le_of_ble_eq_true hl) key)
end Go.Abs
end
noncomputable section
namespace Go.Abs
theorem bor(b q:Bool):(if b=true then true else q)=(b||q):=by cases b <;> rfl
theorem G7l(b q:Bool):(if b=false then true else q)=(!b||q):=by cases b <;> rfl
theorem G6m(b q:Bool):(if b=false then q else false)=(!b&&q):=by cases b <;> rfl
theorem G7k(b q:Bool):(if b=true then q else false)=(b&&q):=by cases b <;> rfl
section
variable {α:Type}
def A4l(enc:α->List AV)(d:α)(l:List α):Sq:=⟨l.length,λi=>enc (l.getD i d)⟩
def F8g(z:Nat)(enc:α->List AV)(d:α)(l:List α):AV:= .dsl z l.length λi=>enc (l.getD i d)
theorem G3i(s:Sq)(k:Nat)(c:List AV):(s.set k c).n=s.n:=rfl
theorem G1s(enc:α->List AV)(d:α)(l:List α):(A4l enc d l).n=l.length:=rfl
theorem G1r(enc:α->List AV)(d:α)(l:List α)(i:Nat):(A4l enc d l).g i=enc (l.getD i d):=rfl
theorem C69(l:List α)(i j:Nat)(x d:α)(hi:i<l.length):(l.set i x).getD j d=if j=i then x else l.getD j d:=by
 simp only[List.getD,List.getElem?_set];by_cases h:i=j
 ·subst h;simp[hi]
 ·rw[if_neg h,if_neg (λe=>h e.symm)]
variable {l:List α} {i:Nat}
theorem E33 {enc:α->List AV}{d:α}{x:α}(hi:i<l.length):(A4l enc d l).set i (enc x)=A4l enc d (l.set i x):=by simp only[Sq.set,A4l,List.length_set,Sq.mk.injEq,true_and];funext j;rw[C69 l i j x d hi];split <;> rfl
theorem B6y(l l':List α)(i:Nat)(d:α):(l++l').getD i d=if i<l.length then l.getD i d else l'.getD (i-l.length) d:=by
 simp only[List.getD];by_cases h:i<l.length
 ·rw[if_pos h,List.getElem?_append_left h]
 ·rw[if_neg h,List.getElem?_append_right (by omega)]
variable {l':List α}
theorem F5t {enc:α->List AV}{d:α}:(A4l enc d l).app (A4l enc d l')=A4l enc d (l++l'):=by simp only[Sq.app,A4l,List.length_append,Sq.mk.injEq,true_and];funext j;rw[B6y];by_cases h:j<l.length <;> simp[h]
variable {g:Nat->List AV}
theorem F29 {enc:α->List AV}{d:α}{x:α}(hg:g 0=enc x){ρ:Nat->Nat}{z:Nat}:
  A31 ρ (.arr z ((A4l enc d l).app ⟨1,g⟩)) (.arr z (A4l enc d (l++ [x]))):=by
 refine⟨rfl,by simp[Sq.app,A4l],λi hi=> ?_⟩;have:((A4l enc d l).app ⟨1,g⟩).g i=(A4l enc d (l++ [x])).g i:=by
  have hi':i<l.length+1:=hi;simp only[Sq.app,A4l];rw[B6y];by_cases h:i<l.length
  ·simp[h]
  ·have h0:i-l.length=0:=by omega
   simp only[h,if_false,h0,hg];rfl
 rw[this];exact H9 _
variable {z:Nat} {s:Sq}
theorem A20 {ρ:Nat->Nat}:A31 ρ (.arr z s) (.arr z s):=⟨rfl,rfl,λ_ _=>H9 _⟩
theorem G59 {enc:α->List AV}{d:α}{c:List AV}(x:α){ρ:Nat->Nat}{z:Nat}(hi:i<l.length)(hc:c=enc x)(hl:l.set i x=l'):
  A31 ρ (.arr z ((A4l enc d l).set i c)) (.arr z (A4l enc d l')):=by
 subst hc;subst hl;rw[E33 hi];exact A20
theorem G3f {enc:α->List AV}{d:α}{ρ:Nat->Nat}(h:l=l'):A31 ρ (.arr z (A4l enc d l)) (.arr z (A4l enc d l')):=by subst h;exact A20
theorem F48(v v':Value):M9 (.sc v) (.sc v')=(v=v'):=by simp only[M9]
theorem F46:W0 [] []=True:=by simp only[W0]
theorem F3a(a b:AV)(as bs:List AV):W0 (a::as) (b::bs)=(M9 a b/\W0 as bs):=by simp only[W0]
theorem F47 {enc:α->List AV}{d:α}(h:l= []):M9 (.sc (.slice none 0 0)) (F8g z enc d l):=by subst h;simp[F8g,M9]
end
end Go.Abs
end
noncomputable section
namespace Go.Abs
class Cont where
 q:Out->St->Prop
class ContS where
 q:St->Prop
class ContR where
 q:Bool->Res->Prop
def Qi [Q:Cont](o:Out)(σ:St):Prop:=Q.q o σ
def Si [Q:ContS](σ:St):Prop:=Q.q σ
def Ri [Q:ContR](b:Bool)(r:Res):Prop:=Q.q b r
section
variable (P:Program) (N:Nat) (K:List Nat)
def Wi(c:ACode) [Q:Cont](σ:St):Prop:=W P N K c Q.q σ
def Wpi(c:ACode) [Q:Cont](σ:St):Prop:=Wp P N K c Q.q σ
def Wsi(l:List dA) [Q:ContS](σ:St):Prop:=A47 P l Q.q σ
def Wni(l:List dA)(seen:List (List Nat×List Nat)) [Q:ContS](σ:St):Prop:=C4l P l seen Q.q σ
def Woi(o:dA)(σ:St) [Q:ContR]:Prop:=wop P o σ Q.q
def A21(m:Nat->Option A7)(f:FuncId)(avs:List AV)(b:Bool) [Q:ContR]:Prop:=C13 P m f avs b (Q.q b)
@[reducible] def B65(_d:Nat)(m:Nat->Option A7)(f:FuncId)(avs:List AV)(b:Bool) [Q:ContR]:Prop:= @A21 P m f avs b Q
def F26(o:dA)(σ:St)(b:Bool) [Q:ContR]:Prop:=
 match o.op with
 | .pick c x y=>match σ.ev c with
   |some (cc, .sc (.bool q))=>match σ.ev x,σ.ev y with
    |some (c1, .sc (.bool p1)),some (c2, .sc (.bool p2))=>(b=true->cc=true/\(q=true->c1=true)/\(q=false->c2=true))/\Ri b ⟨some (.sc (.bool (if q then p1 else p2))),[]⟩
    |some (c1, .sc (.bool p1)),none=>q=true/\(b=true->cc=true/\c1=true)/\Ri b ⟨some (.sc (.bool p1)),[]⟩
    |none,some (c2, .sc (.bool p2))=>q=false/\(b=true->cc=true/\c2=true)/\Ri b ⟨some (.sc (.bool p2)),[]⟩
    |_,_=>False
   |_=>b=false/\Ri false ⟨none,[]⟩
 | .call f xs=>match target σ (.call f xs)with
   |some (f,avs)=>A7d σ b (AOp.call f xs).ops/\B65 P (o.dst.getD 0) σ.objs f avs b
   |none=>b=false/\Ri false ⟨none,[]⟩
 | .callv x xs=>match target σ (.callv x xs)with
   |some (f,avs)=>A7d σ b (AOp.callv x xs).ops/\B65 P (o.dst.getD 0) σ.objs f avs b
   |none=>b=false/\Ri false ⟨none,[]⟩
 |op=>match eval op σ.e σ.objs (o.dst.getD 0)with
  |some (p,r)=>(match r.wr with
   | []=>A7d σ b op.ops/\(b=true->p)/\Ri b r
   |_::_=>if b=true then A7d σ true op.ops/\p/\Ri true r else Ri false ⟨none,[]⟩)
  |none=>b=false/\Ri false ⟨none,[]⟩
@[reducible] def E57(b:ACode)(Q:Cont):Cont:=⟨Out.then (W P N K b Q.q) Q.q⟩
@[reducible] def D1o(id:Nat)(Q:Cont):Cont:=⟨Out.inBlock id Q.q⟩
@[reducible] def E0r(Q:Cont):ContS:=⟨Q.q .normal⟩
@[reducible] def G57(os:List dA)(Q:ContS)(d:Option Nat)(σ:St):ContR:=⟨λb r=>A47 P os Q.q (σ.put d b r)⟩
@[reducible] def G4c(o:dA)(os:List dA)(seen:List (List Nat×List Nat))(Q:ContS)(σ:St):ContR:=⟨λb r=>A4s o.op r/\A3l seen (A0a σ o) (keys r) o.chk/\C4l P os (seen++ [(A0a σ o,keys r)]) Q.q (σ.put o.dst b r)⟩
@[reducible] def E29(ts:List Nat)(rs:List AV):Cont:=⟨G0m ts rs⟩
@[reducible] def E0o {ι:Type}(T:ι->J6)(O:ι->List (Nat×A7))(μ:ι->Nat)(i:ι)(Q:Cont):Cont:=⟨Out.then (λτ=> ∃i',μ i'<μ i/\V9 K τ (T i') (O i')) Q.q⟩
variable {P N K}
variable {σ:St} {Q:Cont}
theorem G07: @Wi P N K .skip Q σ= @Qi Q .normal σ:=Eq.trans rfl rfl
theorem G39 {a b:ACode}: @Wi P N K (.seq a b) Q σ= @Wi P N K a (E57 P N K b Q) σ:=Eq.trans rfl rfl
theorem G06 {l:List dA}: @Wi P N K (.region false l) Q σ= @Wsi P l (E0r Q) σ:=rfl
theorem G01 {l:List dA}: @Wi P N K (.region true l) Q σ= @Wni P l [] (E0r Q) σ:=rfl
theorem G02 {c:AX}{a b:ACode}: @Wi P N K (.cond c a b) Q σ=(match σ.ev c with
  |some (true, .sc (.bool t))=>if t=true then @Wi P N K a Q σ else @Wi P N K b Q σ
  |_=>False):=Eq.trans rfl rfl
theorem F7k {a:ACode}: @Wi P N K (.scope a) Q σ= @Wi P N K a Q σ:=Eq.trans rfl rfl
variable {i:Nat}
theorem F7j {a:ACode}: @Wi P N K (.block i a) Q σ= @Wi P N K a (D1o i Q) σ:=Eq.trans rfl rfl
theorem G04 {a:ACode}: @Wi P N K (.loop a) Q σ= @Wpi P N K (.loop a) Q σ:=rfl
theorem G05 {a:ACode}: @Wi P N K (.mark a) Q σ= @Wpi P N K a Q σ:=rfl
theorem G03: @Wi P N K (.exit i) Q σ= @Qi Q (.exit i) σ:=Eq.trans rfl rfl
theorem G38: @Wi P N K .ret Q σ= @Qi Q .ret σ:=Eq.trans rfl rfl
theorem E2d {b:ACode}: @Qi (E57 P N K b Q) .normal σ= @Wi P N K b Q σ:=Eq.trans rfl rfl
theorem E6y {b:ACode}: @Qi (E57 P N K b Q) (.exit i) σ= @Qi Q (.exit i) σ:=Eq.trans rfl rfl
theorem E93 {b:ACode}: @Qi (E57 P N K b Q) .ret σ= @Qi Q .ret σ:=Eq.trans rfl rfl
theorem D90 {id:Nat}: @Qi (D1o id Q) .normal σ= @Qi Q .normal σ:=Eq.trans rfl rfl
theorem E48 {id:Nat}: @Qi (D1o id Q) (.exit i) σ=if i=id then @Qi Q .normal σ else @Qi Q (.exit i) σ:=Eq.trans rfl rfl
theorem E6t {id:Nat}: @Qi (D1o id Q) .ret σ= @Qi Q .ret σ:=Eq.trans rfl rfl
variable {j:Nat} {ι:Type}
theorem E6w {T:ι->J6}{O:ι->List (Nat×A7)}{μ:ι->Nat}{i:ι}: @Qi (E0o K T O μ i Q) (.exit j) σ= @Qi Q (.exit j) σ:=rfl
theorem E92 {T:ι->J6}{O:ι->List (Nat×A7)}{μ:ι->Nat}{i:ι}: @Qi (E0o K T O μ i Q) .ret σ= @Qi Q .ret σ:=rfl
variable {rs:List AV} {ts:List Nat}
theorem G32: @Qi (E29 ts rs) .ret σ=B6m σ ts rs:=rfl
theorem G30: @Qi (E29 ts rs) .normal σ=B6m σ ts rs:=rfl
theorem G00: @Si (E0r Q) σ= @Qi Q .normal σ:=rfl
theorem G1a {Q:ContS}: @Wsi P [] Q σ= @Si Q σ:=rfl
variable {o:dA} {os:List dA}
theorem F7q {Q:ContS}: @Wsi P (o::os) Q σ= @Woi P o σ (G57 P os Q o.dst σ):=rfl
variable {seen:List (List Nat×List Nat)}
theorem G08 {Q:ContS}: @Wni P [] seen Q σ= @Si Q σ:=rfl
theorem F7n {Q:ContS}: @Wni P (o::os) seen Q σ= @Woi P o σ (G4c P o os seen Q σ):=rfl
variable {r:Res} {b:Bool}
theorem G35 {Q:ContS}{d:Option Nat}: @Ri (G57 P os Q d σ) b r= @Wsi P os Q (σ.put d b r):=rfl
theorem G34 {Q:ContS}:
  @Ri (G4c P o os seen Q σ) b r=(A4s o.op r/\A3l seen (A0a σ o) (keys r) o.chk/\ @Wni P os (seen++ [(A0a σ o,keys r)]) Q (σ.put o.dst b r)):=rfl
theorem G09 {Q:ContR}: @Woi P o σ Q=(match A15 σ o.guard with
  |some b=> @F26 P o σ b Q
  |none=>False):=by
 unfold Woi wop;cases A15 σ o.guard with
 |none=>rfl
 |some b=>simp only;unfold E3q F26;cases o.op <;> rfl
variable {f:FuncId} {m:Nat->Option A7} {avs cargs:List AV}
theorem A5i {Q:ContR}{r:AV}(hc:D5 P f cargs [] r [])(hn:r.noDsl=true)(ha:S3 m avs cargs [] λ_=>True)
  (hK: @Ri Q b ⟨some r,[]⟩): @A21 P m f avs b Q:=F3i hc hn ha hK
theorem O7 {Q:ContR}{r:AV}(hc:D5 P f cargs [] r [])(ha:S3 m avs cargs [] λwr=>(wr≠ []->b=true)/\ @Ri Q b ⟨some r,wr⟩):
  @A21 P m f avs b Q:=F3j hc ha
theorem A0 {Q:ContR}{r:AV}(hc:D5 P f avs [] r [])(hf:D37 avs=true)(hK: @Ri Q b ⟨some r,[]⟩): @A21 P m f avs b Q:=F3h hc hf hK
theorem B1 {x:ACode}(hm:P.follows .mixedOrders=true)(T:ι->J6)(O:ι->List (Nat×A7))(μ:ι->Nat)(i0:ι)(h0:V9 K σ (T i0) (O i0))
  (h: ∀i,@Wi P N K x (E0o K T O μ i Q) (A13 (T i) (O i))): @Wpi P N K (.loop x) Q σ:=Wp.loop T O μ i0 h0 λi=>Wp.of_W hm x (h i)
theorem C7 {x:ACode}(hm:P.follows .mixedOrders=true)(h: @Wi P N K x Q σ): @Wpi P N K x Q σ:=Wp.of_W hm x h
variable {O:List (Nat×A7)} {T:J6}
theorem E60 {x:ACode}(h:V9 K σ T O)(hw: @Wpi P N K x Q (A13 T O)): @Wpi P N K x Q σ:=Wp.weak h hw
variable {args:List AV} {ac:ACode} {fn:Func}
theorem D1q(hm:P.follows .mixedOrders=true)
  (hf:P.funcs[f]? =some fn)(hb:fn.body=some (fn.body.getD .skip))(hname:(fn.name != "runtime.NumGoroutine")=true)(hc:F9 P fn.ntmps (fn.body.getD .skip)=some ac.strip)
  (hts:A4u fn.results.toList=some ts)(hnd:ts.Nodup)(hl:(args.length.ble fn.ntmps)=true)
  (h: @Wi P fn.ntmps [] ac (E29 ts rs) (A0s args [])):D5 P f args [] (A5t rs) []:=F5f hm hf hb hname hc hts hnd hl h
end
end Go.Abs
namespace Go.Abs
variable {σ:St} {Q:Cont} {ι:Type}
theorem A8 {K:List Nat}{T:ι->J6}{O:ι->List (Nat×A7)}{μ:ι->Nat}{i:ι}(i':ι)(hμ:μ i'<μ i)(h:V9 K σ (T i') (O i')):
  @Qi (E0o K T O μ i Q) .normal σ:=⟨i',hμ,h⟩
end Go.Abs
end
noncomputable section
namespace Go.Abs
section
variable {P:Program}
@[reducible] def C7n(K:List Nat)(ts:List Nat)(rs:List AV)(O':List (Nat×A7)):Cont:=⟨λo σ=>match o with | .exit _=>False | .normal=>A8c K σ ts rs O' | .ret=>A8c K σ ts rs O'⟩
variable {σ:St} {rs:List AV} {K:List Nat} {O':List (Nat×A7)} {ts:List Nat}
theorem G0u: @Qi (C7n K ts rs O') .ret σ=A8c K σ ts rs O':=rfl
theorem G0s: @Qi (C7n K ts rs O') .normal σ=A8c K σ ts rs O':=rfl
variable {O:List (Nat×A7)}
theorem F2g(md:List C3n)(ρs:List (Nat×Nat))(A:List Nat)(hm:md.length=ts.length)(hr:rs.length=ts.length)
  (h1:(O.map (·.1)).Nodup)(h2:(((O.map (·.1)).filter λi=> !A.contains i).map (D3 ρs)).Nodup)
  (h3: ∀k∈K,k∉A/\D3 ρs k=k/\(ofL O k).isSome)(h4:A3i σ (D3 ρs) A O (C1g ts md rs) [] λwr=>B4s (wrm σ.objs wr) (D3 ρs) A O O):A8c K σ ts rs O:=
 ⟨md,hm,hr,C1f ρs A h1 h2 h3 h4⟩
variable {f:FuncId} {args:List AV} {ac:ACode} {fn:Func}
theorem B9g(hm:P.follows .mixedOrders=true)
  (hf:P.funcs[f]? =some fn)(hb:fn.body=some (fn.body.getD .skip))(hname:(fn.name != "runtime.NumGoroutine")=true)(hc:F9 P fn.ntmps (fn.body.getD .skip)=some ac.strip)
  (hts:A4u fn.results.toList=some ts)(hnd:ts.Nodup)(hl:(args.length.ble fn.ntmps)=true)
  (h: @Wi P fn.ntmps (O.map (·.1)) ac (C7n (O.map (·.1)) ts rs O') (A0s args O)):D5 P f args O (A5t rs) O':=by
 have key:Wp P fn.ntmps (O.map (·.1)) ac (E3a (O.map (·.1)) ts λrs' O1=>rs'=rs/\O1=O') (A0s args O):=(Wp.of_W hm ac h).mono λo σ hq=>by
  cases o with
  |exit i=>exact hq
  |normal=>exact⟨rs,O',⟨rfl,rfl⟩,hq⟩
  |ret=>exact⟨rs,O',⟨rfl,rfl⟩,hq⟩
 exact D0f.one (E3z hf hb hname hc hts hnd (Nat.le_of_ble_eq_true hl) key)
def L8(m:Nat->Option A7)(ρ:Nat->Nat)(O:List (Nat×A7)):List Bool->List AV->List AV->List (Nat×A7)->(List (Nat×A7)->Prop)->Prop
 | [],[],[],acc,K=>K acc
 |true::md,a::as,c::cs,acc,K=>a=c.ren ρ/\(∀i∈c.ids,(ofL O i).isSome)/\L8 m ρ O md as cs acc K
 |false::md,a::as,c::cs,acc,K=>match A0n m a with
  |some (p,c1,w)=>p/\M9 c1 c/\L8 m ρ O md as cs (acc++w) K
  |none=>False
 |_,_,_,_,_=>False
theorem C19 {m:Nat->Option A7}{ρ:Nat->Nat}{O:List (Nat×A7)}{Kp:List (Nat×A7)->Prop}: ∀ {md:List Bool} {avs cargs:List AV} {acc:List (Nat×A7)},L8 m ρ O md avs cargs acc Kp->
  ∃cs wr,S2 m ρ O md avs cs wr/\A8b cs cargs/\Kp (acc++wr)
 | [],[],[],acc,h=>⟨[],[],rfl,trivial,by simpa[L8]using h⟩
 |true::md,a::as,c::cs,acc,h=>by obtain⟨h1,h2,h3⟩:=h;obtain⟨cs',wr,g1,g2,g3⟩:=C19 h3;exact⟨c::cs',wr,⟨h1.symm,h2,g1⟩,⟨J0.refl c,g2⟩,g3⟩
 |false::md,a::as,c::cs,acc,h=>by
  simp only[L8]at h;split at h
  ·rename_i p c1 w hf;obtain⟨cs',wr,g1,g2,g3⟩:=C19 h.2.2;exact⟨c1::cs',w++wr,⟨p,w,wr,hf,h.1,rfl,g1⟩,⟨A6b _ _ h.2.1,g2⟩,by simpa using g3⟩
  ·exact h.elim
 | [],[],_::_,_,h=>by simp[L8]at h
 | [],_::_,_,_,h=>by simp[L8]at h
 |true::_,[],_,_,h=>by simp[L8]at h
 |false::_,[],_,_,h=>by simp[L8]at h
 |true::_,_::_,[],_,h=>by simp[L8]at h
 |false::_,_::_,[],_,h=>by simp[L8]at h
def B9y(m:Nat->Option A7)(ρ:Nat->Nat)(O:List (Nat×A7)):List (Nat×A7)->Prop
 | []=>True
 |(i,o)::r=>m (ρ i)=some (o.ren ρ)/\(match o with | .box cs=> ∀j∈F0 cs,(ofL O j).isSome |_=>True)/\B9y m ρ O r
theorem A88 {m:Nat->Option A7}{ρ:Nat->Nat}{O:List (Nat×A7)}: ∀ {l:List (Nat×A7)},B9y m ρ O l-> ∀i o,(i,o)∈l->m (ρ i)=some (o.ren ρ)/\ ∀cs,o= .box cs-> ∀j∈F0 cs,(ofL O j).isSome
 | [],_,i,o,hp=>by cases hp
 |(i,o)::l,h,i',o',hp=>by
  rcases List.mem_cons.1 hp with e |hp
  ·obtain⟨rfl,rfl⟩:=Prod.mk.inj e;refine⟨h.1,λcs hcs=> ?_⟩;have:=h.2.1;subst hcs;exact this
  ·exact A88 h.2.2 i' o' hp
def D2h(m:Nat->Option A7)(ρ:Nat->Nat)(O:List (Nat×A7)):List (Nat×A7)->Prop
 | []=>True
 |(i,_)::r=>(if(ofL O i).isSome then True else m (ρ i)=none)/\D2h m ρ O r
theorem C0v {m:Nat->Option A7}{ρ:Nat->Nat}{O:List (Nat×A7)}: ∀ {l:List (Nat×A7)},D2h m ρ O l-> ∀i o,(i,o)∈l->(ofL O i).isSome\/m (ρ i)=none
 | [],_,i,o,hp=>by cases hp
 |(i,o)::l,h,i',o',hp=>by
  rcases List.mem_cons.1 hp with e |hp
  ·obtain⟨rfl,rfl⟩:=Prod.mk.inj e;have:=h.1;by_cases hs:(ofL O i').isSome
   ·exact .inl hs
   ·rw[if_neg hs]at this;exact .inr this
  ·exact C0v h.2 i' o' hp
variable {b:Bool} {m:Nat->Option A7} {avs cargs:List AV}
theorem B5 {Q:ContR}{r:AV}(md:List Bool)(ρs:List (Nat×Nat))(hc:D5 P f cargs O r O')
  (hnO:(O.map (·.1)).Nodup)(hnO':(O'.map (·.1)).Nodup)(hnd:(O'.map λp=>D3 ρs p.1).Nodup)(hOO: ∀i∈O.map (·.1),(ofL O' i).isSome)
  (ha:L8 m (D3 ρs) O md avs cargs [] λwr=>B9y (wrm m wr) (D3 ρs) O O/\D2h m (D3 ρs) O O'/\b=true/\ @Ri Q b ⟨some (r.ren (D3 ρs)),wr++A3u (D3 ρs) O'⟩):
  @A21 P m f avs b Q:=by
 obtain⟨cs,wr,h1,h2,h3,h4,h5,h6⟩:=C19 ha;rw[List.nil_append]at h3 h6;refine⟨_,λ_=>R5.mk md cs O r O' (D3 ρs) wr false (hc.args_le h2) h1 (λi o hi=>(A88 h3 i o (A0p hnO hi)).1)
  (λi cs hi=>(A88 h3 i _ (A0p hnO hi)).2 cs rfl) (λi hi=> ?_) (λi hi=> ?_) hnd (λh=>by cases h),λ_=>h5,h6⟩
 ·obtain⟨o,ho⟩:=A89 hi;exact hOO i (List.mem_map_of_mem (f:=(·.1)) ho)
 ·obtain⟨o,ho⟩:=A89 hi;exact C0v h4 i o ho
variable {z:Nat} {g:Nat->List AV}
theorem D5.nil_split {r:AV}(pre post:List AV)(h0:D5 P f (pre++ .sc (.slice none 0 0)::post) [] r O')(h1: ∀a c,D5 P f (pre++ .sc (.slice (some a) 0 c)::post) [] r O'):
  D5 P f (pre++ .dsl z 0 g::post) [] r O':=by
 refine⟨h0.1,λG w ob vals hs hr=> ?_⟩;have hrel:=hr.2 pre.length (.dsl z 0 g) (by simp)
 have key: ∀v,vals.getD pre.length undef=v->v.oneCell'=true->A55 G w ob (pre++ .sc v::post) vals:=by
  intro v hv ho;refine⟨by rw[hr.1];simp,λj av hj=> ?_⟩;rcases Nat.lt_trichotomy j pre.length with h |h |h
  ·refine hr.2 j av ?_;rw[List.getElem?_append_left h]at hj⊢;exact hj
  ·subst h;rw[List.getElem?_append_right (Nat.le_refl _),Nat.sub_self,List.getElem?_cons_zero,Option.some.injEq]at hj;subst hj;rw[hv];exact .sc ho
  ·refine hr.2 j av ?_;obtain⟨k,rfl⟩: ∃k,j=pre.length+(k+1):=⟨j-pre.length-1,by omega⟩;rw[List.getElem?_append_right (by omega),Nat.add_sub_cancel_left,List.getElem?_cons_succ]at hj⊢;exact hj
 generalize hv:vals.getD pre.length undef=v at hrel;cases hrel with
 |dslNil=>exact h0.2 G w ob vals hs (key _ hv rfl)
 |dslE a cap=>exact(h1 a cap).2 G w ob vals hs (key _ hv rfl)
 |dsl b off cap c=>exact(h1 ⟨b,off,none⟩ cap).2 G w ob vals hs (key _ hv rfl)
end
attribute [go_sem] Bool.true_and AV.one B3o Option.isSome_none Bool.and_false Bool.or_false Bool.or_true Bool.and_true X6 nid G3i G1s G1r A3i B4s A3l D3 List.not_mem_nil false_implies implies_true List.mem_singleton List.mem_cons forall_eq Option.isSome_some or_false or_true Option.getD_some Option.getD_none Nat.zero_add List.drop_one List.tail_cons G07 G39 G06 G01 G02 F7j F7k G04 G05 G03 G38 E2d E6y E93 D90 E48 E6t E6w E92 G32 G30 G00 G1a F7q G08 F7n G35 G34 G09 F26 A15 eval target St.es A0s A13 B58 A17 St.e St.ev St.c St.put AOp.ops A7d F69 C2a E9i B1b C8j wrm List.foldl_nil List.foldl_cons List.map_nil List.map_cons Option.map_some Option.map_none and_self true_and and_true ne_eq not_true_eq_false true_implies not_false_eq_true if_true if_false eq_self Bool.true_eq_false Bool.false_eq_true A7o T1 AV.cells List.length_cons List.length_nil List.drop_zero List.drop_succ_cons List.append_nil List.nil_append List.cons_append Bool.not_true Bool.not_false and_false false_and List.getElem?_cons_zero List.getElem?_cons_succ B6m A0n R1 F48 F46 F3a AV.pure AV.flat imp_self ofL A5t AV.ren List.all_cons List.all_nil Bool.and_self List.take_succ_cons List.take_zero A02 cellsOf F0 AV.ids D37 List.reverse_nil gt_iff_lt ge_iff_le decide_eq_true_eq Int.toNat_natCast F8g bor G7k G7l G6m Bool.not_eq_true' Bool.not_eq_false' Bool.not_not A0b esL A61 L8 B9y D2h A3u A7.ren A9i G0u G0s C6v F3e C1g List.map_append Option.isNone_none Option.isNone_some List.nodup_cons List.nodup_nil Prod.mk.injEq Option.some.injEq AV.sc.injEq Value.int.injEq Value.bool.injEq AV.sl.injEq AV.ptr.injEq AV.agg.injEq List.cons.injEq
end Go.Abs
end
noncomputable section
namespace Go.Abs
def A6a(P:Program):List ResultVar->Option (List (Nat×Option (Option Nat)))
 | []=>some []
 | .tmp t::r=>match A6a P r with
   |some l=>some ((t,none)::l)
   |none=>none
 | .cell a t::r=>match C0g P t,A6a P r with
   |some n,some l=>some ((a,some n)::l)
   |_,_=>none
def A59:St->Nat->List (Nat×Option (Option Nat))->(St->Prop)->Prop
 |σ,_,[],K=>K σ
 |σ,M,(t,none)::r,K=>A59 ⟨upd σ.env M (σ.env t),σ.objs⟩ (M+1) r K
 |σ,M,(a,some n)::r,K=>match eval (.load n (.t a)) σ.e σ.objs 0 with
  |some (p,⟨some v,[]⟩)=>σ.c (.t a)=true/\p/\A59 ⟨upd σ.env M (some (true,v)),σ.objs⟩ (M+1) r K
  |_=>False
section
variable {P:Program} {G:Nat->Prop} {w:World} {ob:Place}
variable {σ:St} {a:Act} {M:Nat}
theorem Sim.push(h:Sim M σ a w ob G)(x:Option (Bool×AV))(v:Value)(hx: ∀av,x=some (true,av)->Rel G w ob av v)(hx0: ∀av,x=some (false,av)->v=undef):
  Sim (M+1) ⟨upd σ.env M x,σ.objs⟩ {a with tmps:=a.tmps.push v} w ob G:=by
 refine⟨by simp[h.size],h.defers,h.objs,λt av ht=> ?_,λt av ht=> ?_⟩;rotate_left
 ·simp only[upd]at ht;split at ht
  ·rename_i e;subst e;rw[hx0 av ht,<-h.size];simp
  ·have h1:=h.env0 t av ht
   grind
 simp only[upd]at ht;split at ht
 ·rename_i e;subst e;exact⟨v,by rw[<-h.size];simp,hx av ht⟩
 ·obtain⟨u,h1,h2⟩:=h.env t av ht
  grind
def G3x(P:Program)(t:TypeId)(n:Option Nat):Prop:=match n with |none=>R7 P t=some false |some k=>R7 P t=some true/\Y3 P t=some k
variable {t:TypeId}
theorem E97 {n:Option Nat}(h:C0g P t=some n):G3x P t n:=by
 unfold C0g at h;split at h
 ·simp only[Option.some.injEq]at h;subst h;assumption
 ·rename_i hagg;split at h
  ·rename_i k hk';simp only[Option.some.injEq]at h;subst h;exact⟨hagg,hk'⟩
  ·cases h
 ·cases h
theorem E3b(tmps0:Array Value)(f:ResultVar->Sem Value)(hf1: ∀t,f (.tmp t)=pure (tmps0.getD t undef))(hf2: ∀a t,f (.cell a t)=(do loadVar t (<-asAddr (tmps0.getD a undef)))):
  ∀(l:List ResultVar) (rvs:List (Nat×Option (Option Nat))) (M:Nat) (σ:St) (a:Act) (K:St->Prop),A6a P l=some rvs->Sim M σ a w ob G->tmps0.size<=M->(∀t,t<tmps0.size->a.tmps[t]? =tmps0[t]?)->
   (∀p∈rvs,p.1<tmps0.size)->A59 σ M rvs K->
   ∃σ2 a2 vs,K σ2/\Sim (M+rvs.length) σ2 a2 w ob G/\(l.mapM f).run P w= .ok vs w/\vs.length=rvs.length/\(∀j,j<rvs.length->a2.tmps[M+j]? =vs[j]?)/\(∀t,t<M->a2.tmps[t]? =a.tmps[t]?)
 | [],rvs,M,σ,a,K,hl,hs,hM,hpre,hlt,h=>by simp only[A6a,Option.some.injEq]at hl;subst hl;exact⟨σ,a,[],h,hs,by simp,rfl,λj hj=>by simp at hj,λt _=>rfl⟩
 | .tmp t::l,rvs,M,σ,a,K,hl,hs,hM,hpre,hlt,h=>by
   simp only[A6a]at hl;split at hl
   case h_2=>cases hl
   rename_i rvs' hl';simp only[Option.some.injEq]at hl;subst hl;simp only[A59]at h;have ht:=hlt (t,none) (by simp);simp only at ht;have hs1:=hs.push (σ.env t) (tmps0.getD t undef) (λav hav=>by
    obtain⟨v,h1,h2⟩:=hs.env t av hav;simp_all) λav hav=>by
    have h1:=hs.env0 t av hav;simp_all
   obtain⟨σ2,a2,vs,k1,k2,k3,k4,k5,k6⟩:=E3b tmps0 f hf1 hf2 l rvs' (M+1) _ _ K hl' hs1 (by omega) (λu hu=>by grind) (λp hp=>hlt p (by simp[hp])) h
   refine⟨σ2,a2,tmps0.getD t undef::vs,k1,by grind,?_,by simp[k4],λj hj=> ?_,λu hu=> ?_⟩
   ·rw[List.mapM_cons,hf1];simp[k3]
   ·cases j with
    |zero=>rw[Nat.add_zero,k6 M (by omega),List.getElem?_cons_zero];show(a.tmps.push _)[M]? =_;rw[<-hs.size];simp
    |succ j=>grind
   ·rw[k6 u (by omega)];simp only[Array.getElem?_push];rw[if_neg (by rw[hs.size];omega)]
 | .cell c t::l,rvs,M,σ,a,K,hl,hs,hM,hpre,hlt,h=>by
   simp only[A6a]at hl;split at hl
   case h_2=>cases hl
   rename_i n rvs' hcn hl';simp only[Option.some.injEq]at hl;subst hl;simp only[A59]at h;split at h
   case h_2=>exact h.elim
   rename_i p v hev;obtain⟨hc,hp,h⟩:=h;have ht:=hlt (c,some n) (by simp);simp only at ht;have hop:O3 G w ob (a.eval) σ.e':=hs.opRel
   have hev':eval (.load n (.t c)) σ.e' σ.objs 0=some (p,⟨some v,[]⟩):=by rw[<-C66 (λx hx=>A86 (by simp only[AOp.ops,List.mem_singleton]at hx;subst hx;exact hc))];exact hev
   have hload: ∃u,(do loadVar t (<-asAddr (tmps0.getD c undef))).run P w= .ok u w/\Rel G w ob v u:=by
    have hval:a.eval (.tmp c)=tmps0.getD c undef:=by show a.tmps.getD c undef=_;simp_all
    simp only[eval]at hev';have tn:=E97 hcn;split at hev'
    ·rename_i cs hx;simp only[Option.map_eq_some_iff,Prod.mk.injEq,Res.mk.injEq,Option.some.injEq]at hev';obtain⟨v',hk,_,rfl,_⟩:=hev';obtain⟨b,off,hxe,hG,hcell⟩:=B9l (hop (.tmp c) (.t c) _ rfl hx);obtain⟨u,h1,h2⟩:=A7p tn hcell hk;rw[<-hval,hxe];exact⟨u,by simp[asAddr,h1],h2⟩
    ·rename_i id k o tot hx;have hcases:(∃z s,σ.objs id=some (.arrP z s))\/(∀z s,σ.objs id≠some (.arrP z s)):=by
      grind
     rcases hcases with⟨z,s,hm⟩ |hnm
     ·rw[hm]at hev';obtain⟨rfl,b,off,u,hxe,hcell,hrel⟩:=F39 hs.objs hm (hop (.tmp c) (.t c) _ rfl hx) hev' hp;rw[<-hval,hxe];exact⟨u,by simp[asAddr,loadVar,Z0 tn,hcell],hrel⟩
     replace hev':(match cellsOf σ.objs id k tot with
      |some (p,cs)=>(B1b n (cs.drop o)).map λv=>(p,(⟨some v,[]⟩:Res))
      |none=>none)=some (p,⟨some v,[]⟩):=by
      grind
     split at hev'
     case h_2=>cases hev'
     rename_i p' cs hcs;simp only[Option.map_eq_some_iff,Prod.mk.injEq,Res.mk.injEq,Option.some.injEq]at hev';obtain⟨v',hk,rfl,rfl,_⟩:=hev';obtain⟨b,base,hxe,hcell⟩:=E4g hs.objs (hop (.tmp c) (.t c) _ rfl hx) hcs hp;obtain⟨u,h1,h2⟩:=A7p tn (hcell.drop o) hk;rw[<-hval,hxe];exact⟨u,by simp[asAddr,h1],h2⟩
    ·cases hev'
   obtain⟨u,hrun,hrel⟩:=hload;have hs1:=hs.push (some (true,v)) u (λav hav=>by grind) (λav hav=>by simp at hav);obtain⟨σ2,a2,vs,k1,k2,k3,k4,k5,k6⟩:=E3b tmps0 f hf1 hf2 l rvs' (M+1) _ _ K hl' hs1 (by omega) (λq hq=>by grind) (λp hp=>hlt p (by simp[hp])) h
   refine⟨σ2,a2,u::vs,k1,by grind,?_,by simp[k4],λj hj=> ?_,λq hq=> ?_⟩
   ·rw[List.mapM_cons,hf2];simp only[Sem.run_bind,hrun,k3,Result.andThen_ok];rfl
   ·cases j with
    |zero=>rw[Nat.add_zero,k6 M (by omega),List.getElem?_cons_zero];show(a.tmps.push _)[M]? =_;rw[<-hs.size];simp
    |succ j=>grind
   ·rw[k6 q (by omega)];simp only[Array.getElem?_push];rw[if_neg (by rw[hs.size];omega)]
end
end Go.Abs
namespace Go.Abs
section
variable {P:Program}
variable {σ:St} {a:Act} {fn:Func} {rvs:List (Nat×Option (Option Nat))} {M:Nat}
theorem C0y {w:World}{ob:Place}{G:Nat->Prop}{K:St->Prop}(h:A6a P fn.results.toList=some rvs)(hs:Sim M σ a w ob G)
  (hlt: ∀p∈rvs,p.1<M)(hr:A59 σ M rvs K):
  ∃σ2 a2 v,K σ2/\Sim (M+rvs.length) σ2 a2 w ob G/\(results fn a.tmps).run P w= .ok v w/\v=(match(List.range' M rvs.length).map (λt=>a2.tmps.getD t undef)with | [x]=>x |vs=> .tuple vs.toArray):=by
 let f:ResultVar->Sem Value:=λ
  | .tmp t=>pure (a.tmps.getD t undef)
  | .cell c t=>do loadVar t (<-asAddr (a.tmps.getD c undef))
 obtain⟨σ2,a2,vs,k1,k2,k3,k4,k5,k6⟩:=E3b a.tmps f (λ_=>rfl) (λ_ _=>rfl) fn.results.toList rvs M σ a K h hs (by rw[hs.size];exact Nat.le_refl _) (λ_ _=>rfl) (λp hp=>by rw[hs.size];exact hlt p hp) hr;have hvs:(List.range' M rvs.length).map (λt=>a2.tmps.getD t undef)=vs:=by
  apply List.ext_getElem?;intro j;by_cases hj:j<rvs.length
  all_goals simp_all
 refine⟨σ2,a2,_,k1,k2,?_,rfl⟩;rw[hvs];unfold results;have h1:fn.results=fn.results.toList.toArray:=by simp
 have h2:(fn.results.mapM f).run P w= .ok vs.toArray w:=by rw[h1,List.mapM_toArray];simp only[map_eq_pure_bind,Sem.run_bind,k3,Result.andThen_ok];rfl
 show(do let vs<-fn.results.mapM f;pure (if h:vs.size=1 then vs[0]else .tuple vs):Sem Value).run P w=_;rw[Sem.run_bind,h2,Result.andThen_ok]
 match vs with
 | []=>rfl
 | [x]=>rfl
 |x::y::r=>rfl
@[reducible] def C2p(N:Nat)(rvs:List (Nat×Option (Option Nat)))(rs:List AV):Cont:=⟨λo σ=>match o with | .exit _=>False | .normal=>A59 σ N rvs λσ2=>B6m σ2 (List.range' N rvs.length) rs | .ret=>A59 σ N rvs λσ2=>B6m σ2 (List.range' N rvs.length) rs⟩
@[reducible] def B4w(N:Nat)(K:List Nat)(rvs:List (Nat×Option (Option Nat)))(rs:List AV)(O':List (Nat×A7)):Cont:=⟨λo σ=>match o with | .exit _=>False | .normal=>A59 σ N rvs λσ2=>A8c K σ2 (List.range' N rvs.length) rs O' | .ret=>A59 σ N rvs λσ2=>A8c K σ2 (List.range' N rvs.length) rs O'⟩
variable {rs:List AV} {N:Nat}
theorem G0v: @Qi (C2p N rvs rs) .ret σ=A59 σ N rvs λσ2=>B6m σ2 (List.range' N rvs.length) rs:=rfl
theorem G0t: @Qi (C2p N rvs rs) .normal σ=A59 σ N rvs λσ2=>B6m σ2 (List.range' N rvs.length) rs:=rfl
variable {K:List Nat} {O':List (Nat×A7)}
theorem F7i: @Qi (B4w N K rvs rs O') .ret σ=A59 σ N rvs λσ2=>A8c K σ2 (List.range' N rvs.length) rs O':=rfl
theorem F7h: @Qi (B4w N K rvs rs O') .normal σ=A59 σ N rvs λσ2=>A8c K σ2 (List.range' N rvs.length) rs O':=rfl
theorem D2n {K K':St->Prop}(h: ∀σ,K σ->K' σ): ∀(rvs:List (Nat×Option (Option Nat))) (σ:St) (M:Nat),A59 σ M rvs K->A59 σ M rvs K'
 | [],σ,M,hr=>h σ hr
 |(t,none)::r,σ,M,hr=>by simp only[A59]at hr⊢;exact D2n h r _ _ hr
 |(a,some n)::r,σ,M,hr=>by
  simp only[A59]at hr⊢;split at hr
  ·exact⟨hr.1,hr.2.1,D2n h r _ _ hr.2.2⟩
  ·exact hr.elim
variable {O:List (Nat×A7)} {f:FuncId} {args:List AV} {ac:ACode}
theorem E30
  (hf:P.funcs[f]? =some fn)(hb:fn.body=some (fn.body.getD .skip))(hname:(fn.name != "runtime.NumGoroutine")=true)(hc:F9 P fn.ntmps (fn.body.getD .skip)=some ac.strip)
  (hts:A6a P fn.results.toList=some rvs)(hlt:(rvs.all λp=>p.1.blt fn.ntmps)=true)(hl:(args.length.ble fn.ntmps)=true)
  (h:Wp P fn.ntmps (O.map (·.1)) ac (B4w fn.ntmps (O.map (·.1)) rvs rs O').q (A0s args O)):D5 P f args O (A5t rs) O':=by
 refine⟨by unfold A3o;rw[hf];simp only;rw[hb];simp[hname],λG w ob vals hs hr=> ?_⟩;refine calls_of_wp hf hb ?_;have h1:=h _ hc ⟨G,w,ob⟩ _ w ob G (D3q hs hr (Nat.le_of_ble_eq_true hl)) ⟨Fr.refl G w ob,λid i _ hi=>⟨i,hi, .inl rfl⟩⟩;refine wp_mono h1 ?_;rintro e a' w' ⟨o,σ,ob1,G1,rfl,hq,s,hΓ⟩;have hlt': ∀p∈rvs,p.1<fn.ntmps:=λp hp=>by have:=List.all_eq_true.1 hlt p hp;simpa[Nat.blt_eq]using this
 have fin:(A59 σ fn.ntmps rvs λσ2=>A8c (O.map (·.1)) σ2 (List.range' fn.ntmps rvs.length) rs O')->a'.defers= []/\ ∃v,(results fn a'.tmps).run P w'= .ok v w'/\
   ∃v' G' ob',Ending.returned v= .returned v'/\E9 G' w' ob' (ofL O')/\Rel G' w' ob' (A5t rs) v'/\Fr G w ob G' w' ob'/\D4 ob ob':=by
  intro hR;obtain⟨σ2,a2,v,k1,k2,hv,hv'⟩:=C0y hts s hlt' hR;obtain⟨md,hml,hrl,ρ,A,hw⟩:=k1;obtain⟨ob2,G2,g1,g2,g3⟩:=B3z k2 hw;refine⟨s.defers,v,hv,v,G2,ob2,rfl,g1.objs,?_,hΓ.fr.trans g2,?_⟩
  ·rw[hv'];exact D8p hrl λj t r ht hr=>g1.env t r (C2g hml hrl List.nodup_range' j t r ht hr)
  ·intro id i hi;have hk:id∈O.map (·.1):=by
    cases ho:ofL O id with
    |none=>rw[(hs.dom id).1 ho]at hi;cases hi
    |some o=>obtain⟨o',ho'⟩:=A89 (by rw[ho];rfl);exact List.mem_map_of_mem (f:=(·.1)) ho'
   obtain⟨i',hi',h'⟩:=hΓ.ext id i hk hi
   grind
 cases o with
 |normal=>exact fin hq
 |exit i=>exact hq.elim
 |ret=>exact fin hq
theorem E96(hm:P.follows .mixedOrders=true)
  (hf:P.funcs[f]? =some fn)(hb:fn.body=some (fn.body.getD .skip))(hname:(fn.name != "runtime.NumGoroutine")=true)(hc:F9 P fn.ntmps (fn.body.getD .skip)=some ac.strip)
  (hts:A6a P fn.results.toList=some rvs)(hlt:(rvs.all λp=>p.1.blt fn.ntmps)=true)(hl:(args.length.ble fn.ntmps)=true)
  (h: @Wi P fn.ntmps (O.map (·.1)) ac (B4w fn.ntmps (O.map (·.1)) rvs rs O') (A0s args O)):D5 P f args O (A5t rs) O':=
 E30 hf hb hname hc hts hlt hl (Wp.of_W hm ac h)
theorem F3k(hm:P.follows .mixedOrders=true)
  (hf:P.funcs[f]? =some fn)(hb:fn.body=some (fn.body.getD .skip))(hname:(fn.name != "runtime.NumGoroutine")=true)(hc:F9 P fn.ntmps (fn.body.getD .skip)=some ac.strip)
  (hts:A6a P fn.results.toList=some rvs)(hlt:(rvs.all λp=>p.1.blt fn.ntmps)=true)(hl:(args.length.ble fn.ntmps)=true)
  (h: @Wi P fn.ntmps [] ac (C2p fn.ntmps rvs rs) (A0s args [])):D5 P f args [] (A5t rs) []:=by
 have conv: ∀σ,(A59 σ fn.ntmps rvs λσ2=>B6m σ2 (List.range' fn.ntmps rvs.length) rs)->A59 σ fn.ntmps rvs λσ2=>A8c [] σ2 (List.range' fn.ntmps rvs.length) rs []:=λσ hr=>
  D2n (λσ2 h2=>by obtain⟨md,h1,h2,h3⟩:=C7m (acc:= []) h2;exact⟨md,h1,h2,E1t h3⟩) rvs σ _ hr
 refine E30 (O:= []) (O':= []) hf hb hname hc hts hlt hl ((Wp.of_W hm ac h).mono λo σ hq=> ?_)
 ·cases o with
  |exit i=>exact hq
  |normal=>exact conv σ hq
  |ret=>exact conv σ hq
theorem B6u {f:Nat}(hm:P.follows .mixedOrders=true)
  (hf:P.funcs[f]? =some fn)(hb:fn.body=some (fn.body.getD .skip))(hname:(fn.name != "runtime.NumGoroutine")=true)(hc:F9 P fn.ntmps (fn.body.getD .skip)=some ac.strip)(hN:fn.ntmps=N)
  (hts:A6a P fn.results.toList=some rvs)(hlt:(rvs.all λp=>p.1.blt N)=true)(hl:(args.length.ble N)=true)
  (h: @Wi P N [] ac (C2p N rvs rs) (A0s args [])):D5 P f args [] (A5t rs) []:=by
 subst hN;exact F3k hm hf hb hname hc hts hlt hl h
theorem C0f {f:Nat}(hm:P.follows .mixedOrders=true)
  (hf:P.funcs[f]? =some fn)(hb:fn.body=some (fn.body.getD .skip))(hname:(fn.name != "runtime.NumGoroutine")=true)(hc:F9 P fn.ntmps (fn.body.getD .skip)=some ac.strip)(hN:fn.ntmps=N)
  (hts:A6a P fn.results.toList=some rvs)(hlt:(rvs.all λp=>p.1.blt N)=true)(hl:(args.length.ble N)=true)
  (h: @Wi P N (O.map (·.1)) ac (B4w N (O.map (·.1)) rvs rs O') (A0s args O)):D5 P f args O (A5t rs) O':=by
 subst hN;exact E96 hm hf hb hname hc hts hlt hl h
end
attribute [go_sem] A59 G0v G0t F7i F7h List.range'_succ List.range'_zero
end Go.Abs
end
noncomputable section
namespace Go.Abs
theorem F49(a:AV):M9 a a=True:=eq_true (D0 a)
theorem F3b(l:List AV):W0 l l=True:=eq_true (H9 l)
variable {z:Nat} {s:Sq}
theorem F0g {ρ:Nat->Nat}:A31 ρ (.arr z s) (.arr z s)=True:=eq_true A20
theorem U4(z n z' n':Nat)(g g':Nat->List AV):M9 (.dsl z n g) (.dsl z' n' g')=(z=z'/\n=n'/\ ∀i,i<n->W0 (g i) (g' i)):=by simp only[M9]
theorem E69(cs cs':List AV):M9 (.agg cs) (.agg cs')=W0 cs cs':=by simp only[M9]
variable {g:Nat->List AV}
theorem G1c {α:Type}{enc:α->List AV}{d:α}{l l':List α}{ρ:Nat->Nat}(x:α)(hg:g 0=enc x)(hl:l'=l++ [x]):
  A31 ρ (.arr z ((A4l enc d l).app ⟨1,g⟩)) (.arr z (A4l enc d l')):=by subst hl;exact F29 hg
variable {i:Nat}
theorem L5 {α:Type}{l:List α}(d:α)(h:i<l.length):l.take (i+1)=l.take i++ [l.getD i d]:=by rw[List.take_add_one,List.getElem?_eq_getElem h];simp[List.getD,h]
theorem B8 {α:Type}{l:List α}(d:α)(h:i<l.length):l.getD i d∈l:=by simp[List.getD,h]
variable {β:Type}
theorem E5g {α:Type}{l:List α}(d:α)(f:α->β)(h:i<l.length):(l.take (i+1)).map f=(l.take i).map f++ [f (l.getD i d)]:=by rw[L5 d h,List.map_append];rfl
attribute [go_sem] F49 F3b F0g
section
variable {α:Type}
def I8(enc:α->List AV)(d:α)(l:List α):Nat->List AV:=λi=>enc (l.getD i d)
def A4(z:Nat)(enc:α->List AV)(d:α)(l:List α):AV:= .dsl z l.length (I8 enc d l)
def A9(enc:α->List AV)(d:α)(l:List α):Sq:=⟨l.length,I8 enc d l⟩
theorem B3m(enc:α->List AV)(d:α)(l:List α)(i:Nat):I8 enc d l i=enc (l.getD i d):=rfl
theorem G4n(enc:α->List AV)(d:α)(l:List α):(A9 enc d l).n=l.length:=rfl
theorem F5s(enc:α->List AV)(d:α)(l:List α):(A9 enc d l).g=I8 enc d l:=rfl
theorem D3r(g:Nat->List AV):(λi=>g (0+i))=g:=by funext i;rw[Nat.zero_add]
variable {l l':List α}
theorem A1g {enc:α->List AV}{d:α}{ρ:Nat->Nat}(x:α)(hg:g 0=enc x)(hl:l'=l++ [x]):
  A31 ρ (.arr z ((A9 enc d l).app ⟨1,g⟩)) (.arr z (A9 enc d l')):=G1c x hg hl
theorem A2y {enc:α->List AV}{d:α}{c:List AV}(x:α){ρ:Nat->Nat}{z:Nat}(hi:i<l.length)(hc:c=enc x)(hl:l.set i x=l'):
  A31 ρ (.arr z ((A9 enc d l).set i c)) (.arr z (A9 enc d l')):=G59 x hi hc hl
theorem A65 {enc:α->List AV}{d:α}{c:List AV}(x:α)(hi:i<l.length)(hc:c=enc x):(A9 enc d l).set i c=A9 enc d (l.set i x):=by subst hc;exact E33 hi
theorem A32 {enc:α->List AV}{d:α}{ρ:Nat->Nat}(h:l=l'):A31 ρ (.arr z (A9 enc d l)) (.arr z (A9 enc d l')):=G3f h
theorem G8 {enc:α->List AV}{d:α}(h:l= []):M9 (.sc (.slice none 0 0)) (A4 z enc d l):=F47 h
theorem F5r(enc:α->List AV)(d:α)(l:List α):Sq.mk l.length (I8 enc d l)=A9 enc d l:=rfl
theorem G54 {enc:α->List AV}{d:α}:(A9 enc d l).app (A9 enc d l')=A9 enc d (l++l'):=F5t
end
theorem F7r(g:Nat->List AV)(t:Sq):Sq.app ⟨0,g⟩ t=t:=by cases t;simp[Sq.app]
attribute [go_sem] forall_eq_or_imp F7r F5r G54 E2q keys A0a B0c AOp.isCall A4s AOp.touches AOp.mayWrite List.flatMap_cons List.flatMap_nil List.append_assoc List.getElem?_nil List.all_cons List.all_nil List.map_cons E69 A4 B3m G4n F5s List.length_take Int.natCast_zero
theorem E7s(z n:Nat)(g:Nat->List AV):AV.dsl z n (λi=>g (0+i))=AV.dsl z n g:=by rw[D3r]
theorem F01(n:Nat)(g:Nat->List AV):Sq.mk n (λi=>g (0+i))=Sq.mk n g:=by rw[D3r]
attribute [go_sem ↓] E7s F01
end Go.Abs
end
noncomputable section
namespace Go.Api
open Go.Abs
def C6(x:Int):List AV:= [.sc (.int .i64 x)]
structure cI where
 X:Int
 Y:Int
 deriving DecidableEq,Inhabited
def cI.enc(x:cI):List AV:=[.sc (.int .i64 x.X), .sc (.int .i64 x.Y)]
def cI.zero:List AV:= [.sc (.int .i64 0), .sc (.int .i64 0)]
structure cM where
 dZ:Int
 eG:cI
 eL:Int
 eD:Int
 deriving DecidableEq,Inhabited
def cM.enc(x:cM):List AV:=[.sc (.int .i64 x.dZ), .sc (.int .i64 x.eG.X), .sc (.int .i64 x.eG.Y), .sc (.int .i64 x.eL), .sc (.int .i64 x.eD)]
def cM.zero:List AV:= [.sc (.int .i64 0), .sc (.int .i64 0), .sc (.int .i64 0), .sc (.int .i64 0), .sc (.int .i64 0)]
structure cH where
 dY:cI
 eR:Int
 deriving DecidableEq,Inhabited
def cH.enc(x:cH):List AV:=[.sc (.int .i64 x.dY.X), .sc (.int .i64 x.dY.Y), .sc (.int .i64 x.eR)]
def cH.zero:List AV:= [.sc (.int .i64 0), .sc (.int .i64 0), .sc (.int .i64 0)]
structure Shape where
 cS:Int
 eV:Int
 cJ:List cI
 deriving DecidableEq,Inhabited
def Shape.enc(x:Shape):List AV:=[.sc (.int .i64 x.cS), .sc (.int .i64 x.eV),A4 2 cI.enc default x.cJ]
def Shape.zero:List AV:= [.sc (.int .i64 0), .sc (.int .i64 0), .sc (.slice none 0 0)]
structure dB where
 Shape:Shape
 fR:Int
 eI:Int
 fC:Int
 fL:Bool
 fQ:Int
 fY:Int
 fV:Int
 deriving DecidableEq,Inhabited
def dB.enc(x:dB):List AV:=[.sc (.int .i64 x.Shape.cS), .sc (.int .i64 x.Shape.eV),A4 2 cI.enc default x.Shape.cJ, .sc (.int .i64 x.fR), .sc (.int .i64 x.eI), .sc (.int .i64 x.fC), .sc (.bool x.fL), .sc (.int .i64 x.fQ), .sc (.int .i64 x.fY), .sc (.int .i64 x.fV)]
def dB.zero:List AV:= [.sc (.int .i64 0), .sc (.int .i64 0), .sc (.slice none 0 0), .sc (.int .i64 0), .sc (.int .i64 0), .sc (.int .i64 0), .sc (.bool false), .sc (.int .i64 0), .sc (.int .i64 0), .sc (.int .i64 0)]
structure cF where
 ID:Int
 cS:Int
 cH:cH
 dL:cI
 cZ:Int
 fF:cI
 fH:Int
 eA:Int
 dX:Int
 eF:Int
 fG:Bool
 eC:Bool
 fD:Bool
 eU:Bool
 eJ:Int
 cK:List dB
 deriving DecidableEq,Inhabited
def cF.enc(x:cF):List AV:=[.sc (.int .i64 x.ID), .sc (.int .i64 x.cS), .sc (.int .i64 x.cH.dY.X), .sc (.int .i64 x.cH.dY.Y), .sc (.int .i64 x.cH.eR), .sc (.int .i64 x.dL.X), .sc (.int .i64 x.dL.Y), .sc (.int .i64 x.cZ), .sc (.int .i64 x.fF.X), .sc (.int .i64 x.fF.Y), .sc (.int .i64 x.fH), .sc (.int .i64 x.eA), .sc (.int .i64 x.dX), .sc (.int .i64 x.eF), .sc (.bool x.fG), .sc (.bool x.eC), .sc (.bool x.fD), .sc (.bool x.eU), .sc (.int .i64 x.eJ),A4 10 dB.enc default x.cK]
def cF.zero:List AV:= [.sc (.int .i64 0), .sc (.int .i64 0), .sc (.int .i64 0), .sc (.int .i64 0), .sc (.int .i64 0), .sc (.int .i64 0), .sc (.int .i64 0), .sc (.int .i64 0), .sc (.int .i64 0), .sc (.int .i64 0), .sc (.int .i64 0), .sc (.int .i64 0), .sc (.int .i64 0), .sc (.int .i64 0), .sc (.bool false), .sc (.bool false), .sc (.bool false), .sc (.bool false), .sc (.int .i64 0), .sc (.slice none 0 0)]
structure Four where
 I0:Int
 I1:Int
 I2:Int
 I3:Int
 deriving DecidableEq,Inhabited
def Four.enc(x:Four):List AV:=[.sc (.int .i64 x.I0), .sc (.int .i64 x.I1), .sc (.int .i64 x.I2), .sc (.int .i64 x.I3)]
def Four.zero:List AV:= [.sc (.int .i64 0), .sc (.int .i64 0), .sc (.int .i64 0), .sc (.int .i64 0)]
structure cG where
 ID:Int
 cS:Int
 cU:Int
 cV:Int
 dW:cI
 dR:cI
 eS:cI
 cX:Int
 dE:Bool
 dN:Int
 dS:Int
 dH:Bool
 dP:Int
 dU:Int
 dD:Int
 dI:Int
 dC:Bool
 cQ:Four
 deriving DecidableEq,Inhabited
def cG.enc(x:cG):List AV:=[.sc (.int .i64 x.ID), .sc (.int .i64 x.cS), .sc (.int .i64 x.cU), .sc (.int .i64 x.cV), .sc (.int .i64 x.dW.X), .sc (.int .i64 x.dW.Y), .sc (.int .i64 x.dR.X), .sc (.int .i64 x.dR.Y), .sc (.int .i64 x.eS.X), .sc (.int .i64 x.eS.Y), .sc (.int .i64 x.cX), .sc (.bool x.dE), .sc (.int .i64 x.dN), .sc (.int .i64 x.dS), .sc (.bool x.dH), .sc (.int .i64 x.dP), .sc (.int .i64 x.dU), .sc (.int .i64 x.dD), .sc (.int .i64 x.dI), .sc (.bool x.dC), .sc (.int .i64 x.cQ.I0), .sc (.int .i64 x.cQ.I1), .sc (.int .i64 x.cQ.I2), .sc (.int .i64 x.cQ.I3)]
def cG.zero:List AV:= [.sc (.int .i64 0), .sc (.int .i64 0), .sc (.int .i64 0), .sc (.int .i64 0), .sc (.int .i64 0), .sc (.int .i64 0), .sc (.int .i64 0), .sc (.int .i64 0), .sc (.int .i64 0), .sc (.int .i64 0), .sc (.int .i64 0), .sc (.bool false), .sc (.int .i64 0), .sc (.int .i64 0), .sc (.bool false), .sc (.int .i64 0), .sc (.int .i64 0), .sc (.int .i64 0), .sc (.int .i64 0), .sc (.bool false), .sc (.int .i64 0), .sc (.int .i64 0), .sc (.int .i64 0), .sc (.int .i64 0)]
structure cR where
 cU:Int
 dM:Int
 cV:Int
 dK:Int
 deriving DecidableEq,Inhabited
def cR.enc(x:cR):List AV:=[.sc (.int .i64 x.cU), .sc (.int .i64 x.dM), .sc (.int .i64 x.cV), .sc (.int .i64 x.dK)]
def cR.zero:List AV:= [.sc (.int .i64 0), .sc (.int .i64 0), .sc (.int .i64 0), .sc (.int .i64 0)]
structure cO where
 eY:cI
 fA:Int
 ID:Int
 eM:Int
 eW:Int
 deriving DecidableEq,Inhabited
def cO.enc(x:cO):List AV:=[.sc (.int .i64 x.eY.X), .sc (.int .i64 x.eY.Y), .sc (.int .i64 x.fA), .sc (.int .i64 x.ID), .sc (.int .i64 x.eM), .sc (.int .i64 x.eW)]
def cO.zero:List AV:= [.sc (.int .i64 0), .sc (.int .i64 0), .sc (.int .i64 0), .sc (.int .i64 0), .sc (.int .i64 0), .sc (.int .i64 0)]
structure cL where
 dF:cI
 cP:List cO
 deriving DecidableEq,Inhabited
def cL.enc(x:cL):List AV:=[.sc (.int .i64 x.dF.X), .sc (.int .i64 x.dF.Y),A4 6 cO.enc default x.cP]
def cL.zero:List AV:= [.sc (.int .i64 0), .sc (.int .i64 0), .sc (.slice none 0 0)]
structure cY where
 dQ:cR
 cL:cL
 deriving DecidableEq,Inhabited
def cY.enc(x:cY):List AV:=[.sc (.int .i64 x.dQ.cU), .sc (.int .i64 x.dQ.dM), .sc (.int .i64 x.dQ.cV), .sc (.int .i64 x.dQ.dK), .sc (.int .i64 x.cL.dF.X), .sc (.int .i64 x.cL.dF.Y),A4 6 cO.enc default x.cL.cP]
def cY.zero:List AV:= [.sc (.int .i64 0), .sc (.int .i64 0), .sc (.int .i64 0), .sc (.int .i64 0), .sc (.int .i64 0), .sc (.int .i64 0), .sc (.slice none 0 0)]
structure World where
 cM:cM
 cC:List cF
 cD:List cG
 cB:List cY
 cT:List cR
 dJ:Int
 eK:Int
 deriving DecidableEq,Inhabited
def World.enc(x:World):List AV:=[.sc (.int .i64 x.cM.dZ), .sc (.int .i64 x.cM.eG.X), .sc (.int .i64 x.cM.eG.Y), .sc (.int .i64 x.cM.eL), .sc (.int .i64 x.cM.eD),A4 20 cF.enc default x.cC,A4 24 cG.enc default x.cD,A4 7 cY.enc default x.cB,A4 4 cR.enc default x.cT, .sc (.int .i64 x.dJ), .sc (.int .i64 x.eK)]
def World.zero:List AV:= [.sc (.int .i64 0), .sc (.int .i64 0), .sc (.int .i64 0), .sc (.int .i64 0), .sc (.int .i64 0), .sc (.slice none 0 0), .sc (.slice none 0 0), .sc (.slice none 0 0), .sc (.slice none 0 0), .sc (.int .i64 0), .sc (.int .i64 0)]
structure B3 where
 cC:List Int
 cB:List Int
 cD:List Int
 deriving DecidableEq,Inhabited
def B3.enc(x:B3):List AV:=[A4 1 C6 0 x.cC,A4 1 C6 0 x.cB,A4 1 C6 0 x.cD]
def B3.zero:List AV:= [.sc (.slice none 0 0), .sc (.slice none 0 0), .sc (.slice none 0 0)]
attribute [go_sem] C6 cI.enc cI.zero cM.enc cM.zero cH.enc cH.zero Shape.enc Shape.zero dB.enc dB.zero cF.enc cF.zero Four.enc Four.zero cG.enc cG.zero cR.enc cR.zero cO.enc cO.zero cL.enc cL.zero cY.enc cY.zero World.enc World.zero B3.enc B3.zero
end Go.Api
end
noncomputable section
namespace Go.Abs
open Go.Api Go.ChangeShapes Go.WideShapes Go.ChangeAt Go.RowKit
section
variable {P:Program} {W:World}
variable {f:FuncId} {args:List AV}
theorem F3l {vals:List Value}(h:D5 P f args [] (.sc (.bool true)) [])
  (hr:A55 (λb=>b<W.heap.size) W (λ_=>none) args vals):Calls P f vals.toArray W λe W'=>e= .returned (.bool true)/\Below W.heap.size W W':=by
 refine(h.2 (λb=>b<W.heap.size) W (λ_=>none) vals ?_ hr).mono ?_
 ·exact⟨λ_=>⟨λ_=>rfl,λ_=>rfl⟩,λ_ _ _ _ _ h=>(by cases h),λ_ h=>h,λ_ _ _ h=>(by simp[ofL,wrm]at h),λ_ _ _ _ h=>(by simp[ofL,wrm]at h)⟩
 ·rintro e W' ⟨v,G',ob',rfl,_,hv,hf,_⟩;have:=hv.sc_eq;subst this;exact⟨rfl,hf.os,hf.tape,hf.output,hf.size,λk hk=>hf.same k hk (.inl hk)⟩
end
end Go.Abs
end
noncomputable section
namespace Go.Abs
abbrev oM(d s:Nat):dA:=⟨some d, .mov (.t s),none,[]⟩
abbrev oV(d:Nat)(v:AV):dA:=⟨some d, .mov (.k v),none,[]⟩
abbrev oL(d s:Nat):dA:=⟨some d, .load none (.t s),none,[]⟩
abbrev oR(n d s:Nat):dA:=⟨some d, .load (some n) (.t s),none,[]⟩
abbrev oF(k d s:Nat):dA:=⟨some d, .faddr k (.t s),none,[]⟩
abbrev oB(p:BinOp)(d x y:Nat):dA:=⟨some d, .bin p (.t x) (.t y),none,[]⟩
abbrev oC(p:BinOp)(d x:Nat)(v:Int):dA:=⟨some d, .bin p (.t x) (.k (.sc (.int .i64 v))),none,[]⟩
abbrev oI(e d x y:Nat):dA:=⟨some d, .iaddr e (.t x) (.t y),none,[]⟩
abbrev oN(d x:Nat):dA:=⟨some d, .len (.t x),none,[]⟩
abbrev oU(d x:Nat):dA:=⟨some d, .un .not (.t x),none,[]⟩
abbrev oX(d x i:Nat):dA:=⟨some d, .ext (.t x) i,none,[]⟩
abbrev oP(d c x:Nat):dA:=⟨some d, .pick (.t c) (.t x) (.k (.sc (.bool false))),none,[]⟩
abbrev oQ(d c x:Nat):dA:=⟨some d, .pick (.t c) (.k (.sc (.bool true))) (.t x),none,[]⟩
abbrev oS(n d s:Nat):dA:=⟨none, .store n (.t d) (.t s),none,[]⟩
abbrev oD(n d:Nat)(v:AV):dA:=⟨none, .store n (.t d) (.k v),none,[]⟩
abbrev oA(d:Nat)(z:List Value):dA:=⟨some d, .alloc z,none,[]⟩
abbrev oE(d x:Nat):dA:=⟨some d, .box (.t x),none,[]⟩
abbrev oJ(d f:Nat)(l:List AX):dA:=⟨some d, .call f l,none,[]⟩
abbrev oW(d:Nat)(z:List Value)(ps:List (Nat×Nat×AX)):dA:=⟨some d, .build z ps,none,[]⟩
abbrev oY(e d n:Nat)(z:List Value)(ps:List (Nat×Nat×AX)):dA:=⟨some d, .bslice e n z ps,none,[]⟩
abbrev oZ(e b d x y:Nat):dA:=⟨some d, .append e b (.t x) (.t y),none,[]⟩
abbrev gT(t:Nat)(o:dA):dA:=⟨o.dst,o.op,some (t,true),o.chk⟩
abbrev gF(t:Nat)(o:dA):dA:=⟨o.dst,o.op,some (t,false),o.chk⟩
abbrev ki(n:Int):AX:= .k (.sc (.int .i64 n))
abbrev vi(n:Int):AV:= .sc (.int .i64 n)
abbrev vb(b:Bool):AV:= .sc (.bool b)
abbrev vn:AV:= .sc (.slice none 0 0)
abbrev r0(l:List dA):ACode:= .region false l
abbrev r1(l:List dA):ACode:= .region true l
attribute [go_sem] oM oV oL oR oF oB oC oI oN oU oX oP oQ oS oD oA oE oJ oW oY oZ gT gF ki vi vb vn r0 r1
end Go.Abs
end
noncomputable section
namespace Go.Abs
open Go.Sort
def C64(n:Int):List AV:= [.sc (.int .i64 n)]
variable {av:AV} {j:Nat}
theorem F9o {l:List Int}(h:(C64 (l.getD j 0))[0]? =some av):av= .sc (.int .i64 (l.getD j 0)):=by simp only[C64,List.getElem?_cons_zero,Option.some.injEq]at h;exact h.symm
variable {f:FuncId} {P:Program}
theorem G55(hcb:A3o P f=true)(l l':List Int)(hlen:l'.length=l.length)(res:Option Addr->Nat->Value)(r:AV)
  (hr: ∀(G:Nat->Prop) (w:World) (ob:Place) (i:L0) (a:Option Addr) (cap:Nat),ob 1=some i->i.len=l.length->SlV i 0 l.length (.slice a l.length cap)->Rel G w ob r (res a cap))
  (hc: ∀(blk cap:Nat) (w:World),Holds (Value.int .i64) w blk 0 l.toArray->blk<w.heap.size->l.length<=cap->
    Calls P f #[.slice (some ⟨blk,0,none⟩) l.length cap] w λe w'=>e= .returned (res (some ⟨blk,0,none⟩) cap)/\ ∃n os,w'=grow (putRow (Value.int .i64) (Sort.ahead w n) blk 0 l'.toArray) os)
  (hnil:l= []-> ∀(a:Option Addr) (w:World),Calls P f #[.slice a 0 0] w λe w'=>e= .returned (res a 0)/\w'=w):
  D5 P f [.sl 1 0 l.length l.length] [(1, .arr 1 (A9 C64 0 l))] r [(1, .arr 1 (A9 C64 0 l'))]:=by
 refine⟨hcb,λG w ob vals hs hrl=> ?_⟩;obtain⟨hn,hv⟩:=hrl
 match vals,hn with
 | [v],_=>
 have hrel:=hv 0 _ rfl;simp only[List.getD,List.getElem?_cons_zero,Option.getD_some]at hrel;cases hrel with
 |sl i h hle hsv hslv=>
 have hown:=hs.own 1 _ i rfl h;obtain⟨o1,o2,o3,o4,o5⟩:=hown;have o3':i.len=l.length:=o3
 have hsl:=hslv o3'.symm.symm;obtain⟨a,c,rfl⟩:=hsv;rcases o5 with⟨b1,b2,b3⟩ |⟨b,arr,T,b1,b2,b3,b4⟩
 ·have hl:l= []:=List.length_eq_zero_iff.1 b2
  subst hl;have hl':l'= []:=List.length_eq_zero_iff.1 hlen;subst hl';have hac:(Value.slice a 0 c:Value)= .slice none 0 0\/ ∃a',(Value.slice a 0 c:Value)= .slice (some a') 0 0:=hsl.2.1 b1
  have hc0:c=0:=by rcases hac with e |⟨a',e⟩ <;> cases e <;> rfl
  subst hc0;refine(hnil rfl a w).mono ?_;rintro e w' ⟨rfl,rfl⟩;exact⟨_,G,ob,rfl,hs,hr G w' ob i a 0 h o3' hsl,Fr.refl G w' ob,D4.refl ob⟩
 ·obtain⟨o,c',e,hle',ho,h0⟩:=hsl.2.2 b b1;cases e;obtain⟨rfl,rfl⟩:=h0 rfl;have hsz:arr.size=i.cap:=by rw[b3,o2,Nat.mul_one]
  have hcell: ∀j,j<l.length->arr[j]? =some (.int .i64 (l.getD j 0)):=λj hj=>by obtain⟨_,v,hv,hrv⟩:=b4.2 j 0 (.sc (.int .i64 (l.getD j 0))) hj rfl;rw[o2,Nat.mul_one,Nat.add_zero]at hv;rw[hrv.sc_eq]at hv;exact hv
  have hblk:b<w.heap.size:=(Array.getElem?_eq_some_iff.1 b2).1
  have hH:Holds (Value.int .i64) w b 0 l.toArray:=λj hj=>by
   have hj':j<l.length:=by simpa using hj
   refine⟨?_,?_⟩
   ·simp only[World.cell?,b2,Nat.zero_add,hcell j hj'];simp[List.getD,hj']
   ·simp[World.frozen?,b2]
  refine(hc b i.cap w hH hblk hle').mono ?_;rintro e w' ⟨rfl,n,os,rfl⟩;have hnG: ¬G b:=hs.sep 1 _ i b rfl rfl h (.inl b1)
  have hheap: ∀k,k<w.heap.size->k≠b->(grow (putRow (Value.int .i64) (Sort.ahead w n) b 0 l'.toArray) os).heap[k]? =w.heap[k]? :=λk hk hkb=>by rw[heap_grow_old _ _ (by simpa using hk)];simp only[putRow,mapBlock,Array.getElem?_modify,Sort.ahead,if_neg (Ne.symm hkb)]
  have hb':(grow (putRow (Value.int .i64) (Sort.ahead w n) b 0 l'.toArray) os).heap[b]? =some (.cells (putCells (Value.int .i64) 0 l'.toArray arr) T (0,0)):=by rw[heap_grow_old _ _ (by simpa using hblk)];simp only[putRow,mapBlock,Array.getElem?_modify,Sort.ahead,if_true,b2,Option.map_some,onCells]
  refine⟨_,G,ob,rfl,⟨λid=> ?_,hs.inj,λk hk=>Nat.lt_of_lt_of_le (hs.lt k hk) (by simp),λid o' i' ho' hi'=> ?_,λid o' i' b' ho' how hi' hb''=> ?_⟩,hr G _ ob i _ _ h o3' hsl,⟨by simp,λk hk hgb=> ?_,λk hk=> .inl hk,λk hk=>hk,λk hk=> .inl hk,rfl,rfl,rfl,by simp[grow,putRow,mapBlock,Sort.ahead]⟩,D4.refl ob⟩
  ·rw[<-hs.dom id];show upd (λ_=>none) 1 _ id=none↔upd (λ_=>none) 1 _ id=none;simp only[upd];split <;> simp
  ·have hid:id=1:=by
    have ho':upd (λ_=>none) 1 (some (A7.arr 1 (A9 C64 0 l'))) id=some o':=ho';simp only[upd]at ho';split at ho'
    ·assumption
    ·cases ho'
   subst hid;rw[h]at hi';cases hi';have ho1:o'= .arr 1 (A9 C64 0 l'):=(Option.some.inj ho').symm;subst ho1;refine⟨o1,o2,by rw[o3'];exact hlen.symm,by show l'.length<=_;omega, .inr ⟨b,_,T,b1,hb',by simp[putCells,b3],?_⟩⟩;refine⟨λj hj=>by rw[o2];rfl,λj k av hj hk=> ?_⟩;have hj:j<l'.length:=hj;cases k with
   |succ k=>exact absurd hk (by simp[A9,C64,I8])
   |zero=>
    have hk':(C64 (l'.getD j 0))[0]? =some av:=hk;rw[F9o hk'];refine⟨rfl,_,?_, .sc rfl⟩;rw[o2,Nat.mul_one,Nat.add_zero];have:j<arr.size:=by omega
    simp only[putCells,Array.getElem?_mapIdx,hcell j (by omega),Option.map_some,Option.some.injEq];rw[if_pos ⟨Nat.zero_le _,by simpa using hj⟩];simp[List.getD,hj]
  ·have hid:id=1:=by
    have ho':upd (λ_=>none) 1 (some (A7.arr 1 (A9 C64 0 l'))) id=some o':=ho';simp only[upd]at ho';split at ho'
    ·assumption
    ·cases ho'
   subst hid;rw[h]at hi';cases hi';have hb'':=L0.has_plain (.inl o1) hb'';rw[b1]at hb'';cases hb'';exact hnG
  ·refine hheap k hk λe=> ?_;subst e;rcases hgb with h1 |h1
   ·exact hnG h1
   ·exact h1 ⟨1,i,h, .inl b1⟩
end Go.Abs
end
noncomputable section
namespace Go.Abs
def E2e(l:List Int):Prop:=l.Pairwise (· <·)
theorem E3x(d:Array Int)(x:Int): ∀m,x∈Go.Lib.compactUpTo d m-> ∃j,j<m/\d[j]! =x
 |0,h=>by simp[Go.Lib.compactUpTo]at h
 |m+1,h=>by
  rw[Go.Lib.compactUpTo_succ,List.mem_append]at h;rcases h with h |h
  ·obtain⟨j,hj,e⟩:=E3x d x m h;exact⟨j,by omega,e⟩
  ·split at h
   ·rw[List.mem_singleton]at h;exact⟨m,by omega,h.symm⟩
   ·cases h
theorem E3y(d:Array Int)(hd: ∀i j,i<=j->j<d.size->d[i]!<=d[j]!): ∀m,m<=d.size->E2e (Go.Lib.compactUpTo d m)
 |0,_=>by simp[Go.Lib.compactUpTo,E2e]
 |m+1,hm=>by
  rw[Go.Lib.compactUpTo_succ];have ih:=E3y d hd m (by omega);unfold E2e at ih⊢;rw[List.pairwise_append];refine⟨ih,by split <;> simp,λx hx y hy=> ?_⟩;split at hy
  ·rename_i hk;rw[List.mem_singleton]at hy;subst hy;obtain⟨j,hj,rfl⟩:=E3x d x m hx;simp only[Go.Lib.keeps,decide_eq_true_eq]at hk;rcases hk with hk |hk
   ·omega
   ·have h1:=hd j (m-1) (by omega) (by omega)
    have h2:=hd (m-1) m (by omega) (by omega);omega
  ·cases hy
theorem E99 {l:List Int}(h:l.Pairwise (· <= ·)):E2e (Go.Lib.compact l):=by
 unfold Go.Lib.compact;refine E3y l.toArray (λi j hij hj=> ?_) l.length (by simp);have hj':j<l.length:=by simpa using hj
 have hi':i<l.length:=by omega
 simp only[List.getElem!_toArray,getElem!_pos l i hi',getElem!_pos l j hj'];rcases Nat.lt_or_eq_of_le hij with hlt |rfl
 ·exact List.pairwise_iff_getElem.1 h i j hi' hj' hlt
 ·exact Int.le_refl _
theorem F82(l:List Int):(l.mergeSort λx y=>decide (x<=y)).Pairwise (· <= ·):=by have:=List.pairwise_mergeSort (le:=λx y:Int=>decide (x<=y)) (by intro a b c h1 h2;simp at*;omega) (by intro a b;simp;omega) l;exact this.imp λh=>by simpa using h
attribute [go_sem] B06 C5y B9f C44
def B90:AV->AV
 | .own z n g=> .dsl z n g
 |c=>c
section
variable {P:Program} {G:Nat->Prop} {w:World} {ob:Place} {m:Nat->Option A7}
variable {z n:Nat} {v:Value} {g:Nat->List AV} {G':Nat->Prop}
theorem G2k {β:Option Nat}(h:A9m G w ob β (.own z n g) v)(hβ: ∀b,β=some b->G' b)(hsub: ∀b,G b->G' b):Rel G' w ob (.dsl z n g) v:=by
 rcases h with⟨_,rfl,rfl |⟨a,rfl⟩⟩ |⟨b,cap,arr,T,h1,h2,rfl,h3,h4,h5⟩
 ·exact .dslNil
 ·exact .dslE a 0
 ·refine .dsl b 0 cap (λk j=>(arr[k*z+j]?).getD undef) (hβ b h1) h2 (λk hk=>h5.1 k hk) (λk j av hk hj=>(h5.2 k j av hk hj).1) (λk j hk hj=> ?_) (λk j av hk hj=> ?_)
  ·have hlen:=h5.1 k hk
   obtain⟨_,u,hu,_⟩:=h5.2 k j (g k)[j] hk (List.getElem?_eq_getElem (by rw[hlen];exact hj));rw[Nat.zero_add,cell_of_row w b _ arr T _ h3,hu];simp
  ·obtain⟨_,u,hu,hrel⟩:=h5.2 k j av hk hj;rw[hu];exact hrel.ext hsub (λ_ _=>rfl) (D4.refl ob)
theorem E9.settle(hs:E9 G w ob m){id z:Nat}{s:Sq}(hm:m id=some (.arrP z s))(hh: ∀(k j:Nat),k<s.n->(s.g k)[j]?≠some .hole):
  ∃G' ob',E9 G' w ob' (upd m id (some (.arr z ⟨s.n,λk=>(s.g k).map B90⟩)))/\D4 ob ob'/\(∀b,G b->G' b)/\(∀b,G' b->G b\/P5 ob b)/\ ∀b,P5 ob' b->P5 ob b:=by
 cases hi:ob id with
 |none=>rw[(hs.dom id).2 hi]at hm;cases hm
 |some i=>
  obtain⟨h1,h2,h3,p,hk,h4⟩:=hs.own id _ i hm hi;have hp: ∀x,i.has x↔i.blk=some x\/p x:=λx=>L0.has_priv hk x
  have hi1: ∀x,({i with kind:= .cells}:L0).has x->i.blk=some x:=λx hx=>L0.has_plain (i:= {i with kind:= .cells}) (.inl rfl) hx
  have hob:D4 ob (upd ob id (some {i with kind:= .cells})):=λq j hj=>by
   by_cases hq:q=id
   ·subst hq;rw[hi]at hj;injection hj with hj;subst hj;exact⟨{i with kind:= .cells},by simp, .inr (.inl ⟨p, .cells,hk,rfl⟩)⟩
   ·exact⟨j,by rw[J1 hq];exact hj, .inl rfl⟩
  have hpown: ∀x,p x-> ∀q j,q≠id->ob q=some j->j.has x->False:=λx hx q j hq hj hjx=>hq (hs.inj _ _ _ _ x hj hi hjx ((hp x).2 (.inr hx)));refine⟨λb=>G b\/p b,upd ob id (some {i with kind:= .cells}),⟨λq=> ?_,λq r j k b hj hk' hjb hkb=> ?_,λb hb=> ?_,λq o j ho hj=> ?_,λq o j b ho hown hj hjb=> ?_⟩,hob,λb h=> .inl h,λb h=>h.imp (λh=>h) (λh=>⟨id,i,hi,(hp b).2 (.inr h)⟩),?_⟩
  ·by_cases hq:q=id
   ·subst hq;simp
   ·rw[J1 hq,J1 hq];exact hs.dom q
  ·have old: ∀q j,upd ob id (some {i with kind:= .cells}) q=some j->j.has b-> ∃j',ob q=some j'/\j'.has b:=λq j hj hjb=>by
    by_cases hq:q=id
    ·subst hq;simp only[A0t,Option.some.injEq]at hj;subst hj;exact⟨i,hi, .inl (hi1 b hjb)⟩
    ·rw[J1 hq]at hj;exact⟨j,hj,hjb⟩
   obtain⟨j',a1,a2⟩:=old q j hj hjb;obtain⟨k',a3,a4⟩:=old r k hk' hkb;exact hs.inj _ _ _ _ b a1 a3 a2 a4
  ·rcases hb with hb |hb
   ·exact hs.lt b hb
   ·exact(hs.own id _ i hm hi).has_lt ((hp b).2 (.inr hb))
  ·by_cases hq:q=id
   ·subst hq;simp only[A0t,Option.some.injEq]at ho hj;subst ho;subst hj;refine⟨rfl,h1,h2,h3,?_⟩;rcases h4 with⟨a1,a2,a3,_⟩ |⟨b,arr,T,β,a1,a2,a3,a4,a5⟩
    ·exact .inl ⟨a1,a2,a3⟩
    ·refine .inr ⟨b,arr,T,a1,a2,a3,⟨λk hk=>by simp only[List.length_map];exact a4.1 k hk,λk j av hk hj=> ?_⟩⟩;simp only[List.getElem?_map,Option.map_eq_some_iff]at hj;obtain⟨c,hc,rfl⟩:=hj;obtain⟨v,hv,hcell⟩:=a4.2 k j c hk hc;have hjz:j<z:=by
      have:=a4.1 k hk;rcases Nat.lt_or_ge j (s.g k).length with h |h
      ·omega
      ·rw[List.getElem?_eq_none h]at hc;cases hc
     cases c with
     |own z' n' g'=>exact⟨rfl,v,hv,(G2k hcell (λb hb=> .inr (a5.sub k j b hk hjz hb)) (λb hb=> .inl hb)).ob_free rfl⟩
     |hole=>exact absurd hc (hh k j hk)
     |_=>exact⟨hcell.1,v,hv,(hcell.2.2.ext (λb hb=> .inl hb) (λ_ _=>rfl) (D4.refl ob)).ob_free hcell.1⟩
   ·rw[J1 hq]at ho hj;exact(hs.own q o j ho hj).ext (λb hb=> .inl hb) (λ_ _=>rfl) hob (λ_ _=>rfl)
  ·by_cases hq:q=id
   ·subst hq;simp only[A0t,Option.some.injEq]at hj;subst hj;have hb:=hi1 b hjb;rintro(h |h)
    ·exact hs.sep _ _ i b hm rfl hi (.inl hb) h
    ·rcases h4 with⟨a1,_⟩ |⟨b',arr,T,β,a1,a2,a3,a4,a5⟩
     ·rw[hb]at a1;cases a1
     ·rw[hb]at a1;injection a1 with a1;subst a1;exact a5.ne h
   ·rw[J1 hq]at ho hj;rintro(h |h)
    ·exact hs.sep q o j b ho hown hj hjb h
    ·exact hpown b h q j hq hj hjb
  ·rintro b ⟨q,j,hj,hjb⟩;by_cases hq:q=id
   ·subst hq;simp only[A0t,Option.some.injEq]at hj;subst hj;exact⟨_,i,hi, .inl (hi1 b hjb)⟩
   ·rw[J1 hq]at hj;exact⟨q,j,hj,hjb⟩
theorem D5.settle {f:FuncId}{args:List AV}{O O1 O2:List (Nat×A7)}{r:AV}{id z:Nat}{s:Sq}(h:D5 P f args O r O1)(hm:ofL O1 id=some (.arrP z s))
  (hh: ∀(k j:Nat),k<s.n->(s.g k)[j]?≠some .hole)(ho:ofL O2=upd (ofL O1) id (some (.arr z ⟨s.n,λk=>(s.g k).map B90⟩))):D5 P f args O r O2:=by
 refine⟨h.1,λG w ob vals hs hr=>(h.2 G w ob vals hs hr).mono ?_⟩;rintro e w' ⟨v,G',ob',rfl,h1,h2,h3,h4⟩;obtain⟨G2,ob2,a1,a2,a3,a4,a5⟩:=h1.settle hm hh;refine⟨v,G2,ob2,rfl,by rw[ho];exact a1,h2.ext a3 (λ_ _=>rfl) a2,⟨h3.size,h3.same,λb hb=>h3.blk b (a5 b hb),λb hb=>a3 b (h3.sub b hb),λb hb=> ?_,h3.os,h3.tape,h3.output,h3.drawn⟩,h4.trans a2⟩;rcases a4 b hb with hb |hb
 ·exact h3.new b hb
 ·rcases h3.blk b hb with hb |hb
  ·exact .inr (.inr hb)
  ·exact .inr (.inl hb)
end
def itr {S:Type}(f:Nat->S->S):Nat->S->S
 |0,s=>s
 |k+1,s=>f k (itr f k s)
def J8 {S R:Type}(f:Nat->S->S ⊕ R):Nat->S->S ⊕ R
 |0,s=> .inl s
 |k+1,s=>match J8 f k s with
  | .inl s'=>f k s'
  | .inr r=> .inr r
variable {S:Type}
theorem J3(f:Nat->S->S)(s:S):itr f 0 s=s:=rfl
theorem H6(f:Nat->S->S)(k:Nat)(s:S):itr f (k+1) s=f k (itr f k s):=rfl
variable {R:Type}
theorem R8(f:Nat->S->S ⊕ R)(s:S):J8 f 0 s= .inl s:=rfl
variable {k:Nat}
theorem A1v {f:Nat->S->S ⊕ R}{s s':S}{r:S ⊕ R}(h:J8 f k s= .inl s')(h':f k s'=r):J8 f (k+1) s=r:=by simp only[J8,h,h']
theorem E78 {S R:Type}{f:Nat->S->S ⊕ R}{k:Nat}{s:S}{r:R}(h:J8 f k s= .inr r): ∀j,J8 f (k+j) s= .inr r
 |0=>h
 |j+1=>by have:=E78 h j;show J8 f (k+j+1) s=_;simp only[J8,this]
variable {n:Nat}
theorem A5j {f:Nat->S->S ⊕ R}{s:S}{r:R}(h:J8 f k s= .inr r)(hk:k<=n):J8 f n s= .inr r:=by obtain⟨j,rfl⟩:=Nat.exists_eq_add_of_le hk;exact E78 h j
def mrg {S:Type}:S ⊕ S->S
 | .inl s=>s
 | .inr s=>s
theorem A1k(s:S):mrg (.inl s:S ⊕ S)=s:=rfl
theorem A1l(s:S):mrg (.inr s:S ⊕ S)=s:=rfl
theorem A87 {S:Type}{f:Nat->S->S}(len:S->Nat)(k:Nat)(h: ∀i s,len (f i s)<=len s+k): ∀n s,len (itr f n s)<=len s+k*n
 |0,s=>by simp[itr]
 |n+1,s=>by have:=h n (itr f n s);have:=A87 len k h n s;rw[H6,Nat.mul_succ];omega
theorem C9(p:Prop) [Decidable p](b:Bool):(if p then b else false)=(decide p&&b):=by by_cases h:p <;> simp[h]
theorem E8(p:Prop) [Decidable p](b:Bool):(if p then true else b)=(decide p||b):=by by_cases h:p <;> simp[h]
theorem C3(b:Bool):decide (b=true)=b:=by cases b <;> rfl
theorem D7(b:Bool):decide (b=false)= !b:=by cases b <;> rfl
theorem B9k {α:Type}{z:Nat}{enc:α->List AV}{d:α}: ∀ {l:List α} {i:Nat},(∀a∈l,(enc a).length=z)->i<l.length->((l.flatMap enc).drop (i*z)).take z=enc (l.getD i d)
 | [],i,_,h=>by simp at h
 |a::l,0,hz,_=>by have:=hz a (by simp);simp only[List.flatMap_cons,Nat.zero_mul,List.drop_zero];rw[<-this,List.take_left];rfl
 |a::l,i+1,hz,h=>by
  have ha:=hz a (by simp)
  have e:(i+1)*z=(enc a).length+i*z:=by rw[ha,Nat.add_mul];omega
  rw[List.flatMap_cons,e,<-List.drop_drop,List.drop_left];have:=B9k (d:=d) (l:=l) (i:=i) (λb hb=>hz b (by simp[hb])) (by simpa using h);rw[this];simp[List.getD]
variable {α:Type} {z:Nat} {l:List α}
theorem E7b {enc:α->List AV}{d:α}{cells:List AV}(hz: ∀a∈l,(enc a).length=z)(hc:cells=l.flatMap enc)(hn:n=l.length):
  M9 (.dsl z n λi=>(cells.drop (i*z)).take z) (A4 z enc d l):=by
 subst hc;subst hn;simp only[A4,M9,true_and];intro i hi;rw[B9k (d:=d) hz hi];exact H9 _
variable {n':Nat}
theorem H1 {enc:α->List AV}{d:α}{cells:List AV}(hz: ∀a∈l,(enc a).length=z)(hc:cells=l.flatMap enc)(hn:n=l.length)(hn':n'=l.length):
  M9 (.dsl z n λi=>(cells.drop (i*z)).take z) (.dsl z n' (I8 enc d l)):=by
 subst hn';exact E7b hz hc hn
variable {i:Nat}
theorem G0i {k:IntKind}{a b c d:Int}(h:i<4): [AV.sc (.int k a),AV.sc (.int k b),AV.sc (.int k c),AV.sc (.int k d)].getD i .hole= .sc (.int k ([a,b,c,d].getD i 0)):=by
 match i,h with
 |0,_=>rfl
 |1,_=>rfl
 |2,_=>rfl
 |3,_=>rfl
theorem D2k(id:Nat)(o:A7):ofL [(id,o)]=upd (λ_=>none) id (some o):=rfl
variable {f:FuncId} {P:Program} {s:Sq} {args:List AV}
theorem D5.shrink {id:Nat}(h:D5 P f args [] (.sl id 0 0 n) [(id, .arr z s)])(hn:n=s.n)(g:Nat->List AV):
  D5 P f args [] (.sl id 0 0 0) [(id, .arr z ⟨0,g⟩)]:=by
 refine⟨h.1,λG w ob vals hs hr=>(h.2 G w ob vals hs hr).mono ?_⟩;rintro e w' ⟨v,G',ob',rfl,h1,h2,h3,h4⟩;have m1: ∀q o,ofL [(id,A7.arr z s)] q=some o->q=id/\o= .arr z s:=λq o hq=>by
  have hq:upd (λ_=>none) id (some (A7.arr z s)) q=some o:=hq;simp only[upd]at hq;split at hq
  ·exact⟨by assumption,(Option.some.inj hq).symm⟩
  ·cases hq
 have m2: ∀q o,ofL [(id,A7.arr z ⟨0,g⟩)] q=some o->q=id/\o= .arr z ⟨0,g⟩:=λq o hq=>by
  have hq:upd (λ_=>none) id (some (A7.arr z ⟨0,g⟩)) q=some o:=hq;simp only[upd]at hq;split at hq
  ·exact⟨by assumption,(Option.some.inj hq).symm⟩
  ·cases hq
 have mid:ofL [(id,A7.arr z s)] id=some (.arr z s):=by rw[D2k];simp
 cases h2 with
 |sl i hi hle hss hvv=>
  obtain⟨hk,hz,hl,hc,hrow⟩:=h1.own id _ i mid hi;have hsl:=hvv (by rw[hl,hn])
  have hob: ∀q,ob q=none:=λq=>(hs.dom q).1 rfl
  have hnone: ∀q,q≠id->ob' q=none:=λq hq=>(h1.dom q).1 (by rw[D2k,J1 hq])
  have hhas: ∀b,({i with len:=0}:L0).has b->i.has b:=λb hb=>hb;refine⟨v,G',upd ob' id (some {i with len:=0}),rfl,⟨λq=> ?_,λq r j k b hj hk' hjb hkb=> ?_,h1.lt,λq o j ho hj=> ?_,λq o j b ho how hj hjb=> ?_⟩,
   .sl {i with len:=0} (by simp) (Nat.le_refl _) hss λ_=>⟨Nat.le_refl _,hsl.2.1,hsl.2.2⟩,⟨h3.size,λb hb hc=>h3.same b hb hc,λb hb=> ?_,h3.sub,h3.new,h3.os,h3.tape,h3.output,h3.drawn⟩,λq j hj=>by rw[hob q]at hj;cases hj⟩
  ·rw[D2k];by_cases hq:q=id
   ·subst hq;simp
   ·simp only[J1 hq,hnone q hq]
  ·have: ∀q j,upd ob' id (some {i with len:=0}) q=some j->q=id:=λq j hj=>by
    by_cases hq:q=id
    ·exact hq
    ·rw[J1 hq,hnone q hq]at hj;cases hj
   rw[this q j hj,this r k hk']
  ·obtain⟨rfl,rfl⟩:=m2 q o ho;simp only[A0t,Option.some.injEq]at hj;subst hj;refine⟨hk,hz,rfl,Nat.zero_le _,?_⟩;rcases hrow with⟨a1,_,a3⟩ |⟨b,arr,T,a1,a2,a3,_⟩
   ·exact .inl ⟨a1,rfl,a3⟩
   ·exact .inr ⟨b,arr,T,a1,a2,a3,λk hk=>by simp at hk,λk j av hk=>by simp at hk⟩
  ·obtain⟨rfl,rfl⟩:=m2 q o ho;simp only[A0t,Option.some.injEq]at hj;subst hj;exact h1.sep q _ i b mid rfl hi (hhas b hjb)
  ·obtain⟨q,j,hj,hjb⟩:=hb;by_cases hq:q=id
   ·subst hq;simp only[A0t,Option.some.injEq]at hj;subst hj;exact h3.blk b ⟨q,i,hi,hhas b hjb⟩
   ·rw[J1 hq,hnone q hq]at hj;cases hj
theorem D5.dataRes {id:Nat}(h:D5 P f args [] (.sl id 0 s.n s.n) [(id, .arr z s)]):D5 P f args [] (.dsl z s.n s.g) []:=by
 refine⟨h.1,λG w ob vals hs hr=>(h.2 G w ob vals hs hr).mono ?_⟩;rintro e w' ⟨v,G',ob',rfl,h1,h2,h3,h4⟩;have mid:ofL [(id,A7.arr z s)] id=some (.arr z s):=by rw[D2k];simp
 obtain⟨G2,a1,a2,a3,_⟩:=h1.freeze mid;have hd:=D4a a1 (A0t _ _ _) (h2.ext a2 (λ_ _=>rfl) (D4.refl ob')) rfl
 have hd:Rel G2 w' ob' (.dsl z s.n s.g) v:=by simpa using hd
 have hob: ∀q,ob q=none:=λq=>(hs.dom q).1 rfl;refine⟨v,G2,λ_=>none,rfl,⟨λq=>⟨λ_=>rfl,λ_=>rfl⟩,(by intro _ _ _ _ _ h;cases h),a1.lt,(by intro _ _ _ h;cases h),(by intro _ _ _ _ h;cases h)⟩,
  hd.ob_free rfl,⟨h3.size,h3.same,λb hb=> ?_,λb hb=>a2 b (h3.sub b hb),λb hb=> ?_,h3.os,h3.tape,h3.output,h3.drawn⟩,λq j hj=>by rw[hob q]at hj;cases hj⟩
 ·obtain⟨q,j,hj,_⟩:=hb;cases hj
 ·rcases a3 b hb with hb |hb
  ·exact h3.new b hb
  ·rcases h3.blk b hb with hb |hb
   ·exact .inr (.inr hb)
   ·exact .inr (.inl hb)
variable {O:List (Nat×A7)}
theorem D5.res_le {O1:List (Nat×A7)}{r r':AV}(h:D5 P f args O r O1)(hr:J0 r r'):D5 P f args O r' O1:=by refine⟨h.1,λG w ob vals hs hv=>(h.2 G w ob vals hs hv).mono ?_⟩;rintro e w' ⟨v,G',ob',rfl,h1,h2,h3,h4⟩;exact⟨v,G',ob',rfl,h1,hr.rel _ _ _ _ h2,h3,h4⟩
attribute [go_sem_proc ↓] reduceIte
attribute [go_sem_proc] Nat.reduceEqDiff reduceCtorEq Nat.reduceAdd Nat.reduceLeDiff Nat.reduceMul Nat.reduceSub Int.reduceToNat
variable {p:Prop}
theorem ob_(h:p:=by((repeat' (with_reducible apply And.intro)) <;> first |omega |(simp only[IntKind.wrap_i64];omega) |(exact Int.tmod_nonneg _ (by first |omega |(rw[IntKind.wrap_i64];omega))) |(exact Int.tmod_lt_of_pos _ (by omega)) |(intro hob0;(repeat' (with_reducible apply And.intro)) <;> first |omega |(exact Int.tmod_nonneg _ (by first |omega |(rw[IntKind.wrap_i64];omega))) |(exact Int.tmod_lt_of_pos _ (by omega))) |trivial |assumption |(simp only[maxLen];omega) |(intro hob;first |omega |(simp only[Bool.and_eq_true,Bool.or_eq_true,decide_eq_true_eq,Bool.not_eq_true',decide_eq_false_iff_not,Bool.or_eq_false_iff]at hob;first |omega |(simp only[IntKind.wrap_i64];omega)) |(simp only[hob,Bool.not_false,Bool.not_true,Bool.true_and,Bool.and_true,true_and,and_true,imp_self,implies_true];done) |(simp[hob];done) |(simp_all;done) |(simp_all;omega)))):p:=h
theorem A8j(h:p:=by((try dsimp only);(repeat' (with_reducible apply And.intro)) <;> first |with_reducible rfl |trivial |(rw[IntKind.wrap_i64];omega) |omega |(simp only[List.length_append,List.length_cons,List.length_nil];done) |rfl |exact G8 rfl |exact A32 rfl |(simp only[go_sem,↓reduceIte,Nat.reduceEqDiff,reduceCtorEq,Nat.reduceAdd,Nat.reduceLeDiff,Nat.reduceMul,Nat.reduceSub,Int.reduceToNat,C9,E8,C3,D7];done) |(simp_all;done) |(simp only[decide_eq_false_iff_not,Bool.not_eq_false,decide_eq_true_eq]at*;omega) |(intro hob;simp only[hob,Bool.not_false,Bool.not_true,Bool.true_and,Bool.and_true,true_and,and_true,imp_self,implies_true];done) |(intro hob;simp[hob];done) |((repeat' (with_reducible apply And.intro)) <;> first |omega |(simp only[IntKind.wrap_i64];omega) |(exact Int.tmod_nonneg _ (by first |omega |(rw[IntKind.wrap_i64];omega))) |(exact Int.tmod_lt_of_pos _ (by omega)) |(intro hob0;(repeat' (with_reducible apply And.intro)) <;> first |omega |(exact Int.tmod_nonneg _ (by first |omega |(rw[IntKind.wrap_i64];omega))) |(exact Int.tmod_lt_of_pos _ (by omega))) |trivial |assumption |(simp only[maxLen];omega) |(intro hob;first |omega |(simp only[Bool.and_eq_true,Bool.or_eq_true,decide_eq_true_eq,Bool.not_eq_true',decide_eq_false_iff_not,Bool.or_eq_false_iff]at hob;first |omega |(simp only[IntKind.wrap_i64];omega)) |(simp only[hob,Bool.not_false,Bool.not_true,Bool.true_and,Bool.and_true,true_and,and_true,imp_self,implies_true];done) |(simp[hob];done) |(simp_all;done) |(simp_all;omega))))):p:=h
theorem hd_ {α:Sort _}{a b:α}(h:a=b:=by first |with_reducible rfl |(simp only[*,if_true,if_false,eq_self,Bool.false_eq_true,Bool.true_eq_false,not_true_eq_false,not_false_eq_true,reduceCtorEq,J3,R8,A1k,A1l,Bool.and_true,Bool.true_and,Bool.and_false,Bool.false_and,Bool.or_true,Bool.true_or,Bool.or_false,Bool.false_or,Bool.not_true,Bool.not_false,decide_true,decide_false] <;> first |with_reducible rfl |rfl) |((repeat' split) <;> first |rfl |omega |(simp_all;done) |(simp_all;omega))):a=b:=h
theorem ok_(h:p:=by((repeat' (with_reducible apply And.intro)) <;> first |omega |(simp only[maxLen];omega))):p:=h
variable {σ:St} {K:List Nat} {T:J6}
theorem E0(ρs:List (Nat×Nat))(A:List Nat)(h4:A3i σ (D3 ρs) A O T [] λwr=>B4s (wrm σ.objs wr) (D3 ρs) A O O)(h1:(O.map (·.1)).Nodup:=by simp[go_sem])(h2:(((O.map (·.1)).filter λi=> !A.contains i).map (D3 ρs)).Nodup:=by simp[D3,go_sem])(h3: ∀k∈K,k∉A/\D3 ρs k=k/\(ofL O k).isSome:=by simp[go_sem]):V9 K σ T O:=C1f ρs A h1 h2 h3 h4
def lit:Nat->Option Nat
 |0=>some 0 |1=>some 1 |2=>some 2 |3=>some 3 |4=>some 4 |5=>some 5 |6=>some 6 |7=>some 7 |8=>some 8 |9=>some 9 |10=>some 10 |11=>some 11 |12=>some 12 |13=>some 13 |14=>some 14 |15=>some 15 |16=>some 16 |17=>some 17 |18=>some 18 |19=>some 19 |20=>some 20 |21=>some 21 |22=>some 22 |23=>some 23 |24=>some 24 |25=>some 25 |26=>some 26 |27=>some 27 |28=>some 28 |29=>some 29 |30=>some 30 |31=>some 31 |32=>some 32 |33=>some 33 |34=>some 34 |35=>some 35 |36=>some 36 |37=>some 37 |38=>some 38 |39=>some 39 |40=>some 40 |41=>some 41 |42=>some 42 |43=>some 43 |44=>some 44 |45=>some 45 |46=>some 46 |47=>some 47 |48=>some 48 |49=>some 49 |50=>some 50 |51=>some 51 |52=>some 52 |53=>some 53 |54=>some 54 |55=>some 55 |56=>some 56 |57=>some 57 |58=>some 58 |59=>some 59 |60=>some 60 |61=>some 61 |62=>some 62 |63=>some 63 |64=>some 64 |72=>some 72 |80=>some 80 |88=>some 88 |96=>some 96 |104=>some 104 |112=>some 112 |120=>some 120 |128=>some 128 |136=>some 136 |144=>some 144 |152=>some 152 |160=>some 160 |168=>some 168 |176=>some 176 |184=>some 184 |192=>some 192 |200=>some 200 |208=>some 208 |216=>some 216 |224=>some 224 |232=>some 232 |240=>some 240 |248=>some 248 |256=>some 256 |264=>some 264 |272=>some 272 |280=>some 280 |288=>some 288 |296=>some 296 |304=>some 304 |312=>some 312 |320=>some 320
 |n=>some n
theorem A1w {m:Nat}(h:lit n=some m):n=m:=by unfold lit at h;split at h <;> injection h
def cpy {α:Type}(f:α->Option α):List α->Option (List α)
 | []=>some []
 |x::xs=>match f x,cpy f xs with
  |some y,some ys=>some (y::ys)
  |_,_=>none
theorem A6p {α:Type}{f:α->Option α}(hf: ∀x y,f x=some y->x=y): ∀ {l m:List α},cpy f l=some m->l=m
 | [],m,h=>by simp only[cpy]at h;injection h
 |x::xs,m,h=>by
  simp only[cpy]at h;split at h
  ·rename_i y ys h1 h2;injection h with h;rw[hf _ _ h1,A6p hf h2,h]
  ·cases h
def C0i:Value->Option Value
 | .int k n=>some (.int k n)
 | .bool b=>some (.bool b)
 | .slice none l c=>some (.slice none l c)
 |v=>some v
theorem B3k(v u:Value)(h:C0i v=some u):v=u:=by unfold C0i at h;split at h <;> injection h
def E2o(p:Nat×Nat×AX):Option (Nat×Nat×AX):=match p with
 |(a,b,x)=>match lit a,lit b with
  |some a',some b'=>some (a',b',x)
  |_,_=>none
theorem D3y(p q:Nat×Nat×AX)(h:E2o p=some q):p=q:=by
 obtain⟨a,b,x⟩:=p;simp only[E2o]at h;split at h
 ·rename_i h1 h2;injection h with h;rw[<-h,A1w h1,A1w h2]
 ·cases h
def nrm:AOp->Option AOp
 | .alloc z=>match cpy C0i z with |some z'=>some (.alloc z') |none=>none
 | .build z ps=>match cpy C0i z,cpy E2o ps with |some z',some ps'=>some (.build z' ps') |_,_=>none
 | .bslice e n z ps=>match lit e,lit n,cpy C0i z,cpy E2o ps with |some e',some n',some z',some ps'=>some (.bslice e' n' z' ps') |_,_,_,_=>none
 | .load (some n) x=>match lit n with |some m=>some (.load (some m) x) |none=>none
 | .store n x y=>match lit n with |some m=>some (.store m x y) |none=>none
 | .faddr n x=>match lit n with |some m=>some (.faddr m x) |none=>none
 | .fld n none x=>match lit n with |some m=>some (.fld m none x) |none=>none
 | .fld n (some k) x=>match lit n,lit k with |some m,some j=>some (.fld m (some j) x) |_,_=>none
 | .iaddr n x i=>match lit n with |some m=>some (.iaddr m x i) |none=>none
 | .aaddr n k x i=>match lit n,lit k with |some m,some j=>some (.aaddr m j x i) |_,_=>none
 | .aslice n k x=>match lit n,lit k with |some m,some j=>some (.aslice m j x) |_,_=>none
 | .aslc n k x l h=>match lit n,lit k with |some m,some j=>some (.aslc m j x l h) |_,_=>none
 | .append n k x y=>match lit n,lit k with |some m,some j=>some (.append m j x y) |_,_=>none
 | .slice n x a b c=>match lit n with |some m=>some (.slice m x a b c) |none=>none
 | .mkslice n k z x y=>match lit n,lit k,cpy C0i z with |some m,some j,some z'=>some (.mkslice m j z' x y) |_,_,_=>none
 | .appz n k z x y=>match lit n,lit k,cpy C0i z with |some m,some j,some z'=>some (.appz m j z' x y) |_,_,_=>none
 | .copy n x y=>match lit n with |some m=>some (.copy m x y) |none=>none
 | .clr n z x=>match lit n,cpy C0i z with |some m,some z'=>some (.clr m z' x) |_,_=>none
 | .aidx n x i=>match lit n with |some m=>some (.aidx m x i) |none=>none
 |a=>some a
theorem G5e {a b:AOp}(h:nrm a=some b):a=b:=by
 unfold nrm at h;split at h
 all_goals first
  |(injection h)
  |(split at h
    ·rename_i e1;injection h with h;subst h;first |rw[A1w e1] |rw[A6p B3k e1]
    ·cases h)
  |(split at h
    ·rename_i e1 e2;injection h with h;subst h;first |rw[A1w e1,A1w e2] |rw[A1w e1,A6p B3k e2] |rw[A6p B3k e1,A6p D3y e2]
    ·cases h)
  |(split at h
    ·rename_i e1 e2 e3;injection h with h;subst h;rw[A1w e1,A1w e2,A6p B3k e3]
    ·cases h)
  |(split at h
    ·rename_i e1 e2 e3 e4;injection h with h;subst h;rw[A1w e1,A1w e2,A6p B3k e3,A6p D3y e4]
    ·cases h)
def F5l(N:Nat)(dst:Option Tmp)(guard:Option (Nat×Bool))(ops:Array Oper)(aop:AOp):Option dA:=
 match F3t N dst with
 |true=>match guard with
  |none=>some ⟨dst,aop,none,[]⟩
  |some (j,want)=>match(ops[j]?).bind (·.dst)with
   |some g=>match lit g with
    |some g'=>some ⟨dst,aop,some (g',want),[]⟩
    |none=>none
   |none=>none
 |false=>none
def zl(z:Value):Option (List Value):=match z with
 | .agg cs=>match cpy C0i cs.toList with
   |some l=>match l.all Value.oneCell' with
    |true=>some l
    |false=>none
   |none=>none
 |v=>match v.oneCell',C0i v with
  |true,some u=>some [u]
  |_,_=>none
theorem A9w {z:Value}{l:List Value}(h:zl z=some l):z.cells.all Value.oneCell'=true/\z.cells.toList=l:=by
 unfold zl at h;split at h
 ·rename_i cs;split at h
  ·rename_i l' e1;split at h
   ·rename_i e2;injection h with h;subst h;have e3:=A6p B3k e1;exact⟨by show cs.all _=true;rw[<-Array.all_toList,e3];exact e2,e3⟩
   ·cases h
  ·cases h
 ·rename_i hv;have hc:z.cells= #[z]:=by cases z <;> first |exact absurd rfl (hv _) |rfl
  split at h
  ·rename_i e1 e2;injection h with h;subst h;have e3:=B3k _ _ e2;subst e3;rw[hc];exact⟨by simp[e1],rfl⟩
  ·cases h
def C3z(l:List Value):Nat->List Value
 |0=> []
 |n+1=>l++C3z l n
theorem D8s(l:List Value): ∀n,(C3z l n).length=n*l.length
 |0=>by simp[C3z]
 |n+1=>by rw[C3z,List.length_append,D8s l n,Nat.succ_mul,Nat.add_comm]
theorem E8s(l:List Value)(d:Value): ∀n k,k<n*l.length->(C3z l n).getD k d=l.getD (k%l.length) d
 |0,k,h=>by simp at h
 |n+1,k,h=>by
  rw[C3z];by_cases hk:k<l.length
  ·rw[Nat.mod_eq_of_lt hk];simp only[List.getD];rw[List.getElem?_append_left hk]
  ·have h2:k-l.length<n*l.length:=by rw[Nat.succ_mul]at h;omega
   have:=E8s l d n (k-l.length) h2;simp only[List.getD]at this⊢;rw[List.getElem?_append_right (by omega),this,Nat.mod_eq_sub_mod (a:=k) (by omega)]
variable {len:Nat}
theorem G29 {z:Value}{l:List Value}{size:Nat}(h:z.cells.toList=l)(hs:z.cells.size=size):((Array.range (len*size)).map (z.cells[· %z.cells.size]!)).toList=C3z l len:=by
 have hl:l.length=size:=by rw[<-h,<-hs];simp
 refine List.ext_getElem (by simp[D8s,hl]) λi h1 h2=> ?_;have hi:i<len*l.length:=by rw[D8s]at h2;exact h2
 have e:=E8s l (default:Value) len i hi
 have e1:(C3z l len).getD i default=(C3z l len)[i]:=by simp[List.getD,h2]
 rw[<-e1,e];simp only[Array.getElem_toList,Array.getElem_map,Array.getElem_range,hs,hl];have hm:i%size<z.cells.size:=by rw[hs];exact Nat.mod_lt _ (by rw[<-hl];rcases Nat.eq_zero_or_pos l.length with h0 |h0;(rw[h0]at hi;simp at hi);exact h0)
 rw[getElem!_pos z.cells _ hm,<-h];simp[List.getD,hm]
def D73(P:Program)(op:Op):Option AOp:=match cop P op with
 |some aop=>nrm aop
 |none=>some .bad
def C0e:List (Nat×List Bool)->Nat->Option (List Bool)
 | [],_=>none
 |p::l,t=>match Nat.beq p.1 t with
  |true=>some p.2
  |false=>C0e l t
def okE(P:Program)(L:List (Nat×List Bool)):Bool:=L.all λp=>decide (A1t P .eql p.1=some p.2)
theorem B7h {P:Program}: ∀ {L:List (Nat×List Bool)} {t:Nat} {sh:List Bool},okE P L=true->C0e L t=some sh->A1t P .eql t=some sh
 | [],_,_,_,h=>by cases h
 |p::l,t,sh,hk,h=>by
  simp only[okE,List.all_cons,Bool.and_eq_true,decide_eq_true_eq]at hk;simp only[C0e]at h;split at h
  ·rename_i e;injection h with h;subst h;rw[<-Nat.eq_of_beq_eq_true e];exact hk.1
  ·exact B7h hk.2 h
def F76(P:Program)(L:List (Nat×List Bool))(op:Op):Option AOp:=match op with
 | .binOp bop t x y u=>match C0e L t with
   |some sh=>match E0q P bop t y,cx x,cx y,E2n P bop t,E9g P bop t with
    |none,some a,some b,none,none=>(match bop with
     | .eql=>some (.eqa sh false a b)
     | .neq=>some (.eqa sh true a b)
     |_=>none)
    |_,_,_,_,_=>none
   |none=>D73 P (.binOp bop t x y u)
 | .alloc t=>match B5m P t with
   |some z=>match zl z with
    |some l=>some (.alloc l)
    |none=>none
   |none=>none
 | .build t F1=>match B5m P t,C7k P t with
   |some z,some place=>match zl z,D4m place F1.toList with
    |some l,some ps=>match cpy E2o ps with
     |some ps'=>some (.build l ps')
     |none=>none
    |_,_=>none
   |_,_=>none
 | .buildSlice t len F1=>match P.underlying t with
   |some (.slice el)=>match B5m P el,Y3 P el with
    |some z,some size=>match zl z,lit size with
     |some l,some size'=>if z.cells.size=size'/\len*size'<=2^24 then(match D4m (λi=>some (i*size',size')) F1.toList with
      |some ps=>match cpy E2o ps,cpy C0i (C3z l len)with
       |some ps',some l'=>some (.bslice size' len l' ps')
       |_,_=>none
      |none=>none)else none
     |_,_=>none
    |_,_=>none
   |_=>none
 | .makeSlice t l c=>match P.underlying t with
   |some (.slice el)=>match P.info? el,cx l,cx c with
    |some i,some a,some b=>match i.zero with
     |some z=>match zl z,lit i.size,lit i.bytes with
      |some zs,some n,some k=>if z.cells.size=n then some (.mkslice n k zs a b)else none
      |_,_,_=>none
     |none=>none
    |_,_,_=>none
   |_=>none
 | .makeMap t none=>match P.underlying t with
   |some (.map kt _)=>match C0e L kt with
    |some sh=>match A2a P kt,lit sh.length,sh.all id with
     |none,some n,true=>some (.mkmapS n)
     |_,_,_=>none
    |none=>D73 P (.makeMap t none)
   |_=>none
 | .mapUpdate t x i y=>match P.underlying t,cx x,cx i,cx y with
   |some (.map kt _),some a,some b,some c=>match C0e L kt with
    |some sh=>match A2a P kt,lit sh.length,sh.all id with
     |none,some n,true=>some (.msetS n a b c)
     |_,_,_=>none
    |none=>D73 P (.mapUpdate t x i y)
   |_,_,_,_=>none
 | .lookup t x i ok=>match P.underlying t,cx x,cx i with
   |some (.map kt el),some a,some b=>match C0e L kt with
    |some sh=>match A2a P kt,B5m P el,lit sh.length,sh.all id with
     |none,some z,some n,true=>match zl z,B6j z with
      |some _,true=>some (.lookupS n z ok a b)
      |_,_=>none
     |_,_,_,_=>none
    |none=>match A2a P kt,B5m P el with
     |some k,some z=>match zl z,B6j z with
      |some _,true=>some (.lookup k z ok a b)
      |_,_=>none
     |_,_=>none
   |_,_,_=>none
 | .call c=>match c.callee,c.args.toList,c.argTypes.toList with
   | .builtin .append,[x,y],[t,u]=>match P.underlying t,cx x,cx y with
     |some (.slice el),some a,some b=>match P.info? el with
      |some i=>match i.zero with
       |some z=>if t=u/\z.cells.size=i.size then(match lit i.size,lit i.bytes with |some n,some k=>some (.append n k a b) |_,_=>none)else
        if(A2a P u).isSome=true/\z.cells.size=i.size/\0<i.size then(match zl z,lit i.size,lit i.bytes with |some zs,some n,some k=>some (.appz n k zs a b) |_,_,_=>none)else none
       |none=>none
      |none=>none
     |_,_,_=>none
   | .builtin .clear,[x],[t]=>match P.underlying t,cx x with
     |some (.slice el),some a=>match P.info? el with
      |some i=>match i.zero with
       |some z=>match zl z,lit i.size with
        |some zs,some n=>if z.cells.size=n then some (.clr n zs a)else none
        |_,_=>none
       |none=>none
      |none=>none
     |_,_=>none
   |_,_,_=>D73 P (.call c)
 |op=>D73 P op
theorem C46 {P:Program}{op:Op}{a:AOp}(h:D73 P op=some a):A8d P op=a:=by
 unfold D73 at h;unfold A8d;split at h
 ·rename_i e1;rw[e1];exact G5e h
 ·rename_i e1;rw[e1];injection h
theorem G1n {P:Program}{L:List (Nat×List Bool)}{op:Op}{a:AOp}(hL:okE P L=true)(h:F76 P L op=some a):A8d P op=a:=by
 unfold F76 at h;split at h
 ·rename_i bop t x y u;split at h
  ·rename_i sh e0;have e9:=B7h hL e0;split at h <;> try cases h
   rename_i a b e1 e2 e3 e4 e5;split at h <;> try cases h
   ·simp only[A8d,cop,e1,e2,e3,e4,e5,e9];rfl
   ·have e8:A1t P .neq t=some sh:=e9
    simp only[A8d,cop,e1,e2,e3,e4,e5,e8];rfl
  ·exact C46 h
 ·rename_i t;split at h <;> try cases h
  rename_i z e1;split at h <;> try cases h
  rename_i l e2;simp only[A8d,cop,e1,(A9w e2).1,(A9w e2).2,if_true]
 ·rename_i t F1;split at h <;> try cases h
  rename_i z place e1 e2;split at h <;> try cases h
  rename_i l ps e3 e4;split at h <;> try cases h
  rename_i ps' e5;have e6:=A6p D3y e5;subst e6;simp only[A8d,cop,e1,e2,(A9w e3).1,(A9w e3).2,e4,if_true]
 ·rename_i t len F1;split at h <;> try cases h
  rename_i el e1;split at h <;> try cases h
  rename_i z size e2 e3;split at h <;> try cases h
  rename_i l size' e4 e5;have:=A1w e5;subst this;split at h <;> try cases h
  rename_i hc;split at h <;> try cases h
  rename_i ps e6;split at h <;> try cases h
  rename_i ps' l' e7 e9;have e8:=A6p D3y e7;subst e8;rw[<-A6p B3k e9];simp only[A8d,cop,e1,e2,e3];rw[if_pos ⟨hc.1,(A9w e4).1,hc.2⟩];simp only[e6,G29 (A9w e4).2 hc.1]
 ·rename_i t l c;split at h <;> try cases h
  rename_i el e1;split at h <;> try cases h
  rename_i i a b e2 e3 e4;split at h <;> try cases h
  rename_i z e5;split at h <;> try cases h
  rename_i zs n k e6 e7 e8;split at h <;> try cases h
  rename_i hc;have e9:=A1w e7;have e10:=A1w e8;subst e10;subst e9;simp only[A8d,cop,e1,e2,e3,e4,e5];rw[if_pos ⟨hc,(A9w e6).1⟩,(A9w e6).2]
 ·rename_i t;split at h <;> try cases h
  rename_i kt el e1;split at h
  ·rename_i sh e0;have e9:=B7h hL e0;split at h <;> try cases h
   rename_i n e4 e5 e6;simp only[A8d,cop,e1,e4,e9];rw[if_pos e6,A1w e5]
  ·exact C46 h
 ·rename_i t x i y;split at h <;> try cases h
  rename_i kt el a b c e1 e2 e3 e3';split at h
  ·rename_i sh e0;have e9:=B7h hL e0;split at h <;> try cases h
   rename_i n e4 e5 e6;simp only[A8d,cop,e1,e2,e3,e3',e4,e9];rw[if_pos e6,A1w e5]
  ·exact C46 h
 ·rename_i t x i ok;split at h <;> try cases h
  rename_i kt el a b e1 e2 e3;split at h
  ·rename_i sh e0;have e9:=B7h hL e0;split at h <;> try cases h
   rename_i z n e4 e5 e6 e7;split at h <;> try cases h
   rename_i e8 e10;simp only[A8d,cop,e1,e2,e3,e4,e5,e9];rw[if_pos ⟨e7,(A9w e8).1,e10⟩,A1w e6]
  ·split at h <;> try cases h
   rename_i k z e4 e5;split at h <;> try cases h
   rename_i e6 e7;simp only[A8d,cop,e1,e2,e3,e4,e5];rw[if_pos ⟨(A9w e6).1,e7⟩]
 ·rename_i c;split at h
  ·rename_i x y t u e1 e2 e3;split at h <;> try cases h
   rename_i el a b e4 e5 e6;split at h <;> try cases h
   rename_i i e7;split at h <;> try cases h
   rename_i z e8;simp only[A8d,cop,e1,e2,e3,e4,e5,e6,e7,e8];split at h
   ·rename_i hc;split at h <;> try cases h
    rename_i n k e9 e10;rw[if_pos hc,A1w e9,A1w e10]
   ·rename_i hc;rw[if_neg hc];split at h <;> try cases h
    rename_i hd;split at h <;> try cases h
    rename_i zs n k e9 e10 e11;rw[if_pos ⟨hd.1,hd.2.1,(A9w e9).1,hd.2.2⟩,(A9w e9).2,A1w e10,A1w e11]
  ·rename_i x t e1 e2 e3;split at h <;> try cases h
   rename_i el a e4 e5;split at h <;> try cases h
   rename_i i e7;split at h <;> try cases h
   rename_i z e8;split at h <;> try cases h
   rename_i zs n e9 e10;split at h <;> try cases h
   rename_i hc;have e11:=A1w e10;subst e11;simp only[A8d,cop,e1,e2,e3,e4,e5,e7,e8];rw[if_pos ⟨hc,(A9w e9).1⟩,(A9w e9).2]
  ·exact C46 h
 ·exact C46 h
def E7l(P:Program)(L:List (Nat×List Bool))(N:Nat)(ops:Array Oper)(o:Oper):Option dA:=
 match o with
 |⟨dst,op,_,_,_,guard⟩=>match F76 P L op with
  |some aop=>F5l N dst guard ops aop
  |none=>none
variable {N:Nat}
theorem F5m {P:Program}{L:List (Nat×List Bool)}{ops:Array Oper}{o:Oper}{a:dA}(hL:okE P L=true)(h:E7l P L N ops o=some a):B2q P N ops o=some a:=by
 obtain⟨dst,op,type,pos,after,guard⟩:=o;simp only[E7l]at h;split at h
 ·rename_i aop e1;simp only[B2q,G1n hL e1];unfold F5l at h;split at h
  ·rename_i e2;simp only[e2,if_true];split at h
   ·exact h
   ·split at h
    ·rename_i e3;split at h
     ·rename_i e4;rw[A1w e4]at e3;simp only[e3];exact h
     ·cases h
    ·cases h
  ·cases h
 ·cases h
def B0u(P:Program)(L:List (Nat×List Bool))(N:Nat)(ops:Array Oper):List Oper->Option (List dA)
 | []=>some []
 |o::os=>match E7l P L N ops o,B0u P L N ops os with
  |some a,some as=>some (a::as)
  |_,_=>none
theorem A8e {P:Program}{L:List (Nat×List Bool)}{N:Nat}{ops:Array Oper}(hL:okE P L=true): ∀ {l as},B0u P L N ops l=some as->S4 P N ops l=some as
 | [],_,h=>h
 |o::os,_,h=>by
  simp only[B0u]at h;split at h
  ·rename_i e1 e2;simp only[S4,F5m hL e1,A8e hL e2];exact h
  ·cases h
def F77(o:dA):Option dA:=match o with
 |⟨some d,op,some (g,w),chk⟩=>match cpy lit chk with
  |some c=>some ⟨some d,op,some (g,w),c⟩
  |none=>none
 |⟨some d,op,none,chk⟩=>match cpy lit chk with
  |some c=>some ⟨some d,op,none,c⟩
  |none=>none
 |⟨none,op,g,chk⟩=>match cpy lit chk with
  |some c=>some ⟨none,op,g,c⟩
  |none=>none
theorem G1o(o q:dA)(h:F77 o=some q):o=q:=by unfold F77 at h;split at h <;> split at h <;> first |(rename_i e;injection h with h;rw[<-h,A6p (λ_ _=>A1w) e]) |cases h
def C6x(P:Program)(L:List (Nat×List Bool))(N:Nat)(ops:Array Oper)(draw:Bool):Option (List dA):=
 match B0u P L N ops ops.toList with
 |some as=>match draw with
  |true=>match C49 ops.toList 0 with
   |true=>match B56 [] as (C7g ops.toList [])with
    |some bs=>cpy F77 bs
    |none=>none
   |false=>none
  |false=>some as
 |none=>none
variable {as:List dA}
theorem F0a {P:Program}{L:List (Nat×List Bool)}{ops:Array Oper}{draw:Bool}(hL:okE P L=true)(h:C6x P L N ops draw=some as):A85 P N ops draw=some as:=by
 unfold C6x at h;split at h
 ·rename_i e1;simp only[A85,A8e hL e1];split at h
  ·split at h
   ·rename_i e2;split at h
    ·rename_i e3;rw[if_pos rfl,if_pos e2,e3,A6p G1o h]
    ·cases h
   ·cases h
  ·rw[if_neg (by decide)];exact h
 ·cases h
def N9(P:Program)(L:List (Nat×List Bool))(N:Nat):Code->Option ACode
 | .skip=>some .skip
 | .region _ ops draw=>match draw with
   |true=>match C6x P L N ops true with
    |some as=>some (.region true as)
    |none=>none
   |false=>match C6x P L N ops false with
    |some as=>some (.region false as)
    |none=>none
 | .seq a b=>match N9 P L N a,N9 P L N b with
   |some x,some y=>some (.seq x y)
   |_,_=>none
 | .cond c a b=>match cx c,N9 P L N a,N9 P L N b with
   |some k,some x,some y=>some (.cond k x y)
   |_,_,_=>none
 | .block id a=>match N9 P L N a with
   |some x=>some (.block id x)
   |none=>none
 | .loop a=>match N9 P L N a with
   |some x=>some (.loop x)
   |none=>none
 | .scope a=>match N9 P L N a with
   |some x=>some (.scope x)
   |none=>none
 | .exit id=>some (.exit id)
 | .label _=>some .skip
 | .ret=>some .ret
 |_=>none
theorem D56 {P:Program}{L:List (Nat×List Bool)}(hL:okE P L=true): ∀ {c ac},N9 P L N c=some ac->F9 P N c=some ac:=by
 intro c;induction c with
 |region i ops draw=>intro ac h;cases draw <;> simp only[N9]at h <;> split at h <;> first |(rename_i e;simp only[F9,F0a hL e];exact h) |cases h
 |seq a b ha hb=>
  intro ac h;simp only[N9]at h;split at h
  ·rename_i e1 e2;simp only[F9,ha e1,hb e2];exact h
  ·cases h
 |cond c a b ha hb=>
  intro ac h;simp only[N9]at h;split at h
  ·rename_i e0 e1 e2;simp only[F9,e0,ha e1,hb e2];exact h
  ·cases h
 |block i a ha=>
  intro ac h;simp only[N9]at h;split at h
  ·rename_i e1;simp only[F9,ha e1];exact h
  ·cases h
 |scope a ha=>
  intro ac h;simp only[N9]at h;split at h
  ·rename_i e1;simp only[F9,ha e1];exact h
  ·cases h
 |loop a ha=>
  intro ac h;simp only[N9]at h;split at h
  ·rename_i e1;simp only[F9,ha e1];exact h
  ·cases h
 |_=>exact λ{ac} h=>h
theorem E5e {P:Program}: ∀ {c ac},F9 P N c=some ac->ac.strip=ac:=by
 intro c;induction c with
 |region i ops draw=>
  intro ac h;simp only[F9]at h;split at h
  ·injection h with h;subst h;rfl
  ·cases h
 |seq a b ha hb=>
  intro ac h;simp only[F9]at h;split at h
  ·rename_i e1 e2;injection h with h;subst h;simp only[ACode.strip,ha e1,hb e2]
  ·cases h
 |cond c a b ha hb=>
  intro ac h;simp only[F9]at h;split at h
  ·rename_i e0 e1 e2;injection h with h;subst h;simp only[ACode.strip,ha e1,hb e2]
  ·cases h
 |block i a ha=>
  intro ac h;simp only[F9]at h;split at h
  ·rename_i e1;injection h with h;subst h;simp only[ACode.strip,ha e1]
  ·cases h
 |scope a ha=>
  intro ac h;simp only[F9]at h;split at h
  ·rename_i e1;injection h with h;subst h;simp only[ACode.strip,ha e1]
  ·cases h
 |loop a ha=>
  intro ac h;simp only[F9]at h;split at h
  ·rename_i e1;injection h with h;subst h;simp only[ACode.strip,ha e1]
  ·cases h
 |skip |exit |label |ret=>intro ac h;simp only[F9]at h;injection h with h;subst h;rfl
 |_=>intro ac h;cases h
theorem cs2 {P:Program}{L:List (Nat×List Bool)}{c:Code}{ac:ACode}(hL:okE P L=true)(h:N9 P L N c=some ac):F9 P N c=some ac.strip:=by rw[E5e (D56 hL h)];exact D56 hL h
section
variable {P:Program} {L:List (Nat×List Bool)} {f:FuncId} {fn:Func} {ac:ACode} {args:List AV} {ts:List Nat} {rs:List AV} {r:AV} {O O':List (Nat×A7)} {rvs:List (Nat×Option (Option Nat))}
theorem en1(hm:P.follows .mixedOrders=true)(hL:okE P L=true)(hf:P.funcs[f]? =some fn)(hc:N9 P L fn.ntmps (fn.body.getD .skip)=some ac)(hts:A4u fn.results.toList=some ts)
  (h: @Wi P fn.ntmps [] ac (E29 ts [r]) (A0s args []))(hb:fn.body=some (fn.body.getD .skip):=by kernel_rfl)(hname:(fn.name != "runtime.NumGoroutine")=true:=by kernel_rfl)(hnd:ts.Nodup:=by decide)(hl:(args.length.ble fn.ntmps)=true:=by kernel_rfl):
  D5 P f args [] r []:=D1q hm hf hb hname (cs2 hL hc) hts hnd hl h
theorem enT(hm:P.follows .mixedOrders=true)(hL:okE P L=true)(hf:P.funcs[f]? =some fn)(hc:N9 P L fn.ntmps (fn.body.getD .skip)=some ac)(hts:A4u fn.results.toList=some ts)
  (h: @Wi P fn.ntmps [] ac (E29 ts rs) (A0s args []))(hp:A5t rs= .tup rs:=by rfl)(hb:fn.body=some (fn.body.getD .skip):=by kernel_rfl)(hname:(fn.name != "runtime.NumGoroutine")=true:=by kernel_rfl)(hnd:ts.Nodup:=by decide)(hl:(args.length.ble fn.ntmps)=true:=by kernel_rfl):
  D5 P f args [] (.tup rs) []:=hp▸D1q hm hf hb hname (cs2 hL hc) hts hnd hl h
theorem I7(hm:P.follows .mixedOrders=true)(hL:okE P L=true)(hf:P.funcs[f]? =some fn)(hc:N9 P L fn.ntmps (fn.body.getD .skip)=some ac)(hts:A4u fn.results.toList=some ts)
  (h: @Wi P fn.ntmps (O.map (·.1)) ac (C7n (O.map (·.1)) ts [r] O') (A0s args O))(hb:fn.body=some (fn.body.getD .skip):=by kernel_rfl)(hname:(fn.name != "runtime.NumGoroutine")=true:=by kernel_rfl)(hnd:ts.Nodup:=by decide)(hl:(args.length.ble fn.ntmps)=true:=by kernel_rfl):
  D5 P f args O r O':=B9g hm hf hb hname (cs2 hL hc) hts hnd hl h
theorem A26(hm:P.follows .mixedOrders=true)(hL:okE P L=true)(hf:P.funcs[f]? =some fn)(hc:N9 P L fn.ntmps (fn.body.getD .skip)=some ac)(hts:A4u fn.results.toList=some ts)
  (h: @Wi P fn.ntmps (O.map (·.1)) ac (C7n (O.map (·.1)) ts rs O') (A0s args O))(hp:A5t rs= .tup rs:=by rfl)(hb:fn.body=some (fn.body.getD .skip):=by kernel_rfl)(hname:(fn.name != "runtime.NumGoroutine")=true:=by kernel_rfl)(hnd:ts.Nodup:=by decide)(hl:(args.length.ble fn.ntmps)=true:=by kernel_rfl):
  D5 P f args O (.tup rs) O':=hp▸B9g hm hf hb hname (cs2 hL hc) hts hnd hl h
theorem M3(N:Nat)(rvs:List (Nat×Option (Option Nat)))(hm:P.follows .mixedOrders=true)(hL:okE P L=true)(hf:P.funcs[f]? =some fn)(hc:N9 P L fn.ntmps (fn.body.getD .skip)=some ac)
  (h: @Wi P N [] ac (C2p N rvs [r]) (A0s args []))(hN:fn.ntmps=N:=by kernel_rfl)(hts:A6a P fn.results.toList=some rvs:=by kernel_rfl)(hb:fn.body=some (fn.body.getD .skip):=by kernel_rfl)(hname:(fn.name != "runtime.NumGoroutine")=true:=by kernel_rfl)(hlt:(rvs.all λp=>p.1.blt N)=true:=by decide)(hl:(args.length.ble N)=true:=by kernel_rfl):
  D5 P f args [] r []:=B6u hm hf hb hname (cs2 hL hc) hN hts hlt hl h
theorem S1(N:Nat)(rvs:List (Nat×Option (Option Nat)))(hm:P.follows .mixedOrders=true)(hL:okE P L=true)(hf:P.funcs[f]? =some fn)(hc:N9 P L fn.ntmps (fn.body.getD .skip)=some ac)
  (h: @Wi P N [] ac (C2p N rvs rs) (A0s args []))(hp:A5t rs= .tup rs:=by rfl)(hN:fn.ntmps=N:=by kernel_rfl)(hts:A6a P fn.results.toList=some rvs:=by kernel_rfl)(hb:fn.body=some (fn.body.getD .skip):=by kernel_rfl)(hname:(fn.name != "runtime.NumGoroutine")=true:=by kernel_rfl)(hlt:(rvs.all λp=>p.1.blt N)=true:=by decide)(hl:(args.length.ble N)=true:=by kernel_rfl):
  D5 P f args [] (.tup rs) []:=hp▸B6u hm hf hb hname (cs2 hL hc) hN hts hlt hl h
theorem C6y(N:Nat)(rvs:List (Nat×Option (Option Nat)))(hm:P.follows .mixedOrders=true)(hL:okE P L=true)(hf:P.funcs[f]? =some fn)(hc:N9 P L fn.ntmps (fn.body.getD .skip)=some ac)
  (h: @Wi P N (O.map (·.1)) ac (B4w N (O.map (·.1)) rvs [r] O') (A0s args O))(hN:fn.ntmps=N:=by kernel_rfl)(hts:A6a P fn.results.toList=some rvs:=by kernel_rfl)(hb:fn.body=some (fn.body.getD .skip):=by kernel_rfl)(hname:(fn.name != "runtime.NumGoroutine")=true:=by kernel_rfl)(hlt:(rvs.all λp=>p.1.blt N)=true:=by decide)(hl:(args.length.ble N)=true:=by kernel_rfl):
  D5 P f args O r O':=C0f hm hf hb hname (cs2 hL hc) hN hts hlt hl h
theorem D31(N:Nat)(rvs:List (Nat×Option (Option Nat)))(hm:P.follows .mixedOrders=true)(hL:okE P L=true)(hf:P.funcs[f]? =some fn)(hc:N9 P L fn.ntmps (fn.body.getD .skip)=some ac)
  (h: @Wi P N (O.map (·.1)) ac (B4w N (O.map (·.1)) rvs rs O') (A0s args O))(hp:A5t rs= .tup rs:=by rfl)(hN:fn.ntmps=N:=by kernel_rfl)(hts:A6a P fn.results.toList=some rvs:=by kernel_rfl)(hb:fn.body=some (fn.body.getD .skip):=by kernel_rfl)(hname:(fn.name != "runtime.NumGoroutine")=true:=by kernel_rfl)(hlt:(rvs.all λp=>p.1.blt N)=true:=by decide)(hl:(args.length.ble N)=true:=by kernel_rfl):
  D5 P f args O (.tup rs) O':=hp▸C0f hm hf hb hname (cs2 hL hc) hN hts hlt hl h
end
section
open Api
@[go_sem] theorem G8q(x:cI):cI.mk x.X x.Y=x:=rfl
@[go_sem] theorem G4s(x:cM):cM.mk x.dZ x.eG x.eL x.eD=x:=rfl
@[go_sem] theorem G3v(x:cH):cH.mk x.dY x.eR=x:=rfl
@[go_sem] theorem G7f(x:Shape):Shape.mk x.cS x.eV x.cJ=x:=rfl
@[go_sem] theorem G6g(x:dB):dB.mk x.Shape x.fR x.eI x.fC x.fL x.fQ x.fY x.fV=x:=rfl
@[go_sem] theorem G7s(x:cF):cF.mk x.ID x.cS x.cH x.dL x.cZ x.fF x.fH x.eA x.dX x.eF x.fG x.eC x.fD x.eU x.eJ x.cK=x:=rfl
@[go_sem] theorem G7u(x:Four):Four.mk x.I0 x.I1 x.I2 x.I3=x:=rfl
@[go_sem] theorem G7e(x:cG):cG.mk x.ID x.cS x.cU x.cV x.dW x.dR x.eS x.cX x.dE x.dN x.dS x.dH x.dP x.dU x.dD x.dI x.dC x.cQ=x:=rfl
@[go_sem] theorem G6h(x:cR):cR.mk x.cU x.dM x.cV x.dK=x:=rfl
@[go_sem] theorem F8j(x:cO):cO.mk x.eY x.fA x.ID x.eM x.eW=x:=rfl
@[go_sem] theorem G4p(x:cL):cL.mk x.dF x.cP=x:=rfl
@[go_sem] theorem G6f(x:cY):cY.mk x.dQ x.cL=x:=rfl
@[go_sem] theorem G7g(x:Api.World):Api.World.mk x.cM x.cC x.cD x.cB x.cT x.dJ x.eK=x:=rfl
@[go_sem] theorem G6s(x:B3):B3.mk x.cC x.cB x.cD=x:=rfl
end
variable {O:List (Nat×A7)} {f:FuncId} {P:Program} {O':List (Nat×A7)}
theorem cx_ {a a':List AV}{r:AV}(h:D5 P f a O r O')(e:a=a':=by(try simp only[go_sem]);first |done |rfl):D5 P f a' O r O':=e▸h
theorem it_ {c:Prop} [Decidable c]{p q:Prop}(h1:c->p)(h2: ¬c->q):if c then p else q:=by split <;> simp_all
theorem lf_(h:p:=by first
 |with_reducible rfl
 |(simp only[*,if_true,if_false,eq_self,Bool.false_eq_true,Bool.true_eq_false,not_true_eq_false,not_false_eq_true,reduceCtorEq,J3,R8,A1k,A1l,Bool.and_true,Bool.true_and,Bool.and_false,Bool.false_and,Bool.or_true,Bool.true_or,Bool.or_false,Bool.false_or,Bool.not_true,Bool.not_false,decide_true,decide_false];done)
 |(simp only[*,if_true,if_false,eq_self,Bool.false_eq_true,Bool.true_eq_false,not_true_eq_false,not_false_eq_true,reduceCtorEq,J3,R8,A1k,A1l,Bool.and_true,Bool.true_and,Bool.and_false,Bool.false_and,Bool.or_true,Bool.true_or,Bool.or_false,Bool.false_or,Bool.not_true,Bool.not_false,decide_true,decide_false,go_sem];first |done |with_reducible rfl |((repeat' (with_reducible apply And.intro)) <;> first |with_reducible rfl |trivial |omega |exact D0 _ |exact G8 rfl |exact A8j))
 |exact A8j):p:=h
variable {b:Bool} {m:Nat->Option A7} {avs:List AV}
theorem gd_ {Q:ContR}(h: @A21 P m f avs b Q): @A21 P m f avs b Q:=h
theorem E7(h:p:=by
 simp only[go_sem,C9,E8,C3,D7]
 repeat' (first
  |(with_reducible refine And.intro ?_ ?_;focus exact ob_)
  |with_reducible refine it_ (λ_=> ?_) (λ_=> ?_)
  |(with_reducible refine gd_ ?_;with_reducible refine A0 (by apply_assumption <;> first |exact ob_ |(apply_assumption <;> first |assumption |exact ob_)) rfl ?_;simp only[go_sem,C9,E8,C3,D7])
  |exact lf_)):p:=h
def stE {S R:Type}(f:Nat->S->S ⊕ R)(i:Nat)(s0:S):S:=match J8 f i s0 with
 | .inl s=>s
 | .inr _=>s0
def glS {S R:Type}(r:S ⊕ R)(s0:S):S:=match r with
 | .inl s=>s
 | .inr _=>s0
theorem A6e(s s0:S):glS (.inl s:S ⊕ R) s0=s:=rfl
theorem A2j(f:Nat->S->S ⊕ R)(s0:S):stE f 0 s0=s0:=rfl
variable {s0:S}
theorem C7d {f:Nat->S->S ⊕ R}(h:J8 f i s0= .inl (stE f i s0)):J8 f (i+1) s0=f i (stE f i s0):=by simp only[J8,h]
theorem A3q {f:Nat->S->S ⊕ R}(h:J8 f i s0= .inl (stE f i s0)):stE f (i+1) s0=glS (f i (stE f i s0)) s0:=by rw[<-C7d h];rfl
theorem E79 {f:Nat->S->S ⊕ R}{r:R}(h:J8 f i s0= .inl (stE f i s0))(hi:i<n)(hf:f i (stE f i s0)= .inr r):J8 f n s0= .inr r:=A5j (k:=i+1) (by rw[C7d h,hf]) hi
abbrev IE {S R:Type}(f:Nat->S->S ⊕ R)(s0:S)(i:Nat):Prop:=J8 f i s0= .inl (stE f i s0)
theorem G0r {f:Nat->S->S ⊕ R}(h:J8 f i s0= .inl (stE f i s0)){s:S}(hf:f i (stE f i s0)= .inl s):IE f s0 (i+1):=by unfold IE stE;rw[C7d h,hf]
@[reducible] def E51(K:List Nat)(I:Nat->Prop)(T:Nat->J6)(O:Nat->List (Nat×A7))(i:Nat)(Q:Cont):Cont:=⟨Out.then (λτ=>I (i+1)/\V9 K τ (T (i+1)) (O (i+1))) Q.q⟩
@[reducible] def E52(Q:Cont):Cont:=⟨Out.then (λ_=>False) Q.q⟩
section
variable {P:Program} {N:Nat} {K:List Nat}
variable {Q:Cont}
theorem D91 {I:Nat->Prop}{T:Nat->J6}{O:Nat->List (Nat×A7)}: @Qi (E51 K I T O i Q) .normal σ=(I (i+1)/\V9 K σ (T (i+1)) (O (i+1))):=rfl
variable {j:Nat}
theorem E49 {I:Nat->Prop}{T:Nat->J6}{O:Nat->List (Nat×A7)}: @Qi (E51 K I T O i Q) (.exit j) σ= @Qi Q (.exit j) σ:=rfl
theorem E6u {I:Nat->Prop}{T:Nat->J6}{O:Nat->List (Nat×A7)}: @Qi (E51 K I T O i Q) .ret σ= @Qi Q .ret σ:=rfl
theorem D92: @Qi (E52 Q) .normal σ=False:=rfl
theorem E5a: @Qi (E52 Q) (.exit j) σ= @Qi Q (.exit j) σ:=rfl
theorem E6v: @Qi (E52 Q) .ret σ= @Qi Q .ret σ:=rfl
def HB(p:Prop):Prop:=p
theorem hb_(h:p):HB p:=h
theorem lp_ {x:ACode}{Q:Cont}{σ:St}(hm:P.follows .mixedOrders=true)(I X:Nat->Prop)(n:Nat)(T:Nat->J6)(O:Nat->List (Nat×A7))(A:List Nat)(hI:I 0)(hX: ∀i,I i->X i)
  (h1:((O 0).map (·.1)).Nodup)(h2:((((O 0).map (·.1)).filter λi=> !A.contains i).map (D3 [])).Nodup)(h3: ∀k∈K,k∉A/\D3 [] k=k/\(ofL (O 0) k).isSome)
  (h0:HB (A3i σ (D3 []) A (O 0) (T 0) [] λwr=>B4s (wrm σ.objs wr) (D3 []) A (O 0) (O 0)))
  (hb:HB (∀i,i<n->I i->X i-> @Wi P N K x (E51 K I T O i Q) (A13 (T i) (O i))))
  (he:HB (I n->X n-> @Wi P N K x (E52 Q) (A13 (T n) (O n)))): @Wpi P N K (.loop x) Q σ:=by
 refine Wp.loop (ι:= {i:Nat // i<=n/\I i}) (λi=>T i.1) (λi=>O i.1) (λi=>n-i.1) ⟨0,Nat.zero_le _,hI⟩ (C1f [] A h1 h2 h3 h0) ?_;rintro⟨i,hi,hI⟩;rcases Nat.lt_or_ge i n with hlt |hge
 ·refine(Wp.of_W hm x (hb i hlt hI (hX i hI))).mono λo τ hq=> ?_;cases o with
  |normal=>exact⟨⟨i+1,hlt,hq.1⟩,by show n-(i+1)<n-i;omega,hq.2⟩
  |exit j=>exact hq
  |ret=>exact hq
 ·obtain rfl:i=n:=by omega
  refine(Wp.of_W hm x (he hI (hX _ hI))).mono λo τ hq=> ?_;cases o with
  |normal=>exact hq.elim
  |exit j=>exact hq
  |ret=>exact hq
end
attribute [go_sem] D91 E49 E6u D92 E5a E6v
variable {Q:Cont}
theorem gw_ {P:Program}{N:Nat}{K:List Nat}{x:ACode}(h: @Wpi P N K x Q σ): @Wpi P N K x Q σ:=h
theorem gk_ {K:List Nat}(h:V9 K σ T O):V9 K σ T O:=h
theorem gi_ {f:Nat->S->S ⊕ R}(h:IE f s0 i):IE f s0 i:=h
theorem ie_(h:p:=by(with_reducible refine gi_ ?_;exact G0r (by assumption) (by simp only[*,if_true,if_false,eq_self,Bool.false_eq_true,Bool.true_eq_false,not_true_eq_false,not_false_eq_true,reduceCtorEq,J3,R8,A1k,A1l,Bool.and_true,Bool.true_and,Bool.and_false,Bool.false_and,Bool.or_true,Bool.true_or,Bool.or_false,Bool.false_or,Bool.not_true,Bool.not_false,decide_true,decide_false];first |done |rfl))):p:=h
theorem G8a(h:p:=by first
 |with_reducible rfl
 |trivial
 |omega
 |(simp only[*,if_true,if_false,eq_self,Bool.false_eq_true,Bool.true_eq_false,not_true_eq_false,not_false_eq_true,reduceCtorEq,J3,R8,A1k,A1l,Bool.and_true,Bool.true_and,Bool.and_false,Bool.false_and,Bool.or_true,Bool.true_or,Bool.or_false,Bool.false_or,Bool.not_true,Bool.not_false,decide_true,decide_false,H6,J3,R8,A2j,A3q,A6e];done)
 |(simp only[*,if_true,if_false,eq_self,Bool.false_eq_true,Bool.true_eq_false,not_true_eq_false,not_false_eq_true,reduceCtorEq,J3,R8,A1k,A1l,Bool.and_true,Bool.true_and,Bool.and_false,Bool.false_and,Bool.or_true,Bool.true_or,Bool.or_false,Bool.false_or,Bool.not_true,Bool.not_false,decide_true,decide_false,H6,J3,R8,A2j,A3q,A6e,go_sem];first |done |with_reducible rfl |((repeat' (with_reducible apply And.intro)) <;> first |with_reducible rfl |trivial |omega |(rw[IntKind.wrap_i64];omega) |exact D0 _ |exact G8 rfl |exact A32 rfl |exact A1g _ rfl rfl |exact A8j))
 |(have hE:=E79 (by assumption) (by assumption) (by simp only[*,if_true,if_false,eq_self,Bool.false_eq_true,Bool.true_eq_false,not_true_eq_false,not_false_eq_true,reduceCtorEq,J3,R8,A1k,A1l,Bool.and_true,Bool.true_and,Bool.and_false,Bool.false_and,Bool.or_true,Bool.true_or,Bool.or_false,Bool.false_or,Bool.not_true,Bool.not_false,decide_true,decide_false];first |done |rfl);simp only[hE, *,if_true,if_false,eq_self,Bool.false_eq_true,Bool.true_eq_false,not_true_eq_false,not_false_eq_true,reduceCtorEq,J3,R8,A1k,A1l,Bool.and_true,Bool.true_and,Bool.and_false,Bool.false_and,Bool.or_true,Bool.true_or,Bool.or_false,Bool.false_or,Bool.not_true,Bool.not_false,decide_true,decide_false,H6,J3,R8,A2j,A3q,A6e];first |done |with_reducible rfl |exact A8j)
 |exact A8j):p:=h
theorem B2n(h:p:=by
 simp only[go_sem,C9,E8,C3,D7]
 repeat' (first
  |(with_reducible refine And.intro ?_ ?_;focus (first |exact ob_ |exact ie_))
  |with_reducible refine it_ (λ_=> ?_) (λ_=> ?_)
  |(with_reducible refine gd_ ?_;with_reducible refine A0 (by apply_assumption <;> first |exact ob_ |(apply_assumption <;> first |assumption |exact ob_)) rfl ?_;simp only[go_sem,C9,E8,C3,D7])
  |(with_reducible refine gw_ ?_;apply_assumption)
  |(with_reducible refine hb_ ?_;intros;simp only[go_sem,C9,E8,C3,D7,J3,A2j])
  |(with_reducible refine gk_ ?_;refine E0 [] [] ?_;simp only[go_sem,C9,E8,C3,D7])
  |exact G8a)):p:=h
end Go.Abs
end
