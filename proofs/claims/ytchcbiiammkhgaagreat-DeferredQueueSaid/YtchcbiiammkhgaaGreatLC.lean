/- A part of the proof: what a function does, over abstract values and objects, and its ties to the model. -/
import Derived.Test.YtchcbiiammkhgaaGreatLB
import Derived.Scope
import Derived.WalkKit
import Derived.ProofKit
import Derived.OpenShut
import Derived.ChangeOld
import Derived.Below
import Derived.Attr
import Derived.Sort.Grow
import Derived.Lib.SlicesCompact
import Derived.KernelRfl
set_option linter.unusedSimpArgs false
set_option linter.unusedVariables false
set_option linter.unnecessarySimpa false
set_option maxRecDepth 100000
set_option maxHeartbeats 2000000
noncomputable section
namespace Go.Abs
inductive ACode where
 |skip
 |region (draw:Bool) (ops:List AOper)
 |seq (a b:ACode)
 |cond (c:AX) (a b:ACode)
 |block (id:Nat) (a:ACode)
 |loop (a:ACode)
 |exit (id:Nat)
 |ret
 |mark (a:ACode)
 |scope (a:ACode)
def ACode.strip:ACode->ACode
 | .seq a b=> .seq a.strip b.strip
 | .cond c a b=> .cond c a.strip b.strip
 | .block id a=> .block id a.strip
 | .loop a=> .loop a.strip
 | .mark a=>a.strip
 | .scope a=> .scope a.strip
 |c=>c
def D9(P:Program)(N:Nat):Code->Option ACode
 | .skip=>some .skip
 | .region _ ops draw=>match B0r P N ops draw with
   |some as=>some (.region draw as)
   |none=>none
 | .seq a b=>match D9 P N a,D9 P N b with
   |some x,some y=>some (.seq x y)
   |_,_=>none
 | .cond c a b=>match cx c,D9 P N a,D9 P N b with
   |some k,some x,some y=>some (.cond k x y)
   |_,_,_=>none
 | .block id a=>match D9 P N a with
   |some x=>some (.block id x)
   |none=>none
 | .loop a=>match D9 P N a with
   |some x=>some (.loop x)
   |none=>none
 | .scope a=>match D9 P N a with
   |some x=>some (.scope x)
   |none=>none
 | .exit id=>some (.exit id)
 | .label _=>some .skip
 | .ret=>some .ret
 |_=>none
inductive Out where
 |normal |exit (id:Nat) |ret
def Out.then(a:St->Prop)(Q:Out->St->Prop):Out->St->Prop
 | .normal,σ=>a σ
 | .exit i,σ=>Q (.exit i) σ
 | .ret,σ=>Q .ret σ
def Out.inBlock(id:Nat)(Q:Out->St->Prop):Out->St->Prop
 | .normal,σ=>Q .normal σ
 | .exit i,σ=>if i=id then Q .normal σ else Q (.exit i) σ
 | .ret,σ=>Q .ret σ
variable {σ σ':St}
@[congr] theorem Out.then_congr {a:St->Prop}{Q:Out->St->Prop}{o o':Out}(h:o=o')(hs:σ=σ'):Out.then a Q o σ=Out.then a Q o' σ':=by rw[h,hs]
@[congr] theorem Out.inBlock_congr {id:Nat}{Q:Out->St->Prop}{o o':Out}(h:o=o')(hs:σ=σ'):Out.inBlock id Q o σ=Out.inBlock id Q o' σ':=by rw[h,hs]
def Out.exit':Out->Exit
 | .normal=> .normal
 | .exit i=> .exit i
 | .ret=> .ret
structure E2v where
 G:Nat->Prop
 w:World
 ob:Place
structure B72 (K:List Nat) (Γ:E2v) (G:Nat->Prop) (w:World) (ob:Place):Prop where
 fr:Fr Γ.G Γ.w Γ.ob G w ob
 ext:OBx (· ∈K) Γ.ob ob
def E46(K:List Nat)(N:Nat)(Γ:E2v)(Q:Out->St->Prop):Exit->Act->World->Prop:=λe a w=>∃o σ ob G,e=Out.exit' o/\Q o σ/\Sim N σ a w ob G/\B72 K Γ G w ob
def Wp(P:Program)(N:Nat)(K:List Nat)(ac:ACode)(Q:Out->St->Prop)(σ:St):Prop:=∀c,D9 P N c=some ac.strip-> ∀(Γ:E2v) (a:Act) (w:World) (ob:Place) (G:Nat->Prop),Sim N σ a w ob G->B72 K Γ G w ob->c.wp P (E46 K N Γ Q) a w
def W(P:Program)(N:Nat)(K:List Nat):ACode->(Out->St->Prop)->St->Prop
 | .skip,Q,σ=>Q .normal σ
 | .region false ops,Q,σ=>A5h P ops (Q .normal) σ
 | .region true ops,Q,σ=>C2t P ops [] (Q .normal) σ
 | .seq a b,Q,σ=>W P N K a (Out.then (W P N K b Q) Q) σ
 | .cond c a b,Q,σ=>match σ.ev c with
   |some (true, .sc (.bool t))=>if t=true then W P N K a Q σ else W P N K b Q σ
   |_=>False
 | .block id a,Q,σ=>W P N K a (Out.inBlock id Q) σ
 | .loop a,Q,σ=>Wp P N K (.loop a) Q σ
 | .exit id,Q,σ=>Q (.exit id) σ
 | .ret,Q,σ=>Q .ret σ
 | .mark a,Q,σ=>Wp P N K a Q σ
 | .scope a,Q,σ=>W P N K a Q σ
@[congr] theorem G4g {P:Program}{N:Nat}{K:List Nat}{c:ACode}{Q:Out->St->Prop}(h:σ=σ'):W P N K c Q σ=W P N K c Q σ':=by rw[h]
@[congr] theorem G3z {P:Program}{N:Nat}{K:List Nat}{c:ACode}{Q:Out->St->Prop}(h:σ=σ'):Wp P N K c Q σ=Wp P N K c Q σ':=by rw[h]
def Y5(K:List Nat)(σ:St)(T:H6)(O:List (Nat×A5)):Prop:= ∃ρ A,F69 K σ ρ A T O
section
variable {P:Program} {N:Nat} {K:List Nat}
theorem OBx.trans {K:Nat->Prop}{o1 o2 o3:Place}(h:OBx K o1 o2)(h':OBx K o2 o3):OBx K o1 o3:=by
 intro id i hk hi;obtain⟨i',hi',h1⟩:=h id i hk hi;obtain⟨i'',hi'',h2⟩:=h' id i' hk hi'
 grind
variable {w:World} {G:Nat->Prop} {ob:Place} {w':World} {ob':Place} {G':Nat->Prop}
theorem B72.step {Γ:E2v}(h:B72 K Γ G w ob)(hf:Fr G w ob G' w' ob')(he:C9 ob ob'):B72 K Γ G' w' ob':=⟨h.fr.trans hf,h.ext.trans λid i _ hi=>he id i hi⟩
variable {ac:ACode}
theorem Wp.mono {Q Q':Out->St->Prop}(h:Wp P N K ac Q σ)(hq: ∀o σ,Q o σ->Q' o σ):Wp P N K ac Q' σ:=λc hc Γ a w ob G hs hΓ=>wp_mono (h c hc Γ a w ob G hs hΓ) λ_ _ _ ⟨o,σ,ob,G,h1,h2,h3,h4⟩=>⟨o,σ,ob,G,h1,hq o σ h2,h3,h4⟩
theorem Wp.of_W(hm:P.follows .mixedOrders=true): ∀(ac:ACode) {Q:Out->St->Prop} {σ:St},W P N K ac Q σ->Wp P N K ac Q σ
 | .skip,Q,σ,h=>λc hc Γ a w ob G hs hΓ=>by
   have hn:E46 K N Γ Q .normal a w:=⟨.normal,σ,ob,G,rfl,h,hs,hΓ⟩;cases c <;> simp only[D9,ACode.strip,Option.some.injEq,reduceCtorEq]at hc
   case skip=>exact wp_skip hn
   case label=>exact wp_label hn
   all_goals grind
 | .region d ops,Q,σ,h=>λc hc Γ a w ob G hs hΓ=>by
   cases c <;> simp only[D9,ACode.strip,Option.some.injEq,reduceCtorEq]at hc
   case region id os draw=>
    split at hc
    ·rename_i as has;simp only[Option.some.injEq,ACode.region.injEq]at hc;obtain⟨rfl,rfl⟩:=hc;cases draw with
     |true=>exact E76 hm has hs h λτ a' w' ob' G' hq s f e=>⟨.normal,τ,ob',G',rfl,hq,s,hΓ.step f e⟩
     |false=>
      unfold B0r at has;split at has
      ·rename_i as' hcop;simp only[Bool.false_eq_true,if_false,Option.some.injEq]at has;subst has;refine wp_region ?_;have:=D13 (Q:=Q .normal) (R:=E46 K N Γ Q) os.toList as' 0 σ a w ob G hcop (λi o hi=>by simpa using hi) hs h
        (λτ a' w' ob' G' hq s f e=>⟨.normal,τ,ob',G',rfl,hq,s,hΓ.step f e⟩)
       rw[List.range_eq_range'];simpa using this
      ·cases has
    ·cases hc
   all_goals grind
 | .seq x y,Q,σ,h=>λc hc Γ a w ob G hs hΓ=>by
   cases c <;> simp only[D9,ACode.strip,Option.some.injEq,reduceCtorEq]at hc
   case seq c1 c2=>
    split at hc
    ·rename_i x' y' h1 h2;simp only[Option.some.injEq,ACode.seq.injEq]at hc;obtain⟨rfl,rfl⟩:=hc;refine wp_seq (wp_mono (Wp.of_W hm x h c1 h1 Γ a w ob G hs hΓ) ?_);rintro e a' w' ⟨o,τ,ob',G',rfl,hq,s,hΓ'⟩;cases o with
     |normal=>exact Wp.of_W hm y hq c2 h2 Γ a' w' ob' G' s hΓ'
     |exit i=>exact⟨.exit i,τ,ob',G',rfl,hq,s,hΓ'⟩
     |ret=>exact⟨.ret,τ,ob',G',rfl,hq,s,hΓ'⟩
    ·cases hc
   all_goals grind
 | .cond k x y,Q,σ,h=>λc hc Γ a w ob G hs hΓ=>by
   cases c <;> simp only[D9,ACode.strip,Option.some.injEq,reduceCtorEq]at hc
   case cond c0 c1 c2=>
    split at hc
    ·rename_i k' x' y' h0 h1 h2;simp only[Option.some.injEq,ACode.cond.injEq]at hc;obtain⟨rfl,rfl,rfl⟩:=hc;simp only[W]at h;split at h
     ·rename_i t ht;have hv:a.eval c0= .bool t:=(hs.opRel c0 k' (.sc (.bool t)) h0 (by simp[St.e',ht])).sc_eq;refine wp_cond hv ?_;cases t with
      |true=>rw[if_pos rfl]at h;exact Wp.of_W hm x h c1 h1 Γ a w ob G hs hΓ
      |false=>rw[if_neg (by simp)]at h;exact Wp.of_W hm y h c2 h2 Γ a w ob G hs hΓ
     ·exact h.elim
    ·cases hc
   all_goals grind
 | .block id x,Q,σ,h=>λc hc Γ a w ob G hs hΓ=>by
   cases c <;> simp only[D9,ACode.strip,Option.some.injEq,reduceCtorEq]at hc
   case block id' c1=>
    split at hc
    ·rename_i x' h1;simp only[Option.some.injEq,ACode.block.injEq]at hc;obtain⟨rfl,rfl⟩:=hc;refine wp_block (wp_mono (Wp.of_W hm x h c1 h1 Γ a w ob G hs hΓ) ?_);rintro e a' w' ⟨o,τ,ob',G',rfl,hq,s,hΓ'⟩;cases o with
     |normal=>exact⟨.normal,τ,ob',G',rfl,hq,s,hΓ'⟩
     |exit i=>
      simp only[Out.exit',Exit.inBlock];simp only[Out.inBlock]at hq;split
      ·rename_i e;rw[if_pos e]at hq;exact⟨.normal,τ,ob',G',rfl,hq,s,hΓ'⟩
      ·rename_i e;rw[if_neg e]at hq;exact⟨.exit i,τ,ob',G',rfl,hq,s,hΓ'⟩
     |ret=>exact⟨.ret,τ,ob',G',rfl,hq,s,hΓ'⟩
    ·cases hc
   all_goals grind
 | .scope x,Q,σ,h=>λc hc Γ a w ob G hs hΓ=>by
   cases c <;> simp only[D9,ACode.strip,Option.some.injEq,reduceCtorEq]at hc
   case scope c1=>
    split at hc
    ·rename_i x' h1;simp only[Option.some.injEq,ACode.scope.injEq]at hc;obtain rfl:=hc;refine wp_scope_straight (wp_mono (Wp.of_W hm x h c1 h1 Γ a w ob G hs hΓ) ?_);rintro e a' w' ⟨o,τ,ob',G',rfl,hq,s,hΓ'⟩;cases o <;> exact⟨_,τ,ob',G',rfl,hq,s,hΓ'⟩
    ·cases hc
   all_goals grind
 | .loop x,Q,σ,h=>h
 | .exit id,Q,σ,h=>λc hc Γ a w ob G hs hΓ=>by
   cases c <;> simp only[D9,ACode.strip,Option.some.injEq,reduceCtorEq]at hc
   case exit id'=>simp only[ACode.exit.injEq]at hc;subst hc;exact wp_exit ⟨.exit id',σ,ob,G,rfl,h,hs,hΓ⟩
   all_goals grind
 | .ret,Q,σ,h=>λc hc Γ a w ob G hs hΓ=>by
   cases c <;> simp only[D9,ACode.strip,Option.some.injEq,reduceCtorEq]at hc
   case ret=>exact wp_ret ⟨.ret,σ,ob,G,rfl,h,hs,hΓ⟩
   all_goals grind
 | .mark x,Q,σ,h=>λc hc=>h c hc
variable {O:List (Nat×A5)} {T:H6}
theorem Wp.weak {Q:Out->St->Prop}(h:Y5 K σ T O)(hw:Wp P N K ac Q (A14 T O)):Wp P N K ac Q σ:=by intro c hc Γ a w ob G hs hΓ;obtain⟨ρ,A,h⟩:=h;obtain⟨ob2,G2,h1,h2,h3⟩:=B3h hs h;exact hw c hc Γ a w ob2 G2 h1 ⟨hΓ.fr.trans h2,hΓ.ext.trans λid i hk hi=>⟨i,by rw[h3 id hk];exact hi, .inl rfl⟩⟩
theorem Wp.seq {x y:ACode}{Q:Out->St->Prop}{σ:St}(h:Wp P N K x (Out.then (Wp P N K y Q) Q) σ):Wp P N K (.seq x y) Q σ:=by
 intro c hc Γ a w ob G hs hΓ;cases c <;> simp only[D9,ACode.strip,Option.some.injEq,reduceCtorEq]at hc
 case seq c1 c2=>
  split at hc
  ·rename_i x' y' h1 h2;simp only[Option.some.injEq,ACode.seq.injEq]at hc;obtain⟨rfl,rfl⟩:=hc;refine wp_seq (wp_mono (h c1 h1 Γ a w ob G hs hΓ) ?_);rintro e a' w' ⟨o,τ,ob',G',rfl,hq,s,hΓ'⟩;cases o with
   |normal=>exact hq c2 h2 Γ a' w' ob' G' s hΓ'
   |exit i=>exact⟨.exit i,τ,ob',G',rfl,hq,s,hΓ'⟩
   |ret=>exact⟨.ret,τ,ob',G',rfl,hq,s,hΓ'⟩
  ·cases hc
 all_goals grind
theorem Wp.block {id:Nat}{x:ACode}{Q:Out->St->Prop}{σ:St}(h:Wp P N K x (Out.inBlock id Q) σ):Wp P N K (.block id x) Q σ:=by
 intro c hc Γ a w ob G hs hΓ;cases c <;> simp only[D9,ACode.strip,Option.some.injEq,reduceCtorEq]at hc
 case block id' c1=>
  split at hc
  ·rename_i x' h1;simp only[Option.some.injEq,ACode.block.injEq]at hc;obtain⟨rfl,rfl⟩:=hc;refine wp_block (wp_mono (h c1 h1 Γ a w ob G hs hΓ) ?_);rintro e a' w' ⟨o,τ,ob',G',rfl,hq,s,hΓ'⟩;cases o with
   |normal=>exact⟨.normal,τ,ob',G',rfl,hq,s,hΓ'⟩
   |exit i=>
    simp only[Out.exit',Exit.inBlock];simp only[Out.inBlock]at hq;split
    ·rename_i e;rw[if_pos e]at hq;exact⟨.normal,τ,ob',G',rfl,hq,s,hΓ'⟩
    ·rename_i e;rw[if_neg e]at hq;exact⟨.exit i,τ,ob',G',rfl,hq,s,hΓ'⟩
   |ret=>exact⟨.ret,τ,ob',G',rfl,hq,s,hΓ'⟩
  ·cases hc
 all_goals grind
theorem Wp.loop {x:ACode}{Q:Out->St->Prop}{σ:St}{ι:Type}(T:ι->H6)(O:ι->List (Nat×A5))(μ:ι->Nat)(i0:ι)(h0:Y5 K σ (T i0) (O i0))
  (h: ∀i,Wp P N K x (Out.then (λτ=> ∃i',μ i'<μ i/\Y5 K τ (T i') (O i')) Q) (A14 (T i) (O i))):Wp P N K (.loop x) Q σ:=by
 intro c hc Γ a w ob G hs hΓ;cases c <;> simp only[D9,ACode.strip,Option.some.injEq,reduceCtorEq]at hc
 case loop c1=>
  split at hc
  ·rename_i x' h1;simp only[Option.some.injEq,ACode.loop.injEq]at hc;obtain rfl:=hc;have enter: ∀(τ:St) (a':Act) (w':World) (ob':Place) (G':Nat->Prop) (i:ι),Y5 K τ (T i) (O i)->Sim N τ a' w' ob' G'->B72 K Γ G' w' ob'->
     ∃ob2 G2,Sim N (A14 (T i) (O i)) a' w' ob2 G2/\B72 K Γ G2 w' ob2:=by
    rintro τ a' w' ob' G' i ⟨ρ,A,hw⟩ s hΓ';obtain⟨ob2,G2,g1,g2,g3⟩:=B3h s hw;exact⟨ob2,G2,g1,hΓ'.fr.trans g2,hΓ'.ext.trans λid j hk hi=>⟨j,by rw[g3 id hk];exact hi, .inl rfl⟩⟩
   intro b k cs;have key: ∀n i,μ i=n-> ∀(a':Act) (w':World) (ob':Place) (G':Nat->Prop),Sim N (A14 (T i) (O i)) a' w' ob' G'->B72 K Γ G' w' ob'->
     ∃e a2 w2,E46 K N Γ Q e a2 w2/\Arrives P (lone (b.at a' (.code c1:: .inLoop c1::k)) cs w') b k cs e a2 w2:=by
    intro n;induction n using Nat.strongRecOn with
    |_ n ih=>
     intro i hn a' w' ob' G' hs' hΓ';obtain⟨e,a1,w1,hq,harr⟩:=h i c1 h1 Γ a' w' ob' G' hs' hΓ' b (.inLoop c1::k) cs;obtain⟨o,τ,ob1,G1,rfl,hq,s,hΓ1⟩:=hq;cases o with
     |normal=>obtain⟨i',hlt,hw⟩:=hq;obtain⟨ob2,G2,s2,hΓ2⟩:=enter τ a1 w1 ob1 G1 i' hw s hΓ1;obtain⟨e2,a2,w2,hq2,harr2⟩:=ih (μ i') (hn▸hlt) i' rfl a1 w1 ob2 G2 s2 hΓ2;exact⟨e2,a2,w2,hq2, .of_steps (Steps.trans harr (.one step_inLoop)) harr2⟩
     |exit id=>exact⟨.exit id,a1,w1,⟨.exit id,τ,ob1,G1,rfl,hq,s,hΓ1⟩, .pass (x:= .inLoop c1) rfl (λ_ _=> .inl (by simp)) harr⟩
     |ret=>exact⟨.ret,a1,w1,⟨.ret,τ,ob1,G1,rfl,hq,s,hΓ1⟩, .pass (x:= .inLoop c1) rfl (λ_ _=> .inl (by simp)) harr⟩
   obtain⟨ob2,G2,s2,hΓ2⟩:=enter σ a w ob G i0 h0 hs hΓ;obtain⟨e,a',w',hq,harr⟩:=key _ i0 rfl a w ob2 G2 s2 hΓ2;exact⟨e,a',w',hq, .of_steps (.one step_loop) harr⟩
  ·cases hc
 all_goals grind
end
def B5e:Nat->List AV->H6
 |_,[]=> []
 |i,v::vs=>(i, .share,v)::B5e (i+1) vs
def A0b(args:List AV)(O:List (Nat×A5)):St:=A14 (B5e 0 args) O
def A5a:List AV->AV
 | [r]=>r
 |rs=> .tup rs
def B9x:List Nat->List C1w->List AV->H6
 |t::ts,m::ms,r::rs=>(t,m,r)::B9x ts ms rs
 |_,_,_=> []
def A8c(K:List Nat)(σ:St)(ts:List Nat)(rs:List AV)(O:List (Nat×A5)):Prop:= ∃md,md.length=ts.length/\rs.length=ts.length/\Y5 K σ (B9x ts md rs) O
def D9w(K:List Nat)(ts:List Nat)(R:List AV->List (Nat×A5)->Prop)(o:Out)(σ:St):Prop:=
 match o with
 | .exit _=>False
 | .normal=> ∃rs O,R rs O/\A8c K σ ts rs O
 | .ret=> ∃rs O,R rs O/\A8c K σ ts rs O
def A4m:List ResultVar->Option (List Nat)
 | []=>some []
 | .tmp t::r=>match A4m r with
   |some ts=>some (t::ts)
   |none=>none
 | .cell .. ::_=>none
section
variable {P:Program} {N:Nat} {K:List Nat}
theorem E1g: ∀ {l:List ResultVar} {ts:List Nat},A4m l=some ts->l=ts.map .tmp
 | [],ts,h=>by simp only[A4m,Option.some.injEq]at h;subst h;rfl
 | .tmp t::r,ts,h=>by
   simp only[A4m]at h;split at h
   ·rename_i ts' h1;simp only[Option.some.injEq]at h;subst h;rw[E1g h1];rfl
   ·cases h
 | .cell a b::r,ts,h=>by simp[A4m]at h
variable {ts:List Nat} {fn:Func}
theorem E7n(h:A4m fn.results.toList=some ts)(tmps:Array Value)(w:World):
  ∃v,(results fn tmps).run P w= .ok v w/\v=(match ts.map (λt=>tmps.getD t undef)with | [x]=>x |vs=> .tuple vs.toArray):=by
 have h1:fn.results=(ts.map ResultVar.tmp).toArray:=by rw[<-E1g h]
 have h2: ∀(f:ResultVar->Sem Value),(∀t,f (.tmp t)=pure (tmps.getD t undef))-> ∀ts:List Nat,(ts.map ResultVar.tmp).mapM f=pure (ts.map λt=>tmps.getD t undef):=by
  intro f hf ts;induction ts with
  |nil=>rfl
  |cons t ts ih=>grind
 refine⟨_,?_,rfl⟩;unfold results;rw[h1,List.mapM_toArray,h2 _ (λt=>rfl)];simp only[map_pure,pure_bind];cases ts with
 |nil=>rfl
 |cons t ts=>cases ts with
  |nil=>rfl
  |cons u us=>rfl
theorem C6m: ∀(args:List AV) (i t:Nat),A1u (B5e i args) t=if i<=t then(args[t-i]?).map (λv=>(true,v))else none
 | [],i,t=>by simp[B5e,A1u]
 |v::vs,i,t=>by
  simp only[B5e,A1u,C6m vs (i+1) t]
  grind
variable {w:World} {O:List (Nat×A5)} {G:Nat->Prop} {ob:Place} {args:List AV}
theorem D03 {vals:List Value}(hs:D5 G w ob (ofL O))(hr:A6z G w ob args vals)(hl:args.length<=N):
  Sim N (A0b args O) {tmps:=vals.toArray++Array.replicate (N-vals.toArray.size) undef,defers:= []} w ob G:=by
 refine⟨?_,rfl,hs,λt av ht=> ?_,λt av ht=>absurd ht B26⟩
 ·have:=hr.1;simp;omega
 ·simp only[A0b,A14,C6m,Nat.zero_le,if_true,Nat.sub_zero,Option.map_eq_some_iff,Prod.mk.injEq,true_and,exists_eq_right]at ht;have hlt:t<vals.length:=by
   rw[hr.1]
   grind
  refine⟨vals.getD t undef,?_,hr.2 t av ht⟩;simp[Array.getElem?_append,hlt,List.getD]
theorem C0r: ∀ {ts:List Nat} {md:List C1w} {rs:List AV},md.length=ts.length->rs.length=ts.length->ts.Nodup-> ∀(j:Nat) (t:Nat) (r:AV),ts[j]? =some t->rs[j]? =some r->A1u (B9x ts md rs) t=some (true,r)
 | [],md,rs,_,_,_,j,t,r,h,_=>by simp at h
 |t0::ts,m::md,r0::rs,h1,h2,hn,j,t,r,ht,hr=>by
  simp only[List.nodup_cons]at hn;simp only[B9x,A1u];cases j with
  |zero=>grind
  |succ j=>simp only[List.getElem?_cons_succ]at ht hr;rw[if_neg (λe=>hn.1 (by rw[<-e];exact List.mem_of_getElem? ht))];exact C0r (by simpa using h1) (by simpa using h2) hn.2 j t r ht hr
 |_::_,[],_,h1,_,_,_,_,_,_,_=>by simp at h1
 |_::_,_::_,[],_,h2,_,_,_,_,_,_=>by simp at h2
variable {rs:List AV}
theorem D5e {tmps:Array Value}(hl:rs.length=ts.length)
  (h: ∀(j t:Nat) (r:AV),ts[j]? =some t->rs[j]? =some r-> ∃v,tmps[t]? =some v/\Rel G w ob r v):
  Rel G w ob (A5a rs) (match ts.map (λt=>tmps.getD t undef)with | [x]=>x |vs=> .tuple vs.toArray):=by
 have get: ∀(j t:Nat) (r:AV),ts[j]? =some t->rs[j]? =some r->Rel G w ob r (tmps.getD t undef):=λj t r ht hr=>by obtain⟨v,h1,h2⟩:=h j t r ht hr;simp_all
 match ts,rs,hl with
 | [],[],_=>exact .tup #[] rfl (λj av h=>by simp at h)
 | [t],[r],_=>exact get 0 t r rfl rfl
 |t::u::us,r::s::ss,hl=>
  refine .tup _ (by simp at hl;simp[hl]) λj av hj=> ?_;have hjl:j<(t::u::us).length:=by grind
  have:=get j (t::u::us)[j] av (List.getElem?_eq_getElem hjl) hj
  have e:(((t::u::us).map λt=>tmps.getD t undef).toArray).getD j undef=tmps.getD (t::u::us)[j] undef:=by rw[Array.getD_eq_getD_getElem?,List.getElem?_toArray,List.getElem?_map,List.getElem?_eq_getElem hjl];rfl
  grind
def B55(P:Program)(f:FuncId)(args:List AV)(O:List (Nat×A5))(R:List AV->List (Nat×A5)->Prop):Prop:=
 A3g P f=true/\ ∀(G:Nat->Prop) (w:World) (ob:Place) (vals:List Value),D5 G w ob (ofL O)->A6z G w ob args vals->
  Calls P f vals.toArray w λe w'=> ∃rs O' v G' ob',R rs O'/\e= .returned v/\D5 G' w' ob' (ofL O')/\Rel G' w' ob' (A5a rs) v/\Fr G w ob G' w' ob'/\C9 ob ob'
variable {f:FuncId} {ac:ACode}
theorem E0m {c:Code}{R:List AV->List (Nat×A5)->Prop}
  (hf:P.funcs[f]? =some fn)(hb:fn.body=some c)(hname:(fn.name != "runtime.NumGoroutine")=true)(hc:D9 P fn.ntmps c=some ac.strip)
  (hts:A4m fn.results.toList=some ts)(hnd:ts.Nodup)(hl:args.length<=fn.ntmps)
  (h:Wp P fn.ntmps (O.map (·.1)) ac (D9w (O.map (·.1)) ts R) (A0b args O)):B55 P f args O R:=by
 refine⟨by unfold A3g;rw[hf];simp[hb,hname],λG w ob vals hs hr=> ?_⟩;refine calls_of_wp hf hb ?_;have h1:=h c hc ⟨G,w,ob⟩ _ w ob G (D03 hs hr hl) ⟨Fr.refl G w ob,λid i _ hi=>⟨i,hi, .inl rfl⟩⟩;refine wp_mono h1 ?_;rintro e a' w' ⟨o,σ,ob1,G1,rfl,hq,s,hΓ⟩;have fin:(∃rs O',R rs O'/\A8c (O.map (·.1)) σ ts rs O')->a'.defers= []/\ ∃v,(results fn a'.tmps).run P w'= .ok v w'/\
   ∃rs O' v' G' ob',R rs O'/\Ending.returned v= .returned v'/\D5 G' w' ob' (ofL O')/\Rel G' w' ob' (A5a rs) v'/\Fr G w ob G' w' ob'/\C9 ob ob':=by
  rintro⟨rs,O',hR,md,hml,hrl,ρ,A,hw⟩;obtain⟨ob2,G2,g1,g2,g3⟩:=B3h s hw;obtain⟨v,hv,hv'⟩:=E7n hts a'.tmps w' (P:=P);refine⟨s.defers,v,hv,rs,O',v,G2,ob2,hR,rfl,g1.objs,?_,hΓ.fr.trans g2,?_⟩
  ·rw[hv'];exact D5e hrl λj t r ht hr=>g1.env t r (C0r hml hrl hnd j t r ht hr)
  ·intro id i hi;have hk:id∈O.map (·.1):=by
    cases ho:ofL O id with
    |none=>rw[(hs.dom id).1 ho]at hi;cases hi
    |some o=>obtain⟨o',ho'⟩:=A88 (by rw[ho];rfl);exact List.mem_map_of_mem (f:=(·.1)) ho'
   obtain⟨i',hi',h'⟩:=hΓ.ext id i hk hi
   grind
 cases o with
 |normal=>exact fin hq
 |exit i=>exact hq.elim
 |ret=>exact fin hq
variable {O':List (Nat×A5)}
theorem B55.one(h:B55 P f args O (λrs' O1=>rs'=rs/\O1=O')):A1 P f args O (A5a rs) O':=by
 refine⟨h.1,λG w ob vals hs hr=>(h.2 G w ob vals hs hr).mono ?_⟩
 grind
theorem B55.some {R:List AV->List (Nat×A5)->Prop}
  (h:B55 P f args O R)(hR: ∀rs' O1,R rs' O1->rs'=rs/\O1=O'):A1 P f args O (A5a rs) O':=by
 refine B55.one (rs:=rs) (O':=O') ⟨h.1,λG w ob vals hs hr=>(h.2 G w ob vals hs hr).mono ?_⟩
 grind
end
end Go.Abs
end
noncomputable section
namespace Go.Abs
variable {β:Type}
theorem F4e(f:Nat->Option β)(k:Nat)(v:Option β)(x:Nat):upd f k v x=if x=k then v else f x:=rfl
mutual
def M4:AV->AV->Prop
 | .sc v, .sc v'=>v=v'
 | .sc v, .dsl _ n _=>v= .slice none 0 0/\n=0
 | .dsl z n g, .dsl z' n' g'=>z=z'/\n=n'/\ ∀i,i<n->A08 (g i) (g' i)
 | .dslx z n g, .dslx z' n' g'=>z=z'/\n=n'/\ ∀i,i<n->A08 (g i) (g' i)
 | .dslx z n g, .dsl z' n' g'=>z=z'/\n=n'/\ ∀i,i<n->A08 (g i) (g' i)
 | .agg cs, .agg cs'=>A08 cs cs'
 |a,b=>a=b
def A08:List AV->List AV->Prop
 | [],[]=>True
 |a::as,b::bs=>M4 a b/\A08 as bs
 |_,_=>False
end
mutual
theorem A7m: ∀(a b:AV),M4 a b->K7 a b
 | .sc v,b,h=>by
   cases b <;> simp only[M4,reduceCtorEq]at h
   case sc=>subst h;exact K7.refl _
   case dsl z n g=>obtain⟨rfl,rfl⟩:=h;exact K7.nil
 | .dsl z n g,b,h=>by cases b <;> simp only[M4,reduceCtorEq]at h;obtain⟨rfl,rfl,h⟩:=h;exact K7.dsl λi hi=>A91 _ _ (h i hi)
 | .dslx z n g,b,h=>by
   cases b <;> simp only[M4,reduceCtorEq]at h
   ·obtain⟨rfl,rfl,h⟩:=h;exact(K7.dslx (g':=λi=>_) λi hi=>A91 _ _ (h i hi)).trans K7.dslx_dsl
   ·obtain⟨rfl,rfl,h⟩:=h;exact K7.dslx λi hi=>A91 _ _ (h i hi)
 | .sl ..,b,h=>by cases b <;> simp only[M4,reduceCtorEq]at h;exact K7.of_eq h
 | .ptr ..,b,h=>by cases b <;> simp only[M4,reduceCtorEq]at h;exact K7.of_eq h
 | .mp _,b,h=>by cases b <;> simp only[M4,reduceCtorEq]at h;exact K7.of_eq h
 | .fptr _,b,h=>by cases b <;> simp only[M4,reduceCtorEq]at h;exact K7.of_eq h
 | .agg cs,b,h=>by cases b <;> simp only[M4,reduceCtorEq]at h;exact K7.agg (A91 _ _ h)
 | .tup _,b,h=>by cases b <;> simp only[M4,reduceCtorEq]at h;exact K7.of_eq h
 | .fn ..,b,h=>by cases b <;> simp only[M4,reduceCtorEq]at h;exact K7.of_eq h
 | .own ..,b,h=>by cases b <;> simp only[M4,reduceCtorEq]at h;exact K7.of_eq h
 | .hole,b,h=>by cases b <;> simp only[M4,reduceCtorEq]at h;exact K7.of_eq rfl
theorem A91: ∀(as bs:List AV),A08 as bs->A3z as bs
 | [],[],_=>trivial
 |a::as,b::bs,h=>by simp only[A08]at h;exact⟨A7m a b h.1,A91 as bs h.2⟩
 | [],_::_,h=>by simp[A08]at h
 |_::_,[],h=>by simp[A08]at h
end
mutual
theorem I4: ∀(a:AV),M4 a a
 | .sc v=>by simp only[M4]
 | .dsl z n g=>by simp only[M4,true_and];exact λi _=>L3 (g i)
 | .dslx z n g=>by simp only[M4,true_and];exact λi _=>L3 (g i)
 | .agg cs=>by simp only[M4];exact L3 cs
 | .sl .. =>by simp only[M4]
 | .ptr .. =>by simp only[M4]
 | .mp _=>by simp only[M4]
 | .fptr _=>by simp only[M4]
 | .tup _=>by simp only[M4]
 | .fn .. =>by simp only[M4]
 | .own .. =>by simp only[M4]
 | .hole=>by simp only[M4]
theorem L3: ∀(l:List AV),A08 l l
 | []=>by simp only[A08]
 |a::l=>by simp only[A08];exact⟨I4 a,L3 l⟩
end
def B75:AV->AV->Prop
 | .own z n g, .own z' n' g'=>z=z'/\n=n'/\ ∀i,i<n->A08 (g i) (g' i)
 | .sc v, .own _ n _=>v= .slice none 0 0/\n=0
 | .hole, .hole=>True
 |a,b=>a.pure=true/\M4 a b
def C3f:List AV->List AV->Prop
 | [],[]=>True
 |a::as,b::bs=>B75 a b/\C3f as bs
 |_,_=>False
theorem F43 {a b:AV}(h:B75 a b):A7c a b:=by
 cases a with
 |own z n g=>cases b <;> simp only[B75,AV.pure,Bool.false_eq_true,false_and]at h;obtain⟨rfl,rfl,h⟩:=h;exact A7c.own λi hi=>A91 _ _ (h i hi)
 |hole=>cases b <;> simp only[B75,AV.pure,Bool.false_eq_true,false_and]at h;exact A7c.refl _
 |sc v=>
  cases b <;> simp only[B75]at h
  case own=>obtain⟨rfl,rfl⟩:=h;exact A7c.nil
  all_goals exact A7c.pure h.1 (A7m _ _ h.2)
 |_=>simp only[B75]at h;exact A7c.pure h.1 (A7m _ _ h.2)
theorem E0j: ∀ {as bs:List AV},C3f as bs->B8o as bs
 | [],[],_=>trivial
 |a::as,b::bs,h=>⟨F43 h.1,E0j h.2⟩
 | [],_::_,h=>h.elim
 |_::_,[],h=>h.elim
def A3b(σ:St)(ρ:Nat->Nat)(A:List Nat)(O:List (Nat×A5)):H6->List (Nat×A5)->(List (Nat×A5)->Prop)->Prop
 | [],acc,K=>K acc
 |(t, .share,c)::r,acc,K=>σ.env t=some (true,c.ren ρ)/\(∀i∈c.ids,(ofL O i).isSome/\i∉A)/\A3b σ ρ A O r acc K
 |(t, .thaw,c)::r,acc,K=>match σ.env t with
  |some (b,av)=>b=true/\(match Z8 σ.objs av with
   |some (p,c1,w1)=>p/\M4 c1 c/\A3b σ ρ A O r (acc++w1) K
   |none=>False)
  |none=>False
 |(t, .adopt,c)::r,acc,K=>σ.env t=some (true, .sc (.slice none 0 0))/\(match c with | .sl x 0 0 0=>x∈A/\(ofL O x).isSome |_=>False)/\A3b σ ρ A O r acc K
def A3o(ρ:Nat->Nat):A5->A5->Prop
 | .arr z s, .arr z' s'=>z=z'/\s.n=s'.n/\ ∀i,i<s.n->A08 (s.g i) (s'.g i)
 | .frz z s, .frz z' s'=>z=z'/\s.n=s'.n/\ ∀i,i<s.n->A08 (s.g i) (s'.g i)
 | .map k es, .map k' es'=>A5.map k es=A5.map k' es'
 | .mapS k es, .mapS k' es'=>A5.mapS k es=A5.mapS k' es'
 | .frzb cs, .frzb cs'=>cs=cs'
 | .arrP z s, .arrP z' s'=>z=z'/\s.n=s'.n/\ ∀i,i<s.n->C3f (s.g i) (s'.g i)
 |_,_=>False
def C41(ρ:Nat->Nat)(A:List Nat)(O:List (Nat×A5)):AV->AV->Prop
 | .sc v, .sl x o n t=>v= .slice none 0 0/\o=0/\n=0/\t=0/\x∈A/\(ofL O x).isSome
 | .sc v,c=>M4 (.sc v) c
 | .dsl z n g,c=>M4 (.dsl z n g) c
 | .dslx z n g,c=>M4 (.dslx z n g) c
 |c',c=>c'=c.ren ρ/\ ∀j∈c.ids,(ofL O j).isSome/\j∉A
def F0a(ρ:Nat->Nat)(A:List Nat)(O:List (Nat×A5)):List AV->List AV->Prop
 | [],[]=>True
 |c'::cs',c::cs=>C41 ρ A O c' c/\F0a ρ A O cs' cs
 |_,_=>False
variable {O:List (Nat×A5)} {A:List Nat} {c':AV}
theorem F49 {ρ:Nat->Nat}{c:AV}(h:C41 ρ A O c' c):B8q ρ A O c' c:=by
 cases c' with
 |sc v=>
  cases c <;> simp only[C41]at h
  case sl=>obtain⟨rfl,rfl,rfl,rfl,h1,h2⟩:=h;exact .adopt h1 h2
  all_goals exact .le rfl (A7m _ _ h)
 |dsl z n g=>simp only[C41]at h;exact .le rfl (A7m _ _ h)
 |dslx z n g=>simp only[C41]at h;exact .le rfl (A7m _ _ h)
 |_=>simp only[C41]at h;rw[h.1];exact .share h.2
theorem E8g {ρ:Nat->Nat}{A:List Nat}{O:List (Nat×A5)}: ∀ {cs' cs:List AV},F0a ρ A O cs' cs->C0g ρ A O cs' cs
 | [],[],_=> .nil
 |c'::cs',c::cs,h=> .cons (F49 h.1) (E8g h.2)
 | [],_::_,h=>h.elim
 |_::_,[],h=>h.elim
def B34(m:Nat->Option A5)(ρ:Nat->Nat)(A:List Nat)(O:List (Nat×A5)):List (Nat×A5)->Prop
 | []=>True
 |(i,o)::r=>(if i∈A then(match o with | .arr _ s=>s.n=0 | .arrP _ s=>s.n=0 |_=>False)else(match m (ρ i)with |some o'=>(match o',o with | .box cs', .box cs=>F0a ρ A O cs' cs |o',o=>A3o ρ o' o) |none=>False))/\B34 m ρ A O r
theorem B3e {σ:St}{ρ:Nat->Nat}{A:List Nat}{O:List (Nat×A5)}{Kp Kp':List (Nat×A5)->Prop}(hK: ∀l,Kp l->Kp' l): ∀(T:H6) (acc:List (Nat×A5)),A3b σ ρ A O T acc Kp->B3f σ ρ A O T acc Kp'
 | [],acc,h=>hK acc h
 |(t, .share,c)::r,acc,h=>⟨h.1,h.2.1,B3e hK r acc h.2.2⟩
 |(t, .thaw,c)::r,acc,h=>by
  simp only[A3b]at h;simp only[B3f];split at h
  ·rename_i b av hv;obtain⟨rfl,h⟩:=h;split at h
   ·rename_i p c1 w1 hf;rw[hv];simp only[hf];exact⟨trivial,h.1,A7m _ _ h.2.1,B3e hK r _ h.2.2⟩
   ·exact h.elim
  ·exact h.elim
 |(t, .adopt,c)::r,acc,h=>⟨h.1,h.2.1,B3e hK r acc h.2.2⟩
theorem F3h {ρ:Nat->Nat}{o' o:A5}(h:A3o ρ o' o):D6o ρ A O o' o:=by
 cases o' <;> cases o <;> simp only[A3o]at h
 case arr.arr=>obtain⟨rfl,h1,h2⟩:=h;exact .inr ⟨λcs h=>(by cases h),λcs h=>(by cases h), .inr<|A8b.arr h1 λi hi=>A91 _ _ (h2 i hi)⟩
 case frz.frz=>obtain⟨rfl,h1,h2⟩:=h;exact .inr ⟨λcs h=>(by cases h),λcs h=>(by cases h), .inr<|A8b.frz h1 λi hi=>A91 _ _ (h2 i hi)⟩
 case frzb.frzb=>subst h;exact .inr ⟨λcs h=>(by cases h),λcs h=>(by cases h), .inl rfl⟩
 case arrP.arrP=>obtain⟨rfl,h1,h2⟩:=h;exact .inr ⟨λcs h=>(by cases h),λcs h=>(by cases h), .inr<|A8b.arrP h1 λi hi=>E0j (h2 i hi)⟩
 case map.map=>rw[h];exact .inr ⟨λcs h=>(by cases h),λcs h=>(by cases h), .inl rfl⟩
 case mapS.mapS=>rw[h];exact .inr ⟨λcs h=>(by cases h),λcs h=>(by cases h), .inl rfl⟩
theorem E5a {m:Nat->Option A5}{ρ:Nat->Nat}{A:List Nat}{O:List (Nat×A5)}: ∀ {l:List (Nat×A5)},B34 m ρ A O l->C9w m ρ A O l
 | [],_=>trivial
 |(i,o)::l,h=>by
  refine⟨?_,E5a h.2⟩;have h1:=h.1;by_cases hA:i∈A
  ·rw[if_pos hA]at h1⊢;exact h1
  ·rw[if_neg hA]at h1⊢;cases hm:m (ρ i)with
   |none=>rw[hm]at h1;exact h1.elim
   |some o'=>
    rw[hm]at h1;simp only at h1;split at h1
    ·exact .inl ⟨_,_,rfl,rfl,E8g h1⟩
    ·exact F3h h1
variable {σ:St} {T:H6}
theorem B6 {K:List Nat}(ρs:List (Nat×Nat))(A:List Nat)(h1:(O.map (·.1)).Nodup)(h2:(((O.map (·.1)).filter λi=> !A.contains i).map (A6 ρs)).Nodup)
  (h3: ∀k∈K,k∉A/\A6 ρs k=k/\(ofL O k).isSome)(h4:A3b σ (A6 ρs) A O T [] λwr=>B34 (wrm σ.objs wr) (A6 ρs) A O O):Y5 K σ T O:=
 ⟨A6 ρs,A,h1,h2,h3,B3e (λ_=>E5a) T [] h4⟩
theorem D8c(h:A3b σ id [] [] T [] λ_=>True):Y5 [] σ T []:=⟨id,[],List.nodup_nil,List.nodup_nil,λk hk=>(by cases hk),B3e (λ_ _=>trivial) T [] h⟩
def B5o(σ:St):List Nat->List AV->Prop
 | [],[]=>True
 |t::ts,r::rs=>(match σ.env t with
  |some (b,av)=>b=true/\(match Z8 σ.objs av with
   |some (p,c1,_)=>p/\M4 c1 r
   |none=>False)
  |none=>False)/\B5o σ ts rs
 |_,_=>False
theorem C5k {σ:St}: ∀ {ts:List Nat} {rs:List AV} {acc:List (Nat×A5)},B5o σ ts rs-> ∃md,md.length=ts.length/\rs.length=ts.length/\A3b σ id [] [] (B9x ts md rs) acc λ_=>True
 | [],[],acc,_=>⟨[],rfl,rfl,trivial⟩
 |t::ts,r::rs,acc,h=>by
  obtain⟨h1,h2⟩:=h;split at h1
  ·rename_i b av hv;obtain⟨rfl,h1⟩:=h1;split at h1
   ·rename_i p c1 w1 hf;obtain⟨md,g1,g2,g3⟩:=C5k (acc:=acc++w1) h2;refine⟨.thaw::md,by simp[g1],by simp[g2],?_⟩;simp only[B9x,A3b,hv,hf];exact⟨trivial,h1.1,h1.2,g3⟩
   ·exact h1.elim
  ·exact h1.elim
 | [],_::_,_,h=>h.elim
 |_::_,[],_,h=>h.elim
variable {rs:List AV} {ts:List Nat}
theorem E5i {R:List AV->List (Nat×A5)->Prop}(h:B5o σ ts rs)(hR:R rs []):D9w [] ts R .ret σ:=by obtain⟨md,h1,h2,h3⟩:=C5k (acc:= []) h;exact⟨rs,[],hR,md,h1,h2,D8c h3⟩
theorem F1c {K:List Nat}{R:List AV->List (Nat×A5)->Prop}(h:D9w K ts R .ret σ):D9w K ts R .normal σ:=h
mutual
theorem AV.ren_id: ∀(a:AV),a.ren id=a
 | .sc _=>rfl
 | .dsl .. =>rfl
 | .dslx .. =>rfl
 | .sl .. =>rfl
 | .ptr .. =>rfl
 | .mp _=>rfl
 | .fptr _=>rfl
 | .own .. =>rfl
 | .hole=>rfl
 | .agg cs=>by simp only[AV.ren,N1 cs]
 | .tup cs=>by simp only[AV.ren,N1 cs]
 | .fn f a b=>by simp only[AV.ren,N1 a,N1 b]
theorem N1: ∀(l:List AV),A7y id l=l
 | []=>rfl
 |a::l=>by simp only[A7y,AV.ren_id a,N1 l]
end
section
variable {P:Program} {m:Nat->Option A5} {f:FuncId} {b:Bool} {K:Res->Prop}
def A07(m:Nat->Option A5):List AV->List AV->List (Nat×A5)->(List (Nat×A5)->Prop)->Prop
 | [],[],acc,K=>K acc
 |a::as,c::cs,acc,K=>match Z8 m a with
  |some (p,c1,w)=>p/\M4 c1 c/\A07 m as cs (acc++w) K
  |none=>False
 |_,_,_,_=>False
theorem C4z {Kp:List (Nat×A5)->Prop}: ∀ {avs cargs:List AV} {acc:List (Nat×A5)},A07 m avs cargs acc Kp->
  ∃md cs wr,R4 m id [] md avs cs wr/\A3z cs cargs/\Kp (acc++wr)
 | [],[],acc,h=>⟨[],[],[],rfl,trivial,by simpa[A07]using h⟩
 |a::as,c::cs,acc,h=>by
  simp only[A07]at h;split at h
  ·rename_i p c1 w hf;obtain⟨md,cs',wr,g1,g2,g3⟩:=C4z h.2.2;exact⟨false::md,c1::cs',w++wr,⟨p,w,wr,hf,h.1,rfl,g1⟩,⟨A7m _ _ h.2.1,g2⟩,by simpa using g3⟩
  ·exact h.elim
 | [],_::_,_,h=>by simp[A07]at h
 |_::_,[],_,h=>by simp[A07]at h
variable {O':List (Nat×A5)} {args:List AV}
theorem A1.args_le {args':List AV}{r:AV}(h:A1 P f args' O r O')(hle:A3z args args'):A1 P f args O r O':=
 ⟨h.1,λG w ob vals hs hr=>h.2 G w ob vals hs ⟨by rw[hr.1,hle.get.1],λj av hj=>by obtain⟨a,ha,hl⟩:=hle.get.2 j av hj;exact hl.rel _ _ _ _ (hr.2 j a ha)⟩⟩
variable {avs cs:List AV} {wr:List (Nat×A5)}
theorem B19 {r:AV}{md:List Bool}(hc:A1 P f cs [] r [])(ha:R4 m id [] md avs cs wr)(keep:Bool)(hk:keep=true->r.noDsl=true):
  T7 P m f avs ⟨some r,if keep then []else wr⟩:=by
 have:=T7.mk (P:=P) (m:=m) md cs [] r [] id wr keep hc ha (λi o h=>by simp[ofL,wrm]at h) (λi cs h=>by simp[ofL,wrm]at h) (λi h=>by simp[ofL,wrm]at h)
  (λi h=>by simp[ofL,wrm]at h) List.nodup_nil (λh=>⟨hk h,λi o h=>by simp[ofL,wrm]at h⟩)
 simpa[A3w,AV.ren_id]using this
variable {cargs:List AV}
theorem F0d {r:AV}(hc:A1 P f cargs [] r [])(hn:r.noDsl=true)(ha:A07 m avs cargs [] λ_=>True)(hK:K ⟨some r,[]⟩):C0h P m f avs b K:=by obtain⟨md,cs,wr,h1,h2,_⟩:=C4z ha;exact⟨_,λ_=>B19 (hc.args_le h2) h1 true (λ_=>hn),λh=>absurd rfl h,hK⟩
theorem F0e {r:AV}(hc:A1 P f cargs [] r [])(ha:A07 m avs cargs [] λwr=>(wr≠ []->b=true)/\K ⟨some r,wr⟩):C0h P m f avs b K:=by obtain⟨md,cs,wr,h1,h2,h3,h4⟩:=C4z ha;exact⟨_,λ_=>B19 (hc.args_le h2) h1 false (λh=>by cases h),h3,by simpa using h4⟩
def D1k:List AV->Bool
 | []=>true
 |a::as=>a.flat&&D1k as
mutual
theorem C0s: ∀ {c:AV},c.pure=true-> ∃p,p/\Q7 m c=some (p,c,[])
 | .sc _,_=>⟨True,trivial,rfl⟩
 | .dsl ..,_=>⟨True,trivial,rfl⟩
 | .dslx ..,_=>⟨True,trivial,rfl⟩
 | .fptr _,_=>⟨True,trivial,rfl⟩
 | .fn f a b,h=>by simp only[AV.pure,Bool.and_eq_true]at h;obtain⟨p,hp,h1⟩:=B2e h.1;obtain⟨q,hq,h2⟩:=B2e h.2;exact⟨p/\q,⟨hp,hq⟩,by simp[Q7,h1,h2]⟩
 | .sl ..,h=>by simp[AV.pure]at h
 | .ptr ..,h=>by simp[AV.pure]at h
 | .mp _,h=>by simp[AV.pure]at h
 | .agg _,h=>by simp[AV.pure]at h
 | .tup _,h=>by simp[AV.pure]at h
 | .own ..,h=>by simp[AV.pure]at h
 | .hole,h=>by simp[AV.pure]at h
theorem B2e: ∀ {cs:List AV},A0g cs=true-> ∃p,p/\A0m m cs=some (p,cs,[])
 | [],_=>⟨True,trivial,rfl⟩
 |c::cs,h=>by simp only[A0g,Bool.and_eq_true]at h;obtain⟨q,hq,h1⟩:=C0s h.1;obtain⟨p,hp,hf⟩:=B2e h.2;exact⟨q/\p,⟨hq,hp⟩,by simp[A0m,h1,hf]⟩
end
theorem F3w(h:cs.all AV.pure=true):A0g cs=true:=C5i λj av hj=>List.all_eq_true.1 h av (List.mem_of_getElem? hj)
theorem E4s(h:cs.all AV.pure=true): ∃p,p/\A0m m cs=some (p,cs,[]):=B2e (F3w h)
theorem E19 {a:AV}(h:a.flat=true): ∃p,p/\Z8 m a=some (p,a,[]):=by
 cases a with
 |agg cs=>obtain⟨p,hp,hf⟩:=E4s (m:=m) (by simpa[AV.flat]using h);exact⟨p,hp,by simp[Z8,hf]⟩
 |tup cs=>simp[AV.flat,AV.pure]at h
 |_=>simp only[AV.flat]at h;simp only[Z8];exact C0s h
theorem D3c: ∀ {avs:List AV},D1k avs=true-> ∃md,R4 m id [] md avs avs []
 | [],_=>⟨[],rfl⟩
 |a::as,h=>by simp only[D1k,Bool.and_eq_true]at h;obtain⟨p,hp,hf⟩:=E19 (m:=m) h.1;obtain⟨md,hm⟩:=D3c h.2;exact⟨false::md,p,[],[],hf,hp,rfl,hm⟩
theorem F0c {r:AV}(hc:A1 P f avs [] r [])(hf:D1k avs=true)(hK:K ⟨some r,[]⟩):C0h P m f avs b K:=by obtain⟨md,h1⟩:=D3c (m:=m) hf;exact⟨_,λ_=>B19 hc h1 false (λh=>by cases h),λh=>absurd rfl h,by simpa using hK⟩
end
end Go.Abs
namespace Go.Abs
def F7j(ts:List Nat)(rs:List AV)(o:Out)(σ:St):Prop:=
 match o with
 | .exit _=>False
 | .normal=>B5o σ ts rs
 | .ret=>B5o σ ts rs
variable {rs args:List AV} {ts:List Nat} {ac:ACode} {fn:Func}
theorem F2f {P:Program}{f:FuncId}(hm:P.follows .mixedOrders=true)
  (hf:P.funcs[f]? =some fn)(hb:fn.body=some (fn.body.getD .skip))(hname:(fn.name != "runtime.NumGoroutine")=true)(hc:D9 P fn.ntmps (fn.body.getD .skip)=some ac.strip)
  (hts:A4m fn.results.toList=some ts)(hnd:ts.Nodup)(hl:(args.length.ble fn.ntmps)=true)
  (h:W P fn.ntmps [] ac (F7j ts rs) (A0b args [])):A1 P f args [] (A5a rs) []:=by
 have key:Wp P fn.ntmps [] ac (D9w [] ts λrs' O=>rs'=rs/\O= []) (A0b args []):=(Wp.of_W hm ac h).mono λo σ hq=>by
  cases o with
  |exit i=>exact hq
  |normal=>exact F1c (E5i hq ⟨rfl,rfl⟩)
  |ret=>exact E5i hq ⟨rfl,rfl⟩
 exact B55.one (E0m hf hb hname hc hts hnd (Nat.le_of_ble_eq_true hl) key)
end Go.Abs
end
noncomputable section
namespace Go.Abs
theorem bor(b q:Bool):(if b=true then true else q)=(b||q):=by cases b <;> rfl
theorem G32(b q:Bool):(if b=false then true else q)=(!b||q):=by cases b <;> rfl
theorem G23(b q:Bool):(if b=false then q else false)=(!b&&q):=by cases b <;> rfl
theorem G31(b q:Bool):(if b=true then q else false)=(b&&q):=by cases b <;> rfl
section
variable {α:Type}
def A38(enc:α->List AV)(d:α)(l:List α):Sq:=⟨l.length,λi=>enc (l.getD i d)⟩
def D43(z:Nat)(enc:α->List AV)(d:α)(l:List α):AV:= .dsl z l.length λi=>enc (l.getD i d)
theorem G0a(s:Sq)(k:Nat)(c:List AV):(s.set k c).n=s.n:=rfl
theorem F8n(enc:α->List AV)(d:α)(l:List α):(A38 enc d l).n=l.length:=rfl
theorem F8m(enc:α->List AV)(d:α)(l:List α)(i:Nat):(A38 enc d l).g i=enc (l.getD i d):=rfl
theorem C5a(l:List α)(i j:Nat)(x d:α)(hi:i<l.length):(l.set i x).getD j d=if j=i then x else l.getD j d:=by
 simp only[List.getD,List.getElem?_set];by_cases h:i=j
 ·subst h;simp[hi]
 ·rw[if_neg h,if_neg (λe=>h e.symm)]
variable {l:List α} {i:Nat}
theorem E0q {enc:α->List AV}{d:α}{x:α}(hi:i<l.length):(A38 enc d l).set i (enc x)=A38 enc d (l.set i x):=by simp only[Sq.set,A38,List.length_set,Sq.mk.injEq,true_and];funext j;rw[C5a l i j x d hi];split <;> rfl
theorem D3k(l l':List α)(i:Nat)(d:α):(l++l').getD i d=if i<l.length then l.getD i d else l'.getD (i-l.length) d:=by
 simp only[List.getD];by_cases h:i<l.length
 ·rw[if_pos h,List.getElem?_append_left h]
 ·rw[if_neg h,List.getElem?_append_right (by omega)]
variable {l':List α}
theorem F2t {enc:α->List AV}{d:α}:(A38 enc d l).app (A38 enc d l')=A38 enc d (l++l'):=by simp only[Sq.app,A38,List.length_append,Sq.mk.injEq,true_and];funext j;rw[D3k];by_cases h:j<l.length <;> simp[h]
variable {g:Nat->List AV}
theorem E93 {enc:α->List AV}{d:α}{x:α}(hg:g 0=enc x){ρ:Nat->Nat}{z:Nat}:
  A3o ρ (.arr z ((A38 enc d l).app ⟨1,g⟩)) (.arr z (A38 enc d (l++ [x]))):=by
 refine⟨rfl,by simp[Sq.app,A38],λi hi=> ?_⟩;have:((A38 enc d l).app ⟨1,g⟩).g i=(A38 enc d (l++ [x])).g i:=by
  have hi':i<l.length+1:=hi;simp only[Sq.app,A38];rw[D3k];by_cases h:i<l.length
  ·simp[h]
  ·have h0:i-l.length=0:=by omega
   simp only[h,if_false,h0,hg];rfl
 rw[this];exact L3 _
variable {z:Nat} {s:Sq}
theorem B1t {ρ:Nat->Nat}:A3o ρ (.arr z s) (.arr z s):=⟨rfl,rfl,λ_ _=>L3 _⟩
theorem G2p {enc:α->List AV}{d:α}{c:List AV}(x:α){ρ:Nat->Nat}{z:Nat}(hi:i<l.length)(hc:c=enc x)(hl:l.set i x=l'):
  A3o ρ (.arr z ((A38 enc d l).set i c)) (.arr z (A38 enc d l')):=by
 subst hc;subst hl;rw[E0q hi];exact B1t
theorem F97 {enc:α->List AV}{d:α}{ρ:Nat->Nat}(h:l=l'):A3o ρ (.arr z (A38 enc d l)) (.arr z (A38 enc d l')):=by subst h;exact B1t
theorem F2a(v v':Value):M4 (.sc v) (.sc v')=(v=v'):=by simp only[M4]
theorem F17:A08 [] []=True:=by simp only[A08]
theorem E94(a b:AV)(as bs:List AV):A08 (a::as) (b::bs)=(M4 a b/\A08 as bs):=by simp only[A08]
theorem F19 {enc:α->List AV}{d:α}(h:l= []):M4 (.sc (.slice none 0 0)) (D43 z enc d l):=by subst h;simp[D43,M4]
end
end Go.Abs
end
noncomputable section
namespace Go.Abs
class Cont where
 q:Out->St->Prop
class ContS where
 q:St->Prop
class ContR where
 q:Bool->Res->Prop
def Qi [Q:Cont](o:Out)(σ:St):Prop:=Q.q o σ
def Si [Q:ContS](σ:St):Prop:=Q.q σ
def Ri [Q:ContR](b:Bool)(r:Res):Prop:=Q.q b r
section
variable (P:Program) (N:Nat) (K:List Nat)
def Wi(c:ACode) [Q:Cont](σ:St):Prop:=W P N K c Q.q σ
def Wpi(c:ACode) [Q:Cont](σ:St):Prop:=Wp P N K c Q.q σ
def Wsi(l:List AOper) [Q:ContS](σ:St):Prop:=A5h P l Q.q σ
def Wni(l:List AOper)(seen:List (List Nat×List Nat)) [Q:ContS](σ:St):Prop:=C2t P l seen Q.q σ
def Woi(o:AOper)(σ:St) [Q:ContR]:Prop:=wop P o σ Q.q
def A4z(m:Nat->Option A5)(f:FuncId)(avs:List AV)(b:Bool) [Q:ContR]:Prop:=C0h P m f avs b (Q.q b)
@[reducible] def B8p(_d:Nat)(m:Nat->Option A5)(f:FuncId)(avs:List AV)(b:Bool) [Q:ContR]:Prop:= @A4z P m f avs b Q
def E90(o:AOper)(σ:St)(b:Bool) [Q:ContR]:Prop:=
 match o.op with
 | .pick c x y=>match σ.ev c with
   |some (cc, .sc (.bool q))=>match σ.ev x,σ.ev y with
    |some (c1, .sc (.bool p1)),some (c2, .sc (.bool p2))=>(b=true->cc=true/\(q=true->c1=true)/\(q=false->c2=true))/\Ri b ⟨some (.sc (.bool (if q then p1 else p2))),[]⟩
    |some (c1, .sc (.bool p1)),none=>q=true/\(b=true->cc=true/\c1=true)/\Ri b ⟨some (.sc (.bool p1)),[]⟩
    |none,some (c2, .sc (.bool p2))=>q=false/\(b=true->cc=true/\c2=true)/\Ri b ⟨some (.sc (.bool p2)),[]⟩
    |_,_=>False
   |_=>b=false/\Ri false ⟨none,[]⟩
 | .call f xs=>match target σ (.call f xs)with
   |some (f,avs)=>A61 σ b (AOp.call f xs).ops/\B8p P (o.dst.getD 0) σ.objs f avs b
   |none=>b=false/\Ri false ⟨none,[]⟩
 | .callv x xs=>match target σ (.callv x xs)with
   |some (f,avs)=>A61 σ b (AOp.callv x xs).ops/\B8p P (o.dst.getD 0) σ.objs f avs b
   |none=>b=false/\Ri false ⟨none,[]⟩
 |op=>match eval op σ.e σ.objs (o.dst.getD 0)with
  |some (p,r)=>(match r.wr with
   | []=>A61 σ b op.ops/\(b=true->p)/\Ri b r
   |_::_=>if b=true then A61 σ true op.ops/\p/\Ri true r else Ri false ⟨none,[]⟩)
  |none=>b=false/\Ri false ⟨none,[]⟩
@[reducible] def E26(b:ACode)(Q:Cont):Cont:=⟨Out.then (W P N K b Q.q) Q.q⟩
@[reducible] def C85(id:Nat)(Q:Cont):Cont:=⟨Out.inBlock id Q.q⟩
@[reducible] def F01(Q:Cont):ContS:=⟨Q.q .normal⟩
@[reducible] def G2n(os:List AOper)(Q:ContS)(d:Option Nat)(σ:St):ContR:=⟨λb r=>A5h P os Q.q (σ.put d b r)⟩
@[reducible] def G01(o:AOper)(os:List AOper)(seen:List (List Nat×List Nat))(Q:ContS)(σ:St):ContR:=⟨λb r=>A41 o.op r/\A3u seen (A1g σ o) (Q8 r) o.chk/\C2t P os (seen++ [(A1g σ o,Q8 r)]) Q.q (σ.put o.dst b r)⟩
@[reducible] def D9v(ts:List Nat)(rs:List AV):Cont:=⟨F7j ts rs⟩
@[reducible] def E2z {ι:Type}(T:ι->H6)(O:ι->List (Nat×A5))(μ:ι->Nat)(i:ι)(Q:Cont):Cont:=⟨Out.then (λτ=> ∃i',μ i'<μ i/\Y5 K τ (T i') (O i')) Q.q⟩
variable {P N K}
variable {σ:St} {Q:Cont}
theorem F74: @Wi P N K .skip Q σ= @Qi Q .normal σ:=Eq.trans rfl rfl
theorem G0y {a b:ACode}: @Wi P N K (.seq a b) Q σ= @Wi P N K a (E26 P N K b Q) σ:=Eq.trans rfl rfl
theorem F73 {l:List AOper}: @Wi P N K (.region false l) Q σ= @Wsi P l (F01 Q) σ:=rfl
theorem F7y {l:List AOper}: @Wi P N K (.region true l) Q σ= @Wni P l [] (F01 Q) σ:=rfl
theorem F7z {c:AX}{a b:ACode}: @Wi P N K (.cond c a b) Q σ=(match σ.ev c with
  |some (true, .sc (.bool t))=>if t=true then @Wi P N K a Q σ else @Wi P N K b Q σ
  |_=>False):=Eq.trans rfl rfl
theorem F4u {a:ACode}: @Wi P N K (.scope a) Q σ= @Wi P N K a Q σ:=Eq.trans rfl rfl
variable {i:Nat}
theorem F4t {a:ACode}: @Wi P N K (.block i a) Q σ= @Wi P N K a (C85 i Q) σ:=Eq.trans rfl rfl
theorem F71 {a:ACode}: @Wi P N K (.loop a) Q σ= @Wpi P N K (.loop a) Q σ:=rfl
theorem F72 {a:ACode}: @Wi P N K (.mark a) Q σ= @Wpi P N K a Q σ:=rfl
theorem F70: @Wi P N K (.exit i) Q σ= @Qi Q (.exit i) σ:=Eq.trans rfl rfl
theorem G0x: @Wi P N K .ret Q σ= @Qi Q .ret σ:=Eq.trans rfl rfl
theorem D82 {b:ACode}: @Qi (E26 P N K b Q) .normal σ= @Wi P N K b Q σ:=Eq.trans rfl rfl
theorem E3v {b:ACode}: @Qi (E26 P N K b Q) (.exit i) σ= @Qi Q (.exit i) σ:=Eq.trans rfl rfl
theorem E6z {b:ACode}: @Qi (E26 P N K b Q) .ret σ= @Qi Q .ret σ:=Eq.trans rfl rfl
theorem D6p {id:Nat}: @Qi (C85 id Q) .normal σ= @Qi Q .normal σ:=Eq.trans rfl rfl
theorem E13 {id:Nat}: @Qi (C85 id Q) (.exit i) σ=if i=id then @Qi Q .normal σ else @Qi Q (.exit i) σ:=Eq.trans rfl rfl
theorem E3q {id:Nat}: @Qi (C85 id Q) .ret σ= @Qi Q .ret σ:=Eq.trans rfl rfl
variable {j:Nat} {ι:Type}
theorem E3t {T:ι->H6}{O:ι->List (Nat×A5)}{μ:ι->Nat}{i:ι}: @Qi (E2z K T O μ i Q) (.exit j) σ= @Qi Q (.exit j) σ:=rfl
theorem E6y {T:ι->H6}{O:ι->List (Nat×A5)}{μ:ι->Nat}{i:ι}: @Qi (E2z K T O μ i Q) .ret σ= @Qi Q .ret σ:=rfl
variable {rs:List AV} {ts:List Nat}
theorem G0s: @Qi (D9v ts rs) .ret σ=B5o σ ts rs:=rfl
theorem G0q: @Qi (D9v ts rs) .normal σ=B5o σ ts rs:=rfl
theorem F7x: @Si (F01 Q) σ= @Qi Q .normal σ:=rfl
theorem F77 {Q:ContS}: @Wsi P [] Q σ= @Si Q σ:=rfl
variable {o:AOper} {os:List AOper}
theorem F40 {Q:ContS}: @Wsi P (o::os) Q σ= @Woi P o σ (G2n P os Q o.dst σ):=rfl
variable {seen:List (List Nat×List Nat)}
theorem F75 {Q:ContS}: @Wni P [] seen Q σ= @Si Q σ:=rfl
theorem F4x {Q:ContS}: @Wni P (o::os) seen Q σ= @Woi P o σ (G01 P o os seen Q σ):=rfl
variable {r:Res} {b:Bool}
theorem G0v {Q:ContS}{d:Option Nat}: @Ri (G2n P os Q d σ) b r= @Wsi P os Q (σ.put d b r):=rfl
theorem G0u {Q:ContS}:
  @Ri (G01 P o os seen Q σ) b r=(A41 o.op r/\A3u seen (A1g σ o) (Q8 r) o.chk/\ @Wni P os (seen++ [(A1g σ o,Q8 r)]) Q (σ.put o.dst b r)):=rfl
theorem F76 {Q:ContR}: @Woi P o σ Q=(match A25 σ o.guard with
  |some b=> @E90 P o σ b Q
  |none=>False):=by
 unfold Woi wop;cases A25 σ o.guard with
 |none=>rfl
 |some b=>simp only;unfold E0f E90;cases o.op <;> rfl
variable {f:FuncId} {avs:List AV} {m:Nat->Option A5} {cargs:List AV}
theorem A5i {Q:ContR}{r:AV}(hc:A1 P f cargs [] r [])(hn:r.noDsl=true)(ha:A07 m avs cargs [] λ_=>True)
  (hK: @Ri Q b ⟨some r,[]⟩): @A4z P m f avs b Q:=F0d hc hn ha hK
theorem A5j {Q:ContR}{r:AV}(hc:A1 P f cargs [] r [])(ha:A07 m avs cargs [] λwr=>(wr≠ []->b=true)/\ @Ri Q b ⟨some r,wr⟩):
  @A4z P m f avs b Q:=F0e hc ha
theorem A0 {Q:ContR}{r:AV}(hc:A1 P f avs [] r [])(hf:D1k avs=true)(hK: @Ri Q b ⟨some r,[]⟩): @A4z P m f avs b Q:=F0c hc hf hK
theorem B0 {x:ACode}(hm:P.follows .mixedOrders=true)(T:ι->H6)(O:ι->List (Nat×A5))(μ:ι->Nat)(i0:ι)(h0:Y5 K σ (T i0) (O i0))
  (h: ∀i,@Wi P N K x (E2z K T O μ i Q) (A14 (T i) (O i))): @Wpi P N K (.loop x) Q σ:=Wp.loop T O μ i0 h0 λi=>Wp.of_W hm x (h i)
theorem E0 {x:ACode}(hm:P.follows .mixedOrders=true)(h: @Wi P N K x Q σ): @Wpi P N K x Q σ:=Wp.of_W hm x h
variable {args:List AV} {ac:ACode} {fn:Func}
theorem C86(hm:P.follows .mixedOrders=true)
  (hf:P.funcs[f]? =some fn)(hb:fn.body=some (fn.body.getD .skip))(hname:(fn.name != "runtime.NumGoroutine")=true)(hc:D9 P fn.ntmps (fn.body.getD .skip)=some ac.strip)
  (hts:A4m fn.results.toList=some ts)(hnd:ts.Nodup)(hl:(args.length.ble fn.ntmps)=true)
  (h: @Wi P fn.ntmps [] ac (D9v ts rs) (A0b args [])):A1 P f args [] (A5a rs) []:=F2f hm hf hb hname hc hts hnd hl h
end
end Go.Abs
namespace Go.Abs
variable {σ:St} {Q:Cont} {ι:Type}
theorem A7 {K:List Nat}{T:ι->H6}{O:ι->List (Nat×A5)}{μ:ι->Nat}{i:ι}(i':ι)(hμ:μ i'<μ i)(h:Y5 K σ (T i') (O i')):
  @Qi (E2z K T O μ i Q) .normal σ:=⟨i',hμ,h⟩
end Go.Abs
end
noncomputable section
namespace Go.Abs
def B8y(W:World)(avs:List AV)(cs:List Value):Prop:=cs.length=avs.length/\ ∀(j:Nat) (av:AV),avs[j]? =some av->av.pure=true/\Rel (λb=>b<W.heap.size) W (λ_=>none) av (cs.getD j undef)
def A15 {α:Type}(P:Program)(W:World)(t:TypeId)(enc:α->List AV)(Ok:α->Prop):Prop:=
 ∀(H:Type) (e:TypeId×Value->H) (base:Nat) (spare:Nat->Bool) (held:Bool) (n:Nat) (cs:List Value) (x:DataW H×List MemPlace),
  DataW.trod e P W base spare held n t cs=some x-> ∃a,Ok a/\B8y W (enc a) cs
section
variable {P:Program} {W:World}
variable {t:TypeId}
theorem F3t {k:IntKind}(ht:P.underlying t=some (.int k)):A15 P W t (λn:Int=> [.sc (.int k n)]) (λn=>(Lit.int k n).wf=true):=by
 intro H e base spare held n cs x h;obtain⟨z,rfl,_,hw⟩:=DataW.trod_int ht h;refine⟨z,hw,rfl,λj av hj=> ?_⟩;cases j with
 |zero=>simp only[List.getElem?_cons_zero,Option.some.injEq]at hj;subst hj;exact⟨rfl, .sc rfl⟩
 |succ j=>simp at hj
theorem A6t(ht:P.underlying t=some .bool):A15 P W t (λb:Bool=> [.sc (.bool b)]) (λ_=>True):=by
 intro H e base spare held n cs x h;obtain⟨z,rfl,_⟩:=DataW.trod_bool ht h;refine⟨z,trivial,rfl,λj av hj=> ?_⟩;cases j with
 |zero=>simp only[List.getElem?_cons_zero,Option.some.injEq]at hj;subst hj;exact⟨rfl, .sc rfl⟩
 |succ j=>simp at hj
variable {α β:Type} {Ok:α->Prop} {enc':β->List AV} {Ok':β->Prop}
theorem A15.map {enc:α->List AV}(h:A15 P W t enc Ok)(g:α->β)(he: ∀a,enc' (g a)=enc a)(hk: ∀a,Ok a->Ok' (g a)):A15 P W t enc' Ok':=by intro H e base spare held n cs x hx;obtain⟨a,h1,h2⟩:=h H e base spare held n cs x hx;exact⟨g a,hk a h1,by rw[he];exact h2⟩
theorem B8y.append {xs ys:List AV}{cs ds:List Value}(h1:B8y W xs cs)(h2:B8y W ys ds):B8y W (xs++ys) (cs++ds):=by
 refine⟨by simp[h1.1,h2.1],λj av hj=> ?_⟩;by_cases hjl:j<xs.length
 ·rw[List.getElem?_append_left hjl]at hj;have:=h1.2 j av hj;simpa[List.getD,List.getElem?_append_left (show j<cs.length by rw[h1.1];exact hjl)]using this
 ·rw[List.getElem?_append_right (by omega)]at hj;have:=h2.2 _ av hj;simpa[List.getD,List.getElem?_append_right (show cs.length<=j by rw[h1.1];omega),h1.1]using this
def B8x {α:Type}(P:Program)(W:World)(fs:List Field)(off size:Nat)(enc:α->List AV)(Ok:α->Prop):Prop:=
 ∀(H:Type) (e:TypeId×Value->H) (base:Nat) (spare:Nat->Bool) (held:Bool) (n:Nat) (cs:List Value),cs.length=size->
  (∀f∈fs,∃x,DataW.trod e P W base spare held n f.type ((cs.drop f.offset).take (P.cellsOf f.type))=some x)-> ∃a,Ok a/\B8y W (enc a) (cs.drop off)
variable {size:Nat}
theorem A19:B8x P W [] size size (λ_:Unit=> []) (λ_=>True):=by intro H e base spare held n cs hl _;exact⟨(),trivial,by rw[List.drop_of_length_le (by omega)];rfl,λj av hj=>by simp at hj⟩
variable {off:Nat}
theorem E7i {f:Field}{fs:List Field}{enc:α->List AV}
  (h1:A15 P W f.type enc Ok)(ho:f.offset=off)(h2:B8x P W fs (off+P.cellsOf f.type) size enc' Ok'):
  B8x P W (f::fs) off size (λp:α×β=>enc p.1++enc' p.2) (λp=>Ok p.1/\Ok' p.2):=by
 intro H e base spare held n cs hl hf;obtain⟨x,hx⟩:=hf f (List.mem_cons_self ..);obtain⟨a,ha,hr⟩:=h1 H e base spare held n _ x hx;obtain⟨b,hb,hr'⟩:=h2 H e base spare held n cs hl (λg hg=>hf g (List.mem_cons_of_mem _ hg));refine⟨(a,b),⟨ha,hb⟩,?_⟩;have:cs.drop off=(cs.drop off).take (P.cellsOf f.type)++cs.drop (off+P.cellsOf f.type):=by rw[<-List.drop_drop,List.take_append_drop]
 rw[this];rw[ho]at hr;exact hr.append hr'
theorem E5c {fs:Array Field}{enc:α->List AV}(ht:P.underlying t=some (.struct fs))(h:B8x P W fs.toList 0 (P.cellsOf t) enc Ok):A15 P W t enc Ok:=by
 intro H e base spare held n cs x hx;obtain⟨xs,m,_,_,hl,hlen,hf⟩:=DataW.trod_struct ht hx;have:=h H e base spare held m cs hl λf hfm=>by
  obtain⟨i,hi⟩:=List.getElem?_of_mem hfm;have hi':fs[i]? =some f:=by simpa using hi
  rw[hf i f hi'];have hlt:i<xs.length:=by rw[hlen];exact(Array.getElem?_eq_some_iff.1 hi').1
  exact⟨xs[i],List.getElem?_eq_getElem hlt⟩
 simpa using this
variable {z:Nat} {el:TypeId}
theorem A67 {enc:α->List AV}{d:α}(ht:P.underlying t=some (.slice el))(hz:P.cellsOf el=z)(hz0:0<z)
  (h:A15 P W el enc Ok):A15 P W t (λl:List α=> [D43 z enc d l]) (λl=>(∀a∈l,Ok a)/\l.length<=maxLen):=by
 intro H e base spare held n cs x hx;have mk: ∀(l:List α) (v:Value),((∀a∈l,Ok a)/\l.length<=maxLen)->Rel (λb=>b<W.heap.size) W (λ_=>none) (D43 z enc d l) v->
   ∃a:List α,((∀b∈a,Ok b)/\a.length<=maxLen)/\B8y W [D43 z enc d a] [v]:=λl v hl hr=>by
  refine⟨l,hl,rfl,λj av hj=> ?_⟩;cases j with
  |zero=>simp only[List.getElem?_cons_zero,Option.some.injEq]at hj;subst hj;exact⟨rfl,hr⟩
  |succ j=>simp at hj
 rcases DataW.trod_slice ht hx with⟨rfl,_⟩ |⟨a,len,cap,elems,rest,m,_,rfl,_,hb,hlc,hcm,hel,hf,_,_⟩
 ·exact mk [] _ ⟨λa ha=>by simp at ha,by simp⟩ .dslNil
 ·by_cases hl0:len=0
  ·subst hl0;exact mk [] _ ⟨λa ha=>by simp at ha,by simp⟩ (.dslE a cap)
  ·
   have each: ∀i,i<len-> ∃(b:α) (ds:List Value),Ok b/\B8y W (enc b) ds/\W.cells? base (a.add (i*z)) z=some ds:=λi hi=>by
    have h1:=hf i hi;rw[hz]at h1;have hlt:i<elems.length:=by omega
    rw[List.getElem?_eq_getElem hlt]at h1;cases hc:W.cells? base (a.add (i*z)) z with
    |none=>rw[hc]at h1;cases h1
    |some ds=>rw[hc]at h1;obtain⟨b,hb1,hb2⟩:=h H e base spare held m ds _ h1;exact⟨b,ds,hb1,hb2,rfl⟩
   have hpick: ∀i,∃b:α,i<len-> ∃ds:List Value,Ok b/\B8y W (enc b) ds/\W.cells? base (a.add (i*z)) z=some ds:=λi=>by
    by_cases hi:i<len
    ·obtain⟨b,ds,h1,h2,h3⟩:=each i hi;exact⟨b,λ_=>⟨ds,h1,h2,h3⟩⟩
    ·exact⟨d,λh=>absurd h hi⟩
   obtain⟨f,hfs⟩:=Classical.axiomOfChoice hpick;obtain⟨l,hl⟩: ∃l:List α,l=(List.range len).map f:=⟨_,rfl⟩;have hll:l.length=len:=by rw[hl];simp
   have hget: ∀i,i<len->l.getD i d=f i:=λi hi=>by rw[hl];simp[List.getD,hi]
   obtain⟨ds0,_,_,hc0⟩:=hfs 0 (by omega);have hspot:a.spot=none:=by obtain⟨_,hdl,hcell⟩:=World.cells?_some hc0;have h1:=hcell 0 hz0;rw[List.getElem?_eq_getElem (by omega)]at h1;have:=World.cell?_spot h1;simpa[Addr.add]using this
   have hblk:a.block<W.heap.size:=by have:=World.cells?_block hc0 hz0;simpa[Addr.add]using this
   obtain⟨b,off,spot⟩:=a;simp only at hspot hblk;subst hspot;have cell: ∀i j,i<len->j<z-> ∃ds:List Value,B8y W (enc (f i)) ds/\W.cell? ⟨b,off+(i*z+j),none⟩=some (ds.getD j undef)/\ds.length=z:=λi j hi hj=>by obtain⟨ds,_,h2,h3⟩:=hfs i hi;obtain⟨_,hdl,hcell⟩:=World.cells?_some h3;refine⟨ds,h2,?_,hdl⟩;have h1:=hcell j hj;rw[List.getElem?_eq_getElem (by omega)]at h1;rw[A1r,A1r,Nat.add_assoc]at h1;rw[h1,List.getD,List.getElem?_eq_getElem (by omega)];rfl
   have elen: ∀i,i<len->(enc (f i)).length=z:=λi hi=>by obtain⟨ds,h1,_,h3⟩:=cell i 0 hi hz0;rw[<-h1.1,h3]
   refine mk l _ ⟨λx hx=> ?_,by rw[hll];omega⟩ ?_
   ·rw[hl,List.mem_map]at hx;obtain⟨i,hi,rfl⟩:=hx;obtain⟨_,h1,_⟩:=hfs i (by simpa using hi);exact h1
   ·unfold D43;rw[hll];refine .dsl b off cap (λi j=>(W.cell? ⟨b,off+(i*z+j),none⟩).getD undef) hblk hlc (λi hi=> ?_) (λi j av hi hj=> ?_) (λi j hi hj=> ?_) (λi j av hi hj=> ?_)
    ·rw[hget i hi];exact elen i hi
    ·rw[hget i hi]at hj;have hjz:j<z:=by
      rw[<-elen i hi];rcases Nat.lt_or_ge j (enc (f i)).length with h |h
      ·exact h
      ·rw[List.getElem?_eq_none h]at hj;cases hj
     obtain⟨ds,h1,_,_⟩:=cell i j hi hjz;exact(h1.2 j av hj).1
    ·obtain⟨ds,_,h2,_⟩:=cell i j hi hj;rw[h2];rfl
    ·rw[hget i hi]at hj;have hjz:j<z:=by
      rw[<-elen i hi];rcases Nat.lt_or_ge j (enc (f i)).length with h |h
      ·exact h
      ·rw[List.getElem?_eq_none h]at hj;cases hj
     obtain⟨ds,h1,h2,_⟩:=cell i j hi hjz;simp only[h2,Option.getD_some];exact(h1.2 j av hj).2
end
section
variable {P:Program}
@[reducible] def C5l(K:List Nat)(ts:List Nat)(rs:List AV)(O':List (Nat×A5)):Cont:=⟨λo σ=>match o with | .exit _=>False | .normal=>A8c K σ ts rs O' | .ret=>A8c K σ ts rs O'⟩
variable {σ:St} {rs:List AV} {K:List Nat} {O':List (Nat×A5)} {ts:List Nat}
theorem F7r: @Qi (C5l K ts rs O') .ret σ=A8c K σ ts rs O':=rfl
theorem F7p: @Qi (C5l K ts rs O') .normal σ=A8c K σ ts rs O':=rfl
variable {O:List (Nat×A5)}
theorem C8(md:List C1w)(ρs:List (Nat×Nat))(A:List Nat)(hm:md.length=ts.length)(hr:rs.length=ts.length)
  (h1:(O.map (·.1)).Nodup)(h2:(((O.map (·.1)).filter λi=> !A.contains i).map (A6 ρs)).Nodup)
  (h3: ∀k∈K,k∉A/\A6 ρs k=k/\(ofL O k).isSome)(h4:A3b σ (A6 ρs) A O (B9x ts md rs) [] λwr=>B34 (wrm σ.objs wr) (A6 ρs) A O O):A8c K σ ts rs O:=
 ⟨md,hm,hr,B6 ρs A h1 h2 h3 h4⟩
variable {f:FuncId} {args:List AV} {ac:ACode} {fn:Func}
theorem B76(hm:P.follows .mixedOrders=true)
  (hf:P.funcs[f]? =some fn)(hb:fn.body=some (fn.body.getD .skip))(hname:(fn.name != "runtime.NumGoroutine")=true)(hc:D9 P fn.ntmps (fn.body.getD .skip)=some ac.strip)
  (hts:A4m fn.results.toList=some ts)(hnd:ts.Nodup)(hl:(args.length.ble fn.ntmps)=true)
  (h: @Wi P fn.ntmps (O.map (·.1)) ac (C5l (O.map (·.1)) ts rs O') (A0b args O)):A1 P f args O (A5a rs) O':=by
 have key:Wp P fn.ntmps (O.map (·.1)) ac (D9w (O.map (·.1)) ts λrs' O1=>rs'=rs/\O1=O') (A0b args O):=(Wp.of_W hm ac h).mono λo σ hq=>by
  cases o with
  |exit i=>exact hq
  |normal=>exact⟨rs,O',⟨rfl,rfl⟩,hq⟩
  |ret=>exact⟨rs,O',⟨rfl,rfl⟩,hq⟩
 exact B55.one (E0m hf hb hname hc hts hnd (Nat.le_of_ble_eq_true hl) key)
def A6b(m:Nat->Option A5)(ρ:Nat->Nat)(O:List (Nat×A5)):List Bool->List AV->List AV->List (Nat×A5)->(List (Nat×A5)->Prop)->Prop
 | [],[],[],acc,K=>K acc
 |true::md,a::as,c::cs,acc,K=>a=c.ren ρ/\(∀i∈c.ids,(ofL O i).isSome)/\A6b m ρ O md as cs acc K
 |false::md,a::as,c::cs,acc,K=>match Z8 m a with
  |some (p,c1,w)=>p/\M4 c1 c/\A6b m ρ O md as cs (acc++w) K
  |none=>False
 |_,_,_,_,_=>False
theorem C0l {m:Nat->Option A5}{ρ:Nat->Nat}{O:List (Nat×A5)}{Kp:List (Nat×A5)->Prop}: ∀ {md:List Bool} {avs cargs:List AV} {acc:List (Nat×A5)},A6b m ρ O md avs cargs acc Kp->
  ∃cs wr,R4 m ρ O md avs cs wr/\A3z cs cargs/\Kp (acc++wr)
 | [],[],[],acc,h=>⟨[],[],rfl,trivial,by simpa[A6b]using h⟩
 |true::md,a::as,c::cs,acc,h=>by obtain⟨h1,h2,h3⟩:=h;obtain⟨cs',wr,g1,g2,g3⟩:=C0l h3;exact⟨c::cs',wr,⟨h1.symm,h2,g1⟩,⟨K7.refl c,g2⟩,g3⟩
 |false::md,a::as,c::cs,acc,h=>by
  simp only[A6b]at h;split at h
  ·rename_i p c1 w hf;obtain⟨cs',wr,g1,g2,g3⟩:=C0l h.2.2;exact⟨c1::cs',w++wr,⟨p,w,wr,hf,h.1,rfl,g1⟩,⟨A7m _ _ h.2.1,g2⟩,by simpa using g3⟩
  ·exact h.elim
 | [],[],_::_,_,h=>by simp[A6b]at h
 | [],_::_,_,_,h=>by simp[A6b]at h
 |true::_,[],_,_,h=>by simp[A6b]at h
 |false::_,[],_,_,h=>by simp[A6b]at h
 |true::_,_::_,[],_,h=>by simp[A6b]at h
 |false::_,_::_,[],_,h=>by simp[A6b]at h
def C3n(m:Nat->Option A5)(ρ:Nat->Nat)(O:List (Nat×A5)):List (Nat×A5)->Prop
 | []=>True
 |(i,o)::r=>m (ρ i)=some (o.ren ρ)/\(match o with | .box cs=> ∀j∈F4 cs,(ofL O j).isSome |_=>True)/\C3n m ρ O r
theorem A87 {m:Nat->Option A5}{ρ:Nat->Nat}{O:List (Nat×A5)}: ∀ {l:List (Nat×A5)},C3n m ρ O l-> ∀i o,(i,o)∈l->m (ρ i)=some (o.ren ρ)/\ ∀cs,o= .box cs-> ∀j∈F4 cs,(ofL O j).isSome
 | [],_,i,o,hp=>by cases hp
 |(i,o)::l,h,i',o',hp=>by
  rcases List.mem_cons.1 hp with e |hp
  ·obtain⟨rfl,rfl⟩:=Prod.mk.inj e;refine⟨h.1,λcs hcs=> ?_⟩;have:=h.2.1;subst hcs;exact this
  ·exact A87 h.2.2 i' o' hp
def C9u(m:Nat->Option A5)(ρ:Nat->Nat)(O:List (Nat×A5)):List (Nat×A5)->Prop
 | []=>True
 |(i,_)::r=>(if(ofL O i).isSome then True else m (ρ i)=none)/\C9u m ρ O r
theorem B9e {m:Nat->Option A5}{ρ:Nat->Nat}{O:List (Nat×A5)}: ∀ {l:List (Nat×A5)},C9u m ρ O l-> ∀i o,(i,o)∈l->(ofL O i).isSome\/m (ρ i)=none
 | [],_,i,o,hp=>by cases hp
 |(i,o)::l,h,i',o',hp=>by
  rcases List.mem_cons.1 hp with e |hp
  ·obtain⟨rfl,rfl⟩:=Prod.mk.inj e;have:=h.1;by_cases hs:(ofL O i').isSome
   ·exact .inl hs
   ·rw[if_neg hs]at this;exact .inr this
  ·exact B9e h.2 i' o' hp
variable {b:Bool} {avs:List AV} {m:Nat->Option A5} {cargs:List AV}
theorem E3 {Q:ContR}{r:AV}(md:List Bool)(ρs:List (Nat×Nat))(hc:A1 P f cargs O r O')
  (hnO:(O.map (·.1)).Nodup)(hnO':(O'.map (·.1)).Nodup)(hnd:(O'.map λp=>A6 ρs p.1).Nodup)(hOO: ∀i∈O.map (·.1),(ofL O' i).isSome)
  (ha:A6b m (A6 ρs) O md avs cargs [] λwr=>C3n (wrm m wr) (A6 ρs) O O/\C9u m (A6 ρs) O O'/\b=true/\ @Ri Q b ⟨some (r.ren (A6 ρs)),wr++A3w (A6 ρs) O'⟩):
  @A4z P m f avs b Q:=by
 obtain⟨cs,wr,h1,h2,h3,h4,h5,h6⟩:=C0l ha;rw[List.nil_append]at h3 h6;refine⟨_,λ_=>T7.mk md cs O r O' (A6 ρs) wr false (hc.args_le h2) h1 (λi o hi=>(A87 h3 i o (A1i hnO hi)).1)
  (λi cs hi=>(A87 h3 i _ (A1i hnO hi)).2 cs rfl) (λi hi=> ?_) (λi hi=> ?_) hnd (λh=>by cases h),λ_=>h5,h6⟩
 ·obtain⟨o,ho⟩:=A88 hi;exact hOO i (List.mem_map_of_mem (f:=(·.1)) ho)
 ·obtain⟨o,ho⟩:=A88 hi;exact B9e h4 i o ho
variable {z:Nat} {g:Nat->List AV}
theorem A1.nil_split {r:AV}(pre post:List AV)(h0:A1 P f (pre++ .sc (.slice none 0 0)::post) [] r O')(h1: ∀a c,A1 P f (pre++ .sc (.slice (some a) 0 c)::post) [] r O'):
  A1 P f (pre++ .dsl z 0 g::post) [] r O':=by
 refine⟨h0.1,λG w ob vals hs hr=> ?_⟩;have hrel:=hr.2 pre.length (.dsl z 0 g) (by simp)
 have key: ∀v,vals.getD pre.length undef=v->v.oneCell'=true->A6z G w ob (pre++ .sc v::post) vals:=by
  intro v hv ho;refine⟨by rw[hr.1];simp,λj av hj=> ?_⟩;rcases Nat.lt_trichotomy j pre.length with h |h |h
  ·refine hr.2 j av ?_;rw[List.getElem?_append_left h]at hj⊢;exact hj
  ·subst h;rw[List.getElem?_append_right (Nat.le_refl _),Nat.sub_self,List.getElem?_cons_zero,Option.some.injEq]at hj;subst hj;rw[hv];exact .sc ho
  ·refine hr.2 j av ?_;obtain⟨k,rfl⟩: ∃k,j=pre.length+(k+1):=⟨j-pre.length-1,by omega⟩;rw[List.getElem?_append_right (by omega),Nat.add_sub_cancel_left,List.getElem?_cons_succ]at hj⊢;exact hj
 generalize hv:vals.getD pre.length undef=v at hrel;cases hrel with
 |dslNil=>exact h0.2 G w ob vals hs (key _ hv rfl)
 |dslE a cap=>exact(h1 a cap).2 G w ob vals hs (key _ hv rfl)
 |dsl b off cap c=>exact(h1 ⟨b,off,none⟩ cap).2 G w ob vals hs (key _ hv rfl)
end
attribute [go_sem] Bool.true_and AV.one B27 Option.isSome_none Bool.and_false Bool.or_false Bool.or_true Bool.and_true V8 nid G0a F8n F8m A3b B34 A3u A6 List.not_mem_nil false_implies implies_true List.mem_singleton List.mem_cons forall_eq Option.isSome_some or_false or_true Option.getD_some Option.getD_none Nat.zero_add List.drop_one List.tail_cons F74 G0y F73 F7y F7z F4t F4u F71 F72 F70 G0x D82 E3v E6z D6p E13 E3q E3t E6y G0s G0q F7x F77 F40 F75 F4x G0v G0u F76 E90 A25 eval target St.es A0b A14 B5e A1u St.e St.ev St.c St.put AOp.ops A61 F4e C0m E57 B00 C6e wrm List.foldl_nil List.foldl_cons List.map_nil List.map_cons Option.map_some Option.map_none and_self true_and and_true ne_eq not_true_eq_false true_implies not_false_eq_true if_true if_false eq_self Bool.true_eq_false Bool.false_eq_true A7f S5 AV.cells List.length_cons List.length_nil List.drop_zero List.drop_succ_cons List.append_nil List.nil_append List.cons_append Bool.not_true Bool.not_false and_false false_and List.getElem?_cons_zero List.getElem?_cons_succ B5o Z8 Q7 F2a F17 E94 AV.pure AV.flat imp_self ofL A5a AV.ren List.all_cons List.all_nil Bool.and_self List.take_succ_cons List.take_zero A0m cellsOf F4 AV.ids D1k List.reverse_nil gt_iff_lt ge_iff_le decide_eq_true_eq Int.toNat_natCast D43 bor G31 G32 G23 Bool.not_eq_true' Bool.not_eq_false' Bool.not_not Y7 esL A6p A6b C3n C9u A3w A5.ren A7y F7r F7p C41 F0a B9x List.map_append Option.isNone_none Option.isNone_some List.nodup_cons List.nodup_nil Prod.mk.injEq Option.some.injEq AV.sc.injEq Value.int.injEq Value.bool.injEq AV.sl.injEq AV.ptr.injEq AV.agg.injEq List.cons.injEq
end Go.Abs
end
noncomputable section
namespace Go.Abs
def A51(P:Program):List ResultVar->Option (List (Nat×Option (Option Nat)))
 | []=>some []
 | .tmp t::r=>match A51 P r with
   |some l=>some ((t,none)::l)
   |none=>none
 | .cell a t::r=>match B82 P t,A51 P r with
   |some n,some l=>some ((a,some n)::l)
   |_,_=>none
def A50:St->Nat->List (Nat×Option (Option Nat))->(St->Prop)->Prop
 |σ,_,[],K=>K σ
 |σ,M,(t,none)::r,K=>A50 ⟨upd σ.env M (σ.env t),σ.objs⟩ (M+1) r K
 |σ,M,(a,some n)::r,K=>match eval (.load n (.t a)) σ.e σ.objs 0 with
  |some (p,⟨some v,[]⟩)=>σ.c (.t a)=true/\p/\A50 ⟨upd σ.env M (some (true,v)),σ.objs⟩ (M+1) r K
  |_=>False
section
variable {P:Program} {G:Nat->Prop} {w:World} {ob:Place}
variable {σ:St} {a:Act} {M:Nat}
theorem Sim.push(h:Sim M σ a w ob G)(x:Option (Bool×AV))(v:Value)(hx: ∀av,x=some (true,av)->Rel G w ob av v)(hx0: ∀av,x=some (false,av)->v=undef):
  Sim (M+1) ⟨upd σ.env M x,σ.objs⟩ {a with tmps:=a.tmps.push v} w ob G:=by
 refine⟨by simp[h.size],h.defers,h.objs,λt av ht=> ?_,λt av ht=> ?_⟩;rotate_left
 ·simp only[upd]at ht;split at ht
  ·rename_i e;subst e;rw[hx0 av ht,<-h.size];simp
  ·have h1:=h.env0 t av ht
   grind
 simp only[upd]at ht;split at ht
 ·rename_i e;subst e;exact⟨v,by rw[<-h.size];simp,hx av ht⟩
 ·obtain⟨u,h1,h2⟩:=h.env t av ht
  grind
def G0n(P:Program)(t:TypeId)(n:Option Nat):Prop:=match n with |none=>R1 P t=some false |some k=>R1 P t=some true/\W5 P t=some k
variable {t:TypeId}
theorem E64 {n:Option Nat}(h:B82 P t=some n):G0n P t n:=by
 unfold B82 at h;split at h
 ·simp only[Option.some.injEq]at h;subst h;assumption
 ·rename_i hagg;split at h
  ·rename_i k hk';simp only[Option.some.injEq]at h;subst h;exact⟨hagg,hk'⟩
  ·cases h
 ·cases h
theorem D9x(tmps0:Array Value)(f:ResultVar->Sem Value)(hf1: ∀t,f (.tmp t)=pure (tmps0.getD t undef))(hf2: ∀a t,f (.cell a t)=(do loadVar t (<-asAddr (tmps0.getD a undef)))):
  ∀(l:List ResultVar) (rvs:List (Nat×Option (Option Nat))) (M:Nat) (σ:St) (a:Act) (K:St->Prop),A51 P l=some rvs->Sim M σ a w ob G->tmps0.size<=M->(∀t,t<tmps0.size->a.tmps[t]? =tmps0[t]?)->
   (∀p∈rvs,p.1<tmps0.size)->A50 σ M rvs K->
   ∃σ2 a2 vs,K σ2/\Sim (M+rvs.length) σ2 a2 w ob G/\(l.mapM f).run P w= .ok vs w/\vs.length=rvs.length/\(∀j,j<rvs.length->a2.tmps[M+j]? =vs[j]?)/\(∀t,t<M->a2.tmps[t]? =a.tmps[t]?)
 | [],rvs,M,σ,a,K,hl,hs,hM,hpre,hlt,h=>by simp only[A51,Option.some.injEq]at hl;subst hl;exact⟨σ,a,[],h,hs,by simp,rfl,λj hj=>by simp at hj,λt _=>rfl⟩
 | .tmp t::l,rvs,M,σ,a,K,hl,hs,hM,hpre,hlt,h=>by
   simp only[A51]at hl;split at hl
   case h_2=>cases hl
   rename_i rvs' hl';simp only[Option.some.injEq]at hl;subst hl;simp only[A50]at h;have ht:=hlt (t,none) (by simp);simp only at ht;have hs1:=hs.push (σ.env t) (tmps0.getD t undef) (λav hav=>by
    obtain⟨v,h1,h2⟩:=hs.env t av hav;simp_all) λav hav=>by
    have h1:=hs.env0 t av hav;simp_all
   obtain⟨σ2,a2,vs,k1,k2,k3,k4,k5,k6⟩:=D9x tmps0 f hf1 hf2 l rvs' (M+1) _ _ K hl' hs1 (by omega) (λu hu=>by grind) (λp hp=>hlt p (by simp[hp])) h
   refine⟨σ2,a2,tmps0.getD t undef::vs,k1,by grind,?_,by simp[k4],λj hj=> ?_,λu hu=> ?_⟩
   ·rw[List.mapM_cons,hf1];simp[k3]
   ·cases j with
    |zero=>rw[Nat.add_zero,k6 M (by omega),List.getElem?_cons_zero];show(a.tmps.push _)[M]? =_;rw[<-hs.size];simp
    |succ j=>grind
   ·rw[k6 u (by omega)];simp only[Array.getElem?_push];rw[if_neg (by rw[hs.size];omega)]
 | .cell c t::l,rvs,M,σ,a,K,hl,hs,hM,hpre,hlt,h=>by
   simp only[A51]at hl;split at hl
   case h_2=>cases hl
   rename_i n rvs' hcn hl';simp only[Option.some.injEq]at hl;subst hl;simp only[A50]at h;split at h
   case h_2=>exact h.elim
   rename_i p v hev;obtain⟨hc,hp,h⟩:=h;have ht:=hlt (c,some n) (by simp);simp only at ht;have hop:M8 G w ob (a.eval) σ.e':=hs.opRel
   have hev':eval (.load n (.t c)) σ.e' σ.objs 0=some (p,⟨some v,[]⟩):=by rw[<-C47 (λx hx=>A85 (by simp only[AOp.ops,List.mem_singleton]at hx;subst hx;exact hc))];exact hev
   have hload: ∃u,(do loadVar t (<-asAddr (tmps0.getD c undef))).run P w= .ok u w/\Rel G w ob v u:=by
    have hval:a.eval (.tmp c)=tmps0.getD c undef:=by show a.tmps.getD c undef=_;simp_all
    simp only[eval]at hev';have tn:=E64 hcn;split at hev'
    ·rename_i cs hx;simp only[Option.map_eq_some_iff,Prod.mk.injEq,Res.mk.injEq,Option.some.injEq]at hev';obtain⟨v',hk,_,rfl,_⟩:=hev';obtain⟨b,off,hxe,hG,hcell⟩:=B8b (hop (.tmp c) (.t c) _ rfl hx);obtain⟨u,h1,h2⟩:=A7g tn hcell hk;rw[<-hval,hxe];exact⟨u,by simp[asAddr,h1],h2⟩
    ·rename_i id k o tot hx;have hcases:(∃z s,σ.objs id=some (.arrP z s))\/(∀z s,σ.objs id≠some (.arrP z s)):=by
      grind
     rcases hcases with⟨z,s,hm⟩ |hnm
     ·rw[hm]at hev';obtain⟨rfl,b,off,u,hxe,hcell,hrel⟩:=F00 hs.objs hm (hop (.tmp c) (.t c) _ rfl hx) hev' hp;rw[<-hval,hxe];exact⟨u,by simp[asAddr,loadVar,X2 tn,hcell],hrel⟩
     replace hev':(match cellsOf σ.objs id k tot with
      |some (p,cs)=>(B00 n (cs.drop o)).map λv=>(p,(⟨some v,[]⟩:Res))
      |none=>none)=some (p,⟨some v,[]⟩):=by
      grind
     split at hev'
     case h_2=>cases hev'
     rename_i p' cs hcs;simp only[Option.map_eq_some_iff,Prod.mk.injEq,Res.mk.injEq,Option.some.injEq]at hev';obtain⟨v',hk,rfl,rfl,_⟩:=hev';obtain⟨b,base,hxe,hcell⟩:=E04 hs.objs (hop (.tmp c) (.t c) _ rfl hx) hcs hp;obtain⟨u,h1,h2⟩:=A7g tn (hcell.drop o) hk;rw[<-hval,hxe];exact⟨u,by simp[asAddr,h1],h2⟩
    ·cases hev'
   obtain⟨u,hrun,hrel⟩:=hload;have hs1:=hs.push (some (true,v)) u (λav hav=>by grind) (λav hav=>by simp at hav);obtain⟨σ2,a2,vs,k1,k2,k3,k4,k5,k6⟩:=D9x tmps0 f hf1 hf2 l rvs' (M+1) _ _ K hl' hs1 (by omega) (λq hq=>by grind) (λp hp=>hlt p (by simp[hp])) h
   refine⟨σ2,a2,u::vs,k1,by grind,?_,by simp[k4],λj hj=> ?_,λq hq=> ?_⟩
   ·rw[List.mapM_cons,hf2];simp only[Sem.run_bind,hrun,k3,Result.andThen_ok];rfl
   ·cases j with
    |zero=>rw[Nat.add_zero,k6 M (by omega),List.getElem?_cons_zero];show(a.tmps.push _)[M]? =_;rw[<-hs.size];simp
    |succ j=>grind
   ·rw[k6 q (by omega)];simp only[Array.getElem?_push];rw[if_neg (by rw[hs.size];omega)]
end
end Go.Abs
namespace Go.Abs
section
variable {P:Program}
variable {σ:St} {a:Act} {fn:Func} {rvs:List (Nat×Option (Option Nat))} {M:Nat}
theorem B9g {w:World}{ob:Place}{G:Nat->Prop}{K:St->Prop}(h:A51 P fn.results.toList=some rvs)(hs:Sim M σ a w ob G)
  (hlt: ∀p∈rvs,p.1<M)(hr:A50 σ M rvs K):
  ∃σ2 a2 v,K σ2/\Sim (M+rvs.length) σ2 a2 w ob G/\(results fn a.tmps).run P w= .ok v w/\v=(match(List.range' M rvs.length).map (λt=>a2.tmps.getD t undef)with | [x]=>x |vs=> .tuple vs.toArray):=by
 let f:ResultVar->Sem Value:=λ
  | .tmp t=>pure (a.tmps.getD t undef)
  | .cell c t=>do loadVar t (<-asAddr (a.tmps.getD c undef))
 obtain⟨σ2,a2,vs,k1,k2,k3,k4,k5,k6⟩:=D9x a.tmps f (λ_=>rfl) (λ_ _=>rfl) fn.results.toList rvs M σ a K h hs (by rw[hs.size];exact Nat.le_refl _) (λ_ _=>rfl) (λp hp=>by rw[hs.size];exact hlt p hp) hr;have hvs:(List.range' M rvs.length).map (λt=>a2.tmps.getD t undef)=vs:=by
  apply List.ext_getElem?;intro j;by_cases hj:j<rvs.length
  all_goals simp_all
 refine⟨σ2,a2,_,k1,k2,?_,rfl⟩;rw[hvs];unfold results;have h1:fn.results=fn.results.toList.toArray:=by simp
 have h2:(fn.results.mapM f).run P w= .ok vs.toArray w:=by rw[h1,List.mapM_toArray];simp only[map_eq_pure_bind,Sem.run_bind,k3,Result.andThen_ok];rfl
 show(do let vs<-fn.results.mapM f;pure (if h:vs.size=1 then vs[0]else .tuple vs):Sem Value).run P w=_;rw[Sem.run_bind,h2,Result.andThen_ok]
 match vs with
 | []=>rfl
 | [x]=>rfl
 |x::y::r=>rfl
@[reducible] def C0x(N:Nat)(rvs:List (Nat×Option (Option Nat)))(rs:List AV):Cont:=⟨λo σ=>match o with | .exit _=>False | .normal=>A50 σ N rvs λσ2=>B5o σ2 (List.range' N rvs.length) rs | .ret=>A50 σ N rvs λσ2=>B5o σ2 (List.range' N rvs.length) rs⟩
@[reducible] def B38(N:Nat)(K:List Nat)(rvs:List (Nat×Option (Option Nat)))(rs:List AV)(O':List (Nat×A5)):Cont:=⟨λo σ=>match o with | .exit _=>False | .normal=>A50 σ N rvs λσ2=>A8c K σ2 (List.range' N rvs.length) rs O' | .ret=>A50 σ N rvs λσ2=>A8c K σ2 (List.range' N rvs.length) rs O'⟩
variable {rs:List AV} {N:Nat}
theorem F7s: @Qi (C0x N rvs rs) .ret σ=A50 σ N rvs λσ2=>B5o σ2 (List.range' N rvs.length) rs:=rfl
theorem F7q: @Qi (C0x N rvs rs) .normal σ=A50 σ N rvs λσ2=>B5o σ2 (List.range' N rvs.length) rs:=rfl
variable {K:List Nat} {O':List (Nat×A5)}
theorem F4s: @Qi (B38 N K rvs rs O') .ret σ=A50 σ N rvs λσ2=>A8c K σ2 (List.range' N rvs.length) rs O':=rfl
theorem F4r: @Qi (B38 N K rvs rs O') .normal σ=A50 σ N rvs λσ2=>A8c K σ2 (List.range' N rvs.length) rs O':=rfl
theorem C90 {K K':St->Prop}(h: ∀σ,K σ->K' σ): ∀(rvs:List (Nat×Option (Option Nat))) (σ:St) (M:Nat),A50 σ M rvs K->A50 σ M rvs K'
 | [],σ,M,hr=>h σ hr
 |(t,none)::r,σ,M,hr=>by simp only[A50]at hr⊢;exact C90 h r _ _ hr
 |(a,some n)::r,σ,M,hr=>by
  simp only[A50]at hr⊢;split at hr
  ·exact⟨hr.1,hr.2.1,C90 h r _ _ hr.2.2⟩
  ·exact hr.elim
variable {f:FuncId} {O:List (Nat×A5)} {args:List AV} {ac:ACode}
theorem E0n
  (hf:P.funcs[f]? =some fn)(hb:fn.body=some (fn.body.getD .skip))(hname:(fn.name != "runtime.NumGoroutine")=true)(hc:D9 P fn.ntmps (fn.body.getD .skip)=some ac.strip)
  (hts:A51 P fn.results.toList=some rvs)(hlt:(rvs.all λp=>p.1.blt fn.ntmps)=true)(hl:(args.length.ble fn.ntmps)=true)
  (h:Wp P fn.ntmps (O.map (·.1)) ac (B38 fn.ntmps (O.map (·.1)) rvs rs O').q (A0b args O)):A1 P f args O (A5a rs) O':=by
 refine⟨by unfold A3g;rw[hf];simp only;rw[hb];simp[hname],λG w ob vals hs hr=> ?_⟩;refine calls_of_wp hf hb ?_;have h1:=h _ hc ⟨G,w,ob⟩ _ w ob G (D03 hs hr (Nat.le_of_ble_eq_true hl)) ⟨Fr.refl G w ob,λid i _ hi=>⟨i,hi, .inl rfl⟩⟩;refine wp_mono h1 ?_;rintro e a' w' ⟨o,σ,ob1,G1,rfl,hq,s,hΓ⟩;have hlt': ∀p∈rvs,p.1<fn.ntmps:=λp hp=>by have:=List.all_eq_true.1 hlt p hp;simpa[Nat.blt_eq]using this
 have fin:(A50 σ fn.ntmps rvs λσ2=>A8c (O.map (·.1)) σ2 (List.range' fn.ntmps rvs.length) rs O')->a'.defers= []/\ ∃v,(results fn a'.tmps).run P w'= .ok v w'/\
   ∃v' G' ob',Ending.returned v= .returned v'/\D5 G' w' ob' (ofL O')/\Rel G' w' ob' (A5a rs) v'/\Fr G w ob G' w' ob'/\C9 ob ob':=by
  intro hR;obtain⟨σ2,a2,v,k1,k2,hv,hv'⟩:=B9g hts s hlt' hR;obtain⟨md,hml,hrl,ρ,A,hw⟩:=k1;obtain⟨ob2,G2,g1,g2,g3⟩:=B3h k2 hw;refine⟨s.defers,v,hv,v,G2,ob2,rfl,g1.objs,?_,hΓ.fr.trans g2,?_⟩
  ·rw[hv'];exact D5e hrl λj t r ht hr=>g1.env t r (C0r hml hrl List.nodup_range' j t r ht hr)
  ·intro id i hi;have hk:id∈O.map (·.1):=by
    cases ho:ofL O id with
    |none=>rw[(hs.dom id).1 ho]at hi;cases hi
    |some o=>obtain⟨o',ho'⟩:=A88 (by rw[ho];rfl);exact List.mem_map_of_mem (f:=(·.1)) ho'
   obtain⟨i',hi',h'⟩:=hΓ.ext id i hk hi
   grind
 cases o with
 |normal=>exact fin hq
 |exit i=>exact hq.elim
 |ret=>exact fin hq
theorem E63(hm:P.follows .mixedOrders=true)
  (hf:P.funcs[f]? =some fn)(hb:fn.body=some (fn.body.getD .skip))(hname:(fn.name != "runtime.NumGoroutine")=true)(hc:D9 P fn.ntmps (fn.body.getD .skip)=some ac.strip)
  (hts:A51 P fn.results.toList=some rvs)(hlt:(rvs.all λp=>p.1.blt fn.ntmps)=true)(hl:(args.length.ble fn.ntmps)=true)
  (h: @Wi P fn.ntmps (O.map (·.1)) ac (B38 fn.ntmps (O.map (·.1)) rvs rs O') (A0b args O)):A1 P f args O (A5a rs) O':=
 E0n hf hb hname hc hts hlt hl (Wp.of_W hm ac h)
theorem F0f(hm:P.follows .mixedOrders=true)
  (hf:P.funcs[f]? =some fn)(hb:fn.body=some (fn.body.getD .skip))(hname:(fn.name != "runtime.NumGoroutine")=true)(hc:D9 P fn.ntmps (fn.body.getD .skip)=some ac.strip)
  (hts:A51 P fn.results.toList=some rvs)(hlt:(rvs.all λp=>p.1.blt fn.ntmps)=true)(hl:(args.length.ble fn.ntmps)=true)
  (h: @Wi P fn.ntmps [] ac (C0x fn.ntmps rvs rs) (A0b args [])):A1 P f args [] (A5a rs) []:=by
 have conv: ∀σ,(A50 σ fn.ntmps rvs λσ2=>B5o σ2 (List.range' fn.ntmps rvs.length) rs)->A50 σ fn.ntmps rvs λσ2=>A8c [] σ2 (List.range' fn.ntmps rvs.length) rs []:=λσ hr=>
  C90 (λσ2 h2=>by obtain⟨md,h1,h2,h3⟩:=C5k (acc:= []) h2;exact⟨md,h1,h2,D8c h3⟩) rvs σ _ hr
 refine E0n (O:= []) (O':= []) hf hb hname hc hts hlt hl ((Wp.of_W hm ac h).mono λo σ hq=> ?_)
 ·cases o with
  |exit i=>exact hq
  |normal=>exact conv σ hq
  |ret=>exact conv σ hq
theorem B5y {f:Nat}(hm:P.follows .mixedOrders=true)
  (hf:P.funcs[f]? =some fn)(hb:fn.body=some (fn.body.getD .skip))(hname:(fn.name != "runtime.NumGoroutine")=true)(hc:D9 P fn.ntmps (fn.body.getD .skip)=some ac.strip)(hN:fn.ntmps=N)
  (hts:A51 P fn.results.toList=some rvs)(hlt:(rvs.all λp=>p.1.blt N)=true)(hl:(args.length.ble N)=true)
  (h: @Wi P N [] ac (C0x N rvs rs) (A0b args [])):A1 P f args [] (A5a rs) []:=by
 subst hN;exact F0f hm hf hb hname hc hts hlt hl h
theorem B81 {f:Nat}(hm:P.follows .mixedOrders=true)
  (hf:P.funcs[f]? =some fn)(hb:fn.body=some (fn.body.getD .skip))(hname:(fn.name != "runtime.NumGoroutine")=true)(hc:D9 P fn.ntmps (fn.body.getD .skip)=some ac.strip)(hN:fn.ntmps=N)
  (hts:A51 P fn.results.toList=some rvs)(hlt:(rvs.all λp=>p.1.blt N)=true)(hl:(args.length.ble N)=true)
  (h: @Wi P N (O.map (·.1)) ac (B38 N (O.map (·.1)) rvs rs O') (A0b args O)):A1 P f args O (A5a rs) O':=by
 subst hN;exact E63 hm hf hb hname hc hts hlt hl h
end
attribute [go_sem] A50 F7s F7q F4s F4r List.range'_succ List.range'_zero
end Go.Abs
end
noncomputable section
namespace Go.Abs
theorem F2b(a:AV):M4 a a=True:=eq_true (I4 a)
theorem E95(l:List AV):A08 l l=True:=eq_true (L3 l)
variable {z:Nat} {s:Sq}
theorem E7g {ρ:Nat->Nat}:A3o ρ (.arr z s) (.arr z s)=True:=eq_true B1t
theorem A11(z n z' n':Nat)(g g':Nat->List AV):M4 (.dsl z n g) (.dsl z' n' g')=(z=z'/\n=n'/\ ∀i,i<n->A08 (g i) (g' i)):=by simp only[M4]
theorem E33(cs cs':List AV):M4 (.agg cs) (.agg cs')=A08 cs cs':=by simp only[M4]
variable {g:Nat->List AV}
theorem F78 {α:Type}{enc:α->List AV}{d:α}{l l':List α}{ρ:Nat->Nat}(x:α)(hg:g 0=enc x)(hl:l'=l++ [x]):
  A3o ρ (.arr z ((A38 enc d l).app ⟨1,g⟩)) (.arr z (A38 enc d l')):=by subst hl;exact E93 hg
variable {i:Nat}
theorem K9 {α:Type}{l:List α}(d:α)(h:i<l.length):l.take (i+1)=l.take i++ [l.getD i d]:=by rw[List.take_add_one,List.getElem?_eq_getElem h];simp[List.getD,h]
theorem B7 {α:Type}{l:List α}(d:α)(h:i<l.length):l.getD i d∈l:=by simp[List.getD,h]
attribute [go_sem] F2b E95 E7g
section
variable {α:Type}
def L7(enc:α->List AV)(d:α)(l:List α):Nat->List AV:=λi=>enc (l.getD i d)
def A2(z:Nat)(enc:α->List AV)(d:α)(l:List α):AV:= .dsl z l.length (L7 enc d l)
def A8(enc:α->List AV)(d:α)(l:List α):Sq:=⟨l.length,L7 enc d l⟩
theorem C9c(enc:α->List AV)(d:α)(l:List α)(i:Nat):L7 enc d l i=enc (l.getD i d):=rfl
theorem G09(enc:α->List AV)(d:α)(l:List α):(A8 enc d l).n=l.length:=rfl
theorem F2s(enc:α->List AV)(d:α)(l:List α):(A8 enc d l).g=L7 enc d l:=rfl
theorem D05(g:Nat->List AV):(λi=>g (0+i))=g:=by funext i;rw[Nat.zero_add]
variable {l l':List α}
theorem A1q {enc:α->List AV}{d:α}{ρ:Nat->Nat}(x:α)(hg:g 0=enc x)(hl:l'=l++ [x]):
  A3o ρ (.arr z ((A8 enc d l).app ⟨1,g⟩)) (.arr z (A8 enc d l')):=F78 x hg hl
theorem A2q {enc:α->List AV}{d:α}{c:List AV}(x:α){ρ:Nat->Nat}{z:Nat}(hi:i<l.length)(hc:c=enc x)(hl:l.set i x=l'):
  A3o ρ (.arr z ((A8 enc d l).set i c)) (.arr z (A8 enc d l')):=G2p x hi hc hl
theorem B1v {enc:α->List AV}{d:α}{c:List AV}(x:α)(hi:i<l.length)(hc:c=enc x):(A8 enc d l).set i c=A8 enc d (l.set i x):=by subst hc;exact E0q hi
theorem A3p {enc:α->List AV}{d:α}{ρ:Nat->Nat}(h:l=l'):A3o ρ (.arr z (A8 enc d l)) (.arr z (A8 enc d l')):=F97 h
theorem O9 {enc:α->List AV}{d:α}(h:l= []):M4 (.sc (.slice none 0 0)) (A2 z enc d l):=F19 h
theorem F2r(enc:α->List AV)(d:α)(l:List α):Sq.mk l.length (L7 enc d l)=A8 enc d l:=rfl
theorem G2i {enc:α->List AV}{d:α}:(A8 enc d l).app (A8 enc d l')=A8 enc d (l++l'):=F2t
end
theorem F41(g:Nat->List AV)(t:Sq):Sq.app ⟨0,g⟩ t=t:=by cases t;simp[Sq.app]
attribute [go_sem] forall_eq_or_imp F41 F2r G2i D9f Q8 A1g A41 AOp.touches AOp.mayWrite List.flatMap_cons List.flatMap_nil List.append_assoc List.getElem?_nil List.all_cons List.all_nil List.map_cons E33 A2 C9c G09 F2s List.length_take Int.natCast_zero
theorem E4j(z n:Nat)(g:Nat->List AV):AV.dsl z n (λi=>g (0+i))=AV.dsl z n g:=by rw[D05]
theorem E73(n:Nat)(g:Nat->List AV):Sq.mk n (λi=>g (0+i))=Sq.mk n g:=by rw[D05]
attribute [go_sem ↓] E4j E73
end Go.Abs
end
noncomputable section
namespace Go.Api
open Go.Abs
def B9(x:Int):List AV:= [.sc (.int .i64 x)]
structure Vec where
 X:Int
 Y:Int
 deriving DecidableEq,Inhabited
def Vec.enc(x:Vec):List AV:=[.sc (.int .i64 x.X), .sc (.int .i64 x.Y)]
def Vec.zero:List AV:= [.sc (.int .i64 0), .sc (.int .i64 0)]
structure Settings where
 TimeStep:Int
 Gravity:Vec
 Iterations:Int
 SleepSteps:Int
 deriving DecidableEq,Inhabited
def Settings.enc(x:Settings):List AV:=[.sc (.int .i64 x.TimeStep), .sc (.int .i64 x.Gravity.X), .sc (.int .i64 x.Gravity.Y), .sc (.int .i64 x.Iterations), .sc (.int .i64 x.SleepSteps)]
def Settings.zero:List AV:= [.sc (.int .i64 0), .sc (.int .i64 0), .sc (.int .i64 0), .sc (.int .i64 0), .sc (.int .i64 0)]
structure Transform where
 Position:Vec
 Angle:Int
 deriving DecidableEq,Inhabited
def Transform.enc(x:Transform):List AV:=[.sc (.int .i64 x.Position.X), .sc (.int .i64 x.Position.Y), .sc (.int .i64 x.Angle)]
def Transform.zero:List AV:= [.sc (.int .i64 0), .sc (.int .i64 0), .sc (.int .i64 0)]
structure Shape where
 Kind:Int
 Radius:Int
 Vertices:List Vec
 deriving DecidableEq,Inhabited
def Shape.enc(x:Shape):List AV:=[.sc (.int .i64 x.Kind), .sc (.int .i64 x.Radius),A2 2 Vec.enc default x.Vertices]
def Shape.zero:List AV:= [.sc (.int .i64 0), .sc (.int .i64 0), .sc (.slice none 0 0)]
structure Fixture where
 Shape:Shape
 Density:Int
 Friction:Int
 Restitution:Int
 Sensor:Bool
 Category:Int
 Mask:Int
 Group:Int
 deriving DecidableEq,Inhabited
def Fixture.enc(x:Fixture):List AV:=[.sc (.int .i64 x.Shape.Kind), .sc (.int .i64 x.Shape.Radius),A2 2 Vec.enc default x.Shape.Vertices, .sc (.int .i64 x.Density), .sc (.int .i64 x.Friction), .sc (.int .i64 x.Restitution), .sc (.bool x.Sensor), .sc (.int .i64 x.Category), .sc (.int .i64 x.Mask), .sc (.int .i64 x.Group)]
def Fixture.zero:List AV:= [.sc (.int .i64 0), .sc (.int .i64 0), .sc (.slice none 0 0), .sc (.int .i64 0), .sc (.int .i64 0), .sc (.int .i64 0), .sc (.bool false), .sc (.int .i64 0), .sc (.int .i64 0), .sc (.int .i64 0)]
structure Body where
 ID:Int
 Kind:Int
 Transform:Transform
 Velocity:Vec
 AngularVelocity:Int
 Force:Vec
 Torque:Int
 LinearDamping:Int
 AngularDamping:Int
 GravityScale:Int
 Bullet:Bool
 FixedRotation:Bool
 NoSleep:Bool
 Asleep:Bool
 IdleSteps:Int
 Fixtures:List Fixture
 deriving DecidableEq,Inhabited
def Body.enc(x:Body):List AV:=[.sc (.int .i64 x.ID), .sc (.int .i64 x.Kind), .sc (.int .i64 x.Transform.Position.X), .sc (.int .i64 x.Transform.Position.Y), .sc (.int .i64 x.Transform.Angle), .sc (.int .i64 x.Velocity.X), .sc (.int .i64 x.Velocity.Y), .sc (.int .i64 x.AngularVelocity), .sc (.int .i64 x.Force.X), .sc (.int .i64 x.Force.Y), .sc (.int .i64 x.Torque), .sc (.int .i64 x.LinearDamping), .sc (.int .i64 x.AngularDamping), .sc (.int .i64 x.GravityScale), .sc (.bool x.Bullet), .sc (.bool x.FixedRotation), .sc (.bool x.NoSleep), .sc (.bool x.Asleep), .sc (.int .i64 x.IdleSteps),A2 10 Fixture.enc default x.Fixtures]
def Body.zero:List AV:= [.sc (.int .i64 0), .sc (.int .i64 0), .sc (.int .i64 0), .sc (.int .i64 0), .sc (.int .i64 0), .sc (.int .i64 0), .sc (.int .i64 0), .sc (.int .i64 0), .sc (.int .i64 0), .sc (.int .i64 0), .sc (.int .i64 0), .sc (.int .i64 0), .sc (.int .i64 0), .sc (.int .i64 0), .sc (.bool false), .sc (.bool false), .sc (.bool false), .sc (.bool false), .sc (.int .i64 0), .sc (.slice none 0 0)]
structure Four where
 I0:Int
 I1:Int
 I2:Int
 I3:Int
 deriving DecidableEq,Inhabited
def Four.enc(x:Four):List AV:=[.sc (.int .i64 x.I0), .sc (.int .i64 x.I1), .sc (.int .i64 x.I2), .sc (.int .i64 x.I3)]
def Four.zero:List AV:= [.sc (.int .i64 0), .sc (.int .i64 0), .sc (.int .i64 0), .sc (.int .i64 0)]
structure Joint where
 ID:Int
 Kind:Int
 BodyA:Int
 BodyB:Int
 AnchorA:Vec
 AnchorB:Vec
 Axis:Vec
 ReferenceAngle:Int
 EnableLimit:Bool
 Lower:Int
 Upper:Int
 EnableMotor:Bool
 MotorSpeed:Int
 MaxForce:Int
 Softness:Int
 BreakForce:Int
 CollideConnected:Bool
 Impulses:Four
 deriving DecidableEq,Inhabited
def Joint.enc(x:Joint):List AV:=[.sc (.int .i64 x.ID), .sc (.int .i64 x.Kind), .sc (.int .i64 x.BodyA), .sc (.int .i64 x.BodyB), .sc (.int .i64 x.AnchorA.X), .sc (.int .i64 x.AnchorA.Y), .sc (.int .i64 x.AnchorB.X), .sc (.int .i64 x.AnchorB.Y), .sc (.int .i64 x.Axis.X), .sc (.int .i64 x.Axis.Y), .sc (.int .i64 x.ReferenceAngle), .sc (.bool x.EnableLimit), .sc (.int .i64 x.Lower), .sc (.int .i64 x.Upper), .sc (.bool x.EnableMotor), .sc (.int .i64 x.MotorSpeed), .sc (.int .i64 x.MaxForce), .sc (.int .i64 x.Softness), .sc (.int .i64 x.BreakForce), .sc (.bool x.CollideConnected), .sc (.int .i64 x.Impulses.I0), .sc (.int .i64 x.Impulses.I1), .sc (.int .i64 x.Impulses.I2), .sc (.int .i64 x.Impulses.I3)]
def Joint.zero:List AV:= [.sc (.int .i64 0), .sc (.int .i64 0), .sc (.int .i64 0), .sc (.int .i64 0), .sc (.int .i64 0), .sc (.int .i64 0), .sc (.int .i64 0), .sc (.int .i64 0), .sc (.int .i64 0), .sc (.int .i64 0), .sc (.int .i64 0), .sc (.bool false), .sc (.int .i64 0), .sc (.int .i64 0), .sc (.bool false), .sc (.int .i64 0), .sc (.int .i64 0), .sc (.int .i64 0), .sc (.int .i64 0), .sc (.bool false), .sc (.int .i64 0), .sc (.int .i64 0), .sc (.int .i64 0), .sc (.int .i64 0)]
structure PairKey where
 BodyA:Int
 FixtureA:Int
 BodyB:Int
 FixtureB:Int
 deriving DecidableEq,Inhabited
def PairKey.enc(x:PairKey):List AV:=[.sc (.int .i64 x.BodyA), .sc (.int .i64 x.FixtureA), .sc (.int .i64 x.BodyB), .sc (.int .i64 x.FixtureB)]
def PairKey.zero:List AV:= [.sc (.int .i64 0), .sc (.int .i64 0), .sc (.int .i64 0), .sc (.int .i64 0)]
structure ContactPoint where
 Point:Vec
 Separation:Int
 ID:Int
 NormalImpulse:Int
 TangentImpulse:Int
 deriving DecidableEq,Inhabited
def ContactPoint.enc(x:ContactPoint):List AV:=[.sc (.int .i64 x.Point.X), .sc (.int .i64 x.Point.Y), .sc (.int .i64 x.Separation), .sc (.int .i64 x.ID), .sc (.int .i64 x.NormalImpulse), .sc (.int .i64 x.TangentImpulse)]
def ContactPoint.zero:List AV:= [.sc (.int .i64 0), .sc (.int .i64 0), .sc (.int .i64 0), .sc (.int .i64 0), .sc (.int .i64 0), .sc (.int .i64 0)]
structure Manifold where
 Normal:Vec
 Points:List ContactPoint
 deriving DecidableEq,Inhabited
def Manifold.enc(x:Manifold):List AV:=[.sc (.int .i64 x.Normal.X), .sc (.int .i64 x.Normal.Y),A2 6 ContactPoint.enc default x.Points]
def Manifold.zero:List AV:= [.sc (.int .i64 0), .sc (.int .i64 0), .sc (.slice none 0 0)]
structure Contact where
 Key:PairKey
 Manifold:Manifold
 deriving DecidableEq,Inhabited
def Contact.enc(x:Contact):List AV:=[.sc (.int .i64 x.Key.BodyA), .sc (.int .i64 x.Key.FixtureA), .sc (.int .i64 x.Key.BodyB), .sc (.int .i64 x.Key.FixtureB), .sc (.int .i64 x.Manifold.Normal.X), .sc (.int .i64 x.Manifold.Normal.Y),A2 6 ContactPoint.enc default x.Manifold.Points]
def Contact.zero:List AV:= [.sc (.int .i64 0), .sc (.int .i64 0), .sc (.int .i64 0), .sc (.int .i64 0), .sc (.int .i64 0), .sc (.int .i64 0), .sc (.slice none 0 0)]
structure World where
 Settings:Settings
 Bodies:List Body
 Joints:List Joint
 Contacts:List Contact
 Overlaps:List PairKey
 NextID:Int
 Frame:Int
 deriving DecidableEq,Inhabited
def World.enc(x:World):List AV:=[.sc (.int .i64 x.Settings.TimeStep), .sc (.int .i64 x.Settings.Gravity.X), .sc (.int .i64 x.Settings.Gravity.Y), .sc (.int .i64 x.Settings.Iterations), .sc (.int .i64 x.Settings.SleepSteps),A2 20 Body.enc default x.Bodies,A2 24 Joint.enc default x.Joints,A2 7 Contact.enc default x.Contacts,A2 4 PairKey.enc default x.Overlaps, .sc (.int .i64 x.NextID), .sc (.int .i64 x.Frame)]
def World.zero:List AV:= [.sc (.int .i64 0), .sc (.int .i64 0), .sc (.int .i64 0), .sc (.int .i64 0), .sc (.int .i64 0), .sc (.slice none 0 0), .sc (.slice none 0 0), .sc (.slice none 0 0), .sc (.slice none 0 0), .sc (.int .i64 0), .sc (.int .i64 0)]
structure B1 where
 Bodies:List Int
 Contacts:List Int
 Joints:List Int
 deriving DecidableEq,Inhabited
def B1.enc(x:B1):List AV:=[A2 1 B9 0 x.Bodies,A2 1 B9 0 x.Contacts,A2 1 B9 0 x.Joints]
def B1.zero:List AV:= [.sc (.slice none 0 0), .sc (.slice none 0 0), .sc (.slice none 0 0)]
attribute [go_sem] B9 Vec.enc Vec.zero Settings.enc Settings.zero Transform.enc Transform.zero Shape.enc Shape.zero Fixture.enc Fixture.zero Body.enc Body.zero Four.enc Four.zero Joint.enc Joint.zero PairKey.enc PairKey.zero ContactPoint.enc ContactPoint.zero Manifold.enc Manifold.zero Contact.enc Contact.zero World.enc World.zero B1.enc B1.zero
end Go.Api
end
noncomputable section
namespace Go.Abs
open Go.Api Go.ChangeShapes Go.WideShapes Go.ChangeAt Go.RowKit
section
variable {P:Program} {W:World}
variable {α β:Type} {off size:Nat} {Ok:α->Prop} {enc':β->List AV} {Ok':β->Prop}
theorem B3 {f:Field}{fs:List Field}{sz off':Nat}{enc:α->List AV}(t:TypeId)
  (h1:A15 P W t enc Ok)(ht:f.type=t)(hz:P.cellsOf t=sz)(ho:f.offset=off)(hs:off+sz=off')(h2:B8x P W fs off' size enc' Ok'):
  B8x P W (f::fs) off size (λp:α×β=>enc p.1++enc' p.2) (λp=>Ok p.1/\Ok' p.2):=by
 subst ht;subst hz;subst hs;exact E7i h1 ho h2
variable {t:TypeId}
theorem X5 {fs:Array Field}(size:Nat){enc:α->List AV}{Ok:α->Prop}{enc':β->List AV}{Ok':β->Prop}(g:α->β)(ht:P.underlying t=some (.struct fs))(hz:P.cellsOf t=size)
  (h:B8x P W fs.toList 0 size enc Ok)(he: ∀a,enc' (g a)=enc a)(hk: ∀a,Ok a->Ok' (g a)):A15 P W t enc' Ok':=by
 subst hz;exact(E5c ht h).map g he hk
def fits(n:Int):Prop:= -9223372036854775808<=n/\n<=9223372036854775807
theorem H0(ht:P.underlying t=some (.int .i64)):A15 P W t (λn:Int=> [.sc (.int .i64 n)]) fits:=
 (F3t ht).map id (λ_=>rfl) λn h=>by simp only[Lit.wf,IntKind.min,IntKind.max,Bool.and_eq_true,decide_eq_true_eq]at h;simp only[id,fits];simp[IntKind.min,IntKind.max,IntKind.bits,IntKind.signed]at h;omega
variable {avs:List AV}
theorem E5g {cs:Array Value}(h:B8y W avs cs.toList):Rel (λb=>b<W.heap.size) W (λ_=>none) (.agg avs) (.agg cs):=by refine .agg cs (by simpa using h.1) (λj av hj=>B2r (h.2 j av hj).1) (λj av hj=> ?_);have:=(h.2 j av hj).2;simpa[List.getD]using this
variable {el:TypeId}
theorem F08(ht:P.underlying t=some (.array 4 el))(hel:P.underlying el=some (.int .i64))(h4:P.cellsOf t=4)(h1:P.cellsOf el=1):A15 P W t Four.enc (λa=>fits a.I0/\fits a.I1/\fits a.I2/\fits a.I3):=by
 intro H e base spare held n cs x hx;obtain⟨xs,m,_,_,hl,hlen,hf⟩:=DataW.trod_array ht hx;have each: ∀i,i<4-> ∃z,fits z/\cs[i]? =some (.int .i64 z):=λi hi=>by
  have h:=hf i hi;rw[h1,Nat.mul_one,List.getElem?_eq_getElem (by omega)]at h;obtain⟨z,hz,hr⟩:=H0 hel H e base spare held m _ _ h;refine⟨z,hz,?_⟩;have h2:=(hr.2 0 _ rfl).2.sc_eq
  have h3:i<cs.length:=by omega
  rw[List.getElem?_eq_getElem h3];simp[List.getD,List.getElem?_take,List.getElem?_drop,List.getElem?_eq_getElem h3]at h2;rw[h2]
 obtain⟨z0,f0,e0⟩:=each 0 (by omega);obtain⟨z1,f1,e1⟩:=each 1 (by omega);obtain⟨z2,f2,e2⟩:=each 2 (by omega);obtain⟨z3,f3,e3⟩:=each 3 (by omega);refine⟨⟨z0,z1,z2,z3⟩,⟨f0,f1,f2,f3⟩,by simp[hl,h4,Four.enc],λj av hj=> ?_⟩
 match j,hj with
 |0,hj=>simp[Four.enc]at hj;subst hj;simp[List.getD,e0];exact⟨rfl, .sc rfl⟩
 |1,hj=>simp[Four.enc]at hj;subst hj;simp[List.getD,e1];exact⟨rfl, .sc rfl⟩
 |2,hj=>simp[Four.enc]at hj;subst hj;simp[List.getD,e2];exact⟨rfl, .sc rfl⟩
 |3,hj=>simp[Four.enc]at hj;subst hj;simp[List.getD,e3];exact⟨rfl, .sc rfl⟩
 |_+4,hj=>simp[Four.enc]at hj
variable {f:FuncId} {args:List AV}
theorem F0g {vals:List Value}(h:A1 P f args [] (.sc (.bool true)) [])
  (hr:A6z (λb=>b<W.heap.size) W (λ_=>none) args vals):Calls P f vals.toArray W λe W'=>e= .returned (.bool true)/\Below W.heap.size W W':=by
 refine(h.2 (λb=>b<W.heap.size) W (λ_=>none) vals ?_ hr).mono ?_
 ·exact⟨λ_=>⟨λ_=>rfl,λ_=>rfl⟩,λ_ _ _ _ _ h=>(by cases h),λ_ h=>h,λ_ _ _ h=>(by simp[ofL,wrm]at h),λ_ _ _ _ h=>(by simp[ofL,wrm]at h)⟩
 ·rintro e W' ⟨v,G',ob',rfl,_,hv,hf,_⟩;have:=hv.sc_eq;subst this;exact⟨rfl,hf.os,hf.tape,hf.output,hf.size,λk hk=>hf.same k hk (.inl hk)⟩
end
end Go.Abs
end
noncomputable section
namespace Go.Abs
abbrev oM(d s:Nat):AOper:=⟨some d, .mov (.t s),none,[]⟩
abbrev oV(d:Nat)(v:AV):AOper:=⟨some d, .mov (.k v),none,[]⟩
abbrev oL(d s:Nat):AOper:=⟨some d, .load none (.t s),none,[]⟩
abbrev oR(n d s:Nat):AOper:=⟨some d, .load (some n) (.t s),none,[]⟩
abbrev oF(k d s:Nat):AOper:=⟨some d, .faddr k (.t s),none,[]⟩
abbrev oB(p:BinOp)(d x y:Nat):AOper:=⟨some d, .bin p (.t x) (.t y),none,[]⟩
abbrev oC(p:BinOp)(d x:Nat)(v:Int):AOper:=⟨some d, .bin p (.t x) (.k (.sc (.int .i64 v))),none,[]⟩
abbrev oI(e d x y:Nat):AOper:=⟨some d, .iaddr e (.t x) (.t y),none,[]⟩
abbrev oN(d x:Nat):AOper:=⟨some d, .len (.t x),none,[]⟩
abbrev oU(d x:Nat):AOper:=⟨some d, .un .not (.t x),none,[]⟩
abbrev oX(d x i:Nat):AOper:=⟨some d, .ext (.t x) i,none,[]⟩
abbrev oP(d c x:Nat):AOper:=⟨some d, .pick (.t c) (.t x) (.k (.sc (.bool false))),none,[]⟩
abbrev oQ(d c x:Nat):AOper:=⟨some d, .pick (.t c) (.k (.sc (.bool true))) (.t x),none,[]⟩
abbrev oS(n d s:Nat):AOper:=⟨none, .store n (.t d) (.t s),none,[]⟩
abbrev oD(n d:Nat)(v:AV):AOper:=⟨none, .store n (.t d) (.k v),none,[]⟩
abbrev oA(d:Nat)(z:List Value):AOper:=⟨some d, .alloc z,none,[]⟩
abbrev oE(d x:Nat):AOper:=⟨some d, .box (.t x),none,[]⟩
abbrev oJ(d f:Nat)(l:List AX):AOper:=⟨some d, .call f l,none,[]⟩
abbrev oW(d:Nat)(z:List Value)(ps:List (Nat×Nat×AX)):AOper:=⟨some d, .build z ps,none,[]⟩
abbrev oY(e d n:Nat)(z:List Value)(ps:List (Nat×Nat×AX)):AOper:=⟨some d, .bslice e n z ps,none,[]⟩
abbrev oZ(e b d x y:Nat):AOper:=⟨some d, .append e b (.t x) (.t y),none,[]⟩
abbrev gT(t:Nat)(o:AOper):AOper:=⟨o.dst,o.op,some (t,true),o.chk⟩
abbrev gF(t:Nat)(o:AOper):AOper:=⟨o.dst,o.op,some (t,false),o.chk⟩
abbrev ki(n:Int):AX:= .k (.sc (.int .i64 n))
abbrev vi(n:Int):AV:= .sc (.int .i64 n)
abbrev vb(b:Bool):AV:= .sc (.bool b)
abbrev vn:AV:= .sc (.slice none 0 0)
abbrev r0(l:List AOper):ACode:= .region false l
abbrev r1(l:List AOper):ACode:= .region true l
attribute [go_sem] oM oV oL oR oF oB oC oI oN oU oX oP oQ oS oD oA oE oJ oW oY oZ gT gF ki vi vb vn r0 r1
end Go.Abs
end
noncomputable section
namespace Go.Abs
open Go.Sort
def C45(n:Int):List AV:= [.sc (.int .i64 n)]
variable {av:AV} {j:Nat}
theorem F6n {l:List Int}(h:(C45 (l.getD j 0))[0]? =some av):av= .sc (.int .i64 (l.getD j 0)):=by simp only[C45,List.getElem?_cons_zero,Option.some.injEq]at h;exact h.symm
variable {f:FuncId} {P:Program}
theorem G2l(hcb:A3g P f=true)(l l':List Int)(hlen:l'.length=l.length)(res:Option Addr->Nat->Value)(r:AV)
  (hr: ∀(G:Nat->Prop) (w:World) (ob:Place) (i:J3) (a:Option Addr) (cap:Nat),ob 1=some i->i.len=l.length->SlV i 0 l.length (.slice a l.length cap)->Rel G w ob r (res a cap))
  (hc: ∀(blk cap:Nat) (w:World),Holds (Value.int .i64) w blk 0 l.toArray->blk<w.heap.size->l.length<=cap->
    Calls P f #[.slice (some ⟨blk,0,none⟩) l.length cap] w λe w'=>e= .returned (res (some ⟨blk,0,none⟩) cap)/\ ∃n os,w'=grow (putRow (Value.int .i64) (Sort.ahead w n) blk 0 l'.toArray) os)
  (hnil:l= []-> ∀(a:Option Addr) (w:World),Calls P f #[.slice a 0 0] w λe w'=>e= .returned (res a 0)/\w'=w):
  A1 P f [.sl 1 0 l.length l.length] [(1, .arr 1 (A8 C45 0 l))] r [(1, .arr 1 (A8 C45 0 l'))]:=by
 refine⟨hcb,λG w ob vals hs hrl=> ?_⟩;obtain⟨hn,hv⟩:=hrl
 match vals,hn with
 | [v],_=>
 have hrel:=hv 0 _ rfl;simp only[List.getD,List.getElem?_cons_zero,Option.getD_some]at hrel;cases hrel with
 |sl i h hle hsv hslv=>
 have hown:=hs.own 1 _ i rfl h;obtain⟨o1,o2,o3,o4,o5⟩:=hown;have o3':i.len=l.length:=o3
 have hsl:=hslv o3'.symm.symm;obtain⟨a,c,rfl⟩:=hsv;rcases o5 with⟨b1,b2,b3⟩ |⟨b,arr,T,b1,b2,b3,b4⟩
 ·have hl:l= []:=List.length_eq_zero_iff.1 b2
  subst hl;have hl':l'= []:=List.length_eq_zero_iff.1 hlen;subst hl';have hac:(Value.slice a 0 c:Value)= .slice none 0 0\/ ∃a',(Value.slice a 0 c:Value)= .slice (some a') 0 0:=hsl.2.1 b1
  have hc0:c=0:=by rcases hac with e |⟨a',e⟩ <;> cases e <;> rfl
  subst hc0;refine(hnil rfl a w).mono ?_;rintro e w' ⟨rfl,rfl⟩;exact⟨_,G,ob,rfl,hs,hr G w' ob i a 0 h o3' hsl,Fr.refl G w' ob,C9.refl ob⟩
 ·obtain⟨o,c',e,hle',ho,h0⟩:=hsl.2.2 b b1;cases e;obtain⟨rfl,rfl⟩:=h0 rfl;have hsz:arr.size=i.cap:=by rw[b3,o2,Nat.mul_one]
  have hcell: ∀j,j<l.length->arr[j]? =some (.int .i64 (l.getD j 0)):=λj hj=>by obtain⟨_,v,hv,hrv⟩:=b4.2 j 0 (.sc (.int .i64 (l.getD j 0))) hj rfl;rw[o2,Nat.mul_one,Nat.add_zero]at hv;rw[hrv.sc_eq]at hv;exact hv
  have hblk:b<w.heap.size:=(Array.getElem?_eq_some_iff.1 b2).1
  have hH:Holds (Value.int .i64) w b 0 l.toArray:=λj hj=>by
   have hj':j<l.length:=by simpa using hj
   refine⟨?_,?_⟩
   ·simp only[World.cell?,b2,Nat.zero_add,hcell j hj'];simp[List.getD,hj']
   ·simp[World.frozen?,b2]
  refine(hc b i.cap w hH hblk hle').mono ?_;rintro e w' ⟨rfl,n,os,rfl⟩;have hnG: ¬G b:=hs.sep 1 _ i b rfl rfl h (.inl b1)
  have hheap: ∀k,k<w.heap.size->k≠b->(grow (putRow (Value.int .i64) (Sort.ahead w n) b 0 l'.toArray) os).heap[k]? =w.heap[k]? :=λk hk hkb=>by rw[heap_grow_old _ _ (by simpa using hk)];simp only[putRow,mapBlock,Array.getElem?_modify,Sort.ahead,if_neg (Ne.symm hkb)]
  have hb':(grow (putRow (Value.int .i64) (Sort.ahead w n) b 0 l'.toArray) os).heap[b]? =some (.cells (putCells (Value.int .i64) 0 l'.toArray arr) T (0,0)):=by rw[heap_grow_old _ _ (by simpa using hblk)];simp only[putRow,mapBlock,Array.getElem?_modify,Sort.ahead,if_true,b2,Option.map_some,onCells]
  refine⟨_,G,ob,rfl,⟨λid=> ?_,hs.inj,λk hk=>Nat.lt_of_lt_of_le (hs.lt k hk) (by simp),λid o' i' ho' hi'=> ?_,λid o' i' b' ho' how hi' hb''=> ?_⟩,hr G _ ob i _ _ h o3' hsl,⟨by simp,λk hk hgb=> ?_,λk hk=> .inl hk,λk hk=>hk,λk hk=> .inl hk,rfl,rfl,rfl,by simp[grow,putRow,mapBlock,Sort.ahead]⟩,C9.refl ob⟩
  ·rw[<-hs.dom id];show upd (λ_=>none) 1 _ id=none↔upd (λ_=>none) 1 _ id=none;simp only[upd];split <;> simp
  ·have hid:id=1:=by
    have ho':upd (λ_=>none) 1 (some (A5.arr 1 (A8 C45 0 l'))) id=some o':=ho';simp only[upd]at ho';split at ho'
    ·assumption
    ·cases ho'
   subst hid;rw[h]at hi';cases hi';have ho1:o'= .arr 1 (A8 C45 0 l'):=(Option.some.inj ho').symm;subst ho1;refine⟨o1,o2,by rw[o3'];exact hlen.symm,by show l'.length<=_;omega, .inr ⟨b,_,T,b1,hb',by simp[putCells,b3],?_⟩⟩;refine⟨λj hj=>by rw[o2];rfl,λj k av hj hk=> ?_⟩;have hj:j<l'.length:=hj;cases k with
   |succ k=>exact absurd hk (by simp[A8,C45,L7])
   |zero=>
    have hk':(C45 (l'.getD j 0))[0]? =some av:=hk;rw[F6n hk'];refine⟨rfl,_,?_, .sc rfl⟩;rw[o2,Nat.mul_one,Nat.add_zero];have:j<arr.size:=by omega
    simp only[putCells,Array.getElem?_mapIdx,hcell j (by omega),Option.map_some,Option.some.injEq];rw[if_pos ⟨Nat.zero_le _,by simpa using hj⟩];simp[List.getD,hj]
  ·have hid:id=1:=by
    have ho':upd (λ_=>none) 1 (some (A5.arr 1 (A8 C45 0 l'))) id=some o':=ho';simp only[upd]at ho';split at ho'
    ·assumption
    ·cases ho'
   subst hid;rw[h]at hi';cases hi';have hb'':=J3.has_plain (.inl o1) hb'';rw[b1]at hb'';cases hb'';exact hnG
  ·refine hheap k hk λe=> ?_;subst e;rcases hgb with h1 |h1
   ·exact hnG h1
   ·exact h1 ⟨1,i,h, .inl b1⟩
end Go.Abs
end
noncomputable section
namespace Go.Abs
def D83(l:List Int):Prop:=l.Pairwise (· <·)
theorem E0k(d:Array Int)(x:Int): ∀m,x∈Go.Lib.compactUpTo d m-> ∃j,j<m/\d[j]! =x
 |0,h=>by simp[Go.Lib.compactUpTo]at h
 |m+1,h=>by
  rw[Go.Lib.compactUpTo_succ,List.mem_append]at h;rcases h with h |h
  ·obtain⟨j,hj,e⟩:=E0k d x m h;exact⟨j,by omega,e⟩
  ·split at h
   ·rw[List.mem_singleton]at h;exact⟨m,by omega,h.symm⟩
   ·cases h
theorem E0l(d:Array Int)(hd: ∀i j,i<=j->j<d.size->d[i]!<=d[j]!): ∀m,m<=d.size->D83 (Go.Lib.compactUpTo d m)
 |0,_=>by simp[Go.Lib.compactUpTo,D83]
 |m+1,hm=>by
  rw[Go.Lib.compactUpTo_succ];have ih:=E0l d hd m (by omega);unfold D83 at ih⊢;rw[List.pairwise_append];refine⟨ih,by split <;> simp,λx hx y hy=> ?_⟩;split at hy
  ·rename_i hk;rw[List.mem_singleton]at hy;subst hy;obtain⟨j,hj,rfl⟩:=E0k d x m hx;simp only[Go.Lib.keeps,decide_eq_true_eq]at hk;rcases hk with hk |hk
   ·omega
   ·have h1:=hd j (m-1) (by omega) (by omega)
    have h2:=hd (m-1) m (by omega) (by omega);omega
  ·cases hy
theorem E66 {l:List Int}(h:l.Pairwise (· <= ·)):D83 (Go.Lib.compact l):=by
 unfold Go.Lib.compact;refine E0l l.toArray (λi j hij hj=> ?_) l.length (by simp);have hj':j<l.length:=by simpa using hj
 have hi':i<l.length:=by omega
 simp only[List.getElem!_toArray,getElem!_pos l i hi',getElem!_pos l j hj'];rcases Nat.lt_or_eq_of_le hij with hlt |rfl
 ·exact List.pairwise_iff_getElem.1 h i j hi' hj' hlt
 ·exact Int.le_refl _
theorem F5y(l:List Int):(l.mergeSort λx y=>decide (x<=y)).Pairwise (· <= ·):=by have:=List.pairwise_mergeSort (le:=λx y:Int=>decide (x<=y)) (by intro a b c h1 h2;simp at*;omega) (by intro a b;simp;omega) l;exact this.imp λh=>by simpa using h
attribute [go_sem] B0x C4a B75 C3f
def B8n:AV->AV
 | .own z n g=> .dsl z n g
 |c=>c
section
variable {P:Program} {G:Nat->Prop} {w:World} {ob:Place} {m:Nat->Option A5}
variable {z n:Nat} {v:Value} {g:Nat->List AV} {G':Nat->Prop}
theorem F9c {β:Option Nat}(h:A9h G w ob β (.own z n g) v)(hβ: ∀b,β=some b->G' b)(hsub: ∀b,G b->G' b):Rel G' w ob (.dsl z n g) v:=by
 rcases h with⟨_,rfl,rfl |⟨a,rfl⟩⟩ |⟨b,cap,arr,T,h1,h2,rfl,h3,h4,h5⟩
 ·exact .dslNil
 ·exact .dslE a 0
 ·refine .dsl b 0 cap (λk j=>(arr[k*z+j]?).getD undef) (hβ b h1) h2 (λk hk=>h5.1 k hk) (λk j av hk hj=>(h5.2 k j av hk hj).1) (λk j hk hj=> ?_) (λk j av hk hj=> ?_)
  ·have hlen:=h5.1 k hk
   obtain⟨_,u,hu,_⟩:=h5.2 k j (g k)[j] hk (List.getElem?_eq_getElem (by rw[hlen];exact hj));rw[Nat.zero_add,cell_of_row w b _ arr T _ h3,hu];simp
  ·obtain⟨_,u,hu,hrel⟩:=h5.2 k j av hk hj;rw[hu];exact hrel.ext hsub (λ_ _=>rfl) (C9.refl ob)
theorem D5.settle(hs:D5 G w ob m){id z:Nat}{s:Sq}(hm:m id=some (.arrP z s))(hh: ∀(k j:Nat),k<s.n->(s.g k)[j]?≠some .hole):
  ∃G' ob',D5 G' w ob' (upd m id (some (.arr z ⟨s.n,λk=>(s.g k).map B8n⟩)))/\C9 ob ob'/\(∀b,G b->G' b)/\(∀b,G' b->G b\/O7 ob b)/\ ∀b,O7 ob' b->O7 ob b:=by
 cases hi:ob id with
 |none=>rw[(hs.dom id).2 hi]at hm;cases hm
 |some i=>
  obtain⟨h1,h2,h3,p,hk,h4⟩:=hs.own id _ i hm hi;have hp: ∀x,i.has x↔i.blk=some x\/p x:=λx=>J3.has_priv hk x
  have hi1: ∀x,({i with kind:= .cells}:J3).has x->i.blk=some x:=λx hx=>J3.has_plain (i:= {i with kind:= .cells}) (.inl rfl) hx
  have hob:C9 ob (upd ob id (some {i with kind:= .cells})):=λq j hj=>by
   by_cases hq:q=id
   ·subst hq;rw[hi]at hj;injection hj with hj;subst hj;exact⟨{i with kind:= .cells},by simp, .inr (.inl ⟨p, .cells,hk,rfl⟩)⟩
   ·exact⟨j,by rw[G9 hq];exact hj, .inl rfl⟩
  have hpown: ∀x,p x-> ∀q j,q≠id->ob q=some j->j.has x->False:=λx hx q j hq hj hjx=>hq (hs.inj _ _ _ _ x hj hi hjx ((hp x).2 (.inr hx)));refine⟨λb=>G b\/p b,upd ob id (some {i with kind:= .cells}),⟨λq=> ?_,λq r j k b hj hk' hjb hkb=> ?_,λb hb=> ?_,λq o j ho hj=> ?_,λq o j b ho hown hj hjb=> ?_⟩,hob,λb h=> .inl h,λb h=>h.imp (λh=>h) (λh=>⟨id,i,hi,(hp b).2 (.inr h)⟩),?_⟩
  ·by_cases hq:q=id
   ·subst hq;simp
   ·rw[G9 hq,G9 hq];exact hs.dom q
  ·have old: ∀q j,upd ob id (some {i with kind:= .cells}) q=some j->j.has b-> ∃j',ob q=some j'/\j'.has b:=λq j hj hjb=>by
    by_cases hq:q=id
    ·subst hq;simp only[A0c,Option.some.injEq]at hj;subst hj;exact⟨i,hi, .inl (hi1 b hjb)⟩
    ·rw[G9 hq]at hj;exact⟨j,hj,hjb⟩
   obtain⟨j',a1,a2⟩:=old q j hj hjb;obtain⟨k',a3,a4⟩:=old r k hk' hkb;exact hs.inj _ _ _ _ b a1 a3 a2 a4
  ·rcases hb with hb |hb
   ·exact hs.lt b hb
   ·exact(hs.own id _ i hm hi).has_lt ((hp b).2 (.inr hb))
  ·by_cases hq:q=id
   ·subst hq;simp only[A0c,Option.some.injEq]at ho hj;subst ho;subst hj;refine⟨rfl,h1,h2,h3,?_⟩;rcases h4 with⟨a1,a2,a3,_⟩ |⟨b,arr,T,β,a1,a2,a3,a4,a5⟩
    ·exact .inl ⟨a1,a2,a3⟩
    ·refine .inr ⟨b,arr,T,a1,a2,a3,⟨λk hk=>by simp only[List.length_map];exact a4.1 k hk,λk j av hk hj=> ?_⟩⟩;simp only[List.getElem?_map,Option.map_eq_some_iff]at hj;obtain⟨c,hc,rfl⟩:=hj;obtain⟨v,hv,hcell⟩:=a4.2 k j c hk hc;have hjz:j<z:=by
      have:=a4.1 k hk;rcases Nat.lt_or_ge j (s.g k).length with h |h
      ·omega
      ·rw[List.getElem?_eq_none h]at hc;cases hc
     cases c with
     |own z' n' g'=>exact⟨rfl,v,hv,(F9c hcell (λb hb=> .inr (a5.sub k j b hk hjz hb)) (λb hb=> .inl hb)).ob_free rfl⟩
     |hole=>exact absurd hc (hh k j hk)
     |_=>exact⟨hcell.1,v,hv,(hcell.2.2.ext (λb hb=> .inl hb) (λ_ _=>rfl) (C9.refl ob)).ob_free hcell.1⟩
   ·rw[G9 hq]at ho hj;exact(hs.own q o j ho hj).ext (λb hb=> .inl hb) (λ_ _=>rfl) hob (λ_ _=>rfl)
  ·by_cases hq:q=id
   ·subst hq;simp only[A0c,Option.some.injEq]at hj;subst hj;have hb:=hi1 b hjb;rintro(h |h)
    ·exact hs.sep _ _ i b hm rfl hi (.inl hb) h
    ·rcases h4 with⟨a1,_⟩ |⟨b',arr,T,β,a1,a2,a3,a4,a5⟩
     ·rw[hb]at a1;cases a1
     ·rw[hb]at a1;injection a1 with a1;subst a1;exact a5.ne h
   ·rw[G9 hq]at ho hj;rintro(h |h)
    ·exact hs.sep q o j b ho hown hj hjb h
    ·exact hpown b h q j hq hj hjb
  ·rintro b ⟨q,j,hj,hjb⟩;by_cases hq:q=id
   ·subst hq;simp only[A0c,Option.some.injEq]at hj;subst hj;exact⟨_,i,hi, .inl (hi1 b hjb)⟩
   ·rw[G9 hq]at hj;exact⟨q,j,hj,hjb⟩
theorem A1.settle {f:FuncId}{args:List AV}{O O1 O2:List (Nat×A5)}{r:AV}{id z:Nat}{s:Sq}(h:A1 P f args O r O1)(hm:ofL O1 id=some (.arrP z s))
  (hh: ∀(k j:Nat),k<s.n->(s.g k)[j]?≠some .hole)(ho:ofL O2=upd (ofL O1) id (some (.arr z ⟨s.n,λk=>(s.g k).map B8n⟩))):A1 P f args O r O2:=by
 refine⟨h.1,λG w ob vals hs hr=>(h.2 G w ob vals hs hr).mono ?_⟩;rintro e w' ⟨v,G',ob',rfl,h1,h2,h3,h4⟩;obtain⟨G2,ob2,a1,a2,a3,a4,a5⟩:=h1.settle hm hh;refine⟨v,G2,ob2,rfl,by rw[ho];exact a1,h2.ext a3 (λ_ _=>rfl) a2,⟨h3.size,h3.same,λb hb=>h3.blk b (a5 b hb),λb hb=>a3 b (h3.sub b hb),λb hb=> ?_,h3.os,h3.tape,h3.output,h3.drawn⟩,h4.trans a2⟩;rcases a4 b hb with hb |hb
 ·exact h3.new b hb
 ·rcases h3.blk b hb with hb |hb
  ·exact .inr (.inr hb)
  ·exact .inr (.inl hb)
end
def itr {S:Type}(f:Nat->S->S):Nat->S->S
 |0,s=>s
 |k+1,s=>f k (itr f k s)
def D4 {S R:Type}(f:Nat->S->S ⊕ R):Nat->S->S ⊕ R
 |0,s=> .inl s
 |k+1,s=>match D4 f k s with
  | .inl s'=>f k s'
  | .inr r=> .inr r
variable {S:Type}
theorem H3(f:Nat->S->S)(s:S):itr f 0 s=s:=rfl
theorem E4(f:Nat->S->S)(k:Nat)(s:S):itr f (k+1) s=f k (itr f k s):=rfl
variable {R:Type}
theorem R2(f:Nat->S->S ⊕ R)(s:S):D4 f 0 s= .inl s:=rfl
variable {k:Nat}
theorem N2 {f:Nat->S->S ⊕ R}{s s':S}{r:S ⊕ R}(h:D4 f k s= .inl s')(h':f k s'=r):D4 f (k+1) s=r:=by simp only[D4,h,h']
theorem E4x {S R:Type}{f:Nat->S->S ⊕ R}{k:Nat}{s:S}{r:R}(h:D4 f k s= .inr r): ∀j,D4 f (k+j) s= .inr r
 |0=>h
 |j+1=>by have:=E4x h j;show D4 f (k+j+1) s=_;simp only[D4,this]
variable {n:Nat}
theorem Z2 {f:Nat->S->S ⊕ R}{s:S}{r:R}(h:D4 f k s= .inr r)(hk:k<=n):D4 f n s= .inr r:=by obtain⟨j,rfl⟩:=Nat.exists_eq_add_of_le hk;exact E4x h j
def mrg {S:Type}:S ⊕ S->S
 | .inl s=>s
 | .inr s=>s
theorem A05(s:S):mrg (.inl s:S ⊕ S)=s:=rfl
theorem A06(s:S):mrg (.inr s:S ⊕ S)=s:=rfl
theorem B0c {R:Type}{f:Nat->Unit->Unit ⊕ R}{r:R}{p:Nat->Bool}(h: ∀i,f i ()=if p i=true then .inr r else .inl ()): ∀n,D4 f n ()=if(List.range n).any p=true then .inr r else .inl ()
 |0=>rfl
 |n+1=>by
  simp only[D4,B0c h n,List.range_succ,List.any_append,List.any_cons,List.any_nil,Bool.or_false,Bool.or_eq_true];by_cases hc:(List.range n).any p=true
  ·simp only[hc,if_true,true_or]
  ·simp only[hc,if_false,false_or,h,Bool.false_eq_true]
variable {α:Type} {l:List α}
theorem B6k {d:α}{p:α->Bool}:(List.range l.length).any (λi=>p (l.getD i d))=l.any p:=by
 rw[Bool.eq_iff_iff,List.any_eq_true,List.any_eq_true];constructor
 ·rintro⟨i,hi,h⟩;rw[List.mem_range]at hi;exact⟨_,B7 d hi,h⟩
 ·rintro⟨x,hx,h⟩;obtain⟨i,hi,rfl⟩:=List.getElem_of_mem hx;exact⟨i,List.mem_range.2 hi,by simpa[List.getD,hi]using h⟩
theorem E4z {α S:Type}{f:Nat->S->S}{g:S->α->S}{l:List α}(d:α)(h: ∀i s,i<l.length->f i s=g s (l.getD i d)): ∀n,n<=l.length-> ∀s,itr f n s=(l.take n).foldl g s
 |0,_,s=>rfl
 |n+1,hn,s=>by rw[E4,E4z d h n (by omega),K9 d (by omega),List.foldl_append,h _ _ (by omega)];rfl
theorem F23 {f:Nat->S->S}{g:S->α->S}(d:α)(h: ∀i s,i<l.length->f i s=g s (l.getD i d))(s:S):itr f l.length s=l.foldl g s:=by rw[E4z d h _ (Nat.le_refl _),List.take_length]
theorem A7w {S:Type}{f:Nat->S->S}(len:S->Nat)(k:Nat)(h: ∀i s,len (f i s)<=len s+k): ∀n s,len (itr f n s)<=len s+k*n
 |0,s=>by simp[itr]
 |n+1,s=>by have:=h n (itr f n s);have:=A7w len k h n s;rw[E4,Nat.mul_succ];omega
theorem B4(p:Prop) [Decidable p](b:Bool):(if p then b else false)=(decide p&&b):=by by_cases h:p <;> simp[h]
theorem C3(p:Prop) [Decidable p](b:Bool):(if p then true else b)=(decide p||b):=by by_cases h:p <;> simp[h]
theorem A9(b:Bool):decide (b=true)=b:=by cases b <;> rfl
theorem C5(b:Bool):decide (b=false)= !b:=by cases b <;> rfl
theorem B8a {α:Type}{z:Nat}{enc:α->List AV}{d:α}: ∀ {l:List α} {i:Nat},(∀a∈l,(enc a).length=z)->i<l.length->((l.flatMap enc).drop (i*z)).take z=enc (l.getD i d)
 | [],i,_,h=>by simp at h
 |a::l,0,hz,_=>by have:=hz a (by simp);simp only[List.flatMap_cons,Nat.zero_mul,List.drop_zero];rw[<-this,List.take_left];rfl
 |a::l,i+1,hz,h=>by
  have ha:=hz a (by simp)
  have e:(i+1)*z=(enc a).length+i*z:=by rw[ha,Nat.add_mul];omega
  rw[List.flatMap_cons,e,<-List.drop_drop,List.drop_left];have:=B8a (d:=d) (l:=l) (i:=i) (λb hb=>hz b (by simp[hb])) (by simpa using h);rw[this];simp[List.getD]
variable {z:Nat}
theorem E35 {enc:α->List AV}{d:α}{cells:List AV}(hz: ∀a∈l,(enc a).length=z)(hc:cells=l.flatMap enc)(hn:n=l.length):
  M4 (.dsl z n λi=>(cells.drop (i*z)).take z) (A2 z enc d l):=by
 subst hc;subst hn;simp only[A2,M4,true_and];intro i hi;rw[B8a (d:=d) hz hi];exact L3 _
variable {n':Nat}
theorem A2e {enc:α->List AV}{d:α}{cells:List AV}(hz: ∀a∈l,(enc a).length=z)(hc:cells=l.flatMap enc)(hn:n=l.length)(hn':n'=l.length):
  M4 (.dsl z n λi=>(cells.drop (i*z)).take z) (.dsl z n' (L7 enc d l)):=by
 subst hn';exact E35 hz hc hn
variable {i:Nat}
theorem F7g {k:IntKind}{a b c d:Int}(h:i<4): [AV.sc (.int k a),AV.sc (.int k b),AV.sc (.int k c),AV.sc (.int k d)].getD i .hole= .sc (.int k ([a,b,c,d].getD i 0)):=by
 match i,h with
 |0,_=>rfl
 |1,_=>rfl
 |2,_=>rfl
 |3,_=>rfl
theorem F7d {a0 a1 a2 a3 a4 a5 a6 a7 a8 a9 a10 a11 a12 a13 a14 a15 a16 a17 a18 a19:AV}{k:IntKind}{a b c d:Int}(h:i<4):List.drop (20+i*1) [a0,a1,a2,a3,a4,a5,a6,a7,a8,a9,a10,a11,a12,a13,a14,a15,a16,a17,a18,a19, .sc (.int k a), .sc (.int k b), .sc (.int k c), .sc (.int k d)]=
  .sc (.int k ([a,b,c,d].getD i 0))::List.drop (i+1) [.sc (.int k a), .sc (.int k b), .sc (.int k c), .sc (.int k d)]:=by
 match i,h with
 |0,_=>rfl
 |1,_=>rfl
 |2,_=>rfl
 |3,_=>rfl
theorem C9x(id:Nat)(o:A5):ofL [(id,o)]=upd (λ_=>none) id (some o):=rfl
variable {f:FuncId} {P:Program} {s:Sq} {args:List AV}
theorem A1.shrink {id:Nat}(h:A1 P f args [] (.sl id 0 0 n) [(id, .arr z s)])(hn:n=s.n)(g:Nat->List AV):
  A1 P f args [] (.sl id 0 0 0) [(id, .arr z ⟨0,g⟩)]:=by
 refine⟨h.1,λG w ob vals hs hr=>(h.2 G w ob vals hs hr).mono ?_⟩;rintro e w' ⟨v,G',ob',rfl,h1,h2,h3,h4⟩;have m1: ∀q o,ofL [(id,A5.arr z s)] q=some o->q=id/\o= .arr z s:=λq o hq=>by
  have hq:upd (λ_=>none) id (some (A5.arr z s)) q=some o:=hq;simp only[upd]at hq;split at hq
  ·exact⟨by assumption,(Option.some.inj hq).symm⟩
  ·cases hq
 have m2: ∀q o,ofL [(id,A5.arr z ⟨0,g⟩)] q=some o->q=id/\o= .arr z ⟨0,g⟩:=λq o hq=>by
  have hq:upd (λ_=>none) id (some (A5.arr z ⟨0,g⟩)) q=some o:=hq;simp only[upd]at hq;split at hq
  ·exact⟨by assumption,(Option.some.inj hq).symm⟩
  ·cases hq
 have mid:ofL [(id,A5.arr z s)] id=some (.arr z s):=by rw[C9x];simp
 cases h2 with
 |sl i hi hle hss hvv=>
  obtain⟨hk,hz,hl,hc,hrow⟩:=h1.own id _ i mid hi;have hsl:=hvv (by rw[hl,hn])
  have hob: ∀q,ob q=none:=λq=>(hs.dom q).1 rfl
  have hnone: ∀q,q≠id->ob' q=none:=λq hq=>(h1.dom q).1 (by rw[C9x,G9 hq])
  have hhas: ∀b,({i with len:=0}:J3).has b->i.has b:=λb hb=>hb;refine⟨v,G',upd ob' id (some {i with len:=0}),rfl,⟨λq=> ?_,λq r j k b hj hk' hjb hkb=> ?_,h1.lt,λq o j ho hj=> ?_,λq o j b ho how hj hjb=> ?_⟩,
   .sl {i with len:=0} (by simp) (Nat.le_refl _) hss λ_=>⟨Nat.le_refl _,hsl.2.1,hsl.2.2⟩,⟨h3.size,λb hb hc=>h3.same b hb hc,λb hb=> ?_,h3.sub,h3.new,h3.os,h3.tape,h3.output,h3.drawn⟩,λq j hj=>by rw[hob q]at hj;cases hj⟩
  ·rw[C9x];by_cases hq:q=id
   ·subst hq;simp
   ·simp only[G9 hq,hnone q hq]
  ·have: ∀q j,upd ob' id (some {i with len:=0}) q=some j->q=id:=λq j hj=>by
    by_cases hq:q=id
    ·exact hq
    ·rw[G9 hq,hnone q hq]at hj;cases hj
   rw[this q j hj,this r k hk']
  ·obtain⟨rfl,rfl⟩:=m2 q o ho;simp only[A0c,Option.some.injEq]at hj;subst hj;refine⟨hk,hz,rfl,Nat.zero_le _,?_⟩;rcases hrow with⟨a1,_,a3⟩ |⟨b,arr,T,a1,a2,a3,_⟩
   ·exact .inl ⟨a1,rfl,a3⟩
   ·exact .inr ⟨b,arr,T,a1,a2,a3,λk hk=>by simp at hk,λk j av hk=>by simp at hk⟩
  ·obtain⟨rfl,rfl⟩:=m2 q o ho;simp only[A0c,Option.some.injEq]at hj;subst hj;exact h1.sep q _ i b mid rfl hi (hhas b hjb)
  ·obtain⟨q,j,hj,hjb⟩:=hb;by_cases hq:q=id
   ·subst hq;simp only[A0c,Option.some.injEq]at hj;subst hj;exact h3.blk b ⟨q,i,hi,hhas b hjb⟩
   ·rw[G9 hq,hnone q hq]at hj;cases hj
theorem A1.dataRes {id:Nat}(h:A1 P f args [] (.sl id 0 s.n s.n) [(id, .arr z s)]):A1 P f args [] (.dsl z s.n s.g) []:=by
 refine⟨h.1,λG w ob vals hs hr=>(h.2 G w ob vals hs hr).mono ?_⟩;rintro e w' ⟨v,G',ob',rfl,h1,h2,h3,h4⟩;have mid:ofL [(id,A5.arr z s)] id=some (.arr z s):=by rw[C9x];simp
 obtain⟨G2,a1,a2,a3,_⟩:=h1.freeze mid;have hd:=D1n a1 (A0c _ _ _) (h2.ext a2 (λ_ _=>rfl) (C9.refl ob')) rfl
 have hd:Rel G2 w' ob' (.dsl z s.n s.g) v:=by simpa using hd
 have hob: ∀q,ob q=none:=λq=>(hs.dom q).1 rfl;refine⟨v,G2,λ_=>none,rfl,⟨λq=>⟨λ_=>rfl,λ_=>rfl⟩,(by intro _ _ _ _ _ h;cases h),a1.lt,(by intro _ _ _ h;cases h),(by intro _ _ _ _ h;cases h)⟩,
  hd.ob_free rfl,⟨h3.size,h3.same,λb hb=> ?_,λb hb=>a2 b (h3.sub b hb),λb hb=> ?_,h3.os,h3.tape,h3.output,h3.drawn⟩,λq j hj=>by rw[hob q]at hj;cases hj⟩
 ·obtain⟨q,j,hj,_⟩:=hb;cases hj
 ·rcases a3 b hb with hb |hb
  ·exact h3.new b hb
  ·rcases h3.blk b hb with hb |hb
   ·exact .inr (.inr hb)
   ·exact .inr (.inl hb)
variable {O:List (Nat×A5)}
theorem A1.res_le {O1:List (Nat×A5)}{r r':AV}(h:A1 P f args O r O1)(hr:K7 r r'):A1 P f args O r' O1:=by refine⟨h.1,λG w ob vals hs hv=>(h.2 G w ob vals hs hv).mono ?_⟩;rintro e w' ⟨v,G',ob',rfl,h1,h2,h3,h4⟩;exact⟨v,G',ob',rfl,h1,hr.rel _ _ _ _ h2,h3,h4⟩
attribute [go_sem_proc ↓] reduceIte
attribute [go_sem_proc] Nat.reduceEqDiff reduceCtorEq Nat.reduceAdd Nat.reduceLeDiff Nat.reduceMul Nat.reduceSub Int.reduceToNat
variable {p:Prop}
theorem ob_(h:p:=by((repeat' (with_reducible apply And.intro)) <;> first |omega |(simp only[IntKind.wrap_i64];omega) |(exact Int.tmod_nonneg _ (by first |omega |(rw[IntKind.wrap_i64];omega))) |(exact Int.tmod_lt_of_pos _ (by omega)) |(intro hob0;(repeat' (with_reducible apply And.intro)) <;> first |omega |(exact Int.tmod_nonneg _ (by first |omega |(rw[IntKind.wrap_i64];omega))) |(exact Int.tmod_lt_of_pos _ (by omega))) |trivial |assumption |(simp only[maxLen];omega) |(intro hob;first |omega |(simp only[Bool.and_eq_true,Bool.or_eq_true,decide_eq_true_eq,Bool.not_eq_true',decide_eq_false_iff_not,Bool.or_eq_false_iff]at hob;first |omega |(simp only[IntKind.wrap_i64];omega)) |(simp only[hob,Bool.not_false,Bool.not_true,Bool.true_and,Bool.and_true,true_and,and_true,imp_self,implies_true];done) |(simp[hob];done) |(simp_all;done) |(simp_all;omega)))):p:=h
theorem A23(h:p:=by((try dsimp only);(repeat' (with_reducible apply And.intro)) <;> first |with_reducible rfl |trivial |(rw[IntKind.wrap_i64];omega) |omega |(simp only[List.length_append,List.length_cons,List.length_nil];done) |rfl |exact O9 rfl |exact A3p rfl |(simp only[go_sem,↓reduceIte,Nat.reduceEqDiff,reduceCtorEq,Nat.reduceAdd,Nat.reduceLeDiff,Nat.reduceMul,Nat.reduceSub,Int.reduceToNat,B4,C3,A9,C5];done) |(simp_all;done) |(simp only[decide_eq_false_iff_not,Bool.not_eq_false,decide_eq_true_eq]at*;omega) |(intro hob;simp only[hob,Bool.not_false,Bool.not_true,Bool.true_and,Bool.and_true,true_and,and_true,imp_self,implies_true];done) |(intro hob;simp[hob];done) |((repeat' (with_reducible apply And.intro)) <;> first |omega |(simp only[IntKind.wrap_i64];omega) |(exact Int.tmod_nonneg _ (by first |omega |(rw[IntKind.wrap_i64];omega))) |(exact Int.tmod_lt_of_pos _ (by omega)) |(intro hob0;(repeat' (with_reducible apply And.intro)) <;> first |omega |(exact Int.tmod_nonneg _ (by first |omega |(rw[IntKind.wrap_i64];omega))) |(exact Int.tmod_lt_of_pos _ (by omega))) |trivial |assumption |(simp only[maxLen];omega) |(intro hob;first |omega |(simp only[Bool.and_eq_true,Bool.or_eq_true,decide_eq_true_eq,Bool.not_eq_true',decide_eq_false_iff_not,Bool.or_eq_false_iff]at hob;first |omega |(simp only[IntKind.wrap_i64];omega)) |(simp only[hob,Bool.not_false,Bool.not_true,Bool.true_and,Bool.and_true,true_and,and_true,imp_self,implies_true];done) |(simp[hob];done) |(simp_all;done) |(simp_all;omega))))):p:=h
theorem hd_ {α:Sort _}{a b:α}(h:a=b:=by first |with_reducible rfl |(simp only[*,if_true,if_false,eq_self,Bool.false_eq_true,Bool.true_eq_false,not_true_eq_false,not_false_eq_true,reduceCtorEq,H3,R2,A05,A06,Bool.and_true,Bool.true_and,Bool.and_false,Bool.false_and,Bool.or_true,Bool.true_or,Bool.or_false,Bool.false_or,Bool.not_true,Bool.not_false,decide_true,decide_false] <;> first |with_reducible rfl |rfl) |((repeat' split) <;> first |rfl |omega |(simp_all;done) |(simp_all;omega))):a=b:=h
theorem ok_(h:p:=by((repeat' (with_reducible apply And.intro)) <;> first |omega |(simp only[maxLen];omega))):p:=h
variable {σ:St} {K:List Nat} {T:H6}
theorem D7(ρs:List (Nat×Nat))(A:List Nat)(h4:A3b σ (A6 ρs) A O T [] λwr=>B34 (wrm σ.objs wr) (A6 ρs) A O O)(h1:(O.map (·.1)).Nodup:=by simp[go_sem])(h2:(((O.map (·.1)).filter λi=> !A.contains i).map (A6 ρs)).Nodup:=by simp[A6,go_sem])(h3: ∀k∈K,k∉A/\A6 ρs k=k/\(ofL O k).isSome:=by simp[go_sem]):Y5 K σ T O:=B6 ρs A h1 h2 h3 h4
def lit:Nat->Option Nat
 |0=>some 0 |1=>some 1 |2=>some 2 |3=>some 3 |4=>some 4 |5=>some 5 |6=>some 6 |7=>some 7 |8=>some 8 |9=>some 9 |10=>some 10 |11=>some 11 |12=>some 12 |13=>some 13 |14=>some 14 |15=>some 15 |16=>some 16 |17=>some 17 |18=>some 18 |19=>some 19 |20=>some 20 |21=>some 21 |22=>some 22 |23=>some 23 |24=>some 24 |25=>some 25 |26=>some 26 |27=>some 27 |28=>some 28 |29=>some 29 |30=>some 30 |31=>some 31 |32=>some 32 |33=>some 33 |34=>some 34 |35=>some 35 |36=>some 36 |37=>some 37 |38=>some 38 |39=>some 39 |40=>some 40 |41=>some 41 |42=>some 42 |43=>some 43 |44=>some 44 |45=>some 45 |46=>some 46 |47=>some 47 |48=>some 48 |49=>some 49 |50=>some 50 |51=>some 51 |52=>some 52 |53=>some 53 |54=>some 54 |55=>some 55 |56=>some 56 |57=>some 57 |58=>some 58 |59=>some 59 |60=>some 60 |61=>some 61 |62=>some 62 |63=>some 63 |64=>some 64 |72=>some 72 |80=>some 80 |88=>some 88 |96=>some 96 |104=>some 104 |112=>some 112 |120=>some 120 |128=>some 128 |136=>some 136 |144=>some 144 |152=>some 152 |160=>some 160 |168=>some 168 |176=>some 176 |184=>some 184 |192=>some 192 |200=>some 200 |208=>some 208 |216=>some 216 |224=>some 224 |232=>some 232 |240=>some 240 |248=>some 248 |256=>some 256 |264=>some 264 |272=>some 272 |280=>some 280 |288=>some 288 |296=>some 296 |304=>some 304 |312=>some 312 |320=>some 320
 |n=>some n
theorem A1h {m:Nat}(h:lit n=some m):n=m:=by unfold lit at h;split at h <;> injection h
def cpy {α:Type}(f:α->Option α):List α->Option (List α)
 | []=>some []
 |x::xs=>match f x,cpy f xs with
  |some y,some ys=>some (y::ys)
  |_,_=>none
theorem A6d {α:Type}{f:α->Option α}(hf: ∀x y,f x=some y->x=y): ∀ {l m:List α},cpy f l=some m->l=m
 | [],m,h=>by simp only[cpy]at h;injection h
 |x::xs,m,h=>by
  simp only[cpy]at h;split at h
  ·rename_i y ys h1 h2;injection h with h;rw[hf _ _ h1,A6d hf h2,h]
  ·cases h
def B84:Value->Option Value
 | .int k n=>some (.int k n)
 | .bool b=>some (.bool b)
 | .slice none l c=>some (.slice none l c)
 |v=>some v
theorem B24(v u:Value)(h:B84 v=some u):v=u:=by unfold B84 at h;split at h <;> injection h
def D9d(p:Nat×Nat×AX):Option (Nat×Nat×AX):=match p with
 |(a,b,x)=>match lit a,lit b with
  |some a',some b'=>some (a',b',x)
  |_,_=>none
theorem D1a(p q:Nat×Nat×AX)(h:D9d p=some q):p=q:=by
 obtain⟨a,b,x⟩:=p;simp only[D9d]at h;split at h
 ·rename_i h1 h2;injection h with h;rw[<-h,A1h h1,A1h h2]
 ·cases h
def nrm:AOp->Option AOp
 | .alloc z=>match cpy B84 z with |some z'=>some (.alloc z') |none=>none
 | .build z ps=>match cpy B84 z,cpy D9d ps with |some z',some ps'=>some (.build z' ps') |_,_=>none
 | .bslice e n z ps=>match lit e,lit n,cpy B84 z,cpy D9d ps with |some e',some n',some z',some ps'=>some (.bslice e' n' z' ps') |_,_,_,_=>none
 | .load (some n) x=>match lit n with |some m=>some (.load (some m) x) |none=>none
 | .store n x y=>match lit n with |some m=>some (.store m x y) |none=>none
 | .faddr n x=>match lit n with |some m=>some (.faddr m x) |none=>none
 | .fld n none x=>match lit n with |some m=>some (.fld m none x) |none=>none
 | .fld n (some k) x=>match lit n,lit k with |some m,some j=>some (.fld m (some j) x) |_,_=>none
 | .iaddr n x i=>match lit n with |some m=>some (.iaddr m x i) |none=>none
 | .aaddr n k x i=>match lit n,lit k with |some m,some j=>some (.aaddr m j x i) |_,_=>none
 | .aslice n k x=>match lit n,lit k with |some m,some j=>some (.aslice m j x) |_,_=>none
 | .aslc n k x l h=>match lit n,lit k with |some m,some j=>some (.aslc m j x l h) |_,_=>none
 | .append n k x y=>match lit n,lit k with |some m,some j=>some (.append m j x y) |_,_=>none
 | .slice n x a b c=>match lit n with |some m=>some (.slice m x a b c) |none=>none
 | .mkslice n k z x y=>match lit n,lit k,cpy B84 z with |some m,some j,some z'=>some (.mkslice m j z' x y) |_,_,_=>none
 | .appz n k z x y=>match lit n,lit k,cpy B84 z with |some m,some j,some z'=>some (.appz m j z' x y) |_,_,_=>none
 | .copy n x y=>match lit n with |some m=>some (.copy m x y) |none=>none
 | .clr n z x=>match lit n,cpy B84 z with |some m,some z'=>some (.clr m z' x) |_,_=>none
 | .aidx n x i=>match lit n with |some m=>some (.aidx m x i) |none=>none
 |a=>some a
theorem G1q {a b:AOp}(h:nrm a=some b):a=b:=by
 unfold nrm at h;split at h
 all_goals first
  |(injection h)
  |(split at h
    ·rename_i e1;injection h with h;subst h;first |rw[A1h e1] |rw[A6d B24 e1]
    ·cases h)
  |(split at h
    ·rename_i e1 e2;injection h with h;subst h;first |rw[A1h e1,A1h e2] |rw[A1h e1,A6d B24 e2] |rw[A6d B24 e1,A6d D1a e2]
    ·cases h)
  |(split at h
    ·rename_i e1 e2 e3;injection h with h;subst h;rw[A1h e1,A1h e2,A6d B24 e3]
    ·cases h)
  |(split at h
    ·rename_i e1 e2 e3 e4;injection h with h;subst h;rw[A1h e1,A1h e2,A6d B24 e3,A6d D1a e4]
    ·cases h)
def F2l(N:Nat)(dst:Option Tmp)(guard:Option (Nat×Bool))(ops:Array Oper)(aop:AOp):Option AOper:=
 match F0l N dst with
 |true=>match guard with
  |none=>some ⟨dst,aop,none,[]⟩
  |some (j,want)=>match(ops[j]?).bind (·.dst)with
   |some g=>match lit g with
    |some g'=>some ⟨dst,aop,some (g',want),[]⟩
    |none=>none
   |none=>none
 |false=>none
def zl(z:Value):Option (List Value):=match z with
 | .agg cs=>match cpy B84 cs.toList with
   |some l=>match l.all Value.oneCell' with
    |true=>some l
    |false=>none
   |none=>none
 |v=>match v.oneCell',B84 v with
  |true,some u=>some [u]
  |_,_=>none
theorem A9s {z:Value}{l:List Value}(h:zl z=some l):z.cells.all Value.oneCell'=true/\z.cells.toList=l:=by
 unfold zl at h;split at h
 ·rename_i cs;split at h
  ·rename_i l' e1;split at h
   ·rename_i e2;injection h with h;subst h;have e3:=A6d B24 e1;exact⟨by show cs.all _=true;rw[<-Array.all_toList,e3];exact e2,e3⟩
   ·cases h
  ·cases h
 ·rename_i hv;have hc:z.cells= #[z]:=by cases z <;> first |exact absurd rfl (hv _) |rfl
  split at h
  ·rename_i e1 e2;injection h with h;subst h;have e3:=B24 _ _ e2;subst e3;rw[hc];exact⟨by simp[e1],rfl⟩
  ·cases h
def C2a(l:List Value):Nat->List Value
 |0=> []
 |n+1=>l++C2a l n
theorem D5h(l:List Value): ∀n,(C2a l n).length=n*l.length
 |0=>by simp[C2a]
 |n+1=>by rw[C2a,List.length_append,D5h l n,Nat.succ_mul,Nat.add_comm]
theorem E5h(l:List Value)(d:Value): ∀n k,k<n*l.length->(C2a l n).getD k d=l.getD (k%l.length) d
 |0,k,h=>by simp at h
 |n+1,k,h=>by
  rw[C2a];by_cases hk:k<l.length
  ·rw[Nat.mod_eq_of_lt hk];simp only[List.getD];rw[List.getElem?_append_left hk]
  ·have h2:k-l.length<n*l.length:=by rw[Nat.succ_mul]at h;omega
   have:=E5h l d n (k-l.length) h2;simp only[List.getD]at this⊢;rw[List.getElem?_append_right (by omega),this,Nat.mod_eq_sub_mod (a:=k) (by omega)]
variable {len size:Nat}
theorem F91 {z:Value}{l:List Value}(h:z.cells.toList=l)(hs:z.cells.size=size):((Array.range (len*size)).map (z.cells[· %z.cells.size]!)).toList=C2a l len:=by
 have hl:l.length=size:=by rw[<-h,<-hs];simp
 refine List.ext_getElem (by simp[D5h,hl]) λi h1 h2=> ?_;have hi:i<len*l.length:=by rw[D5h]at h2;exact h2
 have e:=E5h l (default:Value) len i hi
 have e1:(C2a l len).getD i default=(C2a l len)[i]:=by simp[List.getD,h2]
 rw[<-e1,e];simp only[Array.getElem_toList,Array.getElem_map,Array.getElem_range,hs,hl];have hm:i%size<z.cells.size:=by rw[hs];exact Nat.mod_lt _ (by rw[<-hl];rcases Nat.eq_zero_or_pos l.length with h0 |h0;(rw[h0]at hi;simp at hi);exact h0)
 rw[getElem!_pos z.cells _ hm,<-h];simp[List.getD,hm]
def D40(P:Program)(op:Op):Option AOp:=match cop P op with
 |some aop=>nrm aop
 |none=>some .bad
def B80:List (Nat×List Bool)->Nat->Option (List Bool)
 | [],_=>none
 |p::l,t=>match Nat.beq p.1 t with
  |true=>some p.2
  |false=>B80 l t
def okE(P:Program)(L:List (Nat×List Bool)):Bool:=L.all λp=>decide (A1f P .eql p.1=some p.2)
theorem B6f {P:Program}: ∀ {L:List (Nat×List Bool)} {t:Nat} {sh:List Bool},okE P L=true->B80 L t=some sh->A1f P .eql t=some sh
 | [],_,_,_,h=>by cases h
 |p::l,t,sh,hk,h=>by
  simp only[okE,List.all_cons,Bool.and_eq_true,decide_eq_true_eq]at hk;simp only[B80]at h;split at h
  ·rename_i e;injection h with h;subst h;rw[<-Nat.eq_of_beq_eq_true e];exact hk.1
  ·exact B6f hk.2 h
def F5b(P:Program)(L:List (Nat×List Bool))(op:Op):Option AOp:=match op with
 | .binOp bop t x y u=>match B80 L t with
   |some sh=>match D7a P bop t y,cx x,cx y,D9c P bop t,E54 P bop t with
    |none,some a,some b,none,none=>(match bop with
     | .eql=>some (.eqa sh false a b)
     | .neq=>some (.eqa sh true a b)
     |_=>none)
    |_,_,_,_,_=>none
   |none=>D40 P (.binOp bop t x y u)
 | .alloc t=>match B4u P t with
   |some z=>match zl z with
    |some l=>some (.alloc l)
    |none=>none
   |none=>none
 | .build t D6=>match B4u P t,C5h P t with
   |some z,some place=>match zl z,D1x place D6.toList with
    |some l,some ps=>match cpy D9d ps with
     |some ps'=>some (.build l ps')
     |none=>none
    |_,_=>none
   |_,_=>none
 | .buildSlice t len D6=>match P.underlying t with
   |some (.slice el)=>match B4u P el,W5 P el with
    |some z,some size=>match zl z,lit size with
     |some l,some size'=>if z.cells.size=size'/\len*size'<=2^24 then(match D1x (λi=>some (i*size',size')) D6.toList with
      |some ps=>match cpy D9d ps,cpy B84 (C2a l len)with
       |some ps',some l'=>some (.bslice size' len l' ps')
       |_,_=>none
      |none=>none)else none
     |_,_=>none
    |_,_=>none
   |_=>none
 | .makeSlice t l c=>match P.underlying t with
   |some (.slice el)=>match P.info? el,cx l,cx c with
    |some i,some a,some b=>match i.zero with
     |some z=>match zl z,lit i.size,lit i.bytes with
      |some zs,some n,some k=>if z.cells.size=n then some (.mkslice n k zs a b)else none
      |_,_,_=>none
     |none=>none
    |_,_,_=>none
   |_=>none
 | .makeMap t none=>match P.underlying t with
   |some (.map kt _)=>match B80 L kt with
    |some sh=>match A1x P kt,lit sh.length,sh.all id with
     |none,some n,true=>some (.mkmapS n)
     |_,_,_=>none
    |none=>D40 P (.makeMap t none)
   |_=>none
 | .mapUpdate t x i y=>match P.underlying t,cx x,cx i,cx y with
   |some (.map kt _),some a,some b,some c=>match B80 L kt with
    |some sh=>match A1x P kt,lit sh.length,sh.all id with
     |none,some n,true=>some (.msetS n a b c)
     |_,_,_=>none
    |none=>D40 P (.mapUpdate t x i y)
   |_,_,_,_=>none
 | .lookup t x i ok=>match P.underlying t,cx x,cx i with
   |some (.map kt el),some a,some b=>match B80 L kt with
    |some sh=>match A1x P kt,B4u P el,lit sh.length,sh.all id with
     |none,some z,some n,true=>match zl z,B5m z with
      |some _,true=>some (.lookupS n z ok a b)
      |_,_=>none
     |_,_,_,_=>none
    |none=>match A1x P kt,B4u P el with
     |some k,some z=>match zl z,B5m z with
      |some _,true=>some (.lookup k z ok a b)
      |_,_=>none
     |_,_=>none
   |_,_,_=>none
 | .call c=>match c.callee,c.args.toList,c.argTypes.toList with
   | .builtin .append,[x,y],[t,u]=>match P.underlying t,cx x,cx y with
     |some (.slice el),some a,some b=>match P.info? el with
      |some i=>match i.zero with
       |some z=>if t=u/\z.cells.size=i.size then(match lit i.size,lit i.bytes with |some n,some k=>some (.append n k a b) |_,_=>none)else
        if(A1x P u).isSome=true/\z.cells.size=i.size/\0<i.size then(match zl z,lit i.size,lit i.bytes with |some zs,some n,some k=>some (.appz n k zs a b) |_,_,_=>none)else none
       |none=>none
      |none=>none
     |_,_,_=>none
   | .builtin .clear,[x],[t]=>match P.underlying t,cx x with
     |some (.slice el),some a=>match P.info? el with
      |some i=>match i.zero with
       |some z=>match zl z,lit i.size with
        |some zs,some n=>if z.cells.size=n then some (.clr n zs a)else none
        |_,_=>none
       |none=>none
      |none=>none
     |_,_=>none
   |_,_,_=>D40 P (.call c)
 |op=>D40 P op
theorem C3h {P:Program}{op:Op}{a:AOp}(h:D40 P op=some a):A8d P op=a:=by
 unfold D40 at h;unfold A8d;split at h
 ·rename_i e1;rw[e1];exact G1q h
 ·rename_i e1;rw[e1];injection h
theorem F8h {P:Program}{L:List (Nat×List Bool)}{op:Op}{a:AOp}(hL:okE P L=true)(h:F5b P L op=some a):A8d P op=a:=by
 unfold F5b at h;split at h
 ·rename_i bop t x y u;split at h
  ·rename_i sh e0;have e9:=B6f hL e0;split at h <;> try cases h
   rename_i a b e1 e2 e3 e4 e5;split at h <;> try cases h
   ·simp only[A8d,cop,e1,e2,e3,e4,e5,e9];rfl
   ·have e8:A1f P .neq t=some sh:=e9
    simp only[A8d,cop,e1,e2,e3,e4,e5,e8];rfl
  ·exact C3h h
 ·rename_i t;split at h <;> try cases h
  rename_i z e1;split at h <;> try cases h
  rename_i l e2;simp only[A8d,cop,e1,(A9s e2).1,(A9s e2).2,if_true]
 ·rename_i t D6;split at h <;> try cases h
  rename_i z place e1 e2;split at h <;> try cases h
  rename_i l ps e3 e4;split at h <;> try cases h
  rename_i ps' e5;have e6:=A6d D1a e5;subst e6;simp only[A8d,cop,e1,e2,(A9s e3).1,(A9s e3).2,e4,if_true]
 ·rename_i t len D6;split at h <;> try cases h
  rename_i el e1;split at h <;> try cases h
  rename_i z size e2 e3;split at h <;> try cases h
  rename_i l size' e4 e5;have:=A1h e5;subst this;split at h <;> try cases h
  rename_i hc;split at h <;> try cases h
  rename_i ps e6;split at h <;> try cases h
  rename_i ps' l' e7 e9;have e8:=A6d D1a e7;subst e8;rw[<-A6d B24 e9];simp only[A8d,cop,e1,e2,e3];rw[if_pos ⟨hc.1,(A9s e4).1,hc.2⟩];simp only[e6,F91 (A9s e4).2 hc.1]
 ·rename_i t l c;split at h <;> try cases h
  rename_i el e1;split at h <;> try cases h
  rename_i i a b e2 e3 e4;split at h <;> try cases h
  rename_i z e5;split at h <;> try cases h
  rename_i zs n k e6 e7 e8;split at h <;> try cases h
  rename_i hc;have e9:=A1h e7;have e10:=A1h e8;subst e10;subst e9;simp only[A8d,cop,e1,e2,e3,e4,e5];rw[if_pos ⟨hc,(A9s e6).1⟩,(A9s e6).2]
 ·rename_i t;split at h <;> try cases h
  rename_i kt el e1;split at h
  ·rename_i sh e0;have e9:=B6f hL e0;split at h <;> try cases h
   rename_i n e4 e5 e6;simp only[A8d,cop,e1,e4,e9];rw[if_pos e6,A1h e5]
  ·exact C3h h
 ·rename_i t x i y;split at h <;> try cases h
  rename_i kt el a b c e1 e2 e3 e3';split at h
  ·rename_i sh e0;have e9:=B6f hL e0;split at h <;> try cases h
   rename_i n e4 e5 e6;simp only[A8d,cop,e1,e2,e3,e3',e4,e9];rw[if_pos e6,A1h e5]
  ·exact C3h h
 ·rename_i t x i ok;split at h <;> try cases h
  rename_i kt el a b e1 e2 e3;split at h
  ·rename_i sh e0;have e9:=B6f hL e0;split at h <;> try cases h
   rename_i z n e4 e5 e6 e7;split at h <;> try cases h
   rename_i e8 e10;simp only[A8d,cop,e1,e2,e3,e4,e5,e9];rw[if_pos ⟨e7,(A9s e8).1,e10⟩,A1h e6]
  ·split at h <;> try cases h
   rename_i k z e4 e5;split at h <;> try cases h
   rename_i e6 e7;simp only[A8d,cop,e1,e2,e3,e4,e5];rw[if_pos ⟨(A9s e6).1,e7⟩]
 ·rename_i c;split at h
  ·rename_i x y t u e1 e2 e3;split at h <;> try cases h
   rename_i el a b e4 e5 e6;split at h <;> try cases h
   rename_i i e7;split at h <;> try cases h
   rename_i z e8;simp only[A8d,cop,e1,e2,e3,e4,e5,e6,e7,e8];split at h
   ·rename_i hc;split at h <;> try cases h
    rename_i n k e9 e10;rw[if_pos hc,A1h e9,A1h e10]
   ·rename_i hc;rw[if_neg hc];split at h <;> try cases h
    rename_i hd;split at h <;> try cases h
    rename_i zs n k e9 e10 e11;rw[if_pos ⟨hd.1,hd.2.1,(A9s e9).1,hd.2.2⟩,(A9s e9).2,A1h e10,A1h e11]
  ·rename_i x t e1 e2 e3;split at h <;> try cases h
   rename_i el a e4 e5;split at h <;> try cases h
   rename_i i e7;split at h <;> try cases h
   rename_i z e8;split at h <;> try cases h
   rename_i zs n e9 e10;split at h <;> try cases h
   rename_i hc;have e11:=A1h e10;subst e11;simp only[A8d,cop,e1,e2,e3,e4,e5,e7,e8];rw[if_pos ⟨hc,(A9s e9).1⟩,(A9s e9).2]
  ·exact C3h h
 ·exact C3h h
def E4c(P:Program)(L:List (Nat×List Bool))(N:Nat)(ops:Array Oper)(o:Oper):Option AOper:=
 match o with
 |⟨dst,op,_,_,_,guard⟩=>match F5b P L op with
  |some aop=>F2l N dst guard ops aop
  |none=>none
variable {N:Nat}
theorem F2m {P:Program}{L:List (Nat×List Bool)}{ops:Array Oper}{o:Oper}{a:AOper}(hL:okE P L=true)(h:E4c P L N ops o=some a):B2b P N ops o=some a:=by
 obtain⟨dst,op,type,pos,after,guard⟩:=o;simp only[E4c]at h;split at h
 ·rename_i aop e1;simp only[B2b,F8h hL e1];unfold F2l at h;split at h
  ·rename_i e2;simp only[e2,if_true];split at h
   ·exact h
   ·split at h
    ·rename_i e3;split at h
     ·rename_i e4;rw[A1h e4]at e3;simp only[e3];exact h
     ·cases h
    ·cases h
  ·cases h
 ·cases h
def B0q(P:Program)(L:List (Nat×List Bool))(N:Nat)(ops:Array Oper):List Oper->Option (List AOper)
 | []=>some []
 |o::os=>match E4c P L N ops o,B0q P L N ops os with
  |some a,some as=>some (a::as)
  |_,_=>none
theorem A8e {P:Program}{L:List (Nat×List Bool)}{N:Nat}{ops:Array Oper}(hL:okE P L=true): ∀ {l as},B0q P L N ops l=some as->T8 P N ops l=some as
 | [],_,h=>h
 |o::os,_,h=>by
  simp only[B0q]at h;split at h
  ·rename_i e1 e2;simp only[T8,F2m hL e1,A8e hL e2];exact h
  ·cases h
def F5d(o:AOper):Option AOper:=match o with
 |⟨some d,op,some (g,w),chk⟩=>match cpy lit chk with
  |some c=>some ⟨some d,op,some (g,w),c⟩
  |none=>none
 |⟨some d,op,none,chk⟩=>match cpy lit chk with
  |some c=>some ⟨some d,op,none,c⟩
  |none=>none
 |⟨none,op,g,chk⟩=>match cpy lit chk with
  |some c=>some ⟨none,op,g,c⟩
  |none=>none
theorem F8i(o q:AOper)(h:F5d o=some q):o=q:=by unfold F5d at h;split at h <;> split at h <;> first |(rename_i e;injection h with h;rw[<-h,A6d (λ_ _=>A1h) e]) |cases h
def C43(P:Program)(L:List (Nat×List Bool))(N:Nat)(ops:Array Oper)(draw:Bool):Option (List AOper):=
 match B0q P L N ops ops.toList with
 |some as=>match draw with
  |true=>match C3j ops.toList 0 with
   |true=>match B5c [] as (C5e ops.toList [])with
    |some bs=>cpy F5d bs
    |none=>none
   |false=>none
  |false=>some as
 |none=>none
variable {as:List AOper}
theorem E68 {P:Program}{L:List (Nat×List Bool)}{ops:Array Oper}{draw:Bool}(hL:okE P L=true)(h:C43 P L N ops draw=some as):B0r P N ops draw=some as:=by
 unfold C43 at h;split at h
 ·rename_i e1;simp only[B0r,A8e hL e1];split at h
  ·split at h
   ·rename_i e2;split at h
    ·rename_i e3;rw[if_pos rfl,if_pos e2,e3,A6d F8i h]
    ·cases h
   ·cases h
  ·rw[if_neg (by decide)];exact h
 ·cases h
def M5(P:Program)(L:List (Nat×List Bool))(N:Nat):Code->Option ACode
 | .skip=>some .skip
 | .region _ ops draw=>match draw with
   |true=>match C43 P L N ops true with
    |some as=>some (.region true as)
    |none=>none
   |false=>match C43 P L N ops false with
    |some as=>some (.region false as)
    |none=>none
 | .seq a b=>match M5 P L N a,M5 P L N b with
   |some x,some y=>some (.seq x y)
   |_,_=>none
 | .cond c a b=>match cx c,M5 P L N a,M5 P L N b with
   |some k,some x,some y=>some (.cond k x y)
   |_,_,_=>none
 | .block id a=>match M5 P L N a with
   |some x=>some (.block id x)
   |none=>none
 | .loop a=>match M5 P L N a with
   |some x=>some (.loop x)
   |none=>none
 | .scope a=>match M5 P L N a with
   |some x=>some (.scope x)
   |none=>none
 | .exit id=>some (.exit id)
 | .label _=>some .skip
 | .ret=>some .ret
 |_=>none
theorem D3f {P:Program}{L:List (Nat×List Bool)}(hL:okE P L=true): ∀ {c ac},M5 P L N c=some ac->D9 P N c=some ac:=by
 intro c;induction c with
 |region i ops draw=>intro ac h;cases draw <;> simp only[M5]at h <;> split at h <;> first |(rename_i e;simp only[D9,E68 hL e];exact h) |cases h
 |seq a b ha hb=>
  intro ac h;simp only[M5]at h;split at h
  ·rename_i e1 e2;simp only[D9,ha e1,hb e2];exact h
  ·cases h
 |cond c a b ha hb=>
  intro ac h;simp only[M5]at h;split at h
  ·rename_i e0 e1 e2;simp only[D9,e0,ha e1,hb e2];exact h
  ·cases h
 |block i a ha=>
  intro ac h;simp only[M5]at h;split at h
  ·rename_i e1;simp only[D9,ha e1];exact h
  ·cases h
 |scope a ha=>
  intro ac h;simp only[M5]at h;split at h
  ·rename_i e1;simp only[D9,ha e1];exact h
  ·cases h
 |loop a ha=>
  intro ac h;simp only[M5]at h;split at h
  ·rename_i e1;simp only[D9,ha e1];exact h
  ·cases h
 |_=>exact λ{ac} h=>h
theorem E18 {P:Program}: ∀ {c ac},D9 P N c=some ac->ac.strip=ac:=by
 intro c;induction c with
 |region i ops draw=>
  intro ac h;simp only[D9]at h;split at h
  ·injection h with h;subst h;rfl
  ·cases h
 |seq a b ha hb=>
  intro ac h;simp only[D9]at h;split at h
  ·rename_i e1 e2;injection h with h;subst h;simp only[ACode.strip,ha e1,hb e2]
  ·cases h
 |cond c a b ha hb=>
  intro ac h;simp only[D9]at h;split at h
  ·rename_i e0 e1 e2;injection h with h;subst h;simp only[ACode.strip,ha e1,hb e2]
  ·cases h
 |block i a ha=>
  intro ac h;simp only[D9]at h;split at h
  ·rename_i e1;injection h with h;subst h;simp only[ACode.strip,ha e1]
  ·cases h
 |scope a ha=>
  intro ac h;simp only[D9]at h;split at h
  ·rename_i e1;injection h with h;subst h;simp only[ACode.strip,ha e1]
  ·cases h
 |loop a ha=>
  intro ac h;simp only[D9]at h;split at h
  ·rename_i e1;injection h with h;subst h;simp only[ACode.strip,ha e1]
  ·cases h
 |skip |exit |label |ret=>intro ac h;simp only[D9]at h;injection h with h;subst h;rfl
 |_=>intro ac h;cases h
theorem cs2 {P:Program}{L:List (Nat×List Bool)}{c:Code}{ac:ACode}(hL:okE P L=true)(h:M5 P L N c=some ac):D9 P N c=some ac.strip:=by rw[E18 (D3f hL h)];exact D3f hL h
section
variable {P:Program} {L:List (Nat×List Bool)} {f:FuncId} {fn:Func} {ac:ACode} {args:List AV} {ts:List Nat} {rs:List AV} {r:AV} {O O':List (Nat×A5)} {rvs:List (Nat×Option (Option Nat))}
theorem en1(hm:P.follows .mixedOrders=true)(hL:okE P L=true)(hf:P.funcs[f]? =some fn)(hc:M5 P L fn.ntmps (fn.body.getD .skip)=some ac)(hts:A4m fn.results.toList=some ts)
  (h: @Wi P fn.ntmps [] ac (D9v ts [r]) (A0b args []))(hb:fn.body=some (fn.body.getD .skip):=by kernel_rfl)(hname:(fn.name != "runtime.NumGoroutine")=true:=by kernel_rfl)(hnd:ts.Nodup:=by decide)(hl:(args.length.ble fn.ntmps)=true:=by kernel_rfl):
  A1 P f args [] r []:=C86 hm hf hb hname (cs2 hL hc) hts hnd hl h
theorem enT(hm:P.follows .mixedOrders=true)(hL:okE P L=true)(hf:P.funcs[f]? =some fn)(hc:M5 P L fn.ntmps (fn.body.getD .skip)=some ac)(hts:A4m fn.results.toList=some ts)
  (h: @Wi P fn.ntmps [] ac (D9v ts rs) (A0b args []))(hp:A5a rs= .tup rs:=by rfl)(hb:fn.body=some (fn.body.getD .skip):=by kernel_rfl)(hname:(fn.name != "runtime.NumGoroutine")=true:=by kernel_rfl)(hnd:ts.Nodup:=by decide)(hl:(args.length.ble fn.ntmps)=true:=by kernel_rfl):
  A1 P f args [] (.tup rs) []:=hp▸C86 hm hf hb hname (cs2 hL hc) hts hnd hl h
theorem H8(hm:P.follows .mixedOrders=true)(hL:okE P L=true)(hf:P.funcs[f]? =some fn)(hc:M5 P L fn.ntmps (fn.body.getD .skip)=some ac)(hts:A4m fn.results.toList=some ts)
  (h: @Wi P fn.ntmps (O.map (·.1)) ac (C5l (O.map (·.1)) ts [r] O') (A0b args O))(hb:fn.body=some (fn.body.getD .skip):=by kernel_rfl)(hname:(fn.name != "runtime.NumGoroutine")=true:=by kernel_rfl)(hnd:ts.Nodup:=by decide)(hl:(args.length.ble fn.ntmps)=true:=by kernel_rfl):
  A1 P f args O r O':=B76 hm hf hb hname (cs2 hL hc) hts hnd hl h
theorem A7s(hm:P.follows .mixedOrders=true)(hL:okE P L=true)(hf:P.funcs[f]? =some fn)(hc:M5 P L fn.ntmps (fn.body.getD .skip)=some ac)(hts:A4m fn.results.toList=some ts)
  (h: @Wi P fn.ntmps (O.map (·.1)) ac (C5l (O.map (·.1)) ts rs O') (A0b args O))(hp:A5a rs= .tup rs:=by rfl)(hb:fn.body=some (fn.body.getD .skip):=by kernel_rfl)(hname:(fn.name != "runtime.NumGoroutine")=true:=by kernel_rfl)(hnd:ts.Nodup:=by decide)(hl:(args.length.ble fn.ntmps)=true:=by kernel_rfl):
  A1 P f args O (.tup rs) O':=hp▸B76 hm hf hb hname (cs2 hL hc) hts hnd hl h
theorem L5(N:Nat)(rvs:List (Nat×Option (Option Nat)))(hm:P.follows .mixedOrders=true)(hL:okE P L=true)(hf:P.funcs[f]? =some fn)(hc:M5 P L fn.ntmps (fn.body.getD .skip)=some ac)
  (h: @Wi P N [] ac (C0x N rvs [r]) (A0b args []))(hN:fn.ntmps=N:=by kernel_rfl)(hts:A51 P fn.results.toList=some rvs:=by kernel_rfl)(hb:fn.body=some (fn.body.getD .skip):=by kernel_rfl)(hname:(fn.name != "runtime.NumGoroutine")=true:=by kernel_rfl)(hlt:(rvs.all λp=>p.1.blt N)=true:=by decide)(hl:(args.length.ble N)=true:=by kernel_rfl):
  A1 P f args [] r []:=B5y hm hf hb hname (cs2 hL hc) hN hts hlt hl h
theorem A63(N:Nat)(rvs:List (Nat×Option (Option Nat)))(hm:P.follows .mixedOrders=true)(hL:okE P L=true)(hf:P.funcs[f]? =some fn)(hc:M5 P L fn.ntmps (fn.body.getD .skip)=some ac)
  (h: @Wi P N [] ac (C0x N rvs rs) (A0b args []))(hp:A5a rs= .tup rs:=by rfl)(hN:fn.ntmps=N:=by kernel_rfl)(hts:A51 P fn.results.toList=some rvs:=by kernel_rfl)(hb:fn.body=some (fn.body.getD .skip):=by kernel_rfl)(hname:(fn.name != "runtime.NumGoroutine")=true:=by kernel_rfl)(hlt:(rvs.all λp=>p.1.blt N)=true:=by decide)(hl:(args.length.ble N)=true:=by kernel_rfl):
  A1 P f args [] (.tup rs) []:=hp▸B5y hm hf hb hname (cs2 hL hc) hN hts hlt hl h
theorem D1e(N:Nat)(rvs:List (Nat×Option (Option Nat)))(hm:P.follows .mixedOrders=true)(hL:okE P L=true)(hf:P.funcs[f]? =some fn)(hc:M5 P L fn.ntmps (fn.body.getD .skip)=some ac)
  (h: @Wi P N (O.map (·.1)) ac (B38 N (O.map (·.1)) rvs [r] O') (A0b args O))(hN:fn.ntmps=N:=by kernel_rfl)(hts:A51 P fn.results.toList=some rvs:=by kernel_rfl)(hb:fn.body=some (fn.body.getD .skip):=by kernel_rfl)(hname:(fn.name != "runtime.NumGoroutine")=true:=by kernel_rfl)(hlt:(rvs.all λp=>p.1.blt N)=true:=by decide)(hl:(args.length.ble N)=true:=by kernel_rfl):
  A1 P f args O r O':=B81 hm hf hb hname (cs2 hL hc) hN hts hlt hl h
theorem C0q(N:Nat)(rvs:List (Nat×Option (Option Nat)))(hm:P.follows .mixedOrders=true)(hL:okE P L=true)(hf:P.funcs[f]? =some fn)(hc:M5 P L fn.ntmps (fn.body.getD .skip)=some ac)
  (h: @Wi P N (O.map (·.1)) ac (B38 N (O.map (·.1)) rvs rs O') (A0b args O))(hp:A5a rs= .tup rs:=by rfl)(hN:fn.ntmps=N:=by kernel_rfl)(hts:A51 P fn.results.toList=some rvs:=by kernel_rfl)(hb:fn.body=some (fn.body.getD .skip):=by kernel_rfl)(hname:(fn.name != "runtime.NumGoroutine")=true:=by kernel_rfl)(hlt:(rvs.all λp=>p.1.blt N)=true:=by decide)(hl:(args.length.ble N)=true:=by kernel_rfl):
  A1 P f args O (.tup rs) O':=hp▸B81 hm hf hb hname (cs2 hL hc) hN hts hlt hl h
end
section
open Api
@[go_sem] theorem G4j(x:Vec):Vec.mk x.X x.Y=x:=rfl
@[go_sem] theorem G1d(x:Settings):Settings.mk x.TimeStep x.Gravity x.Iterations x.SleepSteps=x:=rfl
@[go_sem] theorem G0l(x:Transform):Transform.mk x.Position x.Angle=x:=rfl
@[go_sem] theorem G3w(x:Shape):Shape.mk x.Kind x.Radius x.Vertices=x:=rfl
@[go_sem] theorem G2y(x:Fixture):Fixture.mk x.Shape x.Density x.Friction x.Restitution x.Sensor x.Category x.Mask x.Group=x:=rfl
@[go_sem] theorem G35(x:Body):Body.mk x.ID x.Kind x.Transform x.Velocity x.AngularVelocity x.Force x.Torque x.LinearDamping x.AngularDamping x.GravityScale x.Bullet x.FixedRotation x.NoSleep x.Asleep x.IdleSteps x.Fixtures=x:=rfl
@[go_sem] theorem G36(x:Four):Four.mk x.I0 x.I1 x.I2 x.I3=x:=rfl
@[go_sem] theorem G3v(x:Joint):Joint.mk x.ID x.Kind x.BodyA x.BodyB x.AnchorA x.AnchorB x.Axis x.ReferenceAngle x.EnableLimit x.Lower x.Upper x.EnableMotor x.MotorSpeed x.MaxForce x.Softness x.BreakForce x.CollideConnected x.Impulses=x:=rfl
@[go_sem] theorem G2z(x:PairKey):PairKey.mk x.BodyA x.FixtureA x.BodyB x.FixtureB=x:=rfl
@[go_sem] theorem F5j(x:ContactPoint):ContactPoint.mk x.Point x.Separation x.ID x.NormalImpulse x.TangentImpulse=x:=rfl
@[go_sem] theorem G1a(x:Manifold):Manifold.mk x.Normal x.Points=x:=rfl
@[go_sem] theorem G2x(x:Contact):Contact.mk x.Key x.Manifold=x:=rfl
@[go_sem] theorem G3x(x:Api.World):Api.World.mk x.Settings x.Bodies x.Joints x.Contacts x.Overlaps x.NextID x.Frame=x:=rfl
@[go_sem] theorem G29(x:B1):B1.mk x.Bodies x.Contacts x.Joints=x:=rfl
end
variable {f:FuncId} {O:List (Nat×A5)} {P:Program} {O':List (Nat×A5)}
theorem cx_ {a a':List AV}{r:AV}(h:A1 P f a O r O')(e:a=a':=by(try simp only[go_sem]);first |done |rfl):A1 P f a' O r O':=e▸h
theorem it_ {c:Prop} [Decidable c]{p q:Prop}(h1:c->p)(h2: ¬c->q):if c then p else q:=by split <;> simp_all
theorem lf_(h:p:=by first
 |with_reducible rfl
 |(simp only[*,if_true,if_false,eq_self,Bool.false_eq_true,Bool.true_eq_false,not_true_eq_false,not_false_eq_true,reduceCtorEq,H3,R2,A05,A06,Bool.and_true,Bool.true_and,Bool.and_false,Bool.false_and,Bool.or_true,Bool.true_or,Bool.or_false,Bool.false_or,Bool.not_true,Bool.not_false,decide_true,decide_false];done)
 |(simp only[*,if_true,if_false,eq_self,Bool.false_eq_true,Bool.true_eq_false,not_true_eq_false,not_false_eq_true,reduceCtorEq,H3,R2,A05,A06,Bool.and_true,Bool.true_and,Bool.and_false,Bool.false_and,Bool.or_true,Bool.true_or,Bool.or_false,Bool.false_or,Bool.not_true,Bool.not_false,decide_true,decide_false,go_sem];first |done |with_reducible rfl |((repeat' (with_reducible apply And.intro)) <;> first |with_reducible rfl |trivial |omega |exact I4 _ |exact O9 rfl |exact A23))
 |exact A23):p:=h
variable {b:Bool} {avs:List AV} {m:Nat->Option A5}
theorem gd_ {Q:ContR}(h: @A4z P m f avs b Q): @A4z P m f avs b Q:=h
theorem D1(h:p:=by
 simp only[go_sem,B4,C3,A9,C5]
 repeat' (first
  |(with_reducible refine And.intro ?_ ?_;focus exact ob_)
  |with_reducible refine it_ (λ_=> ?_) (λ_=> ?_)
  |(with_reducible refine gd_ ?_;with_reducible refine A0 (by apply_assumption <;> first |exact ob_ |(apply_assumption <;> first |assumption |exact ob_)) rfl ?_;simp only[go_sem,B4,C3,A9,C5])
  |exact lf_)):p:=h
def stE {S R:Type}(f:Nat->S->S ⊕ R)(i:Nat)(s0:S):S:=match D4 f i s0 with
 | .inl s=>s
 | .inr _=>s0
def glS {S R:Type}(r:S ⊕ R)(s0:S):S:=match r with
 | .inl s=>s
 | .inr _=>s0
theorem A53(s s0:S):glS (.inl s:S ⊕ R) s0=s:=rfl
theorem A2c(f:Nat->S->S ⊕ R)(s0:S):stE f 0 s0=s0:=rfl
variable {s0:S}
theorem C5d {f:Nat->S->S ⊕ R}(h:D4 f i s0= .inl (stE f i s0)):D4 f (i+1) s0=f i (stE f i s0):=by simp only[D4,h]
theorem A3i {f:Nat->S->S ⊕ R}(h:D4 f i s0= .inl (stE f i s0)):stE f (i+1) s0=glS (f i (stE f i s0)) s0:=by rw[<-C5d h];rfl
theorem E4y {f:Nat->S->S ⊕ R}{r:R}(h:D4 f i s0= .inl (stE f i s0))(hi:i<n)(hf:f i (stE f i s0)= .inr r):D4 f n s0= .inr r:=Z2 (k:=i+1) (by rw[C5d h,hf]) hi
abbrev IE {S R:Type}(f:Nat->S->S ⊕ R)(s0:S)(i:Nat):Prop:=D4 f i s0= .inl (stE f i s0)
theorem F7o {f:Nat->S->S ⊕ R}(h:D4 f i s0= .inl (stE f i s0)){s:S}(hf:f i (stE f i s0)= .inl s):IE f s0 (i+1):=by unfold IE stE;rw[C5d h,hf]
@[reducible] def E20(K:List Nat)(I:Nat->Prop)(T:Nat->H6)(O:Nat->List (Nat×A5))(i:Nat)(Q:Cont):Cont:=⟨Out.then (λτ=>I (i+1)/\Y5 K τ (T (i+1)) (O (i+1))) Q.q⟩
@[reducible] def E21(Q:Cont):Cont:=⟨Out.then (λ_=>False) Q.q⟩
section
variable {P:Program} {N:Nat} {K:List Nat}
variable {Q:Cont}
theorem D6q {I:Nat->Prop}{T:Nat->H6}{O:Nat->List (Nat×A5)}: @Qi (E20 K I T O i Q) .normal σ=(I (i+1)/\Y5 K σ (T (i+1)) (O (i+1))):=rfl
variable {j:Nat}
theorem E14 {I:Nat->Prop}{T:Nat->H6}{O:Nat->List (Nat×A5)}: @Qi (E20 K I T O i Q) (.exit j) σ= @Qi Q (.exit j) σ:=rfl
theorem E3r {I:Nat->Prop}{T:Nat->H6}{O:Nat->List (Nat×A5)}: @Qi (E20 K I T O i Q) .ret σ= @Qi Q .ret σ:=rfl
theorem D6r: @Qi (E21 Q) .normal σ=False:=rfl
theorem E15: @Qi (E21 Q) (.exit j) σ= @Qi Q (.exit j) σ:=rfl
theorem E3s: @Qi (E21 Q) .ret σ= @Qi Q .ret σ:=rfl
def HB(p:Prop):Prop:=p
theorem hb_(h:p):HB p:=h
theorem lp_ {x:ACode}{Q:Cont}{σ:St}(hm:P.follows .mixedOrders=true)(I X:Nat->Prop)(n:Nat)(T:Nat->H6)(O:Nat->List (Nat×A5))(A:List Nat)(hI:I 0)(hX: ∀i,I i->X i)
  (h1:((O 0).map (·.1)).Nodup)(h2:((((O 0).map (·.1)).filter λi=> !A.contains i).map (A6 [])).Nodup)(h3: ∀k∈K,k∉A/\A6 [] k=k/\(ofL (O 0) k).isSome)
  (h0:HB (A3b σ (A6 []) A (O 0) (T 0) [] λwr=>B34 (wrm σ.objs wr) (A6 []) A (O 0) (O 0)))
  (hb:HB (∀i,i<n->I i->X i-> @Wi P N K x (E20 K I T O i Q) (A14 (T i) (O i))))
  (he:HB (I n->X n-> @Wi P N K x (E21 Q) (A14 (T n) (O n)))): @Wpi P N K (.loop x) Q σ:=by
 refine Wp.loop (ι:= {i:Nat // i<=n/\I i}) (λi=>T i.1) (λi=>O i.1) (λi=>n-i.1) ⟨0,Nat.zero_le _,hI⟩ (B6 [] A h1 h2 h3 h0) ?_;rintro⟨i,hi,hI⟩;rcases Nat.lt_or_ge i n with hlt |hge
 ·refine(Wp.of_W hm x (hb i hlt hI (hX i hI))).mono λo τ hq=> ?_;cases o with
  |normal=>exact⟨⟨i+1,hlt,hq.1⟩,by show n-(i+1)<n-i;omega,hq.2⟩
  |exit j=>exact hq
  |ret=>exact hq
 ·obtain rfl:i=n:=by omega
  refine(Wp.of_W hm x (he hI (hX _ hI))).mono λo τ hq=> ?_;cases o with
  |normal=>exact hq.elim
  |exit j=>exact hq
  |ret=>exact hq
end
attribute [go_sem] D6q E14 E3r D6r E15 E3s
variable {Q:Cont}
theorem gw_ {P:Program}{N:Nat}{K:List Nat}{x:ACode}(h: @Wpi P N K x Q σ): @Wpi P N K x Q σ:=h
theorem gk_ {K:List Nat}(h:Y5 K σ T O):Y5 K σ T O:=h
theorem gi_ {f:Nat->S->S ⊕ R}(h:IE f s0 i):IE f s0 i:=h
theorem ie_(h:p:=by(with_reducible refine gi_ ?_;exact F7o (by assumption) (by simp only[*,if_true,if_false,eq_self,Bool.false_eq_true,Bool.true_eq_false,not_true_eq_false,not_false_eq_true,reduceCtorEq,H3,R2,A05,A06,Bool.and_true,Bool.true_and,Bool.and_false,Bool.false_and,Bool.or_true,Bool.true_or,Bool.or_false,Bool.false_or,Bool.not_true,Bool.not_false,decide_true,decide_false];first |done |rfl))):p:=h
theorem G38(h:p:=by first
 |with_reducible rfl
 |trivial
 |omega
 |(simp only[*,if_true,if_false,eq_self,Bool.false_eq_true,Bool.true_eq_false,not_true_eq_false,not_false_eq_true,reduceCtorEq,H3,R2,A05,A06,Bool.and_true,Bool.true_and,Bool.and_false,Bool.false_and,Bool.or_true,Bool.true_or,Bool.or_false,Bool.false_or,Bool.not_true,Bool.not_false,decide_true,decide_false,E4,H3,R2,A2c,A3i,A53];done)
 |(simp only[*,if_true,if_false,eq_self,Bool.false_eq_true,Bool.true_eq_false,not_true_eq_false,not_false_eq_true,reduceCtorEq,H3,R2,A05,A06,Bool.and_true,Bool.true_and,Bool.and_false,Bool.false_and,Bool.or_true,Bool.true_or,Bool.or_false,Bool.false_or,Bool.not_true,Bool.not_false,decide_true,decide_false,E4,H3,R2,A2c,A3i,A53,go_sem];first |done |with_reducible rfl |((repeat' (with_reducible apply And.intro)) <;> first |with_reducible rfl |trivial |omega |(rw[IntKind.wrap_i64];omega) |exact I4 _ |exact O9 rfl |exact A3p rfl |exact A1q _ rfl rfl |exact A23))
 |(have hE:=E4y (by assumption) (by assumption) (by simp only[*,if_true,if_false,eq_self,Bool.false_eq_true,Bool.true_eq_false,not_true_eq_false,not_false_eq_true,reduceCtorEq,H3,R2,A05,A06,Bool.and_true,Bool.true_and,Bool.and_false,Bool.false_and,Bool.or_true,Bool.true_or,Bool.or_false,Bool.false_or,Bool.not_true,Bool.not_false,decide_true,decide_false];first |done |rfl);simp only[hE, *,if_true,if_false,eq_self,Bool.false_eq_true,Bool.true_eq_false,not_true_eq_false,not_false_eq_true,reduceCtorEq,H3,R2,A05,A06,Bool.and_true,Bool.true_and,Bool.and_false,Bool.false_and,Bool.or_true,Bool.true_or,Bool.or_false,Bool.false_or,Bool.not_true,Bool.not_false,decide_true,decide_false,E4,H3,R2,A2c,A3i,A53];first |done |with_reducible rfl |exact A23)
 |exact A23):p:=h
theorem A43(h:p:=by
 simp only[go_sem,B4,C3,A9,C5]
 repeat' (first
  |(with_reducible refine And.intro ?_ ?_;focus (first |exact ob_ |exact ie_))
  |with_reducible refine it_ (λ_=> ?_) (λ_=> ?_)
  |(with_reducible refine gd_ ?_;with_reducible refine A0 (by apply_assumption <;> first |exact ob_ |(apply_assumption <;> first |assumption |exact ob_)) rfl ?_;simp only[go_sem,B4,C3,A9,C5])
  |(with_reducible refine gw_ ?_;apply_assumption)
  |(with_reducible refine hb_ ?_;intros;simp only[go_sem,B4,C3,A9,C5,H3,A2c])
  |(with_reducible refine gk_ ?_;refine D7 [] [] ?_;simp only[go_sem,B4,C3,A9,C5])
  |exact G38)):p:=h
end Go.Abs
end
