/- A part of the proof: what a function does, over abstract values and objects, and its ties to the model. -/
import Derived.Test.YtchcbiiammkhgaaGreatLB
import Derived.Scope
import Derived.WalkKit
import Derived.ProofKit
import Derived.OpenShut
import Derived.ChangeOld
import Derived.Below
import Derived.Attr
import Derived.Sort.Grow
import Derived.Lib.SlicesCompact
import Derived.KernelRfl
set_option linter.unusedSimpArgs false
set_option linter.unusedVariables false
set_option linter.unnecessarySimpa false
set_option maxRecDepth 100000
set_option maxHeartbeats 2000000
noncomputable section
namespace Go.Abs
inductive ACode where
 |skip
 |region (draw:Bool) (ops:List dC)
 |seq (a b:ACode)
 |cond (c:AX) (a b:ACode)
 |block (id:Nat) (a:ACode)
 |loop (a:ACode)
 |exit (id:Nat)
 |ret
 |mark (a:ACode)
 |scope (a:ACode)
def ACode.strip:ACode->ACode
 | .seq a b=> .seq a.strip b.strip
 | .cond c a b=> .cond c a.strip b.strip
 | .block id a=> .block id a.strip
 | .loop a=> .loop a.strip
 | .mark a=>a.strip
 | .scope a=> .scope a.strip
 |c=>c
def F2(P:Program)(N:Nat):Code->Option ACode
 | .skip=>some .skip
 | .region _ ops draw=>match A87 P N ops draw with
   |some as=>some (.region draw as)
   |none=>none
 | .seq a b=>match F2 P N a,F2 P N b with
   |some x,some y=>some (.seq x y)
   |_,_=>none
 | .cond c a b=>match cx c,F2 P N a,F2 P N b with
   |some k,some x,some y=>some (.cond k x y)
   |_,_,_=>none
 | .block id a=>match F2 P N a with
   |some x=>some (.block id x)
   |none=>none
 | .loop a=>match F2 P N a with
   |some x=>some (.loop x)
   |none=>none
 | .scope a=>match F2 P N a with
   |some x=>some (.scope x)
   |none=>none
 | .exit id=>some (.exit id)
 | .label _=>some .skip
 | .ret=>some .ret
 |_=>none
inductive Out where
 |normal |exit (id:Nat) |ret
def Out.then(a:St->Prop)(Q:Out->St->Prop):Out->St->Prop
 | .normal,σ=>a σ
 | .exit i,σ=>Q (.exit i) σ
 | .ret,σ=>Q .ret σ
def Out.inBlock(id:Nat)(Q:Out->St->Prop):Out->St->Prop
 | .normal,σ=>Q .normal σ
 | .exit i,σ=>if i=id then Q .normal σ else Q (.exit i) σ
 | .ret,σ=>Q .ret σ
variable {σ σ':St}
@[congr] theorem Out.then_congr {a:St->Prop}{Q:Out->St->Prop}{o o':Out}(h:o=o')(hs:σ=σ'):Out.then a Q o σ=Out.then a Q o' σ':=by rw[h,hs]
@[congr] theorem Out.inBlock_congr {id:Nat}{Q:Out->St->Prop}{o o':Out}(h:o=o')(hs:σ=σ'):Out.inBlock id Q o σ=Out.inBlock id Q o' σ':=by rw[h,hs]
def Out.exit':Out->Exit
 | .normal=> .normal
 | .exit i=> .exit i
 | .ret=> .ret
structure D73 where
 G:Nat->Prop
 w:World
 ob:Place
structure B9z (K:List Nat) (Γ:D73) (G:Nat->Prop) (w:World) (ob:Place):Prop where
 fr:Fr Γ.G Γ.w Γ.ob G w ob
 ext:OBx (· ∈K) Γ.ob ob
def D99(K:List Nat)(N:Nat)(Γ:D73)(Q:Out->St->Prop):Exit->Act->World->Prop:=λe a w=>∃o σ ob G,e=Out.exit' o/\Q o σ/\Sim N σ a w ob G/\B9z K Γ G w ob
def Wp(P:Program)(N:Nat)(K:List Nat)(ac:ACode)(Q:Out->St->Prop)(σ:St):Prop:=∀c,F2 P N c=some ac.strip-> ∀(Γ:D73) (a:Act) (w:World) (ob:Place) (G:Nat->Prop),Sim N σ a w ob G->B9z K Γ G w ob->c.wp P (D99 K N Γ Q) a w
def W(P:Program)(N:Nat)(K:List Nat):ACode->(Out->St->Prop)->St->Prop
 | .skip,Q,σ=>Q .normal σ
 | .region false ops,Q,σ=>A5c P ops (Q .normal) σ
 | .region true ops,Q,σ=>C1v P ops [] (Q .normal) σ
 | .seq a b,Q,σ=>W P N K a (Out.then (W P N K b Q) Q) σ
 | .cond c a b,Q,σ=>match σ.ev c with
   |some (true, .sc (.bool t))=>if t=true then W P N K a Q σ else W P N K b Q σ
   |_=>False
 | .block id a,Q,σ=>W P N K a (Out.inBlock id Q) σ
 | .loop a,Q,σ=>Wp P N K (.loop a) Q σ
 | .exit id,Q,σ=>Q (.exit id) σ
 | .ret,Q,σ=>Q .ret σ
 | .mark a,Q,σ=>Wp P N K a Q σ
 | .scope a,Q,σ=>W P N K a Q σ
@[congr] theorem G0a {P:Program}{N:Nat}{K:List Nat}{c:ACode}{Q:Out->St->Prop}(h:σ=σ'):W P N K c Q σ=W P N K c Q σ':=by rw[h]
@[congr] theorem F88 {P:Program}{N:Nat}{K:List Nat}{c:ACode}{Q:Out->St->Prop}(h:σ=σ'):Wp P N K c Q σ=Wp P N K c Q σ':=by rw[h]
def V5(K:List Nat)(σ:St)(T:Slots)(O:List (Nat×A7)):Prop:= ∃ρ A,F17 K σ ρ A T O
section
variable {P:Program} {N:Nat} {K:List Nat}
theorem OBx.trans {K:Nat->Prop}{o1 o2 o3:Place}(h:OBx K o1 o2)(h':OBx K o2 o3):OBx K o1 o3:=by
 intro id i hk hi;obtain⟨i',hi',h1⟩:=h id i hk hi;obtain⟨i'',hi'',h2⟩:=h' id i' hk hi'
 grind
variable {w:World} {G:Nat->Prop} {ob:Place} {w':World} {ob':Place} {G':Nat->Prop}
theorem B9z.step {Γ:D73}(h:B9z K Γ G w ob)(hf:Fr G w ob G' w' ob')(he:D4 ob ob'):B9z K Γ G' w' ob':=⟨h.fr.trans hf,h.ext.trans λid i _ hi=>he id i hi⟩
variable {ac:ACode}
theorem Wp.mono {Q Q':Out->St->Prop}(h:Wp P N K ac Q σ)(hq: ∀o σ,Q o σ->Q' o σ):Wp P N K ac Q' σ:=λc hc Γ a w ob G hs hΓ=>wp_mono (h c hc Γ a w ob G hs hΓ) λ_ _ _ ⟨o,σ,ob,G,h1,h2,h3,h4⟩=>⟨o,σ,ob,G,h1,hq o σ h2,h3,h4⟩
theorem Wp.of_W(hm:P.follows .mixedOrders=true): ∀(ac:ACode) {Q:Out->St->Prop} {σ:St},W P N K ac Q σ->Wp P N K ac Q σ
 | .skip,Q,σ,h=>λc hc Γ a w ob G hs hΓ=>by
   have hn:D99 K N Γ Q .normal a w:=⟨.normal,σ,ob,G,rfl,h,hs,hΓ⟩;cases c <;> simp only[F2,ACode.strip,za,reduceCtorEq]at hc
   case skip=>exact wp_skip hn
   case label=>exact wp_label hn
   all_goals grind
 | .region d ops,Q,σ,h=>λc hc Γ a w ob G hs hΓ=>by
   cases c <;> simp only[F2,ACode.strip,za,reduceCtorEq]at hc
   case region id os draw=>
    split at hc
    ·rename_i as has;simp only[za,ACode.region.injEq]at hc;obtain⟨rfl,rfl⟩:=hc;cases draw with
     |true=>exact E2y hm has hs h λτ a' w' ob' G' hq s f e=>⟨.normal,τ,ob',G',rfl,hq,s,hΓ.step f e⟩
     |false=>
      unfold A87 at has;split at has
      ·rename_i as' hcop;simp only[zf,zJ,za]at has;subst has;refine wp_region ?_;have:=C88 (Q:=Q .normal) (R:=D99 K N Γ Q) os.toList as' 0 σ a w ob G hcop (λi o hi=>by simpa using hi) hs h
        (λτ a' w' ob' G' hq s f e=>⟨.normal,τ,ob',G',rfl,hq,s,hΓ.step f e⟩)
       rw[ya];simpa using this
      ·cases has
    ·cases hc
   all_goals grind
 | .seq x y,Q,σ,h=>λc hc Γ a w ob G hs hΓ=>by
   cases c <;> simp only[F2,ACode.strip,za,reduceCtorEq]at hc
   case seq c1 c2=>
    split at hc
    ·rename_i x' y' h1 h2;simp only[za,ACode.seq.injEq]at hc;obtain⟨rfl,rfl⟩:=hc;refine wp_seq (wp_mono (Wp.of_W hm x h c1 h1 Γ a w ob G hs hΓ) ?_);rintro e a' w' ⟨o,τ,ob',G',rfl,hq,s,hΓ'⟩;cases o with
     |normal=>exact Wp.of_W hm y hq c2 h2 Γ a' w' ob' G' s hΓ'
     |exit i=>exact⟨.exit i,τ,ob',G',rfl,hq,s,hΓ'⟩
     |ret=>exact⟨.ret,τ,ob',G',rfl,hq,s,hΓ'⟩
    ·cases hc
   all_goals grind
 | .cond k x y,Q,σ,h=>λc hc Γ a w ob G hs hΓ=>by
   cases c <;> simp only[F2,ACode.strip,za,reduceCtorEq]at hc
   case cond c0 c1 c2=>
    split at hc
    ·rename_i k' x' y' h0 h1 h2;simp only[za,ACode.cond.injEq]at hc;obtain⟨rfl,rfl,rfl⟩:=hc;simp only[W]at h;split at h
     ·rename_i t ht;have hv:a.eval c0= .bool t:=(hs.opRel c0 k' (.sc (.bool t)) h0 (by simp[St.e',ht])).sc_eq;refine wp_cond hv ?_;cases t with
      |true=>rw[zc rfl]at h;exact Wp.of_W hm x h c1 h1 Γ a w ob G hs hΓ
      |false=>rw[zb p_]at h;exact Wp.of_W hm y h c2 h2 Γ a w ob G hs hΓ
     ·exact h.elim
    ·cases hc
   all_goals grind
 | .block id x,Q,σ,h=>λc hc Γ a w ob G hs hΓ=>by
   cases c <;> simp only[F2,ACode.strip,za,reduceCtorEq]at hc
   case block id' c1=>
    split at hc
    ·rename_i x' h1;simp only[za,ACode.block.injEq]at hc;obtain⟨rfl,rfl⟩:=hc;refine wp_block (wp_mono (Wp.of_W hm x h c1 h1 Γ a w ob G hs hΓ) ?_);rintro e a' w' ⟨o,τ,ob',G',rfl,hq,s,hΓ'⟩;cases o with
     |normal=>exact⟨.normal,τ,ob',G',rfl,hq,s,hΓ'⟩
     |exit i=>
      simp only[Out.exit',Exit.inBlock];simp only[Out.inBlock]at hq;split
      ·rename_i e;rw[zc e]at hq;exact⟨.normal,τ,ob',G',rfl,hq,s,hΓ'⟩
      ·rename_i e;rw[zb e]at hq;exact⟨.exit i,τ,ob',G',rfl,hq,s,hΓ'⟩
     |ret=>exact⟨.ret,τ,ob',G',rfl,hq,s,hΓ'⟩
    ·cases hc
   all_goals grind
 | .scope x,Q,σ,h=>λc hc Γ a w ob G hs hΓ=>by
   cases c <;> simp only[F2,ACode.strip,za,reduceCtorEq]at hc
   case scope c1=>
    split at hc
    ·rename_i x' h1;simp only[za,ACode.scope.injEq]at hc;obtain rfl:=hc;refine wp_scope_straight (wp_mono (Wp.of_W hm x h c1 h1 Γ a w ob G hs hΓ) ?_);rintro e a' w' ⟨o,τ,ob',G',rfl,hq,s,hΓ'⟩;cases o <;> exact⟨_,τ,ob',G',rfl,hq,s,hΓ'⟩
    ·cases hc
   all_goals grind
 | .loop x,Q,σ,h=>h
 | .exit id,Q,σ,h=>λc hc Γ a w ob G hs hΓ=>by
   cases c <;> simp only[F2,ACode.strip,za,reduceCtorEq]at hc
   case exit id'=>simp only[ACode.exit.injEq]at hc;subst hc;exact wp_exit ⟨.exit id',σ,ob,G,rfl,h,hs,hΓ⟩
   all_goals grind
 | .ret,Q,σ,h=>λc hc Γ a w ob G hs hΓ=>by
   cases c <;> simp only[F2,ACode.strip,za,reduceCtorEq]at hc
   case ret=>exact wp_ret ⟨.ret,σ,ob,G,rfl,h,hs,hΓ⟩
   all_goals grind
 | .mark x,Q,σ,h=>λc hc=>h c hc
variable {O:List (Nat×A7)} {T:Slots}
theorem Wp.weak {Q:Out->St->Prop}(h:V5 K σ T O)(hw:Wp P N K ac Q (A19 T O)):Wp P N K ac Q σ:=by intro c hc Γ a w ob G hs hΓ;obtain⟨ρ,A,h⟩:=h;obtain⟨ob2,G2,h1,h2,h3⟩:=B3d hs h;exact hw c hc Γ a w ob2 G2 h1 ⟨hΓ.fr.trans h2,hΓ.ext.trans λid i hk hi=>⟨i,by rw[h3 id hk];exact hi, .inl rfl⟩⟩
theorem Wp.seq {x y:ACode}{Q:Out->St->Prop}{σ:St}(h:Wp P N K x (Out.then (Wp P N K y Q) Q) σ):Wp P N K (.seq x y) Q σ:=by
 intro c hc Γ a w ob G hs hΓ;cases c <;> simp only[F2,ACode.strip,za,reduceCtorEq]at hc
 case seq c1 c2=>
  split at hc
  ·rename_i x' y' h1 h2;simp only[za,ACode.seq.injEq]at hc;obtain⟨rfl,rfl⟩:=hc;refine wp_seq (wp_mono (h c1 h1 Γ a w ob G hs hΓ) ?_);rintro e a' w' ⟨o,τ,ob',G',rfl,hq,s,hΓ'⟩;cases o with
   |normal=>exact hq c2 h2 Γ a' w' ob' G' s hΓ'
   |exit i=>exact⟨.exit i,τ,ob',G',rfl,hq,s,hΓ'⟩
   |ret=>exact⟨.ret,τ,ob',G',rfl,hq,s,hΓ'⟩
  ·cases hc
 all_goals grind
theorem Wp.block {id:Nat}{x:ACode}{Q:Out->St->Prop}{σ:St}(h:Wp P N K x (Out.inBlock id Q) σ):Wp P N K (.block id x) Q σ:=by
 intro c hc Γ a w ob G hs hΓ;cases c <;> simp only[F2,ACode.strip,za,reduceCtorEq]at hc
 case block id' c1=>
  split at hc
  ·rename_i x' h1;simp only[za,ACode.block.injEq]at hc;obtain⟨rfl,rfl⟩:=hc;refine wp_block (wp_mono (h c1 h1 Γ a w ob G hs hΓ) ?_);rintro e a' w' ⟨o,τ,ob',G',rfl,hq,s,hΓ'⟩;cases o with
   |normal=>exact⟨.normal,τ,ob',G',rfl,hq,s,hΓ'⟩
   |exit i=>
    simp only[Out.exit',Exit.inBlock];simp only[Out.inBlock]at hq;split
    ·rename_i e;rw[zc e]at hq;exact⟨.normal,τ,ob',G',rfl,hq,s,hΓ'⟩
    ·rename_i e;rw[zb e]at hq;exact⟨.exit i,τ,ob',G',rfl,hq,s,hΓ'⟩
   |ret=>exact⟨.ret,τ,ob',G',rfl,hq,s,hΓ'⟩
  ·cases hc
 all_goals grind
theorem Wp.loop {x:ACode}{Q:Out->St->Prop}{σ:St}{ι:Type}(T:ι->Slots)(O:ι->List (Nat×A7))(μ:ι->Nat)(i0:ι)(h0:V5 K σ (T i0) (O i0))
  (h: ∀i,Wp P N K x (Out.then (λτ=> ∃i',μ i'<μ i/\V5 K τ (T i') (O i')) Q) (A19 (T i) (O i))):Wp P N K (.loop x) Q σ:=by
 intro c hc Γ a w ob G hs hΓ;cases c <;> simp only[F2,ACode.strip,za,reduceCtorEq]at hc
 case loop c1=>
  split at hc
  ·rename_i x' h1;simp only[za,ACode.loop.injEq]at hc;obtain rfl:=hc;have enter: ∀(τ:St) (a':Act) (w':World) (ob':Place) (G':Nat->Prop) (i:ι),V5 K τ (T i) (O i)->Sim N τ a' w' ob' G'->B9z K Γ G' w' ob'->
     ∃ob2 G2,Sim N (A19 (T i) (O i)) a' w' ob2 G2/\B9z K Γ G2 w' ob2:=by
    rintro τ a' w' ob' G' i ⟨ρ,A,hw⟩ s hΓ';obtain⟨ob2,G2,g1,g2,g3⟩:=B3d s hw;exact⟨ob2,G2,g1,hΓ'.fr.trans g2,hΓ'.ext.trans λid j hk hi=>⟨j,by rw[g3 id hk];exact hi, .inl rfl⟩⟩
   intro b k cs;have key: ∀n i,μ i=n-> ∀(a':Act) (w':World) (ob':Place) (G':Nat->Prop),Sim N (A19 (T i) (O i)) a' w' ob' G'->B9z K Γ G' w' ob'->
     ∃e a2 w2,D99 K N Γ Q e a2 w2/\Arrives P (lone (b.at a' (.code c1:: .inLoop c1::k)) cs w') b k cs e a2 w2:=by
    intro n;induction n using Nat.strongRecOn with
    |_ n ih=>
     intro i hn a' w' ob' G' hs' hΓ';obtain⟨e,a1,w1,hq,harr⟩:=h i c1 h1 Γ a' w' ob' G' hs' hΓ' b (.inLoop c1::k) cs;obtain⟨o,τ,ob1,G1,rfl,hq,s,hΓ1⟩:=hq;cases o with
     |normal=>obtain⟨i',hlt,hw⟩:=hq;obtain⟨ob2,G2,s2,hΓ2⟩:=enter τ a1 w1 ob1 G1 i' hw s hΓ1;obtain⟨e2,a2,w2,hq2,harr2⟩:=ih (μ i') (hn▸hlt) i' rfl a1 w1 ob2 G2 s2 hΓ2;exact⟨e2,a2,w2,hq2, .of_steps (Steps.trans harr (.one step_inLoop)) harr2⟩
     |exit id=>exact⟨.exit id,a1,w1,⟨.exit id,τ,ob1,G1,rfl,hq,s,hΓ1⟩, .pass (x:= .inLoop c1) rfl (λ_ _=> .inl p_) harr⟩
     |ret=>exact⟨.ret,a1,w1,⟨.ret,τ,ob1,G1,rfl,hq,s,hΓ1⟩, .pass (x:= .inLoop c1) rfl (λ_ _=> .inl p_) harr⟩
   obtain⟨ob2,G2,s2,hΓ2⟩:=enter σ a w ob G i0 h0 hs hΓ;obtain⟨e,a',w',hq,harr⟩:=key _ i0 rfl a w ob2 G2 s2 hΓ2;exact⟨e,a',w',hq, .of_steps (.one step_loop) harr⟩
  ·cases hc
 all_goals grind
end
def B48:Nat->List AV->Slots
 |_,[]=> []
 |i,v::vs=>(i, .cA,v)::B48 (i+1) vs
def A02(args:List AV)(O:List (Nat×A7)):St:=A19 (B48 0 args) O
def A5x:List AV->AV
 | [r]=>r
 |rs=> .tup rs
def B9m:List Nat->List C0u->List AV->Slots
 |t::ts,m::ms,r::rs=>(t,m,r)::B9m ts ms rs
 |_,_,_=> []
def A8f(K:List Nat)(σ:St)(ts:List Nat)(rs:List AV)(O:List (Nat×A7)):Prop:= ∃md,md.length=ts.length/\rs.length=ts.length/\V5 K σ (B9m ts md rs) O
def D5o(K:List Nat)(ts:List Nat)(R:List AV->List (Nat×A7)->Prop)(o:Out)(σ:St):Prop:=
 match o with
 | .exit _=>False
 | .normal=> ∃rs O,R rs O/\A8f K σ ts rs O
 | .ret=> ∃rs O,R rs O/\A8f K σ ts rs O
def A41:List ResultVar->Option (List Nat)
 | []=>some []
 | .tmp t::r=>match A41 r with
   |some ts=>some (t::ts)
   |none=>none
 | .cell .. ::_=>none
section
variable {P:Program} {N:Nat} {K:List Nat}
theorem D66: ∀ {l:List ResultVar} {ts:List Nat},A41 l=some ts->l=ts.map .tmp
 | [],ts,h=>by simp only[A41,za]at h;subst h;rfl
 | .tmp t::r,ts,h=>by
   simp only[A41]at h;split at h
   ·rename_i ts' h1;cases h;rw[D66 h1];rfl
   ·cases h
 | .cell a b::r,ts,h=>by simp[A41]at h
variable {ts:List Nat} {fn:Func}
theorem E18(h:A41 fn.results.toList=some ts)(tmps:Array Value)(w:World):
  ∃v,(results fn tmps).run P w= .ok v w/\v=(match ts.map (λt=>tmps.getD t undef)with | [x]=>x |vs=> .tuple vs.toArray):=by
 have h1:fn.results=(ts.map ResultVar.tmp).toArray:=by rw[<-D66 h]
 have h2: ∀(f:ResultVar->Sem Value),(∀t,f (.tmp t)=pure (tmps.getD t undef))-> ∀ts:List Nat,(ts.map ResultVar.tmp).mapM f=pure (ts.map λt=>tmps.getD t undef):=by
  intro f hf ts;induction ts with
  |nil=>rfl
  |cons t ts ih=>grind
 refine⟨_,?_,rfl⟩;unfold results;rw[h1,List.mapM_toArray,h2 _ (λt=>rfl)];simp only[map_pure,pure_bind];cases ts with
 |nil=>rfl
 |cons t ts=>cases ts with
  |nil=>rfl
  |cons u us=>rfl
theorem C41: ∀(args:List AV) (i t:Nat),A2e (B48 i args) t=if i<=t then(args[t-i]?).map (λv=>(true,v))else none
 | [],i,t=>by simp[B48,A2e]
 |v::vs,i,t=>by
  simp only[B48,A2e,C41 vs (i+1) t]
  grind
variable {O:List (Nat×A7)} {w:World} {G:Nat->Prop} {ob:Place} {args:List AV}
theorem C77 {vals:List Value}(hs:E8 G w ob (ofL O))(hr:A59 G w ob args vals)(hl:args.length<=N):
  Sim N (A02 args O) {tmps:=vals.toArray++Array.replicate (N-vals.toArray.size) undef,defers:= []} w ob G:=by
 refine⟨?_,rfl,hs,λt av ht=> ?_,λt av ht=>absurd ht B21⟩
 ·have:=hr.1;simp;omega
 ·simp only[A02,A19,C41,zm,zL,Nat.sub_zero,zh,zq,qo,exists_eq_right]at ht;have hlt:t<vals.length:=by
   rw[hr.1]
   grind
  refine⟨vals.getD t undef,?_,hr.2 t av ht⟩;simp[Array.getElem?_append,hlt,List.getD]
theorem B99: ∀ {ts:List Nat} {md:List C0u} {rs:List AV},md.length=ts.length->rs.length=ts.length->ts.Nodup-> ∀(j:Nat) (t:Nat) (r:AV),ts[j]? =some t->rs[j]? =some r->A2e (B9m ts md rs) t=some (true,r)
 | [],md,rs,_,_,_,j,t,r,h,_=>by simp at h
 |t0::ts,m::md,r0::rs,h1,h2,hn,j,t,r,ht,hr=>by
  simp only[yG]at hn;simp only[B9m,A2e];cases j with
  |zero=>grind
  |succ j=>simp only[List.getElem?_cons_succ]at ht hr;rw[zb (λe=>hn.1 (by rw[<-e];exact qv ht))];exact B99 (by simpa using h1) (by simpa using h2) hn.2 j t r ht hr
 |_::_,[],_,h1,_,_,_,_,_,_,_=>by simp at h1
 |_::_,_::_,[],_,h2,_,_,_,_,_,_=>by simp at h2
variable {rs:List AV}
theorem D1s {tmps:Array Value}(hl:rs.length=ts.length)
  (h: ∀(j t:Nat) (r:AV),ts[j]? =some t->rs[j]? =some r-> ∃v,tmps[t]? =some v/\Rel G w ob r v):
  Rel G w ob (A5x rs) (match ts.map (λt=>tmps.getD t undef)with | [x]=>x |vs=> .tuple vs.toArray):=by
 have get: ∀(j t:Nat) (r:AV),ts[j]? =some t->rs[j]? =some r->Rel G w ob r (tmps.getD t undef):=λj t r ht hr=>by obtain⟨v,h1,h2⟩:=h j t r ht hr;simp_all
 match ts,rs,hl with
 | [],[],_=>exact .tup #[] rfl (λj av h=>by simp at h)
 | [t],[r],_=>exact get 0 t r rfl rfl
 |t::u::us,r::s::ss,hl=>
  refine .tup _ (by simp at hl;simp[hl]) λj av hj=> ?_;have hjl:j<(t::u::us).length:=by grind
  have:=get j (t::u::us)[j] av (zg hjl) hj
  have e:(((t::u::us).map λt=>tmps.getD t undef).toArray).getD j undef=tmps.getD (t::u::us)[j] undef:=by rw[qO,List.getElem?_toArray,qA,zg hjl];rfl
  grind
def C5v(P:Program)(f:FuncId)(args:List AV)(O:List (Nat×A7))(R:List AV->List (Nat×A7)->Prop):Prop:=
 A3p P f=true/\ ∀(G:Nat->Prop) (w:World) (ob:Place) (vals:List Value),E8 G w ob (ofL O)->A59 G w ob args vals->
  Calls P f vals.toArray w λe w'=> ∃rs O' v G' ob',R rs O'/\e= .returned v/\E8 G' w' ob' (ofL O')/\Rel G' w' ob' (A5x rs) v/\Fr G w ob G' w' ob'/\D4 ob ob'
variable {f:FuncId} {ac:ACode}
theorem D6e {c:Code}{R:List AV->List (Nat×A7)->Prop}
  (hf:P.funcs[f]? =some fn)(hb:fn.body=some c)(hname:(fn.name != "runtime.NumGoroutine")=true)(hc:F2 P fn.ntmps c=some ac.strip)
  (hts:A41 fn.results.toList=some ts)(hnd:ts.Nodup)(hl:args.length<=fn.ntmps)
  (h:Wp P fn.ntmps (O.map (·.1)) ac (D5o (O.map (·.1)) ts R) (A02 args O)):C5v P f args O R:=by
 refine⟨by unfold A3p;rw[hf];simp[hb,hname],λG w ob vals hs hr=> ?_⟩;refine calls_of_wp hf hb ?_;have h1:=h c hc ⟨G,w,ob⟩ _ w ob G (C77 hs hr hl) ⟨Fr.refl G w ob,λid i _ hi=>⟨i,hi, .inl rfl⟩⟩;refine wp_mono h1 ?_;rintro e a' w' ⟨o,σ,ob1,G1,rfl,hq,s,hΓ⟩;have fin:(∃rs O',R rs O'/\A8f (O.map (·.1)) σ ts rs O')->a'.defers= []/\ ∃v,(results fn a'.tmps).run P w'= .ok v w'/\
   ∃rs O' v' G' ob',R rs O'/\Ending.returned v= .returned v'/\E8 G' w' ob' (ofL O')/\Rel G' w' ob' (A5x rs) v'/\Fr G w ob G' w' ob'/\D4 ob ob':=by
  rintro⟨rs,O',hR,md,hml,hrl,ρ,A,hw⟩;obtain⟨ob2,G2,g1,g2,g3⟩:=B3d s hw;obtain⟨v,hv,hv'⟩:=E18 hts a'.tmps w' (P:=P);refine⟨s.defers,v,hv,rs,O',v,G2,ob2,hR,rfl,g1.objs,?_,hΓ.fr.trans g2,?_⟩
  ·rw[hv'];exact D1s hrl λj t r ht hr=>g1.env t r (B99 hml hrl hnd j t r ht hr)
  ·intro id i hi;have hk:id∈O.map (·.1):=by
    cases ho:ofL O id with
    |none=>rw[(hs.dom id).1 ho]at hi;cases hi
    |some o=>obtain⟨o',ho'⟩:=A9b (by rw[ho];rfl);exact qS (f:=(·.1)) ho'
   obtain⟨i',hi',h'⟩:=hΓ.ext id i hk hi
   grind
 cases o with
 |normal=>exact fin hq
 |exit i=>exact hq.elim
 |ret=>exact fin hq
variable {O':List (Nat×A7)}
theorem C5v.one(h:C5v P f args O (λrs' O1=>rs'=rs/\O1=O')):D5 P f args O (A5x rs) O':=by
 refine⟨h.1,λG w ob vals hs hr=>(h.2 G w ob vals hs hr).mono ?_⟩
 grind
end
end Go.Abs
end
noncomputable section
namespace Go.Abs
variable {β:Type}
theorem E82(f:Nat->Option β)(k:Nat)(v:Option β)(x:Nat):upd f k v x=if x=k then v else f x:=rfl
mutual
def M9:AV->AV->Prop
 | .sc v, .sc v'=>v=v'
 | .sc v, .dsl _ n _=>v= .slice none 0 0/\n=0
 | .dsl z n g, .dsl z' n' g'=>z=z'/\n=n'/\ ∀i,i<n->Z0 (g i) (g' i)
 | .dslx z n g, .dslx z' n' g'=>z=z'/\n=n'/\ ∀i,i<n->Z0 (g i) (g' i)
 | .dslx z n g, .dsl z' n' g'=>z=z'/\n=n'/\ ∀i,i<n->Z0 (g i) (g' i)
 | .agg cs, .agg cs'=>Z0 cs cs'
 |a,b=>a=b
def Z0:List AV->List AV->Prop
 | [],[]=>True
 |a::as,b::bs=>M9 a b/\Z0 as bs
 |_,_=>False
end
mutual
theorem A7z: ∀(a b:AV),M9 a b->J2 a b
 | .sc v,b,h=>by
   cases b <;> simp only[M9,reduceCtorEq]at h
   case sc=>subst h;exact J2.refl _
   case dsl z n g=>obtain⟨rfl,rfl⟩:=h;exact J2.nil
 | .dsl z n g,b,h=>by cases b <;> simp only[M9,reduceCtorEq]at h;obtain⟨rfl,rfl,h⟩:=h;exact J2.dsl λi hi=>A9v _ _ (h i hi)
 | .dslx z n g,b,h=>by
   cases b <;> simp only[M9,reduceCtorEq]at h
   ·obtain⟨rfl,rfl,h⟩:=h;exact(J2.dslx (g':=λi=>_) λi hi=>A9v _ _ (h i hi)).trans J2.dslx_dsl
   ·obtain⟨rfl,rfl,h⟩:=h;exact J2.dslx λi hi=>A9v _ _ (h i hi)
 | .sl ..,b,h=>by cases b <;> simp only[M9,reduceCtorEq]at h;exact J2.of_eq h
 | .ptr ..,b,h=>by cases b <;> simp only[M9,reduceCtorEq]at h;exact J2.of_eq h
 | .mp _,b,h=>by cases b <;> simp only[M9,reduceCtorEq]at h;exact J2.of_eq h
 | .dE _,b,h=>by cases b <;> simp only[M9,reduceCtorEq]at h;exact J2.of_eq h
 | .agg cs,b,h=>by cases b <;> simp only[M9,reduceCtorEq]at h;exact J2.agg (A9v _ _ h)
 | .tup _,b,h=>by cases b <;> simp only[M9,reduceCtorEq]at h;exact J2.of_eq h
 | .fn ..,b,h=>by cases b <;> simp only[M9,reduceCtorEq]at h;exact J2.of_eq h
 | .own ..,b,h=>by cases b <;> simp only[M9,reduceCtorEq]at h;exact J2.of_eq h
 | .hole,b,h=>by cases b <;> simp only[M9,reduceCtorEq]at h;exact J2.of_eq rfl
theorem A9v: ∀(as bs:List AV),Z0 as bs->A52 as bs
 | [],[],_=>trivial
 |a::as,b::bs,h=>by simp only[Z0]at h;exact⟨A7z a b h.1,A9v as bs h.2⟩
 | [],_::_,h=>by simp[Z0]at h
 |_::_,[],h=>by simp[Z0]at h
end
mutual
theorem D0: ∀(a:AV),M9 a a
 | .sc v=>by simp only[M9]
 | .dsl z n g=>by simp only[M9,qo];exact λi _=>I5 (g i)
 | .dslx z n g=>by simp only[M9,qo];exact λi _=>I5 (g i)
 | .agg cs=>by simp only[M9];exact I5 cs
 | .sl .. =>by simp only[M9]
 | .ptr .. =>by simp only[M9]
 | .mp _=>by simp only[M9]
 | .dE _=>by simp only[M9]
 | .tup _=>by simp only[M9]
 | .fn .. =>by simp only[M9]
 | .own .. =>by simp only[M9]
 | .hole=>by simp only[M9]
theorem I5: ∀(l:List AV),Z0 l l
 | []=>by simp only[Z0]
 |a::l=>by simp only[Z0];exact⟨D0 a,I5 l⟩
end
def B7q:AV->AV->Prop
 | .own z n g, .own z' n' g'=>z=z'/\n=n'/\ ∀i,i<n->Z0 (g i) (g' i)
 | .sc v, .own _ n _=>v= .slice none 0 0/\n=0
 | .hole, .hole=>True
 |a,b=>a.pure=true/\M9 a b
def C1x:List AV->List AV->Prop
 | [],[]=>True
 |a::as,b::bs=>B7q a b/\C1x as bs
 |_,_=>False
theorem E9q {a b:AV}(h:B7q a b):A7o a b:=by
 cases a with
 |own z n g=>cases b <;> simp only[B7q,AV.pure,zf,qJ]at h;obtain⟨rfl,rfl,h⟩:=h;exact A7o.own λi hi=>A9v _ _ (h i hi)
 |hole=>cases b <;> simp only[B7q,AV.pure,zf,qJ]at h;exact A7o.refl _
 |sc v=>
  cases b <;> simp only[B7q]at h
  case own=>obtain⟨rfl,rfl⟩:=h;exact A7o.nil
  all_goals exact A7o.pure h.1 (A7z _ _ h.2)
 |_=>simp only[B7q]at h;exact A7o.pure h.1 (A7z _ _ h.2)
theorem D59: ∀ {as bs:List AV},C1x as bs->B8b as bs
 | [],[],_=>trivial
 |a::as,b::bs,h=>⟨E9q h.1,D59 h.2⟩
 | [],_::_,h=>h.elim
 |_::_,[],h=>h.elim
def A21(σ:St)(ρ:Nat->Nat)(A:List Nat)(O:List (Nat×A7)):Slots->List (Nat×A7)->(List (Nat×A7)->Prop)->Prop
 | [],acc,K=>K acc
 |(t, .cA,c)::r,acc,K=>σ.env t=some (true,c.ren ρ)/\(∀i∈c.ids,(ofL O i).isSome/\i∉A)/\A21 σ ρ A O r acc K
 |(t, .eP,c)::r,acc,K=>match σ.env t with
  |some (b,av)=>b=true/\(match A0x σ.objs av with
   |some (p,c1,w1)=>p/\M9 c1 c/\A21 σ ρ A O r (acc++w1) K
   |none=>False)
  |none=>False
 |(t, .fA,c)::r,acc,K=>σ.env t=some (true, .sc (.slice none 0 0))/\(match c with | .sl x 0 0 0=>x∈A/\(ofL O x).isSome |_=>False)/\A21 σ ρ A O r acc K
def A31(ρ:Nat->Nat):A7->A7->Prop
 | .arr z s, .arr z' s'=>z=z'/\s.n=s'.n/\ ∀i,i<s.n->Z0 (s.g i) (s'.g i)
 | .frz z s, .frz z' s'=>z=z'/\s.n=s'.n/\ ∀i,i<s.n->Z0 (s.g i) (s'.g i)
 | .map k es, .map k' es'=>A7.map k es=A7.map k' es'
 | .mapS k es, .mapS k' es'=>A7.mapS k es=A7.mapS k' es'
 | .frzb cs, .frzb cs'=>cs=cs'
 | .arrP z s, .arrP z' s'=>z=z'/\s.n=s'.n/\ ∀i,i<s.n->C1x (s.g i) (s'.g i)
 |_,_=>False
def C25(ρ:Nat->Nat)(A:List Nat)(O:List (Nat×A7)):AV->AV->Prop
 | .sc v, .sl x o n t=>v= .slice none 0 0/\o=0/\n=0/\t=0/\x∈A/\(ofL O x).isSome
 | .sc v,c=>M9 (.sc v) c
 | .dsl z n g,c=>M9 (.dsl z n g) c
 | .dslx z n g,c=>M9 (.dslx z n g) c
 |c',c=>c'=c.ren ρ/\ ∀j∈c.ids,(ofL O j).isSome/\j∉A
def E41(ρ:Nat->Nat)(A:List Nat)(O:List (Nat×A7)):List AV->List AV->Prop
 | [],[]=>True
 |c'::cs',c::cs=>C25 ρ A O c' c/\E41 ρ A O cs' cs
 |_,_=>False
variable {O:List (Nat×A7)} {A:List Nat} {c':AV}
theorem E91 {ρ:Nat->Nat}{c:AV}(h:C25 ρ A O c' c):B8d ρ A O c' c:=by
 cases c' with
 |sc v=>
  cases c <;> simp only[C25]at h
  case sl=>obtain⟨rfl,rfl,rfl,rfl,h1,h2⟩:=h;exact .fA h1 h2
  all_goals exact .le rfl (A7z _ _ h)
 |dsl z n g=>simp only[C25]at h;exact .le rfl (A7z _ _ h)
 |dslx z n g=>simp only[C25]at h;exact .le rfl (A7z _ _ h)
 |_=>simp only[C25]at h;rw[h.1];exact .cA h.2
theorem E3b {ρ:Nat->Nat}{A:List Nat}{O:List (Nat×A7)}: ∀ {cs' cs:List AV},E41 ρ A O cs' cs->B9w ρ A O cs' cs
 | [],[],_=> .nil
 |c'::cs',c::cs,h=> .cons (E91 h.1) (E3b h.2)
 | [],_::_,h=>h.elim
 |_::_,[],h=>h.elim
def B31(m:Nat->Option A7)(ρ:Nat->Nat)(A:List Nat)(O:List (Nat×A7)):List (Nat×A7)->Prop
 | []=>True
 |(i,o)::r=>(if i∈A then(match o with | .arr _ s=>s.n=0 | .arrP _ s=>s.n=0 |_=>False)else(match m (ρ i)with |some o'=>(match o',o with | .box cs', .box cs=>E41 ρ A O cs' cs |o',o=>A31 ρ o' o) |none=>False))/\B31 m ρ A O r
theorem B0f {σ:St}{ρ:Nat->Nat}{A:List Nat}{O:List (Nat×A7)}{Kp Kp':List (Nat×A7)->Prop}(hK: ∀l,Kp l->Kp' l): ∀(T:Slots) (acc:List (Nat×A7)),A21 σ ρ A O T acc Kp->B3a σ ρ A O T acc Kp'
 | [],acc,h=>hK acc h
 |(t, .cA,c)::r,acc,h=>⟨h.1,h.2.1,B0f hK r acc h.2.2⟩
 |(t, .eP,c)::r,acc,h=>by
  simp only[A21]at h;simp only[B3a];split at h
  ·rename_i b av hv;obtain⟨rfl,h⟩:=h;split at h
   ·rename_i p c1 w1 hf;rw[hv];simp only[hf];exact⟨trivial,h.1,A7z _ _ h.2.1,B0f hK r _ h.2.2⟩
   ·exact h.elim
  ·exact h.elim
 |(t, .fA,c)::r,acc,h=>⟨h.1,h.2.1,B0f hK r acc h.2.2⟩
theorem E77 {ρ:Nat->Nat}{o' o:A7}(h:A31 ρ o' o):D2h ρ A O o' o:=by
 cases o' <;> cases o <;> simp only[A31]at h
 case arr.arr=>obtain⟨rfl,h1,h2⟩:=h;exact .inr ⟨λcs h=>(by cases h),λcs h=>(by cases h), .inr<|B13.arr h1 λi hi=>A9v _ _ (h2 i hi)⟩
 case frz.frz=>obtain⟨rfl,h1,h2⟩:=h;exact .inr ⟨λcs h=>(by cases h),λcs h=>(by cases h), .inr<|B13.frz h1 λi hi=>A9v _ _ (h2 i hi)⟩
 case frzb.frzb=>subst h;exact .inr ⟨λcs h=>(by cases h),λcs h=>(by cases h), .inl rfl⟩
 case arrP.arrP=>obtain⟨rfl,h1,h2⟩:=h;exact .inr ⟨λcs h=>(by cases h),λcs h=>(by cases h), .inr<|B13.arrP h1 λi hi=>D59 (h2 i hi)⟩
 case map.map=>rw[h];exact .inr ⟨λcs h=>(by cases h),λcs h=>(by cases h), .inl rfl⟩
 case mapS.mapS=>rw[h];exact .inr ⟨λcs h=>(by cases h),λcs h=>(by cases h), .inl rfl⟩
theorem E0e {m:Nat->Option A7}{ρ:Nat->Nat}{A:List Nat}{O:List (Nat×A7)}: ∀ {l:List (Nat×A7)},B31 m ρ A O l->C18 m ρ A O l
 | [],_=>trivial
 |(i,o)::l,h=>by
  refine⟨?_,E0e h.2⟩;have h1:=h.1;by_cases hA:i∈A
  ·rw[zc hA]at h1⊢;exact h1
  ·rw[zb hA]at h1⊢;cases hm:m (ρ i)with
   |none=>rw[hm]at h1;exact h1.elim
   |some o'=>
    rw[hm]at h1;simp only at h1;split at h1
    ·exact .inl ⟨_,_,rfl,rfl,E3b h1⟩
    ·exact E77 h1
variable {σ:St} {T:Slots}
theorem B9l {K:List Nat}(ρs:List (Nat×Nat))(A:List Nat)(h1:(O.map (·.1)).Nodup)(h2:(((O.map (·.1)).filter λi=> !A.contains i).map (J1 ρs)).Nodup)
  (h3: ∀k∈K,k∉A/\J1 ρs k=k/\(ofL O k).isSome)(h4:A21 σ (J1 ρs) A O T [] λwr=>B31 (wrm σ.objs wr) (J1 ρs) A O O):V5 K σ T O:=
 ⟨J1 ρs,A,h1,h2,h3,B0f (λ_=>E0e) T [] h4⟩
theorem D4h(h:A21 σ id [] [] T [] λ_=>True):V5 [] σ T []:=⟨id,[],yT,yT,λk hk=>(by cases hk),B0f (λ_ _=>trivial) T [] h⟩
def B5m(σ:St):List Nat->List AV->Prop
 | [],[]=>True
 |t::ts,r::rs=>(match σ.env t with
  |some (b,av)=>b=true/\(match A0x σ.objs av with
   |some (p,c1,_)=>p/\M9 c1 r
   |none=>False)
  |none=>False)/\B5m σ ts rs
 |_,_=>False
theorem C3y {σ:St}: ∀ {ts:List Nat} {rs:List AV} {acc:List (Nat×A7)},B5m σ ts rs-> ∃md,md.length=ts.length/\rs.length=ts.length/\A21 σ id [] [] (B9m ts md rs) acc λ_=>True
 | [],[],acc,_=>⟨[],rfl,rfl,trivial⟩
 |t::ts,r::rs,acc,h=>by
  obtain⟨h1,h2⟩:=h;split at h1
  ·rename_i b av hv;obtain⟨rfl,h1⟩:=h1;split at h1
   ·rename_i p c1 w1 hf;obtain⟨md,g1,g2,g3⟩:=C3y (acc:=acc++w1) h2;refine⟨.eP::md,by simp[g1],by simp[g2],?_⟩;simp only[B9m,A21,hv,hf];exact⟨trivial,h1.1,h1.2,g3⟩
   ·exact h1.elim
  ·exact h1.elim
 | [],_::_,_,h=>h.elim
 |_::_,[],_,h=>h.elim
variable {rs:List AV} {ts:List Nat}
theorem E0p {R:List AV->List (Nat×A7)->Prop}(h:B5m σ ts rs)(hR:R rs []):D5o [] ts R .ret σ:=by obtain⟨md,h1,h2,h3⟩:=C3y (acc:= []) h;exact⟨rs,[],hR,md,h1,h2,D4h h3⟩
theorem E57 {K:List Nat}{R:List AV->List (Nat×A7)->Prop}(h:D5o K ts R .ret σ):D5o K ts R .normal σ:=h
mutual
theorem AV.ren_id: ∀(a:AV),a.ren id=a
 | .sc _=>rfl
 | .dsl .. =>rfl
 | .dslx .. =>rfl
 | .sl .. =>rfl
 | .ptr .. =>rfl
 | .mp _=>rfl
 | .dE _=>rfl
 | .own .. =>rfl
 | .hole=>rfl
 | .agg cs=>by simp only[AV.ren,O3 cs]
 | .tup cs=>by simp only[AV.ren,O3 cs]
 | .fn f a b=>by simp only[AV.ren,O3 a,O3 b]
theorem O3: ∀(l:List AV),A9k id l=l
 | []=>rfl
 |a::l=>by simp only[A9k,AV.ren_id a,O3 l]
end
section
variable {P:Program} {m:Nat->Option A7} {f:FuncId} {b:Bool} {K:Res->Prop}
def S2(m:Nat->Option A7):List AV->List AV->List (Nat×A7)->(List (Nat×A7)->Prop)->Prop
 | [],[],acc,K=>K acc
 |a::as,c::cs,acc,K=>match A0x m a with
  |some (p,c1,w)=>p/\M9 c1 c/\S2 m as cs (acc++w) K
  |none=>False
 |_,_,_,_=>False
theorem C22 {Kp:List (Nat×A7)->Prop}: ∀ {avs cargs:List AV} {acc:List (Nat×A7)},S2 m avs cargs acc Kp->
  ∃md cs wr,S4 m id [] md avs cs wr/\A52 cs cargs/\Kp (acc++wr)
 | [],[],acc,h=>⟨[],[],[],rfl,trivial,by simpa[S2]using h⟩
 |a::as,c::cs,acc,h=>by
  simp only[S2]at h;split at h
  ·rename_i p c1 w hf;obtain⟨md,cs',wr,g1,g2,g3⟩:=C22 h.2.2;exact⟨false::md,c1::cs',w++wr,⟨p,w,wr,hf,h.1,rfl,g1⟩,⟨A7z _ _ h.2.1,g2⟩,by simpa using g3⟩
  ·exact h.elim
 | [],_::_,_,h=>by simp[S2]at h
 |_::_,[],_,h=>by simp[S2]at h
variable {O':List (Nat×A7)} {args:List AV}
theorem D5.args_le {args':List AV}{r:AV}(h:D5 P f args' O r O')(hle:A52 args args'):D5 P f args O r O':=
 ⟨h.1,λG w ob vals hs hr=>h.2 G w ob vals hs ⟨by rw[hr.1,hle.get.1],λj av hj=>by obtain⟨a,ha,hl⟩:=hle.get.2 j av hj;exact hl.rel _ _ _ _ (hr.2 j a ha)⟩⟩
variable {avs cs:List AV} {wr:List (Nat×A7)}
theorem B16 {r:AV}{md:List Bool}(hc:D5 P f cs [] r [])(ha:S4 m id [] md avs cs wr)(keep:Bool)(hk:keep=true->r.noDsl=true):
  O9 P m f avs ⟨some r,if keep then []else wr⟩:=by
 have:=O9.mk (P:=P) (m:=m) md cs [] r [] id wr keep hc ha (λi o h=>by simp[ofL,wrm]at h) (λi cs h=>by simp[ofL,wrm]at h) (λi h=>by simp[ofL,wrm]at h)
  (λi h=>by simp[ofL,wrm]at h) yT (λh=>⟨hk h,λi o h=>by simp[ofL,wrm]at h⟩)
 simpa[A3v,AV.ren_id]using this
variable {cargs:List AV}
theorem E45 {r:AV}(hc:D5 P f cargs [] r [])(hn:r.noDsl=true)(ha:S2 m avs cargs [] λ_=>True)(hK:K ⟨some r,[]⟩):B9x P m f avs b K:=by obtain⟨md,cs,wr,h1,h2,_⟩:=C22 ha;exact⟨_,λ_=>B16 (hc.args_le h2) h1 true (λ_=>hn),λh=>absurd rfl h,hK⟩
theorem E46 {r:AV}(hc:D5 P f cargs [] r [])(ha:S2 m avs cargs [] λwr=>(wr≠ []->b=true)/\K ⟨some r,wr⟩):B9x P m f avs b K:=by obtain⟨md,cs,wr,h1,h2,h3,h4⟩:=C22 ha;exact⟨_,λ_=>B16 (hc.args_le h2) h1 false (λh=>by cases h),h3,by simpa using h4⟩
def C8p:List AV->Bool
 | []=>true
 |a::as=>a.flat&&C8p as
mutual
theorem C0a: ∀ {c:AV},c.pure=true-> ∃p,p/\R5 m c=some (p,c,[])
 | .sc _,_=>⟨True,trivial,rfl⟩
 | .dsl ..,_=>⟨True,trivial,rfl⟩
 | .dslx ..,_=>⟨True,trivial,rfl⟩
 | .dE _,_=>⟨True,trivial,rfl⟩
 | .fn f a b,h=>by simp only[AV.pure,zi]at h;obtain⟨p,hp,h1⟩:=B19 h.1;obtain⟨q,hq,h2⟩:=B19 h.2;exact⟨p/\q,⟨hp,hq⟩,by simp[R5,h1,h2]⟩
 | .sl ..,h=>by simp[AV.pure]at h
 | .ptr ..,h=>by simp[AV.pure]at h
 | .mp _,h=>by simp[AV.pure]at h
 | .agg _,h=>by simp[AV.pure]at h
 | .tup _,h=>by simp[AV.pure]at h
 | .own ..,h=>by simp[AV.pure]at h
 | .hole,h=>by simp[AV.pure]at h
theorem B19: ∀ {cs:List AV},A2m cs=true-> ∃p,p/\A1b m cs=some (p,cs,[])
 | [],_=>⟨True,trivial,rfl⟩
 |c::cs,h=>by simp only[A2m,zi]at h;obtain⟨q,hq,h1⟩:=C0a h.1;obtain⟨p,hp,hf⟩:=B19 h.2;exact⟨q/\p,⟨hq,hp⟩,by simp[A1b,h1,hf]⟩
end
theorem E8n(h:cs.all AV.pure=true):A2m cs=true:=C3x λj av hj=>qm.1 h av (qv hj)
theorem D9z(h:cs.all AV.pure=true): ∃p,p/\A1b m cs=some (p,cs,[]):=B19 (E8n h)
theorem D7i {a:AV}(h:a.flat=true): ∃p,p/\A0x m a=some (p,a,[]):=by
 cases a with
 |agg cs=>obtain⟨p,hp,hf⟩:=D9z (m:=m) (by simpa[AV.flat]using h);exact⟨p,hp,by simp[A0x,hf]⟩
 |tup cs=>simp[AV.flat,AV.pure]at h
 |_=>simp only[AV.flat]at h;simp only[A0x];exact C0a h
theorem C9s: ∀ {avs:List AV},C8p avs=true-> ∃md,S4 m id [] md avs avs []
 | [],_=>⟨[],rfl⟩
 |a::as,h=>by simp only[C8p,zi]at h;obtain⟨p,hp,hf⟩:=D7i (m:=m) h.1;obtain⟨md,hm⟩:=C9s h.2;exact⟨false::md,p,[],[],hf,hp,rfl,hm⟩
theorem E44 {r:AV}(hc:D5 P f avs [] r [])(hf:C8p avs=true)(hK:K ⟨some r,[]⟩):B9x P m f avs b K:=by obtain⟨md,h1⟩:=C9s (m:=m) hf;exact⟨_,λ_=>B16 hc h1 false (λh=>by cases h),λh=>absurd rfl h,by simpa using hK⟩
end
end Go.Abs
namespace Go.Abs
def F2f(ts:List Nat)(rs:List AV)(o:Out)(σ:St):Prop:=
 match o with
 | .exit _=>False
 | .normal=>B5m σ ts rs
 | .ret=>B5m σ ts rs
variable {rs args:List AV} {ts:List Nat} {ac:ACode} {fn:Func}
theorem E65 {P:Program}{f:FuncId}(hm:P.follows .mixedOrders=true)
  (hf:P.funcs[f]? =some fn)(hb:fn.body=some (fn.body.getD .skip))(hname:(fn.name != "runtime.NumGoroutine")=true)(hc:F2 P fn.ntmps (fn.body.getD .skip)=some ac.strip)
  (hts:A41 fn.results.toList=some ts)(hnd:ts.Nodup)(hl:(args.length.ble fn.ntmps)=true)
  (h:W P fn.ntmps [] ac (F2f ts rs) (A02 args [])):D5 P f args [] (A5x rs) []:=by
 have key:Wp P fn.ntmps [] ac (D5o [] ts λrs' O=>rs'=rs/\O= []) (A02 args []):=(Wp.of_W hm ac h).mono λo σ hq=>by
  cases o with
  |exit i=>exact hq
  |normal=>exact E57 (E0p hq ⟨rfl,rfl⟩)
  |ret=>exact E0p hq ⟨rfl,rfl⟩
 exact C5v.one (D6e hf hb hname hc hts hnd (yw hl) key)
end Go.Abs
end
noncomputable section
namespace Go.Abs
theorem bor(b q:Bool):(if b=true then true else q)=(b||q):=by cases b <;> rfl
theorem F9b(b q:Bool):(if b=false then true else q)=(!b||q):=by cases b <;> rfl
theorem F8b(b q:Bool):(if b=false then q else false)=(!b&&q):=by cases b <;> rfl
theorem F9a(b q:Bool):(if b=true then q else false)=(b&&q):=by cases b <;> rfl
section
variable {α:Type}
def A4n(enc:α->List AV)(d:α)(l:List α):Sq:=⟨l.length,λi=>enc (l.getD i d)⟩
def D09(z:Nat)(enc:α->List AV)(d:α)(l:List α):AV:= .dsl z l.length λi=>enc (l.getD i d)
theorem F5a(s:Sq)(k:Nat)(c:List AV):(s.set k c).n=s.n:=rfl
theorem F3k(enc:α->List AV)(d:α)(l:List α):(A4n enc d l).n=l.length:=rfl
theorem F3j(enc:α->List AV)(d:α)(l:List α)(i:Nat):(A4n enc d l).g i=enc (l.getD i d):=rfl
theorem C3k(l:List α)(i j:Nat)(x d:α)(hi:i<l.length):(l.set i x).getD j d=if j=i then x else l.getD j d:=by
 simp only[List.getD,List.getElem?_set];by_cases h:i=j
 ·subst h;simp[hi]
 ·rw[zb h,zb (λe=>h e.symm)]
variable {l:List α} {i:Nat}
theorem D6i {enc:α->List AV}{d:α}{x:α}(hi:i<l.length):(A4n enc d l).set i (enc x)=A4n enc d (l.set i x):=by simp only[Sq.set,A4n,zM,Sq.mk.injEq,qo];funext j;rw[C3k l i j x d hi];split <;> rfl
theorem B5x(l l':List α)(i:Nat)(d:α):(l++l').getD i d=if i<l.length then l.getD i d else l'.getD (i-l.length) d:=by
 simp only[List.getD];by_cases h:i<l.length
 ·rw[zc h,ql h]
 ·rw[zb h,zY o_]
variable {l':List α}
theorem E7j {enc:α->List AV}{d:α}:(A4n enc d l).app (A4n enc d l')=A4n enc d (l++l'):=by simp only[Sq.app,A4n,zd,Sq.mk.injEq,qo];funext j;rw[B5x];by_cases h:j<l.length <;> simp[h]
variable {g:Nat->List AV}
theorem E4w {enc:α->List AV}{d:α}{x:α}(hg:g 0=enc x){ρ:Nat->Nat}{z:Nat}:
  A31 ρ (.arr z ((A4n enc d l).app ⟨1,g⟩)) (.arr z (A4n enc d (l++ [x]))):=by
 refine⟨rfl,by simp[Sq.app,A4n],λi hi=> ?_⟩;have:((A4n enc d l).app ⟨1,g⟩).g i=(A4n enc d (l++ [x])).g i:=by
  have hi':i<l.length+1:=hi;simp only[Sq.app,A4n];rw[B5x];by_cases h:i<l.length
  ·simp[h]
  ·have h0:i-l.length=0:=o_
   simp only[h,zJ,h0,hg];rfl
 rw[this];exact I5 _
variable {z:Nat} {s:Sq}
theorem A24 {ρ:Nat->Nat}:A31 ρ (.arr z s) (.arr z s):=⟨rfl,rfl,λ_ _=>I5 _⟩
theorem F7y {enc:α->List AV}{d:α}{c:List AV}(x:α){ρ:Nat->Nat}{z:Nat}(hi:i<l.length)(hc:c=enc x)(hl:l.set i x=l'):
  A31 ρ (.arr z ((A4n enc d l).set i c)) (.arr z (A4n enc d l')):=by
 subst hc;subst hl;rw[D6i hi];exact A24
theorem F47 {enc:α->List AV}{d:α}{ρ:Nat->Nat}(h:l=l'):A31 ρ (.arr z (A4n enc d l)) (.arr z (A4n enc d l')):=by subst h;exact A24
theorem E6z(v v':Value):M9 (.sc v) (.sc v')=(v=v'):=by simp only[M9]
theorem E6x:Z0 [] []=True:=by simp only[Z0]
theorem E4x(a b:AV)(as bs:List AV):Z0 (a::as) (b::bs)=(M9 a b/\Z0 as bs):=by simp only[Z0]
theorem E6y {enc:α->List AV}{d:α}(h:l= []):M9 (.sc (.slice none 0 0)) (D09 z enc d l):=by subst h;simp[D09,M9]
end
end Go.Abs
end
noncomputable section
namespace Go.Abs
class Cont where
 q:Out->St->Prop
class ContS where
 q:St->Prop
class ContR where
 q:Bool->Res->Prop
def Qi [Q:Cont](o:Out)(σ:St):Prop:=Q.q o σ
def Si [Q:ContS](σ:St):Prop:=Q.q σ
def Ri [Q:ContR](b:Bool)(r:Res):Prop:=Q.q b r
section
variable (P:Program) (N:Nat) (K:List Nat)
def Wi(c:ACode) [Q:Cont](σ:St):Prop:=W P N K c Q.q σ
def Wpi(c:ACode) [Q:Cont](σ:St):Prop:=Wp P N K c Q.q σ
def Wsi(l:List dC) [Q:ContS](σ:St):Prop:=A5c P l Q.q σ
def Wni(l:List dC)(seen:List (List Nat×List Nat)) [Q:ContS](σ:St):Prop:=C1v P l seen Q.q σ
def Woi(o:dC)(σ:St) [Q:ContR]:Prop:=wop P o σ Q.q
def A25(m:Nat->Option A7)(f:FuncId)(avs:List AV)(b:Bool) [Q:ContR]:Prop:=B9x P m f avs b (Q.q b)
@[reducible] def B55(_d:Nat)(m:Nat->Option A7)(f:FuncId)(avs:List AV)(b:Bool) [Q:ContR]:Prop:= @A25 P m f avs b Q
def E4t(o:dC)(σ:St)(b:Bool) [Q:ContR]:Prop:=
 match o.op with
 | .pick c x y=>match σ.ev c with
   |some (cc, .sc (.bool q))=>match σ.ev x,σ.ev y with
    |some (c1, .sc (.bool p1)),some (c2, .sc (.bool p2))=>(b=true->cc=true/\(q=true->c1=true)/\(q=false->c2=true))/\Ri b ⟨some (.sc (.bool (if q then p1 else p2))),[]⟩
    |some (c1, .sc (.bool p1)),none=>q=true/\(b=true->cc=true/\c1=true)/\Ri b ⟨some (.sc (.bool p1)),[]⟩
    |none,some (c2, .sc (.bool p2))=>q=false/\(b=true->cc=true/\c2=true)/\Ri b ⟨some (.sc (.bool p2)),[]⟩
    |_,_=>False
   |_=>b=false/\Ri false ⟨none,[]⟩
 | .call f xs=>match target σ (.call f xs)with
   |some (f,avs)=>A7f σ b (AOp.call f xs).ops/\B55 P (o.dst.getD 0) σ.objs f avs b
   |none=>b=false/\Ri false ⟨none,[]⟩
 | .callv x xs=>match target σ (.callv x xs)with
   |some (f,avs)=>A7f σ b (AOp.callv x xs).ops/\B55 P (o.dst.getD 0) σ.objs f avs b
   |none=>b=false/\Ri false ⟨none,[]⟩
 |op=>match eval op σ.e σ.objs (o.dst.getD 0)with
  |some (p,r)=>(match r.wr with
   | []=>A7f σ b op.ops/\(b=true->p)/\Ri b r
   |_::_=>if b=true then A7f σ true op.ops/\p/\Ri true r else Ri false ⟨none,[]⟩)
  |none=>b=false/\Ri false ⟨none,[]⟩
@[reducible] def D8d(b:ACode)(Q:Cont):Cont:=⟨Out.then (W P N K b Q.q) Q.q⟩
@[reducible] def C50(id:Nat)(Q:Cont):Cont:=⟨Out.inBlock id Q.q⟩
@[reducible] def D3a(Q:Cont):ContS:=⟨Q.q .normal⟩
@[reducible] def F7w(os:List dC)(Q:ContS)(d:Option Nat)(σ:St):ContR:=⟨λb r=>A5c P os Q.q (σ.put d b r)⟩
@[reducible] def F55(o:dC)(os:List dC)(seen:List (List Nat×List Nat))(Q:ContS)(σ:St):ContR:=⟨λb r=>A4z o.op r/\A3m seen (A0j σ o) (keys r) o.chk/\C1v P os (seen++ [(A0j σ o,keys r)]) Q.q (σ.put o.dst b r)⟩
@[reducible] def D5n(ts:List Nat)(rs:List AV):Cont:=⟨F2f ts rs⟩
@[reducible] def D27 {ι:Type}(T:ι->Slots)(O:ι->List (Nat×A7))(μ:ι->Nat)(i:ι)(Q:Cont):Cont:=⟨Out.then (λτ=> ∃i',μ i'<μ i/\V5 K τ (T i') (O i')) Q.q⟩
variable {P N K}
variable {σ:St} {Q:Cont}
theorem F20: @Wi P N K .skip Q σ= @Qi Q .normal σ:=yf rfl rfl
theorem F52 {a b:ACode}: @Wi P N K (.seq a b) Q σ= @Wi P N K a (D8d P N K b Q) σ:=yf rfl rfl
theorem F2z {l:List dC}: @Wi P N K (.region false l) Q σ= @Wsi P l (D3a Q) σ:=rfl
theorem F2u {l:List dC}: @Wi P N K (.region true l) Q σ= @Wni P l [] (D3a Q) σ:=rfl
theorem F2v {c:AX}{a b:ACode}: @Wi P N K (.cond c a b) Q σ=(match σ.ev c with
  |some (true, .sc (.bool t))=>if t=true then @Wi P N K a Q σ else @Wi P N K b Q σ
  |_=>False):=yf rfl rfl
theorem E9g {a:ACode}: @Wi P N K (.scope a) Q σ= @Wi P N K a Q σ:=yf rfl rfl
variable {i:Nat}
theorem E9f {a:ACode}: @Wi P N K (.block i a) Q σ= @Wi P N K a (C50 i Q) σ:=yf rfl rfl
theorem F2x {a:ACode}: @Wi P N K (.loop a) Q σ= @Wpi P N K (.loop a) Q σ:=rfl
theorem F2y {a:ACode}: @Wi P N K (.mark a) Q σ= @Wpi P N K a Q σ:=rfl
theorem F2w: @Wi P N K (.exit i) Q σ= @Qi Q (.exit i) σ:=yf rfl rfl
theorem F51: @Wi P N K .ret Q σ= @Qi Q .ret σ:=yf rfl rfl
theorem D4n {b:ACode}: @Qi (D8d P N K b Q) .normal σ= @Wi P N K b Q σ:=yf rfl rfl
theorem D8p {b:ACode}: @Qi (D8d P N K b Q) (.exit i) σ= @Qi Q (.exit i) σ:=yf rfl rfl
theorem E1q {b:ACode}: @Qi (D8d P N K b Q) .ret σ= @Qi Q .ret σ:=yf rfl rfl
theorem D2i {id:Nat}: @Qi (C50 id Q) .normal σ= @Qi Q .normal σ:=yf rfl rfl
theorem D7b {id:Nat}: @Qi (C50 id Q) (.exit i) σ=if i=id then @Qi Q .normal σ else @Qi Q (.exit i) σ:=yf rfl rfl
theorem D8k {id:Nat}: @Qi (C50 id Q) .ret σ= @Qi Q .ret σ:=yf rfl rfl
variable {j:Nat} {ι:Type}
theorem D8n {T:ι->Slots}{O:ι->List (Nat×A7)}{μ:ι->Nat}{i:ι}: @Qi (D27 K T O μ i Q) (.exit j) σ= @Qi Q (.exit j) σ:=rfl
theorem E1p {T:ι->Slots}{O:ι->List (Nat×A7)}{μ:ι->Nat}{i:ι}: @Qi (D27 K T O μ i Q) .ret σ= @Qi Q .ret σ:=rfl
variable {rs:List AV} {ts:List Nat}
theorem F5u: @Qi (D5n ts rs) .ret σ=B5m σ ts rs:=rfl
theorem F5s: @Qi (D5n ts rs) .normal σ=B5m σ ts rs:=rfl
theorem F2t: @Si (D3a Q) σ= @Qi Q .normal σ:=rfl
theorem F23 {Q:ContS}: @Wsi P [] Q σ= @Si Q σ:=rfl
variable {o:dC} {os:List dC}
theorem E9n {Q:ContS}: @Wsi P (o::os) Q σ= @Woi P o σ (F7w P os Q o.dst σ):=rfl
variable {seen:List (List Nat×List Nat)}
theorem F21 {Q:ContS}: @Wni P [] seen Q σ= @Si Q σ:=rfl
theorem E9j {Q:ContS}: @Wni P (o::os) seen Q σ= @Woi P o σ (F55 P o os seen Q σ):=rfl
variable {r:Res} {b:Bool}
theorem F5y {Q:ContS}{d:Option Nat}: @Ri (F7w P os Q d σ) b r= @Wsi P os Q (σ.put d b r):=rfl
theorem F5x {Q:ContS}:
  @Ri (F55 P o os seen Q σ) b r=(A4z o.op r/\A3m seen (A0j σ o) (keys r) o.chk/\ @Wni P os (seen++ [(A0j σ o,keys r)]) Q (σ.put o.dst b r)):=rfl
theorem F22 {Q:ContR}: @Woi P o σ Q=(match A2b σ o.guard with
  |some b=> @E4t P o σ b Q
  |none=>False):=by
 unfold Woi wop;cases A2b σ o.guard with
 |none=>rfl
 |some b=>simp only;unfold D55 E4t;cases o.op <;> rfl
variable {f:FuncId} {m:Nat->Option A7} {avs cargs:List AV}
theorem A4d {Q:ContR}{r:AV}(hc:D5 P f cargs [] r [])(hn:r.noDsl=true)(ha:S2 m avs cargs [] λ_=>True)
  (hK: @Ri Q b ⟨some r,[]⟩): @A25 P m f avs b Q:=E45 hc hn ha hK
theorem O6 {Q:ContR}{r:AV}(hc:D5 P f cargs [] r [])(ha:S2 m avs cargs [] λwr=>(wr≠ []->b=true)/\ @Ri Q b ⟨some r,wr⟩):
  @A25 P m f avs b Q:=E46 hc ha
theorem A0 {Q:ContR}{r:AV}(hc:D5 P f avs [] r [])(hf:C8p avs=true)(hK: @Ri Q b ⟨some r,[]⟩): @A25 P m f avs b Q:=E44 hc hf hK
theorem B1 {x:ACode}(hm:P.follows .mixedOrders=true)(T:ι->Slots)(O:ι->List (Nat×A7))(μ:ι->Nat)(i0:ι)(h0:V5 K σ (T i0) (O i0))
  (h: ∀i,@Wi P N K x (D27 K T O μ i Q) (A19 (T i) (O i))): @Wpi P N K (.loop x) Q σ:=Wp.loop T O μ i0 h0 λi=>Wp.of_W hm x (h i)
theorem B9 {x:ACode}(hm:P.follows .mixedOrders=true)(h: @Wi P N K x Q σ): @Wpi P N K x Q σ:=Wp.of_W hm x h
variable {O:List (Nat×A7)} {T:Slots}
theorem E9k {x:ACode}(h:V5 K σ T O)(hw: @Wpi P N K x Q (A19 T O)): @Wpi P N K x Q σ:=Wp.weak h hw
variable {args:List AV} {ac:ACode} {fn:Func}
theorem C52(hm:P.follows .mixedOrders=true)
  (hf:P.funcs[f]? =some fn)(hb:fn.body=some (fn.body.getD .skip))(hname:(fn.name != "runtime.NumGoroutine")=true)(hc:F2 P fn.ntmps (fn.body.getD .skip)=some ac.strip)
  (hts:A41 fn.results.toList=some ts)(hnd:ts.Nodup)(hl:(args.length.ble fn.ntmps)=true)
  (h: @Wi P fn.ntmps [] ac (D5n ts rs) (A02 args [])):D5 P f args [] (A5x rs) []:=E65 hm hf hb hname hc hts hnd hl h
end
end Go.Abs
namespace Go.Abs
variable {σ:St} {Q:Cont} {ι:Type}
theorem A8 {K:List Nat}{T:ι->Slots}{O:ι->List (Nat×A7)}{μ:ι->Nat}{i:ι}(i':ι)(hμ:μ i'<μ i)(h:V5 K σ (T i') (O i')):
  @Qi (D27 K T O μ i Q) .normal σ:=⟨i',hμ,h⟩
end Go.Abs
end
noncomputable section
namespace Go.Abs
def B8e(W:World)(avs:List AV)(cs:List Value):Prop:=cs.length=avs.length/\ ∀(j:Nat) (av:AV),avs[j]? =some av->av.pure=true/\Rel (λb=>b<W.heap.size) W (λ_=>none) av (cs.getD j undef)
def A12 {α:Type}(P:Program)(W:World)(t:TypeId)(enc:α->List AV)(Ok:α->Prop):Prop:=
 ∀(H:Type) (e:TypeId×Value->H) (base:Nat) (spare:Nat->Bool) (held:Bool) (n:Nat) (cs:List Value) (x:DataW H×List MemPlace),
  DataW.trod e P W base spare held n t cs=some x-> ∃a,Ok a/\B8e W (enc a) cs
section
variable {P:Program} {W:World}
variable {t:TypeId}
theorem E8k {k:IntKind}(ht:P.underlying t=some (.int k)):A12 P W t (λn:Int=> [.sc (.int k n)]) (λn=>(Lit.int k n).wf=true):=by
 intro H e base spare held n cs x h;obtain⟨z,rfl,_,hw⟩:=DataW.trod_int ht h;refine⟨z,hw,rfl,λj av hj=> ?_⟩;cases j with
 |zero=>simp only[List.getElem?_cons_zero,za]at hj;subst hj;exact⟨rfl, .sc rfl⟩
 |succ j=>simp at hj
theorem E52(ht:P.underlying t=some .bool):A12 P W t (λb:Bool=> [.sc (.bool b)]) (λ_=>True):=by
 intro H e base spare held n cs x h;obtain⟨z,rfl,_⟩:=DataW.trod_bool ht h;refine⟨z,trivial,rfl,λj av hj=> ?_⟩;cases j with
 |zero=>simp only[List.getElem?_cons_zero,za]at hj;subst hj;exact⟨rfl, .sc rfl⟩
 |succ j=>simp at hj
variable {α β:Type} {Ok:α->Prop} {enc':β->List AV} {Ok':β->Prop}
theorem A12.map {enc:α->List AV}(h:A12 P W t enc Ok)(g:α->β)(he: ∀a,enc' (g a)=enc a)(hk: ∀a,Ok a->Ok' (g a)):A12 P W t enc' Ok':=by intro H e base spare held n cs x hx;obtain⟨a,h1,h2⟩:=h H e base spare held n cs x hx;exact⟨g a,hk a h1,by rw[he];exact h2⟩
theorem B8e.append {xs ys:List AV}{cs ds:List Value}(h1:B8e W xs cs)(h2:B8e W ys ds):B8e W (xs++ys) (cs++ds):=by
 refine⟨by simp[h1.1,h2.1],λj av hj=> ?_⟩;by_cases hjl:j<xs.length
 ·rw[ql hjl]at hj;have:=h1.2 j av hj;simpa[List.getD,ql (show j<cs.length by rw[h1.1];exact hjl)]using this
 ·rw[zY o_]at hj;have:=h2.2 _ av hj;simpa[List.getD,zY (show cs.length<=j by rw[h1.1];omega),h1.1]using this
def A26 {α:Type}(P:Program)(W:World)(fs:List Field)(off size:Nat)(enc:α->List AV)(Ok:α->Prop):Prop:=
 ∀(H:Type) (e:TypeId×Value->H) (base:Nat) (spare:Nat->Bool) (held:Bool) (n:Nat) (cs:List Value),cs.length=size->
  (∀f∈fs,∃x,DataW.trod e P W base spare held n f.type ((cs.drop f.offset).take (P.cellsOf f.type))=some x)-> ∃a,Ok a/\B8e W (enc a) (cs.drop off)
variable {size:Nat}
theorem A1q:A26 P W [] size size (λ_:Unit=> []) (λ_=>True):=by intro H e base spare held n cs hl _;exact⟨(),trivial,by rw[List.drop_of_length_le o_];rfl,λj av hj=>by simp at hj⟩
variable {off:Nat}
theorem E14 {f:Field}{fs:List Field}{enc:α->List AV}
  (h1:A12 P W f.type enc Ok)(ho:f.offset=off)(h2:A26 P W fs (off+P.cellsOf f.type) size enc' Ok'):
  A26 P W (f::fs) off size (λp:α×β=>enc p.1++enc' p.2) (λp=>Ok p.1/\Ok' p.2):=by
 intro H e base spare held n cs hl hf;obtain⟨x,hx⟩:=hf f (qp ..);obtain⟨a,ha,hr⟩:=h1 H e base spare held n _ x hx;obtain⟨b,hb,hr'⟩:=h2 H e base spare held n cs hl (λg hg=>hf g (qf _ hg));refine⟨(a,b),⟨ha,hb⟩,?_⟩;have:cs.drop off=(cs.drop off).take (P.cellsOf f.type)++cs.drop (off+P.cellsOf f.type):=by rw[<-yj,xa]
 rw[this];rw[ho]at hr;exact hr.append hr'
theorem E0i {fs:Array Field}{enc:α->List AV}(ht:P.underlying t=some (.struct fs))(h:A26 P W fs.toList 0 (P.cellsOf t) enc Ok):A12 P W t enc Ok:=by
 intro H e base spare held n cs x hx;obtain⟨xs,m,_,_,hl,hlen,hf⟩:=DataW.trod_struct ht hx;have:=h H e base spare held m cs hl λf hfm=>by
  obtain⟨i,hi⟩:=zA hfm;have hi':fs[i]? =some f:=by simpa using hi
  rw[hf i f hi'];have hlt:i<xs.length:=by rw[hlen];exact(qb.1 hi').1
  exact⟨xs[i],zg hlt⟩
 simpa using this
variable {z:Nat} {el:TypeId}
theorem A4p {enc:α->List AV}{d:α}(ht:P.underlying t=some (.slice el))(hz:P.cellsOf el=z)(hz0:0<z)
  (h:A12 P W el enc Ok):A12 P W t (λl:List α=> [D09 z enc d l]) (λl=>(∀a∈l,Ok a)/\l.length<=maxLen):=by
 intro H e base spare held n cs x hx;have mk: ∀(l:List α) (v:Value),((∀a∈l,Ok a)/\l.length<=maxLen)->Rel (λb=>b<W.heap.size) W (λ_=>none) (D09 z enc d l) v->
   ∃a:List α,((∀b∈a,Ok b)/\a.length<=maxLen)/\B8e W [D09 z enc d a] [v]:=λl v hl hr=>by
  refine⟨l,hl,rfl,λj av hj=> ?_⟩;cases j with
  |zero=>simp only[List.getElem?_cons_zero,za]at hj;subst hj;exact⟨rfl,hr⟩
  |succ j=>simp at hj
 rcases DataW.trod_slice ht hx with⟨rfl,_⟩ |⟨a,len,cap,elems,rest,m,_,rfl,_,hb,hlc,hcm,hel,hf,_,_⟩
 ·exact mk [] _ ⟨λa ha=>by simp at ha,p_⟩ .dslNil
 ·by_cases hl0:len=0
  ·subst hl0;exact mk [] _ ⟨λa ha=>by simp at ha,p_⟩ (.dslE a cap)
  ·
   have each: ∀i,i<len-> ∃(b:α) (ds:List Value),Ok b/\B8e W (enc b) ds/\W.cells? base (a.add (i*z)) z=some ds:=λi hi=>by
    have h1:=hf i hi;rw[hz]at h1;have hlt:i<elems.length:=o_
    rw[zg hlt]at h1;cases hc:W.cells? base (a.add (i*z)) z with
    |none=>rw[hc]at h1;cases h1
    |some ds=>rw[hc]at h1;obtain⟨b,hb1,hb2⟩:=h H e base spare held m ds _ h1;exact⟨b,ds,hb1,hb2,rfl⟩
   have hpick: ∀i,∃b:α,i<len-> ∃ds:List Value,Ok b/\B8e W (enc b) ds/\W.cells? base (a.add (i*z)) z=some ds:=λi=>by
    by_cases hi:i<len
    ·obtain⟨b,ds,h1,h2,h3⟩:=each i hi;exact⟨b,λ_=>⟨ds,h1,h2,h3⟩⟩
    ·exact⟨d,λh=>absurd h hi⟩
   obtain⟨f,hfs⟩:=Classical.axiomOfChoice hpick;obtain⟨l,hl⟩: ∃l:List α,l=(List.range len).map f:=⟨_,rfl⟩;have hll:l.length=len:=by rw[hl];simp
   have hget: ∀i,i<len->l.getD i d=f i:=λi hi=>by rw[hl];simp[List.getD,hi]
   obtain⟨ds0,_,_,hc0⟩:=hfs 0 o_;have hspot:a.spot=none:=by obtain⟨_,hdl,hcell⟩:=World.cells?_some hc0;have h1:=hcell 0 hz0;rw[zg o_]at h1;have:=World.cell?_spot h1;simpa[Addr.add]using this
   have hblk:a.block<W.heap.size:=by have:=World.cells?_block hc0 hz0;simpa[Addr.add]using this
   obtain⟨b,off,spot⟩:=a;simp only at hspot hblk;subst hspot;have cell: ∀i j,i<len->j<z-> ∃ds:List Value,B8e W (enc (f i)) ds/\W.cell? ⟨b,off+(i*z+j),none⟩=some (ds.getD j undef)/\ds.length=z:=λi j hi hj=>by obtain⟨ds,_,h2,h3⟩:=hfs i hi;obtain⟨_,hdl,hcell⟩:=World.cells?_some h3;refine⟨ds,h2,?_,hdl⟩;have h1:=hcell j hj;rw[zg o_]at h1;rw[A2c,A2c,yx]at h1;rw[h1,List.getD,zg o_];rfl
   have elen: ∀i,i<len->(enc (f i)).length=z:=λi hi=>by obtain⟨ds,h1,_,h3⟩:=cell i 0 hi hz0;rw[<-h1.1,h3]
   refine mk l _ ⟨λx hx=> ?_,by rw[hll];omega⟩ ?_
   ·rw[hl,qL]at hx;obtain⟨i,hi,rfl⟩:=hx;obtain⟨_,h1,_⟩:=hfs i (by simpa using hi);exact h1
   ·unfold D09;rw[hll];refine .dsl b off cap (λi j=>(W.cell? ⟨b,off+(i*z+j),none⟩).getD undef) hblk hlc (λi hi=> ?_) (λi j av hi hj=> ?_) (λi j hi hj=> ?_) (λi j av hi hj=> ?_)
    ·rw[hget i hi];exact elen i hi
    ·rw[hget i hi]at hj;have hjz:j<z:=by
      rw[<-elen i hi];rcases qq j (enc (f i)).length with h |h
      ·exact h
      ·rw[qi h]at hj;cases hj
     obtain⟨ds,h1,_,_⟩:=cell i j hi hjz;exact(h1.2 j av hj).1
    ·obtain⟨ds,_,h2,_⟩:=cell i j hi hj;rw[h2];rfl
    ·rw[hget i hi]at hj;have hjz:j<z:=by
      rw[<-elen i hi];rcases qq j (enc (f i)).length with h |h
      ·exact h
      ·rw[qi h]at hj;cases hj
     obtain⟨ds,h1,h2,_⟩:=cell i j hi hjz;simp only[h2,Option.getD_some];exact(h1.2 j av hj).2
end
section
variable {P:Program}
@[reducible] def C3z(K:List Nat)(ts:List Nat)(rs:List AV)(O':List (Nat×A7)):Cont:=⟨λo σ=>match o with | .exit _=>False | .normal=>A8f K σ ts rs O' | .ret=>A8f K σ ts rs O'⟩
variable {σ:St} {rs:List AV} {K:List Nat} {O':List (Nat×A7)} {ts:List Nat}
theorem F2n: @Qi (C3z K ts rs O') .ret σ=A8f K σ ts rs O':=rfl
theorem F2l: @Qi (C3z K ts rs O') .normal σ=A8f K σ ts rs O':=rfl
variable {O:List (Nat×A7)}
theorem E38(md:List C0u)(ρs:List (Nat×Nat))(A:List Nat)(hm:md.length=ts.length)(hr:rs.length=ts.length)
  (h1:(O.map (·.1)).Nodup)(h2:(((O.map (·.1)).filter λi=> !A.contains i).map (J1 ρs)).Nodup)
  (h3: ∀k∈K,k∉A/\J1 ρs k=k/\(ofL O k).isSome)(h4:A21 σ (J1 ρs) A O (B9m ts md rs) [] λwr=>B31 (wrm σ.objs wr) (J1 ρs) A O O):A8f K σ ts rs O:=
 ⟨md,hm,hr,B9l ρs A h1 h2 h3 h4⟩
variable {f:FuncId} {args:List AV} {ac:ACode} {fn:Func}
theorem B7r(hm:P.follows .mixedOrders=true)
  (hf:P.funcs[f]? =some fn)(hb:fn.body=some (fn.body.getD .skip))(hname:(fn.name != "runtime.NumGoroutine")=true)(hc:F2 P fn.ntmps (fn.body.getD .skip)=some ac.strip)
  (hts:A41 fn.results.toList=some ts)(hnd:ts.Nodup)(hl:(args.length.ble fn.ntmps)=true)
  (h: @Wi P fn.ntmps (O.map (·.1)) ac (C3z (O.map (·.1)) ts rs O') (A02 args O)):D5 P f args O (A5x rs) O':=by
 have key:Wp P fn.ntmps (O.map (·.1)) ac (D5o (O.map (·.1)) ts λrs' O1=>rs'=rs/\O1=O') (A02 args O):=(Wp.of_W hm ac h).mono λo σ hq=>by
  cases o with
  |exit i=>exact hq
  |normal=>exact⟨rs,O',⟨rfl,rfl⟩,hq⟩
  |ret=>exact⟨rs,O',⟨rfl,rfl⟩,hq⟩
 exact C5v.one (D6e hf hb hname hc hts hnd (yw hl) key)
def A5r(m:Nat->Option A7)(ρ:Nat->Nat)(O:List (Nat×A7)):List Bool->List AV->List AV->List (Nat×A7)->(List (Nat×A7)->Prop)->Prop
 | [],[],[],acc,K=>K acc
 |true::md,a::as,c::cs,acc,K=>a=c.ren ρ/\(∀i∈c.ids,(ofL O i).isSome)/\A5r m ρ O md as cs acc K
 |false::md,a::as,c::cs,acc,K=>match A0x m a with
  |some (p,c1,w)=>p/\M9 c1 c/\A5r m ρ O md as cs (acc++w) K
  |none=>False
 |_,_,_,_,_=>False
theorem B92 {m:Nat->Option A7}{ρ:Nat->Nat}{O:List (Nat×A7)}{Kp:List (Nat×A7)->Prop}: ∀ {md:List Bool} {avs cargs:List AV} {acc:List (Nat×A7)},A5r m ρ O md avs cargs acc Kp->
  ∃cs wr,S4 m ρ O md avs cs wr/\A52 cs cargs/\Kp (acc++wr)
 | [],[],[],acc,h=>⟨[],[],rfl,trivial,by simpa[A5r]using h⟩
 |true::md,a::as,c::cs,acc,h=>by obtain⟨h1,h2,h3⟩:=h;obtain⟨cs',wr,g1,g2,g3⟩:=B92 h3;exact⟨c::cs',wr,⟨h1.symm,h2,g1⟩,⟨J2.refl c,g2⟩,g3⟩
 |false::md,a::as,c::cs,acc,h=>by
  simp only[A5r]at h;split at h
  ·rename_i p c1 w hf;obtain⟨cs',wr,g1,g2,g3⟩:=B92 h.2.2;exact⟨c1::cs',w++wr,⟨p,w,wr,hf,h.1,rfl,g1⟩,⟨A7z _ _ h.2.1,g2⟩,by simpa using g3⟩
  ·exact h.elim
 | [],[],_::_,_,h=>by simp[A5r]at h
 | [],_::_,_,_,h=>by simp[A5r]at h
 |true::_,[],_,_,h=>by simp[A5r]at h
 |false::_,[],_,_,h=>by simp[A5r]at h
 |true::_,_::_,[],_,h=>by simp[A5r]at h
 |false::_,_::_,[],_,h=>by simp[A5r]at h
def B78(m:Nat->Option A7)(ρ:Nat->Nat)(O:List (Nat×A7)):List (Nat×A7)->Prop
 | []=>True
 |(i,o)::r=>m (ρ i)=some (o.ren ρ)/\(match o with | .box cs=> ∀j∈F6 cs,(ofL O j).isSome |_=>True)/\B78 m ρ O r
theorem A9a {m:Nat->Option A7}{ρ:Nat->Nat}{O:List (Nat×A7)}: ∀ {l:List (Nat×A7)},B78 m ρ O l-> ∀i o,(i,o)∈l->m (ρ i)=some (o.ren ρ)/\ ∀cs,o= .box cs-> ∀j∈F6 cs,(ofL O j).isSome
 | [],_,i,o,hp=>by cases hp
 |(i,o)::l,h,i',o',hp=>by
  rcases zo.1 hp with e |hp
  ·obtain⟨rfl,rfl⟩:=Prod.mk.inj e;refine⟨h.1,λcs hcs=> ?_⟩;have:=h.2.1;subst hcs;exact this
  ·exact A9a h.2.2 i' o' hp
def C6w(m:Nat->Option A7)(ρ:Nat->Nat)(O:List (Nat×A7)):List (Nat×A7)->Prop
 | []=>True
 |(i,_)::r=>(if(ofL O i).isSome then True else m (ρ i)=none)/\C6w m ρ O r
theorem B8z {m:Nat->Option A7}{ρ:Nat->Nat}{O:List (Nat×A7)}: ∀ {l:List (Nat×A7)},C6w m ρ O l-> ∀i o,(i,o)∈l->(ofL O i).isSome\/m (ρ i)=none
 | [],_,i,o,hp=>by cases hp
 |(i,o)::l,h,i',o',hp=>by
  rcases zo.1 hp with e |hp
  ·obtain⟨rfl,rfl⟩:=Prod.mk.inj e;have:=h.1;by_cases hs:(ofL O i').isSome
   ·exact .inl hs
   ·rw[zb hs]at this;exact .inr this
  ·exact B8z h.2 i' o' hp
variable {b:Bool} {m:Nat->Option A7} {avs cargs:List AV}
theorem B5 {Q:ContR}{r:AV}(md:List Bool)(ρs:List (Nat×Nat))(hc:D5 P f cargs O r O')
  (hnO:(O.map (·.1)).Nodup)(hnO':(O'.map (·.1)).Nodup)(hnd:(O'.map λp=>J1 ρs p.1).Nodup)(hOO: ∀i∈O.map (·.1),(ofL O' i).isSome)
  (ha:A5r m (J1 ρs) O md avs cargs [] λwr=>B78 (wrm m wr) (J1 ρs) O O/\C6w m (J1 ρs) O O'/\b=true/\ @Ri Q b ⟨some (r.ren (J1 ρs)),wr++A3v (J1 ρs) O'⟩):
  @A25 P m f avs b Q:=by
 obtain⟨cs,wr,h1,h2,h3,h4,h5,h6⟩:=B92 ha;rw[List.nil_append]at h3 h6;refine⟨_,λ_=>O9.mk md cs O r O' (J1 ρs) wr false (hc.args_le h2) h1 (λi o hi=>(A9a h3 i o (A0z hnO hi)).1)
  (λi cs hi=>(A9a h3 i _ (A0z hnO hi)).2 cs rfl) (λi hi=> ?_) (λi hi=> ?_) hnd (λh=>by cases h),λ_=>h5,h6⟩
 ·obtain⟨o,ho⟩:=A9b hi;exact hOO i (qS (f:=(·.1)) ho)
 ·obtain⟨o,ho⟩:=A9b hi;exact B8z h4 i o ho
variable {z:Nat} {g:Nat->List AV}
theorem D5.nil_split {r:AV}(pre post:List AV)(h0:D5 P f (pre++ .sc (.slice none 0 0)::post) [] r O')(h1: ∀a c,D5 P f (pre++ .sc (.slice (some a) 0 c)::post) [] r O'):
  D5 P f (pre++ .dsl z 0 g::post) [] r O':=by
 refine⟨h0.1,λG w ob vals hs hr=> ?_⟩;have hrel:=hr.2 pre.length (.dsl z 0 g) p_
 have key: ∀v,vals.getD pre.length undef=v->v.oneCell'=true->A59 G w ob (pre++ .sc v::post) vals:=by
  intro v hv ho;refine⟨by rw[hr.1];simp,λj av hj=> ?_⟩;rcases Nat.lt_trichotomy j pre.length with h |h |h
  ·refine hr.2 j av ?_;rw[ql h]at hj⊢;exact hj
  ·subst h;rw[zY (ze _),yt,List.getElem?_cons_zero,za]at hj;subst hj;rw[hv];exact .sc ho
  ·refine hr.2 j av ?_;obtain⟨k,rfl⟩: ∃k,j=pre.length+(k+1):=⟨j-pre.length-1,o_⟩;rw[zY o_,Nat.add_sub_cancel_left,List.getElem?_cons_succ]at hj⊢;exact hj
 generalize hv:vals.getD pre.length undef=v at hrel;cases hrel with
 |dslNil=>exact h0.2 G w ob vals hs (key _ hv rfl)
 |dslE a cap=>exact(h1 a cap).2 G w ob vals hs (key _ hv rfl)
 |dsl b off cap c=>exact(h1 ⟨b,off,none⟩ cap).2 G w ob vals hs (key _ hv rfl)
end
attribute [go_sem] Bool.true_and AV.one B22 Option.isSome_none Bool.and_false Bool.or_false Bool.or_true Bool.and_true Y2 nid F5a F3k F3j A21 B31 A3m J1 List.not_mem_nil false_implies implies_true List.mem_singleton List.mem_cons forall_eq Option.isSome_some or_false or_true Option.getD_some Option.getD_none Nat.zero_add List.drop_one List.tail_cons F20 F52 F2z F2u F2v E9f E9g F2x F2y F2w F51 D4n D8p E1q D2i D7b D8k D8n E1p F5u F5s F2t F23 E9n F21 E9j F5y F5x F22 E4t A2b eval target St.es A02 A19 B48 A2e St.e St.ev St.c St.put AOp.ops A7f E82 B93 E1i B05 C4u wrm List.foldl_nil List.foldl_cons List.map_nil List.map_cons Option.map_some Option.map_none and_self true_and and_true ne_eq not_true_eq_false true_implies not_false_eq_true if_true if_false eq_self Bool.true_eq_false Bool.false_eq_true A7q T3 AV.cells List.length_cons List.length_nil List.drop_zero List.drop_succ_cons List.append_nil List.nil_append List.cons_append Bool.not_true Bool.not_false and_false false_and List.getElem?_cons_zero List.getElem?_cons_succ B5m A0x R5 E6z E6x E4x AV.pure AV.flat imp_self ofL A5x AV.ren List.all_cons List.all_nil Bool.and_self List.take_succ_cons List.take_zero A1b cellsOf F6 AV.ids C8p List.reverse_nil gt_iff_lt ge_iff_le decide_eq_true_eq Int.toNat_natCast D09 bor F9a F9b F8b Bool.not_eq_true' Bool.not_eq_false' Bool.not_not A0k esL A63 A5r B78 C6w A3v A7.ren A9k F2n F2l C25 E41 B9m List.map_append Option.isNone_none Option.isNone_some List.nodup_cons List.nodup_nil Prod.mk.injEq Option.some.injEq AV.sc.injEq Value.int.injEq Value.bool.injEq AV.sl.injEq AV.ptr.injEq AV.agg.injEq List.cons.injEq
end Go.Abs
end
noncomputable section
namespace Go.Abs
def A6e(P:Program):List ResultVar->Option (List (Nat×Option (Option Nat)))
 | []=>some []
 | .tmp t::r=>match A6e P r with
   |some l=>some ((t,none)::l)
   |none=>none
 | .cell a t::r=>match B8j P t,A6e P r with
   |some n,some l=>some ((a,some n)::l)
   |_,_=>none
def A6d:St->Nat->List (Nat×Option (Option Nat))->(St->Prop)->Prop
 |σ,_,[],K=>K σ
 |σ,M,(t,none)::r,K=>A6d ⟨upd σ.env M (σ.env t),σ.objs⟩ (M+1) r K
 |σ,M,(a,some n)::r,K=>match eval (.load n (.t a)) σ.e σ.objs 0 with
  |some (p,⟨some v,[]⟩)=>σ.c (.t a)=true/\p/\A6d ⟨upd σ.env M (some (true,v)),σ.objs⟩ (M+1) r K
  |_=>False
section
variable {P:Program} {G:Nat->Prop} {w:World} {ob:Place}
variable {σ:St} {a:Act} {M:Nat}
theorem Sim.push(h:Sim M σ a w ob G)(x:Option (Bool×AV))(v:Value)(hx: ∀av,x=some (true,av)->Rel G w ob av v)(hx0: ∀av,x=some (false,av)->v=undef):
  Sim (M+1) ⟨upd σ.env M x,σ.objs⟩ {a with tmps:=a.tmps.push v} w ob G:=by
 refine⟨by simp[h.size],h.defers,h.objs,λt av ht=> ?_,λt av ht=> ?_⟩;rotate_left
 ·simp only[upd]at ht;split at ht
  ·rename_i e;subst e;rw[hx0 av ht,<-h.size];simp
  ·have h1:=h.env0 t av ht
   grind
 simp only[upd]at ht;split at ht
 ·rename_i e;subst e;exact⟨v,by rw[<-h.size];simp,hx av ht⟩
 ·obtain⟨u,h1,h2⟩:=h.env t av ht
  grind
def F5p(P:Program)(t:TypeId)(n:Option Nat):Prop:=match n with |none=>R9 P t=some false |some k=>R9 P t=some true/\Y8 P t=some k
variable {t:TypeId}
theorem E1u {n:Option Nat}(h:B8j P t=some n):F5p P t n:=by
 unfold B8j at h;split at h
 ·cases h;assumption
 ·rename_i hagg;split at h
  ·rename_i k hk';cases h;exact⟨hagg,hk'⟩
  ·cases h
 ·cases h
theorem D5p(tmps0:Array Value)(f:ResultVar->Sem Value)(hf1: ∀t,f (.tmp t)=pure (tmps0.getD t undef))(hf2: ∀a t,f (.cell a t)=(do loadVar t (<-asAddr (tmps0.getD a undef)))):
  ∀(l:List ResultVar) (rvs:List (Nat×Option (Option Nat))) (M:Nat) (σ:St) (a:Act) (K:St->Prop),A6e P l=some rvs->Sim M σ a w ob G->tmps0.size<=M->(∀t,t<tmps0.size->a.tmps[t]? =tmps0[t]?)->
   (∀p∈rvs,p.1<tmps0.size)->A6d σ M rvs K->
   ∃σ2 a2 vs,K σ2/\Sim (M+rvs.length) σ2 a2 w ob G/\(l.mapM f).run P w= .ok vs w/\vs.length=rvs.length/\(∀j,j<rvs.length->a2.tmps[M+j]? =vs[j]?)/\(∀t,t<M->a2.tmps[t]? =a.tmps[t]?)
 | [],rvs,M,σ,a,K,hl,hs,hM,hpre,hlt,h=>by simp only[A6e,za]at hl;subst hl;exact⟨σ,a,[],h,hs,p_,rfl,λj hj=>by simp at hj,λt _=>rfl⟩
 | .tmp t::l,rvs,M,σ,a,K,hl,hs,hM,hpre,hlt,h=>by
   simp only[A6e]at hl;split at hl
   case h_2=>cases hl
   rename_i rvs' hl';cases hl;simp only[A6d]at h;have ht:=hlt (t,none) p_;simp only at ht;have hs1:=hs.push (σ.env t) (tmps0.getD t undef) (λav hav=>by
    obtain⟨v,h1,h2⟩:=hs.env t av hav;simp_all) λav hav=>by
    have h1:=hs.env0 t av hav;simp_all
   obtain⟨σ2,a2,vs,k1,k2,k3,k4,k5,k6⟩:=D5p tmps0 f hf1 hf2 l rvs' (M+1) _ _ K hl' hs1 o_ (λu hu=>by grind) (λp hp=>hlt p (by simp[hp])) h
   refine⟨σ2,a2,tmps0.getD t undef::vs,k1,by grind,?_,by simp[k4],λj hj=> ?_,λu hu=> ?_⟩
   ·rw[List.mapM_cons,hf1];simp[k3]
   ·cases j with
    |zero=>rw[Nat.add_zero,k6 M o_,List.getElem?_cons_zero];show(a.tmps.push _)[M]? =_;rw[<-hs.size];simp
    |succ j=>grind
   ·rw[k6 u o_];simp only[yO];rw[zb (by rw[hs.size];omega)]
 | .cell c t::l,rvs,M,σ,a,K,hl,hs,hM,hpre,hlt,h=>by
   simp only[A6e]at hl;split at hl
   case h_2=>cases hl
   rename_i n rvs' hcn hl';cases hl;simp only[A6d]at h;split at h
   case h_2=>exact h.elim
   rename_i p v hev;obtain⟨hc,hp,h⟩:=h;have ht:=hlt (c,some n) p_;simp only at ht;have hop:O0 G w ob (a.eval) σ.e':=hs.opRel
   have hev':eval (.load n (.t c)) σ.e' σ.objs 0=some (p,⟨some v,[]⟩):=by rw[<-C3h (λx hx=>A88 (by simp only[AOp.ops,zu]at hx;subst hx;exact hc))];exact hev
   have hload: ∃u,(do loadVar t (<-asAddr (tmps0.getD c undef))).run P w= .ok u w/\Rel G w ob v u:=by
    have hval:a.eval (.tmp c)=tmps0.getD c undef:=by show a.tmps.getD c undef=_;simp_all
    simp only[eval]at hev';have tn:=E1u hcn;split at hev'
    ·rename_i cs hx;simp only[zh,zq,Res.mk.injEq,za]at hev';obtain⟨v',hk,_,rfl,_⟩:=hev';obtain⟨b,off,hxe,hG,hcell⟩:=B7w (hop (.tmp c) (.t c) _ rfl hx);obtain⟨u,h1,h2⟩:=A7r tn hcell hk;rw[<-hval,hxe];exact⟨u,by simp[asAddr,h1],h2⟩
    ·rename_i id k o tot hx;have hcases:(∃z s,σ.objs id=some (.arrP z s))\/(∀z s,σ.objs id≠some (.arrP z s)):=by
      grind
     rcases hcases with⟨z,s,hm⟩ |hnm
     ·rw[hm]at hev';obtain⟨rfl,b,off,u,hxe,hcell,hrel⟩:=E5x hs.objs hm (hop (.tmp c) (.t c) _ rfl hx) hev' hp;rw[<-hval,hxe];exact⟨u,by simp[asAddr,loadVar,Z5 tn,hcell],hrel⟩
     replace hev':(match cellsOf σ.objs id k tot with
      |some (p,cs)=>(B05 n (cs.drop o)).map λv=>(p,(⟨some v,[]⟩:Res))
      |none=>none)=some (p,⟨some v,[]⟩):=by
      grind
     split at hev'
     case h_2=>cases hev'
     rename_i p' cs hcs;simp only[zh,zq,Res.mk.injEq,za]at hev';obtain⟨v',hk,rfl,rfl,_⟩:=hev';obtain⟨b,base,hxe,hcell⟩:=D6v hs.objs (hop (.tmp c) (.t c) _ rfl hx) hcs hp;obtain⟨u,h1,h2⟩:=A7r tn (hcell.drop o) hk;rw[<-hval,hxe];exact⟨u,by simp[asAddr,h1],h2⟩
    ·cases hev'
   obtain⟨u,hrun,hrel⟩:=hload;have hs1:=hs.push (some (true,v)) u (λav hav=>by grind) (λav hav=>by simp at hav);obtain⟨σ2,a2,vs,k1,k2,k3,k4,k5,k6⟩:=D5p tmps0 f hf1 hf2 l rvs' (M+1) _ _ K hl' hs1 o_ (λq hq=>by grind) (λp hp=>hlt p (by simp[hp])) h
   refine⟨σ2,a2,u::vs,k1,by grind,?_,by simp[k4],λj hj=> ?_,λq hq=> ?_⟩
   ·rw[List.mapM_cons,hf2];simp only[Sem.run_bind,hrun,k3,Result.andThen_ok];rfl
   ·cases j with
    |zero=>rw[Nat.add_zero,k6 M o_,List.getElem?_cons_zero];show(a.tmps.push _)[M]? =_;rw[<-hs.size];simp
    |succ j=>grind
   ·rw[k6 q o_];simp only[yO];rw[zb (by rw[hs.size];omega)]
end
end Go.Abs
namespace Go.Abs
section
variable {P:Program}
variable {σ:St} {a:Act} {fn:Func} {rvs:List (Nat×Option (Option Nat))} {M:Nat}
theorem B82 {w:World}{ob:Place}{G:Nat->Prop}{K:St->Prop}(h:A6e P fn.results.toList=some rvs)(hs:Sim M σ a w ob G)
  (hlt: ∀p∈rvs,p.1<M)(hr:A6d σ M rvs K):
  ∃σ2 a2 v,K σ2/\Sim (M+rvs.length) σ2 a2 w ob G/\(results fn a.tmps).run P w= .ok v w/\v=(match(List.range' M rvs.length).map (λt=>a2.tmps.getD t undef)with | [x]=>x |vs=> .tuple vs.toArray):=by
 let f:ResultVar->Sem Value:=λ
  | .tmp t=>pure (a.tmps.getD t undef)
  | .cell c t=>do loadVar t (<-asAddr (a.tmps.getD c undef))
 obtain⟨σ2,a2,vs,k1,k2,k3,k4,k5,k6⟩:=D5p a.tmps f (λ_=>rfl) (λ_ _=>rfl) fn.results.toList rvs M σ a K h hs (by rw[hs.size];exact ze _) (λ_ _=>rfl) (λp hp=>by rw[hs.size];exact hlt p hp) hr;have hvs:(List.range' M rvs.length).map (λt=>a2.tmps.getD t undef)=vs:=by
  apply List.ext_getElem?;intro j;by_cases hj:j<rvs.length
  all_goals simp_all
 refine⟨σ2,a2,_,k1,k2,?_,rfl⟩;rw[hvs];unfold results;have h1:fn.results=fn.results.toList.toArray:=p_
 have h2:(fn.results.mapM f).run P w= .ok vs.toArray w:=by rw[h1,List.mapM_toArray];simp only[map_eq_pure_bind,Sem.run_bind,k3,Result.andThen_ok];rfl
 show(do let vs<-fn.results.mapM f;pure (if h:vs.size=1 then vs[0]else .tuple vs):Sem Value).run P w=_;rw[Sem.run_bind,h2,Result.andThen_ok]
 match vs with
 | []=>rfl
 | [x]=>rfl
 |x::y::r=>rfl
@[reducible] def C0i(N:Nat)(rvs:List (Nat×Option (Option Nat)))(rs:List AV):Cont:=⟨λo σ=>match o with | .exit _=>False | .normal=>A6d σ N rvs λσ2=>B5m σ2 (List.range' N rvs.length) rs | .ret=>A6d σ N rvs λσ2=>B5m σ2 (List.range' N rvs.length) rs⟩
@[reducible] def B33(N:Nat)(K:List Nat)(rvs:List (Nat×Option (Option Nat)))(rs:List AV)(O':List (Nat×A7)):Cont:=⟨λo σ=>match o with | .exit _=>False | .normal=>A6d σ N rvs λσ2=>A8f K σ2 (List.range' N rvs.length) rs O' | .ret=>A6d σ N rvs λσ2=>A8f K σ2 (List.range' N rvs.length) rs O'⟩
variable {rs:List AV} {N:Nat}
theorem F2o: @Qi (C0i N rvs rs) .ret σ=A6d σ N rvs λσ2=>B5m σ2 (List.range' N rvs.length) rs:=rfl
theorem F2m: @Qi (C0i N rvs rs) .normal σ=A6d σ N rvs λσ2=>B5m σ2 (List.range' N rvs.length) rs:=rfl
variable {K:List Nat} {O':List (Nat×A7)}
theorem E9e: @Qi (B33 N K rvs rs O') .ret σ=A6d σ N rvs λσ2=>A8f K σ2 (List.range' N rvs.length) rs O':=rfl
theorem E9d: @Qi (B33 N K rvs rs O') .normal σ=A6d σ N rvs λσ2=>A8f K σ2 (List.range' N rvs.length) rs O':=rfl
theorem C63 {K K':St->Prop}(h: ∀σ,K σ->K' σ): ∀(rvs:List (Nat×Option (Option Nat))) (σ:St) (M:Nat),A6d σ M rvs K->A6d σ M rvs K'
 | [],σ,M,hr=>h σ hr
 |(t,none)::r,σ,M,hr=>by simp only[A6d]at hr⊢;exact C63 h r _ _ hr
 |(a,some n)::r,σ,M,hr=>by
  simp only[A6d]at hr⊢;split at hr
  ·exact⟨hr.1,hr.2.1,C63 h r _ _ hr.2.2⟩
  ·exact hr.elim
variable {f:FuncId} {O:List (Nat×A7)} {args:List AV} {ac:ACode}
theorem D6f
  (hf:P.funcs[f]? =some fn)(hb:fn.body=some (fn.body.getD .skip))(hname:(fn.name != "runtime.NumGoroutine")=true)(hc:F2 P fn.ntmps (fn.body.getD .skip)=some ac.strip)
  (hts:A6e P fn.results.toList=some rvs)(hlt:(rvs.all λp=>p.1.blt fn.ntmps)=true)(hl:(args.length.ble fn.ntmps)=true)
  (h:Wp P fn.ntmps (O.map (·.1)) ac (B33 fn.ntmps (O.map (·.1)) rvs rs O').q (A02 args O)):D5 P f args O (A5x rs) O':=by
 refine⟨by unfold A3p;rw[hf];simp only;rw[hb];simp[hname],λG w ob vals hs hr=> ?_⟩;refine calls_of_wp hf hb ?_;have h1:=h _ hc ⟨G,w,ob⟩ _ w ob G (C77 hs hr (yw hl)) ⟨Fr.refl G w ob,λid i _ hi=>⟨i,hi, .inl rfl⟩⟩;refine wp_mono h1 ?_;rintro e a' w' ⟨o,σ,ob1,G1,rfl,hq,s,hΓ⟩;have hlt': ∀p∈rvs,p.1<fn.ntmps:=λp hp=>by have:=qm.1 hlt p hp;simpa[Nat.blt_eq]using this
 have fin:(A6d σ fn.ntmps rvs λσ2=>A8f (O.map (·.1)) σ2 (List.range' fn.ntmps rvs.length) rs O')->a'.defers= []/\ ∃v,(results fn a'.tmps).run P w'= .ok v w'/\
   ∃v' G' ob',Ending.returned v= .returned v'/\E8 G' w' ob' (ofL O')/\Rel G' w' ob' (A5x rs) v'/\Fr G w ob G' w' ob'/\D4 ob ob':=by
  intro hR;obtain⟨σ2,a2,v,k1,k2,hv,hv'⟩:=B82 hts s hlt' hR;obtain⟨md,hml,hrl,ρ,A,hw⟩:=k1;obtain⟨ob2,G2,g1,g2,g3⟩:=B3d k2 hw;refine⟨s.defers,v,hv,v,G2,ob2,rfl,g1.objs,?_,hΓ.fr.trans g2,?_⟩
  ·rw[hv'];exact D1s hrl λj t r ht hr=>g1.env t r (B99 hml hrl List.nodup_range' j t r ht hr)
  ·intro id i hi;have hk:id∈O.map (·.1):=by
    cases ho:ofL O id with
    |none=>rw[(hs.dom id).1 ho]at hi;cases hi
    |some o=>obtain⟨o',ho'⟩:=A9b (by rw[ho];rfl);exact qS (f:=(·.1)) ho'
   obtain⟨i',hi',h'⟩:=hΓ.ext id i hk hi
   grind
 cases o with
 |normal=>exact fin hq
 |exit i=>exact hq.elim
 |ret=>exact fin hq
theorem E1t(hm:P.follows .mixedOrders=true)
  (hf:P.funcs[f]? =some fn)(hb:fn.body=some (fn.body.getD .skip))(hname:(fn.name != "runtime.NumGoroutine")=true)(hc:F2 P fn.ntmps (fn.body.getD .skip)=some ac.strip)
  (hts:A6e P fn.results.toList=some rvs)(hlt:(rvs.all λp=>p.1.blt fn.ntmps)=true)(hl:(args.length.ble fn.ntmps)=true)
  (h: @Wi P fn.ntmps (O.map (·.1)) ac (B33 fn.ntmps (O.map (·.1)) rvs rs O') (A02 args O)):D5 P f args O (A5x rs) O':=
 D6f hf hb hname hc hts hlt hl (Wp.of_W hm ac h)
theorem E47(hm:P.follows .mixedOrders=true)
  (hf:P.funcs[f]? =some fn)(hb:fn.body=some (fn.body.getD .skip))(hname:(fn.name != "runtime.NumGoroutine")=true)(hc:F2 P fn.ntmps (fn.body.getD .skip)=some ac.strip)
  (hts:A6e P fn.results.toList=some rvs)(hlt:(rvs.all λp=>p.1.blt fn.ntmps)=true)(hl:(args.length.ble fn.ntmps)=true)
  (h: @Wi P fn.ntmps [] ac (C0i fn.ntmps rvs rs) (A02 args [])):D5 P f args [] (A5x rs) []:=by
 have conv: ∀σ,(A6d σ fn.ntmps rvs λσ2=>B5m σ2 (List.range' fn.ntmps rvs.length) rs)->A6d σ fn.ntmps rvs λσ2=>A8f [] σ2 (List.range' fn.ntmps rvs.length) rs []:=λσ hr=>
  C63 (λσ2 h2=>by obtain⟨md,h1,h2,h3⟩:=C3y (acc:= []) h2;exact⟨md,h1,h2,D4h h3⟩) rvs σ _ hr
 refine D6f (O:= []) (O':= []) hf hb hname hc hts hlt hl ((Wp.of_W hm ac h).mono λo σ hq=> ?_)
 ·cases o with
  |exit i=>exact hq
  |normal=>exact conv σ hq
  |ret=>exact conv σ hq
theorem B5t {f:Nat}(hm:P.follows .mixedOrders=true)
  (hf:P.funcs[f]? =some fn)(hb:fn.body=some (fn.body.getD .skip))(hname:(fn.name != "runtime.NumGoroutine")=true)(hc:F2 P fn.ntmps (fn.body.getD .skip)=some ac.strip)(hN:fn.ntmps=N)
  (hts:A6e P fn.results.toList=some rvs)(hlt:(rvs.all λp=>p.1.blt N)=true)(hl:(args.length.ble N)=true)
  (h: @Wi P N [] ac (C0i N rvs rs) (A02 args [])):D5 P f args [] (A5x rs) []:=by
 subst hN;exact E47 hm hf hb hname hc hts hlt hl h
theorem B8i {f:Nat}(hm:P.follows .mixedOrders=true)
  (hf:P.funcs[f]? =some fn)(hb:fn.body=some (fn.body.getD .skip))(hname:(fn.name != "runtime.NumGoroutine")=true)(hc:F2 P fn.ntmps (fn.body.getD .skip)=some ac.strip)(hN:fn.ntmps=N)
  (hts:A6e P fn.results.toList=some rvs)(hlt:(rvs.all λp=>p.1.blt N)=true)(hl:(args.length.ble N)=true)
  (h: @Wi P N (O.map (·.1)) ac (B33 N (O.map (·.1)) rvs rs O') (A02 args O)):D5 P f args O (A5x rs) O':=by
 subst hN;exact E1t hm hf hb hname hc hts hlt hl h
end
attribute [go_sem] A6d F2o F2m E9e E9d List.range'_succ List.range'_zero
end Go.Abs
end
noncomputable section
namespace Go.Abs
theorem D6a(a:AV):M9 a a=True:=eq_true (D0 a)
theorem E4y(l:List AV):Z0 l l=True:=eq_true (I5 l)
variable {z:Nat} {s:Sq}
theorem E12 {ρ:Nat->Nat}:A31 ρ (.arr z s) (.arr z s)=True:=eq_true A24
theorem U6(z n z' n':Nat)(g g':Nat->List AV):M9 (.dsl z n g) (.dsl z' n' g')=(z=z'/\n=n'/\ ∀i,i<n->Z0 (g i) (g' i)):=by simp only[M9]
theorem D82(cs cs':List AV):M9 (.agg cs) (.agg cs')=Z0 cs cs':=by simp only[M9]
variable {g:Nat->List AV}
theorem F25 {α:Type}{enc:α->List AV}{d:α}{l l':List α}{ρ:Nat->Nat}(x:α)(hg:g 0=enc x)(hl:l'=l++ [x]):
  A31 ρ (.arr z ((A4n enc d l).app ⟨1,g⟩)) (.arr z (A4n enc d l')):=by subst hl;exact E4w hg
variable {i:Nat}
theorem K9 {α:Type}{l:List α}(d:α)(h:i<l.length):l.take (i+1)=l.take i++ [l.getD i d]:=by rw[yW,zg h];simp[List.getD,h]
theorem B6 {α:Type}{l:List α}(d:α)(h:i<l.length):l.getD i d∈l:=by simp[List.getD,h]
variable {β:Type}
theorem D7j {α:Type}{l:List α}(d:α)(f:α->β)(h:i<l.length):(l.take (i+1)).map f=(l.take i).map f++ [f (l.getD i d)]:=by rw[K9 d h,qN];rfl
attribute [go_sem] D6a E4y E12
section
variable {α:Type}
def I9(enc:α->List AV)(d:α)(l:List α):Nat->List AV:=λi=>enc (l.getD i d)
def A4(z:Nat)(enc:α->List AV)(d:α)(l:List α):AV:= .dsl z l.length (I9 enc d l)
def B0(enc:α->List AV)(d:α)(l:List α):Sq:=⟨l.length,I9 enc d l⟩
theorem B20(enc:α->List AV)(d:α)(l:List α)(i:Nat):I9 enc d l i=enc (l.getD i d):=rfl
theorem F6g(enc:α->List AV)(d:α)(l:List α):(B0 enc d l).n=l.length:=rfl
theorem E7i(enc:α->List AV)(d:α)(l:List α):(B0 enc d l).g=I9 enc d l:=rfl
theorem C78(g:Nat->List AV):(λi=>g (0+i))=g:=by funext i;rw[qk]
variable {l l':List α}
theorem A0q {enc:α->List AV}{d:α}{ρ:Nat->Nat}(x:α)(hg:g 0=enc x)(hl:l'=l++ [x]):
  A31 ρ (.arr z ((B0 enc d l).app ⟨1,g⟩)) (.arr z (B0 enc d l')):=F25 x hg hl
theorem A22 {enc:α->List AV}{d:α}{c:List AV}(x:α){ρ:Nat->Nat}{z:Nat}(hi:i<l.length)(hc:c=enc x)(hl:l.set i x=l'):
  A31 ρ (.arr z ((B0 enc d l).set i c)) (.arr z (B0 enc d l')):=F7y x hi hc hl
theorem A67 {enc:α->List AV}{d:α}{c:List AV}(x:α)(hi:i<l.length)(hc:c=enc x):(B0 enc d l).set i c=B0 enc d (l.set i x):=by subst hc;exact D6i hi
theorem A32 {enc:α->List AV}{d:α}{ρ:Nat->Nat}(h:l=l'):A31 ρ (.arr z (B0 enc d l)) (.arr z (B0 enc d l')):=F47 h
theorem G5 {enc:α->List AV}{d:α}(h:l= []):M9 (.sc (.slice none 0 0)) (A4 z enc d l):=E6y h
theorem E7h(enc:α->List AV)(d:α)(l:List α):Sq.mk l.length (I9 enc d l)=B0 enc d l:=rfl
theorem F7t {enc:α->List AV}{d:α}:(B0 enc d l).app (B0 enc d l')=B0 enc d (l++l'):=E7j
end
theorem E9o(g:Nat->List AV)(t:Sq):Sq.app ⟨0,g⟩ t=t:=by cases t;simp[Sq.app]
attribute [go_sem] forall_eq_or_imp E9o E7h F7t D43 keys A0j A76 AOp.isCall A4z AOp.touches AOp.mayWrite List.flatMap_cons List.flatMap_nil List.append_assoc List.getElem?_nil List.all_cons List.all_nil List.map_cons D82 A4 B20 F6g E7i List.length_take Int.natCast_zero
theorem D9l(z n:Nat)(g:Nat->List AV):AV.dsl z n (λi=>g (0+i))=AV.dsl z n g:=by rw[C78]
theorem E2w(n:Nat)(g:Nat->List AV):Sq.mk n (λi=>g (0+i))=Sq.mk n g:=by rw[C78]
attribute [go_sem ↓] D9l E2w
end Go.Abs
end
noncomputable section
namespace Go.Api
open Go.Abs
def C8(x:Int):List AV:= [.sc (.int .i64 x)]
structure cI where
 X:Int
 Y:Int
 deriving DecidableEq,Inhabited
def cI.enc(x:cI):List AV:=[.sc (.int .i64 x.X), .sc (.int .i64 x.Y)]
def cI.zero:List AV:= [.sc (.int .i64 0), .sc (.int .i64 0)]
structure cM where
 dZ:Int
 eD:cI
 eG:Int
 eA:Int
 deriving DecidableEq,Inhabited
def cM.enc(x:cM):List AV:=[.sc (.int .i64 x.dZ), .sc (.int .i64 x.eD.X), .sc (.int .i64 x.eD.Y), .sc (.int .i64 x.eG), .sc (.int .i64 x.eA)]
def cM.zero:List AV:= [.sc (.int .i64 0), .sc (.int .i64 0), .sc (.int .i64 0), .sc (.int .i64 0), .sc (.int .i64 0)]
structure cJ where
 dY:cI
 eT:Int
 deriving DecidableEq,Inhabited
def cJ.enc(x:cJ):List AV:=[.sc (.int .i64 x.dY.X), .sc (.int .i64 x.dY.Y), .sc (.int .i64 x.eT)]
def cJ.zero:List AV:= [.sc (.int .i64 0), .sc (.int .i64 0), .sc (.int .i64 0)]
structure Shape where
 cS:Int
 eW:Int
 cK:List cI
 deriving DecidableEq,Inhabited
def Shape.enc(x:Shape):List AV:=[.sc (.int .i64 x.cS), .sc (.int .i64 x.eW),A4 2 cI.enc default x.cK]
def Shape.zero:List AV:= [.sc (.int .i64 0), .sc (.int .i64 0), .sc (.slice none 0 0)]
structure cY where
 Shape:Shape
 fS:Int
 eK:Int
 fC:Int
 fM:Bool
 fR:Int
 fX:Int
 fW:Int
 deriving DecidableEq,Inhabited
def cY.enc(x:cY):List AV:=[.sc (.int .i64 x.Shape.cS), .sc (.int .i64 x.Shape.eW),A4 2 cI.enc default x.Shape.cK, .sc (.int .i64 x.fS), .sc (.int .i64 x.eK), .sc (.int .i64 x.fC), .sc (.bool x.fM), .sc (.int .i64 x.fR), .sc (.int .i64 x.fX), .sc (.int .i64 x.fW)]
def cY.zero:List AV:= [.sc (.int .i64 0), .sc (.int .i64 0), .sc (.slice none 0 0), .sc (.int .i64 0), .sc (.int .i64 0), .sc (.int .i64 0), .sc (.bool false), .sc (.int .i64 0), .sc (.int .i64 0), .sc (.int .i64 0)]
structure cE where
 ID:Int
 cS:Int
 cJ:cJ
 dO:cI
 dA:Int
 fF:cI
 fG:Int
 eC:Int
 dX:Int
 eF:Int
 fH:Bool
 eE:Bool
 fD:Bool
 eX:Bool
 eM:Int
 cH:List cY
 deriving DecidableEq,Inhabited
def cE.enc(x:cE):List AV:=[.sc (.int .i64 x.ID), .sc (.int .i64 x.cS), .sc (.int .i64 x.cJ.dY.X), .sc (.int .i64 x.cJ.dY.Y), .sc (.int .i64 x.cJ.eT), .sc (.int .i64 x.dO.X), .sc (.int .i64 x.dO.Y), .sc (.int .i64 x.dA), .sc (.int .i64 x.fF.X), .sc (.int .i64 x.fF.Y), .sc (.int .i64 x.fG), .sc (.int .i64 x.eC), .sc (.int .i64 x.dX), .sc (.int .i64 x.eF), .sc (.bool x.fH), .sc (.bool x.eE), .sc (.bool x.fD), .sc (.bool x.eX), .sc (.int .i64 x.eM),A4 10 cY.enc default x.cH]
def cE.zero:List AV:= [.sc (.int .i64 0), .sc (.int .i64 0), .sc (.int .i64 0), .sc (.int .i64 0), .sc (.int .i64 0), .sc (.int .i64 0), .sc (.int .i64 0), .sc (.int .i64 0), .sc (.int .i64 0), .sc (.int .i64 0), .sc (.int .i64 0), .sc (.int .i64 0), .sc (.int .i64 0), .sc (.int .i64 0), .sc (.bool false), .sc (.bool false), .sc (.bool false), .sc (.bool false), .sc (.int .i64 0), .sc (.slice none 0 0)]
structure Four where
 I0:Int
 I1:Int
 I2:Int
 I3:Int
 deriving DecidableEq,Inhabited
def Four.enc(x:Four):List AV:=[.sc (.int .i64 x.I0), .sc (.int .i64 x.I1), .sc (.int .i64 x.I2), .sc (.int .i64 x.I3)]
def Four.zero:List AV:= [.sc (.int .i64 0), .sc (.int .i64 0), .sc (.int .i64 0), .sc (.int .i64 0)]
structure cF where
 ID:Int
 cS:Int
 cU:Int
 cV:Int
 dP:cI
 dL:cI
 eN:cI
 cW:Int
 dD:Bool
 dQ:Int
 dS:Int
 dF:Bool
 dN:Int
 dR:Int
 dB:Int
 dH:Int
 cZ:Bool
 cP:Four
 deriving DecidableEq,Inhabited
def cF.enc(x:cF):List AV:=[.sc (.int .i64 x.ID), .sc (.int .i64 x.cS), .sc (.int .i64 x.cU), .sc (.int .i64 x.cV), .sc (.int .i64 x.dP.X), .sc (.int .i64 x.dP.Y), .sc (.int .i64 x.dL.X), .sc (.int .i64 x.dL.Y), .sc (.int .i64 x.eN.X), .sc (.int .i64 x.eN.Y), .sc (.int .i64 x.cW), .sc (.bool x.dD), .sc (.int .i64 x.dQ), .sc (.int .i64 x.dS), .sc (.bool x.dF), .sc (.int .i64 x.dN), .sc (.int .i64 x.dR), .sc (.int .i64 x.dB), .sc (.int .i64 x.dH), .sc (.bool x.cZ), .sc (.int .i64 x.cP.I0), .sc (.int .i64 x.cP.I1), .sc (.int .i64 x.cP.I2), .sc (.int .i64 x.cP.I3)]
def cF.zero:List AV:= [.sc (.int .i64 0), .sc (.int .i64 0), .sc (.int .i64 0), .sc (.int .i64 0), .sc (.int .i64 0), .sc (.int .i64 0), .sc (.int .i64 0), .sc (.int .i64 0), .sc (.int .i64 0), .sc (.int .i64 0), .sc (.int .i64 0), .sc (.bool false), .sc (.int .i64 0), .sc (.int .i64 0), .sc (.bool false), .sc (.int .i64 0), .sc (.int .i64 0), .sc (.int .i64 0), .sc (.int .i64 0), .sc (.bool false), .sc (.int .i64 0), .sc (.int .i64 0), .sc (.int .i64 0), .sc (.int .i64 0)]
structure cR where
 cU:Int
 dM:Int
 cV:Int
 dJ:Int
 deriving DecidableEq,Inhabited
def cR.enc(x:cR):List AV:=[.sc (.int .i64 x.cU), .sc (.int .i64 x.dM), .sc (.int .i64 x.cV), .sc (.int .i64 x.dJ)]
def cR.zero:List AV:= [.sc (.int .i64 0), .sc (.int .i64 0), .sc (.int .i64 0), .sc (.int .i64 0)]
structure cN where
 eU:cI
 eZ:Int
 ID:Int
 eL:Int
 eS:Int
 deriving DecidableEq,Inhabited
def cN.enc(x:cN):List AV:=[.sc (.int .i64 x.eU.X), .sc (.int .i64 x.eU.Y), .sc (.int .i64 x.eZ), .sc (.int .i64 x.ID), .sc (.int .i64 x.eL), .sc (.int .i64 x.eS)]
def cN.zero:List AV:= [.sc (.int .i64 0), .sc (.int .i64 0), .sc (.int .i64 0), .sc (.int .i64 0), .sc (.int .i64 0), .sc (.int .i64 0)]
structure cL where
 dG:cI
 cQ:List cN
 deriving DecidableEq,Inhabited
def cL.enc(x:cL):List AV:=[.sc (.int .i64 x.dG.X), .sc (.int .i64 x.dG.Y),A4 6 cN.enc default x.cQ]
def cL.zero:List AV:= [.sc (.int .i64 0), .sc (.int .i64 0), .sc (.slice none 0 0)]
structure cX where
 dU:cR
 cL:cL
 deriving DecidableEq,Inhabited
def cX.enc(x:cX):List AV:=[.sc (.int .i64 x.dU.cU), .sc (.int .i64 x.dU.dM), .sc (.int .i64 x.dU.cV), .sc (.int .i64 x.dU.dJ), .sc (.int .i64 x.cL.dG.X), .sc (.int .i64 x.cL.dG.Y),A4 6 cN.enc default x.cL.cQ]
def cX.zero:List AV:= [.sc (.int .i64 0), .sc (.int .i64 0), .sc (.int .i64 0), .sc (.int .i64 0), .sc (.int .i64 0), .sc (.int .i64 0), .sc (.slice none 0 0)]
structure World where
 cM:cM
 cC:List cE
 cD:List cF
 cB:List cX
 cT:List cR
 dK:Int
 eJ:Int
 deriving DecidableEq,Inhabited
def World.enc(x:World):List AV:=[.sc (.int .i64 x.cM.dZ), .sc (.int .i64 x.cM.eD.X), .sc (.int .i64 x.cM.eD.Y), .sc (.int .i64 x.cM.eG), .sc (.int .i64 x.cM.eA),A4 20 cE.enc default x.cC,A4 24 cF.enc default x.cD,A4 7 cX.enc default x.cB,A4 4 cR.enc default x.cT, .sc (.int .i64 x.dK), .sc (.int .i64 x.eJ)]
def World.zero:List AV:= [.sc (.int .i64 0), .sc (.int .i64 0), .sc (.int .i64 0), .sc (.int .i64 0), .sc (.int .i64 0), .sc (.slice none 0 0), .sc (.slice none 0 0), .sc (.slice none 0 0), .sc (.slice none 0 0), .sc (.int .i64 0), .sc (.int .i64 0)]
structure B3 where
 cC:List Int
 cB:List Int
 cD:List Int
 deriving DecidableEq,Inhabited
def B3.enc(x:B3):List AV:=[A4 1 C8 0 x.cC,A4 1 C8 0 x.cB,A4 1 C8 0 x.cD]
def B3.zero:List AV:= [.sc (.slice none 0 0), .sc (.slice none 0 0), .sc (.slice none 0 0)]
attribute [go_sem] C8 cI.enc cI.zero cM.enc cM.zero cJ.enc cJ.zero Shape.enc Shape.zero cY.enc cY.zero cE.enc cE.zero Four.enc Four.zero cF.enc cF.zero cR.enc cR.zero cN.enc cN.zero cL.enc cL.zero cX.enc cX.zero World.enc World.zero B3.enc B3.zero
end Go.Api
end
noncomputable section
namespace Go.Abs
open Go.Api Go.ChangeShapes Go.WideShapes Go.ChangeAt Go.RowKit
section
variable {P:Program} {W:World}
variable {α β:Type} {off size:Nat} {Ok:α->Prop} {enc':β->List AV} {Ok':β->Prop}
theorem J9 {f:Field}{fs:List Field}{sz off':Nat}{enc:α->List AV}(t:TypeId)
  (h1:A12 P W t enc Ok)(ht:f.type=t)(hz:P.cellsOf t=sz)(ho:f.offset=off)(hs:off+sz=off')(h2:A26 P W fs off' size enc' Ok'):
  A26 P W (f::fs) off size (λp:α×β=>enc p.1++enc' p.2) (λp=>Ok p.1/\Ok' p.2):=by
 subst ht;subst hz;subst hs;exact E14 h1 ho h2
variable {t:TypeId}
theorem U4 {fs:Array Field}(size:Nat){enc:α->List AV}{Ok:α->Prop}{enc':β->List AV}{Ok':β->Prop}(g:α->β)(ht:P.underlying t=some (.struct fs))(hz:P.cellsOf t=size)
  (h:A26 P W fs.toList 0 size enc Ok)(he: ∀a,enc' (g a)=enc a)(hk: ∀a,Ok a->Ok' (g a)):A12 P W t enc' Ok':=by
 subst hz;exact(E0i ht h).map g he hk
def fits(n:Int):Prop:= -9223372036854775808<=n/\n<=9223372036854775807
theorem B26(ht:P.underlying t=some (.int .i64)):A12 P W t (λn:Int=> [.sc (.int .i64 n)]) fits:=
 (E8k ht).map id (λ_=>rfl) λn h=>by simp only[Lit.wf,IntKind.min,IntKind.max,zi,zk]at h;simp only[id,fits];simp[IntKind.min,IntKind.max,IntKind.bits,IntKind.signed]at h;omega
variable {avs:List AV}
theorem E0n {cs:Array Value}(h:B8e W avs cs.toList):Rel (λb=>b<W.heap.size) W (λ_=>none) (.agg avs) (.agg cs):=by refine .agg cs (by simpa using h.1) (λj av hj=>B2o (h.2 j av hj).1) (λj av hj=> ?_);have:=(h.2 j av hj).2;simpa[List.getD]using this
variable {el:TypeId}
theorem E53(ht:P.underlying t=some (.array 4 el))(hel:P.underlying el=some (.int .i64))(h4:P.cellsOf t=4)(h1:P.cellsOf el=1):A12 P W t Four.enc (λa=>fits a.I0/\fits a.I1/\fits a.I2/\fits a.I3):=by
 intro H e base spare held n cs x hx;obtain⟨xs,m,_,_,hl,hlen,hf⟩:=DataW.trod_array ht hx;have each: ∀i,i<4-> ∃z,fits z/\cs[i]? =some (.int .i64 z):=λi hi=>by
  have h:=hf i hi;rw[h1,xm,zg o_]at h;obtain⟨z,hz,hr⟩:=B26 hel H e base spare held m _ _ h;refine⟨z,hz,?_⟩;have h2:=(hr.2 0 _ rfl).2.sc_eq
  have h3:i<cs.length:=o_
  rw[zg h3];simp[List.getD,qX,qU,zg h3]at h2;rw[h2]
 obtain⟨z0,f0,e0⟩:=each 0 o_;obtain⟨z1,f1,e1⟩:=each 1 o_;obtain⟨z2,f2,e2⟩:=each 2 o_;obtain⟨z3,f3,e3⟩:=each 3 o_;refine⟨⟨z0,z1,z2,z3⟩,⟨f0,f1,f2,f3⟩,by simp[hl,h4,Four.enc],λj av hj=> ?_⟩
 match j,hj with
 |0,hj=>simp[Four.enc]at hj;subst hj;simp[List.getD,e0];exact⟨rfl, .sc rfl⟩
 |1,hj=>simp[Four.enc]at hj;subst hj;simp[List.getD,e1];exact⟨rfl, .sc rfl⟩
 |2,hj=>simp[Four.enc]at hj;subst hj;simp[List.getD,e2];exact⟨rfl, .sc rfl⟩
 |3,hj=>simp[Four.enc]at hj;subst hj;simp[List.getD,e3];exact⟨rfl, .sc rfl⟩
 |_+4,hj=>simp[Four.enc]at hj
variable {f:FuncId} {args:List AV}
theorem E48 {vals:List Value}(h:D5 P f args [] (.sc (.bool true)) [])
  (hr:A59 (λb=>b<W.heap.size) W (λ_=>none) args vals):Calls P f vals.toArray W λe W'=>e= .returned (.bool true)/\Below W.heap.size W W':=by
 refine(h.2 (λb=>b<W.heap.size) W (λ_=>none) vals ?_ hr).mono ?_
 ·exact⟨λ_=>⟨λ_=>rfl,λ_=>rfl⟩,λ_ _ _ _ _ h=>(by cases h),λ_ h=>h,λ_ _ _ h=>(by simp[ofL,wrm]at h),λ_ _ _ _ h=>(by simp[ofL,wrm]at h)⟩
 ·rintro e W' ⟨v,G',ob',rfl,_,hv,hf,_⟩;have:=hv.sc_eq;subst this;exact⟨rfl,hf.os,hf.tape,hf.output,hf.size,λk hk=>hf.same k hk (.inl hk)⟩
end
end Go.Abs
end
noncomputable section
namespace Go.Abs
abbrev oM(d s:Nat):dC:=⟨some d, .mov (.t s),none,[]⟩
abbrev oV(d:Nat)(v:AV):dC:=⟨some d, .mov (.k v),none,[]⟩
abbrev oL(d s:Nat):dC:=⟨some d, .load none (.t s),none,[]⟩
abbrev oR(n d s:Nat):dC:=⟨some d, .load (some n) (.t s),none,[]⟩
abbrev oF(k d s:Nat):dC:=⟨some d, .faddr k (.t s),none,[]⟩
abbrev oB(p:BinOp)(d x y:Nat):dC:=⟨some d, .bin p (.t x) (.t y),none,[]⟩
abbrev oC(p:BinOp)(d x:Nat)(v:Int):dC:=⟨some d, .bin p (.t x) (.k (.sc (.int .i64 v))),none,[]⟩
abbrev oI(e d x y:Nat):dC:=⟨some d, .iaddr e (.t x) (.t y),none,[]⟩
abbrev oN(d x:Nat):dC:=⟨some d, .len (.t x),none,[]⟩
abbrev oU(d x:Nat):dC:=⟨some d, .un .not (.t x),none,[]⟩
abbrev oX(d x i:Nat):dC:=⟨some d, .ext (.t x) i,none,[]⟩
abbrev oP(d c x:Nat):dC:=⟨some d, .pick (.t c) (.t x) (.k (.sc (.bool false))),none,[]⟩
abbrev oQ(d c x:Nat):dC:=⟨some d, .pick (.t c) (.k (.sc (.bool true))) (.t x),none,[]⟩
abbrev oS(n d s:Nat):dC:=⟨none, .store n (.t d) (.t s),none,[]⟩
abbrev oD(n d:Nat)(v:AV):dC:=⟨none, .store n (.t d) (.k v),none,[]⟩
abbrev oA(d:Nat)(z:List Value):dC:=⟨some d, .alloc z,none,[]⟩
abbrev oE(d x:Nat):dC:=⟨some d, .box (.t x),none,[]⟩
abbrev oJ(d f:Nat)(l:List AX):dC:=⟨some d, .call f l,none,[]⟩
abbrev oW(d:Nat)(z:List Value)(ps:List (Nat×Nat×AX)):dC:=⟨some d, .build z ps,none,[]⟩
abbrev oY(e d n:Nat)(z:List Value)(ps:List (Nat×Nat×AX)):dC:=⟨some d, .bslice e n z ps,none,[]⟩
abbrev oZ(e b d x y:Nat):dC:=⟨some d, .append e b (.t x) (.t y),none,[]⟩
abbrev gT(t:Nat)(o:dC):dC:=⟨o.dst,o.op,some (t,true),o.chk⟩
abbrev gF(t:Nat)(o:dC):dC:=⟨o.dst,o.op,some (t,false),o.chk⟩
abbrev ki(n:Int):AX:= .k (.sc (.int .i64 n))
abbrev vi(n:Int):AV:= .sc (.int .i64 n)
abbrev vb(b:Bool):AV:= .sc (.bool b)
abbrev vn:AV:= .sc (.slice none 0 0)
abbrev r0(l:List dC):ACode:= .region false l
abbrev r1(l:List dC):ACode:= .region true l
attribute [go_sem] oM oV oL oR oF oB oC oI oN oU oX oP oQ oS oD oA oE oJ oW oY oZ gT gF ki vi vb vn r0 r1
end Go.Abs
end
noncomputable section
namespace Go.Abs
open Go.Sort
def C3f(n:Int):List AV:= [.sc (.int .i64 n)]
variable {av:AV} {j:Nat}
theorem F1i {l:List Int}(h:(C3f (l.getD j 0))[0]? =some av):av= .sc (.int .i64 (l.getD j 0)):=by simp only[C3f,List.getElem?_cons_zero,za]at h;exact h.symm
variable {f:FuncId} {P:Program}
theorem F7u(hcb:A3p P f=true)(l l':List Int)(hlen:l'.length=l.length)(res:Option Addr->Nat->Value)(r:AV)
  (hr: ∀(G:Nat->Prop) (w:World) (ob:Place) (i:L4) (a:Option Addr) (cap:Nat),ob 1=some i->i.len=l.length->SlV i 0 l.length (.slice a l.length cap)->Rel G w ob r (res a cap))
  (hc: ∀(blk cap:Nat) (w:World),Holds (Value.int .i64) w blk 0 l.toArray->blk<w.heap.size->l.length<=cap->
    Calls P f #[.slice (some ⟨blk,0,none⟩) l.length cap] w λe w'=>e= .returned (res (some ⟨blk,0,none⟩) cap)/\ ∃n os,w'=grow (putRow (Value.int .i64) (Sort.ahead w n) blk 0 l'.toArray) os)
  (hnil:l= []-> ∀(a:Option Addr) (w:World),Calls P f #[.slice a 0 0] w λe w'=>e= .returned (res a 0)/\w'=w):
  D5 P f [.sl 1 0 l.length l.length] [(1, .arr 1 (B0 C3f 0 l))] r [(1, .arr 1 (B0 C3f 0 l'))]:=by
 refine⟨hcb,λG w ob vals hs hrl=> ?_⟩;obtain⟨hn,hv⟩:=hrl
 match vals,hn with
 | [v],_=>
 have hrel:=hv 0 _ rfl;simp only[List.getD,List.getElem?_cons_zero,Option.getD_some]at hrel;cases hrel with
 |sl i h hle hsv hslv=>
 have hown:=hs.own 1 _ i rfl h;obtain⟨o1,o2,o3,o4,o5⟩:=hown;have o3':i.len=l.length:=o3
 have hsl:=hslv o3'.symm.symm;obtain⟨a,c,rfl⟩:=hsv;rcases o5 with⟨b1,b2,b3⟩ |⟨b,arr,T,b1,b2,b3,b4⟩
 ·have hl:l= []:=qx.1 b2
  subst hl;have hl':l'= []:=qx.1 hlen;subst hl';have hac:(Value.slice a 0 c:Value)= .slice none 0 0\/ ∃a',(Value.slice a 0 c:Value)= .slice (some a') 0 0:=hsl.2.1 b1
  have hc0:c=0:=by rcases hac with e |⟨a',e⟩ <;> cases e <;> rfl
  subst hc0;refine(hnil rfl a w).mono ?_;rintro e w' ⟨rfl,rfl⟩;exact⟨_,G,ob,rfl,hs,hr G w' ob i a 0 h o3' hsl,Fr.refl G w' ob,D4.refl ob⟩
 ·obtain⟨o,c',e,hle',ho,h0⟩:=hsl.2.2 b b1;cases e;obtain⟨rfl,rfl⟩:=h0 rfl;have hsz:arr.size=i.cap:=by rw[b3,o2,xm]
  have hcell: ∀j,j<l.length->arr[j]? =some (.int .i64 (l.getD j 0)):=λj hj=>by obtain⟨_,v,hv,hrv⟩:=b4.2 j 0 (.sc (.int .i64 (l.getD j 0))) hj rfl;rw[o2,xm,Nat.add_zero]at hv;rw[hrv.sc_eq]at hv;exact hv
  have hblk:b<w.heap.size:=(qb.1 b2).1
  have hH:Holds (Value.int .i64) w b 0 l.toArray:=λj hj=>by
   have hj':j<l.length:=by simpa using hj
   refine⟨?_,?_⟩
   ·simp only[World.cell?,b2,qk,hcell j hj'];simp[List.getD,hj']
   ·simp[World.frozen?,b2]
  refine(hc b i.cap w hH hblk hle').mono ?_;rintro e w' ⟨rfl,n,os,rfl⟩;have hnG: ¬G b:=hs.sep 1 _ i b rfl rfl h (.inl b1)
  have hheap: ∀k,k<w.heap.size->k≠b->(grow (putRow (Value.int .i64) (Sort.ahead w n) b 0 l'.toArray) os).heap[k]? =w.heap[k]? :=λk hk hkb=>by rw[heap_grow_old _ _ (by simpa using hk)];simp only[putRow,mapBlock,yK,Sort.ahead,zb (Ne.symm hkb)]
  have hb':(grow (putRow (Value.int .i64) (Sort.ahead w n) b 0 l'.toArray) os).heap[b]? =some (.cells (putCells (Value.int .i64) 0 l'.toArray arr) T (0,0)):=by rw[heap_grow_old _ _ (by simpa using hblk)];simp only[putRow,mapBlock,yK,Sort.ahead,zL,b2,Option.map_some,onCells]
  refine⟨_,G,ob,rfl,⟨λid=> ?_,hs.inj,λk hk=>qH (hs.lt k hk) p_,λid o' i' ho' hi'=> ?_,λid o' i' b' ho' how hi' hb''=> ?_⟩,hr G _ ob i _ _ h o3' hsl,⟨p_,λk hk hgb=> ?_,λk hk=> .inl hk,λk hk=>hk,λk hk=> .inl hk,rfl,rfl,rfl,by simp[grow,putRow,mapBlock,Sort.ahead]⟩,D4.refl ob⟩
  ·rw[<-hs.dom id];show upd (λ_=>none) 1 _ id=none↔upd (λ_=>none) 1 _ id=none;simp only[upd];split <;> simp
  ·have hid:id=1:=by
    have ho':upd (λ_=>none) 1 (some (A7.arr 1 (B0 C3f 0 l'))) id=some o':=ho';simp only[upd]at ho';split at ho'
    ·assumption
    ·cases ho'
   subst hid;rw[h]at hi';cases hi';have ho1:o'= .arr 1 (B0 C3f 0 l'):=(Option.some.inj ho').symm;subst ho1;refine⟨o1,o2,by rw[o3'];exact hlen.symm,by show l'.length<=_;omega, .inr ⟨b,_,T,b1,hb',by simp[putCells,b3],?_⟩⟩;refine⟨λj hj=>by rw[o2];rfl,λj k av hj hk=> ?_⟩;have hj:j<l'.length:=hj;cases k with
   |succ k=>exact absurd hk (by simp[B0,C3f,I9])
   |zero=>
    have hk':(C3f (l'.getD j 0))[0]? =some av:=hk;rw[F1i hk'];refine⟨rfl,_,?_, .sc rfl⟩;rw[o2,xm,Nat.add_zero];have:j<arr.size:=o_
    simp only[putCells,Array.getElem?_mapIdx,hcell j o_,Option.map_some,za];rw[zc ⟨zm _,by simpa using hj⟩];simp[List.getD,hj]
  ·have hid:id=1:=by
    have ho':upd (λ_=>none) 1 (some (A7.arr 1 (B0 C3f 0 l'))) id=some o':=ho';simp only[upd]at ho';split at ho'
    ·assumption
    ·cases ho'
   subst hid;rw[h]at hi';cases hi';have hb'':=L4.has_plain (.inl o1) hb'';rw[b1]at hb'';cases hb'';exact hnG
  ·refine hheap k hk λe=> ?_;subst e;rcases hgb with h1 |h1
   ·exact hnG h1
   ·exact h1 ⟨1,i,h, .inl b1⟩
end Go.Abs
end
noncomputable section
namespace Go.Abs
def D4o(l:List Int):Prop:=l.Pairwise (· <·)
theorem D6c(d:Array Int)(x:Int): ∀m,x∈Go.Lib.compactUpTo d m-> ∃j,j<m/\d[j]! =x
 |0,h=>by simp[Go.Lib.compactUpTo]at h
 |m+1,h=>by
  rw[Go.Lib.compactUpTo_succ,zj]at h;rcases h with h |h
  ·obtain⟨j,hj,e⟩:=D6c d x m h;exact⟨j,o_,e⟩
  ·split at h
   ·rw[zu]at h;exact⟨m,o_,h.symm⟩
   ·cases h
theorem D6d(d:Array Int)(hd: ∀i j,i<=j->j<d.size->d[i]!<=d[j]!): ∀m,m<=d.size->D4o (Go.Lib.compactUpTo d m)
 |0,_=>by simp[Go.Lib.compactUpTo,D4o]
 |m+1,hm=>by
  rw[Go.Lib.compactUpTo_succ];have ih:=D6d d hd m o_;unfold D4o at ih⊢;rw[List.pairwise_append];refine⟨ih,by split <;> simp,λx hx y hy=> ?_⟩;split at hy
  ·rename_i hk;rw[zu]at hy;subst hy;obtain⟨j,hj,rfl⟩:=D6c d x m hx;simp only[Go.Lib.keeps,zk]at hk;rcases hk with hk |hk
   ·omega
   ·have h1:=hd j (m-1) o_ o_
    have h2:=hd (m-1) m o_ o_;omega
  ·cases hy
theorem E1w {l:List Int}(h:l.Pairwise (· <= ·)):D4o (Go.Lib.compact l):=by
 unfold Go.Lib.compact;refine D6d l.toArray (λi j hij hj=> ?_) l.length p_;have hj':j<l.length:=by simpa using hj
 have hi':i<l.length:=o_
 simp only[List.getElem!_toArray,getElem!_pos l i hi',getElem!_pos l j hj'];rcases Nat.lt_or_eq_of_le hij with hlt |rfl
 ·exact List.pairwise_iff_getElem.1 h i j hi' hj' hlt
 ·exact Int.le_refl _
theorem F0w(l:List Int):(l.mergeSort λx y=>decide (x<=y)).Pairwise (· <= ·):=by have:=List.pairwise_mergeSort (le:=λx y:Int=>decide (x<=y)) (by intro a b c h1 h2;simp at*;omega) (by intro a b;simp;omega) l;exact this.imp λh=>by simpa using h
attribute [go_sem] B00 C2u B7q C1x
def B79:AV->AV
 | .own z n g=> .dsl z n g
 |c=>c
section
variable {P:Program} {G:Nat->Prop} {w:World} {ob:Place} {m:Nat->Option A7}
variable {z n:Nat} {v:Value} {g:Nat->List AV} {G':Nat->Prop}
theorem F4c {β:Option Nat}(h:A9o G w ob β (.own z n g) v)(hβ: ∀b,β=some b->G' b)(hsub: ∀b,G b->G' b):Rel G' w ob (.dsl z n g) v:=by
 rcases h with⟨_,rfl,rfl |⟨a,rfl⟩⟩ |⟨b,cap,arr,T,h1,h2,rfl,h3,h4,h5⟩
 ·exact .dslNil
 ·exact .dslE a 0
 ·refine .dsl b 0 cap (λk j=>(arr[k*z+j]?).getD undef) (hβ b h1) h2 (λk hk=>h5.1 k hk) (λk j av hk hj=>(h5.2 k j av hk hj).1) (λk j hk hj=> ?_) (λk j av hk hj=> ?_)
  ·have hlen:=h5.1 k hk
   obtain⟨_,u,hu,_⟩:=h5.2 k j (g k)[j] hk (zg (by rw[hlen];exact hj));rw[qk,cell_of_row w b _ arr T _ h3,hu];simp
  ·obtain⟨_,u,hu,hrel⟩:=h5.2 k j av hk hj;rw[hu];exact hrel.ext hsub (λ_ _=>rfl) (D4.refl ob)
theorem E8.settle(hs:E8 G w ob m){id z:Nat}{s:Sq}(hm:m id=some (.arrP z s))(hh: ∀(k j:Nat),k<s.n->(s.g k)[j]?≠some .hole):
  ∃G' ob',E8 G' w ob' (upd m id (some (.arr z ⟨s.n,λk=>(s.g k).map B79⟩)))/\D4 ob ob'/\(∀b,G b->G' b)/\(∀b,G' b->G b\/P6 ob b)/\ ∀b,P6 ob' b->P6 ob b:=by
 cases hi:ob id with
 |none=>rw[(hs.dom id).2 hi]at hm;cases hm
 |some i=>
  obtain⟨h1,h2,h3,p,hk,h4⟩:=hs.own id _ i hm hi;have hp: ∀x,i.has x↔i.blk=some x\/p x:=λx=>L4.has_priv hk x
  have hi1: ∀x,({i with kind:= .cells}:L4).has x->i.blk=some x:=λx hx=>L4.has_plain (i:= {i with kind:= .cells}) (.inl rfl) hx
  have hob:D4 ob (upd ob id (some {i with kind:= .cells})):=λq j hj=>by
   by_cases hq:q=id
   ·subst hq;rw[hi]at hj;injection hj with hj;subst hj;exact⟨{i with kind:= .cells},p_, .inr (.inl ⟨p, .cells,hk,rfl⟩)⟩
   ·exact⟨j,by rw[J0 hq];exact hj, .inl rfl⟩
  have hpown: ∀x,p x-> ∀q j,q≠id->ob q=some j->j.has x->False:=λx hx q j hq hj hjx=>hq (hs.inj _ _ _ _ x hj hi hjx ((hp x).2 (.inr hx)));refine⟨λb=>G b\/p b,upd ob id (some {i with kind:= .cells}),⟨λq=> ?_,λq r j k b hj hk' hjb hkb=> ?_,λb hb=> ?_,λq o j ho hj=> ?_,λq o j b ho hown hj hjb=> ?_⟩,hob,λb h=> .inl h,λb h=>h.imp (λh=>h) (λh=>⟨id,i,hi,(hp b).2 (.inr h)⟩),?_⟩
  ·by_cases hq:q=id
   ·subst hq;simp
   ·rw[J0 hq,J0 hq];exact hs.dom q
  ·have old: ∀q j,upd ob id (some {i with kind:= .cells}) q=some j->j.has b-> ∃j',ob q=some j'/\j'.has b:=λq j hj hjb=>by
    by_cases hq:q=id
    ·subst hq;simp only[A03,za]at hj;subst hj;exact⟨i,hi, .inl (hi1 b hjb)⟩
    ·rw[J0 hq]at hj;exact⟨j,hj,hjb⟩
   obtain⟨j',a1,a2⟩:=old q j hj hjb;obtain⟨k',a3,a4⟩:=old r k hk' hkb;exact hs.inj _ _ _ _ b a1 a3 a2 a4
  ·rcases hb with hb |hb
   ·exact hs.lt b hb
   ·exact(hs.own id _ i hm hi).has_lt ((hp b).2 (.inr hb))
  ·by_cases hq:q=id
   ·subst hq;simp only[A03,za]at ho hj;subst ho;subst hj;refine⟨rfl,h1,h2,h3,?_⟩;rcases h4 with⟨a1,a2,a3,_⟩ |⟨b,arr,T,β,a1,a2,a3,a4,a5⟩
    ·exact .inl ⟨a1,a2,a3⟩
    ·refine .inr ⟨b,arr,T,a1,a2,a3,⟨λk hk=>by simp only[z7];exact a4.1 k hk,λk j av hk hj=> ?_⟩⟩;simp only[qA,zh]at hj;obtain⟨c,hc,rfl⟩:=hj;obtain⟨v,hv,hcell⟩:=a4.2 k j c hk hc;have hjz:j<z:=by
      have:=a4.1 k hk;rcases qq j (s.g k).length with h |h
      ·omega
      ·rw[qi h]at hc;cases hc
     cases c with
     |own z' n' g'=>exact⟨rfl,v,hv,(F4c hcell (λb hb=> .inr (a5.sub k j b hk hjz hb)) (λb hb=> .inl hb)).ob_free rfl⟩
     |hole=>exact absurd hc (hh k j hk)
     |_=>exact⟨hcell.1,v,hv,(hcell.2.2.ext (λb hb=> .inl hb) (λ_ _=>rfl) (D4.refl ob)).ob_free hcell.1⟩
   ·rw[J0 hq]at ho hj;exact(hs.own q o j ho hj).ext (λb hb=> .inl hb) (λ_ _=>rfl) hob (λ_ _=>rfl)
  ·by_cases hq:q=id
   ·subst hq;simp only[A03,za]at hj;subst hj;have hb:=hi1 b hjb;rintro(h |h)
    ·exact hs.sep _ _ i b hm rfl hi (.inl hb) h
    ·rcases h4 with⟨a1,_⟩ |⟨b',arr,T,β,a1,a2,a3,a4,a5⟩
     ·rw[hb]at a1;cases a1
     ·rw[hb]at a1;injection a1 with a1;subst a1;exact a5.ne h
   ·rw[J0 hq]at ho hj;rintro(h |h)
    ·exact hs.sep q o j b ho hown hj hjb h
    ·exact hpown b h q j hq hj hjb
  ·rintro b ⟨q,j,hj,hjb⟩;by_cases hq:q=id
   ·subst hq;simp only[A03,za]at hj;subst hj;exact⟨_,i,hi, .inl (hi1 b hjb)⟩
   ·rw[J0 hq]at hj;exact⟨q,j,hj,hjb⟩
theorem D5.settle {f:FuncId}{args:List AV}{O O1 O2:List (Nat×A7)}{r:AV}{id z:Nat}{s:Sq}(h:D5 P f args O r O1)(hm:ofL O1 id=some (.arrP z s))
  (hh: ∀(k j:Nat),k<s.n->(s.g k)[j]?≠some .hole)(ho:ofL O2=upd (ofL O1) id (some (.arr z ⟨s.n,λk=>(s.g k).map B79⟩))):D5 P f args O r O2:=by
 refine⟨h.1,λG w ob vals hs hr=>(h.2 G w ob vals hs hr).mono ?_⟩;rintro e w' ⟨v,G',ob',rfl,h1,h2,h3,h4⟩;obtain⟨G2,ob2,a1,a2,a3,a4,a5⟩:=h1.settle hm hh;refine⟨v,G2,ob2,rfl,by rw[ho];exact a1,h2.ext a3 (λ_ _=>rfl) a2,⟨h3.size,h3.same,λb hb=>h3.blk b (a5 b hb),λb hb=>a3 b (h3.sub b hb),λb hb=> ?_,h3.os,h3.tape,h3.output,h3.drawn⟩,h4.trans a2⟩;rcases a4 b hb with hb |hb
 ·exact h3.new b hb
 ·rcases h3.blk b hb with hb |hb
  ·exact .inr (.inr hb)
  ·exact .inr (.inl hb)
end
def itr {S:Type}(f:Nat->S->S):Nat->S->S
 |0,s=>s
 |k+1,s=>f k (itr f k s)
def I8 {S R:Type}(f:Nat->S->S ⊕ R):Nat->S->S ⊕ R
 |0,s=> .inl s
 |k+1,s=>match I8 f k s with
  | .inl s'=>f k s'
  | .inr r=> .inr r
variable {S:Type}
theorem G9(f:Nat->S->S)(s:S):itr f 0 s=s:=rfl
theorem H7(f:Nat->S->S)(k:Nat)(s:S):itr f (k+1) s=f k (itr f k s):=rfl
variable {R:Type}
theorem L2(f:Nat->S->S ⊕ R)(s:S):I8 f 0 s= .inl s:=rfl
variable {k:Nat}
theorem A0f {f:Nat->S->S ⊕ R}{s s':S}{r:S ⊕ R}(h:I8 f k s= .inl s')(h':f k s'=r):I8 f (k+1) s=r:=by simp only[I8,h,h']
theorem D93 {S R:Type}{f:Nat->S->S ⊕ R}{k:Nat}{s:S}{r:R}(h:I8 f k s= .inr r): ∀j,I8 f (k+j) s= .inr r
 |0=>h
 |j+1=>by have:=D93 h j;show I8 f (k+j+1) s=_;simp only[I8,this]
variable {n:Nat}
theorem A4w {f:Nat->S->S ⊕ R}{s:S}{r:R}(h:I8 f k s= .inr r)(hk:k<=n):I8 f n s= .inr r:=by obtain⟨j,rfl⟩:=Nat.exists_eq_add_of_le hk;exact D93 h j
def mrg {S:Type}:S ⊕ S->S
 | .inl s=>s
 | .inr s=>s
theorem P9(s:S):mrg (.inl s:S ⊕ S)=s:=rfl
theorem Q0(s:S):mrg (.inr s:S ⊕ S)=s:=rfl
theorem A89 {S:Type}{f:Nat->S->S}(len:S->Nat)(k:Nat)(h: ∀i s,len (f i s)<=len s+k): ∀n s,len (itr f n s)<=len s+k*n
 |0,s=>by simp[itr]
 |n+1,s=>by have:=h n (itr f n s);have:=A89 len k h n s;rw[H7,Nat.mul_succ];omega
theorem C7(p:Prop) [Decidable p](b:Bool):(if p then b else false)=(decide p&&b):=by by_cases h:p <;> simp[h]
theorem D6(p:Prop) [Decidable p](b:Bool):(if p then true else b)=(decide p||b):=by by_cases h:p <;> simp[h]
theorem C0(b:Bool):decide (b=true)=b:=by cases b <;> rfl
theorem D1(b:Bool):decide (b=false)= !b:=by cases b <;> rfl
theorem B7v {α:Type}{z:Nat}{enc:α->List AV}{d:α}: ∀ {l:List α} {i:Nat},(∀a∈l,(enc a).length=z)->i<l.length->((l.flatMap enc).drop (i*z)).take z=enc (l.getD i d)
 | [],i,_,h=>by simp at h
 |a::l,0,hz,_=>by have:=hz a p_;simp only[yo,xd,List.drop_zero];rw[<-this,List.take_left];rfl
 |a::l,i+1,hz,h=>by
  have ha:=hz a p_
  have e:(i+1)*z=(enc a).length+i*z:=by rw[ha,qa];omega
  rw[yo,e,<-yj,List.drop_left];have:=B7v (d:=d) (l:=l) (i:=i) (λb hb=>hz b (by simp[hb])) (by simpa using h);rw[this];simp[List.getD]
variable {α:Type} {z:Nat} {l:List α}
theorem D84 {enc:α->List AV}{d:α}{cells:List AV}(hz: ∀a∈l,(enc a).length=z)(hc:cells=l.flatMap enc)(hn:n=l.length):
  M9 (.dsl z n λi=>(cells.drop (i*z)).take z) (A4 z enc d l):=by
 subst hc;subst hn;simp only[A4,M9,qo];intro i hi;rw[B7v (d:=d) hz hi];exact I5 _
variable {n':Nat}
theorem H1 {enc:α->List AV}{d:α}{cells:List AV}(hz: ∀a∈l,(enc a).length=z)(hc:cells=l.flatMap enc)(hn:n=l.length)(hn':n'=l.length):
  M9 (.dsl z n λi=>(cells.drop (i*z)).take z) (.dsl z n' (I9 enc d l)):=by
 subst hn';exact D84 hz hc hn
variable {i:Nat}
theorem F2c {k:IntKind}{a b c d:Int}(h:i<4): [AV.sc (.int k a),AV.sc (.int k b),AV.sc (.int k c),AV.sc (.int k d)].getD i .hole= .sc (.int k ([a,b,c,d].getD i 0)):=by
 match i,h with
 |0,_=>rfl
 |1,_=>rfl
 |2,_=>rfl
 |3,_=>rfl
theorem C6z(id:Nat)(o:A7):ofL [(id,o)]=upd (λ_=>none) id (some o):=rfl
variable {f:FuncId} {P:Program} {s:Sq} {args:List AV}
theorem D5.shrink {id:Nat}(h:D5 P f args [] (.sl id 0 0 n) [(id, .arr z s)])(hn:n=s.n)(g:Nat->List AV):
  D5 P f args [] (.sl id 0 0 0) [(id, .arr z ⟨0,g⟩)]:=by
 refine⟨h.1,λG w ob vals hs hr=>(h.2 G w ob vals hs hr).mono ?_⟩;rintro e w' ⟨v,G',ob',rfl,h1,h2,h3,h4⟩;have m1: ∀q o,ofL [(id,A7.arr z s)] q=some o->q=id/\o= .arr z s:=λq o hq=>by
  have hq:upd (λ_=>none) id (some (A7.arr z s)) q=some o:=hq;simp only[upd]at hq;split at hq
  ·exact⟨by assumption,(Option.some.inj hq).symm⟩
  ·cases hq
 have m2: ∀q o,ofL [(id,A7.arr z ⟨0,g⟩)] q=some o->q=id/\o= .arr z ⟨0,g⟩:=λq o hq=>by
  have hq:upd (λ_=>none) id (some (A7.arr z ⟨0,g⟩)) q=some o:=hq;simp only[upd]at hq;split at hq
  ·exact⟨by assumption,(Option.some.inj hq).symm⟩
  ·cases hq
 have mid:ofL [(id,A7.arr z s)] id=some (.arr z s):=by rw[C6z];simp
 cases h2 with
 |sl i hi hle hss hvv=>
  obtain⟨hk,hz,hl,hc,hrow⟩:=h1.own id _ i mid hi;have hsl:=hvv (by rw[hl,hn])
  have hob: ∀q,ob q=none:=λq=>(hs.dom q).1 rfl
  have hnone: ∀q,q≠id->ob' q=none:=λq hq=>(h1.dom q).1 (by rw[C6z,J0 hq])
  have hhas: ∀b,({i with len:=0}:L4).has b->i.has b:=λb hb=>hb;refine⟨v,G',upd ob' id (some {i with len:=0}),rfl,⟨λq=> ?_,λq r j k b hj hk' hjb hkb=> ?_,h1.lt,λq o j ho hj=> ?_,λq o j b ho how hj hjb=> ?_⟩,
   .sl {i with len:=0} p_ (ze _) hss λ_=>⟨ze _,hsl.2.1,hsl.2.2⟩,⟨h3.size,λb hb hc=>h3.same b hb hc,λb hb=> ?_,h3.sub,h3.new,h3.os,h3.tape,h3.output,h3.drawn⟩,λq j hj=>by rw[hob q]at hj;cases hj⟩
  ·rw[C6z];by_cases hq:q=id
   ·subst hq;simp
   ·simp only[J0 hq,hnone q hq]
  ·have: ∀q j,upd ob' id (some {i with len:=0}) q=some j->q=id:=λq j hj=>by
    by_cases hq:q=id
    ·exact hq
    ·rw[J0 hq,hnone q hq]at hj;cases hj
   rw[this q j hj,this r k hk']
  ·obtain⟨rfl,rfl⟩:=m2 q o ho;simp only[A03,za]at hj;subst hj;refine⟨hk,hz,rfl,zm _,?_⟩;rcases hrow with⟨a1,_,a3⟩ |⟨b,arr,T,a1,a2,a3,_⟩
   ·exact .inl ⟨a1,rfl,a3⟩
   ·exact .inr ⟨b,arr,T,a1,a2,a3,λk hk=>by simp at hk,λk j av hk=>by simp at hk⟩
  ·obtain⟨rfl,rfl⟩:=m2 q o ho;simp only[A03,za]at hj;subst hj;exact h1.sep q _ i b mid rfl hi (hhas b hjb)
  ·obtain⟨q,j,hj,hjb⟩:=hb;by_cases hq:q=id
   ·subst hq;simp only[A03,za]at hj;subst hj;exact h3.blk b ⟨q,i,hi,hhas b hjb⟩
   ·rw[J0 hq,hnone q hq]at hj;cases hj
theorem D5.dataRes {id:Nat}(h:D5 P f args [] (.sl id 0 s.n s.n) [(id, .arr z s)]):D5 P f args [] (.dsl z s.n s.g) []:=by
 refine⟨h.1,λG w ob vals hs hr=>(h.2 G w ob vals hs hr).mono ?_⟩;rintro e w' ⟨v,G',ob',rfl,h1,h2,h3,h4⟩;have mid:ofL [(id,A7.arr z s)] id=some (.arr z s):=by rw[C6z];simp
 obtain⟨G2,a1,a2,a3,_⟩:=h1.freeze mid;have hd:=C8s a1 (A03 _ _ _) (h2.ext a2 (λ_ _=>rfl) (D4.refl ob')) rfl
 have hd:Rel G2 w' ob' (.dsl z s.n s.g) v:=by simpa using hd
 have hob: ∀q,ob q=none:=λq=>(hs.dom q).1 rfl;refine⟨v,G2,λ_=>none,rfl,⟨λq=>⟨λ_=>rfl,λ_=>rfl⟩,(by intro _ _ _ _ _ h;cases h),a1.lt,(by intro _ _ _ h;cases h),(by intro _ _ _ _ h;cases h)⟩,
  hd.ob_free rfl,⟨h3.size,h3.same,λb hb=> ?_,λb hb=>a2 b (h3.sub b hb),λb hb=> ?_,h3.os,h3.tape,h3.output,h3.drawn⟩,λq j hj=>by rw[hob q]at hj;cases hj⟩
 ·obtain⟨q,j,hj,_⟩:=hb;cases hj
 ·rcases a3 b hb with hb |hb
  ·exact h3.new b hb
  ·rcases h3.blk b hb with hb |hb
   ·exact .inr (.inr hb)
   ·exact .inr (.inl hb)
variable {O:List (Nat×A7)}
theorem D5.res_le {O1:List (Nat×A7)}{r r':AV}(h:D5 P f args O r O1)(hr:J2 r r'):D5 P f args O r' O1:=by refine⟨h.1,λG w ob vals hs hv=>(h.2 G w ob vals hs hv).mono ?_⟩;rintro e w' ⟨v,G',ob',rfl,h1,h2,h3,h4⟩;exact⟨v,G',ob',rfl,h1,hr.rel _ _ _ _ h2,h3,h4⟩
attribute [go_sem_proc ↓] reduceIte
attribute [go_sem_proc] Nat.reduceEqDiff reduceCtorEq Nat.reduceAdd Nat.reduceLeDiff Nat.reduceMul Nat.reduceSub Int.reduceToNat
variable {p:Prop}
theorem ob_(h:p:=by((with_reducible and_intros) <;> first |omega |(simp only[IntKind.wrap_i64];omega) |(exact qT _ (by first |omega |(rw[IntKind.wrap_i64];omega))) |(exact qE _ o_) |(intro hob0;(with_reducible and_intros) <;> first |omega |(exact qT _ (by first |omega |(rw[IntKind.wrap_i64];omega))) |(exact qE _ o_)) |trivial |assumption |(simp only[maxLen];omega) |(intro hob;first |omega |(simp only[zi,zy,zk,zQ,zC,yb]at hob;first |omega |(simp only[IntKind.wrap_i64];omega)) |(simp only[hob,zD,zR,zH,zO,qo,qV,xk,yB];done) |(simp[hob];done) |(simp_all;done) |(simp_all;omega)))):p:=h
theorem A8n(h:p:=by((try dsimp only);(with_reducible and_intros) <;> first |with_reducible rfl |trivial |(rw[IntKind.wrap_i64];omega) |omega |(simp only[zd,List.length_cons,List.length_nil];done) |rfl |exact G5 rfl |exact A32 rfl |(simp only[go_sem,↓reduceIte,Nat.reduceEqDiff,reduceCtorEq,Nat.reduceAdd,Nat.reduceLeDiff,Nat.reduceMul,Nat.reduceSub,Int.reduceToNat,C7,D6,C0,D1];done) |(simp_all;done) |(simp only[zC,qK,zk]at*;omega) |(intro hob;simp only[hob,zD,zR,zH,zO,qo,qV,xk,yB];done) |(intro hob;simp[hob];done) |((with_reducible and_intros) <;> first |omega |(simp only[IntKind.wrap_i64];omega) |(exact qT _ (by first |omega |(rw[IntKind.wrap_i64];omega))) |(exact qE _ o_) |(intro hob0;(with_reducible and_intros) <;> first |omega |(exact qT _ (by first |omega |(rw[IntKind.wrap_i64];omega))) |(exact qE _ o_)) |trivial |assumption |(simp only[maxLen];omega) |(intro hob;first |omega |(simp only[zi,zy,zk,zQ,zC,yb]at hob;first |omega |(simp only[IntKind.wrap_i64];omega)) |(simp only[hob,zD,zR,zH,zO,qo,qV,xk,yB];done) |(simp[hob];done) |(simp_all;done) |(simp_all;omega))))):p:=h
theorem hd_ {α:Sort _}{a b:α}(h:a=b:=by first |with_reducible rfl |(simp only[*,zL,zJ,qj,zf,zG,zN,zK,reduceCtorEq,G9,L2,P9,Q0,zO,zH,zX,zI,z8,zV,zZ,zS,zR,zD,z6,zP] <;> first |with_reducible rfl |rfl) |((repeat' split) <;> first |rfl |omega |(simp_all;done) |(simp_all;omega))):a=b:=h
theorem ok_(h:p:=by((with_reducible and_intros) <;> first |omega |(simp only[maxLen];omega))):p:=h
variable {σ:St} {K:List Nat} {T:Slots}
theorem D8(ρs:List (Nat×Nat))(A:List Nat)(h4:A21 σ (J1 ρs) A O T [] λwr=>B31 (wrm σ.objs wr) (J1 ρs) A O O)(h1:(O.map (·.1)).Nodup:=by simp[go_sem])(h2:(((O.map (·.1)).filter λi=> !A.contains i).map (J1 ρs)).Nodup:=by simp[go_sem])(h3: ∀k∈K,k∉A/\J1 ρs k=k/\(ofL O k).isSome:=by simp[go_sem]):V5 K σ T O:=B9l ρs A h1 h2 h3 h4
def lit:Nat->Option Nat
 |0=>some 0 |1=>some 1 |2=>some 2 |3=>some 3 |4=>some 4 |5=>some 5 |6=>some 6 |7=>some 7 |8=>some 8 |9=>some 9 |10=>some 10 |11=>some 11 |12=>some 12 |13=>some 13 |14=>some 14 |15=>some 15 |16=>some 16 |17=>some 17 |18=>some 18 |19=>some 19 |20=>some 20 |21=>some 21 |22=>some 22 |23=>some 23 |24=>some 24 |25=>some 25 |26=>some 26 |27=>some 27 |28=>some 28 |29=>some 29 |30=>some 30 |31=>some 31 |32=>some 32 |33=>some 33 |34=>some 34 |35=>some 35 |36=>some 36 |37=>some 37 |38=>some 38 |39=>some 39 |40=>some 40 |41=>some 41 |42=>some 42 |43=>some 43 |44=>some 44 |45=>some 45 |46=>some 46 |47=>some 47 |48=>some 48 |49=>some 49 |50=>some 50 |51=>some 51 |52=>some 52 |53=>some 53 |54=>some 54 |55=>some 55 |56=>some 56 |57=>some 57 |58=>some 58 |59=>some 59 |60=>some 60 |61=>some 61 |62=>some 62 |63=>some 63 |64=>some 64 |72=>some 72 |80=>some 80 |88=>some 88 |96=>some 96 |104=>some 104 |112=>some 112 |120=>some 120 |128=>some 128 |136=>some 136 |144=>some 144 |152=>some 152 |160=>some 160 |168=>some 168 |176=>some 176 |184=>some 184 |192=>some 192 |200=>some 200 |208=>some 208 |216=>some 216 |224=>some 224 |232=>some 232 |240=>some 240 |248=>some 248 |256=>some 256 |264=>some 264 |272=>some 272 |280=>some 280 |288=>some 288 |296=>some 296 |304=>some 304 |312=>some 312 |320=>some 320
 |n=>some n
theorem A10 {m:Nat}(h:lit n=some m):n=m:=by unfold lit at h;split at h <;> injection h
def cpy {α:Type}(f:α->Option α):List α->Option (List α)
 | []=>some []
 |x::xs=>match f x,cpy f xs with
  |some y,some ys=>some (y::ys)
  |_,_=>none
theorem A6q {α:Type}{f:α->Option α}(hf: ∀x y,f x=some y->x=y): ∀ {l m:List α},cpy f l=some m->l=m
 | [],m,h=>by simp only[cpy]at h;injection h
 |x::xs,m,h=>by
  simp only[cpy]at h;split at h
  ·rename_i y ys h1 h2;injection h with h;rw[hf _ _ h1,A6q hf h2,h]
  ·cases h
def B8l:Value->Option Value
 | .int k n=>some (.int k n)
 | .bool b=>some (.bool b)
 | .slice none l c=>some (.slice none l c)
 |v=>some v
theorem B2y(v u:Value)(h:B8l v=some u):v=u:=by unfold B8l at h;split at h <;> injection h
def D41(p:Nat×Nat×AX):Option (Nat×Nat×AX):=match p with
 |(a,b,x)=>match lit a,lit b with
  |some a',some b'=>some (a',b',x)
  |_,_=>none
theorem C8f(p q:Nat×Nat×AX)(h:D41 p=some q):p=q:=by
 obtain⟨a,b,x⟩:=p;simp only[D41]at h;split at h
 ·rename_i h1 h2;injection h with h;rw[<-h,A10 h1,A10 h2]
 ·cases h
def nrm:AOp->Option AOp
 | .alloc z=>match cpy B8l z with |some z'=>some (.alloc z') |none=>none
 | .build z ps=>match cpy B8l z,cpy D41 ps with |some z',some ps'=>some (.build z' ps') |_,_=>none
 | .bslice e n z ps=>match lit e,lit n,cpy B8l z,cpy D41 ps with |some e',some n',some z',some ps'=>some (.bslice e' n' z' ps') |_,_,_,_=>none
 | .load (some n) x=>match lit n with |some m=>some (.load (some m) x) |none=>none
 | .store n x y=>match lit n with |some m=>some (.store m x y) |none=>none
 | .faddr n x=>match lit n with |some m=>some (.faddr m x) |none=>none
 | .fld n none x=>match lit n with |some m=>some (.fld m none x) |none=>none
 | .fld n (some k) x=>match lit n,lit k with |some m,some j=>some (.fld m (some j) x) |_,_=>none
 | .iaddr n x i=>match lit n with |some m=>some (.iaddr m x i) |none=>none
 | .aaddr n k x i=>match lit n,lit k with |some m,some j=>some (.aaddr m j x i) |_,_=>none
 | .aslice n k x=>match lit n,lit k with |some m,some j=>some (.aslice m j x) |_,_=>none
 | .aslc n k x l h=>match lit n,lit k with |some m,some j=>some (.aslc m j x l h) |_,_=>none
 | .append n k x y=>match lit n,lit k with |some m,some j=>some (.append m j x y) |_,_=>none
 | .slice n x a b c=>match lit n with |some m=>some (.slice m x a b c) |none=>none
 | .mkslice n k z x y=>match lit n,lit k,cpy B8l z with |some m,some j,some z'=>some (.mkslice m j z' x y) |_,_,_=>none
 | .appz n k z x y=>match lit n,lit k,cpy B8l z with |some m,some j,some z'=>some (.appz m j z' x y) |_,_,_=>none
 | .copy n x y=>match lit n with |some m=>some (.copy m x y) |none=>none
 | .clr n z x=>match lit n,cpy B8l z with |some m,some z'=>some (.clr m z' x) |_,_=>none
 | .aidx n x i=>match lit n with |some m=>some (.aidx m x i) |none=>none
 |a=>some a
theorem F63 {a b:AOp}(h:nrm a=some b):a=b:=by
 unfold nrm at h;split at h
 all_goals first
  |(injection h)
  |(split at h
    ·rename_i e1;injection h with h;subst h;first |rw[A10 e1] |rw[A6q B2y e1]
    ·cases h)
  |(split at h
    ·rename_i e1 e2;injection h with h;subst h;first |rw[A10 e1,A10 e2] |rw[A10 e1,A6q B2y e2] |rw[A6q B2y e1,A6q C8f e2]
    ·cases h)
  |(split at h
    ·rename_i e1 e2 e3;injection h with h;subst h;rw[A10 e1,A10 e2,A6q B2y e3]
    ·cases h)
  |(split at h
    ·rename_i e1 e2 e3 e4;injection h with h;subst h;rw[A10 e1,A10 e2,A6q B2y e3,A6q C8f e4]
    ·cases h)
def E7b(N:Nat)(dst:Option Tmp)(guard:Option (Nat×Bool))(ops:Array Oper)(aop:AOp):Option dC:=
 match E5g N dst with
 |true=>match guard with
  |none=>some ⟨dst,aop,none,[]⟩
  |some (j,want)=>match(ops[j]?).bind (·.dst)with
   |some g=>match lit g with
    |some g'=>some ⟨dst,aop,some (g',want),[]⟩
    |none=>none
   |none=>none
 |false=>none
def zl(z:Value):Option (List Value):=match z with
 | .agg cs=>match cpy B8l cs.toList with
   |some l=>match l.all Value.oneCell' with
    |true=>some l
    |false=>none
   |none=>none
 |v=>match v.oneCell',B8l v with
  |true,some u=>some [u]
  |_,_=>none
theorem A9u {z:Value}{l:List Value}(h:zl z=some l):z.cells.all Value.oneCell'=true/\z.cells.toList=l:=by
 unfold zl at h;split at h
 ·rename_i cs;split at h
  ·rename_i l' e1;split at h
   ·rename_i e2;injection h with h;subst h;have e3:=A6q B2y e1;exact⟨by show cs.all _=true;rw[<-Array.all_toList,e3];exact e2,e3⟩
   ·cases h
  ·cases h
 ·rename_i hv;have hc:z.cells= #[z]:=by cases z <;> first |exact absurd rfl (hv _) |rfl
  split at h
  ·rename_i e1 e2;injection h with h;subst h;have e3:=B2y _ _ e2;subst e3;rw[hc];exact⟨by simp[e1],rfl⟩
  ·cases h
def C07(l:List Value):Nat->List Value
 |0=> []
 |n+1=>l++C07 l n
theorem D1v(l:List Value): ∀n,(C07 l n).length=n*l.length
 |0=>by simp[C07]
 |n+1=>by rw[C07,zd,D1v l n,Nat.succ_mul,xf]
theorem E0o(l:List Value)(d:Value): ∀n k,k<n*l.length->(C07 l n).getD k d=l.getD (k%l.length) d
 |0,k,h=>by simp at h
 |n+1,k,h=>by
  rw[C07];by_cases hk:k<l.length
  ·rw[yp hk];simp only[List.getD];rw[ql hk]
  ·have h2:k-l.length<n*l.length:=by rw[Nat.succ_mul]at h;omega
   have:=E0o l d n (k-l.length) h2;simp only[List.getD]at this⊢;rw[zY o_,this,Nat.mod_eq_sub_mod (a:=k) o_]
variable {len size:Nat}
theorem F41 {z:Value}{l:List Value}(h:z.cells.toList=l)(hs:z.cells.size=size):((Array.range (len*size)).map (z.cells[· %z.cells.size]!)).toList=C07 l len:=by
 have hl:l.length=size:=by rw[<-h,<-hs];simp
 refine List.ext_getElem (by simp[D1v,hl]) λi h1 h2=> ?_;have hi:i<len*l.length:=by rw[D1v]at h2;exact h2
 have e:=E0o l (default:Value) len i hi
 have e1:(C07 l len).getD i default=(C07 l len)[i]:=by simp[List.getD,h2]
 rw[<-e1,e];simp only[Array.getElem_toList,Array.getElem_map,Array.getElem_range,hs,hl];have hm:i%size<z.cells.size:=by rw[hs];exact yF _ (by rw[<-hl];rcases yk l.length with h0 |h0;(rw[h0]at hi;simp at hi);exact h0)
 rw[getElem!_pos z.cells _ hm,<-h];simp[List.getD,hm]
def D03(P:Program)(op:Op):Option AOp:=match cop P op with
 |some aop=>nrm aop
 |none=>some .bad
def B8g:List (Nat×List Bool)->Nat->Option (List Bool)
 | [],_=>none
 |p::l,t=>match Nat.beq p.1 t with
  |true=>some p.2
  |false=>B8g l t
def okE(P:Program)(L:List (Nat×List Bool)):Bool:=L.all λp=>decide (A1x P .eql p.1=some p.2)
theorem B57 {P:Program}: ∀ {L:List (Nat×List Bool)} {t:Nat} {sh:List Bool},okE P L=true->B8g L t=some sh->A1x P .eql t=some sh
 | [],_,_,_,h=>by cases h
 |p::l,t,sh,hk,h=>by
  simp only[okE,List.all_cons,zi,zk]at hk;simp only[B8g]at h;split at h
  ·rename_i e;injection h with h;subst h;rw[<-Nat.eq_of_beq_eq_true e];exact hk.1
  ·exact B57 hk.2 h
def E93(P:Program)(L:List (Nat×List Bool))(op:Op):Option AOp:=match op with
 | .binOp bop t x y u=>match B8g L t with
   |some sh=>match D29 P bop t y,cx x,cx y,D40 P bop t,E1g P bop t with
    |none,some a,some b,none,none=>(match bop with
     | .eql=>some (.eqa sh false a b)
     | .neq=>some (.eqa sh true a b)
     |_=>none)
    |_,_,_,_,_=>none
   |none=>D03 P (.binOp bop t x y u)
 | .alloc t=>match B4u P t with
   |some z=>match zl z with
    |some l=>some (.alloc l)
    |none=>none
   |none=>none
 | .build t E9=>match B4u P t,C3w P t with
   |some z,some place=>match zl z,C84 place E9.toList with
    |some l,some ps=>match cpy D41 ps with
     |some ps'=>some (.build l ps')
     |none=>none
    |_,_=>none
   |_,_=>none
 | .buildSlice t len E9=>match P.underlying t with
   |some (.slice el)=>match B4u P el,Y8 P el with
    |some z,some size=>match zl z,lit size with
     |some l,some size'=>if z.cells.size=size'/\len*size'<=2^24 then(match C84 (λi=>some (i*size',size')) E9.toList with
      |some ps=>match cpy D41 ps,cpy B8l (C07 l len)with
       |some ps',some l'=>some (.bslice size' len l' ps')
       |_,_=>none
      |none=>none)else none
     |_,_=>none
    |_,_=>none
   |_=>none
 | .makeSlice t l c=>match P.underlying t with
   |some (.slice el)=>match P.info? el,cx l,cx c with
    |some i,some a,some b=>match i.zero with
     |some z=>match zl z,lit i.size,lit i.bytes with
      |some zs,some n,some k=>if z.cells.size=n then some (.mkslice n k zs a b)else none
      |_,_,_=>none
     |none=>none
    |_,_,_=>none
   |_=>none
 | .makeMap t none=>match P.underlying t with
   |some (.map kt _)=>match B8g L kt with
    |some sh=>match A2h P kt,lit sh.length,sh.all id with
     |none,some n,true=>some (.mkmapS n)
     |_,_,_=>none
    |none=>D03 P (.makeMap t none)
   |_=>none
 | .mapUpdate t x i y=>match P.underlying t,cx x,cx i,cx y with
   |some (.map kt _),some a,some b,some c=>match B8g L kt with
    |some sh=>match A2h P kt,lit sh.length,sh.all id with
     |none,some n,true=>some (.msetS n a b c)
     |_,_,_=>none
    |none=>D03 P (.mapUpdate t x i y)
   |_,_,_,_=>none
 | .lookup t x i ok=>match P.underlying t,cx x,cx i with
   |some (.map kt el),some a,some b=>match B8g L kt with
    |some sh=>match A2h P kt,B4u P el,lit sh.length,sh.all id with
     |none,some z,some n,true=>match zl z,B5j z with
      |some _,true=>some (.lookupS n z ok a b)
      |_,_=>none
     |_,_,_,_=>none
    |none=>match A2h P kt,B4u P el with
     |some k,some z=>match zl z,B5j z with
      |some _,true=>some (.lookup k z ok a b)
      |_,_=>none
     |_,_=>none
   |_,_,_=>none
 | .call c=>match c.callee,c.args.toList,c.argTypes.toList with
   | .builtin .append,[x,y],[t,u]=>match P.underlying t,cx x,cx y with
     |some (.slice el),some a,some b=>match P.info? el with
      |some i=>match i.zero with
       |some z=>if t=u/\z.cells.size=i.size then(match lit i.size,lit i.bytes with |some n,some k=>some (.append n k a b) |_,_=>none)else
        if(A2h P u).isSome=true/\z.cells.size=i.size/\0<i.size then(match zl z,lit i.size,lit i.bytes with |some zs,some n,some k=>some (.appz n k zs a b) |_,_,_=>none)else none
       |none=>none
      |none=>none
     |_,_,_=>none
   | .builtin .clear,[x],[t]=>match P.underlying t,cx x with
     |some (.slice el),some a=>match P.info? el with
      |some i=>match i.zero with
       |some z=>match zl z,lit i.size with
        |some zs,some n=>if z.cells.size=n then some (.clr n zs a)else none
        |_,_=>none
       |none=>none
      |none=>none
     |_,_=>none
   |_,_,_=>D03 P (.call c)
 |op=>D03 P op
theorem C1z {P:Program}{op:Op}{a:AOp}(h:D03 P op=some a):A8g P op=a:=by
 unfold D03 at h;unfold A8g;split at h
 ·rename_i e1;rw[e1];exact F63 h
 ·rename_i e1;rw[e1];injection h
theorem F3f {P:Program}{L:List (Nat×List Bool)}{op:Op}{a:AOp}(hL:okE P L=true)(h:E93 P L op=some a):A8g P op=a:=by
 unfold E93 at h;split at h
 ·rename_i bop t x y u;split at h
  ·rename_i sh e0;have e9:=B57 hL e0;split at h <;> try cases h
   rename_i a b e1 e2 e3 e4 e5;split at h <;> try cases h
   ·simp only[A8g,cop,e1,e2,e3,e4,e5,e9];rfl
   ·have e8:A1x P .neq t=some sh:=e9
    simp only[A8g,cop,e1,e2,e3,e4,e5,e8];rfl
  ·exact C1z h
 ·rename_i t;split at h <;> try cases h
  rename_i z e1;split at h <;> try cases h
  rename_i l e2;simp only[A8g,cop,e1,(A9u e2).1,(A9u e2).2,zL]
 ·rename_i t E9;split at h <;> try cases h
  rename_i z place e1 e2;split at h <;> try cases h
  rename_i l ps e3 e4;split at h <;> try cases h
  rename_i ps' e5;have e6:=A6q C8f e5;subst e6;simp only[A8g,cop,e1,e2,(A9u e3).1,(A9u e3).2,e4,zL]
 ·rename_i t len E9;split at h <;> try cases h
  rename_i el e1;split at h <;> try cases h
  rename_i z size e2 e3;split at h <;> try cases h
  rename_i l size' e4 e5;have:=A10 e5;subst this;split at h <;> try cases h
  rename_i hc;split at h <;> try cases h
  rename_i ps e6;split at h <;> try cases h
  rename_i ps' l' e7 e9;have e8:=A6q C8f e7;subst e8;rw[<-A6q B2y e9];simp only[A8g,cop,e1,e2,e3];rw[zc ⟨hc.1,(A9u e4).1,hc.2⟩];simp only[e6,F41 (A9u e4).2 hc.1]
 ·rename_i t l c;split at h <;> try cases h
  rename_i el e1;split at h <;> try cases h
  rename_i i a b e2 e3 e4;split at h <;> try cases h
  rename_i z e5;split at h <;> try cases h
  rename_i zs n k e6 e7 e8;split at h <;> try cases h
  rename_i hc;have e9:=A10 e7;have e10:=A10 e8;subst e10;subst e9;simp only[A8g,cop,e1,e2,e3,e4,e5];rw[zc ⟨hc,(A9u e6).1⟩,(A9u e6).2]
 ·rename_i t;split at h <;> try cases h
  rename_i kt el e1;split at h
  ·rename_i sh e0;have e9:=B57 hL e0;split at h <;> try cases h
   rename_i n e4 e5 e6;simp only[A8g,cop,e1,e4,e9];rw[zc e6,A10 e5]
  ·exact C1z h
 ·rename_i t x i y;split at h <;> try cases h
  rename_i kt el a b c e1 e2 e3 e3';split at h
  ·rename_i sh e0;have e9:=B57 hL e0;split at h <;> try cases h
   rename_i n e4 e5 e6;simp only[A8g,cop,e1,e2,e3,e3',e4,e9];rw[zc e6,A10 e5]
  ·exact C1z h
 ·rename_i t x i ok;split at h <;> try cases h
  rename_i kt el a b e1 e2 e3;split at h
  ·rename_i sh e0;have e9:=B57 hL e0;split at h <;> try cases h
   rename_i z n e4 e5 e6 e7;split at h <;> try cases h
   rename_i e8 e10;simp only[A8g,cop,e1,e2,e3,e4,e5,e9];rw[zc ⟨e7,(A9u e8).1,e10⟩,A10 e6]
  ·split at h <;> try cases h
   rename_i k z e4 e5;split at h <;> try cases h
   rename_i e6 e7;simp only[A8g,cop,e1,e2,e3,e4,e5];rw[zc ⟨(A9u e6).1,e7⟩]
 ·rename_i c;split at h
  ·rename_i x y t u e1 e2 e3;split at h <;> try cases h
   rename_i el a b e4 e5 e6;split at h <;> try cases h
   rename_i i e7;split at h <;> try cases h
   rename_i z e8;simp only[A8g,cop,e1,e2,e3,e4,e5,e6,e7,e8];split at h
   ·rename_i hc;split at h <;> try cases h
    rename_i n k e9 e10;rw[zc hc,A10 e9,A10 e10]
   ·rename_i hc;rw[zb hc];split at h <;> try cases h
    rename_i hd;split at h <;> try cases h
    rename_i zs n k e9 e10 e11;rw[zc ⟨hd.1,hd.2.1,(A9u e9).1,hd.2.2⟩,(A9u e9).2,A10 e10,A10 e11]
  ·rename_i x t e1 e2 e3;split at h <;> try cases h
   rename_i el a e4 e5;split at h <;> try cases h
   rename_i i e7;split at h <;> try cases h
   rename_i z e8;split at h <;> try cases h
   rename_i zs n e9 e10;split at h <;> try cases h
   rename_i hc;have e11:=A10 e10;subst e11;simp only[A8g,cop,e1,e2,e3,e4,e5,e7,e8];rw[zc ⟨hc,(A9u e9).1⟩,(A9u e9).2]
  ·exact C1z h
 ·exact C1z h
def D9d(P:Program)(L:List (Nat×List Bool))(N:Nat)(ops:Array Oper)(o:Oper):Option dC:=
 match o with
 |⟨dst,op,_,_,_,guard⟩=>match E93 P L op with
  |some aop=>E7b N dst guard ops aop
  |none=>none
variable {N:Nat}
theorem E7c {P:Program}{L:List (Nat×List Bool)}{ops:Array Oper}{o:Oper}{a:dC}(hL:okE P L=true)(h:D9d P L N ops o=some a):B17 P N ops o=some a:=by
 obtain⟨dst,op,type,pos,after,guard⟩:=o;simp only[D9d]at h;split at h
 ·rename_i aop e1;simp only[B17,F3f hL e1];unfold E7b at h;split at h
  ·rename_i e2;simp only[e2,zL];split at h
   ·exact h
   ·split at h
    ·rename_i e3;split at h
     ·rename_i e4;rw[A10 e4]at e3;simp only[e3];exact h
     ·cases h
    ·cases h
  ·cases h
 ·cases h
def B0p(P:Program)(L:List (Nat×List Bool))(N:Nat)(ops:Array Oper):List Oper->Option (List dC)
 | []=>some []
 |o::os=>match D9d P L N ops o,B0p P L N ops os with
  |some a,some as=>some (a::as)
  |_,_=>none
theorem A8h {P:Program}{L:List (Nat×List Bool)}{N:Nat}{ops:Array Oper}(hL:okE P L=true): ∀ {l as},B0p P L N ops l=some as->S5 P N ops l=some as
 | [],_,h=>h
 |o::os,_,h=>by
  simp only[B0p]at h;split at h
  ·rename_i e1 e2;simp only[S5,E7c hL e1,A8h hL e2];exact h
  ·cases h
def E94(o:dC):Option dC:=match o with
 |⟨some d,op,some (g,w),chk⟩=>match cpy lit chk with
  |some c=>some ⟨some d,op,some (g,w),c⟩
  |none=>none
 |⟨some d,op,none,chk⟩=>match cpy lit chk with
  |some c=>some ⟨some d,op,none,c⟩
  |none=>none
 |⟨none,op,g,chk⟩=>match cpy lit chk with
  |some c=>some ⟨none,op,g,c⟩
  |none=>none
theorem F3g(o q:dC)(h:E94 o=some q):o=q:=by unfold E94 at h;split at h <;> split at h <;> first |(rename_i e;injection h with h;rw[<-h,A6q (λ_ _=>A10) e]) |cases h
def C28(P:Program)(L:List (Nat×List Bool))(N:Nat)(ops:Array Oper)(draw:Bool):Option (List dC):=
 match B0p P L N ops ops.toList with
 |some as=>match draw with
  |true=>match C12 ops.toList 0 with
   |true=>match B46 [] as (C3s ops.toList [])with
    |some bs=>cpy E94 bs
    |none=>none
   |false=>none
  |false=>some as
 |none=>none
variable {as:List dC}
theorem E1x {P:Program}{L:List (Nat×List Bool)}{ops:Array Oper}{draw:Bool}(hL:okE P L=true)(h:C28 P L N ops draw=some as):A87 P N ops draw=some as:=by
 unfold C28 at h;split at h
 ·rename_i e1;simp only[A87,A8h hL e1];split at h
  ·split at h
   ·rename_i e2;split at h
    ·rename_i e3;rw[zc rfl,zc e2,e3,A6q F3g h]
    ·cases h
   ·cases h
  ·rw[zb (by decide)];exact h
 ·cases h
def N8(P:Program)(L:List (Nat×List Bool))(N:Nat):Code->Option ACode
 | .skip=>some .skip
 | .region _ ops draw=>match draw with
   |true=>match C28 P L N ops true with
    |some as=>some (.region true as)
    |none=>none
   |false=>match C28 P L N ops false with
    |some as=>some (.region false as)
    |none=>none
 | .seq a b=>match N8 P L N a,N8 P L N b with
   |some x,some y=>some (.seq x y)
   |_,_=>none
 | .cond c a b=>match cx c,N8 P L N a,N8 P L N b with
   |some k,some x,some y=>some (.cond k x y)
   |_,_,_=>none
 | .block id a=>match N8 P L N a with
   |some x=>some (.block id x)
   |none=>none
 | .loop a=>match N8 P L N a with
   |some x=>some (.loop x)
   |none=>none
 | .scope a=>match N8 P L N a with
   |some x=>some (.scope x)
   |none=>none
 | .exit id=>some (.exit id)
 | .label _=>some .skip
 | .ret=>some .ret
 |_=>none
theorem C9w {P:Program}{L:List (Nat×List Bool)}(hL:okE P L=true): ∀ {c ac},N8 P L N c=some ac->F2 P N c=some ac:=by
 intro c;induction c with
 |region i ops draw=>intro ac h;cases draw <;> simp only[N8]at h <;> split at h <;> first |(rename_i e;simp only[F2,E1x hL e];exact h) |cases h
 |seq a b ha hb=>
  intro ac h;simp only[N8]at h;split at h
  ·rename_i e1 e2;simp only[F2,ha e1,hb e2];exact h
  ·cases h
 |cond c a b ha hb=>
  intro ac h;simp only[N8]at h;split at h
  ·rename_i e0 e1 e2;simp only[F2,e0,ha e1,hb e2];exact h
  ·cases h
 |block i a ha=>
  intro ac h;simp only[N8]at h;split at h
  ·rename_i e1;simp only[F2,ha e1];exact h
  ·cases h
 |scope a ha=>
  intro ac h;simp only[N8]at h;split at h
  ·rename_i e1;simp only[F2,ha e1];exact h
  ·cases h
 |loop a ha=>
  intro ac h;simp only[N8]at h;split at h
  ·rename_i e1;simp only[F2,ha e1];exact h
  ·cases h
 |_=>exact λ{ac} h=>h
theorem D7h {P:Program}: ∀ {c ac},F2 P N c=some ac->ac.strip=ac:=by
 intro c;induction c with
 |region i ops draw=>
  intro ac h;simp only[F2]at h;split at h
  ·injection h with h;subst h;rfl
  ·cases h
 |seq a b ha hb=>
  intro ac h;simp only[F2]at h;split at h
  ·rename_i e1 e2;injection h with h;subst h;simp only[ACode.strip,ha e1,hb e2]
  ·cases h
 |cond c a b ha hb=>
  intro ac h;simp only[F2]at h;split at h
  ·rename_i e0 e1 e2;injection h with h;subst h;simp only[ACode.strip,ha e1,hb e2]
  ·cases h
 |block i a ha=>
  intro ac h;simp only[F2]at h;split at h
  ·rename_i e1;injection h with h;subst h;simp only[ACode.strip,ha e1]
  ·cases h
 |scope a ha=>
  intro ac h;simp only[F2]at h;split at h
  ·rename_i e1;injection h with h;subst h;simp only[ACode.strip,ha e1]
  ·cases h
 |loop a ha=>
  intro ac h;simp only[F2]at h;split at h
  ·rename_i e1;injection h with h;subst h;simp only[ACode.strip,ha e1]
  ·cases h
 |skip |exit |label |ret=>intro ac h;simp only[F2]at h;injection h with h;subst h;rfl
 |_=>intro ac h;cases h
theorem cs2 {P:Program}{L:List (Nat×List Bool)}{c:Code}{ac:ACode}(hL:okE P L=true)(h:N8 P L N c=some ac):F2 P N c=some ac.strip:=by rw[D7h (C9w hL h)];exact C9w hL h
section
variable {P:Program} {L:List (Nat×List Bool)} {f:FuncId} {fn:Func} {ac:ACode} {args:List AV} {ts:List Nat} {rs:List AV} {r:AV} {O O':List (Nat×A7)} {rvs:List (Nat×Option (Option Nat))}
theorem en1(hm:P.follows .mixedOrders=true)(hL:okE P L=true)(hf:P.funcs[f]? =some fn)(hc:N8 P L fn.ntmps (fn.body.getD .skip)=some ac)(hts:A41 fn.results.toList=some ts)
  (h: @Wi P fn.ntmps [] ac (D5n ts [r]) (A02 args []))(hb:fn.body=some (fn.body.getD .skip):=by kernel_rfl)(hname:(fn.name != "runtime.NumGoroutine")=true:=by kernel_rfl)(hnd:ts.Nodup:=by decide)(hl:(args.length.ble fn.ntmps)=true:=by kernel_rfl):
  D5 P f args [] r []:=C52 hm hf hb hname (cs2 hL hc) hts hnd hl h
theorem enT(hm:P.follows .mixedOrders=true)(hL:okE P L=true)(hf:P.funcs[f]? =some fn)(hc:N8 P L fn.ntmps (fn.body.getD .skip)=some ac)(hts:A41 fn.results.toList=some ts)
  (h: @Wi P fn.ntmps [] ac (D5n ts rs) (A02 args []))(hp:A5x rs= .tup rs:=by rfl)(hb:fn.body=some (fn.body.getD .skip):=by kernel_rfl)(hname:(fn.name != "runtime.NumGoroutine")=true:=by kernel_rfl)(hnd:ts.Nodup:=by decide)(hl:(args.length.ble fn.ntmps)=true:=by kernel_rfl):
  D5 P f args [] (.tup rs) []:=hp▸C52 hm hf hb hname (cs2 hL hc) hts hnd hl h
theorem I6(hm:P.follows .mixedOrders=true)(hL:okE P L=true)(hf:P.funcs[f]? =some fn)(hc:N8 P L fn.ntmps (fn.body.getD .skip)=some ac)(hts:A41 fn.results.toList=some ts)
  (h: @Wi P fn.ntmps (O.map (·.1)) ac (C3z (O.map (·.1)) ts [r] O') (A02 args O))(hb:fn.body=some (fn.body.getD .skip):=by kernel_rfl)(hname:(fn.name != "runtime.NumGoroutine")=true:=by kernel_rfl)(hnd:ts.Nodup:=by decide)(hl:(args.length.ble fn.ntmps)=true:=by kernel_rfl):
  D5 P f args O r O':=B7r hm hf hb hname (cs2 hL hc) hts hnd hl h
theorem A3a(hm:P.follows .mixedOrders=true)(hL:okE P L=true)(hf:P.funcs[f]? =some fn)(hc:N8 P L fn.ntmps (fn.body.getD .skip)=some ac)(hts:A41 fn.results.toList=some ts)
  (h: @Wi P fn.ntmps (O.map (·.1)) ac (C3z (O.map (·.1)) ts rs O') (A02 args O))(hp:A5x rs= .tup rs:=by rfl)(hb:fn.body=some (fn.body.getD .skip):=by kernel_rfl)(hname:(fn.name != "runtime.NumGoroutine")=true:=by kernel_rfl)(hnd:ts.Nodup:=by decide)(hl:(args.length.ble fn.ntmps)=true:=by kernel_rfl):
  D5 P f args O (.tup rs) O':=hp▸B7r hm hf hb hname (cs2 hL hc) hts hnd hl h
theorem M3(N:Nat)(rvs:List (Nat×Option (Option Nat)))(hm:P.follows .mixedOrders=true)(hL:okE P L=true)(hf:P.funcs[f]? =some fn)(hc:N8 P L fn.ntmps (fn.body.getD .skip)=some ac)
  (h: @Wi P N [] ac (C0i N rvs [r]) (A02 args []))(hN:fn.ntmps=N:=by kernel_rfl)(hts:A6e P fn.results.toList=some rvs:=by kernel_rfl)(hb:fn.body=some (fn.body.getD .skip):=by kernel_rfl)(hname:(fn.name != "runtime.NumGoroutine")=true:=by kernel_rfl)(hlt:(rvs.all λp=>p.1.blt N)=true:=by decide)(hl:(args.length.ble N)=true:=by kernel_rfl):
  D5 P f args [] r []:=B5t hm hf hb hname (cs2 hL hc) hN hts hlt hl h
theorem S3(N:Nat)(rvs:List (Nat×Option (Option Nat)))(hm:P.follows .mixedOrders=true)(hL:okE P L=true)(hf:P.funcs[f]? =some fn)(hc:N8 P L fn.ntmps (fn.body.getD .skip)=some ac)
  (h: @Wi P N [] ac (C0i N rvs rs) (A02 args []))(hp:A5x rs= .tup rs:=by rfl)(hN:fn.ntmps=N:=by kernel_rfl)(hts:A6e P fn.results.toList=some rvs:=by kernel_rfl)(hb:fn.body=some (fn.body.getD .skip):=by kernel_rfl)(hname:(fn.name != "runtime.NumGoroutine")=true:=by kernel_rfl)(hlt:(rvs.all λp=>p.1.blt N)=true:=by decide)(hl:(args.length.ble N)=true:=by kernel_rfl):
  D5 P f args [] (.tup rs) []:=hp▸B5t hm hf hb hname (cs2 hL hc) hN hts hlt hl h
theorem C29(N:Nat)(rvs:List (Nat×Option (Option Nat)))(hm:P.follows .mixedOrders=true)(hL:okE P L=true)(hf:P.funcs[f]? =some fn)(hc:N8 P L fn.ntmps (fn.body.getD .skip)=some ac)
  (h: @Wi P N (O.map (·.1)) ac (B33 N (O.map (·.1)) rvs [r] O') (A02 args O))(hN:fn.ntmps=N:=by kernel_rfl)(hts:A6e P fn.results.toList=some rvs:=by kernel_rfl)(hb:fn.body=some (fn.body.getD .skip):=by kernel_rfl)(hname:(fn.name != "runtime.NumGoroutine")=true:=by kernel_rfl)(hlt:(rvs.all λp=>p.1.blt N)=true:=by decide)(hl:(args.length.ble N)=true:=by kernel_rfl):
  D5 P f args O r O':=B8i hm hf hb hname (cs2 hL hc) hN hts hlt hl h
theorem C8j(N:Nat)(rvs:List (Nat×Option (Option Nat)))(hm:P.follows .mixedOrders=true)(hL:okE P L=true)(hf:P.funcs[f]? =some fn)(hc:N8 P L fn.ntmps (fn.body.getD .skip)=some ac)
  (h: @Wi P N (O.map (·.1)) ac (B33 N (O.map (·.1)) rvs rs O') (A02 args O))(hp:A5x rs= .tup rs:=by rfl)(hN:fn.ntmps=N:=by kernel_rfl)(hts:A6e P fn.results.toList=some rvs:=by kernel_rfl)(hb:fn.body=some (fn.body.getD .skip):=by kernel_rfl)(hname:(fn.name != "runtime.NumGoroutine")=true:=by kernel_rfl)(hlt:(rvs.all λp=>p.1.blt N)=true:=by decide)(hl:(args.length.ble N)=true:=by kernel_rfl):
  D5 P f args O (.tup rs) O':=hp▸B8i hm hf hb hname (cs2 hL hc) hN hts hlt hl h
end
section
open Api
@[go_sem] theorem G0d(x:cI):cI.mk x.X x.Y=x:=rfl
@[go_sem] theorem F6k(x:cM):cM.mk x.dZ x.eD x.eG x.eA=x:=rfl
@[go_sem] theorem F5n(x:cJ):cJ.mk x.dY x.eT=x:=rfl
@[go_sem] theorem F85(x:Shape):Shape.mk x.cS x.eW x.cK=x:=rfl
@[go_sem] theorem F75(x:cY):cY.mk x.Shape x.fS x.eK x.fC x.fM x.fR x.fX x.fW=x:=rfl
@[go_sem] theorem F9i(x:cE):cE.mk x.ID x.cS x.cJ x.dO x.dA x.fF x.fG x.eC x.dX x.eF x.fH x.eE x.fD x.eX x.eM x.cH=x:=rfl
@[go_sem] theorem F9k(x:Four):Four.mk x.I0 x.I1 x.I2 x.I3=x:=rfl
@[go_sem] theorem F84(x:cF):cF.mk x.ID x.cS x.cU x.cV x.dP x.dL x.eN x.cW x.dD x.dQ x.dS x.dF x.dN x.dR x.dB x.dH x.cZ x.cP=x:=rfl
@[go_sem] theorem F76(x:cR):cR.mk x.cU x.dM x.cV x.dJ=x:=rfl
@[go_sem] theorem F0d(x:cN):cN.mk x.eU x.eZ x.ID x.eL x.eS=x:=rfl
@[go_sem] theorem F6h(x:cL):cL.mk x.dG x.cQ=x:=rfl
@[go_sem] theorem F74(x:cX):cX.mk x.dU x.cL=x:=rfl
@[go_sem] theorem F86(x:Api.World):Api.World.mk x.cM x.cC x.cD x.cB x.cT x.dK x.eJ=x:=rfl
@[go_sem] theorem F8h(x:B3):B3.mk x.cC x.cB x.cD=x:=rfl
end
variable {f:FuncId} {O:List (Nat×A7)} {P:Program} {O':List (Nat×A7)}
theorem cx_ {a a':List AV}{r:AV}(h:D5 P f a O r O')(e:a=a':=by(try simp only[go_sem]);first |done |rfl):D5 P f a' O r O':=e▸h
theorem it_ {c:Prop} [Decidable c]{p q:Prop}(h1:c->p)(h2: ¬c->q):if c then p else q:=by split <;> simp_all
theorem lf_(h:p:=by first
 |with_reducible rfl
 |(simp only[*,zL,zJ,qj,zf,zG,zN,zK,reduceCtorEq,G9,L2,P9,Q0,zO,zH,zX,zI,z8,zV,zZ,zS,zR,zD,z6,zP];done)
 |(simp only[*,reduceCtorEq,G9,L2,P9,Q0,zI,zV,zS,z6,zP,go_sem];first |done |with_reducible rfl |((with_reducible and_intros) <;> first |with_reducible rfl |trivial |omega |exact D0 _ |exact G5 rfl |exact A8n))
 |exact A8n):p:=h
variable {b:Bool} {m:Nat->Option A7} {avs:List AV}
theorem gd_ {Q:ContR}(h: @A25 P m f avs b Q): @A25 P m f avs b Q:=h
theorem E7(h:p:=by
 simp only[go_sem,C7,D6,C0,D1]
 repeat' (first
  |(with_reducible refine And.intro ?_ ?_;focus exact ob_)
  |with_reducible refine it_ (λ_=> ?_) (λ_=> ?_)
  |(with_reducible refine gd_ ?_;with_reducible refine A0 (by apply_assumption <;> first |exact ob_ |(apply_assumption <;> first |assumption |exact ob_)) rfl ?_;simp only[go_sem,C7,D6,C0,D1])
  |exact lf_)):p:=h
def stE {S R:Type}(f:Nat->S->S ⊕ R)(i:Nat)(s0:S):S:=match I8 f i s0 with
 | .inl s=>s
 | .inr _=>s0
def glS {S R:Type}(r:S ⊕ R)(s0:S):S:=match r with
 | .inl s=>s
 | .inr _=>s0
theorem A6i(s s0:S):glS (.inl s:S ⊕ R) s0=s:=rfl
theorem A2p(f:Nat->S->S ⊕ R)(s0:S):stE f 0 s0=s0:=rfl
variable {s0:S}
theorem C3o {f:Nat->S->S ⊕ R}(h:I8 f i s0= .inl (stE f i s0)):I8 f (i+1) s0=f i (stE f i s0):=by simp only[I8,h]
theorem A3r {f:Nat->S->S ⊕ R}(h:I8 f i s0= .inl (stE f i s0)):stE f (i+1) s0=glS (f i (stE f i s0)) s0:=by rw[<-C3o h];rfl
theorem D94 {f:Nat->S->S ⊕ R}{r:R}(h:I8 f i s0= .inl (stE f i s0))(hi:i<n)(hf:f i (stE f i s0)= .inr r):I8 f n s0= .inr r:=A4w (k:=i+1) (by rw[C3o h,hf]) hi
abbrev IE {S R:Type}(f:Nat->S->S ⊕ R)(s0:S)(i:Nat):Prop:=I8 f i s0= .inl (stE f i s0)
theorem F2k {f:Nat->S->S ⊕ R}(h:I8 f i s0= .inl (stE f i s0)){s:S}(hf:f i (stE f i s0)= .inl s):IE f s0 (i+1):=by unfold IE stE;rw[C3o h,hf]
@[reducible] def D77(K:List Nat)(I:Nat->Prop)(T:Nat->Slots)(O:Nat->List (Nat×A7))(i:Nat)(Q:Cont):Cont:=⟨Out.then (λτ=>I (i+1)/\V5 K τ (T (i+1)) (O (i+1))) Q.q⟩
@[reducible] def D78(Q:Cont):Cont:=⟨Out.then (λ_=>False) Q.q⟩
section
variable {P:Program} {N:Nat} {K:List Nat}
variable {Q:Cont}
theorem D2j {I:Nat->Prop}{T:Nat->Slots}{O:Nat->List (Nat×A7)}: @Qi (D77 K I T O i Q) .normal σ=(I (i+1)/\V5 K σ (T (i+1)) (O (i+1))):=rfl
variable {j:Nat}
theorem D7c {I:Nat->Prop}{T:Nat->Slots}{O:Nat->List (Nat×A7)}: @Qi (D77 K I T O i Q) (.exit j) σ= @Qi Q (.exit j) σ:=rfl
theorem D8l {I:Nat->Prop}{T:Nat->Slots}{O:Nat->List (Nat×A7)}: @Qi (D77 K I T O i Q) .ret σ= @Qi Q .ret σ:=rfl
theorem D2k: @Qi (D78 Q) .normal σ=False:=rfl
theorem D7d: @Qi (D78 Q) (.exit j) σ= @Qi Q (.exit j) σ:=rfl
theorem D8m: @Qi (D78 Q) .ret σ= @Qi Q .ret σ:=rfl
def HB(p:Prop):Prop:=p
theorem hb_(h:p):HB p:=h
theorem lp_ {x:ACode}{Q:Cont}{σ:St}(hm:P.follows .mixedOrders=true)(I X:Nat->Prop)(n:Nat)(T:Nat->Slots)(O:Nat->List (Nat×A7))(A:List Nat)(hI:I 0)(hX: ∀i,I i->X i)
  (h1:((O 0).map (·.1)).Nodup)(h2:((((O 0).map (·.1)).filter λi=> !A.contains i).map (J1 [])).Nodup)(h3: ∀k∈K,k∉A/\J1 [] k=k/\(ofL (O 0) k).isSome)
  (h0:HB (A21 σ (J1 []) A (O 0) (T 0) [] λwr=>B31 (wrm σ.objs wr) (J1 []) A (O 0) (O 0)))
  (hb:HB (∀i,i<n->I i->X i-> @Wi P N K x (D77 K I T O i Q) (A19 (T i) (O i))))
  (he:HB (I n->X n-> @Wi P N K x (D78 Q) (A19 (T n) (O n)))): @Wpi P N K (.loop x) Q σ:=by
 refine Wp.loop (ι:= {i:Nat // i<=n/\I i}) (λi=>T i.1) (λi=>O i.1) (λi=>n-i.1) ⟨0,zm _,hI⟩ (B9l [] A h1 h2 h3 h0) ?_;rintro⟨i,hi,hI⟩;rcases qq i n with hlt |hge
 ·refine(Wp.of_W hm x (hb i hlt hI (hX i hI))).mono λo τ hq=> ?_;cases o with
  |normal=>exact⟨⟨i+1,hlt,hq.1⟩,by show n-(i+1)<n-i;omega,hq.2⟩
  |exit j=>exact hq
  |ret=>exact hq
 ·obtain rfl:i=n:=o_
  refine(Wp.of_W hm x (he hI (hX _ hI))).mono λo τ hq=> ?_;cases o with
  |normal=>exact hq.elim
  |exit j=>exact hq
  |ret=>exact hq
end
attribute [go_sem] D2j D7c D8l D2k D7d D8m
variable {Q:Cont}
theorem gw_ {P:Program}{N:Nat}{K:List Nat}{x:ACode}(h: @Wpi P N K x Q σ): @Wpi P N K x Q σ:=h
theorem gk_ {K:List Nat}(h:V5 K σ T O):V5 K σ T O:=h
theorem gi_ {f:Nat->S->S ⊕ R}(h:IE f s0 i):IE f s0 i:=h
theorem ie_(h:p:=by(with_reducible refine gi_ ?_;exact F2k (by assumption) (by simp only[*,zL,zJ,qj,zf,zG,zN,zK,reduceCtorEq,G9,L2,P9,Q0,zO,zH,zX,zI,z8,zV,zZ,zS,zR,zD,z6,zP];first |done |rfl))):p:=h
theorem F9z(h:p:=by first
 |with_reducible rfl
 |trivial
 |omega
 |(simp only[*,zL,zJ,qj,zf,zG,zN,zK,reduceCtorEq,G9,L2,P9,Q0,zO,zH,zX,zI,z8,zV,zZ,zS,zR,zD,z6,zP,H7,G9,L2,A2p,A3r,A6i];done)
 |(simp only[*,reduceCtorEq,G9,L2,P9,Q0,zI,zV,zS,z6,zP,H7,G9,L2,A2p,A3r,A6i,go_sem];first |done |with_reducible rfl |((with_reducible and_intros) <;> first |with_reducible rfl |trivial |omega |(rw[IntKind.wrap_i64];omega) |exact D0 _ |exact G5 rfl |exact A32 rfl |exact A0q _ rfl rfl |exact A8n))
 |(have hE:=D94 (by assumption) (by assumption) (by simp only[*,zL,zJ,qj,zf,zG,zN,zK,reduceCtorEq,G9,L2,P9,Q0,zO,zH,zX,zI,z8,zV,zZ,zS,zR,zD,z6,zP];first |done |rfl);simp only[hE, *,zL,zJ,qj,zf,zG,zN,zK,reduceCtorEq,G9,L2,P9,Q0,zO,zH,zX,zI,z8,zV,zZ,zS,zR,zD,z6,zP,H7,G9,L2,A2p,A3r,A6i];first |done |with_reducible rfl |exact A8n)
 |exact A8n):p:=h
theorem A85(h:p:=by
 simp only[go_sem,C7,D6,C0,D1]
 repeat' (first
  |(with_reducible refine And.intro ?_ ?_;focus (first |exact ob_ |exact ie_))
  |with_reducible refine it_ (λ_=> ?_) (λ_=> ?_)
  |(with_reducible refine gd_ ?_;with_reducible refine A0 (by apply_assumption <;> first |exact ob_ |(apply_assumption <;> first |assumption |exact ob_)) rfl ?_;simp only[go_sem,C7,D6,C0,D1])
  |(with_reducible refine gw_ ?_;apply_assumption)
  |(with_reducible refine hb_ ?_;intros;simp only[go_sem,C7,D6,C0,D1,G9,A2p])
  |(with_reducible refine gk_ ?_;refine D8 [] [] ?_;simp only[go_sem,C7,D6,C0,D1])
  |exact F9z)):p:=h
end Go.Abs
end
