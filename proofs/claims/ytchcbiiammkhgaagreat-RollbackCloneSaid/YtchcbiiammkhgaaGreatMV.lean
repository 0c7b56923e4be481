/- A part of the proof: contracts of functions that the statement reaches. -/
import Derived.Test.YtchcbiiammkhgaaGreatMU
set_option linter.unusedSimpArgs false
set_option linter.unusedVariables false
set_option linter.unnecessarySimpa false
set_option maxRecDepth 100000
set_option maxHeartbeats 2000000
noncomputable section
namespace Go.Abs
open Go.Proofs
open Api
theorem D5.own0 {P:Program}{f:FuncId}{z:Nat}{g g':Nat->List AV}{r:AV}(h:D5 P f [.dsl z 0 g] [] r []):D5 P f [.sl 1 0 0 0] [(1, .arr z ⟨0,g'⟩)] r [(1, .arr z ⟨0,g'⟩)]:=by
 refine⟨h.1,λG w ob vals hs hr=> ?_⟩;have hd:=O9.mk (P:=P) (m:=ofL [(1,A7.arr z ⟨0,g'⟩)]) (avs:= [.dsl z 0 g]) [true] [.dsl z 0 g] [] r [] id [] false h ⟨rfl,by simp[AV.ids],rfl⟩ (λi o hi=>by cases hi) (λi cs hi=>by cases hi) (λi hi=>hi) (λi hi=> .inl hi) p_ (λe=>by cases e)
 have hr':A59 G w ob [.dsl z 0 g] vals:=by
  refine⟨hr.1,λj av hj=> ?_⟩;have h0:=hr.2 0 _ rfl;cases j with
  |zero=>
   simp only[List.getElem?_cons_zero,za]at hj;subst hj;generalize vals.getD 0 undef=v at h0⊢;cases h0 with
   |sl i hi hle hss hv=>
    have ho:=hs.own 1 _ i rfl hi;obtain⟨_,h2,h3⟩:=hv ho.2.2.1;cases hb:i.blk with
    |none=>
     rcases h2 hb with rfl |⟨a,rfl⟩
     ·exact .dslNil
     ·exact .dslE a 0
    |some b=>obtain⟨o,c,rfl,_⟩:=h3 b hb;exact .dslE _ c
  |succ j=>simp at hj
 refine(C9t hd hs hr').mono ?_;rintro e w' ⟨v,G',ob',rfl,h1,h2,h3,h4⟩;refine⟨v,G',ob',rfl,by simpa[wrm,A3v]using h1,?_,h4,h3⟩;have:=h2 _ rfl;rwa[AV.ren_id]at this
theorem C9a(l:List Api.Input)(hl:A1z l):cA_ 66 [A4 49 Api.Input.enc dF_ l] [] (.sl 1 0 l.length l.length) [(1, .arr 49 (B0 Api.Input.enc dF_ l))]:=by
 have hln:=hl.1;refine A8m hm A6 Tryz.func66 rfl rfl ?_;refine B2 [(0, .cA,A4 49 Api.Input.enc dF_ l)] [] (B9 hm ?_) ?_
 ·refine st_ ?_;exact A9 [] [] se_
 refine B2 [(0, .cA,A4 49 Api.Input.enc dF_ l),(3, .fA, .sl 1 0 (l.take (0)).length (l.take (0)).length)] [(1, .arr 49 (B0 Api.Input.enc dF_ (l.take (0))))] (B9 hm ?_) ?_
 ·refine st_ ?_;exact A9 [] [1] se_
 refine B2 [(0, .cA,A4 49 Api.Input.enc dF_ l),(3, .cA, .sl 1 0 (l.take (l.length)).length (l.take (l.length)).length)] [(1, .arr 49 (B0 Api.Input.enc dF_ (l.take (l.length))))] (B2 [(0, .cA,A4 49 Api.Input.enc dF_ l),(3, .cA, .sl 1 0 (l.take (0)).length (l.take (0)).length),(6, .cA,A4 49 Api.Input.enc dF_ l),(7, .cA,sI l.length),(8, .cA,sI (0:Nat))] [(1, .arr 49 (B0 Api.Input.enc dF_ (l.take (0))))] (B9 hm ?_) (V0 ?_)) ?_
 ·refine st_ ?_;exact A9 [] [] se_
 ·refine B1 hm (ι:= {k:Nat // k<=l.length}) (λk=> [(0, .cA,A4 49 Api.Input.enc dF_ l),(3, .cA, .sl 1 0 (l.take (k.1)).length (l.take (k.1)).length),(6, .cA,A4 49 Api.Input.enc dF_ l),(7, .cA,sI l.length),(8, .cA,sI (k.1:Nat))]) (λk=> [(1, .arr 49 (B0 Api.Input.enc dF_ (l.take (k.1))))]) (λk=>l.length-k.1) ⟨0,zm _⟩ ?_ ?_
  ·exact A9 [] [] se_
  ·rintro⟨k,hk⟩;dsimp only;have hln2:(l.take k).length=k:=by rw[zt];omega
   by_cases hlt:k<l.length;rotate_left
   ·obtain rfl:k=l.length:=o_
    refine st_ ?_;rw[zb o_];exact A9 [] [] se_
   have hx:=hl.2 _ (B6 (l:=l) (i:=k) dF_ hlt)
   have hn:l.take (k+1)=l.take k++ [l.getD k dF_]:=K9 dF_ hlt;refine st_ ?_;rw[zc o_];generalize l.getD k dF_=x at hn hx⊢;refine⟨bE_,?_⟩;refine A0 (B69 x hx) rfl (st_ ?_);have hby:(Tryz.prog.types[60]).bytes=384:=by kernel_rfl
   refine⟨⟨by first |omega |(simp only[hby];omega),by simp only[maxLen];omega⟩,?_⟩;refine A8 ⟨k+1,o_⟩ (by show l.length-(k+1)<l.length-k;omega) ?_;simp only[hn];generalize l.take k=m at hln2⊢;refine A9 [] [] (st_ ?_)
   (with_reducible and_intros) <;> first |exact A0q x rfl rfl |(rw[zd];rfl) |exact eE_
 rw[zn];refine B9 hm (st_ ?_);exact B8 [.cA] [] [] se_
theorem E2c(l:List Api.World)(k:Nat)(hk:k<=l.length)(hp:0<l.length)(hl:l.length<=1048576):cA_ 72 [.sl 1 0 k l.length] [(1, .arr 11 (B0 World.enc dF_ l))] (.sl 2 0 k k) [(1, .arr 11 (B0 World.enc dF_ l)),(2, .arr 11 (B0 World.enc dF_ (l.take k)))]:=by
 have hq: ∀i,i<k->I9 World.enc dF_ (l.take k) i=I9 World.enc dF_ l i:=λi hi=>by simp only[I9,List.getD,qX,zc hi]
 have hlk:(l.take k).length=k:=by rw[zt];omega
 refine I6 hm A6 Tryz.func72 rfl rfl (st_ ?_);refine⟨hp,?_⟩;refine⟨bE_,?_⟩;refine B8 [.cA] [(2,96)] [] ?_;simp only[go_sem,go_sem_proc,hlk]
 (with_reducible and_intros) <;> first |exact⟨rfl,hlk.symm,λi hi=>by show Z0 (I9 World.enc dF_ l i) (I9 World.enc dF_ (l.take k) i);rw[hq i hi];exact I5 _⟩ |(rw[U6];exact⟨rfl,o_,λi hi=>by rw[hq i hi];exact I5 _⟩) |exact eE_
theorem E0t(l:List (List Api.Input))(k:Nat)(hk:k<=l.length)(hp:0<l.length)(hl:l.length<=1048576):cA_ 73 [.sl 1 0 k l.length] [(1, .arr 1 (B0 X7 dF_ l))] (.sl 2 0 k k) [(1, .arr 1 (B0 X7 dF_ l)),(2, .arr 1 (B0 X7 dF_ (l.take k)))]:=by
 have hq: ∀i,i<k->I9 X7 dF_ (l.take k) i=I9 X7 dF_ l i:=λi hi=>by simp only[I9,List.getD,qX,zc hi]
 have hlk:(l.take k).length=k:=by rw[zt];omega
 refine I6 hm A6 Tryz.func73 rfl rfl (st_ ?_);refine⟨hp,?_⟩;refine⟨bE_,?_⟩;refine B8 [.cA] [(2,96)] [] ?_;simp only[go_sem,go_sem_proc,hlk]
 (with_reducible and_intros) <;> first |exact⟨rfl,hlk.symm,λi hi=>by show Z0 (I9 X7 dF_ l i) (I9 X7 dF_ (l.take k) i);rw[hq i hi];exact I5 _⟩ |(rw[U6];exact⟨rfl,o_,λi hi=>by rw[hq i hi];exact I5 _⟩) |exact eE_
theorem E2a(l:List Int)(k:Nat)(hk:k<=l.length)(hp:0<l.length)(hl:l.length<=1048576):cA_ 69 [.sl 1 0 k l.length] [(1, .arr 1 (B0 A0h 0 l))] (.sl 2 0 k k) [(1, .arr 1 (B0 A0h 0 l)),(2, .arr 1 (B0 A0h 0 (l.take k)))]:=by
 have hq: ∀i,i<k->I9 A0h 0 (l.take k) i=I9 A0h 0 l i:=λi hi=>by simp only[I9,List.getD,qX,zc hi]
 have hlk:(l.take k).length=k:=by rw[zt];omega
 refine I6 hm A6 Tryz.func69 rfl rfl (st_ ?_);refine⟨hp,?_⟩;refine⟨bE_,?_⟩;refine B8 [.cA] [(2,96)] [] ?_;simp only[go_sem,go_sem_proc,hlk]
 (with_reducible and_intros) <;> first |exact⟨rfl,hlk.symm,λi hi=>by show Z0 (I9 A0h 0 l i) (I9 A0h 0 (l.take k) i);rw[hq i hi];exact I5 _⟩ |(rw[U6];exact⟨rfl,o_,λi hi=>by rw[hq i hi];exact I5 _⟩) |exact eE_
theorem E2b(l:List Int)(k:Nat)(hk:k<=l.length)(hp:0<l.length)(hl:l.length<=1048576):cA_ 69 [.sl 1 0 k l.length] [(1, .arr 1 (B0 A0h 0 l))] (A4 1 A0h 0 (l.take k)) [(1, .arr 1 (B0 A0h 0 l))]:=by
 have hq: ∀i,i<k->I9 A0h 0 (l.take k) i=I9 A0h 0 l i:=λi hi=>by simp only[I9,List.getD,qX,zc hi]
 have hlk:(l.take k).length=k:=by rw[zt];omega
 refine I6 hm A6 Tryz.func69 rfl rfl (st_ ?_);refine⟨hp,?_⟩;refine⟨bE_,?_⟩;refine B8 [.eP] [] [] ?_;simp only[go_sem,go_sem_proc,hlk]
 (with_reducible and_intros) <;> first |exact⟨rfl,hlk.symm,λi hi=>by show Z0 (I9 A0h 0 l i) (I9 A0h 0 (l.take k) i);rw[hq i hi];exact I5 _⟩ |(rw[U6];exact⟨rfl,o_,λi hi=>by rw[hq i hi];exact I5 _⟩) |exact eE_
theorem E19(l:List Int)(hl:l.length<=1048576):cA_ 69 [.sl 1 0 l.length l.length] [(1, .arr 1 (B0 A0h 0 l))] (A4 1 A0h 0 l) [(1, .arr 1 (B0 A0h 0 l))]:=by
 by_cases h:l= []
 ·subst h;exact D5.own0 ((E59 [] p_).dataRes)
 ·have:=E2b l l.length (ze _) (qu.2 h) hl
  rwa[zn]at this
theorem C96(s:Ses)(hw:s.win≠0)(hl:s.hs.length<=100000):cA_ 28 [.ptr 1 0 0 1] (rsO s) (A4 1 A0h 0 s.hs) (rsO s):=by refine I6 hm A6 Tryz.func28 rfl rfl (st_ ?_);refine V4 (Y1 s hw) (st_ ?_);refine B7k [true] [(1,3)] (E19 s.hs o_) p_ (by simp[J1]) (by simp[J1,A76,AV.ids]) (st_ ?_);exact B8 [.eP] [] [] se_
section
variable {P:Program} {N:Nat} {K:List Nat} {a b:ACode} {Q:Cont} {σ:St}
@[reducible] def D4e(P:Program)(N:Nat)(K:List Nat)(b:ACode)(Q:Cont):Cont:=⟨Out.then (Wp P N K b Q.q) Q.q⟩
theorem D8t(h: @Wpi P N K a (D4e P N K b Q) σ): @Wpi P N K (.seq a b) Q σ:=Wp.seq h
theorem D0i: @Qi (D4e P N K b Q) .normal σ= @Wpi P N K b Q σ:=rfl
theorem D4m {i:Nat}: @Qi (D4e P N K b Q) (.exit i) σ= @Qi Q (.exit i) σ:=rfl
theorem D7f: @Qi (D4e P N K b Q) .ret σ= @Qi Q .ret σ:=rfl
theorem E6u {x:ACode}{ι:Type}(T:ι->Slots)(O:ι->List (Nat×A7))(μ:ι->Nat)(i0:ι)(h0:V5 K σ (T i0) (O i0))
  (h: ∀i,@Wpi P N K x (D27 K T O μ i Q) (A19 (T i) (O i))): @Wpi P N K (.loop x) Q σ:=Wp.loop T O μ i0 h0 h
end
attribute [go_sem] D0i D4m D7f
def rgO(ws:List Api.World):List (Nat×A7):= [(5, .box [.sl 6 0 ws.length ws.length]),(6, .arr 11 (B0 World.enc dF_ ws))]
def hyO(ins:List (List Api.Input))(hs:List Int)(re:Int):List (Nat×A7):= [(7, .box [.sl 8 0 ins.length ins.length, .sl 9 0 hs.length hs.length,sI re]),(8, .arr 1 (B0 X7 dF_ ins)),(9, .arr 1 (B0 A0h 0 hs))]
attribute [go_sem] rgO hyO
theorem C82 {ws:List Api.World}:okO (rgO ws):=by
 refine⟨by simp[rgO],λp hp cs ee j hj=> ?_⟩;simp only[rgO,zo,zr,zU]at hp;rcases hp with rfl |rfl
 ·simp only[A7.box.injEq]at ee;subst ee;simp[F6,AV.ids]at hj;subst hj;rfl
 ·cases ee
theorem E34 {ins:List (List Api.Input)}{hs:List Int}{re:Int}:okO (hyO ins hs re):=by
 refine⟨by simp[hyO],λp hp cs ee j hj=> ?_⟩;simp only[hyO,zo,zr,zU]at hp;rcases hp with rfl |rfl |rfl
 ·simp only[A7.box.injEq]at ee;subst ee;simp[F6,AV.ids]at hj;rcases hj with rfl |rfl <;> rfl
 all_goals cases ee
theorem B15 {O:List (Nat×A7)}{k o t:Nat}{l:List AV}(hk:(ofL O k).isSome=true)(hl:F6 l= []): ∀a∈AV.ptr k 0 o t::l,∀i∈a.ids,(ofL O i).isSome:=by
 intro a ha i hi;rcases zo.1 ha with rfl |ha
 ·simp[AV.ids]at hi;subst hi;exact hk
 ·have:i∈F6 l:=B8y.2 ⟨a,ha,hi⟩
  rw[hl]at this;cases this
theorem E8p(ws:List Api.World)(k:Nat)(hk:k<ws.length)(hl:ws.length<=100000):cA_ 64 [.ptr 5 0 0 1,sI k] (rgO ws) (.agg (ws.getD (ws.length-1-k) dF_).enc) (rgO ws):=by refine C29 19 [(4,some (some 11))] hm A6 Tryz.func64 rfl ?_;have e:IntKind.i64.wrap (IntKind.i64.wrap ((ws.length:Int)-1)-(k:Int))=((ws.length-1-k:Nat):Int):=wo_;simp only[go_sem,go_sem_proc,e];refine⟨bE_,?_⟩;exact B8 [.eP] [] [] se_
theorem E8q(ws:List Api.World)(x:Api.World)(cap:Int)(hl:ws.length<=1000)(hc:(ws.length:Int)+1<=cap):cA_ 59 [.ptr 5 0 0 1, .agg x.enc,sI cap] (rgO ws) (.tup []) (rgO (ws++ [x])):=by refine A3a hm A6 Tryz.func59 rfl rfl (st_ ?_);refine⟨bE_,?_⟩;rw[zb o_];exact B8 [] [] [] se_
theorem F1k(ins:List (List Api.Input))(hs:List Int)(re:Int)(l:List Api.Input)(x:Api.World)(hx:Wsm x)(h1:ins.length<=100000)(h2:hs.length<=100000):cA_ 65 [.ptr 7 0 0 1,A4 49 Api.Input.enc dF_ l, .agg x.enc] (hyO ins hs re) (.tup []) (hyO (ins++ [l]) (hs++ [ofW x]) re):=by refine A3a hm A6 Tryz.func65 rfl rfl (st_ ?_);refine⟨bE_,?_⟩;refine A0 (B4n x hx) rfl (st_ ?_);refine⟨bE_,?_⟩;exact B8 [] [] [] se_
def A77(s:Ses)(f:Nat)(l:List Api.Input)(i:Nat):List Api.Input:=if i=f then s.ins.getD i dF_++l else s.ins.getD i dF_
abbrev Acc:=List (List Api.Input)×List Int×List Api.World
def B50(ws:List Api.World):Api.World:=ws.getD (ws.length-1) dF_
def B5e(s:Ses)(f:Nat)(l:List Api.Input)(j:Nat)(a:Acc):Acc ⊕ Int:=if(X9 (B50 a.2.2) (A77 s f l (f+j))).2.2=0 then .inl (a.1++ [A77 s f l (f+j)],a.2.1++ [ofW (X9 (B50 a.2.2) (A77 s f l (f+j))).1],a.2.2++ [(X9 (B50 a.2.2) (A77 s f l (f+j))).1])else .inr (X9 (B50 a.2.2) (A77 s f l (f+j))).2.2
def B2l(s:Ses)(f:Nat):Acc:=(s.ins.take f,s.hs.take f,s.ws.take (s.ws.length-(s.ins.length-f)))
def C6l(s:Ses)(f:Nat)(l:List Api.Input):Acc ⊕ Int:=I8 (B5e s f l) (s.ins.length-f) (B2l s f)
def B0x(s:Ses)(f:Nat):Int:=IntKind.i64.wrap (IntKind.i64.wrap (s.re+s.ins.length)-f)
def D1h(s:Ses)(f:Nat)(l:List Api.Input):Int:=match C6l s f l with | .inl _=>0 | .inr c=>c
def B8w(s:Ses)(f:Nat)(a:Acc):List (Nat×A7):= [(1, .box [.sl 8 0 a.1.length a.1.length, .sl 9 0 a.2.1.length a.2.1.length,sI (B0x s f), .sl 6 0 a.2.2.length a.2.2.length,sI s.win]),(2, .arr 1 (B0 X7 dF_ s.ins)),(3, .arr 1 (B0 A0h 0 s.hs)),(4, .arr 11 (B0 World.enc dF_ s.ws)),(6, .arr 11 (B0 World.enc dF_ a.2.2)),(8, .arr 1 (B0 X7 dF_ a.1)),(9, .arr 1 (B0 A0h 0 a.2.1))]
attribute [go_sem] B8w
def D1i(s:Ses)(f:Nat)(l:List Api.Input):List (Nat×A7):=match C6l s f l with | .inl a=>B8w s f a | .inr _=>rsO s
theorem E68 {e l:List Api.Input}(h:H2 e l=0)(he:e.length<=4096)(hl:l.length<=4096):e.length+l.length<=32:=by
 have key: ∀n r,I8 (A1m l) n ()= .inr r->r=20:=by
  intro n;induction n with
  |zero=>intro r h;cases h
  |succ n ih=>
   intro r h;rw[I8]at h;split at h
   ·unfold A1m at h;dsimp only at h;split at h
    ·injection h with h;exact h.symm
    ·cases h
   ·rename_i r' h';injection h with h;subst h;exact ih _ h'
 unfold H2 at h;split at h
 ·rename_i r h';have:=key _ _ h';omega
 ·rw[IntKind.wrap_i64]at h;split at h <;> omega
structure F78 (s:Ses) (f j:Nat) (a:Acc):Prop where
 i:a.1.length=f+j
 h:a.2.1.length=f+j
 w:a.2.2.length=s.ws.length-(s.ins.length-f)+j
 sm: ∀x∈a.2.2,Wsm x
 im: ∀x∈a.1,A1z x
theorem D6l {s:Ses}{f:Nat}{l:List Api.Input}(h:A4e s)(hl:A1z l)(hc:H2 (s.ins.getD f dF_) l=0){i:Nat}(hi:i<s.ins.length):A1z (A77 s f l i):=by
 have h1:=h.im _ (B6 dF_ hi);unfold A77;split
 ·rename_i e;subst e;have:=E68 hc h1.1 hl.1;refine⟨by rw[zd];omega,λx hx=> ?_⟩;rcases zj.1 hx with hx |hx
  ·exact h1.2 x hx
  ·exact hl.2 x hx
 ·exact h1
theorem D97 {ws:List Api.World}(h: ∀x∈ws,Wsm x)(hp:0<ws.length):Wsm (B50 ws):=h _ (B6 dF_ o_)
theorem D8v {s:Ses}{f:Nat}{l:List Api.Input}(h:A4e s)(hl:A1z l)(hf:f<s.ins.length)(hc:H2 (s.ins.getD f dF_) l=0)(hw:s.ins.length-f<s.ws.length): ∀j a,j<=s.ins.length-f->I8 (B5e s f l) j (B2l s f)= .inl a->F78 s f j a
 |0,a,_,e=>by injection e with e;subst e;have:=h.hs;exact⟨by show(s.ins.take f).length=_;rw[zt];omega,by show(s.hs.take f).length=_;rw[zt];omega,by show(s.ws.take _).length=_;rw[zt];omega,λx hx=>h.sm x (ym hx),λx hx=>h.im x (ym hx)⟩
 |j+1,a,hj,e=>by
  rw[I8]at e;split at e
  ·rename_i b hb;obtain⟨h1,h2,h3,h4,h5⟩:=D8v h hl hf hc hw j b o_ hb;have hi:=D6l h hl hc (i:=f+j) o_
   have hs:=B77 (D97 h4 o_) hi;unfold B5e at e;split at e
   ·injection e with e;subst e;refine⟨by simp[h1];omega,by simp[h2];omega,by simp[h3];omega,λx hx=> ?_,λx hx=> ?_⟩
    ·rcases zj.1 hx with hx |hx
     ·exact h4 x hx
     ·rw[zu.1 hx];exact hs
    ·rcases zj.1 hx with hx |hx
     ·exact h5 x hx
     ·rw[zu.1 hx];exact hi
   ·cases e
  ·cases e
def D2n(f:Nat)(l:List Api.Input):Slots:= [(0, .cA, .ptr 1 0 0 1),(1, .cA,sI (f:Nat)),(2, .cA,A4 49 Api.Input.enc dF_ l)]
attribute [go_sem] D2n
theorem E2g(s:Ses)(f:Nat)(l:List Api.Input)(h:A4e s)(hl:A1z l)(hf:f<s.ins.length)(ho:B80 s<=f)(hc:H2 (s.ins.getD f dF_) l≠0):cA_ 33 [.ptr 1 0 0 1,sI (f:Nat),A4 49 Api.Input.enc dF_ l] (rsO s) (sI (H2 (s.ins.getD f dF_) l)) (rsO s):=by
 have hx:=h.im _ (B6 dF_ hf)
 have hw0:s.win≠0:=by have:=h.win;omega
 have hil:=h.ins;refine A8m hm A6 Tryz.func33 rfl rfl ?_;refine B2 (D2n f l) (rsO s) (B9 hm ?_) ?_
 ·refine st_ ?_;exact A9 [] [] se_
 refine B2 (D2n f l) (rsO s) (B9 hm ?_) ?_
 ·refine st_ ?_;refine V4 (Y1 s hw0) (st_ ?_);exact A9 [] [] se_
 refine B2 (D2n f l++ [(7, .cA,sI s.ins.length)]) (rsO s) (B9 hm ?_) ?_
 ·refine st_ ?_;refine V4 (Y0 s) (st_ ?_);exact A9 [] [] se_
 refine B2 (D2n f l++ [(7, .cA,sI s.ins.length)]) (rsO s) (B9 hm ?_) ?_
 ·refine st_ ?_;refine V4 (A8t s h.win o_) (st_ ?_);rw[zb (by simp;omega)];exact A9 [] [] se_
 refine B9 hm (st_ ?_);refine⟨bE_,?_⟩;refine A0 (A1d (s.ins.getD f dF_) l hx.1 hl.1 (B5f hl)) rfl (st_ ?_);rw[zc (by simpa using hc)];exact B8 [.cA] [] [] se_
theorem F6w {S R:Type}{f:Nat->S->S ⊕ R}{k:Nat}{s s':S}(h:I8 f k s= .inl s'):I8 f (k+1) s=f k s':=A0f h rfl
def B0n(s:Ses)(f:Nat)(l:List Api.Input):Slots:= [(0, .cA, .ptr 1 0 0 1),(1, .cA,sI (f:Nat)),(2, .cA,A4 49 Api.Input.enc dF_ l),(7, .cA,sI s.ins.length)]
attribute [go_sem] B0n
def B7m:Slots:= [(9, .cA, .ptr 5 0 0 1),(10, .cA, .ptr 7 0 0 1)]
attribute [go_sem] B7m
theorem C98(s:Ses)(f:Nat)(l:List Api.Input)(h:A4e s)(hl:A1z l)(hf:f<s.ins.length)(ho:B80 s<=f)(hc:H2 (s.ins.getD f dF_) l=0)(hk:s.ins.length-f<s.ws.length)(hcap:(s.ws.length:Int)<=s.win+1):cA_ 33 [.ptr 1 0 0 1,sI (f:Nat),A4 49 Api.Input.enc dF_ l] (rsO s) (sI (D1h s f l)) (D1i s f l):=by
 have hx:=h.im _ (B6 dF_ hf)
 have hwl:=h.ws
 have hhl:=h.hs
 have hwin:=h.win
 have hA:=D8v h hl hf hc hk
 have hw0:s.win≠0:=by have:=h.win;omega
 have hil:=h.ins;refine A8m hm A6 Tryz.func33 rfl rfl ?_;refine B2 [(0, .cA, .ptr 1 0 0 1),(1, .cA,sI (f:Nat)),(2, .cA,A4 49 Api.Input.enc dF_ l)] (rsO s) (B9 hm ?_) ?_
 ·refine st_ ?_;exact A9 [] [] se_
 refine B2 [(0, .cA, .ptr 1 0 0 1),(1, .cA,sI (f:Nat)),(2, .cA,A4 49 Api.Input.enc dF_ l)] (rsO s) (B9 hm ?_) ?_
 ·refine st_ ?_;refine V4 (Y1 s hw0) (st_ ?_);exact A9 [] [] se_
 refine B2 (B0n s f l) (rsO s) (B9 hm ?_) ?_
 ·refine st_ ?_;refine V4 (Y0 s) (st_ ?_);exact A9 [] [] se_
 refine B2 (B0n s f l) (rsO s) (B9 hm ?_) ?_
 ·refine st_ ?_;refine V4 (A8t s h.win o_) (st_ ?_);rw[zb (by simp;omega)];exact A9 [] [] se_
 refine B2 (B0n s f l) (rsO s) (B9 hm ?_) ?_
 ·refine st_ ?_;refine⟨bE_,?_⟩;refine A0 (A1d (s.ins.getD f dF_) l hx.1 hl.1 (B5f hl)) rfl (st_ ?_);rw[zb (by simpa using hc)];exact A9 [] [] se_
 refine B2 (B0n s f l++ [(9, .cA, .ptr 5 0 0 1)]) (rsO s++rgO (B2l s f).2.2) (B9 hm ?_) ?_
 ·have e:IntKind.i64.wrap ((s.ws.length:Int)-IntKind.i64.wrap ((s.ins.length:Int)-(f:Nat)))=((s.ws.length-(s.ins.length-f):Nat):Int):=wo_
  have hlk:(s.ws.take (s.ws.length-(s.ins.length-f))).length=s.ws.length-(s.ins.length-f):=by rw[zt];omega
  simp only[go_sem,go_sem_proc,e];refine⟨bE_,?_⟩;refine B5 [true] [(1,4),(2,6)] (E2c s.ws (s.ws.length-(s.ins.length-f)) o_ o_ o_) p_ p_ (by simp[J1]) g_ (st_ ?_);refine⟨o_,?_⟩;refine A9 [(5,160)] [] ?_;simp only[go_sem,go_sem_proc,B2l,hlk]
  all_goals exact eE_
 refine B2 (B0n s f l++B7m) (rsO s++(rgO (B2l s f).2.2++hyO (B2l s f).1 (B2l s f).2.1 (B0x s f))) (B9 hm ?_) ?_
 ·have h1:(s.ins.take f).length=f:=by rw[zt];omega
  have h2:(s.hs.take f).length=f:=by rw[zt];omega
  refine st_ ?_;refine⟨bE_,?_⟩;refine B5 [true] [(1,2),(2,8)] (E0t s.ins f o_ o_ o_) p_ p_ (by simp[J1]) g_ (st_ ?_);refine⟨o_,⟨o_,o_⟩,?_⟩;refine B5 [true] [(1,3),(2,9)] (E2a s.hs f o_ o_ o_) p_ p_ (by simp[J1]) g_ (st_ ?_);refine⟨o_,?_⟩;refine A9 [(7,176)] [] ?_;simp only[go_sem,go_sem_proc,B2l,h1,h2,B0x]
  all_goals exact eE_
 refine D8t (B2 (B0n s f l++(B7m++ [(11, .cA,sI ((f+0:Nat):Int))])) (rsO s++(rgO (B2l s f).2.2++hyO (B2l s f).1 (B2l s f).2.1 (B0x s f))) (B9 hm ?_) (V0 ?_))
 ·refine st_ ?_;exact A9 [] [] se_
 refine E6u (ι:= {p:Nat×Acc // p.1<=s.ins.length-f/\I8 (B5e s f l) p.1 (B2l s f)= .inl p.2}) (λp=>(B0n s f l++(B7m++ [(11, .cA,sI ((f+p.1.1:Nat):Int))]))) (λp=>(rsO s++(rgO p.1.2.2.2++hyO p.1.2.1 p.1.2.2.1 (B0x s f)))) (λp=>s.ins.length-f-p.1.1) ⟨(0,B2l s f),zm _,rfl⟩ ?_ ?_
 ·exact A9 [] [] se_
 rintro⟨⟨j,a⟩,hj,ha⟩;dsimp only at hj ha⊢;obtain⟨g1,g2,g3,g4,g5⟩:=hA j a hj ha;by_cases hlt:j<s.ins.length-f;rotate_left
 ·obtain rfl:j=s.ins.length-f:=o_
  have hC:D1h s f l=0:=by unfold D1h;rw[show C6l s f l= .inl a from ha]
  have hO:D1i s f l=B8w s f a:=by unfold D1i;rw[show C6l s f l= .inl a from ha]
  rw[hC,hO];refine B9 hm (st_ ?_);rw[zb o_]
  (try simp only[go_sem,go_sem_proc])
  refine E9k (T:=(B0n s f l++B7m)) (O:=(rsO s++(rgO a.2.2++hyO a.1 a.2.1 (B0x s f)))) ?_ (B9 hm ?_)
  ·exact A9 [] [] se_
  refine st_ ?_;exact B8 [.cA] [] [] se_
 have hal:=D6l h hl hc (i:=f+j) o_
 have hS:I8 (B5e s f l) (j+1) (B2l s f)=B5e s f l j a:=F6w ha;refine B2 (B0n s f l++(B7m++ [(11, .cA,sI ((f+j:Nat):Int))])) (rsO s++(rgO a.2.2++hyO a.1 a.2.1 (B0x s f))) (B9 hm ?_) ?_
 ·refine st_ ?_;rw[zc o_];exact A9 [] [] se_
 refine D8t (V0 ?_);refine B2 (B0n s f l++(B7m++ [(11, .cA,sI ((f+j:Nat):Int)),(12, .cA, .sl 10 0 (s.ins.getD (f+j) dF_).length (s.ins.getD (f+j) dF_).length)])) ((rsO s++(rgO a.2.2++hyO a.1 a.2.1 (B0x s f)))++ [(10, .arr 49 (B0 Api.Input.enc dF_ (s.ins.getD (f+j) dF_)))]) (B9 hm ?_) ?_
 ·refine st_ ?_;refine⟨bE_,?_⟩;refine J5 ev_ K1 (C9a (s.ins.getD (f+j) dF_) (h.im _ (B6 dF_ o_))) (st_ ?_);exact A9 [(10,1648)] [] se_
 refine B2 (B0n s f l++(B7m++ [(11, .cA,sI ((f+j:Nat):Int)),(12, .eP,A4 49 Api.Input.enc dF_ (A77 s f l (f+j)))])) (rsO s++(rgO a.2.2++hyO a.1 a.2.1 (B0x s f))) (B9 hm ?_) ?_
 ·have hil2:=(h.im _ (B6 (l:=s.ins) (i:=f+j) dF_ o_)).1
  unfold A77;refine st_ ?_;by_cases h0:j=0
  ·rw[zc (by simp;omega),zc o_];generalize s.ins.getD (f+j) dF_=x at hil2⊢
   (try simp only[go_sem,go_sem_proc])
   refine A0 (B2p l hl) rfl (st_ ?_);have hby:(Tryz.prog.types[60]).bytes=384:=by kernel_rfl
   have hll:=hl.1;refine⟨⟨by first |omega |(simp only[hby];omega),by simp only[maxLen];omega⟩,?_⟩;refine A9 [] [] (st_ ?_);exact⟨p_,by rw[zd];exact D0 _⟩
  ·rw[zb (by simp;omega),zb o_]
   (try simp only[go_sem,go_sem_proc])
   exact A9 [] [] se_
 have hsm:=D97 g4 o_
 have hF:=B03 (B50 a.2.2) (A77 s f l (f+j)) hsm hal
 have hL:=E8p a.2.2 0 o_ o_;rw[Nat.sub_zero,show a.2.2.getD (a.2.2.length-1) dF_=B50 a.2.2 from rfl]at hL;have hrs:=B77 hsm hal;unfold B5e at hS;generalize A77 s f l (f+j)=all at hF hrs hS hal⊢;generalize B50 a.2.2=x0 at hF hL hrs hS hsm;generalize X9 x0 all=r at hF hrs hS;refine B2 (B0n s f l++(B7m++ [(11, .cA,sI ((f+j:Nat):Int)),(12, .cA,A4 49 Api.Input.enc dF_ all),(13, .cA, .ptr 11 0 0 1),(15, .cA,sI r.2.2)])) ((rsO s++(rgO a.2.2++hyO a.1 a.2.1 (B0x s f)))++ [(11, .box r.1.enc)]) (B9 hm ?_) ?_
 ·refine st_ ?_;refine K6 (hL) C82 C82 (by simp[rgO]) (by simp[upd,go_sem,go_sem_proc]) (by simp[rgO]) (B15 rfl rfl) rfl (st_ ?_);refine A0 hF rfl (st_ ?_);exact A9 [(11,224)] [] se_
 by_cases hr:r.2.2=0;rotate_left
 ·rw[zb hr]at hS;have hE:C6l s f l= .inr r.2.2:=A4w hS o_
  have hC:D1h s f l=r.2.2:=by unfold D1h;rw[hE]
  have hO:D1i s f l=rsO s:=by unfold D1i;rw[hE]
  rw[hC,hO];refine B9 hm (st_ ?_);rw[zc (by simpa using hr)]
  (try simp only[go_sem,go_sem_proc])
  exact B8 [.cA] [] [] se_
 rw[zc hr]at hS;have hAd:=F1k a.1 a.2.1 (B0x s f) all r.1 hrs o_ o_
 have hPu:=E8q a.2.2 r.1 (s.win+1) o_ o_
 have hw1:IntKind.i64.wrap (s.win+1)=s.win+1:=wo_
 have hj1:IntKind.i64.wrap (((f+j:Nat):Int)+1)=((f+(j+1):Nat):Int):=wo_;refine B9 hm (st_ ?_);rw[zb (by simpa using hr)]
 (try simp only[go_sem,go_sem_proc])
 refine K6 (hAd) E34 E34 (by simp[hyO]) (by simp[upd,go_sem,go_sem_proc]) (by simp[hyO]) (B15 rfl (by simp[F6,AV.ids,A4,World.enc])) rfl (st_ ?_);rw[hw1];refine K6 (hPu) C82 C82 (by simp[rgO]) (by simp[upd,go_sem,go_sem_proc]) (by simp[rgO]) (B15 rfl (by simp[F6,AV.ids,A4,World.enc])) rfl (st_ ?_);refine B9 hm ?_;simp only[go_sem,go_sem_proc,hj1];refine A8 ⟨(j+1,(a.1++ [all],a.2.1++ [ofW r.1],a.2.2++ [r.1])),by dsimp only;omega,hS⟩ (by dsimp only;omega) ?_;exact A9 [] [] se_
end Go.Abs
end
noncomputable section
namespace Go.Abs
open Go.Proofs
open Api
end Go.Abs
namespace Go.Api
open Go.Abs
structure Call where
 gC:Bool
 eJ:Int
 fI:List Input
 deriving DecidableEq,Inhabited
def Call.enc(x:Call):List AV:= [sB x.gC,sI x.eJ,A4 49 Input.enc default x.fI]
def Call.zero:List AV:= [sB false,sI 0, .sc (.slice none 0 0)]
attribute [go_sem] Call.enc Call.zero
@[go_sem] theorem F9j(x:Call):Call.mk x.gC x.eJ x.fI=x:=rfl
end Go.Api
namespace Go.Abs
open Go.Proofs Api
def F0e(f:cY):Bool:=decide (f.Shape.cK.length<=20)
def C01(b:cE):Bool:=decide (b.cH.length<=8)&&b.cH.all F0e
def B3t(n:Nat)(l:List cE):Bool:=decide (l.length<=n)&&l.all C01
theorem E6h(n:Nat)(l:List cE)(hn:n<=1000):cA_ 68 [A4 20 cE.enc default l,sI n] [] (sB (B3t n l)) []:=by
 refine en1 hm A6 Tryz.func68 rfl rfl (st_ ?_);by_cases hc:l.length<=n
 ·have hsm:B3t n l=l.all C01:=by simp[B3t,hc]
  rw[hsm,zb o_];refine B1 hm (ι:= {i:Nat // i<=l.length/\(l.take i).all C01=true}) (λi=> [(0, .cA,A4 20 cE.enc default l),(5, .cA,sI i.1)])
   (λi=> []) (λi=>l.length-i.1) ⟨0,o_,rfl⟩ ?_ ?_
  ·refine A9 [] [] ?_;simp only[go_sem,go_sem_proc]
  ·rintro⟨i,hi,ht⟩;refine st_ ?_;split
   ·rename_i hlt;have hlt:i<l.length:=o_
    refine⟨bE_,?_⟩;by_cases he:(l.getD i default).cH.length<=8
    ·rw[zb o_];refine B1 hm (ι:= {k:Nat // k<=(l.getD i default).cH.length/\((l.getD i default).cH.take k).all F0e=true}) (λk=> [(0, .cA,A4 20 cE.enc default l),(5, .cA,sI i),(6, .cA,sI k.1)])
      (λi=> []) (λk=>(l.getD i default).cH.length-k.1) ⟨0,o_,rfl⟩ ?_ ?_
     ·refine A9 [] [] ?_;simp only[go_sem,go_sem_proc]
     ·rintro⟨k,hk,hkt⟩;refine st_ ?_;refine⟨bE_,?_⟩;split
      ·rename_i hklt;have hklt:k<(l.getD i default).cH.length:=o_
       refine⟨bE_,bE_,?_⟩;by_cases hf:((l.getD i default).cH.getD k default).Shape.cK.length<=20
       ·rw[zb o_];refine A8 ⟨k+1,o_,C3r default hkt hklt (zT hf)⟩ (by show(l.getD i default).cH.length-(k+1)<(l.getD i default).cH.length-k;omega) (A9 [] [] ?_);refine st_ ?_;exact wo_
       ·rw[zc o_];have:C01 (l.getD i default)=false:=by unfold C01;rw[B5z default hklt (zp hf)];simp
        rw[B5z default hlt this]
      ·rename_i hge;have hil:k=(l.getD i default).cH.length:=o_
       subst hil;have hb:C01 (l.getD i default)=true:=by unfold C01;rw[C6o hkt,zT he];rfl
       refine A8 ⟨i+1,o_,C3r default ht hlt hb⟩ (by show l.length-(i+1)<l.length-i;omega) (A9 [] [] ?_);refine st_ ?_;exact wo_
    ·rw[zc o_];have:C01 (l.getD i default)=false:=by unfold C01;rw[zp he];rfl
     rw[B5z default hlt this]
   ·rename_i hge;have hil:i=l.length:=o_
    subst hil;rw[C6o ht]
 ·have hsm:B3t n l=false:=by simp[B3t,hc]
  rw[hsm,zc o_]
theorem D6z(l:List cE)(n:Int)(hn:0<=n/\n<=1000):cA_ 68 [A4 20 cE.enc default l,sI n] [] (sB (B3t n.toNat l)) []:=by have h:=E6h n.toNat l o_;rwa[show((n.toNat:Nat):Int)=n by omega]at h
theorem D9u {n:Nat}{l:List cE}(h:B3t n l=true):l.length<=n/\ ∀b∈l,cE.sm b:=by simp only[B3t,zi,zk]at h;refine⟨h.1,λb hb=> ?_⟩;have:=qm.1 h.2 b hb;simp only[C01,zi,zk]at this;refine⟨o_,λf hf=> ?_⟩;have:=qm.1 this.2 f hf;simp only[F0e,zk]at this;unfold cY.sm Shape.sm;omega
def P3(l:List Api.Input)(i1:Nat)(s1:Unit):(Unit) ⊕ (Bool):=let v1:=(B3t ((1):Int).toNat ([(l.getD i1 default).cE]));if((!v1)||(decide (3<((l.getD i1 default).cE.cH.length:Int))))=true then(.inr false)else(.inl ())
def V3(l:List Api.Input):Bool:=(match I8 (P3 l) l.length ()with | .inr r=>r | .inl s1=>(decide ((l.length:Int)<=4)))
theorem D0b(l:List Api.Input)(hl:l.length<=9223372036854775807):cA_ 26 [A4 49 Api.Input.enc default l] [] (sB (V3 l)) []:=by
 refine en1 hm A6 Tryz.func26 rfl rfl ?_;simp only[go_sem,go_sem_proc,C7,D6,C0,D1]
 (repeat(with_reducible refine And.intro ?_ ?_;exact bO_))
 refine B1 hm (ι:= {p:Nat×Unit // p.1<=l.length/\I8 (P3 l) p.1 ()= .inl p.2}) (λi=> [(0, .cA,A4 49 Api.Input.enc default l),(3, .cA,sI (i.1.1:Int))]) (λi=> []) (λi=>l.length-i.1.1) ⟨(0,()),o_,rfl⟩ ?_ ?_
 ·refine A9 [] [] ?_;simp only[go_sem,go_sem_proc,C7,D6,C0,D1,G9]
  all_goals exact eO_
 ·rintro⟨⟨i1,s1⟩,hi1,hs1⟩;replace hi1:i1<=l.length:=hi1;replace hs1:I8 (P3 l) i1 ()= .inl s1:=hs1;simp only[go_sem,go_sem_proc,C7,D6,C0,D1]
  (repeat(with_reducible refine And.intro ?_ ?_;exact bO_))
  by_cases h1:(i1:Int)<(l.length:Int)
  ·first |rw[zc h1] |rw[zc (by simp_all)] |rw[zc o_]
   have hlt1:i1<l.length:=by first |omega |(simp only[IntKind.wrap_i64]at h1;omega)
   (repeat(with_reducible refine And.intro ?_ ?_;exact bO_))
   refine A4d (D6z ([(l.getD i1 default).cE]) 1 (by(first |assumption |omega |exact K1 |(simp_all;done) |(simp_all;omega)))) rfl ?_ ?_
   ·(try simp only[S2,go_sem,go_sem_proc,C7,D6,C0,D1]);all_goals((with_reducible and_intros) <;> first |with_reducible rfl |trivial |exact H1 (λ_ _=>rfl) rfl rfl rfl |exact G5 rfl |exact D6a _ |rfl)
   generalize hv1:(B3t ((1):Int).toNat ([(l.getD i1 default).cE]))=v1;simp only[go_sem,go_sem_proc,C7,D6,C0,D1]
   (repeat(with_reducible refine And.intro ?_ ?_;exact bO_))
   by_cases h2:((!v1)||(decide (3<((l.getD i1 default).cE.cH.length:Int))))=true
   ·first |rw[zc h2] |rw[zc (by simp_all)] |rw[zc o_]
    (repeat(with_reducible refine And.intro ?_ ?_;exact bO_))
    have e1:I8 (P3 l) (i1+1) ()= .inr false:=A0f hs1 (by first |with_reducible rfl |(simp only[P3,h1,hv1,h2,zL,zJ,qj,zf,zG,zN,zK,reduceCtorEq,G9,L2,P9,Q0,zO,zH,zX,zI,z8,zV,zZ,zS,zR,zD,z6,zP];done) |(simp only[P3,h1,hv1,h2,zL,zJ,qj,zf,zG,zN,zK,reduceCtorEq,G9,L2,P9,Q0,zO,zH,zX,zI,z8,zV,zZ,zS,zR,zD,z6,zP];with_reducible rfl) |(simp only[P3,h1,hv1,h2,zL,zJ,qj,zf,zG,zN,zK,reduceCtorEq,G9,L2,P9,Q0,zO,zH,zX,zI,z8,zV,zZ,zS,zR,zD,z6,zP];rfl) |(unfold P3;(repeat' split) <;> first |rfl |omega |(simp_all;done) |(simp_all;omega)));replace e1:=A4w e1 (show i1+1<=l.length by omega);have hd:V3 l=false:=by first |with_reducible rfl |(simp only[V3,h1,hv1,h2,e1,zL,zJ,qj,zf,zG,zN,zK,reduceCtorEq,G9,L2,P9,Q0,zO,zH,zX,zI,z8,zV,zZ,zS,zR,zD,z6,zP];done) |(simp only[V3,h1,hv1,h2,e1,zL,zJ,qj,zf,zG,zN,zK,reduceCtorEq,G9,L2,P9,Q0,zO,zH,zX,zI,z8,zV,zZ,zS,zR,zD,z6,zP];with_reducible rfl) |(simp only[V3,h1,hv1,h2,e1,zL,zJ,qj,zf,zG,zN,zK,reduceCtorEq,G9,L2,P9,Q0,zO,zH,zX,zI,z8,zV,zZ,zS,zR,zD,z6,zP];rfl) |(unfold V3;(repeat' split) <;> first |rfl |omega |(simp_all;done) |(simp_all;omega))
    try rw[hd]
    try simp only[go_sem,go_sem_proc,C7,D6,C0,D1]
    all_goals exact eO_
   ·first |rw[zb h2] |rw[zb (by simp_all)] |rw[zb o_]
    (repeat(with_reducible refine And.intro ?_ ?_;exact bO_))
    have hn:I8 (P3 l) (i1+1) ()= .inl ():=A0f hs1 (by first |with_reducible rfl |(simp only[P3,h1,hv1,h2,zL,zJ,qj,zf,zG,zN,zK,reduceCtorEq,G9,L2,P9,Q0,zO,zH,zX,zI,z8,zV,zZ,zS,zR,zD,z6,zP];done) |(simp only[P3,h1,hv1,h2,zL,zJ,qj,zf,zG,zN,zK,reduceCtorEq,G9,L2,P9,Q0,zO,zH,zX,zI,z8,zV,zZ,zS,zR,zD,z6,zP];with_reducible rfl) |(simp only[P3,h1,hv1,h2,zL,zJ,qj,zf,zG,zN,zK,reduceCtorEq,G9,L2,P9,Q0,zO,zH,zX,zI,z8,zV,zZ,zS,zR,zD,z6,zP];rfl) |(unfold P3;(repeat' split) <;> first |rfl |omega |(simp_all;done) |(simp_all;omega)));refine A8 ⟨(i1+1,()),o_,hn⟩ (by show l.length-(i1+1)<l.length-i1;omega) (A9 [] [] ?_);simp only[go_sem,go_sem_proc,C7,D6,C0,D1]
    all_goals exact eO_
  ·first |rw[zb h1] |rw[zb (by simp_all)] |rw[zb o_]
   (repeat(with_reducible refine And.intro ?_ ?_;exact bO_))
   have hge:i1=l.length:=by first |omega |(simp only[IntKind.wrap_i64]at h1;omega)
   subst hge;have hd:V3 l=(decide ((l.length:Int)<=4)):=by first |with_reducible rfl |(simp only[V3,hs1,zL,zJ,qj,zf,zG,zN,zK,reduceCtorEq,G9,L2,P9,Q0,zO,zH,zX,zI,z8,zV,zZ,zS,zR,zD,z6,zP];done) |(simp only[V3,hs1,zL,zJ,qj,zf,zG,zN,zK,reduceCtorEq,G9,L2,P9,Q0,zO,zH,zX,zI,z8,zV,zZ,zS,zR,zD,z6,zP];with_reducible rfl) |(simp only[V3,hs1,zL,zJ,qj,zf,zG,zN,zK,reduceCtorEq,G9,L2,P9,Q0,zO,zH,zX,zI,z8,zV,zZ,zS,zR,zD,z6,zP];rfl) |(unfold V3;(repeat' split) <;> first |rfl |omega |(simp_all;done) |(simp_all;omega))
   try rw[hd]
   try simp only[go_sem,go_sem_proc,C7,D6,C0,D1]
   all_goals exact eO_
def A35(calls:List Api.Call)(i2:Nat)(s2:Unit):(Unit) ⊕ (Bool):=let v2:=(V3 (calls.getD i2 default).fI);if v2=false then(.inr false)else(.inl ())
def A5s(w:Api.World)(i1:Nat)(s1:Unit):(Unit) ⊕ (Bool):=if 3<((w.cC.getD i1 default).cH.length:Int)then(.inr false)else(.inl ())
def A6f(w:Api.World)(calls:List Api.Call):Bool:=let v1:=(B3t ((7):Int).toNat w.cC);if((((((!v1)||(decide (5<(w.cD.length:Int))))||(decide (20<(w.cB.length:Int))))||(decide (20<(w.cT.length:Int))))||(decide (12<w.cM.eG)))||(decide (7<(calls.length:Int))))=true then(false)else((match I8 (A5s w) w.cC.length ()with | .inr r=>r | .inl s1=>(match I8 (A35 calls) calls.length ()with | .inr r=>r | .inl s2=>true)))
theorem D7u(w:Api.World)(calls:List Api.Call)(hb:w.cC.length<=9223372036854775807)(hc:calls.length<=9223372036854775807)(hi: ∀i,i<calls.length->(calls.getD i default).fI.length<=9223372036854775807):cA_ 25 [.agg w.enc,A4 3 Api.Call.enc default calls] [] (sB (A6f w calls)) []:=by
 refine en1 hm A6 Tryz.func25 rfl rfl ?_;have:=D6z
 have:=D0b
 have:=A6f.eq_1 w calls
 have:=λi_ s_=>A5s.eq_1 w i_ s_
 have:=λr_ c_ b_ Q_ σ_=> @lp_ Tryz.prog Tryz.f25.ntmps [] (.seq (.seq r_ (.cond c_ .skip (.exit 0))) b_) Q_ σ_ hm (IE (A5s w) ()) (λ_=>True) w.cC.length (λi_=> [(1, .cA,A4 3 Api.Call.enc default calls),(2, .cA, .ptr 48 0 0 1),(5, .cA,sI (i_:Int))]) (λi_=> [(48, .box [sI w.cM.dZ,sI w.cM.eD.X,sI w.cM.eD.Y,sI w.cM.eG,sI w.cM.eA,A4 20 cE.enc default w.cC,A4 24 cF.enc default w.cD,A4 7 cX.enc default w.cB,A4 4 cR.enc default w.cT,sI w.dK,sI w.eJ])]) [] rfl (λ_ _=>trivial) g_ g_ g_
 have:=λi_ s_=>A35.eq_1 calls i_ s_
 have:=λr_ c_ b_ Q_ σ_=> @lp_ Tryz.prog Tryz.f25.ntmps [] (.seq (.seq r_ (.cond c_ .skip (.exit 2))) b_) Q_ σ_ hm (IE (A35 calls) ()) (λ_=>True) calls.length (λi_=> [(1, .cA,A4 3 Api.Call.enc default calls),(6, .cA,sI (i_:Int))]) (λi_=> []) [] rfl (λ_ _=>trivial) g_ g_ g_;exact A85
end Go.Abs
end
noncomputable section
namespace Go.Abs
open Go.Proofs
open Api
theorem C97(s:Ses)(f:Int)(l:List Api.Input)(h:A4e s)(hf:f<B80 s\/(s.ins.length:Int)<=f):cA_ 33 [.ptr 1 0 0 1,sI f,A4 49 Api.Input.enc dF_ l] (rsO s) (sI 21) (rsO s):=by
 have hw0:s.win≠0:=by have:=h.win;omega
 have hil:=h.ins;refine I6 hm A6 Tryz.func33 rfl rfl (st_ ?_);refine V4 (Y1 s hw0) (st_ ?_);refine V4 (Y0 s) (st_ ?_);refine V4 (A8t s h.win o_) (st_ ?_);rw[zc (by simp;omega)];exact B8 [.cA] [] [] se_
def D25(s:Ses)(f:Nat)(a:Acc):Ses:=⟨a.1,a.2.1,B0x s f,a.2.2,s.win⟩
def D4r(s:Ses)(l:List Api.Input):Int×Ses:=
 if 4096<=s.ins.length then(9,s)else if H2 [] l≠0 then(H2 [] l,s)
 else if(X9 (A0a s) l).2.2≠0 then((X9 (A0a s) l).2.2,s)
 else(0,{s with ins:=s.ins++ [l],hs:=s.hs++ [ofW (X9 (A0a s) l).1],ws:=if(s.ws.length:Int)+1<=s.win+1 then s.ws++ [(X9 (A0a s) l).1]else(s.ws++ [(X9 (A0a s) l).1]).drop 1})
def D5c(s:Ses)(f:Int)(l:List Api.Input):Int×Ses:=
 if f<B80 s\/(s.ins.length:Int)<=f then(21,s)else if H2 (s.ins.getD f.toNat dF_) l≠0 then(H2 (s.ins.getD f.toNat dF_) l,s)
 else match C6l s f.toNat l with
  | .inl a=>(0,D25 s f.toNat a)
  | .inr c=>(c,s)
def C2v(s':Ses)(O:List (Nat×A7)):Prop:=O=rsO s'\/(∃old,O=C08 s' old)\/ ∃s f a,s'=D25 s f a/\O=B8w s f a
structure B9y (s:Ses):Prop where
 ok:A4e s
 len:(s.ws.length:Int)=min (s.ins.length:Int) s.win+1
theorem F8t(s:Ses)(l:List Api.Input)(h:B9y s)(hl:A1z l): ∃O,C2v (D4r s l).2 O/\cA_ 20 [.ptr 1 0 0 1,A4 49 Api.Input.enc dF_ l] (rsO s) (sI ((D4r s l).1)) O:=by
 unfold D4r;split
 ·exact⟨_, .inl rfl,E0u s l h.ok (by assumption)⟩
 rename_i h1;split
 ·exact⟨_, .inl rfl,E2d s l h.ok hl o_ (by assumption)⟩
 rename_i h2;split
 ·exact⟨_, .inl rfl,E2e s l h.ok hl o_ (by simpa using h2) (by assumption)⟩
 rename_i h3;by_cases h4:(s.ws.length:Int)+1<=s.win+1
 ·rw[zc h4];exact⟨_, .inl rfl,C95 s l h.ok hl o_ (by simpa using h2) (by simpa using h3) h4⟩
 ·rw[zb h4];exact⟨_, .inr (.inl ⟨_,rfl⟩),E2f s l h.ok hl o_ (by simpa using h2) (by simpa using h3) h4⟩
theorem F8u(s:Ses)(f:Int)(l:List Api.Input)(h:B9y s)(hl:A1z l): ∃O,C2v (D5c s f l).2 O/\cA_ 33 [.ptr 1 0 0 1,sI f,A4 49 Api.Input.enc dF_ l] (rsO s) (sI ((D5c s f l).1)) O:=by
 unfold D5c;split
 ·exact⟨_, .inl rfl,C97 s f l h.ok (by assumption)⟩
 rename_i h1;have hf:f=(f.toNat:Int):=by have:0<=B80 s:=Int.le_max_left ..;omega
 have hlen:=h.len
 have hw:=h.ok.win;generalize f.toNat=n at hf⊢;subst hf;split
 ·exact⟨_, .inl rfl,E2g s n l h.ok hl o_ o_ (by assumption)⟩
 rename_i h2;have hk:s.ins.length-n<s.ws.length:=by
  have:B80 s<=n:=o_
  unfold B80 at this;omega
 have:=C98 s n l h.ok hl o_ o_ (by simpa using h2) hk o_;unfold D1h D1i at this;split
 ·rename_i a ha;rw[ha]at this;exact⟨_, .inr (.inr ⟨s,n,a,rfl,rfl⟩),this⟩
 ·rename_i c ha;rw[ha]at this;exact⟨_, .inl rfl,this⟩
def B8h(s:Ses)(c:Api.Call):Int×Ses:=if c.gC=true then D5c s c.eJ c.fI else D4r s c.fI
theorem E0g {s:Ses}{f:Nat}{a:Acc}:okO (B8w s f a):=by
 refine⟨by simp[B8w],λp hp cs ee j hj=> ?_⟩;simp only[B8w,zo,zr,zU]at hp;rcases hp with rfl |rfl |rfl |rfl |rfl |rfl |rfl
 ·simp only[A7.box.injEq]at ee;subst ee;simp[F6,AV.ids]at hj;rcases hj with rfl |rfl |rfl <;> rfl
 all_goals cases ee
theorem C2v.ok {s:Ses}{O:List (Nat×A7)}(h:C2v s O):okO O:=by
 rcases h with rfl |⟨old,rfl⟩ |⟨s,f,a,-,rfl⟩
 ·exact A5o
 ·exact E0h
 ·exact E0g
theorem C2v.keys {s:Ses}{O:List (Nat×A7)}(h:C2v s O):(∀i∈ [1,2,3,4],i∈O.map (·.1))/\ ∀i∈O.map (·.1),i<10:=by rcases h with rfl |⟨old,rfl⟩ |⟨s,f,a,-,rfl⟩ <;> simp[rsO,C08,B8w]
theorem E3d {s:Ses}{c:Api.Call}(h:B9y s)(hl:A1z c.fI):B9y (B8h s c).2/\((B8h s c).1≠0->(B8h s c).2=s):=by
 obtain⟨h,hlen⟩:=h;have hw:=h.win
 have hws:=h.ws
 have hL:=B77 h.last hl;unfold B8h;split
 ·unfold D5c;split
  ·exact⟨⟨h,hlen⟩,λ_=>rfl⟩
  rename_i h1;split
  ·exact⟨⟨h,hlen⟩,λ_=>rfl⟩
  rename_i h2;split
  ·rename_i a ha;refine⟨?_,λe=>absurd rfl e⟩;have:B80 s<=c.eJ:=o_
   unfold B80 at this;have:=D8v (s:=s) (f:=c.eJ.toNat) (l:=c.fI) h hl o_ (by simpa using h2) o_ _ a (ze _) ha;obtain⟨g1,g2,g3,g4,g5⟩:=this;refine⟨⟨hw,?_,?_,?_,g4,g5⟩,?_⟩
   ·show a.1.length<=4096;have:=h.ins;omega
   ·show a.2.1.length=a.1.length;omega
   ·show 0<a.2.2.length/\a.2.2.length<=65;omega
   ·show(a.2.2.length:Int)=min (a.1.length:Int) s.win+1;omega
  ·exact⟨⟨h,hlen⟩,λ_=>rfl⟩
 ·unfold D4r;split
  ·exact⟨⟨h,hlen⟩,λ_=>rfl⟩
  split
  ·exact⟨⟨h,hlen⟩,λ_=>rfl⟩
  split
  ·exact⟨⟨h,hlen⟩,λ_=>rfl⟩
  refine⟨?_,λe=>absurd rfl e⟩;generalize(X9 (A0a s) c.fI).1=x at hL⊢;have hi: ∀y∈s.ins++ [c.fI],A1z y:=λy hy=>by
   rcases zj.1 hy with hy |hy
   ·exact h.im y hy
   ·rw[zu.1 hy];exact hl
  have hx: ∀y∈s.ws++ [x],Wsm y:=λy hy=>by
   rcases zj.1 hy with hy |hy
   ·exact h.sm y hy
   ·rw[zu.1 hy];exact hL
  have hh:=h.hs;by_cases h4:(s.ws.length:Int)+1<=s.win+1
  ·rw[zc h4];refine⟨⟨hw,by simp;omega,by simp[hh],by simp;omega,hx,hi⟩,?_⟩;show((s.ws++ [x]).length:Int)=min ((s.ins++ [c.fI]).length:Int) s.win+1;simp only[zd,List.length_singleton];omega
  ·rw[zb h4];refine⟨⟨hw,by simp;omega,by simp[hh],by simp;omega,λy hy=>hx y (List.mem_of_mem_drop hy),hi⟩,?_⟩;show(((s.ws++ [x]).drop 1).length:Int)=min ((s.ins++ [c.fI]).length:Int) s.win+1;simp only[zd,List.length_singleton,qn];omega
theorem C48(s:Ses)(c:Api.Call)(h:B9y s)(hl:A1z c.fI): ∃O,C2v (B8h s c).2 O/\cA_ 27 [.ptr 1 0 0 1, .agg c.enc] (rsO s) (sI ((B8h s c).1)) O:=by
 have hw0:s.win≠0:=by have:=h.ok.win;omega
 unfold B8h;by_cases hc:c.gC=true
 ·rw[zc hc];obtain⟨O,h1,h2⟩:=F8u s c.eJ c.fI h hl;refine⟨O,h1,?_⟩;generalize(D5c s c.eJ c.fI).1=e at h2⊢;refine I6 hm A6 Tryz.func27 rfl rfl ?_;simp only[go_sem,go_sem_proc,hc];refine K6 h2 A5o h1.ok (λi hi=>h1.keys.1 i (by simpa[rsO]using hi)) (by simp[upd,go_sem,go_sem_proc]) (λi hi hn=> ?_) (B15 rfl rfl) rfl ?_
  ·have:=h1.keys.2 i hi
   simp[rsO]at hn;simp[upd,rsO]
   (repeat' split) <;> first |omega |rfl
  refine st_ ?_;exact⟨[.cA],rfl,rfl,D69 h1.ok (λp hp=>E89 h1.ok hp) (λi hi=>h1.keys.1 i (by simpa[rsO]using hi)) (by simp[go_sem,go_sem_proc])⟩
 ·rw[zb hc];obtain⟨O,h1,h2⟩:=F8t s c.fI h hl;refine⟨O,h1,?_⟩;generalize(D4r s c.fI).1=e at h2⊢;refine I6 hm A6 Tryz.func27 rfl rfl ?_;simp only[go_sem,go_sem_proc,hc];refine K6 h2 A5o h1.ok (λi hi=>h1.keys.1 i (by simpa[rsO]using hi)) (by simp[upd,go_sem,go_sem_proc]) (λi hi hn=> ?_) (B15 rfl rfl) rfl ?_
  ·have:=h1.keys.2 i hi
   simp[rsO]at hn;simp[upd,rsO]
   (repeat' split) <;> first |omega |rfl
  refine st_ ?_;exact⟨[.cA],rfl,rfl,D69 h1.ok (λp hp=>E89 h1.ok hp) (λi hi=>h1.keys.1 i (by simpa[rsO]using hi)) (by simp[go_sem,go_sem_proc])⟩
theorem F60 {z:Nat}{g:Nat->List AV}{α:Type}{enc:α->List AV}{d x:α}(h:Z0 (g 0) (enc x)):M9 (.dsl z 1 g) (.dsl z 1 (I9 enc d [x])):=by
 rw[U6];refine⟨rfl,rfl,λi hi=> ?_⟩;obtain rfl:i=0:=o_
 exact h
theorem D2u {a b:AV}{l m:List AV}(h:M9 a b)(h2:Z0 l m):Z0 (a::l) (b::m):=⟨h,h2⟩
def ib:cE:=⟨1,3,⟨⟨0,0⟩,0⟩,⟨0,0⟩,0,⟨0,0⟩,0,0,0,0,false,false,false,false,0,[]⟩
def iw:Api.World:=⟨⟨1024,⟨0,0⟩,1,0⟩,[ib],[],[],[],2,0⟩
def inE:Api.Input:=⟨5,1,⟨65536,0⟩,0,⟨0,0,⟨⟨0,0⟩,0⟩,⟨0,0⟩,0,⟨0,0⟩,0,0,0,0,false,false,false,false,0,[]⟩,⟨0,0,0,0,⟨0,0⟩,⟨0,0⟩,⟨0,0⟩,0,false,0,0,false,0,0,0,0,false,⟨0,0,0,0⟩⟩⟩
theorem D3z:cA_ 67 [] [] (.agg iw.enc) []:=by
 refine M3 5 [(0,some (some 11))] hm A6 Tryz.func67 rfl ?_;simp only[go_sem,go_sem_proc,iw,ib];refine⟨F60 ?_,G5 rfl,G5 rfl,G5 rfl⟩
 (repeat(refine D2u (D0 _) ?_))
 exact D2u (G5 rfl) trivial
theorem C3i {w:Api.World}(hv:B7 w=0):X9 w []=A0i w:=by unfold X9;rw[zb (by simpa using hv)];rfl
theorem F0h {w:Api.World}{x:Api.Input}(hw:Wsm w)(hv:B7 w=0)(hx:cE.sm x.cE)(hi:A0v x=0)(hk:x.cS<7)(hf:0<=H5 w x.ID)(hc:A2d (w.cC.getD (H5 w x.ID).toNat dF_) x=0):
  X9 w [x]=A0i (A7d ⟨w.cM,w.cC.set (H5 w x.ID).toNat (X1 (w.cC.getD (H5 w x.ID).toNat dF_) x),w.cD,w.cB,w.cT,w.dK,w.eJ⟩ x.ID):=by
 have h:=((D0p hw hx).2.1 hv hi hk).1 hf hc
 have h1:=congrArg Prod.fst h
 have h2:=congrArg Prod.snd h;dsimp only at h1 h2;unfold X9;rw[zb (by simpa using hv)];show A0i (apN [x] w (0+1)).1=_;rw[D0o];show A0i (if(apR w x).2.2=0 then(apR w x).1 else w)=_;rw[zc h2,h1]
theorem F24 {s:Ses}(h:A4e s)(hn:s.ins.length<4096){r:Api.World×List Api.Event×Int}(he:X9 (A0a s) []=r)(hz:r.2.2=0)(hp:(s.ws.length:Int)+1<=s.win+1):
  cA_ 20 [.ptr 1 0 0 1, .sc (.slice none 0 0)] (rsO s) (sI 0) (rsO {s with ins:=s.ins++ [[]],hs:=s.hs++ [ofW r.1],ws:=s.ws++ [r.1]}):=by
 subst he;have hc:H2 [] []=0:=by kernel_rfl
 have:=C95 s [] h ⟨zm _,λx hx=>by cases hx⟩ hn hc hz hp;exact this.args_le ⟨J2.refl _,J2.nil,trivial⟩
def A7h:Api.World:=(A0i iw).1
def D46:Api.World:=(A0i A7h).1
def F6r:Api.World:=(A0i D46).1
def E5q:Api.World:=A7d ⟨A7h.cM,A7h.cC.set (H5 A7h inE.ID).toNat (X1 (A7h.cC.getD (H5 A7h inE.ID).toNat dF_) inE),A7h.cD,A7h.cB,A7h.cT,A7h.dK,A7h.eJ⟩ inE.ID
def D45:Api.World:=(A0i E5q).1
def E5r:Api.World:=(A0i D45).1
theorem F6s:B7 iw=0:=by kernel_rfl
theorem F6t:B7 A7h=0:=by kernel_rfl
theorem F9l:B7 D46=0:=by kernel_rfl
theorem F9m:B7 D45=0:=by kernel_rfl
theorem F9n:(A0i iw).2.2=0:=by kernel_rfl
theorem F9o:(A0i A7h).2.2=0:=by kernel_rfl
theorem F9p:(A0i D46).2.2=0:=by kernel_rfl
theorem F9q:(A0i E5q).2.2=0:=by kernel_rfl
theorem F9r:(A0i D45).2.2=0:=by kernel_rfl
theorem F9s:A0v inE=0:=by kernel_rfl
theorem F9t:0<=H5 A7h inE.ID:=by
 have:decide (0<=H5 A7h inE.ID)=true:=by kernel_rfl
 exact yc this
theorem F9u:A2d (A7h.cC.getD (H5 A7h inE.ID).toNat dF_) inE=0:=by kernel_rfl
theorem F9v:E5r.cC.length=1:=by kernel_rfl
theorem F9w:(E5r.cC.getD 0 dF_).dO.X=65536:=by kernel_rfl
theorem F9x:H2 [] [inE]=0:=by kernel_rfl
theorem C3p:Wsm iw:=⟨by decide,by decide,by decide,by decide,λb hb=>by rw[show b=ib from zu.1 hb];exact⟨by decide,λf hf=>by cases hf⟩,λc hc=>by cases hc⟩
theorem D24:A1z [inE]:=⟨by decide,λx hx=>by rw[zu.1 hx];exact⟨by decide,λf hf=>by cases hf⟩⟩
theorem C6x:A1z []:=⟨by decide,λx hx=>by cases hx⟩
theorem F6p {a b c d:Api.World}{h1 h2 h3:Int}{r1 r2:Api.World×List Api.Event×Int}(e1:X9 b [inE]=r1)(e2:X9 r1.1 []=r2)(c1:r1.2.2=0)(c2:r2.2.2=0):
  C6l ⟨[[],[],[]],[h1,h2,h3],0,[a,b,c,d],8⟩ 1 [inE]= .inl ([[],[inE],[]],[h1,ofW r1.1,ofW r2.1],[a,b,r1.1,r2.1]):=by
 show I8 (B5e _ 1 [inE]) 2 _=_;have s0:B5e ⟨[[],[],[]],[h1,h2,h3],0,[a,b,c,d],8⟩ 1 [inE] 0 ([[]],[h1],[a,b])= .inl ([[],[inE]],[h1,ofW r1.1],[a,b,r1.1]):=by unfold B5e;rw[show A77 ⟨[[],[],[]],[h1,h2,h3],0,[a,b,c,d],8⟩ 1 [inE] (1+0)= [inE]from rfl,show B50 (([[]],[h1],[a,b]):Acc).2.2=b from rfl,e1,zc c1];rfl
 have s1:B5e ⟨[[],[],[]],[h1,h2,h3],0,[a,b,c,d],8⟩ 1 [inE] 1 ([[],[inE]],[h1,ofW r1.1],[a,b,r1.1])= .inl ([[],[inE],[]],[h1,ofW r1.1,ofW r2.1],[a,b,r1.1,r2.1]):=by unfold B5e;rw[show A77 ⟨[[],[],[]],[h1,h2,h3],0,[a,b,c,d],8⟩ 1 [inE] (1+1)= []from rfl,show B50 (([[],[inE]],[h1,ofW r1.1],[a,b,r1.1]):Acc).2.2=r1.1 from rfl,e2,zc c2];rfl
 rw[show I8 (B5e _ 1 [inE]) 2 (B2l ⟨[[],[],[]],[h1,h2,h3],0,[a,b,c,d],8⟩ 1)=_ from A0f (A0f rfl s0) s1]
theorem D9t {i:List (List Api.Input)}{h:List Int}{re:Int}{w:List Api.World}(hi:i.length<=4096)(hh:h.length=i.length)(hw:0<w.length/\w.length<=65)(hs: ∀x∈w,Wsm x)(hm: ∀x∈i,A1z x):A4e ⟨i,h,re,w,8⟩:=⟨by show(1:Int)<=8/\(8:Int)<=64;decide,hi,hh,hw,hs,hm⟩
theorem D0m {i:List (List Api.Input)}{h:List Int}{re:Int}{w:List Api.World}{last x:Api.World}{E:List Api.Event}(k:A4e ⟨i,h,re,w,8⟩)(hn:i.length<4096)(hl:w.getD (w.length-1) dF_=last)(he:X9 last []=(x,E,0))(hp:(w.length:Int)+1<=8+1):
  cA_ 20 [.ptr 1 0 0 1, .sc (.slice none 0 0)] (rsO ⟨i,h,re,w,8⟩) (sI 0) (rsO ⟨i++ [[]],h++ [ofW x],re,w++ [x],8⟩):=by
 have h2:X9 (A0a ⟨i,h,re,w,8⟩) []=(x,E,0):=by rw[show A0a ⟨i,h,re,w,8⟩=last from hl];exact he
 have h3:=F24 k hn h2 (show(0:Int)=0 from rfl) hp;dsimp only at h3;exact h3
def C6c(a b c:Api.World):Ses:=⟨[[],[],[]],[ofW a,ofW b,ofW c],0,[iw,a,b,c],8⟩
def exA(a x y:Api.World):Acc:=([[],[inE],[]],[ofW a,ofW x,ofW y],[iw,a,x,y])
def A9j(a x y:Api.World):Ses:=⟨[[],[inE],[]],[ofW a,ofW x,ofW y],2,[iw,a,x,y],8⟩
theorem F6q {a b c x y:Api.World}{E1 E2 E3 E4 E5:List Api.Event}(e1:X9 iw []=(a,E1,0))(e2:X9 a []=(b,E2,0))(e3:X9 b []=(c,E3,0))(e4:X9 a [inE]=(x,E4,0))(e5:X9 x []=(y,E5,0))
  (ha:Wsm a)(hb:Wsm b)(hc:Wsm c)(hx:Wsm x)(hy:Wsm y)(l1:y.cC.length=1)(l2:(y.cC.getD 0 dF_).dO.X=65536):cA_ 24 [] [] (sB true) []:=by
 have k0:A4e ⟨[],[],0,[iw],8⟩:=D9t p_ rfl ⟨p_,p_⟩ (by simpa using C3p) p_
 have k1:A4e ⟨[[]],[ofW a],0,[iw,a],8⟩:=D9t (by decide) rfl ⟨p_,p_⟩ (by simpa using⟨C3p,ha⟩) (by simpa using C6x)
 have k2:A4e ⟨[[],[]],[ofW a,ofW b],0,[iw,a,b],8⟩:=D9t (by decide) rfl ⟨p_,p_⟩ (by simpa using⟨C3p,ha,hb⟩) (by simpa using C6x)
 have k3:A4e (C6c a b c):=D9t (by decide) rfl ⟨p_,p_⟩ (by simpa using⟨C3p,ha,hb,hc⟩) (by simpa using C6x)
 have k4:A4e (A9j a x y):=D9t (by decide) rfl ⟨p_,p_⟩ (by simpa using⟨C3p,ha,hx,hy⟩) (by simpa using⟨C6x,D24,C6x⟩)
 have A1:cA_ 20 [.ptr 1 0 0 1, .sc (.slice none 0 0)] (rsO (C76 iw 8)) (sI 0) (rsO ⟨[[]],[ofW a],0,[iw,a],8⟩):=D0m (last:=iw) k0 p_ rfl e1 (by show(1:Int)+1<=8+1;decide)
 have A2:cA_ 20 [.ptr 1 0 0 1, .sc (.slice none 0 0)] (rsO ⟨[[]],[ofW a],0,[iw,a],8⟩) (sI 0) (rsO ⟨[[],[]],[ofW a,ofW b],0,[iw,a,b],8⟩):=D0m (last:=a) k1 p_ rfl e2 (by show(2:Int)+1<=8+1;decide)
 have A3:cA_ 20 [.ptr 1 0 0 1, .sc (.slice none 0 0)] (rsO ⟨[[],[]],[ofW a,ofW b],0,[iw,a,b],8⟩) (sI 0) (rsO (C6c a b c)):=D0m (last:=b) k2 p_ rfl e3 (by show(3:Int)+1<=8+1;decide)
 have I1:cA_ 33 [.ptr 1 0 0 1,sI 1,A4 49 Api.Input.enc dF_ [inE]] (rsO (C6c a b c)) (sI 0) (B8w (C6c a b c) 1 (exA a x y)):=by
  have hE:C6l (C6c a b c) 1 [inE]= .inl (exA a x y):=F6p e4 e5 rfl rfl
  have:=C98 (C6c a b c) 1 [inE] k3 D24 (by show 1<3;decide) (by show(max 0 ((3:Int)-8))<=1;decide) F9x (by show 3-1<4;decide) (by show(4:Int)<=8+1;decide);unfold D1h D1i at this;rw[hE]at this;exact this
 have I2:cA_ 33 [.ptr 1 0 0 1,sI 3,A4 49 Api.Input.enc dF_ [inE]] (rsO (A9j a x y)) (sI 21) (rsO (A9j a x y)):=C97 (A9j a x y) 3 [inE] k4 (.inr (by show(3:Int)<=3;decide))
 have w4:(A9j a x y).win≠0:=by show(8:Int)≠0;decide
 have R4:cA_ 30 [.ptr 1 0 0 1] (rsO (A9j a x y)) (sI 2) (rsO (A9j a x y)):=B86 _ w4
 have F4:cA_ 21 [.ptr 1 0 0 1] (rsO (A9j a x y)) (sI 3) (rsO (A9j a x y)):=D3n _ w4
 have O4:cA_ 22 [.ptr 1 0 0 1] (rsO (A9j a x y)) (sI 0) (rsO (A9j a x y)):=A8t _ k4.win (by show 3<=100000;decide)
 have H4:cA_ 28 [.ptr 1 0 0 1] (rsO (A9j a x y)) (A4 1 A0h 0 [ofW a,ofW x,ofW y]) (rsO (A9j a x y)):=C96 _ w4 (by show 3<=100000;decide)
 have W4:cA_ 23 [.ptr 1 0 0 1] (rsO (A9j a x y)) (.agg y.enc) (rsO (A9j a x y)):=D3o (A9j a x y) w4 (by show 0<4;decide) (by show 4<=100000;decide) hy;refine E5h hm A6 Tryz.func24 rfl rfl ?_;refine B2 [] [] (B9 hm ?_) ?_
 ·refine st_ ?_;exact A9 [] [] se_
 refine B2 [(1, .cA, .ptr 1 0 0 1),(2, .cA,sI 0)] (rsO (C76 iw 8)) (B9 hm ?_) ?_
 ·refine st_ ?_;refine A0 D3z rfl (st_ ?_);refine K6 (O:= []) (E0v iw 8 C3p F6s (by decide)) ⟨p_,p_⟩ A5o p_ p_ p_ (by simp[AV.ids,F6,World.enc,A4]) rfl (st_ ?_);exact A9 [] [] se_
 refine B2 [(1, .cA, .ptr 1 0 0 1)] (rsO (C6c a b c)) (B9 hm ?_) ?_
 ·refine st_ ?_;refine Y9 (A1) (B15 rfl rfl) (st_ ?_);refine Y9 (A2) (B15 rfl rfl) (st_ ?_);refine Y9 (A3) (B15 rfl rfl) (st_ ?_);exact A9 [] [] se_
 refine B2 [(1, .cA, .ptr 1 0 0 1),(3, .eP,A4 49 Api.Input.enc dF_ [inE])] (rsO (C6c a b c)) (B9 hm ?_) ?_
 ·refine st_ ?_;refine A9 [] [] ?_;simp only[go_sem,go_sem_proc]
  all_goals first |exact eE_ |(refine F60 ?_;simp only[inE,go_sem,go_sem_proc];(repeat(first |refine D2u (D0 _) ?_ |refine D2u (G5 rfl) ?_));trivial)
 refine B2 [(1, .cA, .ptr 1 0 0 1),(4, .cA,sI 0),(5, .cA,sI 21)] (rsO (A9j a x y)) (B9 hm ?_) ?_
 ·refine st_ ?_;refine K6 I1 A5o E0g (by simp[rsO,B8w]) (by simp[upd,go_sem,go_sem_proc]) (by simp[rsO,B8w,upd]) (B15 rfl rfl) rfl (st_ ?_);refine B5 [true,true,false] [(2,8),(3,9),(4,6)] I2 (by simp[rsO]) (by simp[rsO]) (by simp[rsO,J1]) (by simp[A9j,exA,B0x,go_sem]) (st_ ?_);refine⟨⟨rfl,rfl,rfl,rfl⟩,?_⟩;exact A9 [(2,8),(3,9),(4,6)] [] se_
 refine B9 hm (st_ ?_);refine V4 R4 (st_ ?_);refine V4 F4 (st_ ?_);refine V4 O4 (st_ ?_);refine V4 H4 (st_ ?_);refine V4 W4 (st_ ?_);refine V4 W4 ?_;simp only[go_sem,go_sem_proc,l1,l2];exact⟨λ_=>by simp,p_⟩
theorem D3y:cA_ 24 [] [] (sB true) []:=by
 have p1:Wsm A7h:=B9j C3p
 have p2:Wsm D46:=B9j p1
 have p3:Wsm F6r:=B9j p2
 have hE:=D24.2 inE (zu.2 rfl)
 have e4:X9 A7h [inE]=A0i E5q:=F0h p1 F6t hE F9s (by decide) F9t F9u
 have q1:Wsm D45:=by have:=B77 p1 D24;rw[e4]at this;exact this
 have q2:Wsm E5r:=B9j q1;refine F6q (a:=A7h) (b:=D46) (c:=F6r) (x:=D45) (y:=E5r) (E1:=(A0i iw).2.1) (E2:=(A0i A7h).2.1) (E3:=(A0i D46).2.1) (E4:=(A0i E5q).2.1) (E5:=(A0i D45).2.1) ?_ ?_ ?_ ?_ ?_ p1 p2 p3 q1 q2 F9v F9w
 ·rw[C3i F6s,<-F9n];rfl
 ·rw[C3i F6t,<-F9o];rfl
 ·rw[C3i F9l,<-F9p];rfl
 ·rw[e4,<-F9q];rfl
 ·rw[C3i F9m,<-F9r];rfl
theorem E86 {w:Api.World}(hw:C5w w)(h:B7 w=0):Wsm w:=by
 obtain⟨h1,h2,h3,h4,h5,-⟩:=hw;refine⟨h1,h2,h3,h4,h5,λc hc=> ?_⟩;unfold B7 at h;dsimp only at h
 (repeat' split at h) <;> first |omega |skip
 rename_i h6;have h7:A5i w=true:=by simpa using h6
 unfold A5i at h7;simp only[zi]at h7;have:=E87 (qm.1 h7.1.1.1 c hc);show c.cL.cQ.length<=1048576;omega
theorem E0w(w:Api.World)(win:Int)(hw:C5w w)(hv:B7 w≠0):cA_ 19 [.agg w.enc,sI win] [] (.tup [.sc (.pointer none),sI 18]) []:=by
 refine enT hm A6 Tryz.func19 rfl rfl (st_ ?_);refine A0 (B7i w hw) rfl (st_ ?_);rw[zc (by simpa using hv)]
 all_goals exact eE_
end Go.Abs
end
