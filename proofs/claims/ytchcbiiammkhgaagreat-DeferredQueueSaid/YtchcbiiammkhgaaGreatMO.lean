/- A part of the proof: contracts of functions that the statement reaches. -/
import Derived.Test.YtchcbiiammkhgaaGreatMN
set_option linter.unusedSimpArgs false
set_option linter.unusedVariables false
set_option linter.unnecessarySimpa false
set_option maxRecDepth 100000
set_option maxHeartbeats 2000000
noncomputable section
namespace Go.Abs
open Go.Proofs
open Api
open Go.Sort
theorem G4b(a b c d:Int):X6 [a,b,c,d]=if a≠0 then a else if b≠0 then b else if c≠0 then c else d:=by unfold X6;simp only[List.length_cons,List.length_nil,Nat.zero_add,Nat.reduceAdd,D4,A2t];by_cases ha:a=0 <;> by_cases hb:b=0 <;> by_cases hc:c=0 <;> by_cases hd:d=0 <;> simp[ha,hb,hc,hd]
def E25(a b:PairKey):Int:=B7b [PairKey.BodyA,PairKey.FixtureA,PairKey.BodyB,PairKey.FixtureB] a b
theorem G25(a b:PairKey):Z6 a b=E25 a b:=by unfold Z6 E25;dsimp only;rw[G4b,C0o,C0o,C0o,C0o];simp only[B7b];by_cases h:B83 a.FixtureB b.FixtureB=0 <;> simp[h]
def G2h(x:PairKey):KEl 4:=⟨[x.BodyA,x.FixtureA,x.BodyB,x.FixtureB],rfl⟩
def F6g(y:KEl 4):PairKey:=⟨y.1.getD 0 0,y.1.getD 1 0,y.1.getD 2 0,y.1.getD 3 0⟩
theorem F6h: ∀y:KEl 4,kav y=(F6g y).enc
 |⟨[a,b,c,d],_⟩=>rfl
def E5e(l:List PairKey):List PairKey:=B17 G2h F6g E25 l
theorem D7i(l:List PairKey):(E5e l).length=l.length:=B7k (B0k _) l
theorem B8h(id:Nat)(l:List PairKey)(hl:l.length<4611686018427387904):
  A1 Tryz.prog B71 [.sl id 0 l.length l.length, .fn (.func B3m) [] []] [(id, .arr 4 (A8 PairKey.enc default l))] (.tup []) [(id, .arr 4 (A8 PairKey.enc default (E5e l)))]:=
 E0d (toK:=G2h) (fromK:=F6g) (cf:=E25) Tryz.laySF_PairKey (by decide) (by kernel_rfl) (λw=>X2 (by kernel_rfl)) (λw=>T1 (by kernel_rfl)) default rfl (λx=>rfl) F6h (B0k _) (λargs w=>A70 (by kernel_rfl) args)
  (λx y=>by have:=B4b x y;rwa[G25]at this) id l hl
theorem E83(l:List sap_Entry): ∀i,i<=l.length-> ∀p∈nbP l i,p.1∈l/\p.2∈l
 |0,_,p,hp=>by simp[nbP]at hp
 |i+1,h,p,hp=>by
  rw[nbP,List.mem_append]at hp;rcases hp with hp |hp
  ·exact E83 l i (by omega) p hp
  ·unfold nbI at hp;obtain⟨b,hb,rfl⟩:=List.mem_map.1 hp;exact⟨B7 default (by omega),List.mem_of_mem_drop ((List.takeWhile_prefix (B5l (l.getD i default))).subset hb)⟩
theorem F3u {l:List sap_Entry}{n:Int}(h: ∀x∈l,0<=x.ID/\x.ID<n): ∀p∈B1u l,(0<=p.1/\p.1<n)/\0<=p.2/\p.2<n:=by
 intro p hp;unfold B1u C9z at hp;rw[D77 (show SWO (ltOf D1w)from B0k _) (λ_=>rfl)]at hp;unfold C3o at hp;obtain⟨q,hq,e⟩:=List.mem_filterMap.1 hp;have hm:=E83 _ _ (Nat.le_refl _) q hq
 have hs: ∀x∈A7t (A4y l),0<=x.ID/\x.ID<n:=λx hx=>by
  unfold A7t at hx;rw[D77 (show SWO (ltOf F0m)from B0k _) (λ_=>rfl)]at hx;rcases E5t l [] x hx with h1 |h1
  ·cases h1
  ·exact h x h1
 have h1:=hs _ hm.1
 have h2:=hs _ hm.2;unfold pr1 at e;split at e
 ·injection e with e;subst e;dsimp only;split <;> split <;> omega
 ·cases e
def B2d(s:broadphase_scene)(p:P2):Option PairKey:=if A0f s (s.refs.getD p.1.toNat default) (s.refs.getD p.2.toNat default)=true then some (A32 s (s.refs.getD p.1.toNat default) (s.refs.getD p.2.toNat default))else none
def fpU(l:List Body)(js:List Joint):List PairKey:=(B1u (A78 l js).entries).filterMap (B2d (A78 l js))
def fpL(l:List Body)(js:List Joint):List PairKey:=E5e (fpU l js)
theorem D7g(l:List sap_Entry)(hl:l.length<=480):(B1u l).length<=230400:=by unfold B1u;rw[D7f];exact(D7h l hl).1
theorem D1l(l:List Body)(js:List Joint)(hl:l.length<=60)(hq: ∀b∈l,b.Fixtures.length<=8):(fpL l js).length<=230400:=by
 unfold fpL;rw[D7i];have h1:(fpU l js).length<=(B1u (A78 l js).entries).length:=List.length_filterMap_le ..
 have h2:=(F39 hq).2
 have h3:=D7g (A78 l js).entries (by show(scE l (scR l)).length<=_;rw[D10];omega);omega
theorem B1z(l:List Body)(js:List Joint)(hl:l.length<=60)(hq: ∀b∈l,b.Fixtures.length<=8)(hv: ∀b∈l,∀f∈b.Fixtures,f.Shape.Vertices.length<=1048576)(hj:js.length<=1048576):A1 Tryz.prog C1b [A2 20 Body.enc default l,A2 24 Joint.enc default js] [] (A2 4 PairKey.enc default (fpL l js)) []:=by
 have hS:=C3s l js hl hq hv
 have hR:=F39 hq
 have hP:=F3u (l:=(A78 l js).entries) (n:=(scR l).length) (λx hx=>G2m hx)
 have hle:(A78 l js).entries.length<=480:=by show(scE l (scR l)).length<=_;rw[D10];omega
 have hlen:=D7g _ hle
 have hC:=E7y _ hle
 have hrefs:(A78 l js).refs=scR l:=rfl
 have hbod:(A78 l js).bodies=l:=rfl
 have hjs:(A78 l js).joints=js:=rfl;unfold fpL fpU;generalize A78 l js=s at hS hP hlen hC hrefs hbod hjs⊢;generalize hps:B1u s.entries=ps at hP hlen hC⊢;refine en1 hm A4 Tryz.func153 rfl rfl ?_;simp only[go_sem,go_sem_proc];refine A0 hS rfl ?_;simp only[go_sem,go_sem_proc];refine A0 hC rfl ?_;simp only[go_sem,go_sem_proc];refine B0 hm (ι:= {i:Nat // i<=ps.length}) (λi=> [(5, .share, .ptr 96 0 0 1),(6,mdA i.1, .sl 1 0 ((ps.take i.1).filterMap (B2d s)).length ((ps.take i.1).filterMap (B2d s)).length),(16, .share,A2 2 p2E default ps),(17, .share,sI ps.length),(18, .share,sI (i.1:Nat))]) (λi=> [(96, .box s.enc),(1, .arr 4 (A8 PairKey.enc default ((ps.take i.1).filterMap (B2d s))))]) (λi=>ps.length-i.1) ⟨0,Nat.zero_le _⟩ ?_ ?_
 ·simp only[List.take_zero,List.filterMap_nil];refine C0 [] [1] ?_;simp only[go_sem,go_sem_proc]
 ·rintro⟨i,hi⟩;dsimp only;have hn:i<ps.length->(ps.take (i+1)).filterMap (B2d s)=(ps.take i).filterMap (B2d s)++(B2d s (ps.getD i default)).toList:=λh=>C3k h
  have hfin:ps.length<=i->(ps.take i).filterMap (B2d s)=ps.filterMap (B2d s):=λh=>by rw[show i=ps.length by omega,List.take_length]
  have hln:=C9g (f:=B2d s) (l:=ps) i;generalize(ps.take i).filterMap (B2d s)=v at hn hfin hln⊢;simp only[go_sem,go_sem_proc];by_cases hlt:i<ps.length;rotate_left
  ·rw[if_neg (by omega)];refine E6 (B8h 1 v (by omega)) (by simp[okO]) (by simp[okO]) (by simp) (by simp[upd]) (by simp) ?_ rfl ?_
   ·intro a ha j hj;obtain⟨k,hk⟩:=List.getElem?_of_mem ha;have:=N3 hk j hj;simp[F4,AV.ids]at this;subst this;rfl
   simp only[go_sem,go_sem_proc];rw[<-hfin (by omega)];rw[D7i];exact⟨rfl,I4 _⟩
  rw[if_pos (by omega)];replace hn:=hn hlt;have hp:=hP _ (B7 (l:=ps) default hlt);rw[show B2d s (ps.getD i default)=if A0f s (s.refs.getD (ps.getD i default).1.toNat default) (s.refs.getD (ps.getD i default).2.toNat default)=true then some (A32 s (s.refs.getD (ps.getD i default).1.toNat default) (s.refs.getD (ps.getD i default).2.toNat default))else none from rfl]at hn;generalize ps.getD i default=p at hn hp⊢;obtain⟨p1,p2⟩:=p;dsimp only at hp hn;have hx:=hR.1 _ (B7 (l:=scR l) (i:=p1.toNat) default (by omega))
  have hy:=hR.1 _ (B7 (l:=scR l) (i:=p2.toNat) default (by omega));rw[<-hrefs]at hx hy;have hxl:p1.toNat<s.refs.length:=by rw[hrefs];omega
  have hyl:p2.toNat<s.refs.length:=by rw[hrefs];omega
  generalize s.refs.getD p1.toNat default=x at hx hn⊢;generalize s.refs.getD p2.toNat default=y at hy hn⊢;obtain⟨x1,x2,x3,x4⟩:=hx;obtain⟨y1,y2,y3,y4⟩:=hy;refine⟨bE_,bE_,by dsimp only;omega,bE_,by dsimp only;omega,?_⟩;have bx:0<=x.body/\x.body<s.bodies.length:=⟨x1,by rw[hbod];exact x2⟩
  have by':0<=y.body/\y.body<s.bodies.length:=⟨y1,by rw[hbod];exact y2⟩;refine A0 (B7f s x y bx by' ⟨x3,by rw[hbod];exact x4⟩ ⟨y3,by rw[hbod];exact y4⟩ (by rw[hjs];exact hj)) rfl ?_;generalize A0f s x y=ok at hn⊢;cases ok with
  |false=>rw[if_neg (by simp)]at hn;simp only[Option.toList,List.append_nil]at hn;simp only[go_sem,go_sem_proc];refine A7 ⟨i+1,by omega⟩ (by show ps.length-(i+1)<ps.length-i;omega) ?_;simp only[hn];refine C0 [] [] ?_;simp only[go_sem,go_sem_proc];exact eE_
  |true=>rw[if_pos rfl]at hn;simp only[Option.toList]at hn;simp only[go_sem,go_sem_proc];refine A0 (C2d s x y bx by') rfl ?_;simp only[go_sem,go_sem_proc];refine⟨bE_,?_⟩;refine A7 ⟨i+1,by omega⟩ (by show ps.length-(i+1)<ps.length-i;omega) ?_;simp only[hn];refine C0 [] [] ?_;simp only[go_sem,go_sem_proc];exact eE_
end Go.Abs
end
noncomputable section
namespace Go.Abs
open Go.Proofs
open Api
theorem F3z(a b:manifold_placed):(U5 a b).1.Points.length<=2:=by
 unfold U5;dsimp only;split
 ·exact Nat.zero_le _
 ·exact Nat.le_succ_of_le (D4n ..)
theorem E5f(a b:manifold_placed):(H5 a b).1.Points.length<=2:=by
 unfold H5;dsimp only;generalize(if 0<(D2 a.core b.core).2 then S8 (M0 (b.core.getD 0 default) (W6 a.core (b.core.getD 0 default))) (P8 a.core (D2 a.core b.core).1)else(P8 a.core (D2 a.core b.core).1,(D2 a.core b.core).2))=dl;split
 ·exact Nat.zero_le _
 ·exact Nat.le_succ_of_le (D4n ..)
theorem E8h(a b:manifold_placed)(i:Int):(clL a b i).length<=2:=Nat.le_trans (D1o a b i _) (D1p a b i)
theorem F5a(a b:manifold_placed)(i:Int):(D07 a b i).1.Points.length<=2:=by
 unfold D07;split
 ·exact Nat.zero_le _
 ·exact E8h a b i
theorem E4r(m:Manifold)(ok:Bool)(h:m.Points.length<=2):(V2 m ok).1.Points.length<=2:=by
 unfold V2;split
 ·exact Nat.zero_le _
 ·exact h
theorem F2p(a b:manifold_placed):(L4 a b).1.Points.length<=2:=by
 unfold L4;dsimp only;generalize D2 a.core b.core=p;generalize D2 b.core a.core=q;generalize(if p.2<q.2 then q.2 else p.2)=mx;split
 ·exact Nat.zero_le _
 split
 ·exact F5a ..
 split
 ·exact Nat.zero_le _
 ·refine E4r _ _ ?_;show(E4a _).length<=2;rw[show(E4a (clL b a q.1)).length=(clL b a q.1).length from T4 (λs:List ContactPoint=>s.length) (λi s=>by simp) _ _];exact E8h ..
theorem D3e(a:Shape)(ta:Transform)(b:Shape)(tb:Transform):(Y8 a ta b tb).1.Points.length<=2:=by
 unfold Y8;generalize J6 a ta=p;generalize J6 b tb=q;generalize E7 a=x;generalize E7 b=y;have h1:=F3z p q
 have h2:=E5f p q
 have h3:=E5f q p
 have h4:=F2p p q
 have h5:=E4r (H5 q p).1 (H5 q p).2 h3;dsimp only;split
 ·exact Nat.zero_le _
 split
 ·exact h1
 split
 ·exact h2
 split
 ·exact h5
 ·exact h4
def F06(w:Api.World)(k:PairKey):Manifold:=match A6o w.Contacts k w.Contacts.length with
 |some i=>(w.Contacts.getD i default).Manifold
 |none=>⟨⟨0,0⟩,[]⟩
def A6y(w:Api.World)(k:PairKey):Option Contact:=
 if((G5 w k.BodyA k.FixtureA).1.Sensor||(G5 w k.BodyB k.FixtureB).1.Sensor)=true then none
 else if(Y8 (G5 w k.BodyA k.FixtureA).1.Shape (G5 w k.BodyA k.FixtureA).2.1 (G5 w k.BodyB k.FixtureB).1.Shape (G5 w k.BodyB k.FixtureB).2.1).2=false then none
 else some ⟨k,wsM (F06 w k) (Y8 (G5 w k.BodyA k.FixtureA).1.Shape (G5 w k.BodyA k.FixtureA).2.1 (G5 w k.BodyB k.FixtureB).1.Shape (G5 w k.BodyB k.FixtureB).2.1).1⟩
def B4r(w:Api.World):List Contact:=if F2 w=0 then(fpL w.Bodies w.Joints).filterMap (A6y w)else []
def Wfw(w:Api.World):Prop:=w.Bodies.length<=60/\ ∀b∈w.Bodies,b.Fixtures.length<=8
theorem F1s {w:Api.World}{k:PairKey}{c:Contact}(h:A6y w k=some c):c.Manifold.Points.length<=2:=by
 unfold A6y at h;split at h
 ·cases h
 split at h
 ·cases h
 injection h with h;subst h;show(wsM _ _).Points.length<=2;rw[G0k];exact D3e ..
theorem D12(w:Api.World)(hf:Wfw w):(B4r w).length<=230400/\ ∀c∈B4r w,c.Manifold.Points.length<=2:=by
 unfold B4r;split
 ·refine⟨Nat.le_trans (List.length_filterMap_le ..) (D1l _ _ hf.1 hf.2),λc hc=> ?_⟩;obtain⟨k,_,hk⟩:=List.mem_filterMap.1 hc;exact F1s hk
 ·simp
theorem B3a {w:Api.World}(hw:Wsm w)(id n:Int):(G5 w id n).1.Shape.Vertices.length<=1048576:=by
 unfold G5;dsimp only;split
 ·exact Nat.zero_le _
 ·rename_i h;simp only[Bool.or_eq_true,decide_eq_true_eq,not_or,Int.not_lt,Int.not_le]at h;have hl:=A24 w id;exact(hw.2.2.2.2.1 _ (B7 default (by omega))).2 _ (B7 default (by omega))
theorem F9a {w:Api.World}(hw:Wsm w)(k:PairKey):(F06 w k).Points.length<=1048576:=by
 unfold F06;cases hf:A6o w.Contacts k w.Contacts.length with
 |none=>exact Nat.zero_le _
 |some i=>exact hw.2.2.2.2.2 _ (B7 default (C9f hf).1)
theorem D5m(w:Api.World)(hw:Wsm w)(hf:Wfw w):A1 Tryz.prog D31 [.agg w.enc] [] (A2 7 Contact.enc default (B4r w)) []:=by
 refine en1 hm A4 Tryz.func96 rfl rfl ?_;simp only[go_sem,go_sem_proc];refine A0 (S3 w hw) rfl ?_;simp only[go_sem,go_sem_proc];unfold B4r;by_cases hv:F2 w=0;rotate_left
 ·rw[if_pos (by simpa using hv),if_neg hv];exact O9 rfl
 rw[if_neg (by simpa using hv),if_pos hv];refine K1 ev_ J8 (B4c w.Contacts hw.2.2.1) ?_;simp only[go_sem,go_sem_proc];have hFP:=B1z w.Bodies w.Joints hf.1 hf.2 (λb hb f hfx=>(hw.2.2.2.2.1 b hb).2 f hfx) hw.2.1
 have hFl:=D1l w.Bodies w.Joints hf.1 hf.2;generalize fpL w.Bodies w.Joints=ks at hFP hFl⊢;refine A0 hFP rfl ?_;simp only[go_sem,go_sem_proc];refine B0 hm (ι:= {i:Nat // i<=ks.length}) (λi=> [(1, .thaw, .fptr w.enc),(3, .share, .mp 2),(4,mdA i.1, .sl 1 0 ((ks.take i.1).filterMap (A6y w)).length ((ks.take i.1).filterMap (A6y w)).length),(28, .share,A2 4 PairKey.enc default ks),(29, .share,sI ks.length),(30, .share,sI (i.1:Nat))]) (λi=> [(1, .arr 7 (A8 Contact.enc default ((ks.take i.1).filterMap (A6y w)))),(2, .mapS 4 (ibk w.Contacts w.Contacts.length))]) (λi=>ks.length-i.1) ⟨0,Nat.zero_le _⟩ ?_ ?_
 ·simp only[List.take_zero,List.filterMap_nil];refine C0 [(2,384)] [1] ?_;simp only[go_sem,go_sem_proc,A0g];exact eE_
 ·rintro⟨i,hi⟩;dsimp only;have hn:i<ks.length->(ks.take (i+1)).filterMap (A6y w)=(ks.take i).filterMap (A6y w)++(A6y w (ks.getD i default)).toList:=λh=>C3k h
  have hfin:ks.length<=i->(ks.take i).filterMap (A6y w)=ks.filterMap (A6y w):=λh=>by rw[show i=ks.length by omega,List.take_length]
  have hln:=C9g (f:=A6y w) (l:=ks) i;generalize(ks.take i).filterMap (A6y w)=v at hn hfin hln⊢;simp only[go_sem,go_sem_proc];by_cases hlt:i<ks.length;rotate_left
  ·rw[if_neg (by omega),<-hfin (by omega)];exact eE_
  rw[if_pos (by omega)];refine⟨bE_,?_⟩;replace hn:=hn hlt;generalize ks.getD i default=k at hn⊢;refine A0 (B2s w k.BodyA k.FixtureA hw.1) rfl ?_;simp only[go_sem,go_sem_proc];refine A0 (B2s w k.BodyB k.FixtureB hw.1) rfl ?_;have ha:=B3a hw k.BodyA k.FixtureA
  have hb:=B3a hw k.BodyB k.FixtureB
  have hom:=F9a hw k
  have hu:=A6y.eq_1 w k
  have hcl:=D3e (G5 w k.BodyA k.FixtureA).1.Shape (G5 w k.BodyA k.FixtureA).2.1 (G5 w k.BodyB k.FixtureB).1.Shape (G5 w k.BodyB k.FixtureB).2.1;generalize G5 w k.BodyA k.FixtureA=A at hu ha hcl⊢;generalize G5 w k.BodyB k.FixtureB=B at hu hb hcl⊢;simp only[go_sem,go_sem_proc];by_cases hs:(A.1.Sensor||B.1.Sensor)=true
  ·rw[if_pos hs]at hu⊢;rw[hu]at hn;simp only[Option.toList,List.append_nil]at hn;refine A7 ⟨i+1,by omega⟩ (by show ks.length-(i+1)<ks.length-i;omega) ?_;simp only[hn];refine C0 [] [] ?_;simp only[go_sem,go_sem_proc];exact eE_
  rw[if_neg hs]at hu⊢;refine A0 (D0g A.1.Shape A.2.1 B.1.Shape B.2.1 ha hb) rfl ?_;generalize Y8 A.1.Shape A.2.1 B.1.Shape B.2.1=C at hu hcl⊢;obtain⟨C1,C2⟩:=C;dsimp only at hu hcl;cases C2 with
  |false=>rw[if_pos rfl]at hu;rw[hu]at hn;simp only[Option.toList,List.append_nil]at hn;simp only[go_sem,go_sem_proc];refine A7 ⟨i+1,by omega⟩ (by show ks.length-(i+1)<ks.length-i;omega) ?_;simp only[hn];refine C0 [] [] ?_;simp only[go_sem,go_sem_proc];exact eE_
  |true=>
   rw[if_neg (by simp)]at hu;rw[hu]at hn;simp only[Option.toList]at hn;have hat:=F2w w.Contacts k;unfold F06 at hn hom;cases hfc:A6o w.Contacts k w.Contacts.length with
   |none=>
    rw[hfc]at hat hn hom;simp only[Option.map_none]at hat
    dsimp only at hn hom;simp only[go_sem,go_sem_proc,hat,Option.getD_none,Option.isSome_none];refine A5j (B45 ⟨⟨0,0⟩,[]⟩ C1 hom (by omega)) ?_;simp only[A07,go_sem,go_sem_proc];refine⟨O9 rfl,bE_,?_⟩;refine A7 ⟨i+1,by omega⟩ (by show ks.length-(i+1)<ks.length-i;omega) ?_;simp only[hn];refine C0 [] [] ?_;simp only[go_sem,go_sem_proc];exact eE_
   |some q=>
    rw[hfc]at hat hn hom;have hq:=(C9f hfc).1;simp only[Option.map_some]at hat
    dsimp only at hn hom;simp only[go_sem,go_sem_proc,hat,Option.getD_some,Option.isSome_some];refine⟨bE_,?_⟩;refine A0 (B45 (w.Contacts.getD q default).Manifold C1 hom (by omega)) rfl ?_;simp only[go_sem,go_sem_proc];refine⟨bE_,?_⟩;refine A7 ⟨i+1,by omega⟩ (by show ks.length-(i+1)<ks.length-i;omega) ?_;simp only[hn];refine C0 [] [] ?_;simp only[go_sem,go_sem_proc];exact eE_
def P1(bs:List SolverBody)(i:Int):SolverBody:=if((decide (i<0))||(decide ((bs.length:Int)<=i)))=true then((⟨(⟨0,0⟩:Vec),0,0,0⟩:SolverBody))else((bs.getD i.toNat default))
theorem C04(bs:List SolverBody)(i:Int):A1 Tryz.prog D56 [A2 5 SolverBody.enc default bs,sI i] [] (.agg (P1 bs i).enc) []:=by refine L5 18 [(4,some (some 5))] hm A4 Tryz.func511 rfl ?_;have:=P1.eq_1 bs i;exact D1
def W8(r:Row)(bs:List SolverBody):Int:=let v1:=(P1 bs r.A);let v2:=(P1 bs r.B);let v3:=(M0 v2.Velocity v1.Velocity);let v4:=(O8 r.Normal v3);let v5:=(B5 v2.AngularVelocity r.ArmB);let v6:=(C7 v4 v5);let v7:=(B5 v1.AngularVelocity r.ArmA);let v8:=(sat (sat v6-sat v7));v8
theorem A7b(r:Row)(bs:List SolverBody):A1 Tryz.prog B4v [.agg r.enc,A2 5 SolverBody.enc default bs] [] (sI (W8 r bs)) []:=by
 refine en1 hm A4 Tryz.func438 rfl rfl ?_;have:=C04
 have:=K6
 have:=A0a
 have:=L8
 have:=M9
 have:=Q9
 have:=W8.eq_1 r bs;exact D1
def M2(a:Int)(i:Int):Int:=let v1:=(B5 a a);let v2:=(B5 v1 i);v2
theorem B9o(a:Int)(i:Int):A1 Tryz.prog B8r [sI a,sI i] [] (sI (M2 a i)) []:=by
 refine en1 hm A4 Tryz.func512 rfl rfl ?_;have:=L8
 have:=M2.eq_1 a i;exact D1
def A3j(r:Row)(v6:Int)(v7:Int)(i1:Nat)(s1:Int):Int:=let v8:=(C7 s1 (([v6,v7,r.Softness]).getD i1 0));v8
def R9(r:Row)(bs:List SolverBody):Int:=let v1:=(P1 bs r.A);let v2:=(P1 bs r.B);let v3:=(C7 v1.InvMass v2.InvMass);let v4:=(O8 r.Normal r.Normal);let v5:=(B5 v3 v4);let v6:=(M2 r.ArmA v1.InvInertia);let v7:=(M2 r.ArmB v2.InvInertia);let s1:=itr (A3j r v6 v7) 3 v5;if s1<1 then(0)else(let v9:=(Y6 65536 s1);v9)
theorem M3(r:Row)(bs:List SolverBody):A1 Tryz.prog B65 [.agg r.enc,A2 5 SolverBody.enc default bs] [] (sI (R9 r bs)) []:=by
 refine en1 hm A4 Tryz.func436 rfl rfl ?_;have:=C04
 have:=M9
 have:=A0a
 have:=L8
 have:=B9o
 have:=A68
 have:=R9.eq_1 r bs
 have:=λi_ s_=>A3j.eq_1 r (M2 r.ArmA (P1 bs r.A).InvInertia) (M2 r.ArmB (P1 bs r.B).InvInertia) i_ s_
 have:=λx_ Q_ σ_=> @lp_ Tryz.prog Tryz.f436.ntmps [] x_ Q_ σ_ hm (λ_=>True) (λ_=>True) 3 (λi_=> [(7, .share,sI (itr (A3j r (M2 r.ArmA (P1 bs r.A).InvInertia) (M2 r.ArmB (P1 bs r.B).InvInertia)) i_ (B5 (C7 (P1 bs r.A).InvMass (P1 bs r.B).InvMass) (O8 r.Normal r.Normal)))),(41, .share, .sl 672 0 3 3),(42, .share,sI 3),(43, .share,sI (i_:Int))]) (λi_=> [(672, .arr 1 (A8 B9 0 ([(M2 r.ArmA (P1 bs r.A).InvInertia),(M2 r.ArmB (P1 bs r.B).InvInertia),r.Softness])))]) [] trivial (λ_ _=>trivial) (by simp[go_sem]) (by simp[go_sem,A6]) (by simp[go_sem]);exact J1
def P0(r:Row)(bs:List SolverBody)(p:Int):(List SolverBody):=let v1:=bs;if((decide (0<=r.A))&&(decide (r.A<(v1.length:Int))))=true then(let v2:=(B5 p (v1.getD r.A.toNat default).InvMass);let v3:=(R0 r.Normal v2);let v4:=(M0 (v1.getD r.A.toNat default).Velocity v3);let v5:=(B5 p r.ArmA);let v6:=(B5 v5 (v1.getD r.A.toNat default).InvInertia);let v7:=(sat (sat (v1.getD r.A.toNat default).AngularVelocity-sat v6));if((decide (0<=r.B))&&(decide (r.B<(v1.length:Int))))=true then(let v8:=(B5 p ((v1.set r.A.toNat (⟨v4,v7,(v1.getD r.A.toNat default).InvMass,(v1.getD r.A.toNat default).InvInertia⟩:SolverBody)).getD r.B.toNat default).InvMass);let v9:=(R0 r.Normal v8);let v10:=(A18 ((v1.set r.A.toNat (⟨v4,v7,(v1.getD r.A.toNat default).InvMass,(v1.getD r.A.toNat default).InvInertia⟩:SolverBody)).getD r.B.toNat default).Velocity v9);let v11:=(B5 p r.ArmB);let v12:=(B5 v11 ((v1.set r.A.toNat (⟨v4,v7,(v1.getD r.A.toNat default).InvMass,(v1.getD r.A.toNat default).InvInertia⟩:SolverBody)).getD r.B.toNat default).InvInertia);let v13:=(C7 ((v1.set r.A.toNat (⟨v4,v7,(v1.getD r.A.toNat default).InvMass,(v1.getD r.A.toNat default).InvInertia⟩:SolverBody)).getD r.B.toNat default).AngularVelocity v12);((v1.set r.A.toNat (⟨v4,v7,(v1.getD r.A.toNat default).InvMass,(v1.getD r.A.toNat default).InvInertia⟩:SolverBody)).set r.B.toNat (⟨v10,v13,((v1.set r.A.toNat (⟨v4,v7,(v1.getD r.A.toNat default).InvMass,(v1.getD r.A.toNat default).InvInertia⟩:SolverBody)).getD r.B.toNat default).InvMass,((v1.set r.A.toNat (⟨v4,v7,(v1.getD r.A.toNat default).InvMass,(v1.getD r.A.toNat default).InvInertia⟩:SolverBody)).getD r.B.toNat default).InvInertia⟩:SolverBody)))else((v1.set r.A.toNat (⟨v4,v7,(v1.getD r.A.toNat default).InvMass,(v1.getD r.A.toNat default).InvInertia⟩:SolverBody))))else(if((decide (0<=r.B))&&(decide (r.B<(v1.length:Int))))=true then(let v14:=(B5 p (v1.getD r.B.toNat default).InvMass);let v15:=(R0 r.Normal v14);let v16:=(A18 (v1.getD r.B.toNat default).Velocity v15);let v17:=(B5 p r.ArmB);let v18:=(B5 v17 (v1.getD r.B.toNat default).InvInertia);let v19:=(C7 (v1.getD r.B.toNat default).AngularVelocity v18);(v1.set r.B.toNat (⟨v16,v19,(v1.getD r.B.toNat default).InvMass,(v1.getD r.B.toNat default).InvInertia⟩:SolverBody)))else(v1))
theorem A5b(r:Row)(bs:List SolverBody)(p:Int)(h0:bs.length<=1048576):A1 Tryz.prog B7u [.agg r.enc,A2 5 SolverBody.enc default bs,sI p] [] (.sl 1 0 (P0 r bs p).length (P0 r bs p).length) [(1, .arr 5 (A8 SolverBody.enc default (P0 r bs p)))]:=by
 refine H8 hm A4 Tryz.func317 rfl rfl ?_;have:=A9q
 have:=L8
 have:=A76
 have:=K6
 have:=Q9
 have:=A5e
 have:=M9
 have:=P0.eq_1 r bs p;exact J1
def K4(j:Joint)(a:Body)(b:Body):Vec×Vec:=let v1:=(X4 b.Transform j.AnchorB);if(j.Kind != 5)=true then(let v2:=(X4 a.Transform j.AnchorA);(v2,v1))else((j.AnchorA,v1))
theorem A3a(j:Joint)(a:Body)(b:Body):A1 Tryz.prog C0j [.agg j.enc, .agg a.enc, .agg b.enc] [] (.tup [.agg (K4 j a b).1.enc, .agg (K4 j a b).2.enc]) []:=by
 refine A63 27 [(6,some (some 2)),(7,some (some 2))] hm A4 Tryz.func433 rfl ?_;have:=A7h
 have:=K4.eq_1 j a b;exact D1
def X8(j:Joint)(a:Body)(b:Body):Int:=if(j.Kind==5)=true then(0)else(let v1:=(I6 a.Transform.Angle);let v2:=(I6 j.ReferenceAngle);let v3:=(I6 (IntKind.i64.wrap (v1+v2)));let v4:=(A0d v3 b.Transform.Angle);v4)
theorem A72(j:Joint)(a:Body)(b:Body):A1 Tryz.prog C20 [.agg j.enc, .agg a.enc, .agg b.enc] [] (sI (X8 j a b)) []:=by
 refine en1 hm A4 Tryz.func426 rfl rfl ?_;have:=A42
 have:=B9l
 have:=X8.eq_1 j a b;exact D1
def X3(j:Joint)(a:Body):Vec:=let v1:=(B1o a.Transform.Angle);let v2:=(A8y v1 j.Axis);v2
theorem B1e(j:Joint)(a:Body):A1 Tryz.prog D2c [.agg j.enc, .agg a.enc] [] (.agg (X3 j a).enc) []:=by
 refine L5 12 [(4,some (some 2))] hm A4 Tryz.func428 rfl ?_;have:=C2b
 have:=B7j
 have:=X3.eq_1 j a;exact D1
def A3m(j:Joint)(a:Body)(b:Body):Int:=let v1:=(K4 j a b);let v2:=(X3 j a);let v3:=(M0 v1.2 v1.1);let v4:=(O8 v2 v3);v4
theorem C7k(j:Joint)(a:Body)(b:Body):A1 Tryz.prog C62 [.agg j.enc, .agg a.enc, .agg b.enc] [] (sI (A3m j a b)) []:=by
 refine en1 hm A4 Tryz.func430 rfl rfl ?_;have:=A3a
 have:=B1e
 have:=K6
 have:=A0a
 have:=A3m.eq_1 j a b;exact D1
def A16(j:Joint)(a:Body)(b:Body):Vec:=let v1:=(K4 j a b);let v2:=(M0 v1.2 v1.1);v2
theorem A83(j:Joint)(a:Body)(b:Body):A1 Tryz.prog B66 [.agg j.enc, .agg a.enc, .agg b.enc] [] (.agg (A16 j a b).enc) []:=by
 refine L5 19 [(6,some (some 2))] hm A4 Tryz.func418 rfl ?_;have:=A3a
 have:=K6
 have:=A16.eq_1 j a b;exact D1
def A35(j:Joint)(a:Body)(b:Body):Int:=let v1:=(A16 j a b);let v2:=(A4k v1);v2
theorem B12(j:Joint)(a:Body)(b:Body):A1 Tryz.prog C1i [.agg j.enc, .agg a.enc, .agg b.enc] [] (sI (A35 j a b)) []:=by
 refine en1 hm A4 Tryz.func417 rfl rfl ?_;have:=A83
 have:=V0
 have:=A35.eq_1 j a b;exact D1
def A1v(j:Joint)(a:Body)(b:Body):Int:=let v1:=(A35 j a b);if v1<j.Lower then(let v2:=(sat (sat v1-sat j.Lower));v2)else(if j.Upper<v1 then(let v3:=(sat (sat v1-sat j.Upper));v3)else(0))
theorem B6l(j:Joint)(a:Body)(b:Body):A1 Tryz.prog B57 [.agg j.enc, .agg a.enc, .agg b.enc] [] (sI (A1v j a b)) []:=by
 refine en1 hm A4 Tryz.func422 rfl rfl ?_;have:=B12
 have:=Q9
 have:=A1v.eq_1 j a b;exact D1
def H9(e:Int)(dt:Int):Int:=let v1:=(Y6 e dt);let v2:=(B5 13107 v1);let v3:=(Q0 v2 (-262144) 262144);v3
theorem U7(e:Int)(dt:Int):A1 Tryz.prog B9y [sI e,sI dt] [] (sI (H9 e dt)) []:=by
 refine en1 hm A4 Tryz.func421 rfl rfl ?_;have:=A68
 have:=L8
 have:=A4x
 have:=H9.eq_1 e dt;exact D1
def X7(j:Joint)(a:Body)(b:Body)(ia:Int)(ib:Int)(n:Vec)(s:List SolverBody):Row:=let v1:=(K4 j a b);let v2:=(E5 a);let v3:=(M0 v1.1 v2);let v4:=(A1d v3 n);let v5:=(E5 b);let v6:=(M0 v1.2 v5);let v7:=(A1d v6 n);let v8:=(R9 (⟨ia,ib,n,v4,v7,0,0,(-536870911),536870911,j.Softness,0,(-1),0⟩:Row) s);(⟨ia,ib,n,v4,v7,v8,0,(-536870911),536870911,j.Softness,0,(-1),0⟩:Row)
theorem A29(j:Joint)(a:Body)(b:Body)(ia:Int)(ib:Int)(n:Vec)(s:List SolverBody)(ha: ∀f∈a.Fixtures,f.Shape.Vertices.length<=1048576)(hb: ∀f∈b.Fixtures,f.Shape.Vertices.length<=1048576):A1 Tryz.prog B8s [.agg j.enc, .agg a.enc, .agg b.enc,sI ia,sI ib, .agg n.enc,A2 5 SolverBody.enc default s] [] (.agg (X7 j a b ia ib n s).enc) []:=by
 refine L5 50 [(14,some (some 14))] hm A4 Tryz.func420 rfl ?_;have:=λx1 x2 x3 x4 x5 x6 x7 x8 x9 x10 x11 x12 x13 x14 x15=>cx_ (M3 ⟨x1,x2,⟨x3,x4⟩,x5,x6,x7,x8,x9,x10,x11,x12,x13,x14⟩ x15)
 have:=A3a
 have:=A6u
 have:=K6
 have:=A75
 have:=M3
 have:=X7.eq_1 j a b ia ib n s;exact D1
def A2u(j:Joint)(a:Body)(b:Body)(ia:Int)(ib:Int)(s:List SolverBody)(dt:Int):(List Row):=let v1:=(A35 j a b);if((j.Kind != 1)||((decide (j.Lower<v1))&&(decide (v1<j.Upper))))=true then(([]:List Row))else(let v2:=(A16 j a b);let v3:=(A3t v2);if((v2.X==0)&&(v2.Y==0))=true then(let v4:=(X7 j a b ia ib (⟨65536,0⟩:Vec) s);let v5:=(A1v j a b);let v6:=(H9 v5 dt);if j.Upper<=j.Lower then([(⟨v4.A,v4.B,v4.Normal,v4.ArmA,v4.ArmB,v4.EffectiveMass,v6,v4.Lower,v4.Upper,v4.Softness,j.Impulses.I0,v4.FrictionOf,v4.Friction⟩:Row)])else(if v1<=j.Lower then([(⟨v4.A,v4.B,v4.Normal,v4.ArmA,v4.ArmB,v4.EffectiveMass,v6,0,v4.Upper,v4.Softness,j.Impulses.I0,v4.FrictionOf,v4.Friction⟩:Row)])else([(⟨v4.A,v4.B,v4.Normal,v4.ArmA,v4.ArmB,v4.EffectiveMass,v6,v4.Lower,0,v4.Softness,j.Impulses.I0,v4.FrictionOf,v4.Friction⟩:Row)])))else(let v7:=(X7 j a b ia ib v3 s);let v8:=(A1v j a b);let v9:=(H9 v8 dt);if j.Upper<=j.Lower then([(⟨v7.A,v7.B,v7.Normal,v7.ArmA,v7.ArmB,v7.EffectiveMass,v9,v7.Lower,v7.Upper,v7.Softness,j.Impulses.I0,v7.FrictionOf,v7.Friction⟩:Row)])else(if v1<=j.Lower then([(⟨v7.A,v7.B,v7.Normal,v7.ArmA,v7.ArmB,v7.EffectiveMass,v9,0,v7.Upper,v7.Softness,j.Impulses.I0,v7.FrictionOf,v7.Friction⟩:Row)])else([(⟨v7.A,v7.B,v7.Normal,v7.ArmA,v7.ArmB,v7.EffectiveMass,v9,v7.Lower,0,v7.Softness,j.Impulses.I0,v7.FrictionOf,v7.Friction⟩:Row)]))))
theorem C5p(j:Joint)(a:Body)(b:Body)(ia:Int)(ib:Int)(s:List SolverBody)(dt:Int)(ha: ∀f∈a.Fixtures,f.Shape.Vertices.length<=1048576)(hb: ∀f∈b.Fixtures,f.Shape.Vertices.length<=1048576):A1 Tryz.prog C4e [.agg j.enc, .agg a.enc, .agg b.enc,sI ia,sI ib,A2 5 SolverBody.enc default s,sI dt] [] (A2 14 Row.enc default (A2u j a b ia ib s dt)) []:=by
 refine en1 hm A4 Tryz.func302 rfl rfl ?_;have:=λx1 x2 x3 x4 x5 x6 x7 x8 h0 h1=>cx_ (A29 x1 x2 x3 x4 x5 ⟨x6,x7⟩ x8 h0 h1)
 have:=B12
 have:=A83
 have:=A5q
 have:=A29
 have:=B6l
 have:=U7
 have:=A2u.eq_1 j a b ia ib s dt;exact J1
def R7(ia:Int)(ib:Int)(s:List SolverBody)(o:Int):Row:=let v1:=(R9 (⟨ia,ib,(⟨0,0⟩:Vec),65536,65536,0,0,(-536870911),536870911,o,0,(-1),0⟩:Row) s);(⟨ia,ib,(⟨0,0⟩:Vec),65536,65536,v1,0,(-536870911),536870911,o,0,(-1),0⟩:Row)
theorem A74(ia:Int)(ib:Int)(s:List SolverBody)(o:Int):A1 Tryz.prog C25 [sI ia,sI ib,A2 5 SolverBody.enc default s,sI o] [] (.agg (R7 ia ib s o).enc) []:=by
 refine L5 19 [(8,some (some 14))] hm A4 Tryz.func423 rfl ?_;have:=λx1 x2 x3 x4 x5 x6 x7 x8 x9 x10 x11 x12 x13 x14 x15=>cx_ (M3 ⟨x1,x2,⟨x3,x4⟩,x5,x6,x7,x8,x9,x10,x11,x12,x13,x14⟩ x15)
 have:=M3
 have:=R7.eq_1 ia ib s o;exact D1
def V3(v:Int)(l:Int)(u:Int)(e:Bool)(i:Int)(dt:Int)(r:Row):(List Row):=if((!e)||((decide (l<v))&&(decide (v<u))))=true then(([]:List Row))else(if(l==u)=true then(let v1:=(sat (sat v-sat l));let v2:=(H9 v1 dt);[(⟨r.A,r.B,r.Normal,r.ArmA,r.ArmB,r.EffectiveMass,v2,r.Lower,r.Upper,r.Softness,i,r.FrictionOf,r.Friction⟩:Row)])else(if v<=l then(let v3:=(sat (sat v-sat l));let v4:=(H9 v3 dt);[(⟨r.A,r.B,r.Normal,r.ArmA,r.ArmB,r.EffectiveMass,v4,0,r.Upper,r.Softness,i,r.FrictionOf,r.Friction⟩:Row)])else(let v5:=(sat (sat v-sat u));let v6:=(H9 v5 dt);[(⟨r.A,r.B,r.Normal,r.ArmA,r.ArmB,r.EffectiveMass,v6,r.Lower,0,r.Softness,i,r.FrictionOf,r.Friction⟩:Row)])))
theorem B4e(v:Int)(l:Int)(u:Int)(e:Bool)(i:Int)(dt:Int)(r:Row):A1 Tryz.prog C4n [sI v,sI l,sI u,sB e,sI i,sI dt, .agg r.enc] [] (A2 14 Row.enc default (V3 v l u e i dt r)) []:=by
 refine en1 hm A4 Tryz.func425 rfl rfl ?_;have:=Q9
 have:=U7
 have:=V3.eq_1 v l u e i dt r;exact J1
def Q3(j:Joint)(r:Row)(dt:Int):(List Row):=if j.EnableMotor=false then(([]:List Row))else(let v1:=(sat (sat 0-sat j.MotorSpeed));let v2:=(B5 j.MaxForce dt);let v3:=(sat (sat 0-sat v2));[(⟨r.A,r.B,r.Normal,r.ArmA,r.ArmB,r.EffectiveMass,v1,v3,v2,r.Softness,j.Impulses.I2,r.FrictionOf,r.Friction⟩:Row)])
theorem B4f(j:Joint)(r:Row)(dt:Int):A1 Tryz.prog C4o [.agg j.enc, .agg r.enc,sI dt] [] (.sl 1 0 (Q3 j r dt).length (Q3 j r dt).length) [(1, .arr 14 (A8 Row.enc default (Q3 j r dt)))]:=by
 refine H8 hm A4 Tryz.func424 rfl rfl ?_;have:=Q9
 have:=L8
 have:=Q3.eq_1 j r dt;exact J1
def V4(j:Joint)(a:Body)(b:Body)(ia:Int)(ib:Int)(s:List SolverBody)(dt:Int):(List Row):=let v1:=(K4 j a b);let v2:=(X7 j a b ia ib (⟨65536,0⟩:Vec) s);let v3:=(X7 j a b ia ib (⟨0,65536⟩:Vec) s);let v4:=(sat (sat v1.2.X-sat v1.1.X));let v5:=(H9 v4 dt);let v6:=(sat (sat v1.2.Y-sat v1.1.Y));let v7:=(H9 v6 dt);[(⟨v2.A,v2.B,v2.Normal,v2.ArmA,v2.ArmB,v2.EffectiveMass,v5,v2.Lower,v2.Upper,v2.Softness,j.Impulses.I0,v2.FrictionOf,v2.Friction⟩:Row),(⟨v3.A,v3.B,v3.Normal,v3.ArmA,v3.ArmB,v3.EffectiveMass,v7,v3.Lower,v3.Upper,v3.Softness,j.Impulses.I1,v3.FrictionOf,v3.Friction⟩:Row)]
theorem B4g(j:Joint)(a:Body)(b:Body)(ia:Int)(ib:Int)(s:List SolverBody)(dt:Int)(ha: ∀f∈a.Fixtures,f.Shape.Vertices.length<=1048576)(hb: ∀f∈b.Fixtures,f.Shape.Vertices.length<=1048576):A1 Tryz.prog C4p [.agg j.enc, .agg a.enc, .agg b.enc,sI ia,sI ib,A2 5 SolverBody.enc default s,sI dt] [] (A2 14 Row.enc default (V4 j a b ia ib s dt)) []:=by
 refine en1 hm A4 Tryz.func427 rfl rfl ?_;have:=λx1 x2 x3 x4 x5 x6 x7 x8 h0 h1=>cx_ (A29 x1 x2 x3 x4 x5 ⟨x6,x7⟩ x8 h0 h1)
 have:=A3a
 have:=A29
 have:=Q9
 have:=U7
 have:=V4.eq_1 j a b ia ib s dt;exact J1
theorem C9n(v l u:Int)(e:Bool)(i dt:Int)(r:Row):(V3 v l u e i dt r).length<=1:=by
 unfold V3;simp only
 (repeat' split) <;> simp
theorem C9o(j:Joint)(r:Row)(dt:Int):(Q3 j r dt).length<=1:=by
 unfold Q3;simp only
 (repeat' split) <;> simp
@[simp] theorem C9p(j:Joint)(a b:Body)(ia ib:Int)(s:List SolverBody)(dt:Int):(V4 j a b ia ib s dt).length=2:=by unfold V4;simp
def A6l(j:Joint)(a:Body)(b:Body)(ia:Int)(ib:Int)(s:List SolverBody)(dt:Int):(List Row):=if(j.Kind != 2)=true then(([]:List Row))else(let v1:=(R7 ia ib s 0);let v2:=(Q3 j v1 dt);let v3:=(X8 j a b);let v4:=(V3 v3 j.Lower j.Upper j.EnableLimit j.Impulses.I3 dt v1);let v5:=(V4 j a b ia ib s dt);((v2++v4)++v5))
theorem D70(j:Joint)(a:Body)(b:Body)(ia:Int)(ib:Int)(s:List SolverBody)(dt:Int)(ha: ∀f∈a.Fixtures,f.Shape.Vertices.length<=1048576)(hb: ∀f∈b.Fixtures,f.Shape.Vertices.length<=1048576):A1 Tryz.prog D6i [.agg j.enc, .agg a.enc, .agg b.enc,sI ia,sI ib,A2 5 SolverBody.enc default s,sI dt] [] (A2 14 Row.enc default (A6l j a b ia ib s dt)) []:=by
 refine en1 hm A4 Tryz.func303 rfl rfl ?_;have:=A74
 have:=C9o j (R7 ia ib s 0) dt
 have:=B4f
 have:=A72
 have:=C9n (X8 j a b) j.Lower j.Upper j.EnableLimit j.Impulses.I3 dt (R7 ia ib s 0)
 have:=B4e
 have:=C9p j a b ia ib s dt
 have:=B4g
 have:=A6l.eq_1 j a b ia ib s dt;exact J1
def A5s(j:Joint)(a:Body)(b:Body)(ia:Int)(ib:Int)(n:Vec)(o:Int)(s:List SolverBody):Row:=let v1:=(K4 j a b);let v2:=(E5 a);let v3:=(M0 v1.1 v2);let v4:=(M0 v1.2 v1.1);let v5:=(A18 v3 v4);let v6:=(E5 b);let v7:=(M0 v1.2 v6);let v8:=(A1d v5 n);let v9:=(A1d v7 n);let v10:=(R9 (⟨ia,ib,n,v8,v9,0,0,(-536870911),536870911,o,0,(-1),0⟩:Row) s);(⟨ia,ib,n,v8,v9,v10,0,(-536870911),536870911,o,0,(-1),0⟩:Row)
theorem B47(j:Joint)(a:Body)(b:Body)(ia:Int)(ib:Int)(n:Vec)(o:Int)(s:List SolverBody)(ha: ∀f∈a.Fixtures,f.Shape.Vertices.length<=1048576)(hb: ∀f∈b.Fixtures,f.Shape.Vertices.length<=1048576):A1 Tryz.prog C67 [.agg j.enc, .agg a.enc, .agg b.enc,sI ia,sI ib, .agg n.enc,sI o,A2 5 SolverBody.enc default s] [] (.agg (A5s j a b ia ib n o s).enc) []:=by
 refine L5 57 [(16,some (some 14))] hm A4 Tryz.func431 rfl ?_;have:=λx1 x2 x3 x4 x5 x6 x7 x8 x9 x10 x11 x12 x13 x14 x15=>cx_ (M3 ⟨x1,x2,⟨x3,x4⟩,x5,x6,x7,x8,x9,x10,x11,x12,x13,x14⟩ x15)
 have:=A3a
 have:=A6u
 have:=K6
 have:=A5e
 have:=A75
 have:=M3
 have:=A5s.eq_1 j a b ia ib n o s;exact D1
def A0y(j:Joint)(a:Body)(b:Body)(ia:Int)(ib:Int)(n:Vec)(s:List SolverBody):Row:=let v1:=(A5s j a b ia ib n 0 s);v1
theorem C7n(j:Joint)(a:Body)(b:Body)(ia:Int)(ib:Int)(n:Vec)(s:List SolverBody)(ha: ∀f∈a.Fixtures,f.Shape.Vertices.length<=1048576)(hb: ∀f∈b.Fixtures,f.Shape.Vertices.length<=1048576):A1 Tryz.prog C66 [.agg j.enc, .agg a.enc, .agg b.enc,sI ia,sI ib, .agg n.enc,A2 5 SolverBody.enc default s] [] (.agg (A0y j a b ia ib n s).enc) []:=by
 refine L5 23 [(14,some (some 14))] hm A4 Tryz.func429 rfl ?_;have:=B47
 have:=A0y.eq_1 j a b ia ib n s;exact D1
def A95(j:Joint)(a:Body)(b:Body):Int:=let v1:=(K4 j a b);let v2:=(M0 v1.2 v1.1);let v3:=(X3 j a);let v4:=(A0l v3);let v5:=(O8 v2 v4);v5
theorem D0l(j:Joint)(a:Body)(b:Body):A1 Tryz.prog C8g [.agg j.enc, .agg a.enc, .agg b.enc] [] (sI (A95 j a b)) []:=by
 refine en1 hm A4 Tryz.func432 rfl rfl ?_;have:=A3a
 have:=K6
 have:=B1e
 have:=C2q
 have:=A0a
 have:=A95.eq_1 j a b;exact D1
def A5m(j:Joint)(a:Body)(b:Body)(ia:Int)(ib:Int)(s:List SolverBody)(dt:Int):(List Row):=if(j.Kind != 3)=true then(([]:List Row))else(let v1:=(X3 j a);let v2:=(A0y j a b ia ib v1 s);let v3:=(Q3 j v2 dt);let v4:=(A3m j a b);let v5:=(V3 v4 j.Lower j.Upper j.EnableLimit j.Impulses.I3 dt v2);let v6:=(R7 ia ib s j.Softness);let v7:=(X8 j a b);let v8:=(H9 v7 dt);let v9:=(A0l v1);let v10:=(A5s j a b ia ib v9 j.Softness s);let v11:=(A95 j a b);let v12:=(H9 v11 dt);((v3++v5)++ [(⟨v6.A,v6.B,v6.Normal,v6.ArmA,v6.ArmB,v6.EffectiveMass,v8,v6.Lower,v6.Upper,v6.Softness,j.Impulses.I1,v6.FrictionOf,v6.Friction⟩:Row),(⟨v10.A,v10.B,v10.Normal,v10.ArmA,v10.ArmB,v10.EffectiveMass,v12,v10.Lower,v10.Upper,v10.Softness,j.Impulses.I0,v10.FrictionOf,v10.Friction⟩:Row)]))
theorem D5r(j:Joint)(a:Body)(b:Body)(ia:Int)(ib:Int)(s:List SolverBody)(dt:Int)(ha: ∀f∈a.Fixtures,f.Shape.Vertices.length<=1048576)(hb: ∀f∈b.Fixtures,f.Shape.Vertices.length<=1048576):A1 Tryz.prog D4b [.agg j.enc, .agg a.enc, .agg b.enc,sI ia,sI ib,A2 5 SolverBody.enc default s,sI dt] [] (A2 14 Row.enc default (A5m j a b ia ib s dt)) []:=by
 refine en1 hm A4 Tryz.func304 rfl rfl ?_;have:=B1e
 have:=C7n
 have:=C9o j (A0y j a b ia ib (X3 j a) s) dt
 have:=B4f
 have:=C7k
 have:=C9n (A3m j a b) j.Lower j.Upper j.EnableLimit j.Impulses.I3 dt (A0y j a b ia ib (X3 j a) s)
 have:=B4e
 have:=A74
 have:=A72
 have:=U7
 have:=C2q
 have:=B47
 have:=D0l
 have:=A5m.eq_1 j a b ia ib s dt;exact J1
def B1q(j:Joint)(a:Body)(b:Body)(ia:Int)(ib:Int)(s:List SolverBody)(dt:Int):(List Row):=if(j.Kind != 4)=true then(([]:List Row))else(let v1:=(R7 ia ib s j.Softness);let v2:=(X8 j a b);let v3:=(H9 v2 dt);let v4:=(V4 j a b ia ib s dt);([(⟨v1.A,v1.B,v1.Normal,v1.ArmA,v1.ArmB,v1.EffectiveMass,v3,v1.Lower,v1.Upper,v1.Softness,j.Impulses.I2,v1.FrictionOf,v1.Friction⟩:Row)]++v4))
theorem E70(j:Joint)(a:Body)(b:Body)(ia:Int)(ib:Int)(s:List SolverBody)(dt:Int)(ha: ∀f∈a.Fixtures,f.Shape.Vertices.length<=1048576)(hb: ∀f∈b.Fixtures,f.Shape.Vertices.length<=1048576):A1 Tryz.prog E6x [.agg j.enc, .agg a.enc, .agg b.enc,sI ia,sI ib,A2 5 SolverBody.enc default s,sI dt] [] (A2 14 Row.enc default (B1q j a b ia ib s dt)) []:=by
 refine en1 hm A4 Tryz.func305 rfl rfl ?_;have:=A74
 have:=A72
 have:=U7
 have:=C9p j a b ia ib s dt
 have:=B4g
 have:=B1q.eq_1 j a b ia ib s dt;exact J1
structure N6 where
 ia:Int
 ib:Int
 centerA:Vec
 centerB:Vec
 bodies:List SolverBody
 deriving DecidableEq,Inhabited
def N6.enc(x:N6):List AV:=[sI x.ia,sI x.ib,sI x.centerA.X,sI x.centerA.Y,sI x.centerB.X,sI x.centerB.Y,A2 5 SolverBody.enc default x.bodies]
def N6.zero:List AV:= [sI 0,sI 0,sI 0,sI 0,sI 0,sI 0, .sc (.slice none 0 0)]
attribute [go_sem] N6.enc N6.zero
@[go_sem] theorem F0q(x:N6):N6.mk x.ia x.ib x.centerA x.centerB x.bodies=x:=rfl
def N5(a:Fixture)(b:Fixture):Int:=let v1:=(B5 a.Friction b.Friction);let v2:=(B88 v1);v2
theorem C2g(a:Fixture)(b:Fixture):A1 Tryz.prog C1f [.agg a.enc, .agg b.enc] [] (sI (N5 a b)) []:=by
 refine en1 hm A4 Tryz.func309 rfl rfl ?_;have:=L8
 have:=E5p
 have:=N5.eq_1 a b;exact D1
def L6(a:Fixture)(b:Fixture):Int:=(if a.Restitution<b.Restitution then b.Restitution else a.Restitution)
theorem B8e(a:Fixture)(b:Fixture):A1 Tryz.prog B7v [.agg a.enc, .agg b.enc] [] (sI (L6 a b)) []:=by refine en1 hm A4 Tryz.func310 rfl rfl ?_;have:=L6.eq_1 a b;exact D1
def B8(b:Body)(i:Int):Fixture×Bool:=if((decide (i<0))||(decide ((b.Fixtures.length:Int)<=i)))=true then(((⟨(⟨0,0,([]:List Vec)⟩:Shape),0,0,0,false,0,0,0⟩:Fixture),false))else(((b.Fixtures.getD i.toNat default),true))
theorem C3t(b:Body)(i:Int):A1 Tryz.prog C2w [.agg b.enc,sI i] [] (.tup [.agg (B8 b i).1.enc,sB ((B8 b i).2)]) []:=by refine A63 21 [(4,some (some 10)),(5,none)] hm A4 Tryz.func307 rfl ?_;have:=B8.eq_1 b i;exact J1
def A34(p:N6)(q:Vec)(d:Vec):Row:=let v1:=(M0 q p.centerA);let v2:=(A1d v1 d);let v3:=(M0 q p.centerB);let v4:=(A1d v3 d);let v5:=(R9 (⟨p.ia,p.ib,d,v2,v4,0,0,0,0,0,0,(-1),0⟩:Row) p.bodies);(⟨p.ia,p.ib,d,v2,v4,v5,0,0,0,0,0,(-1),0⟩:Row)
theorem B11(p:N6)(q:Vec)(d:Vec):A1 Tryz.prog C1g [.agg p.enc, .agg q.enc, .agg d.enc] [] (.agg (A34 p q d).enc) []:=by
 refine L5 32 [(6,some (some 14))] hm A4 Tryz.func312 rfl ?_;have:=λx1 x2 x3 x4 x5 x6 x7 x8 x9 x10 x11 x12 x13 x14 x15=>cx_ (M3 ⟨x1,x2,⟨x3,x4⟩,x5,x6,x7,x8,x9,x10,x11,x12,x13,x14⟩ x15)
 have:=K6
 have:=A75
 have:=M3
 have:=A34.eq_1 p q d;exact D1
def A5y(p:N6)(r:Row)(s:Int)(t:Int)(dt:Int):Int:=if 0<=s then(let v1:=(Y6 s dt);let v2:=(W8 r p.bodies);if v2<(-65536)then(let v3:=(B5 t v2);(if v3<v1 then v3 else v1))else(v1))else(let v4:=(C7 s 512);let v5:=(H9 v4 dt);let v6:=(W8 r p.bodies);if v6<(-65536)then(let v7:=(B5 t v6);(if v7<(if v5<0 then v5 else 0)then v7 else(if v5<0 then v5 else 0)))else((if v5<0 then v5 else 0)))
theorem B05(p:N6)(r:Row)(s:Int)(t:Int)(dt:Int):A1 Tryz.prog B9z [.agg p.enc, .agg r.enc,sI s,sI t,sI dt] [] (sI (A5y p r s t dt)) []:=by
 refine en1 hm A4 Tryz.func313 rfl rfl ?_;have:=A68
 have:=A7b
 have:=L8
 have:=M9
 have:=U7
 have:=A5y.eq_1 p r s t dt;exact J1
def R5(c:Contact)(ia:Int)(ib:Int)(base:Int)(bs:List SolverBody)(dt:Int)(v3:Vec)(v4:Vec)(v5:Int)(v6:Int)(v7:Vec)(i1:Nat)(s1:(List Row)):(List Row):=let v8:=(A34 (⟨ia,ib,v3,v4,bs⟩:N6) (c.Manifold.Points.getD i1 default).Point c.Manifold.Normal);let v9:=(A5y (⟨ia,ib,v3,v4,bs⟩:N6) (⟨v8.A,v8.B,v8.Normal,v8.ArmA,v8.ArmB,v8.EffectiveMass,v8.Bias,v8.Lower,536870911,v8.Softness,(c.Manifold.Points.getD i1 default).NormalImpulse,v8.FrictionOf,v8.Friction⟩:Row) (c.Manifold.Points.getD i1 default).Separation v6 dt);let v10:=(A34 (⟨ia,ib,v3,v4,bs⟩:N6) (c.Manifold.Points.getD i1 default).Point v7);(s1++ [(⟨v8.A,v8.B,v8.Normal,v8.ArmA,v8.ArmB,v8.EffectiveMass,v9,v8.Lower,536870911,v8.Softness,(c.Manifold.Points.getD i1 default).NormalImpulse,v8.FrictionOf,v8.Friction⟩:Row),(⟨v10.A,v10.B,v10.Normal,v10.ArmA,v10.ArmB,v10.EffectiveMass,v10.Bias,v10.Lower,v10.Upper,v10.Softness,(c.Manifold.Points.getD i1 default).TangentImpulse,(IntKind.i64.wrap (base+(s1.length:Int))),v5⟩:Row)])
def A4e(c:Contact)(a:Body)(b:Body)(ia:Int)(ib:Int)(base:Int)(bs:List SolverBody)(dt:Int):(List Row):=let v1:=(B8 a c.Key.FixtureA);let v2:=(B8 b c.Key.FixtureB);if((!v1.2)||(!v2.2))=true then(([]:List Row))else(let v3:=(E5 a);let v4:=(E5 b);let v5:=(N5 v1.1 v2.1);let v6:=(L6 v1.1 v2.1);let v7:=(A0l c.Manifold.Normal);let s1:=itr (R5 c ia ib base bs dt v3 v4 v5 v6 v7) c.Manifold.Points.length [];s1)
theorem D0b(c:Contact)(a:Body)(b:Body)(ia:Int)(ib:Int)(base:Int)(bs:List SolverBody)(dt:Int)(h0:c.Manifold.Points.length<=1048576)(ha: ∀f∈a.Fixtures,f.Shape.Vertices.length<=1048576)(hb: ∀f∈b.Fixtures,f.Shape.Vertices.length<=1048576):A1 Tryz.prog C73 [.agg c.enc, .agg a.enc, .agg b.enc,sI ia,sI ib,sI base,A2 5 SolverBody.enc default bs,sI dt] [] (A2 14 Row.enc default (A4e c a b ia ib base bs dt)) []:=by
 refine en1 hm A4 Tryz.func183 rfl rfl ?_;have:=λx1 x2 x3 x4 x5 x6 x7 x8 x9=>cx_ (B11 ⟨x1,x2,⟨x3,x4⟩,⟨x5,x6⟩,x7⟩ x8 x9)
 have:=λx1 x2 x3 x4 x5 x6 x7 x8 x9 x10 x11 x12 x13 x14 x15 x16 x17 x18 x19 x20 x21 x22 x23 x24=>cx_ (B05 ⟨x1,x2,⟨x3,x4⟩,⟨x5,x6⟩,x7⟩ ⟨x8,x9,⟨x10,x11⟩,x12,x13,x14,x15,x16,x17,x18,x19,x20,x21⟩ x22 x23 x24)
 have:=C3t
 have:=A6u
 have:=C2g
 have:=B8e
 have:=C2q
 have:=B11
 have:=B05
 have:=A4e.eq_1 c a b ia ib base bs dt
 have:=λi_ s_=>R5.eq_1 c ia ib base bs dt (E5 a) (E5 b) (N5 (B8 a c.Key.FixtureA).1 (B8 b c.Key.FixtureB).1) (L6 (B8 a c.Key.FixtureA).1 (B8 b c.Key.FixtureB).1) (A0l c.Manifold.Normal) i_ s_
 have:=λx_ Q_ σ_=> @lp_ Tryz.prog Tryz.f183.ntmps [] x_ Q_ σ_ hm (λ_=>True) (λi_=>((itr (R5 c ia ib base bs dt (E5 a) (E5 b) (N5 (B8 a c.Key.FixtureA).1 (B8 b c.Key.FixtureB).1) (L6 (B8 a c.Key.FixtureA).1 (B8 b c.Key.FixtureB).1) (A0l c.Manifold.Normal)) i_ [])).length<=0+2*i_) c.Manifold.Points.length (λi_=> [(5, .share,sI base),(7, .share,sI dt),(8, .share, .ptr 144 0 0 1),(21, .share, .ptr 352 0 0 1),(22, .share,sI (N5 (B8 a c.Key.FixtureA).1 (B8 b c.Key.FixtureB).1)),(23, .share,sI (L6 (B8 a c.Key.FixtureA).1 (B8 b c.Key.FixtureB).1)),(24, .share, .ptr 400 0 0 1),(25,if i_=0 then .adopt else .share, .sl 1025 0 (itr (R5 c ia ib base bs dt (E5 a) (E5 b) (N5 (B8 a c.Key.FixtureA).1 (B8 b c.Key.FixtureB).1) (L6 (B8 a c.Key.FixtureA).1 (B8 b c.Key.FixtureB).1) (A0l c.Manifold.Normal)) i_ []).length (itr (R5 c ia ib base bs dt (E5 a) (E5 b) (N5 (B8 a c.Key.FixtureA).1 (B8 b c.Key.FixtureB).1) (L6 (B8 a c.Key.FixtureA).1 (B8 b c.Key.FixtureB).1) (A0l c.Manifold.Normal)) i_ []).length),(72, .share,A2 6 ContactPoint.enc default c.Manifold.Points),(73, .share,sI (c.Manifold.Points.length:Int)),(74, .share,sI (i_:Int))]) (λi_=> [(144, .box [sI c.Key.BodyA,sI c.Key.FixtureA,sI c.Key.BodyB,sI c.Key.FixtureB,sI c.Manifold.Normal.X,sI c.Manifold.Normal.Y,A2 6 ContactPoint.enc default c.Manifold.Points]),(352, .box [sI ia,sI ib,sI ((E5 a).X),sI ((E5 a).Y),sI ((E5 b).X),sI ((E5 b).Y),A2 5 SolverBody.enc default bs]),(400, .box [sI ((A0l c.Manifold.Normal).X),sI ((A0l c.Manifold.Normal).Y)]),(1025, .arr 14 (A8 Row.enc default (itr (R5 c ia ib base bs dt (E5 a) (E5 b) (N5 (B8 a c.Key.FixtureA).1 (B8 b c.Key.FixtureB).1) (L6 (B8 a c.Key.FixtureA).1 (B8 b c.Key.FixtureB).1) (A0l c.Manifold.Normal)) i_ [])))]) [1025] trivial (λi_ hI_=>A7w (λs:(List Row)=>(s).length) 2 (λi s=>by(unfold R5;(repeat' split) <;> simp <;> omega)) i_ _) (by simp[go_sem]) (by simp[go_sem,A6]) (by simp[go_sem]);exact J1
def A4p(rs:List Row)(i:Int)(p:Int):Int:=if((decide (i<0))||(decide ((rs.length:Int)<=i)))=true then(p)else((rs.getD i.toNat default).Impulse)
theorem B3b(rs:List Row)(i:Int)(p:Int):A1 Tryz.prog C2x [A2 14 Row.enc default rs,sI i,sI p] [] (sI (A4p rs i p)) []:=by refine en1 hm A4 Tryz.func193 rfl rfl ?_;have:=A4p.eq_1 rs i p;exact J1
theorem F2o(s:Shape)(p:Transform):A1a s=true->1<=(E8 s p).length/\(s.Kind=1->(E8 s p).length=1)/\(s.Kind=2->(E8 s p).length=2)/\(s.Kind≠1->s.Kind≠2->3<=(E8 s p).length)/\(E8 s p).length<=8:=by intro h;refine D3w s p ?_;unfold A1a at h;simpa using h
def A4q(a:Shape)(ta:Transform)(b:Shape)(tb:Transform):Int:=let v1:=(A1a a);let v2:=(A1a b);if((!v1)||(!v2))=true then(536870911)else(let v3:=(E8 a ta);let v4:=(E8 b tb);let v5:=(Y3 a ta (v4.getD 0 default));if((a.Kind==3)&&v5)=true then(0)else(let v6:=(Y3 b tb (v3.getD 0 default));if((b.Kind==3)&&v6)=true then(0)else(let v7:=(A3r a.Kind v3);let v8:=(A3r b.Kind v4);let v9:=(A6g v7 v8);let v10:=(sat (sat v9-sat a.Radius));let v11:=(sat (sat v10-sat b.Radius));(if 0<v11 then v11 else 0))))
theorem B3c(a:Shape)(ta:Transform)(b:Shape)(tb:Transform)(h0:a.Vertices.length<=1048576)(h1:b.Vertices.length<=1048576):A1 Tryz.prog C2y [.agg a.enc, .agg ta.enc, .agg b.enc, .agg tb.enc] [] (sI (A4q a ta b tb)) []:=by
 refine en1 hm A4 Tryz.func337 rfl rfl ?_;have:=F2o a ta
 have:=F2o b tb
 have:=B9p
 have:=B9w a ta
 have:=A8r
 have:=B9w b tb
 have:=B3d
 have:=E1f a.Kind (E8 a ta)
 have:=D5n
 have:=E1f b.Kind (E8 b tb)
 have:=D0d
 have:=Q9
 have:=A4q.eq_1 a ta b tb;exact J1
def A6f(a:Shape)(ta:Transform)(b:Shape)(tb:Transform):Bool:=let v1:=(A1a a);let v2:=(A1a b);let v3:=(A4q a ta b tb);((v1&&v2)&&(v3==0))
theorem D0c(a:Shape)(ta:Transform)(b:Shape)(tb:Transform)(h0:a.Vertices.length<=1048576)(h1:b.Vertices.length<=1048576):A1 Tryz.prog C74 [.agg a.enc, .agg ta.enc, .agg b.enc, .agg tb.enc] [] (sB (A6f a ta b tb)) []:=by
 refine en1 hm A4 Tryz.func206 rfl rfl ?_;have:=B9p
 have:=B3c
 have:=A6f.eq_1 a ta b tb;exact J1
end Go.Abs
end
