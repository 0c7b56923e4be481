/- A part of the proof: contracts of functions that the statement reaches. -/
import Derived.Test.YtchcbiiammkhgaaGreatMI
set_option linter.unusedSimpArgs false
set_option linter.unusedVariables false
set_option linter.unnecessarySimpa false
set_option maxRecDepth 100000
set_option maxHeartbeats 2000000
noncomputable section
namespace Go.Abs
open Go.Proofs
open Api
theorem G39(n:Int):0<=isq n:=by unfold isq;split <;> omega
theorem G2p(v:Vec):0<=A32 v:=G39 _
theorem B57 {x c:Int}(hc:c<=536870911)(h:c<=x):c<=sat x:=by unfold sat;split <;> (try split) <;> omega
theorem G3g {n:Int}(hn:0<=n):0<=A1g n 65536:=by
 unfold A1g;split
 ·omega
 ·have h1:=Int.tdiv_nonneg hn (show(0:Int)<=65536 by decide)
  have h2:=Int.tmod_nonneg (a:=n) 65536 hn;rename_i h;have h3:n.tdiv 65536<=n:=by rw[Int.tdiv_eq_ediv_of_nonneg hn];omega
  (repeat' split) <;> omega
theorem G1i {a b:Int}(ha:0<=a)(hb:0<=b):0<=C5 a b:=by
 unfold C5;have h1:=S1 a;have h2:=S1 b
 have h3:=B57 (by decide) ha;have h4:=B57 (by decide) hb;refine B57 (by decide) ?_;rw[IntKind.wrap_i64];omega
theorem G3z {a b:Int}(ha:0<=a)(hb:0<=b):0<=B4 a b:=by
 unfold B4;refine B57 (by decide) (G3g ?_);have h1:=S1 a;have h2:=S1 b
 have h3:=B57 (by decide) ha;have h4:=B57 (by decide) hb
 have h5:=Int.mul_nonneg h3 h4
 have h6:sat a*sat b<=536870911*536870911:=Int.mul_le_mul h1.2 h2.2 h4 (by decide);rw[IntKind.wrap_i64];omega
theorem G32(s:Shape)(h:E7 s=0):0<=s.Radius:=by
 unfold E7 at h;split at h
 ·cases h
 ·simp only at h;split at h
  ·cases h
  ·split at h
   ·cases h
   ·split at h
    ·omega
    ·rename_i h1;split at h
     ·cases h
     ·rename_i h2;simp only[Bool.and_eq_true,Bool.or_eq_true,decide_eq_true_eq,beq_iff_eq,bne_iff_ne,ne_eq,not_and,not_or,Decidable.not_not]at h1 h2;by_cases h3:s.Kind=3
      ·have:=h1 h3;omega
      ·have:=h2 h3;omega
theorem brN(s:Shape):0<=A0d s:=by
 unfold A0d;simp only;split
 ·omega
 ·rename_i h;have hv:E7 s=0:=by simpa using h
  refine G1i ?_ (G32 s hv);have: ∀n,0<=itr (A0z s) n 0:=λn=>by
   induction n with
   |zero=>exact Int.le_refl _
   |succ n ih=>rw[E4];unfold A0z;have:=G2p (s.Vertices.getD n default);simp only;split <;> omega
  exact this _
theorem mbN(s:Shape)(t0 t1:Transform):(E7 s=0->4<=J2 s t0 t1)/\J2 s t0 t1<=536870911:=by
 constructor
 ·intro h;unfold J2;simp only;rw[if_neg (by simp[h])];have h7:=G1i (G2p (L9 t1.Position t0.Position)) (G3z (a:=if A0b t0.Angle t1.Angle<IntKind.i64.wrap (0-A0b t0.Angle t1.Angle)then IntKind.i64.wrap (0-A0b t0.Angle t1.Angle)else A0b t0.Angle t1.Angle) (b:=A0d s) ?_ (brN s))
  ·generalize C5 (A32 (L9 t1.Position t0.Position)) _=v at*;unfold C5;have h1:=S1 v
   have h3:=B57 (c:=0) (by decide) h7
   have h4:sat 4=4:=by decide
   refine B57 (by decide) ?_;rw[h4,IntKind.wrap_i64];omega
  ·have: ∀x:Int,0<=(if x<IntKind.i64.wrap (0-x)then IntKind.i64.wrap (0-x)else x)\/x < -4611686018427387904\/4611686018427387904<x:=λx=>by
    rw[IntKind.wrap_i64];split <;> omega
   have hn: ∀a,-4611686018427387904<=I5 a/\I5 a<=4611686018427387904:=λa=>by
    have:=Int.tmod_lt_of_pos a (show(0:Int)<411776 by decide)
    have h2:=Int.lt_tmod_of_pos a (show(0:Int)<411776 by decide);unfold I5;simp only[IntKind.wrap_i64]
    (repeat' split) <;> omega
   rcases this (A0b t0.Angle t1.Angle)with h |h |h
   ·exact h
   ·have:=hn (IntKind.i64.wrap (I5 t1.Angle-I5 t0.Angle))
    unfold A0b at h;simp only at h;omega
   ·have:=hn (IntKind.i64.wrap (I5 t1.Angle-I5 t0.Angle))
    unfold A0b at h;simp only at h;omega
 ·unfold J2;simp only;split
  ·omega
  ·unfold C5;exact(S1 _).2
theorem G0u(a b:Shape)(a0 a1 b0 b1:Transform)(ha:E7 a=0)(hb:E7 b=0):IntKind.i64.wrap (2*IntKind.i64.wrap (J2 a a0 a1+J2 b b0 b1))≠0:=by
 have h1:=mbN a a0 a1;have h2:=mbN b b0 b1
 have:=h1.1 ha;have:=h2.1 hb;have:=h1.2;have:=h2.2;simp only[IntKind.wrap_i64];omega
def A4m(a:Shape)(a0:Transform)(a1:Transform)(b:Shape)(b0:Transform)(b1:Transform)(v3:Int)(v4:Int)(i1:Nat)(s1:Int):(Int) ⊕ (Int×Bool):=let v5:=(A1k a0 a1 s1);let v6:=(A1k b0 b1 s1);let v7:=(A4n a v5 b v6);if v7<=512 then(.inr (s1,true))else(if 65536<(IntKind.i64.wrap (s1+(if(IntKind.i64.wrap ((IntKind.i64.wrap (v7*65536)).tdiv (IntKind.i64.wrap (2*(IntKind.i64.wrap (v3+v4))))))<1 then 1 else(IntKind.i64.wrap ((IntKind.i64.wrap (v7*65536)).tdiv (IntKind.i64.wrap (2*(IntKind.i64.wrap (v3+v4)))))))))then(.inr (0,false))else(.inl (IntKind.i64.wrap (s1+(if(IntKind.i64.wrap ((IntKind.i64.wrap (v7*65536)).tdiv (IntKind.i64.wrap (2*(IntKind.i64.wrap (v3+v4))))))<1 then 1 else(IntKind.i64.wrap ((IntKind.i64.wrap (v7*65536)).tdiv (IntKind.i64.wrap (2*(IntKind.i64.wrap (v3+v4)))))))))))
def Y5(a:Shape)(a0:Transform)(a1:Transform)(b:Shape)(b0:Transform)(b1:Transform):Int×Bool:=let v1:=(E7 a);let v2:=(E7 b);if((v1 != 0)||(v2 != 0))=true then((0,false))else(let v3:=(J2 a a0 a1);let v4:=(J2 b b0 b1);(match D3 (A4m a a0 a1 b b0 b1 v3 v4) 40 0 with | .inr r=>r | .inl s1=>(s1,true)))
theorem D0c(a:Shape)(a0:Transform)(a1:Transform)(b:Shape)(b0:Transform)(b1:Transform)(h0:a.Vertices.length<=1048576)(h1:b.Vertices.length<=1048576):A1 Tryz.prog C93 [.agg a.enc, .agg a0.enc, .agg a1.enc, .agg b.enc, .agg b0.enc, .agg b1.enc] [] (.tup [sI ((Y5 a a0 a1 b b0 b1).1),sB ((Y5 a a0 a1 b b0 b1).2)]) []:=by
 refine enT hm A4 Tryz.func520 rfl rfl ?_;have:=G0u a b a0 a1 b0 b1
 have:=A07
 have:=D2q
 have:=B01
 have:=B2z
 have:=Y5.eq_1 a a0 a1 b b0 b1
 have:=λi_ s_=>A4m.eq_1 a a0 a1 b b0 b1 (J2 a a0 a1) (J2 b b0 b1) i_ s_
 have:=λx_ Q_ σ_=> @lp_ Tryz.prog Tryz.f520.ntmps [] x_ Q_ σ_ hm (IE (A4m a a0 a1 b b0 b1 (J2 a a0 a1) (J2 b b0 b1)) 0) (λ_=>True) 40 (λi_=> [(6, .share, .ptr 112 0 0 1),(7, .share, .ptr 128 0 0 1),(8, .share, .ptr 144 0 0 1),(9, .share, .ptr 160 0 0 1),(10, .share, .ptr 176 0 0 1),(11, .share, .ptr 192 0 0 1),(14, .share,sI (IntKind.i64.wrap (2*(IntKind.i64.wrap ((J2 a a0 a1)+(J2 b b0 b1)))))),(15, .share,sI (stE (A4m a a0 a1 b b0 b1 (J2 a a0 a1) (J2 b b0 b1)) i_ 0)),(35, .share,sI (i_:Int))]) (λi_=> [(112, .box [sI a.Kind,sI a.Radius,A2 2 Vec.enc default a.Vertices]),(128, .box [sI a0.Position.X,sI a0.Position.Y,sI a0.Angle]),(144, .box [sI a1.Position.X,sI a1.Position.Y,sI a1.Angle]),(160, .box [sI b.Kind,sI b.Radius,A2 2 Vec.enc default b.Vertices]),(176, .box [sI b0.Position.X,sI b0.Position.Y,sI b0.Angle]),(192, .box [sI b1.Position.X,sI b1.Position.Y,sI b1.Angle])]) [] rfl (λ_ _=>trivial) (by simp[go_sem]) (by simp[go_sem,A6]) (by simp[go_sem]);exact J1
def E7f:List AV:=([(.int .i64 0),(.int .i64 0),(.slice none 0 0),(.int .i64 0),(.int .i64 0),(.int .i64 0),(.bool false),(.int .i64 0),(.int .i64 0),(.int .i64 0)]:List Value).map .sc
theorem B4r(l:List Fixture)(f:FuncId)(first cap:List AV)(p:Fixture->Bool)(hl:l.length<=4194304)(h1:F4 first= [])(h2:F4 cap= [])
  (hp: ∀x∈l,A1 Tryz.prog f (first++ [.agg x.enc]++cap) [] (sB (p x)) []):
  A1 Tryz.prog B7d [.sl 1 0 l.length l.length, .fn (.func f) first cap] [(1, .arr 10 (A8 Fixture.enc default l))] (sI (A41 default p l)) [(1, .arr 10 (A8 Fixture.enc default l))]:=by
 refine E9s hm A4 Tryz.func570 rfl rfl ?_;refine E0 hm ?_;simp only[go_sem,go_sem_proc];refine A9 hm (ι:= {i:Nat // i<=l.length/\ ∀j,j<i->p (l.getD j default)=false}) (λi=> [(0, .share, .sl 1 0 l.length l.length),(1, .share, .fn (.func f) first cap),(7, .share,sI l.length),(8, .share,sI i.1)])
  (λi=> [(1, .arr 10 (A8 Fixture.enc default l))]) (λi=>l.length-i.1) ⟨0,by omega,λj hj=>by omega⟩ ?_ ?_
 ·refine B5 [] [] (by simp[go_sem]) (by simp[A6,go_sem]) (by simp[go_sem,A6]) ?_;simp only[go_sem,go_sem_proc];exact⟨(AV.ren_id (.fn (.func f) first cap)).symm,λi hi=>by rw[h1,h2]at hi;cases hi⟩
 ·rintro⟨i,hi,hs⟩;simp only[go_sem,go_sem_proc];split
  ·rename_i hlt;have hlt:i<l.length:=by omega
   refine⟨⟨by omega,by omega⟩,?_⟩;have hx:=hp (l.getD i default) (B6 default hlt);rw[List.append_assoc]at hx;refine B53 hx (by simp[A65,h1,h2,F4,AV.ids]) rfl ?_;simp only[go_sem,go_sem_proc];cases hpx:p (l.getD i default)with
   |true=>rw[if_pos rfl];refine C6 [.share] [] [] rfl rfl (by simp[go_sem]) (by simp[A6,go_sem]) (by simp[go_sem,A6]) ?_;simp only[go_sem,go_sem_proc];exact(A82 hlt hs hpx).symm
   |false=>rw[if_neg (by simp)];refine A7 ⟨i+1,by omega,λj hj=>by rcases Nat.lt_succ_iff_lt_or_eq.1 hj with h |rfl;exact hs j h;exact hpx⟩ (by show l.length-(i+1)<l.length-i;omega) ?_;refine B5 [] [] (by simp[go_sem]) (by simp[A6,go_sem]) (by simp[go_sem,A6]) ?_;simp only[go_sem,go_sem_proc];exact⟨(AV.ren_id (.fn (.func f) first cap)).symm,(λi hi=>by rw[h1,h2]at hi;cases hi),(by rw[IntKind.wrap_i64];omega)⟩
  ·rename_i hge;refine C6 [.share] [] [] rfl rfl (by simp[go_sem]) (by simp[A6,go_sem]) (by simp[go_sem,A6]) ?_;simp only[go_sem,go_sem_proc];exact(A4b λj hj=>hs j (by omega)).symm
theorem B6y(l:List Fixture)(f:FuncId)(first cap:List AV)(p:Fixture->Bool)(hl:l.length<=4194304)(h1:F4 first= [])(h2:F4 cap= [])
  (hp: ∀x∈l,A1 Tryz.prog f (first++ [.agg x.enc]++cap) [] (sB (p x)) []):
  A1 Tryz.prog B6s [.sl 1 0 l.length l.length, .fn (.func f) first cap] [(1, .arr 10 (A8 Fixture.enc default l))] (.sl 1 0 (dfR default p l l.length).1 l.length) [(1, .arr 10 (dfQ Fixture.enc default p l E7f))]:=by
 refine E9s hm A4 Tryz.func551 rfl rfl ?_;refine E0 hm ?_;simp only[go_sem,go_sem_proc];refine A1h (B4r l f first cap p hl h1 h2 hp) (by simp[okO]) (by simp[upd]) ?_ rfl ?_
 ·intro a ha i hi;simp only[List.mem_cons,List.not_mem_nil,or_false]at ha;rcases ha with rfl |rfl
  ·simp only[AV.ids,List.mem_singleton]at hi;subst hi;rfl
  ·simp only[AV.ids,h1,h2]at hi;cases hi
 simp only[go_sem,go_sem_proc];rcases D70 (d:=default) (p:=p) (l:=l)with⟨e,h0⟩ |⟨i0,hi0,e,hp0,hs0⟩
 ·rw[e,if_pos (by decide),E53 h0,B5s l.length (Nat.le_refl _) h0];refine C6 [.share] [] [] rfl rfl (by simp[go_sem]) (by simp[A6,go_sem]) (by simp[go_sem,A6]) ?_;simp only[go_sem,go_sem_proc]
 rw[e,if_neg (by simp)];refine A9 hm (ι:= {j:Nat // j<=l.length}) (λj=> [(0, .share, .sl 1 0 l.length l.length),(1, .share, .fn (.func f) first cap),(5, .share,sI ((dfR default p l j.1).1)),(6, .share,sI j.1)])
  (λj=> [(1, .arr 10 (A8 Fixture.enc default (dfR default p l j.1).2))]) (λj=>l.length-j.1) ⟨i0+1,hi0⟩ ?_ ?_
 ·have e1:dfR default p l (i0+1)=(i0,l):=by
   rw[dfR,B5s i0 (by omega) hs0];unfold B4q;rw[if_pos hp0]
  rw[e1];refine B5 [] [] (by simp[go_sem]) (by simp[A6,go_sem]) (by simp[go_sem,A6]) ?_;simp only[go_sem,go_sem_proc];exact⟨(AV.ren_id (.fn (.func f) first cap)).symm,(λi hi=>by rw[h1,h2]at hi;cases hi),(by rw[IntKind.wrap_i64];omega)⟩
 ·rintro⟨j,hj⟩;obtain⟨g1,g2,g3,g4⟩:=B8l (d:=default) (p:=p) (l:=l) j hj;dsimp only;have hnext:=λhjl:j<l.length=>(show dfR default p l (j+1)=B4q default p j (dfR default p l j)from rfl);generalize hst:dfR default p l j=st at g1 g2 g3 g4 hnext⊢;obtain⟨i,m⟩:=st;dsimp only at g1 g2 g3 g4 hnext⊢;simp only[go_sem,go_sem_proc];split
  ·rename_i hlt;have hlt:j<l.length:=by omega
   have hgj:=g3 j (Nat.le_refl j)
   have hn:=hnext hlt;simp only[hgj];refine⟨⟨g2.symm,by omega,by omega⟩,g2.symm,?_⟩;have hx:=hp (l.getD j default) (B6 default hlt);rw[List.append_assoc]at hx;refine B53 hx (by simp[A65,h1,h2,F4,AV.ids]) rfl ?_;simp only[go_sem,go_sem_proc];unfold B4q at hn;dsimp only at hn;rw[hgj]at hn;cases hpx:p (l.getD j default)with
   |true=>rw[hpx,if_pos rfl]at hn;rw[if_neg (by simp)];refine A7 ⟨j+1,hlt⟩ (by show l.length-(j+1)<l.length-j;omega) ?_;simp only[hn];refine B5 [] [] (by simp[go_sem]) (by simp[A6,go_sem]) (by simp[go_sem,A6]) ?_;simp only[go_sem,go_sem_proc];exact⟨(AV.ren_id (.fn (.func f) first cap)).symm,(λi hi=>by rw[h1,h2]at hi;cases hi),(by rw[IntKind.wrap_i64];omega)⟩
   |false=>rw[hpx,if_neg (by simp)]at hn;rw[if_pos rfl];refine⟨⟨g2.symm,by omega,by omega⟩,g2.symm,?_⟩;refine A7 ⟨j+1,hlt⟩ (by show l.length-(j+1)<l.length-j;omega) ?_;simp only[hn];rw[B1l (l.getD j default) (by omega) (by rw[<-hgj];rfl)];refine B5 [] [] (by simp[go_sem]) (by simp[A6,go_sem]) (by simp[go_sem,A6]) ?_;simp only[go_sem,go_sem_proc];exact⟨(AV.ren_id (.fn (.func f) first cap)).symm,(λi hi=>by rw[h1,h2]at hi;cases hi),(by rw[IntKind.wrap_i64];omega),(by rw[IntKind.wrap_i64];omega)⟩
  ·rename_i hge;obtain rfl:j=l.length:=by omega
   have e1:((l.length:Int)-(i:Int)).toNat=l.length-i:=by omega
   have e2:((i:Int)-0).toNat=i:=by omega
   rw[e1,e2];refine⟨⟨g2.symm,by omega,by omega,by omega⟩,g2.symm,⟨g2.symm,by omega,by omega,by omega⟩,?_⟩;unfold dfQ;rw[hst];refine C6 [.share] [] [] rfl rfl (by simp[go_sem]) (by simp[A6,go_sem]) (by simp[go_sem,A6]) ?_;simp only[go_sem,go_sem_proc];exact B1e
def S7(b:Body):List Fixture:=b.Fixtures.filter λp=> !p.Sensor
theorem E0n {b:Body}{f:Fixture}(h:f∈S7 b):f∈b.Fixtures:=(List.mem_filter.1 h).1
theorem E0k(b:Body):(S7 b).length<=b.Fixtures.length:=List.length_filter_le ..
theorem C09(p:Fixture):A1 Tryz.prog B1s [.agg p.enc] [] (sB p.Sensor) []:=by refine en1 hm A4 Tryz.func553 rfl rfl ?_;simp only[go_sem,go_sem_proc]
theorem B4y(b:Body)(h0:b.Fixtures.length<=1048576):A1 Tryz.prog C65 [.agg b.enc] [] (A2 10 Fixture.enc default (S7 b)) []:=by refine en1 hm A4 Tryz.func519 rfl rfl ?_;simp only[go_sem,go_sem_proc];refine K0 ev_ K8 (C1t b.Fixtures h0) ?_;simp only[go_sem,go_sem_proc];refine E3 [true,true] [(1,96)] (B6y b.Fixtures B1s [] [] (λp=>p.Sensor) (by omega) rfl rfl (λp _=>C09 p)) (by simp) (by simp) (by simp[A6]) (by simp[go_sem]) ?_;simp only[go_sem,go_sem_proc];exact⟨F7a.symm,F3s rfl λ_=>rfl⟩
def iw2(x y z:Body)(p:Fixture)(k:Nat)(s:Int):Int:=
 if A0a p ((S7 z).getD k default)=true then
  (if(Y5 p.Shape x.Transform y.Transform ((S7 z).getD k default).Shape z.Transform z.Transform).2=true/\0<(Y5 p.Shape x.Transform y.Transform ((S7 z).getD k default).Shape z.Transform z.Transform).1 then
    (if(Y5 p.Shape x.Transform y.Transform ((S7 z).getD k default).Shape z.Transform z.Transform).1<s then(Y5 p.Shape x.Transform y.Transform ((S7 z).getD k default).Shape z.Transform z.Transform).1 else s)else s)else s
def iw1(x y z:Body)(i:Nat)(s:Int):Int:=itr (iw2 x y z ((S7 y).getD i default)) (S7 z).length s
def F0d(x y z:Body):Int:=itr (iw1 x y z) (S7 y).length 65536
theorem D41(x y z:Body)(hy:Body.sm y)(hz:Body.sm z):A1 Tryz.prog D4x [.agg x.enc, .agg y.enc, .agg z.enc] [] (sI (F0d x y z)) []:=by
 have l1:=E0k y
 have l2:=E0k z
 have m1:=hy.1
 have m2:=hz.1;unfold F0d;refine en1 hm A4 Tryz.func446 rfl rfl ?_;simp only[go_sem,go_sem_proc];refine A0 (B4y y hy.1) rfl ?_;simp only[go_sem,go_sem_proc];refine A9 hm (ι:= {i:Nat // i<=(S7 y).length}) (λi=> [(3, .thaw, .fptr x.enc),(4, .thaw, .fptr y.enc),(5, .thaw, .fptr z.enc),(7, .share,sI (itr (iw1 x y z) i.1 65536)),(15, .share,A2 10 Fixture.enc default (S7 y)),(16, .share,sI ((S7 y).length)),(17, .share,sI (i.1:Nat))]) (λi=> []) (λi=>(S7 y).length-i.1) ⟨0,Nat.zero_le _⟩ ?_ ?_
 ·simp only[H5];refine B8 [] [] ?_;simp only[go_sem,go_sem_proc,A0c]
 ·rintro⟨i,hi⟩;dsimp only;have hn1:itr (iw1 x y z) (i+1) 65536=iw1 x y z i (itr (iw1 x y z) i 65536):=E4 ..
  have hfin:(S7 y).length<=i->itr (iw1 x y z) i 65536=itr (iw1 x y z) (S7 y).length 65536:=λh=>by rw[show i=(S7 y).length by omega]
  generalize itr (iw1 x y z) i 65536=v at hn1 hfin⊢;simp only[go_sem,go_sem_proc];by_cases hlt:i<(S7 y).length;rotate_left
  ·rw[if_neg (by omega),<-hfin (by omega)]
  rw[if_pos (by omega)];refine⟨bE_,?_⟩;rw[iw1.eq_1 x y z i v]at hn1;have hp:=hy.2 _ (E0n (B6 default hlt));generalize(S7 y).getD i default=p at hn1 hp⊢;refine A0 (B4y z hz.1) rfl ?_;simp only[go_sem,go_sem_proc];refine A9 hm (ι:= {j:Nat // j<=(S7 z).length}) (λj=> [(3, .share, .fptr x.enc),(4, .share, .fptr y.enc),(5, .share, .fptr z.enc),(15, .share,A2 10 Fixture.enc default (S7 y)),(16, .share,sI ((S7 y).length)),(17, .share,sI (i:Nat)),(9, .thaw, .fptr p.enc),(7, .share,sI (itr (iw2 x y z p) j.1 v)),(22, .share,A2 10 Fixture.enc default (S7 z)),(23, .share,sI ((S7 z).length)),(24, .share,sI (j.1:Nat))]) (λj=> []) (λj=>(S7 z).length-j.1) ⟨0,Nat.zero_le _⟩ ?_ ?_
  ·simp only[H5];refine B8 [] [] ?_;simp only[go_sem,go_sem_proc,A0c]
  ·rintro⟨j,hj⟩;dsimp only;have hn2:itr (iw2 x y z p) (j+1) v=iw2 x y z p j (itr (iw2 x y z p) j v):=E4 ..
   have hfin2:(S7 z).length<=j->itr (iw2 x y z p) j v=itr (iw2 x y z p) (S7 z).length v:=λh=>by rw[show j=(S7 z).length by omega]
   generalize itr (iw2 x y z p) j v=u at hn2 hfin2⊢;simp only[go_sem,go_sem_proc];by_cases hlt2:j<(S7 z).length;rotate_left
   ·rw[if_neg (by omega)];refine A7 ⟨i+1,by omega⟩ (by show(S7 y).length-(i+1)<(S7 y).length-i;omega) ?_;rw[hn1,<-hfin2 (by omega)];refine B8 [] [] ?_;simp only[go_sem,go_sem_proc];exact eE_
   rw[if_pos (by omega)];refine⟨bE_,?_⟩;have hu:=iw2.eq_1 x y z p j u
   have hq:=hz.2 _ (E0n (B6 default hlt2));generalize(S7 z).getD j default=q at hu hq⊢;refine A0 (A8v p q) rfl ?_;generalize A0a p q=sc at hu⊢;cases sc with
   |false=>rw[if_neg (by simp)]at hu;rw[hu]at hn2;simp only[go_sem,go_sem_proc];refine A7 ⟨j+1,by omega⟩ (by show(S7 z).length-(j+1)<(S7 z).length-j;omega) ?_;simp only[hn2];refine B8 [] [] ?_;simp only[go_sem,go_sem_proc];exact eE_
   |true=>
    rw[if_pos rfl]at hu;simp only[go_sem,go_sem_proc];refine A0 (D0c p.Shape x.Transform y.Transform q.Shape z.Transform z.Transform hp hq) rfl ?_;generalize Y5 p.Shape x.Transform y.Transform q.Shape z.Transform z.Transform=t at hu⊢;obtain⟨t1,t2⟩:=t;dsimp only at hu;simp only[go_sem,go_sem_proc];by_cases ht:(t2&&decide (0<t1))=true
    ·rw[if_pos ht];rw[if_pos (show t2=true/\0<t1 by simpa using ht)]at hu;rw[hu]at hn2;refine A7 ⟨j+1,by omega⟩ (by show(S7 z).length-(j+1)<(S7 z).length-j;omega) ?_;simp only[hn2];refine B8 [] [] ?_;simp only[go_sem,go_sem_proc];exact eE_
    ·rw[if_neg ht];rw[if_neg (show ¬(t2=true/\0<t1)by simpa using ht)]at hu;rw[hu]at hn2;refine A7 ⟨j+1,by omega⟩ (by show(S7 z).length-(j+1)<(S7 z).length-j;omega) ?_;simp only[hn2];refine B8 [] [] ?_;simp only[go_sem,go_sem_proc];exact eE_
def fiS(bs as_:List Body)(js:List Joint)(i:Nat)(k:Nat)(s:Int):Int:=
 if(decide (k≠i)&& !(js.any (C94 (as_.getD i default).ID (as_.getD k default).ID)))=true then
  (if F0d (bs.getD i default) (as_.getD i default) (as_.getD k default)<s then F0d (bs.getD i default) (as_.getD i default) (as_.getD k default)else s)else s
def fiV(bs as_:List Body)(js:List Joint)(i:Nat):Int:=itr (fiS bs as_ js i) as_.length 65536
def fiR(bs as_:List Body)(js:List Joint)(i:Nat):Int×Bool:=
 if(!(as_.getD i default).Bullet||(as_.getD i default).Kind != 3||(as_.getD i default).Asleep)=true then(0,false)
 else if fiV bs as_ js i=65536 then(0,false)else(fiV bs as_ js i,true)
theorem D18(bs as_:List Body)(js:List Joint)(i:Nat)(hlen:bs.length=as_.length)(hi:i<as_.length)(hl:as_.length<=1048576)(hb: ∀b∈bs,Body.sm b)(ha: ∀b∈as_,Body.sm b)(hj:js.length<=1048576):
  A1 Tryz.prog D17 [A2 20 Body.enc default bs,A2 20 Body.enc default as_,A2 24 Joint.enc default js,sI (i:Nat)] [] (.tup [sI ((fiR bs as_ js i).1),sB ((fiR bs as_ js i).2)]) []:=by
 have hr:=fiR.eq_1 bs as_ js i
 have hbi:=ha _ (B6 default hi);refine enT hm A4 Tryz.func325 rfl rfl ?_;simp only[go_sem,go_sem_proc];rw[if_neg (by simp[hlen];omega)];refine⟨bE_,?_⟩;generalize hb0:as_.getD i default=b at hr hbi⊢;have hbb:=hb _ (B6 (l:=bs) (i:=i) default (by omega));by_cases hs:(!b.Bullet||b.Kind != 3||b.Asleep)=true
 ·rw[if_pos hs]at hr⊢;rw[hr];exact⟨rfl,rfl⟩
 rw[if_neg hs]at hr⊢;rw[hr];unfold fiV;refine A9 hm (ι:= {j:Nat // j<=as_.length}) (λj=> [(0, .share,A2 20 Body.enc default bs),(2, .share,A2 24 Joint.enc default js),(3, .share,sI (i:Nat)),(10, .thaw, .fptr b.enc),(11, .share,sI (itr (fiS bs as_ js i) j.1 65536)),(45, .share,A2 20 Body.enc default as_),(46, .share,sI as_.length),(47, .share,sI (j.1:Nat))]) (λj=> []) (λj=>as_.length-j.1) ⟨0,Nat.zero_le _⟩ ?_ ?_
 ·simp only[H5];refine B8 [] [] ?_;simp only[go_sem,go_sem_proc,A0c]
 ·rintro⟨k,hk⟩;dsimp only;have hn:itr (fiS bs as_ js i) (k+1) 65536=fiS bs as_ js i k (itr (fiS bs as_ js i) k 65536):=E4 ..
  have hfin:as_.length<=k->itr (fiS bs as_ js i) k 65536=itr (fiS bs as_ js i) as_.length 65536:=λh=>by rw[show k=as_.length by omega]
  generalize itr (fiS bs as_ js i) k 65536=v at hn hfin⊢;simp only[go_sem,go_sem_proc];by_cases hlt:k<as_.length;rotate_left
  ·rw[if_neg (by omega),<-hfin (by omega)];by_cases hv:v=65536
   ·rw[if_pos (by simpa using hv),if_pos hv];exact⟨rfl,rfl⟩
   ·rw[if_neg (by simpa using hv),if_neg hv];exact⟨rfl,rfl⟩
  rw[if_pos (by omega)];refine⟨bE_,?_⟩;rw[fiS.eq_1 bs as_ js i k v,hb0]at hn;have hok:=ha _ (B6 default hlt);generalize as_.getD k default=o at hn hok⊢;refine A0 (B1g js b.ID o.ID hj) rfl ?_;generalize js.any (C94 b.ID o.ID)=c at hn⊢;simp only[go_sem,go_sem_proc];by_cases hc:(((k:Nat):Int) != ((i:Nat):Int)&& !c)=true
  ·rw[if_pos hc];rw[if_pos (show(decide (k≠i)&& !c)=true by simp at hc⊢;exact⟨by omega,hc.2⟩)]at hn;refine⟨by omega,?_⟩;refine A0 (D41 (bs.getD i default) b o hbi hok) rfl ?_;simp only[go_sem,go_sem_proc];refine A7 ⟨k+1,by omega⟩ (by show as_.length-(k+1)<as_.length-k;omega) ?_;simp only[hn];refine B8 [] [] ?_;simp only[go_sem,go_sem_proc];exact eE_
  ·rw[if_neg hc];rw[if_neg (show ¬(decide (k≠i)&& !c)=true by simp at hc⊢;intro h;exact hc (by omega))]at hn;refine A7 ⟨k+1,by omega⟩ (by show as_.length-(k+1)<as_.length-k;omega) ?_;simp only[hn];refine B8 [] [] ?_;simp only[go_sem,go_sem_proc];exact eE_
def stR(bs as_:List Body)(js:List Joint)(i:Nat):Body×Bool:=if(fiR bs as_ js i).2=true then({as_.getD i default with Transform:=A1k (bs.getD i default).Transform (as_.getD i default).Transform (fiR bs as_ js i).1},true)else(as_.getD i default,false)
theorem F1x(bs as_:List Body)(js:List Joint)(i:Nat)(hlen:bs.length=as_.length)(hi:i<as_.length)(hl:as_.length<=1048576)(hb: ∀b∈bs,Body.sm b)(ha: ∀b∈as_,Body.sm b)(hj:js.length<=1048576):
  A1 Tryz.prog F07 [A2 20 Body.enc default bs,A2 20 Body.enc default as_,A2 24 Joint.enc default js,sI (i:Nat)] [] (.tup [.agg (stR bs as_ js i).1.enc,sB ((stR bs as_ js i).2)]) []:=by
 have hF:=D18 bs as_ js i hlen hi hl hb ha hj
 have hr:=stR.eq_1 bs as_ js i
 have hbi:=ha _ (B6 default hi);generalize fiR bs as_ js i=r at hF hr;obtain⟨r1,r2⟩:=r;dsimp only at hr hF;rw[hr];refine A62 48 [(8,some (some 20)),(9,none)] hm A4 Tryz.func197 rfl ?_;cases r2 with
 |false=>rw[if_neg (by simp)];simp only[go_sem,go_sem_proc];rw[if_neg (by split <;> simp <;> omega)];refine⟨bE_,?_⟩;refine A0 (A7s _ hbi) rfl ?_;simp only[go_sem,go_sem_proc];refine A0 hF rfl ?_;simp only[go_sem,go_sem_proc]
 |true=>rw[if_pos rfl];simp only[go_sem,go_sem_proc];rw[if_neg (by split <;> simp <;> omega)];refine⟨bE_,?_⟩;refine A0 (A7s _ hbi) rfl ?_;simp only[go_sem,go_sem_proc];refine A0 hF rfl ?_;simp only[go_sem,go_sem_proc];refine⟨by omega,?_⟩;refine A0 (B01 (bs.getD i default).Transform (as_.getD i default).Transform r1) rfl ?_;simp only[go_sem,go_sem_proc]
def stB(bs as_:List Body)(js:List Joint)(n:Nat):List Body:=(List.range n).map λi=>(stR bs as_ js i).1
def F0r(bs as_:List Body)(js:List Joint)(i:Nat):Option Api.Event:=if(stR bs as_ js i).2=true then some ⟨8,⟨(stR bs as_ js i).1.ID,0,0,0⟩⟩else none
def B07(bs as_:List Body)(js:List Joint)(n:Nat):List Api.Event:=(List.range n).filterMap (F0r bs as_ js)
theorem D8r(bs as_:List Body)(js:List Joint)(n:Nat):(stB bs as_ js n).length=n:=by simp[stB]
theorem E55(bs as_:List Body)(js:List Joint)(n:Nat):(B07 bs as_ js n).length<=n:=Nat.le_trans (List.length_filterMap_le ..) (by simp)
theorem F64(bs as_:List Body)(js:List Joint)(n:Nat):stB bs as_ js (n+1)=stB bs as_ js n++ [(stR bs as_ js n).1]:=by simp[stB,List.range_succ]
theorem F18(bs as_:List Body)(js:List Joint)(n:Nat):B07 bs as_ js (n+1)=B07 bs as_ js n++(F0r bs as_ js n).toList:=by simp only[B07,List.range_succ,List.filterMap_append];congr 1
theorem E2n(bs as_:List Body)(js:List Joint)(hlen:bs.length=as_.length)(hl:as_.length<=1048576)(hb: ∀b∈bs,Body.sm b)(ha: ∀b∈as_,Body.sm b)(hj:js.length<=1048576):
  A1 Tryz.prog E1m [A2 20 Body.enc default bs,A2 20 Body.enc default as_,A2 24 Joint.enc default js] [] (.tup [A2 20 Body.enc default (stB bs as_ js as_.length), .sl 1 0 (B07 bs as_ js as_.length).length (B07 bs as_ js as_.length).length]) [(1, .arr 5 (A8 Api.Event.enc default (B07 bs as_ js as_.length)))]:=by
 refine A7p hm A4 Tryz.func117 rfl rfl ?_;simp only[go_sem,go_sem_proc];refine A9 hm (ι:= {i:Nat // i<=as_.length}) (λi=> [(0, .share,A2 20 Body.enc default bs),(1, .share,A2 20 Body.enc default as_),(2, .share,A2 24 Joint.enc default js),(8,mdA i.1, .sl 2 0 (stB bs as_ js i.1).length (stB bs as_ js i.1).length),(9,mdA i.1, .sl 1 0 (B07 bs as_ js i.1).length (B07 bs as_ js i.1).length),(14, .share,sI as_.length),(15, .share,sI (i.1:Nat))]) (λi=> [(1, .arr 5 (A8 Api.Event.enc default (B07 bs as_ js i.1))),(2, .arr 20 (A8 Body.enc default (stB bs as_ js i.1)))]) (λi=>as_.length-i.1) ⟨0,Nat.zero_le _⟩ ?_ ?_
 ·simp only[show B07 bs as_ js 0= []from rfl,show stB bs as_ js 0= []from rfl];refine B8 [] [1,2] ?_;simp only[go_sem,go_sem_proc]
 ·rintro⟨i,hi⟩;dsimp only;have hB:=F64 bs as_ js i
  have hE:=F18 bs as_ js i
  have lB:=D8r bs as_ js i
  have lE:=E55 bs as_ js i
  have fB:as_.length<=i->stB bs as_ js i=stB bs as_ js as_.length:=λh=>by rw[show i=as_.length by omega]
  have fE:as_.length<=i->B07 bs as_ js i=B07 bs as_ js as_.length:=λh=>by rw[show i=as_.length by omega]
  generalize stB bs as_ js i=B at hB lB fB⊢;generalize B07 bs as_ js i=E at hE lE fE⊢;simp only[go_sem,go_sem_proc];by_cases hlt:i<as_.length;rotate_left
  ·rw[if_neg (by omega),<-fB (by omega),<-fE (by omega)];refine V3 [.thaw, .share] [] [] ?_;simp only[go_sem,go_sem_proc]
  rw[if_pos (by omega)];refine A0 (F1x bs as_ js i hlen hlt hl hb ha hj) rfl ?_;rw[F0r.eq_1 bs as_ js i]at hE;generalize stR bs as_ js i=r at hB hE⊢;obtain⟨r1,r2⟩:=r;dsimp only at hB hE;cases r2 with
  |false=>rw[if_neg (by simp)]at hE;simp only[Option.toList,List.append_nil]at hE;simp only[go_sem,go_sem_proc];refine⟨bE_,?_⟩;refine A7 ⟨i+1,by omega⟩ (by show as_.length-(i+1)<as_.length-i;omega) ?_;simp only[hB,hE];refine B8 [] [] ?_;simp only[go_sem,go_sem_proc];exact eE_
  |true=>rw[if_pos rfl]at hE;simp only[Option.toList]at hE;simp only[go_sem,go_sem_proc];refine⟨bE_,bE_,?_⟩;refine A7 ⟨i+1,by omega⟩ (by show as_.length-(i+1)<as_.length-i;omega) ?_;simp only[hB,hE];refine B8 [] [] ?_;simp only[go_sem,go_sem_proc];exact eE_
theorem Y0 {P:Program}{m:Nat->Option A5}{f:FuncId}{avs:List AV}{b:Bool}{Q:ContR}{O O':List (Nat×A5)}{r:AV}(hc:A1 P f avs O r O')(h:okO O)(hk:O'.map (·.1)=O.map (·.1))(hm: ∀p∈O,m p.1=some p.2)
  (ha: ∀a∈avs,∀i∈a.ids,(ofL O i).isSome)(hb:b=true)(hK: @Ri Q b ⟨some r,O'⟩): @A4x P m f avs b Q:=by
 rw[<-D1w O']at hK;have hiff: ∀i,(ofL O' i).isSome↔(ofL O i).isSome:=λi=>by
  have key: ∀(l:List (Nat×A5)),(l.map (·.1)).Nodup->((ofL l i).isSome↔i∈l.map (·.1)):=λl hl=>by
   constructor
   ·intro hs;obtain⟨o,ho⟩:=Option.isSome_iff_exists.1 hs;exact List.mem_map_of_mem (f:=(·.1)) (A05 hl ho)
   ·intro hs;rw[List.mem_map]at hs;obtain⟨p,hp,rfl⟩:=hs;rw[B4d hl hp];rfl
  rw[key O' (by rw[hk];exact h.1),key O h.1,hk]
 refine⟨⟨some r,A3n id O'⟩,λ_=> ?_,λ_=>hb,hK⟩;have:=T5.mk (P:=P) (m:=m) (avs.map λ_=>true) avs O r O' id [] false hc (B1k ha)
  (λi o hi=>by rw[B51];exact hm _ (A05 h.1 hi))
  (λi cs hi j hj=>h.2 _ (A05 h.1 hi) cs rfl j hj) (λi hi=>(hiff i).2 hi) (λi hi=> .inl ((hiff i).1 hi)) (by show(O'.map (·.1)).Nodup;rw[hk];exact h.1) (λe=>by cases e)
 simpa[AV.ren_id]using this
def B4p(n:Nat)(l:List Int)(i:Int):List Int:=if 0<=i/\i<n then l++ [i]else l
def A3v(w:Api.World)(l:List Int)(id:Int):List Int:=if id≠0 then B4p w.Bodies.length l (H6 w id)else l
def D8i(w:Api.World)(l:List Int):List (Nat×A5):= [(48, .box w.enc),(96, .box [.sl 1 0 l.length l.length]),(1, .arr 1 (A8 B9 0 l)),(112, .box [.fn (.func B0e) [] [.ptr 48 0 0 1, .ptr 96 0 0 1]])]
attribute [go_sem] D8i
theorem B5l(w:Api.World)(l:List Int):okO (D8i w l):=by refine⟨by simp[go_sem],?_⟩;simp[go_sem,F4,AV.ids]
theorem C51(n:Nat)(l:List Int)(i:Int):(B4p n l i).length<=l.length+1:=by unfold B4p;split <;> simp
theorem B3d(w:Api.World)(l:List Int)(i:Int):(A3v w l i).length<=l.length+1:=by
 unfold A3v;split
 ·exact C51 _ _ _
 ·omega
theorem B61(w:Api.World)(l:List Int)(i:Int)(hl:l.length<=10000000):A1 Tryz.prog B0e [sI i, .ptr 48 0 0 1, .ptr 96 0 0 1] (D8i w l) (.tup []) (D8i w (B4p w.Bodies.length l i)):=by
 refine A7p hm A4 Tryz.func295 rfl rfl ?_;simp only[go_sem];by_cases hc:0<=i/\i<(w.Bodies.length:Int)
 ·have he:B4p w.Bodies.length l i=l++ [i]:=by unfold B4p;rw[if_pos hc]
  rw[if_pos (by rw[if_pos hc.1];exact decide_eq_true hc.2)];refine⟨ok_,?_⟩;refine C6 [] [] [] rfl rfl (by simp[go_sem]) (by simp[A6,go_sem]) (by simp[go_sem]) ?_;simp only[go_sem,he,List.length_append,List.length_singleton];exact A1y i rfl rfl
 ·have he:B4p w.Bodies.length l i=l:=by unfold B4p;rw[if_neg hc]
  rw[if_neg (by
   intro h;apply hc;by_cases c1:0<=i
   ·rw[if_pos c1]at h;exact⟨c1,of_decide_eq_true h⟩
   ·rw[if_neg c1]at h;cases h)]
  refine C6 [] [] [] rfl rfl (by simp[go_sem]) (by simp[A6,go_sem]) (by simp[go_sem]) ?_;simp only[go_sem,he]
theorem A6f(w:Api.World)(l:List Int)(i:Int)(hl:l.length<=10000000)(hw:w.Bodies.length<=1048576):A1 Tryz.prog A6r [sI i, .ptr 112 0 0 1, .ptr 48 0 0 1] (D8i w l) (.tup []) (D8i w (A3v w l i)):=by
 refine A7p hm A4 Tryz.func296 rfl rfl ?_;simp only[go_sem];by_cases hc:i=0
 ·have he:A3v w l i=l:=by unfold A3v;rw[if_neg (by simp[hc])]
  rw[if_neg (by simp[hc])];refine C6 [] [] [] rfl rfl (by simp[go_sem]) (by simp[A6,go_sem]) (by simp[go_sem]) ?_;simp only[go_sem,he]
 ·have he:A3v w l i=B4p w.Bodies.length l (H6 w i):=by unfold A3v;rw[if_pos hc]
  rw[if_pos (by simp[hc])];refine A0 (A16 w i hw) rfl ?_;simp only[go_sem];refine Y0 (B61 w l (H6 w i) hl) (B5l w l) rfl (by simp[go_sem]) (by simp[go_sem,AV.ids]) rfl ?_;simp only[go_sem];refine C6 [] [] [] rfl rfl (by simp[go_sem]) (by simp[A6,go_sem]) (by simp[go_sem]) ?_;simp only[go_sem,he]
def A98(w:Api.World)(l:List Int)(i:Int):List Int:=if 0<=i/\i<w.Contacts.length then A3v w (A3v w l (w.Contacts.getD i.toNat default).Key.BodyA) (w.Contacts.getD i.toNat default).Key.BodyB else l
def A88(w:Api.World)(l:List Int)(i:Int):List Int:=if 0<=i/\i<w.Joints.length then A3v w (A3v w l (w.Joints.getD i.toNat default).BodyA) (w.Joints.getD i.toNat default).BodyB else l
def B0c(w:Api.World)(x:B0):List Int:=x.Bodies.foldl (B4p w.Bodies.length) []
def A86(w:Api.World)(x:B0):List Int:=x.Contacts.foldl (A98 w) (B0c w x)
def A9b(w:Api.World)(x:B0):List Int:=x.Joints.foldl (A88 w) (A86 w x)
theorem D4y(w:Api.World)(l:List Int)(i:Int):(A98 w l i).length<=l.length+2:=by
 unfold A98;split
 ·have h1:=B3d w (A3v w l (w.Contacts.getD i.toNat default).Key.BodyA) (w.Contacts.getD i.toNat default).Key.BodyB
  have h2:=B3d w l (w.Contacts.getD i.toNat default).Key.BodyA;omega
 ·omega
theorem D31(w:Api.World)(l:List Int)(i:Int):(A88 w l i).length<=l.length+2:=by
 unfold A88;split
 ·have h1:=B3d w (A3v w l (w.Joints.getD i.toNat default).BodyA) (w.Joints.getD i.toNat default).BodyB
  have h2:=B3d w l (w.Joints.getD i.toNat default).BodyA;omega
 ·omega
theorem A8c {f:List Int->Int->List Int}{k:Nat}(hf: ∀l i,(f l i).length<=l.length+k)(l:List Int): ∀(acc:List Int),(l.foldl f acc).length<=acc.length+k*l.length:=by
 induction l with
 |nil=>intro acc;simp
 |cons a l ih=>intro acc;have:=ih (f acc a);have:=hf acc a;simp only[List.foldl_cons,List.length_cons,Nat.mul_add];omega
theorem B60 {f:List Int->Int->List Int}{l:List Int}{k:Nat}{acc:List Int}(h:k<l.length):(l.take (k+1)).foldl f acc=f ((l.take k).foldl f acc) (l.getD k 0):=by rw[K9 0 h];simp
def F1l(w:Api.World)(x:B0)(l:List Int):List (Nat×A5):= [(48, .box w.enc),(64, .box x.enc),(96, .box [.sl 1 0 l.length l.length]),(1, .arr 1 (A8 B9 0 l)),(112, .box [.fn (.func B0e) [] [.ptr 48 0 0 1, .ptr 96 0 0 1]])]
attribute [go_sem] F1l
def H3(w:Api.World)(x:B0):List Int:=B2a (A9e (A9b w x))
theorem C0v(w:Api.World)(x:B0)(hw:Wsm w)(hx:Ism x):A1 Tryz.prog C0k [.agg w.enc, .agg x.enc] [] (.sl 1 0 (H3 w x).length (A9b w x).length)
  [(1, .arr 1 (A8 B9 0 (H3 w x++List.replicate ((A9b w x).length-(H3 w x).length) 0)))]:=by
 obtain⟨w1,w2,w3,w4,w5,w6⟩:=hw;obtain⟨x1,x2,x3⟩:=hx;refine H8 hm A4 Tryz.func178 rfl rfl ?_;simp only[go_sem];refine A9 hm (ι:= {i:Nat // i<=x.Bodies.length}) (λi=> [(2, .share, .ptr 48 0 0 1),(3, .share, .ptr 64 0 0 1),(5, .share, .ptr 96 0 0 1),(6, .share, .ptr 112 0 0 1),(7, .share, .fn (.func A6r) [] [.ptr 112 0 0 1, .ptr 48 0 0 1]),(17, .share,A2 1 B9 0 x.Bodies),(18, .share,sI x.Bodies.length),(19, .share,sI i.1)])
  (λi=>F1l w x ((x.Bodies.take i.1).foldl (B4p w.Bodies.length) [])) (λi=>x.Bodies.length-i.1) ⟨0,by omega⟩ ?_ ?_
 ·refine D6 [] [1] ?_;simp only[go_sem]
 ·rintro⟨i,hi⟩;have hn:=A8c (C51 w.Bodies.length) (x.Bodies.take i) []
  have hn:((x.Bodies.take i).foldl (B4p w.Bodies.length) []).length<=10000000:=by simp only[List.length_take,List.length_nil]at hn;omega
  simp only[go_sem];split
  ·rename_i hlt;have hlt:i<x.Bodies.length:=by omega
   refine⟨ok_,?_⟩;refine Y0 (B61 w _ (x.Bodies.getD i 0) hn) (B5l w _) rfl (by simp[go_sem]) (by simp[go_sem,AV.ids]) rfl ?_;simp only[go_sem];refine A7 ⟨i+1,by omega⟩ (by show x.Bodies.length-(i+1)<x.Bodies.length-i;omega) (D6 [] [] ?_);simp only[go_sem,B60 hlt];exact(by rw[IntKind.wrap_i64];omega)
  ·rename_i hge;obtain rfl:i=x.Bodies.length:=by omega
   have hb1:(B0c w x).length<=1048576:=by have:=A8c (C51 w.Bodies.length) x.Bodies [];simp only[List.length_nil]at this;unfold B0c;omega
   refine A9 hm (ι:= {i:Nat // i<=x.Contacts.length}) (λi=> [(2, .share, .ptr 48 0 0 1),(3, .share, .ptr 64 0 0 1),(5, .share, .ptr 96 0 0 1),(7, .share, .fn (.func A6r) [] [.ptr 112 0 0 1, .ptr 48 0 0 1]),(28, .share,A2 1 B9 0 x.Contacts),(29, .share,sI x.Contacts.length),(30, .share,sI i.1)])
    (λi=>F1l w x ((x.Contacts.take i.1).foldl (A98 w) (B0c w x))) (λi=>x.Contacts.length-i.1) ⟨0,by omega⟩ ?_ ?_
   ·refine D6 [] [] ?_;simp only[go_sem,List.take_length,List.foldl_nil,B0c]
   ·rintro⟨i,hi⟩;have hn:=A8c (D4y w) (x.Contacts.take i) (B0c w x)
    have hn:((x.Contacts.take i).foldl (A98 w) (B0c w x)).length<=4000000:=by simp only[List.length_take]at hn;omega
    simp only[go_sem];split
    ·rename_i hlt;have hlt:i<x.Contacts.length:=by omega
     refine⟨ok_,?_⟩;by_cases hc:0<=x.Contacts.getD i 0/\x.Contacts.getD i 0<(w.Contacts.length:Int)
     ·have he:A98 w ((x.Contacts.take i).foldl (A98 w) (B0c w x)) (x.Contacts.getD i 0)=A3v w (A3v w ((x.Contacts.take i).foldl (A98 w) (B0c w x)) (w.Contacts.getD (x.Contacts.getD i 0).toNat default).Key.BodyA) (w.Contacts.getD (x.Contacts.getD i 0).toNat default).Key.BodyB:=by unfold A98;rw[if_pos hc]
      rw[if_pos (by rw[if_pos hc.1];exact decide_eq_true hc.2)];refine⟨⟨hc.1,hc.2⟩,?_⟩;have hn2:=B3d w ((x.Contacts.take i).foldl (A98 w) (B0c w x)) (w.Contacts.getD (x.Contacts.getD i 0).toNat default).Key.BodyA;refine Y0 (A6f w ((x.Contacts.take i).foldl (A98 w) (B0c w x)) (w.Contacts.getD (x.Contacts.getD i 0).toNat default).Key.BodyA (by omega) w1) (B5l w _) rfl (by simp[go_sem]) (by simp[go_sem,AV.ids]) rfl ?_;simp only[go_sem];refine⟨⟨hc.1,hc.2⟩,?_⟩;refine Y0 (A6f w (A3v w ((x.Contacts.take i).foldl (A98 w) (B0c w x)) (w.Contacts.getD (x.Contacts.getD i 0).toNat default).Key.BodyA) (w.Contacts.getD (x.Contacts.getD i 0).toNat default).Key.BodyB (by omega) w1) (B5l w _) rfl (by simp[go_sem]) (by simp[go_sem,AV.ids]) rfl ?_;simp only[go_sem];refine A7 ⟨i+1,by omega⟩ (by show x.Contacts.length-(i+1)<x.Contacts.length-i;omega) (D6 [] [] ?_);simp only[go_sem,B60 hlt,he];exact(by rw[IntKind.wrap_i64];omega)
     ·have he:A98 w ((x.Contacts.take i).foldl (A98 w) (B0c w x)) (x.Contacts.getD i 0)=((x.Contacts.take i).foldl (A98 w) (B0c w x)):=by unfold A98;rw[if_neg hc]
      rw[if_neg (by
       intro h;apply hc;by_cases c1:0<=x.Contacts.getD i 0
       ·rw[if_pos c1]at h;exact⟨c1,of_decide_eq_true h⟩
       ·rw[if_neg c1]at h;cases h)]
      refine A7 ⟨i+1,by omega⟩ (by show x.Contacts.length-(i+1)<x.Contacts.length-i;omega) (D6 [] [] ?_);simp only[go_sem,B60 hlt,he];exact(by rw[IntKind.wrap_i64];omega)
    ·rename_i hge;obtain rfl:i=x.Contacts.length:=by omega
     have hb2:(A86 w x).length<=4000000:=by have:=A8c (D4y w) x.Contacts (B0c w x);unfold A86;omega
     refine A9 hm (ι:= {i:Nat // i<=x.Joints.length}) (λi=> [(2, .share, .ptr 48 0 0 1),(5, .share, .ptr 96 0 0 1),(7, .share, .fn (.func A6r) [] [.ptr 112 0 0 1, .ptr 48 0 0 1]),(63, .share,A2 1 B9 0 x.Joints),(64, .share,sI x.Joints.length),(65, .share,sI i.1)])
      (λi=>F1l w x ((x.Joints.take i.1).foldl (A88 w) (A86 w x))) (λi=>x.Joints.length-i.1) ⟨0,by omega⟩ ?_ ?_
     ·refine D6 [] [] ?_;simp only[go_sem,List.take_length,List.foldl_nil,A86]
     ·rintro⟨i,hi⟩;have hn:=A8c (D31 w) (x.Joints.take i) (A86 w x)
      have hn:((x.Joints.take i).foldl (A88 w) (A86 w x)).length<=8000000:=by simp only[List.length_take]at hn;omega
      simp only[go_sem];split
      ·rename_i hlt;have hlt:i<x.Joints.length:=by omega
       refine⟨ok_,?_⟩;by_cases hc:0<=x.Joints.getD i 0/\x.Joints.getD i 0<(w.Joints.length:Int)
       ·have he:A88 w ((x.Joints.take i).foldl (A88 w) (A86 w x)) (x.Joints.getD i 0)=A3v w (A3v w ((x.Joints.take i).foldl (A88 w) (A86 w x)) (w.Joints.getD (x.Joints.getD i 0).toNat default).BodyA) (w.Joints.getD (x.Joints.getD i 0).toNat default).BodyB:=by unfold A88;rw[if_pos hc]
        rw[if_pos (by rw[if_pos hc.1];exact decide_eq_true hc.2)];refine⟨⟨hc.1,hc.2⟩,?_⟩;have hn2:=B3d w ((x.Joints.take i).foldl (A88 w) (A86 w x)) (w.Joints.getD (x.Joints.getD i 0).toNat default).BodyA;refine Y0 (A6f w ((x.Joints.take i).foldl (A88 w) (A86 w x)) (w.Joints.getD (x.Joints.getD i 0).toNat default).BodyA (by omega) w1) (B5l w _) rfl (by simp[go_sem]) (by simp[go_sem,AV.ids]) rfl ?_;simp only[go_sem];refine⟨⟨hc.1,hc.2⟩,?_⟩;refine Y0 (A6f w (A3v w ((x.Joints.take i).foldl (A88 w) (A86 w x)) (w.Joints.getD (x.Joints.getD i 0).toNat default).BodyA) (w.Joints.getD (x.Joints.getD i 0).toNat default).BodyB (by omega) w1) (B5l w _) rfl (by simp[go_sem]) (by simp[go_sem,AV.ids]) rfl ?_;simp only[go_sem];refine A7 ⟨i+1,by omega⟩ (by show x.Joints.length-(i+1)<x.Joints.length-i;omega) (D6 [] [] ?_);simp only[go_sem,B60 hlt,he];exact(by rw[IntKind.wrap_i64];omega)
       ·have he:A88 w ((x.Joints.take i).foldl (A88 w) (A86 w x)) (x.Joints.getD i 0)=((x.Joints.take i).foldl (A88 w) (A86 w x)):=by unfold A88;rw[if_neg hc]
        rw[if_neg (by
         intro h;apply hc;by_cases c1:0<=x.Joints.getD i 0
         ·rw[if_pos c1]at h;exact⟨c1,of_decide_eq_true h⟩
         ·rw[if_neg c1]at h;cases h)]
        refine A7 ⟨i+1,by omega⟩ (by show x.Joints.length-(i+1)<x.Joints.length-i;omega) (D6 [] [] ?_);simp only[go_sem,B60 hlt,he];exact(by rw[IntKind.wrap_i64];omega)
      ·rename_i hge;obtain rfl:i=x.Joints.length:=by omega
       have hb3:(A9b w x).length<=8000000:=by have:=A8c (D31 w) x.Joints (A86 w x);unfold A9b;omega
       have hb4:=A90 (A9b w x)
       have ebod:(x.Joints.take x.Joints.length).foldl (A88 w) (A86 w x)=A9b w x:=by rw[List.take_length];rfl
       simp only[go_sem,ebod];refine Y0 (B7m (A9b w x) (by omega)) (by refine⟨by simp,?_⟩;simp) rfl (by simp[go_sem]) (by simp[go_sem,AV.ids]) rfl ?_;simp only[go_sem,ebod];have hS:=B35 (A9e (A9b w x)) (by omega);rw[hb4]at hS;refine Y0 hS (by refine⟨by simp,?_⟩;simp) rfl (by simp[go_sem]) (by simp[go_sem,AV.ids]) rfl ?_;simp only[go_sem];refine C6 [.share] [] [] rfl rfl (by simp[go_sem]) (by simp[A6,go_sem]) (by simp[go_sem]) ?_;simp only[go_sem,H3]
theorem B1n {P:Program}{m:Nat->Option A5}{f:FuncId}{avs:List AV}{b:Bool}{Q:ContR}(hb:b=false)(r:AV)(hK: @Ri Q b ⟨some r,[]⟩): @A4x P m f avs b Q:=⟨⟨some r,[]⟩,(λh=>by rw[hb]at h;cases h),(λh=>absurd rfl h),hK⟩
def drO(w:Api.World)(x:B0)(l:List Int):List (Nat×A5):=(32, .box [.ptr 6 0 0 1])::A5t w x l
attribute [go_sem] drO
theorem D96(w:Api.World)(x:B0)(l:List Int):okO (drO w x l):=by refine⟨by simp[go_sem],?_⟩;simp[go_sem,F4,AV.ids]
theorem B9y(w:Api.World)(x:B0)(l:List Int)(i:Int)(h0:0<=i)(h1:i<w.Bodies.length):A1 Tryz.prog B02 [sI i, .ptr 32 0 0 1] (drO w x l) (sB (D33 (B37 w i))) (drO w x l):=by refine H8 hm A4 Tryz.func330 rfl rfl ?_;simp only[go_sem];refine⟨⟨h0,h1⟩,?_⟩;refine A1h (C6d w x l (B37 w i)) (A9o w x l) (by simp[go_sem]) (by simp[go_sem,AV.ids]) rfl ?_;simp only[go_sem];refine C6 [.share] [] [] rfl rfl (by simp[go_sem]) (by simp[A6,go_sem]) (by simp[go_sem]) ?_;simp only[go_sem]
def E21(w:Api.World)(i:Int):Bool:=if 0<=i/\i<w.Joints.length then(w.Joints.getD i.toNat default).EnableMotor else false
theorem B9x(w:Api.World)(x:B0)(l:List Int)(i:Int):A1 Tryz.prog B0y [sI i, .ptr 32 0 0 1] (drO w x l) (sB (E21 w i)) (drO w x l):=by
 refine H8 hm A4 Tryz.func332 rfl rfl ?_;simp only[go_sem];refine⟨λh=>(by by_cases h0:0<=i;(rw[if_pos h0]at h;exact⟨h0,of_decide_eq_true h⟩);(rw[if_neg h0]at h;cases h)),?_⟩;refine C6 [.share] [] [] rfl rfl (by simp[go_sem]) (by simp[A6,go_sem]) (by simp[go_sem]) ?_;simp only[go_sem];unfold E21;by_cases h0:0<=i
 ·by_cases h1:i<(w.Joints.length:Int)
  ·simp only[h0,h1,and_self,if_true,decide_true,Bool.true_and]
  ·simp only[h0,h1,and_false,if_true,if_false,decide_false,Bool.false_and]
 ·simp only[h0,false_and,if_false,Bool.false_and]
theorem F4b(l:List Int):(A5.arr 1 (A8 B9 0 l)).NoDsl:=λk hk=>rfl
theorem F5q {z m:Nat}{l r:List Int}{g:Nat->List AV}(hm:m=l.length)(hg: ∀i,g i=B9 ((l++r).getD i 0)):M4 (.dsl z m g) (.dsl z l.length (L7 B9 0 l)):=by
 subst hm;simp only[M4,true_and];intro i hi;have:(l++r).getD i 0=l.getD i 0:=by simp[List.getD,List.getElem?_append,hi]
 simp only[L7,hg,this];exact L3 _
theorem E29 {n:Nat}{l:List Int}{i x:Int}(h:x∈B4p n l i):x∈l\/(x=i/\0<=i/\i<n):=by
 unfold B4p at h;split at h
 ·rename_i hc;rw[List.mem_append,List.mem_singleton]at h;rcases h with h |h
  ·exact .inl h
  ·exact .inr ⟨h,hc⟩
 ·exact .inl h
theorem C5k {w:Api.World}{l:List Int}{id:Int}(h: ∀x∈l,0<=x/\x<(w.Bodies.length:Int)): ∀x∈A3v w l id,0<=x/\x<(w.Bodies.length:Int):=by
 intro x hx;unfold A3v at hx;split at hx
 ·rcases E29 hx with h1 |⟨rfl,h1⟩
  ·exact h x h1
  ·exact h1
 ·exact h x hx
theorem D99 {f:List Int->Int->List Int}{Q:Int->Prop}(hf: ∀l i,(∀x∈l,Q x)-> ∀x∈f l i,Q x)(l:List Int): ∀(acc:List Int),(∀x∈acc,Q x)-> ∀x∈l.foldl f acc,Q x:=by
 induction l with
 |nil=>exact λacc h=>h
 |cons a l ih=>exact λacc h=>ih (f acc a) (hf acc a h)
theorem D9q(w:Api.World)(x:B0): ∀i∈A9b w x,0<=i/\i<(w.Bodies.length:Int):=by
 refine D99 (λl i h=> ?_) _ _ (D99 (λl i h=> ?_) _ _ (D99 (λl i h x hx=> ?_) _ _ (by simp)))
 ·unfold A88;split
  ·exact C5k (C5k h)
  ·exact h
 ·unfold A98;split
  ·exact C5k (C5k h)
  ·exact h
 ·rcases E29 hx with h1 |⟨rfl,h1⟩
  ·exact h x h1
  ·exact h1
theorem D4w {w:Api.World}{x:B0}{i:Int}:i∈H3 w x↔i∈A9b w x:=by unfold H3;rw[F21,F2p]
theorem E4f(w:Api.World)(x:B0):(H3 w x).length<=(A9b w x).length:=by unfold H3;have:=B6w (A9e (A9b w x));rwa[A90]at this
theorem E5i {w:Api.World}{x:B0}(hx:Ism x):(A9b w x).length<=8000000:=by
 obtain⟨x1,x2,x3⟩:=hx;have h1:=A8c (C51 w.Bodies.length) x.Bodies []
 have h2:=A8c (D4y w) x.Contacts (B0c w x)
 have h3:=A8c (D31 w) x.Joints (A86 w x);simp only[List.length_nil]at h1;unfold A9b;unfold A86 at h3⊢;unfold B0c at h2 h3⊢;omega
def B5i(w:Api.World)(x:B0):Bool:=(H3 w x).any (λi=>D33 (B37 w i))||x.Joints.any (E21 w)
theorem B4s(w:Api.World)(x:B0)(l:List Int)(hw:Wsm w)(hx:Ism x):A1 Tryz.prog C6a [.ptr 6 0 0 1] (A5t w x l) (sB (B5i w x)) (A5t w x l):=by
 have hb3:=E5i (w:=w) hx
 have hbl:=E4f w x;refine H8 hm A4 Tryz.func201 rfl rfl ?_;simp only[go_sem];refine E6d [(1,7)] (C0v w x hw hx) rfl (by simp only[List.mem_singleton,forall_eq];exact F4b _) (by simp) (by simp) (by simp only[A02,go_sem]) (by simp[go_sem]) rfl ?_;simp only[go_sem];refine E3 [false,true] [] (A43 (H3 w x) B02 [] [.ptr 32 0 0 1] (drO w x l) (λi=>D33 (B37 w i)) (by omega) (D96 w x l) (by simp[go_sem,AV.ids]) (λi hi=>B9y w x l i (D9q w x i (D4w.1 hi)).1 (D9q w x i (D4w.1 hi)).2)) (by simp[go_sem]) (by simp[go_sem]) (by simp[go_sem]) (by simp[go_sem]) ?_;simp only[go_sem];refine⟨by rw[List.length_append,List.length_replicate];omega,F5q rfl λ_=>rfl,?_⟩;cases hmv:(H3 w x).any (λi=>D33 (B37 w i))with
 |true=>refine B1n (by simp) (sB false) ?_;simp only[go_sem];refine C6 [.share] [] [] rfl rfl (by simp[go_sem]) (by simp[A6,go_sem]) (by simp[go_sem]) ?_;simp only[go_sem,B5i,hmv,Bool.true_or]
 |false=>refine A1h (A43 x.Joints B0y [] [.ptr 32 0 0 1] (drO w x l) (E21 w) (by have:=hx.2.2;omega) (D96 w x l) (by simp[go_sem,AV.ids]) (λi hi=>B9x w x l i)) (D96 w x l) (by simp[go_sem]) (by simp[go_sem,AV.ids]) (by simp) ?_;simp only[go_sem];refine C6 [.share] [] [] rfl rfl (by simp[go_sem]) (by simp[A6,go_sem]) (by simp[go_sem]) ?_;simp only[go_sem,B5i,hmv,Bool.false_or]
def A6p(w:Api.World)(x:B0)(l:List Int):Bool:=(l.any λi=> !(B37 w i).Asleep)||B5i w x
theorem A89(w:Api.World)(x:B0)(l:List Int)(hw:Wsm w)(hx:Ism x)(hl:l.length<=1048576)(hi: ∀i∈l,0<=i/\i<w.Bodies.length):A1 Tryz.prog C7k [.ptr 6 0 0 1] (A5t w x l) (sB (A6p w x l)) (A5t w x l):=by
 refine H8 hm A4 Tryz.func162 rfl rfl ?_;simp only[go_sem];refine A1h (B7s w x l B32 (λb=> !b.Asleep) (C6b w x l) hl hi) (A9o w x l) (by simp[go_sem]) (by simp[go_sem,AV.ids]) rfl ?_;simp only[go_sem];cases hmv:(l.any λi=> !(B37 w i).Asleep)with
 |true=>refine B1n (by simp) (sB false) ?_;simp only[go_sem];refine C6 [.share] [] [] rfl rfl (by simp[go_sem]) (by simp[A6,go_sem]) (by simp[go_sem]) ?_;simp only[go_sem,A6p,hmv,Bool.true_or]
 |false=>refine A1h (B4s w x l hw hx) (A9o w x l) (by simp[go_sem]) (by simp[go_sem,AV.ids]) (by simp) ?_;simp only[go_sem];refine C6 [.share] [] [] rfl rfl (by simp[go_sem]) (by simp[A6,go_sem]) (by simp[go_sem]) ?_;simp only[go_sem,A6p,hmv,Bool.false_or]
def A0v(w:Api.World)(x:B0):List Int:=A99 x.Bodies w.Bodies.length
theorem C33(w:Api.World)(x:B0): ∀i∈A0v w x,0<=i/\i<(w.Bodies.length:Int):=λi hi=>(F63.1 hi).2
theorem D38 {w:Api.World}{x:B0}(hx:Ism x):(A0v w x).length<=1048576:=by have:=C4c x.Bodies w.Bodies.length;have:=hx.1;unfold A0v;omega
theorem A9i(w:Api.World)(x:B0)(hw:Wsm w)(hx:Ism x):A1 Tryz.prog D6u [.agg w.enc, .agg x.enc] [] (sB (A6p w x (A0v w x))) []:=by refine en1 hm A4 Tryz.func106 rfl rfl ?_;simp only[go_sem];refine E3 [true,true] [] (B2f w x hw hx) (by simp) (by simp[go_sem]) (by simp[go_sem]) (by simp) ?_;simp only[go_sem];refine A1h (A89 w x (A0v w x) hw hx (D38 hx) (C33 w x)) (A9o w x _) (by simp[go_sem,A0v]) (by simp[go_sem,AV.ids]) rfl ?_;simp only[go_sem]
def F7f(j:Joint)(b:Body)(ib limit:Int)(q n:Vec)(sum:Int):Row:=⟨-1,ib,n,0,A1c (L9 q (E5 b)) n,0,0,IntKind.i64.wrap (0-limit),limit,j.Softness,sum,-1,0⟩
def C8s(j:Joint)(b:Body)(ib:Int)(s:List SolverBody)(dt limit:Int)(q n:Vec)(off sum:Int):Row:=⟨-1,ib,n,0,A1c (L9 q (E5 b)) n,R9 (F7f j b ib limit q n sum) s,H9 off dt,IntKind.i64.wrap (0-limit),limit,j.Softness,sum,-1,0⟩
def wO(j:Joint)(b:Body)(ib:Int)(s:List SolverBody)(dt limit:Int)(q:Vec):List (Nat×A5):=[(1, .box [sI ib]),(2, .box j.enc),(3, .box [sI limit]),(4, .box q.enc),(5, .box b.enc),(6, .box [A2 5 SolverBody.enc default s]),(7, .box [sI dt])]
theorem D7j(j:Joint)(b:Body)(ib:Int)(s:List SolverBody)(dt limit:Int)(q n:Vec)(off sum:Int)(hb: ∀f∈b.Fixtures,f.Shape.Vertices.length<=1048576):A1 Tryz.prog C5m [.agg n.enc,sI off,sI sum, .ptr 1 0 0 1, .ptr 2 0 0 1, .ptr 3 0 0 1, .ptr 4 0 0 1, .ptr 5 0 0 1, .ptr 6 0 0 1, .ptr 7 0 0 1] (wO j b ib s dt limit q) (.agg (C8s j b ib s dt limit q n off sum).enc) (wO j b ib s dt limit q):=by
 unfold wO;refine D1u 40 [(13,some (some 14))] hm A4 Tryz.func434 rfl ?_;have:=A6s
 have:=K2
 have:=A71
 have:=U4
 have:=λx1 x2=>cx_ (M2 (F7f j b ib limit q x1 sum) x2)
 (simp(maxSteps:=1000000) only[go_sem])
 repeat' (first |((with_reducible refine And.intro ?_ ?_);focus (exact K8)) |(with_reducible refine gd_ ?_;with_reducible refine A0 (by apply_assumption <;> exact K8) rfl ?_;(simp(maxSteps:=1000000) only[go_sem])) |((with_reducible refine gr_ ?_);refine E0s ev_ ev_ ev_ ev_ rfl rfl ns_ ns_ ns_ ?_;(simp(maxSteps:=1000000) only[go_sem])))
 all_goals rfl
def zB:Body:=⟨0,0,⟨⟨0,0⟩,0⟩,⟨0,0⟩,0,⟨0,0⟩,0,0,0,0,false,false,false,false,0,[]⟩
def A0o(j:Joint)(b:Body)(ib:Int)(s:List SolverBody)(dt:Int):List Row:=
 let pq:=K4 j zB b
 let d:=L9 pq.2 pq.1
 let limit:=B4 j.MaxForce dt
 if j.Kind=5 then [C8s j b ib s dt limit pq.2 ⟨65536,0⟩ d.X j.Impulses.I0,C8s j b ib s dt limit pq.2 ⟨0,65536⟩ d.Y j.Impulses.I1]else []
theorem D16(j:Joint)(b:Body)(ib:Int)(s:List SolverBody)(dt:Int)(hb: ∀f∈b.Fixtures,f.Shape.Vertices.length<=1048576):A1 Tryz.prog D2f [.agg j.enc, .agg b.enc,sI ib,A2 5 SolverBody.enc default s,sI dt] [] (A2 14 Row.enc default (A0o j b ib s dt)) []:=by
 refine en1 hm A4 Tryz.func306 rfl rfl ?_;have h1:A1 Tryz.prog C0f [.agg j.enc, .agg [sI 0,sI 0,sI 0,sI 0,sI 0,sI 0,sI 0,sI 0,sI 0,sI 0,sI 0,sI 0,sI 0,sI 0,sB false,sB false,sB false,sB false,sI 0, .sc (.slice none 0 0)], .agg b.enc] [] (.tup [.agg (K4 j zB b).1.enc, .agg (K4 j zB b).2.enc]) []:=A1.args_le (A2x j zB b) ⟨K6.refl _,K6.agg ⟨K6.refl _,K6.refl _,K6.refl _,K6.refl _,K6.refl _,K6.refl _,K6.refl _,K6.refl _,K6.refl _,K6.refl _,K6.refl _,K6.refl _,K6.refl _,K6.refl _,K6.refl _,K6.refl _,K6.refl _,K6.refl _,K6.refl _,K6.nil,trivial⟩,K6.refl _,trivial⟩
 have:=K2
 have:=L8
 (simp(maxSteps:=1000000) only[go_sem])
 repeat' (first |((with_reducible refine And.intro ?_ ?_);focus (exact K8)) |((with_reducible refine it_ (λhc_=> ?_) (λhc_=> ?_)) <;> (have hd_:=hc_;try simp only[bne_iff_ne,ne_eq,Decidable.not_not]at hd_)) |(with_reducible refine gd_ ?_;with_reducible refine A0 (by apply_assumption <;> first |exact K8 |(apply_assumption <;> first |assumption |exact K8)) rfl ?_;(simp(maxSteps:=1000000) only[go_sem])))
 ·have e:A0o j b ib s dt= []:=by
   unfold A0o;simp only;rw[if_neg (by simpa using hc_)]
  rw[e];exact Q8 rfl
 ·have e:A0o j b ib s dt= [C8s j b ib s dt (B4 j.MaxForce dt) (K4 j zB b).2 ⟨65536,0⟩ (L9 (K4 j zB b).2 (K4 j zB b).1).X j.Impulses.I0,C8s j b ib s dt (B4 j.MaxForce dt) (K4 j zB b).2 ⟨0,65536⟩ (L9 (K4 j zB b).2 (K4 j zB b).1).Y j.Impulses.I1]:=by
   unfold A0o;simp only;rw[if_pos (by simpa using hc_)]
  rw[e];clear h1;generalize K4 j zB b=pq at*;generalize B4 j.MaxForce dt=limit at*;refine E0v [false,false,false,true,true,true,true,true,true,true] [(1,128),(2,96),(3,240),(4,208),(5,112),(6,144),(7,160)] (D7j j b ib s dt limit pq.2 ⟨65536,0⟩ (L9 pq.2 pq.1).X j.Impulses.I0 hb) (by simp[wO]) (by simp[wO,go_sem,A6]) (by simp[wO,A6,AV.ids]) ?_;generalize C8s j b ib s dt limit pq.2 ⟨65536,0⟩ (L9 pq.2 pq.1).X j.Impulses.I0=r1;simp only[wO,go_sem,go_sem_proc];refine⟨by decide,?_⟩;refine E0v [false,false,false,true,true,true,true,true,true,true] [(1,128),(2,96),(3,240),(4,208),(5,112),(6,144),(7,160)] (D7j j b ib s dt limit pq.2 ⟨0,65536⟩ (L9 pq.2 pq.1).Y j.Impulses.I1 hb) (by simp[wO]) (by simp[wO,go_sem,A6]) (by simp[wO,A6,AV.ids]) ?_;generalize C8s j b ib s dt limit pq.2 ⟨0,65536⟩ (L9 pq.2 pq.1).Y j.Impulses.I1=r2;simp only[wO,go_sem,go_sem_proc];exact A2h (λ_ _=>rfl) rfl rfl rfl
def J5(j:Joint)(a:Body)(b:Body)(ia:Int)(ib:Int)(s:List SolverBody)(dt:Int):(List Row):=if(j.Kind==1)=true then(let v1:=(A2m j a b ia ib s dt);v1)else(if(j.Kind==2)=true then(let v2:=(A6b j a b ia ib s dt);v2)else(if(j.Kind==3)=true then(let v3:=(A5j j a b ia ib s dt);v3)else(if(j.Kind==4)=true then(let v4:=(B1m j a b ia ib s dt);v4)else(if(j.Kind==5)=true then(let v5:=(A0o j b ib s dt);v5)else(([]:List Row))))))
theorem A8o(j:Joint)(a:Body)(b:Body)(ia:Int)(ib:Int)(s:List SolverBody)(dt:Int)(ha: ∀f∈a.Fixtures,f.Shape.Vertices.length<=1048576)(hb: ∀f∈b.Fixtures,f.Shape.Vertices.length<=1048576):A1 Tryz.prog B9f [.agg j.enc, .agg a.enc, .agg b.enc,sI ia,sI ib,A2 5 SolverBody.enc default s,sI dt] [] (A2 14 Row.enc default (J5 j a b ia ib s dt)) []:=by
 refine en1 hm A4 Tryz.func182 rfl rfl ?_;have:=C4e
 have:=D7h
 have:=D4d
 have:=E7o
 have:=D16
 have:=J5.eq_1 j a b ia ib s dt;exact J1
theorem F3h(v l u:Int)(e:Bool)(i dt:Int)(r:Row): ∀x∈V2 v l u e i dt r,x.Impulse=i:=by
 unfold V2;simp only
 (repeat' split) <;> simp
theorem F3g(j:Joint)(r:Row)(dt:Int): ∀x∈Q6 j r dt,x.Impulse=j.Impulses.I2:=by
 unfold Q6;simp only
 (repeat' split) <;> simp
theorem C53(j:Joint)(a b:Body)(ia ib:Int)(s:List SolverBody)(dt:Int):(J5 j a b ia ib s dt).length<=4:=by
 have h1:=λv l u e i dt r=>D0z v l u e i dt r
 have h2:=λj r dt=>C87 j r dt;unfold J5;simp only
 (repeat' split)
 ·unfold A2m;simp only;(repeat' split) <;> simp
 ·unfold A6b;simp only;split
  ·simp
  ·simp only[List.length_append,C9q];have:=h2 j (R2 ia ib s 0) dt
   have:=h1 (X8 j a b) j.Lower j.Upper j.EnableLimit j.Impulses.I3 dt (R2 ia ib s 0);omega
 ·unfold A5j;simp only;split
  ·simp
  ·simp only[List.length_append,List.length_cons,List.length_nil];have:=h2 j (A0w j a b ia ib (W9 j a) s) dt
   have:=h1 (A3e j a b) j.Lower j.Upper j.EnableLimit j.Impulses.I3 dt (A0w j a b ia ib (W9 j a) s);omega
 ·unfold B1m;simp only;split <;> simp
 ·unfold A0o;simp only;split <;> simp
 ·simp
def B18(j:Joint)(i:Int):Prop:=i=j.Impulses.I0\/i=j.Impulses.I1\/i=j.Impulses.I2\/i=j.Impulses.I3
theorem F6m(j:Joint)(a b:Body)(ia ib:Int)(s:List SolverBody)(dt:Int): ∀r∈J5 j a b ia ib s dt,B18 j r.Impulse:=by
 have hp: ∀r∈V0 j a b ia ib s dt,B18 j r.Impulse:=by unfold V0;simp[B18]
 have hl:=λv l u e dt r x h=>F3h v l u e j.Impulses.I3 dt r x h
 have hm:=λr dt x h=>F3g j r dt x h;unfold J5;simp only
 (repeat' split)
 ·unfold A2m;simp only;(repeat' split) <;> simp[B18]
 ·unfold A6b;simp only;split
  ·simp
  ·intro r hr;simp only[List.mem_append]at hr;rcases hr with(hr |hr) |hr
   ·have:=hm _ _ _ hr;simp[B18,this]
   ·have:=hl _ _ _ _ _ _ _ hr;simp[B18,this]
   ·exact hp _ hr
 ·unfold A5j;simp only;split
  ·simp
  ·intro r hr;simp only[List.mem_append]at hr;rcases hr with(hr |hr) |hr
   ·have:=hm _ _ _ hr;simp[B18,this]
   ·have:=hl _ _ _ _ _ _ _ hr;simp[B18,this]
   ·simp at hr;rcases hr with hr |hr <;> simp[B18,hr]
 ·unfold B1m;simp only;split
  ·simp
  ·intro r hr;simp only[List.mem_append]at hr;rcases hr with hr |hr
   ·simp at hr;simp[B18,hr]
   ·exact hp _ hr
 ·unfold A0o C8s;simp only;split <;> simp[B18]
 ·simp
theorem D19(j:Joint)(a b:Body)(ia ib dt:Int)(ha: ∀f∈a.Fixtures,f.Shape.Vertices.length<=1048576)(hb: ∀f∈b.Fixtures,f.Shape.Vertices.length<=1048576):A1 Tryz.prog B9f [.agg j.enc, .agg a.enc, .agg b.enc,sI ia,sI ib, .sc (.slice none 0 0),sI dt] [] (A2 14 Row.enc default (J5 j a b ia ib [] dt)) []:=A1.args_le (A8o j a b ia ib [] dt ha hb) ⟨K6.refl _,K6.refl _,K6.refl _,K6.refl _,K6.refl _,K6.nil,K6.refl _,trivial⟩
def S6(v1:(List Row))(i1:Nat)(s1:(List Int)):(List Int):=(s1++ [(v1.getD i1 default).Impulse])
def N8(j:Joint)(a:Body)(b:Body):(List Int):=let v1:=(J5 (⟨j.ID,j.Kind,j.BodyA,j.BodyB,j.AnchorA,j.AnchorB,j.Axis,j.ReferenceAngle,j.EnableLimit,j.Lower,j.Upper,j.EnableMotor,j.MotorSpeed,j.MaxForce,j.Softness,j.BreakForce,j.CollideConnected,(⟨0,1,2,3⟩:Four)⟩:Joint) a b 0 0 ([]:List SolverBody) 65536);let s1:=itr (S6 v1) v1.length [];s1
theorem D2m(j:Joint)(a:Body)(b:Body)(ha: ∀f∈a.Fixtures,f.Shape.Vertices.length<=1048576)(hb: ∀f∈b.Fixtures,f.Shape.Vertices.length<=1048576):A1 Tryz.prog D21 [.agg j.enc, .agg a.enc, .agg b.enc] [] (A2 1 B9 0 (N8 j a b)) []:=by
 refine en1 hm A4 Tryz.func192 rfl rfl ?_;have:=C53 (⟨j.ID,j.Kind,j.BodyA,j.BodyB,j.AnchorA,j.AnchorB,j.Axis,j.ReferenceAngle,j.EnableLimit,j.Lower,j.Upper,j.EnableMotor,j.MotorSpeed,j.MaxForce,j.Softness,j.BreakForce,j.CollideConnected,(⟨0,1,2,3⟩:Four)⟩:Joint) a b 0 0 ([]:List SolverBody) 65536
 have:=cx_ (D19 (⟨j.ID,j.Kind,j.BodyA,j.BodyB,j.AnchorA,j.AnchorB,j.Axis,j.ReferenceAngle,j.EnableLimit,j.Lower,j.Upper,j.EnableMotor,j.MotorSpeed,j.MaxForce,j.Softness,j.BreakForce,j.CollideConnected,(⟨0,1,2,3⟩:Four)⟩:Joint) a b 0 0 65536 ha hb)
 have:=λx1 x2 x3 x4 x5 x6 x7 x8 x9 x10 x11 x12 x13 x14 x15 x16 x17 x18 x19 x20 x21 x22 x23 x24 x25 x26 x27 h0 h1=>cx_ (A8o ⟨x1,x2,x3,x4,⟨x5,x6⟩,⟨x7,x8⟩,⟨x9,x10⟩,x11,x12,x13,x14,x15,x16,x17,x18,x19,x20,x21⟩ x22 x23 x24 x25 x26 x27 h0 h1)
 have:=A8o
 have:=N8.eq_1 j a b
 have:=λi_ s_=>S6.eq_1 (J5 (⟨j.ID,j.Kind,j.BodyA,j.BodyB,j.AnchorA,j.AnchorB,j.Axis,j.ReferenceAngle,j.EnableLimit,j.Lower,j.Upper,j.EnableMotor,j.MotorSpeed,j.MaxForce,j.Softness,j.BreakForce,j.CollideConnected,(⟨0,1,2,3⟩:Four)⟩:Joint) a b 0 0 ([]:List SolverBody) 65536) i_ s_
 have:=λx_ Q_ σ_=> @lp_ Tryz.prog Tryz.f192.ntmps [] x_ Q_ σ_ hm (λ_=>True) (λi_=>((itr (S6 (J5 (⟨j.ID,j.Kind,j.BodyA,j.BodyB,j.AnchorA,j.AnchorB,j.Axis,j.ReferenceAngle,j.EnableLimit,j.Lower,j.Upper,j.EnableMotor,j.MotorSpeed,j.MaxForce,j.Softness,j.BreakForce,j.CollideConnected,(⟨0,1,2,3⟩:Four)⟩:Joint) a b 0 0 ([]:List SolverBody) 65536)) i_ [])).length<=0+1*i_) (J5 (⟨j.ID,j.Kind,j.BodyA,j.BodyB,j.AnchorA,j.AnchorB,j.Axis,j.ReferenceAngle,j.EnableLimit,j.Lower,j.Upper,j.EnableMotor,j.MotorSpeed,j.MaxForce,j.Softness,j.BreakForce,j.CollideConnected,(⟨0,1,2,3⟩:Four)⟩:Joint) a b 0 0 ([]:List SolverBody) 65536).length (λi_=> [(7,if i_=0 then .adopt else .share, .sl 1007 0 (itr (S6 (J5 (⟨j.ID,j.Kind,j.BodyA,j.BodyB,j.AnchorA,j.AnchorB,j.Axis,j.ReferenceAngle,j.EnableLimit,j.Lower,j.Upper,j.EnableMotor,j.MotorSpeed,j.MaxForce,j.Softness,j.BreakForce,j.CollideConnected,(⟨0,1,2,3⟩:Four)⟩:Joint) a b 0 0 ([]:List SolverBody) 65536)) i_ []).length (itr (S6 (J5 (⟨j.ID,j.Kind,j.BodyA,j.BodyB,j.AnchorA,j.AnchorB,j.Axis,j.ReferenceAngle,j.EnableLimit,j.Lower,j.Upper,j.EnableMotor,j.MotorSpeed,j.MaxForce,j.Softness,j.BreakForce,j.CollideConnected,(⟨0,1,2,3⟩:Four)⟩:Joint) a b 0 0 ([]:List SolverBody) 65536)) i_ []).length),(15, .share,A2 14 Row.enc default (J5 (⟨j.ID,j.Kind,j.BodyA,j.BodyB,j.AnchorA,j.AnchorB,j.Axis,j.ReferenceAngle,j.EnableLimit,j.Lower,j.Upper,j.EnableMotor,j.MotorSpeed,j.MaxForce,j.Softness,j.BreakForce,j.CollideConnected,(⟨0,1,2,3⟩:Four)⟩:Joint) a b 0 0 ([]:List SolverBody) 65536)),(16, .share,sI ((J5 (⟨j.ID,j.Kind,j.BodyA,j.BodyB,j.AnchorA,j.AnchorB,j.Axis,j.ReferenceAngle,j.EnableLimit,j.Lower,j.Upper,j.EnableMotor,j.MotorSpeed,j.MaxForce,j.Softness,j.BreakForce,j.CollideConnected,(⟨0,1,2,3⟩:Four)⟩:Joint) a b 0 0 ([]:List SolverBody) 65536).length:Int)),(17, .share,sI (i_:Int))]) (λi_=> [(1007, .arr 1 (A8 B9 0 (itr (S6 (J5 (⟨j.ID,j.Kind,j.BodyA,j.BodyB,j.AnchorA,j.AnchorB,j.Axis,j.ReferenceAngle,j.EnableLimit,j.Lower,j.Upper,j.EnableMotor,j.MotorSpeed,j.MaxForce,j.Softness,j.BreakForce,j.CollideConnected,(⟨0,1,2,3⟩:Four)⟩:Joint) a b 0 0 ([]:List SolverBody) 65536)) i_ [])))]) [1007] trivial (λi_ hI_=>A7i (λs:(List Int)=>(s).length) 1 (λi s=>by(unfold S6;(repeat' split) <;> simp <;> omega)) i_ _) (by simp[go_sem]) (by simp[go_sem,A6]) (by simp[go_sem]);exact J1
@[simp] theorem F5x(r:Row)(bs:List SolverBody)(p:Int):(P3 r bs p).length=bs.length:=by
 unfold P3;simp only
 (repeat' split) <;> simp
def A3d(rs:List Row)(i:Int):Int×Int:=if((decide (i<0))||(decide ((rs.length:Int)<=i)))=true then((0,0))else(if(((decide ((rs.getD i.toNat default).FrictionOf<0))||(decide ((rs.length:Int)<=(rs.getD i.toNat default).FrictionOf)))||((rs.getD i.toNat default).FrictionOf==i))=true then(((rs.getD i.toNat default).Lower,(rs.getD i.toNat default).Upper))else(let v1:=(B4 (rs.getD i.toNat default).Friction (rs.getD (rs.getD i.toNat default).FrictionOf.toNat default).Impulse);((IntKind.i64.wrap (0-(if v1<0 then 0 else v1))),(if v1<0 then 0 else v1))))
theorem B42(rs:List Row)(i:Int):A1 Tryz.prog C7s [A2 14 Row.enc default rs,sI i] [] (.tup [sI ((A3d rs i).1),sI ((A3d rs i).2)]) []:=by
 refine enT hm A4 Tryz.func315 rfl rfl ?_;have:=L8
 have:=A3d.eq_1 rs i;exact J1
def O4(rs:List Row)(i:Int)(bs:List SolverBody):(List Row)×(List SolverBody):=let v1:=rs;if((decide (i<0))||(decide ((v1.length:Int)<=i)))=true then(let v2:=bs;(v1,v2))else(let v3:=(W4 (v1.getD i.toNat default) bs);let v4:=(C5 v3 (v1.getD i.toNat default).Bias);let v5:=(B4 (v1.getD i.toNat default).Softness (v1.getD i.toNat default).Impulse);let v6:=(C5 v4 v5);let v7:=(A3d rs i);let v8:=(B4 (v1.getD i.toNat default).EffectiveMass v6);let v9:=(sat (sat (v1.getD i.toNat default).Impulse-sat v8));let v10:=(P7 v9 v7.1 v7.2);let v11:=(sat (sat v10-sat (v1.getD i.toNat default).Impulse));let v12:=(P3 (⟨(v1.getD i.toNat default).A,(v1.getD i.toNat default).B,(v1.getD i.toNat default).Normal,(v1.getD i.toNat default).ArmA,(v1.getD i.toNat default).ArmB,(v1.getD i.toNat default).EffectiveMass,(v1.getD i.toNat default).Bias,(v1.getD i.toNat default).Lower,(v1.getD i.toNat default).Upper,(v1.getD i.toNat default).Softness,v10,(v1.getD i.toNat default).FrictionOf,(v1.getD i.toNat default).Friction⟩:Row) bs v11);((v1.set i.toNat (⟨(v1.getD i.toNat default).A,(v1.getD i.toNat default).B,(v1.getD i.toNat default).Normal,(v1.getD i.toNat default).ArmA,(v1.getD i.toNat default).ArmB,(v1.getD i.toNat default).EffectiveMass,(v1.getD i.toNat default).Bias,(v1.getD i.toNat default).Lower,(v1.getD i.toNat default).Upper,(v1.getD i.toNat default).Softness,v10,(v1.getD i.toNat default).FrictionOf,(v1.getD i.toNat default).Friction⟩:Row)),v12))
theorem C9o(rs:List Row)(i:Int)(bs:List SolverBody)(h0:bs.length<=1048576)(h1:rs.length<=1048576):A1 Tryz.prog C8r [A2 14 Row.enc default rs,sI i,A2 5 SolverBody.enc default bs] [] (.tup [.sl 1 0 (O4 rs i bs).1.length (O4 rs i bs).1.length, .sl 2 0 (O4 rs i bs).2.length (O4 rs i bs).2.length]) [(1, .arr 14 (A8 Row.enc default (O4 rs i bs).1)),(2, .arr 5 (A8 SolverBody.enc default (O4 rs i bs).2))]:=by
 refine A7p hm A4 Tryz.func318 rfl rfl ?_;have:=λx1 x2 x3 x4 x5 x6 x7 x8 x9 x10 x11 x12 x13 x14 x15 x16 h0=>cx_ (A44 ⟨x1,x2,⟨x3,x4⟩,x5,x6,x7,x8,x9,x10,x11,x12,x13,x14⟩ x15 x16 h0)
 have:=C9l
 have:=A9h
 have:=A66
 have:=M8
 have:=L8
 have:=B42
 have:=Q5
 have:=A4p
 have:=A44
 have:=O4.eq_1 rs i bs;exact J1
@[simp] theorem G22(rs:List Row)(i:Int)(bs:List SolverBody):(O4 rs i bs).1.length=rs.length:=by
 unfold O4;simp only
 (repeat' split) <;> simp
@[simp] theorem G21(rs:List Row)(i:Int)(bs:List SolverBody):(O4 rs i bs).2.length=bs.length:=by
 unfold O4;simp only
 (repeat' split) <;> simp
def E9(rs:List Row):(List Row):=rs
theorem B7l(rs:List Row)(h1:rs.length<=1048576):A1 Tryz.prog D2k [A2 14 Row.enc default rs] [] (.sl 1 0 (E9 rs).length (E9 rs).length) [(1, .arr 14 (A8 Row.enc default (E9 rs)))]:=by refine H8 hm A4 Tryz.func314 rfl rfl ?_;have:=E9.eq_1 rs;exact J1
def F0(bs:List SolverBody):(List SolverBody):=bs
theorem B44(bs:List SolverBody)(h0:bs.length<=1048576):A1 Tryz.prog C7v [A2 5 SolverBody.enc default bs] [] (.sl 1 0 (F0 bs).length (F0 bs).length) [(1, .arr 5 (A8 SolverBody.enc default (F0 bs)))]:=by refine H8 hm A4 Tryz.func316 rfl rfl ?_;have:=F0.eq_1 bs;exact J1
@[simp] theorem C04(rs:List Row):(E9 rs).length=rs.length:=by unfold E9;simp
@[simp] theorem C0q(bs:List SolverBody):(F0 bs).length=bs.length:=by unfold F0;simp
def P0(i1:Nat)(s1:(List Row)):(List Row):=let v2:=(A3d s1 (i1:Int));let v3:=(P7 (s1.getD i1 default).Impulse v2.1 v2.2);(s1.set i1 (⟨(s1.getD i1 default).A,(s1.getD i1 default).B,(s1.getD i1 default).Normal,(s1.getD i1 default).ArmA,(s1.getD i1 default).ArmB,(s1.getD i1 default).EffectiveMass,(s1.getD i1 default).Bias,(s1.getD i1 default).Lower,(s1.getD i1 default).Upper,(s1.getD i1 default).Softness,v3,(s1.getD i1 default).FrictionOf,(s1.getD i1 default).Friction⟩:Row))
def C4(rs:List Row):(List Row):=let v1:=(E9 rs);let s1:=itr (P0) v1.length v1;s1
theorem C1x(rs:List Row)(h1:rs.length<=1048576):A1 Tryz.prog C1a [A2 14 Row.enc default rs] [] (.sl 1 0 (C4 rs).length (C4 rs).length) [(1, .arr 14 (A8 Row.enc default (C4 rs)))]:=by
 refine H8 hm A4 Tryz.func184 rfl rfl ?_;have:=C04 rs
 have:=B7l
 have:=B42
 have:=A4p
 have:=C4.eq_1 rs
 have:=λi_ s_=>P0.eq_1 i_ s_
 have:=λx_ Q_ σ_=> @lp_ Tryz.prog Tryz.f184.ntmps [] x_ Q_ σ_ hm (λ_=>True) (λi_=>((itr (P0) i_ (E9 rs))).length=(((E9 rs):(List Row))).length) (E9 rs).length (λi_=> [(0, .share, .sl 128 0 (itr (P0) i_ (E9 rs)).length (itr (P0) i_ (E9 rs)).length),(9, .share,sI ((E9 rs).length:Int)),(10, .share,sI (i_:Int))]) (λi_=> [(128, .arr 14 (A8 Row.enc default (itr (P0) i_ (E9 rs))))]) [] trivial (λi_ hI_=>T1 (λs:(List Row)=>(s).length) (λi s=>by unfold P0;(repeat' split) <;> simp) i_ _) (by simp[go_sem]) (by simp[go_sem,A6]) (by simp[go_sem]);exact J1
@[simp] theorem E1b(rs:List Row):(C4 rs).length=rs.length:=by unfold C4;rw[<-C04 rs];exact T1 (λs:List Row=>s.length) (λi s=>by unfold P0;simp) _ _
def T8(rs:List Row)(i1:Nat)(s1:(List SolverBody)):(List SolverBody):=let v2:=(P3 (rs.getD i1 default) s1 (rs.getD i1 default).Impulse);v2
def I9(rs:List Row)(bs:List SolverBody):(List SolverBody):=let v1:=(F0 bs);let s1:=itr (T8 rs) rs.length v1;s1
theorem D0a(rs:List Row)(bs:List SolverBody)(h0:bs.length<=1048576)(h1:rs.length<=1048576):A1 Tryz.prog C88 [A2 14 Row.enc default rs,A2 5 SolverBody.enc default bs] [] (.sl 1 0 (I9 rs bs).length (I9 rs bs).length) [(1, .arr 5 (A8 SolverBody.enc default (I9 rs bs)))]:=by
 refine H8 hm A4 Tryz.func185 rfl rfl ?_;have:=C0q bs
 have:=B44
 have:=A44
 have:=I9.eq_1 rs bs
 have:=λi_ s_=>T8.eq_1 rs i_ s_
 have:=λx_ Q_ σ_=> @lp_ Tryz.prog Tryz.f185.ntmps [] x_ Q_ σ_ hm (λ_=>True) (λi_=>((itr (T8 rs) i_ (F0 bs))).length=(((F0 bs):(List SolverBody))).length) rs.length (λi_=> [(1, .share, .sl 144 0 (itr (T8 rs) i_ (F0 bs)).length (itr (T8 rs) i_ (F0 bs)).length),(9, .share,A2 14 Row.enc default rs),(10, .share,sI (rs.length:Int)),(11, .share,sI (i_:Int))]) (λi_=> [(144, .arr 5 (A8 SolverBody.enc default (itr (T8 rs) i_ (F0 bs))))]) [] trivial (λi_ hI_=>T1 (λs:(List SolverBody)=>(s).length) (λi s=>by unfold T8;(repeat' split) <;> simp) i_ _) (by simp[go_sem]) (by simp[go_sem,A6]) (by simp[go_sem]);exact J1
@[simp] theorem E3f(rs:List Row)(bs:List SolverBody):(I9 rs bs).length=bs.length:=by unfold I9;rw[<-C0q bs];exact T1 (λs:List SolverBody=>s.length) (λi s=>by unfold T8;simp) _ _
def L1(i1:Nat)(s1:(List Row)×(List SolverBody)):(List Row)×(List SolverBody):=let v3:=(O4 s1.1 (i1:Int) s1.2);(v3.1,v3.2)
def R7(rs:List Row)(bs:List SolverBody):(List Row)×(List SolverBody):=let v1:=(E9 rs);let v2:=(F0 bs);let s1:=itr (L1) v1.length (v1,v2);(s1.1,s1.2)
theorem D5h(rs:List Row)(bs:List SolverBody)(h0:bs.length<=1048576)(h1:rs.length<=1048576):A1 Tryz.prog D36 [A2 14 Row.enc default rs,A2 5 SolverBody.enc default bs] [] (.tup [.sl 1 0 (R7 rs bs).1.length (R7 rs bs).1.length, .sl 2 0 (R7 rs bs).2.length (R7 rs bs).2.length]) [(1, .arr 14 (A8 Row.enc default (R7 rs bs).1)),(2, .arr 5 (A8 SolverBody.enc default (R7 rs bs).2))]:=by
 refine A7p hm A4 Tryz.func187 rfl rfl ?_;have:=C0q bs
 have:=C04 rs
 have:=B7l
 have:=B44
 have:=C9o
 have:=R7.eq_1 rs bs
 have:=λi_ s_=>L1.eq_1 i_ s_
 have:=λx_ Q_ σ_=> @lp_ Tryz.prog Tryz.f187.ntmps [] x_ Q_ σ_ hm (λ_=>True) (λi_=>((itr (L1) i_ ((E9 rs),(F0 bs))).1).length=((((E9 rs),(F0 bs)):(List Row)×(List SolverBody)).1).length/\((itr (L1) i_ ((E9 rs),(F0 bs))).2).length=((((E9 rs),(F0 bs)):(List Row)×(List SolverBody)).2).length) (E9 rs).length (λi_=> [(0, .share, .sl 144 0 (itr (L1) i_ ((E9 rs),(F0 bs))).1.length (itr (L1) i_ ((E9 rs),(F0 bs))).1.length),(1, .share, .sl 176 0 (itr (L1) i_ ((E9 rs),(F0 bs))).2.length (itr (L1) i_ ((E9 rs),(F0 bs))).2.length),(12, .share,sI ((E9 rs).length:Int)),(13, .share,sI (i_:Int))]) (λi_=> [(144, .arr 14 (A8 Row.enc default (itr (L1) i_ ((E9 rs),(F0 bs))).1)),(176, .arr 5 (A8 SolverBody.enc default (itr (L1) i_ ((E9 rs),(F0 bs))).2))]) [] trivial (λi_ hI_=>⟨T1 (λs:(List Row)×(List SolverBody)=>(s.1).length) (λi s=>by unfold L1;(repeat' split) <;> simp) i_ _,T1 (λs:(List Row)×(List SolverBody)=>(s.2).length) (λi s=>by unfold L1;(repeat' split) <;> simp) i_ _⟩) (by simp[go_sem]) (by simp[go_sem,A6]) (by simp[go_sem]);exact J1
@[simp] theorem G4l(rs:List Row)(bs:List SolverBody):(R7 rs bs).1.length=rs.length:=by unfold R7;rw[<-C04 rs];exact T1 (λs:List Row×List SolverBody=>s.1.length) (λi s=>by unfold L1;simp) _ _
@[simp] theorem G4j(rs:List Row)(bs:List SolverBody):(R7 rs bs).2.length=bs.length:=by unfold R7;rw[<-C0q bs];exact T1 (λs:List Row×List SolverBody=>s.2.length) (λi s=>by unfold L1;simp) _ _
theorem E6v(x low high:Int)(h:low<=high):low<=P7 x low high/\P7 x low high<=high:=by
 unfold P7
 (repeat' split) <;> simp only[Bool.or_eq_true,decide_eq_true_eq,not_or]at* <;> omega
def K7(i1:Nat)(s1:(List Row)×(List SolverBody)):(List Row)×(List SolverBody):=let v4:=(R7 s1.1 s1.2);(v4.1,v4.2)
def A0j(rs:List Row)(bs:List SolverBody)(n:Int):(List Row)×(List SolverBody):=let v1:=(C4 rs);let v2:=(I9 v1 bs);let v3:=(P7 n 0 32);let s1:=itr (K7) v3.toNat (v1,v2);(s1.1,s1.2)
theorem D8b(rs:List Row)(bs:List SolverBody)(n:Int)(h0:bs.length<=1048576)(h1:rs.length<=1048576):A1 Tryz.prog D8v [A2 14 Row.enc default rs,A2 5 SolverBody.enc default bs,sI n] [] (.tup [.sl 1 0 (A0j rs bs n).1.length (A0j rs bs n).1.length, .sl 2 0 (A0j rs bs n).2.length (A0j rs bs n).2.length]) [(1, .arr 14 (A8 Row.enc default (A0j rs bs n).1)),(2, .arr 5 (A8 SolverBody.enc default (A0j rs bs n).2))]:=by
 refine A7p hm A4 Tryz.func108 rfl rfl ?_;have:=E6v n 0 32 (by decide)
 have:=E1b rs
 have:=E3f (C4 rs) bs
 have:=C1x
 have:=D0a
 have:=A4p
 have:=D5h
 have:=A0j.eq_1 rs bs n
 have:=λi_ s_=>K7.eq_1 i_ s_
 have:=λx_ Q_ σ_=> @lp_ Tryz.prog Tryz.f108.ntmps [] x_ Q_ σ_ hm (λ_=>True) (λi_=>((itr (K7) i_ ((C4 rs),(I9 (C4 rs) bs))).1).length=((((C4 rs),(I9 (C4 rs) bs)):(List Row)×(List SolverBody)).1).length/\((itr (K7) i_ ((C4 rs),(I9 (C4 rs) bs))).2).length=((((C4 rs),(I9 (C4 rs) bs)):(List Row)×(List SolverBody)).2).length) (P7 n 0 32).toNat (λi_=> [(0, .share, .sl 160 0 (itr (K7) i_ ((C4 rs),(I9 (C4 rs) bs))).1.length (itr (K7) i_ ((C4 rs),(I9 (C4 rs) bs))).1.length),(1, .share, .sl 208 0 (itr (K7) i_ ((C4 rs),(I9 (C4 rs) bs))).2.length (itr (K7) i_ ((C4 rs),(I9 (C4 rs) bs))).2.length),(14, .share,sI (P7 n 0 32)),(15, .share,sI (i_:Int))]) (λi_=> [(160, .arr 14 (A8 Row.enc default (itr (K7) i_ ((C4 rs),(I9 (C4 rs) bs))).1)),(208, .arr 5 (A8 SolverBody.enc default (itr (K7) i_ ((C4 rs),(I9 (C4 rs) bs))).2))]) [] trivial (λi_ hI_=>⟨T1 (λs:(List Row)×(List SolverBody)=>(s.1).length) (λi s=>by unfold K7;(repeat' split) <;> simp) i_ _,T1 (λs:(List Row)×(List SolverBody)=>(s.2).length) (λi s=>by unfold K7;(repeat' split) <;> simp) i_ _⟩) (by simp[go_sem]) (by simp[go_sem,A6]) (by simp[go_sem]);exact J1
theorem D46(w:Api.World)(x:B0)(hw:Wsm w)(hx:Ism x):A1 Tryz.prog C0k [.agg w.enc, .agg x.enc] [] (A2 1 B9 0 (H3 w x)) []:=by
 have h:=C0v w x hw hx
 have hle:(H3 w x).length<=(A9b w x).length:=by have h1:=B6w (A9e (A9b w x));rw[A90]at h1;exact h1
 generalize H3 w x=B at h hle⊢;generalize(A9b w x).length=n at h hle;obtain⟨k,rfl⟩: ∃k,n=B.length+k:=⟨n-B.length,by omega⟩;rw[show B.length+k-B.length=k by omega]at h;have e:B.length+k=(A8 B9 0 (B++List.replicate k 0)).n:=by show _=(B++_:List Int).length;rw[List.length_append,List.length_replicate]
 rw[e]at h;refine h.dataRes2.res_le (A7x _ _ ?_);show M4 (.dsl 1 B.length _) (.dsl 1 B.length _);rw[A1z];refine⟨rfl,rfl,λi hi=> ?_⟩;show A01 (B9 ((B++List.replicate k 0).getD i 0)) (B9 (B.getD i 0));have e2:(B++List.replicate k (0:Int)).getD i 0=B.getD i 0:=by simp only[List.getD,List.getElem?_append_left hi]
 rw[e2];exact L3 _
def pbC(w:Api.World)(x:B0)(nB:Nat)(S R A:AV):List AV:= [sI w.Settings.TimeStep,sI w.Settings.Gravity.X,sI w.Settings.Gravity.Y,sI w.Settings.Iterations,sI w.Settings.SleepSteps,A2 20 Body.enc default w.Bodies,A2 24 Joint.enc default w.Joints,A2 7 Contact.enc default w.Contacts,A2 4 PairKey.enc default w.Overlaps,sI w.NextID,sI w.Frame,A2 1 B9 0 x.Bodies,A2 1 B9 0 x.Contacts,A2 1 B9 0 x.Joints, .sl 1 0 nB nB,A2 1 B9 0 (H3 w x),S,R,A]
def pbO(w:Api.World)(x:B0)(B:List Body)(S:List SolverBody)(R:List Row)(A:List Int):List (Nat×A5):=[(6, .box (pbC w x B.length (.sl 3 0 S.length S.length) (.sl 4 0 R.length R.length) (.sl 5 0 A.length A.length))),(1, .arr 20 (A8 Body.enc default B)),(3, .frz 5 (A8 SolverBody.enc default S)),(4, .arr 14 (A8 Row.enc default R)),(5, .arr 1 (A8 B9 0 A))]
attribute [go_sem] pbC pbO
def pfO(w:Api.World)(x:B0)(B:List Body)(S:List SolverBody)(R:List Row)(A:List Int)(id:Int):List (Nat×A5):=(48, .box [.ptr 6 0 0 1])::(64, .box [sI id])::pbO w x B S R A
attribute [go_sem] pfO
theorem A52 {w:Api.World}{x:B0}{B:List Body}{S:List SolverBody}{R:List Row}{A:List Int}:okO (pbO w x B S R A):=by
 refine⟨by simp[pbO],λp hp cs e j hj=> ?_⟩;simp only[pbO,List.mem_cons,List.not_mem_nil,or_false]at hp;rcases hp with rfl |rfl |rfl |rfl |rfl
 ·simp only[A5.box.injEq]at e;subst e;simp[pbC,F4,AV.ids,A2]at hj;rcases hj with rfl |rfl |rfl |rfl <;> rfl
 all_goals cases e
theorem D93 {w:Api.World}{x:B0}{B:List Body}{S:List SolverBody}{R:List Row}{A:List Int}{id:Int}:okO (pfO w x B S R A id):=by
 refine⟨by simp[pfO,pbO],λp hp cs e j hj=> ?_⟩;simp only[pfO,pbO,List.mem_cons,List.not_mem_nil,or_false]at hp;rcases hp with rfl |rfl |rfl |rfl |rfl |rfl |rfl
 ·simp only[A5.box.injEq]at e;subst e;simp[F4,AV.ids]at hj;subst hj;rfl
 ·simp only[A5.box.injEq]at e;subst e;simp[F4,AV.ids]at hj
 ·simp only[A5.box.injEq]at e;subst e;simp[pbC,F4,AV.ids,A2]at hj;rcases hj with rfl |rfl |rfl |rfl <;> rfl
 all_goals cases e
theorem F3r(w:Api.World)(x:B0)(B:List Body)(S:List SolverBody)(R:List Row)(A:List Int)(id i:Int)(h0:0<=i)(h1:i<B.length):
  A1 Tryz.prog A3t [sI i, .ptr 48 0 0 1, .ptr 64 0 0 1] (pfO w x B S R A id) (sB ((B.getD i.toNat default).ID==id)) (pfO w x B S R A id):=by
 refine H8 hm A4 Tryz.func191 rfl rfl ?_;simp only[go_sem,go_sem_proc];refine⟨bE_,?_⟩;refine V3 [.share] [] [] ?_;simp only[go_sem,go_sem_proc];exact eE_
def pfK(w:Api.World)(x:B0)(B:List Body)(id:Int):Int:=B1b (λi=>(B.getD i.toNat default).ID==id) (H3 w x)
def pfR(w:Api.World)(x:B0)(B:List Body)(id:Int):Body×Int:=if pfK w x B id<0 then(zB,-1)else(B.getD ((H3 w x).getD (pfK w x B id).toNat 0).toNat default,pfK w x B id)
theorem D9s {p:Int->Bool}{l:List Int}: -1<=B1b p l/\B1b p l<l.length:=by
 unfold B1b;split
 ·rename_i i h;have:=List.mem_of_find?_eq_some h;rw[List.mem_range]at this;omega
 ·omega
theorem B49(w:Api.World)(x:B0)(B:List Body)(S:List SolverBody)(R:List Row)(A:List Int)(id:Int)(hb: ∀i∈H3 w x,0<=i/\i<B.length)(hl:(H3 w x).length<=1000000000):
  A1 Tryz.prog B4z [.ptr 6 0 0 1,sI id] (pbO w x B S R A) (.tup [.agg (pfR w x B id).1.enc,sI ((pfR w x B id).2)]) (pbO w x B S R A):=by
 have hF:=A60 (H3 w x) A3t [] [.ptr 48 0 0 1, .ptr 64 0 0 1] (pfO w x B S R A id) (λi=>(B.getD i.toNat default).ID==id) hl D93
  (by intro j hj;simp[AV.ids,F4]at hj;rcases hj with rfl |rfl <;> rfl) (λi hi=>F3r w x B S R A id i (hb i hi).1 (hb i hi).2)
 have hr:=pfR.eq_1 w x B id
 have hk:=D9s (p:=λi=>(B.getD i.toNat default).ID==id) (l:=H3 w x);rw[show B1b (λi=>(B.getD i.toNat default).ID==id) (H3 w x)=pfK w x B id from rfl]at hF hk;generalize pfK w x B id=k at hF hr hk;refine C0i 30 [(4,some (some 20)),(5,none)] hm A4 Tryz.func111 rfl ?_;simp only[go_sem,go_sem_proc];refine E6 hF D93 D93 (by simp[pfO,pbO]) (by simp[pfO,pbO,pbC,upd,A2,go_sem,go_sem_proc]) (by simp[pfO,pbO]) ?_ rfl ?_
 ·intro a ha j hj;simp only[List.mem_cons,List.not_mem_nil,or_false]at ha;rcases ha with rfl |rfl
  ·simp[AV.ids]at hj
  ·simp[AV.ids,F4]at hj;rcases hj with rfl |rfl <;> rfl
 simp only[go_sem,go_sem_proc];by_cases hn:k<0
 ·rw[if_pos hn]at hr⊢;rw[hr];refine V3 [.thaw, .share] [] [] ?_;simp only[go_sem,go_sem_proc,zB];exact eE_
 rw[if_neg hn]at hr⊢;rw[hr];have hbk:=hb _ (B6 (l:=H3 w x) (i:=k.toNat) 0 (by omega));refine⟨by omega,by omega,?_⟩;refine V3 [.share, .share] [] [] ?_;simp only[go_sem,go_sem_proc];exact eE_
theorem B6b(w:Api.World)(x:B0)(B:List Body)(S:List SolverBody)(R:List Row)(A:List Int)(l:List Row)(hR:R.length+l.length<=100000000)(hA:A.length<=100000000):
  A1 Tryz.prog C84 [.ptr 6 0 0 1,A2 14 Row.enc default l] (pbO w x B S R A) (.tup []) (pbO w x B S (R++l) (A++ [(R.length:Int)])):=by
 refine A7p hm A4 Tryz.func181 rfl rfl ?_;simp only[go_sem,go_sem_proc];refine⟨bE_,bE_,?_⟩;refine V3 [] [] [] ?_;simp only[go_sem,go_sem_proc];exact eE_
def E2u(w:Api.World)(i:Nat)(idx:Int)(B:List Body):List Body:=B.set idx.toNat (V5 (B.getD idx.toNat default) w.Settings)
def vB(w:Api.World)(x:B0)(n:Nat):List Body:=itr (λk B=>E2u w k (x.Bodies.getD k 0) B) n w.Bodies
theorem B4a(w:Api.World)(x:B0)(n:Nat):(vB w x n).length=w.Bodies.length:=T1 (λs:List Body=>s.length) (λi s=>by simp[E2u]) n _
theorem G0b(b:Body)(s:Settings):(V5 b s).Fixtures=b.Fixtures/\(V5 b s).ID=b.ID/\(V5 b s).Kind=b.Kind:=by
 unfold V5;dsimp only
 (repeat' split) <;> exact⟨rfl,rfl,rfl⟩
theorem gsS {α:Type}{l:List α}{k:Nat}{v d:α}(h:k<l.length):(l.set k v).getD k d=v:=by simp only[List.getD,List.getElem?_set_self h,Option.getD_some]
theorem gsN {α:Type}{l:List α}{i k:Nat}{v d:α}(h:i≠k):(l.set i v).getD k d=l.getD k d:=by simp only[List.getD,List.getElem?_set_ne h]
theorem E33(w:Api.World)(x:B0): ∀n k,((vB w x n).getD k default).Fixtures=(w.Bodies.getD k default).Fixtures/\((vB w x n).getD k default).ID=(w.Bodies.getD k default).ID/\((vB w x n).getD k default).Kind=(w.Bodies.getD k default).Kind
 |0,k=>⟨rfl,rfl,rfl⟩
 |n+1,k=>by
  have ih:=E33 w x n;rw[show vB w x (n+1)=E2u w n (x.Bodies.getD n 0) (vB w x n)from E4 ..];generalize vB w x n=B at ih⊢;unfold E2u;generalize(x.Bodies.getD n 0).toNat=q;by_cases h:q=k
  ·subst h;by_cases hl:q<B.length
   ·rw[gsS hl];have h1:=G0b (B.getD q default) w.Settings
    have h2:=ih q;exact⟨h1.1.trans h2.1,h1.2.1.trans h2.2.1,h1.2.2.trans h2.2.2⟩
   ·rw[List.set_eq_of_length_le (by omega)];exact ih q
  ·rw[gsN h];exact ih k
theorem E2v {w:Api.World}(hw:Wsm w)(x:B0)(n:Nat): ∀b∈vB w x n,Body.sm b:=by intro b hb;obtain⟨k,hk,rfl⟩:=List.getElem_of_mem hb;have h:=(E33 w x n k).1;rw[show(vB w x n).getD k default=(vB w x n)[k]by simp[List.getD,hk]]at h;rw[B4a]at hk;have h2:=hw.2.2.2.2.1 _ (B6 (l:=w.Bodies) default hk);unfold Body.sm at h2⊢;rwa[h]
def vS(w:Api.World)(x:B0)(n:Nat):List SolverBody:=((H3 w x).take n).map λi=>A24 ((vB w x x.Bodies.length).getD i.toNat default)
def fB(w:Api.World)(x:B0)(id:Int):Body×Int:=pfR w x (vB w x x.Bodies.length) id
def S0(w:Api.World)(x:B0):List SolverBody:=vS w x (H3 w x).length
def C9k(w:Api.World)(x:B0)(k:Nat):List Row:=J5 (w.Joints.getD (x.Joints.getD k 0).toNat default) (fB w x (w.Joints.getD (x.Joints.getD k 0).toNat default).BodyA).1 (fB w x (w.Joints.getD (x.Joints.getD k 0).toNat default).BodyB).1 (fB w x (w.Joints.getD (x.Joints.getD k 0).toNat default).BodyA).2 (fB w x (w.Joints.getD (x.Joints.getD k 0).toNat default).BodyB).2 (S0 w x) w.Settings.TimeStep
def A9m(l:List Row)(s:List Row×List Int):List Row×List Int:=(s.1++l,s.2++ [(s.1.length:Int)])
def jRA(w:Api.World)(x:B0)(n:Nat):List Row×List Int:=itr (λk s=>A9m (C9k w x k) s) n ([],[])
def D5g(w:Api.World)(x:B0)(k:Nat)(base:Int):List Row:=A4a (w.Contacts.getD (x.Contacts.getD k 0).toNat default) (fB w x (w.Contacts.getD (x.Contacts.getD k 0).toNat default).Key.BodyA).1 (fB w x (w.Contacts.getD (x.Contacts.getD k 0).toNat default).Key.BodyB).1 (fB w x (w.Contacts.getD (x.Contacts.getD k 0).toNat default).Key.BodyA).2 (fB w x (w.Contacts.getD (x.Contacts.getD k 0).toNat default).Key.BodyB).2 base (S0 w x) w.Settings.TimeStep
def cRA(w:Api.World)(x:B0)(n:Nat):List Row×List Int:=itr (λk s=>A9m (D5g w x k (s.1.length:Int)) s) n (jRA w x x.Joints.length)
theorem D9y(w:Api.World)(x:B0): ∀n,(jRA w x n).1.length<=4*n/\(jRA w x n).2.length=n
 |0=>⟨Nat.le_refl _,rfl⟩
 |n+1=>by have ih:=D9y w x n;rw[show jRA w x (n+1)=A9m (C9k w x n) (jRA w x n)from E4 ..];have h:(C9k w x n).length<=4:=C53 ..;simp only[A9m,List.length_append,List.length_singleton];omega
theorem E0h(c:Contact)(a b:Body)(ia ib base:Int)(s:List SolverBody)(dt:Int):(A4a c a b ia ib base s dt).length<=2*c.Manifold.Points.length:=by
 unfold A4a;dsimp only;split
 ·exact Nat.zero_le _
 ·have: ∀n,(itr (R4 c ia ib base s dt (E5 a) (E5 b) (N4 (B7 a c.Key.FixtureA).1 (B7 b c.Key.FixtureB).1) (L6 (B7 a c.Key.FixtureA).1 (B7 b c.Key.FixtureB).1) (A0g c.Manifold.Normal)) n []).length<=2*n:=by
   intro n;induction n with
   |zero=>exact Nat.le_refl _
   |succ n ih=>rw[E4];unfold R4 at ih⊢;dsimp only at ih⊢;rw[List.length_append];simp only[List.length_cons,List.length_nil];omega
  exact this _
def pbG(w:Api.World)(x:B0)(B:List Body)(S:List SolverBody)(R:List Row)(A:List Int)(o:A5):List (Nat×A5):=[(6, .box (pbC w x B.length (.sl 3 0 S.length S.length) (.sl 4 0 R.length R.length) (.sl 5 0 A.length A.length))),(1, .arr 20 (A8 Body.enc default B)),(3,o),(4, .arr 14 (A8 Row.enc default R)),(5, .arr 1 (A8 B9 0 A))]
attribute [go_sem] pbG
def pOk(w:Api.World)(x:B0):Prop:=F1 w=0/\R6 x.Bodies w.Bodies.length=true/\R6 x.Contacts w.Contacts.length=true/\R6 x.Joints w.Joints.length=true
theorem E18(w:Api.World)(x:B0)(hw:Wsm w)(hx:Ism x)(h: ¬pOk w x):A1 Tryz.prog B7n [.agg w.enc, .agg x.enc] [] (.sc (.pointer none)) []:=by
 refine en1 hm A4 Tryz.func107 rfl rfl ?_;simp only[go_sem,go_sem_proc];refine A0 (R8 w hw) rfl ?_;simp only[go_sem,go_sem_proc];refine A0 (A3j x.Bodies w.Bodies.length hx.1) rfl ?_;simp only[go_sem,go_sem_proc];refine A0 (A3j x.Contacts w.Contacts.length hx.2.1) rfl ?_;simp only[go_sem,go_sem_proc];refine A0 (A3j x.Joints w.Joints.length hx.2.2) rfl ?_;simp only[go_sem,go_sem_proc];unfold pOk at h;rw[if_pos]
 ·trivial
 ·cases h2:R6 x.Bodies w.Bodies.length <;> cases h3:R6 x.Contacts w.Contacts.length <;> cases h4:R6 x.Joints w.Joints.length <;> simp[h2,h3,h4]at h⊢;exact h
theorem B9d {l:List Int}{n:Int}(h:R6 l n=true): ∀i∈l,0<=i/\i<n:=by
 have key: ∀k,k<=l.length-> ∃s,D3 (L2 l n) k (-1)= .inl s/\ -1<=s/\ ∀j,j<k->0<=l.getD j 0/\l.getD j 0<n:=by
  intro k;induction k with
  |zero=>intro _;exact⟨-1,rfl,by omega,λj hj=>by omega⟩
  |succ k ih=>
   intro hk;obtain⟨s,h1,h2,h3⟩:=ih (by omega);have hs:D3 (L2 l n) (k+1) (-1)=L2 l n k s:=N1 h1 rfl;unfold L2 at hs;split at hs
   ·exfalso;have h4:=Y4 hs (show k+1<=l.length by omega);unfold R6 at h;rw[show D3 (L2 l n) l.length (-1)= .inr false from h4]at h;cases h
   ·rename_i hc;simp only[Bool.or_eq_true,decide_eq_true_eq,not_or,Int.not_le]at hc;refine⟨_,hs,by omega,λj hj=> ?_⟩;rcases Nat.lt_succ_iff_lt_or_eq.1 hj with hj |rfl
    ·exact h3 j hj
    ·omega
 intro i hi;obtain⟨k,hk,rfl⟩:=List.getElem_of_mem hi;obtain⟨_,_,_,h3⟩:=key l.length (Nat.le_refl _);have:=h3 k hk;rwa[show l.getD k 0=l[k]by simp[List.getD,hk]]at this
theorem D8m(w:Api.World)(x:B0): ∀i∈H3 w x,0<=i/\i<(w.Bodies.length:Int):=λi hi=>D9q w x i (D4w.1 hi)
theorem F78(w:Api.World)(x:B0){n:Nat}(h:n<(H3 w x).length):vS w x (n+1)=vS w x n++ [A24 ((vB w x x.Bodies.length).getD ((H3 w x).getD n 0).toNat default)]:=by unfold vS;rw[K9 0 h,List.map_append];rfl
theorem F4c(w:Api.World)(x:B0)(n:Nat)(h:n<=(H3 w x).length):(vS w x n).length=n:=by unfold vS;rw[List.length_map,List.length_take];omega
theorem D11(w:Api.World)(x:B0)(hP: ∀c∈w.Contacts,c.Manifold.Points.length<=2)(hC: ∀i∈x.Contacts,0<=i/\i<(w.Contacts.length:Int)): ∀n,n<=x.Contacts.length->(cRA w x n).1.length<=4*x.Joints.length+4*n/\(cRA w x n).2.length=x.Joints.length+n
 |0,_=>by have:=D9y w x x.Joints.length;exact⟨this.1,this.2⟩
 |n+1,h=>by
  have ih:=D11 w x hP hC n (by omega);rw[show cRA w x (n+1)=A9m (D5g w x n ((cRA w x n).1.length:Int)) (cRA w x n)from E4 ..];generalize cRA w x n=s at ih⊢;have h1:=hC _ (B6 (l:=x.Contacts) (i:=n) 0 (by omega))
  have h2:=hP _ (B6 (l:=w.Contacts) (i:=(x.Contacts.getD n 0).toNat) default (by omega))
  have h3:(D5g w x n (s.1.length:Int)).length<=2*(w.Contacts.getD (x.Contacts.getD n 0).toNat default).Manifold.Points.length:=E0h ..;simp only[A9m,List.length_append,List.length_singleton];omega
theorem F0s:Body.sm zB:=⟨by decide,λf hf=>by cases hf⟩
theorem D05 {w:Api.World}(hw:Wsm w)(x:B0)(id:Int):Body.sm (fB w x id).1:=by
 unfold fB pfR;have hk:=D9s (p:=λi=>((vB w x x.Bodies.length).getD i.toNat default).ID==id) (l:=H3 w x);rw[show B1b (λi=>((vB w x x.Bodies.length).getD i.toNat default).ID==id) (H3 w x)=pfK w x (vB w x x.Bodies.length) id from rfl]at hk;split
 ·exact F0s
 ·have hi:=D8m w x _ (B6 (l:=H3 w x) (i:=(pfK w x (vB w x x.Bodies.length) id).toNat) 0 (by omega))
  exact E2v hw x x.Bodies.length _ (B6 default (by rw[B4a];omega))
theorem D5t {w:Api.World}{x:B0}{B:List Body}{S:List SolverBody}{R:List Row}{A:List Int}{id:Int}: ∀a∈ [AV.ptr 6 0 0 1,sI id],∀i∈a.ids,(ofL (pbO w x B S R A) i).isSome:=by
 intro a ha j hj;simp only[List.mem_cons,List.not_mem_nil,or_false]at ha;rcases ha with rfl |rfl
 ·simp[AV.ids]at hj;subst hj;rfl
 ·simp[AV.ids]at hj
theorem E9e {w:Api.World}{x:B0}{B:List Body}{S:List SolverBody}{R:List Row}{A:List Int}{l:List Row}: ∀a∈ [AV.ptr 6 0 0 1,A2 14 Row.enc default l],∀i∈a.ids,(ofL (pbO w x B S R A) i).isSome:=by
 intro a ha j hj;simp only[List.mem_cons,List.not_mem_nil,or_false]at ha;rcases ha with rfl |rfl
 ·simp[AV.ids]at hj;subst hj;rfl
 ·simp[AV.ids,A2]at hj
theorem C6p(w:Api.World)(x:B0)(hw:Wsm w)(hx:Ism x)(h:pOk w x)(hP: ∀c∈w.Contacts,c.Manifold.Points.length<=2):A1 Tryz.prog B7n [.agg w.enc, .agg x.enc] [] (.ptr 6 0 0 1) (pbO w x (vB w x x.Bodies.length) (S0 w x) (cRA w x x.Contacts.length).1 (cRA w x x.Contacts.length).2):=by
 obtain⟨hv,a1,a2,a3⟩:=h;have hBx:=B9d a1
 have hCx:=B9d a2
 have hJx:=B9d a3
 have hbl:=D8m w x
 have hbn:(H3 w x).length<=8000000:=Nat.le_trans (E4f w x) (E5i hx);obtain⟨hx1,hx2,hx3⟩:=hx;refine E9s hm A4 Tryz.func107 rfl rfl ?_;refine C3 [(2, .thaw, .fptr w.enc),(3, .thaw, .fptr x.enc),(4, .share, .sc (.pointer none))] [] (E0 hm ?_) ?_
 ·simp only[go_sem,go_sem_proc];refine B8 [] [] ?_;simp only[go_sem,go_sem_proc,A0c]
 refine C3 [(2, .share, .fptr w.enc),(3, .share, .fptr x.enc)] [] (E0 hm ?_) ?_
 ·simp only[go_sem,go_sem_proc];refine A0 (R8 w hw) rfl ?_;simp only[go_sem,go_sem_proc];refine A0 (A3j x.Bodies w.Bodies.length hx1) rfl ?_;simp only[go_sem,go_sem_proc];refine A0 (A3j x.Contacts w.Contacts.length hx2) rfl ?_;simp only[go_sem,go_sem_proc];refine A0 (A3j x.Joints w.Joints.length hx3) rfl ?_;rw[hv,a1,a2,a3];simp only[go_sem,go_sem_proc];rw[if_neg (by simp)];refine B8 [] [] ?_;simp only[go_sem,go_sem_proc]
 refine C3 [(2, .share, .fptr w.enc),(3, .share, .fptr x.enc),(5, .share, .ptr 6 0 0 1)] (pbG w x (w.Bodies) ([]) ([]) ([]) (.arr 5 (A8 SolverBody.enc default ([])))) (E0 hm ?_) ?_
 ·simp only[go_sem,go_sem_proc];refine K0 ev_ K8 (A87 w.Bodies hw.1) ?_;simp only[go_sem,go_sem_proc];refine A0 (D46 w x hw ⟨hx1,hx2,hx3⟩) rfl ?_;simp only[go_sem,go_sem_proc];refine B8 [(1,944),(6,1024)] [3,4,5] ?_;simp only[go_sem,go_sem_proc]
 refine C3 [(2, .share, .fptr w.enc),(3, .share, .fptr x.enc),(5, .share, .ptr 6 0 0 1)] (pbG w x (vB w x (x.Bodies.length)) ([]) ([]) ([]) (.arr 5 (A8 SolverBody.enc default ([])))) (C3 [(2, .share, .fptr w.enc),(3, .share, .fptr x.enc),(5, .share, .ptr 6 0 0 1),(65, .share,A2 1 B9 0 x.Bodies),(66, .share,sI x.Bodies.length),(67, .share,sI (0:Nat))] (pbG w x (w.Bodies) ([]) ([]) ([]) (.arr 5 (A8 SolverBody.enc default ([])))) (E0 hm ?_) (A29 ?_)) ?_
 ·simp only[go_sem,go_sem_proc];refine B8 [] [] ?_;simp only[go_sem,go_sem_proc]
 ·refine A9 hm (ι:= {k:Nat // k<=x.Bodies.length}) (λk=> [(2, .share, .fptr w.enc),(3, .share, .fptr x.enc),(5, .share, .ptr 6 0 0 1),(65, .share,A2 1 B9 0 x.Bodies),(66, .share,sI x.Bodies.length),(67, .share,sI (k.1:Nat))]) (λk=>pbG w x (vB w x (k.1)) ([]) ([]) ([]) (.arr 5 (A8 SolverBody.enc default ([])))) (λk=>x.Bodies.length-k.1) ⟨0,Nat.zero_le _⟩ ?_ ?_
  ·refine B8 [] [] ?_;simp only[go_sem,go_sem_proc];exact eE_
  ·rintro⟨k,hk⟩;dsimp only;have hn:vB w x (k+1)=(vB w x k).set (x.Bodies.getD k 0).toNat (V5 ((vB w x k).getD (x.Bodies.getD k 0).toNat default) w.Settings):=E4 ..
   have hl:=B4a w x k
   have hsm:=E2v hw x k
   have hfin:x.Bodies.length<=k->vB w x k=vB w x x.Bodies.length:=λh=>by rw[show k=x.Bodies.length by omega]
   generalize vB w x k=B at hn hl hsm hfin⊢;by_cases hlt:k<x.Bodies.length;rotate_left
   ·simp only[go_sem,go_sem_proc];rw[if_neg (by omega),<-hfin (by omega)];refine B8 [] [] ?_;simp only[go_sem,go_sem_proc]
   have hi:=hBx _ (B6 (l:=x.Bodies) (i:=k) 0 hlt);simp only[go_sem,go_sem_proc];rw[if_pos (by omega)];generalize x.Bodies.getD k 0=i at hn hi⊢;refine⟨bE_,by omega,?_⟩;refine A0 (C6e (B.getD i.toNat default) w.Settings (hsm _ (B6 default (by omega))).2) rfl ?_;simp only[go_sem,go_sem_proc];refine⟨by omega,?_⟩;refine A7 ⟨k+1,by omega⟩ (by show x.Bodies.length-(k+1)<x.Bodies.length-k;omega) ?_;simp only[hn];refine B8 [] [] ?_;simp only[go_sem,go_sem_proc]
   (repeat' (with_reducible apply And.intro)) <;> first |exact A2k _ (by omega) rfl rfl |exact eE_
 refine C3 [(2, .share, .fptr w.enc),(3, .share, .fptr x.enc),(5, .share, .ptr 6 0 0 1)] (pbG w x (vB w x x.Bodies.length) (vS w x ((H3 w x).length)) ([]) ([]) (.arr 5 (A8 SolverBody.enc default (vS w x ((H3 w x).length))))) (C3 [(2, .share, .fptr w.enc),(3, .share, .fptr x.enc),(5, .share, .ptr 6 0 0 1),(91, .share,A2 1 B9 0 (H3 w x)),(92, .share,sI ((H3 w x).length)),(93, .share,sI (0:Nat))] (pbG w x (vB w x x.Bodies.length) (vS w x (0)) ([]) ([]) (.arr 5 (A8 SolverBody.enc default (vS w x (0))))) (E0 hm ?_) (A29 ?_)) ?_
 ·rw[show vS w x 0= []from rfl];simp only[go_sem,go_sem_proc];refine B8 [] [] ?_;simp only[go_sem,go_sem_proc]
 ·refine A9 hm (ι:= {k:Nat // k<=(H3 w x).length}) (λk=> [(2, .share, .fptr w.enc),(3, .share, .fptr x.enc),(5, .share, .ptr 6 0 0 1),(91, .share,A2 1 B9 0 (H3 w x)),(92, .share,sI ((H3 w x).length)),(93, .share,sI (k.1:Nat))]) (λk=>pbG w x (vB w x x.Bodies.length) (vS w x (k.1)) ([]) ([]) (.arr 5 (A8 SolverBody.enc default (vS w x (k.1))))) (λk=>(H3 w x).length-k.1) ⟨0,Nat.zero_le _⟩ ?_ ?_
  ·refine B8 [] [] ?_;simp only[go_sem,go_sem_proc]
  ·rintro⟨k,hk⟩;dsimp only;have hn:k<(H3 w x).length->vS w x (k+1)=vS w x k++ [A24 ((vB w x x.Bodies.length).getD ((H3 w x).getD k 0).toNat default)]:=λh=>F78 w x h
   have hl:=F4c w x k hk
   have hfin:(H3 w x).length<=k->vS w x k=vS w x (H3 w x).length:=λh=>by rw[show k=(H3 w x).length by omega]
   have hBl:=B4a w x x.Bodies.length
   have hsm:=E2v hw x x.Bodies.length;generalize vS w x k=S at hn hl hfin⊢;by_cases hlt:k<(H3 w x).length;rotate_left
   ·simp only[go_sem,go_sem_proc];rw[if_neg (by omega),<-hfin (by omega)];refine B8 [] [] ?_;simp only[go_sem,go_sem_proc]
   have hi:=hbl _ (B6 (l:=H3 w x) (i:=k) 0 hlt);replace hn:=hn hlt;simp only[go_sem,go_sem_proc];rw[if_pos (by omega)];generalize(H3 w x).getD k 0=i at hn hi⊢;generalize vB w x x.Bodies.length=B at hn hBl hsm⊢;refine⟨bE_,by omega,?_⟩;refine A0 (B7o (B.getD i.toNat default) (hsm _ (B6 default (by omega))).2) rfl ?_;simp only[go_sem,go_sem_proc];refine⟨bE_,?_⟩;refine A7 ⟨k+1,by omega⟩ (by show(H3 w x).length-(k+1)<(H3 w x).length-k;omega) ?_;simp only[hn];refine B8 [] [] ?_;simp only[go_sem,go_sem_proc];exact eE_
 refine F00 3 5 (A8 SolverBody.enc default (S0 w x)) (by simp only[go_sem,go_sem_proc,S0]) ?_;rw[show vS w x (H3 w x).length=S0 w x from rfl];refine C3 [(2, .share, .fptr w.enc),(3, .share, .fptr x.enc),(5, .share, .ptr 6 0 0 1)] (pbG w x (vB w x x.Bodies.length) (S0 w x) ((jRA w x (x.Joints.length)).1) ((jRA w x (x.Joints.length)).2) (.frz 5 (A8 SolverBody.enc default (S0 w x)))) (C3 [(2, .share, .fptr w.enc),(3, .share, .fptr x.enc),(5, .share, .ptr 6 0 0 1),(116, .share,A2 1 B9 0 x.Joints),(117, .share,sI x.Joints.length),(118, .share,sI (0:Nat))] (pbG w x (vB w x x.Bodies.length) (S0 w x) ((jRA w x (0)).1) ((jRA w x (0)).2) (.frz 5 (A8 SolverBody.enc default (S0 w x)))) (E0 hm ?_) (A29 ?_)) ?_
 ·rw[show jRA w x 0=([],[])from rfl];simp only[go_sem,go_sem_proc];refine B8 [] [] ?_;simp only[go_sem,go_sem_proc];exact eE_
 ·refine A9 hm (ι:= {k:Nat // k<=x.Joints.length}) (λk=> [(2, .share, .fptr w.enc),(3, .share, .fptr x.enc),(5, .share, .ptr 6 0 0 1),(116, .share,A2 1 B9 0 x.Joints),(117, .share,sI x.Joints.length),(118, .share,sI (k.1:Nat))]) (λk=>pbG w x (vB w x x.Bodies.length) (S0 w x) ((jRA w x (k.1)).1) ((jRA w x (k.1)).2) (.frz 5 (A8 SolverBody.enc default (S0 w x)))) (λk=>x.Joints.length-k.1) ⟨0,Nat.zero_le _⟩ ?_ ?_
  ·refine B8 [] [] ?_;simp only[go_sem,go_sem_proc];exact eE_
  ·rintro⟨k,hk⟩;dsimp only;have hn:jRA w x (k+1)=A9m (C9k w x k) (jRA w x k):=E4 ..
   have hl:=D9y w x k
   have hfin:x.Joints.length<=k->jRA w x k=jRA w x x.Joints.length:=λh=>by rw[show k=x.Joints.length by omega]
   have hrl:(C9k w x k).length<=4:=C53 ..;generalize jRA w x k=s at hn hl hfin⊢;obtain⟨R,A⟩:=s;dsimp only[A9m]at hn hl hfin⊢;by_cases hlt:k<x.Joints.length;rotate_left
   ·simp only[go_sem,go_sem_proc];rw[if_neg (by omega),<-hfin (by omega)];refine B8 [] [] ?_;simp only[go_sem,go_sem_proc];exact eE_
   have hi:=hJx _ (B6 (l:=x.Joints) (i:=k) 0 hlt)
   have hr:=C9k.eq_1 w x k;simp only[go_sem,go_sem_proc];rw[if_pos (by omega)];generalize x.Joints.getD k 0=i at hr hi⊢;refine⟨bE_,hi,?_⟩;generalize w.Joints.getD i.toNat default=j at hr⊢;have hF:=λid=>B49 w x (vB w x x.Bodies.length) (S0 w x) R A id (by rw[B4a];exact hbl) (by omega)
   have hsa:=D05 hw x j.BodyA
   have hsb:=D05 hw x j.BodyB;unfold fB at hr hsa hsb;refine E6 (hF j.BodyA) A52 A52 (by simp[pbO]) (by simp[pbO,pbC,upd,A2,go_sem,go_sem_proc]) (by simp[pbO]) D5t rfl ?_;generalize pfR w x (vB w x x.Bodies.length) j.BodyA=a at hr hsa⊢;simp only[go_sem,go_sem_proc];refine E6 (hF j.BodyB) A52 A52 (by simp[pbO]) (by simp[pbO,pbC,upd,A2,go_sem,go_sem_proc]) (by simp[pbO]) D5t rfl ?_;generalize pfR w x (vB w x x.Bodies.length) j.BodyB=b at hr hsb⊢;simp only[go_sem,go_sem_proc];refine A5c (A8o j a.1 b.1 a.2 b.2 (S0 w x) w.Settings.TimeStep hsa.2 hsb.2) ?_;rw[<-hr];generalize C9k w x k=l at hn hrl⊢;simp only[A02,go_sem,go_sem_proc];refine E6 (B6b w x (vB w x x.Bodies.length) (S0 w x) R A l (by omega) (by omega)) A52 A52 (by simp[pbO]) (by simp[pbO,pbC,upd,A2,go_sem,go_sem_proc]) (by simp[pbO]) E9e rfl ?_;simp only[go_sem,go_sem_proc];refine A7 ⟨k+1,by omega⟩ (by show x.Joints.length-(k+1)<x.Joints.length-k;omega) ?_;simp only[hn];refine B8 [] [] ?_;simp only[go_sem,go_sem_proc];exact eE_
 refine C3 [(2, .share, .fptr w.enc),(3, .share, .fptr x.enc),(5, .share, .ptr 6 0 0 1)] (pbG w x (vB w x x.Bodies.length) (S0 w x) ((cRA w x (x.Contacts.length)).1) ((cRA w x (x.Contacts.length)).2) (.frz 5 (A8 SolverBody.enc default (S0 w x)))) (C3 [(2, .share, .fptr w.enc),(3, .share, .fptr x.enc),(5, .share, .ptr 6 0 0 1),(158, .share,A2 1 B9 0 x.Contacts),(159, .share,sI x.Contacts.length),(160, .share,sI (0:Nat))] (pbG w x (vB w x x.Bodies.length) (S0 w x) ((cRA w x (0)).1) ((cRA w x (0)).2) (.frz 5 (A8 SolverBody.enc default (S0 w x)))) (E0 hm ?_) (A29 ?_)) ?_
 ·rw[show cRA w x 0=jRA w x x.Joints.length from rfl];simp only[go_sem,go_sem_proc];refine B8 [] [] ?_;simp only[go_sem,go_sem_proc];exact eE_
 ·refine A9 hm (ι:= {k:Nat // k<=x.Contacts.length}) (λk=> [(2, .share, .fptr w.enc),(3, .share, .fptr x.enc),(5, .share, .ptr 6 0 0 1),(158, .share,A2 1 B9 0 x.Contacts),(159, .share,sI x.Contacts.length),(160, .share,sI (k.1:Nat))]) (λk=>pbG w x (vB w x x.Bodies.length) (S0 w x) ((cRA w x (k.1)).1) ((cRA w x (k.1)).2) (.frz 5 (A8 SolverBody.enc default (S0 w x)))) (λk=>x.Contacts.length-k.1) ⟨0,Nat.zero_le _⟩ ?_ ?_
  ·refine B8 [] [] ?_;simp only[go_sem,go_sem_proc];exact eE_
  ·rintro⟨k,hk⟩;dsimp only;have hn:cRA w x (k+1)=A9m (D5g w x k ((cRA w x k).1.length:Int)) (cRA w x k):=E4 ..
   have hl:=D11 w x hP hCx k hk
   have hfin:x.Contacts.length<=k->cRA w x k=cRA w x x.Contacts.length:=λh=>by rw[show k=x.Contacts.length by omega]
   generalize cRA w x k=s at hn hl hfin⊢;obtain⟨R,A⟩:=s;dsimp only[A9m]at hn hl hfin⊢;by_cases hlt:k<x.Contacts.length;rotate_left
   ·simp only[go_sem,go_sem_proc];rw[if_neg (by omega),<-hfin (by omega)];refine B8 [] [] ?_;simp only[go_sem,go_sem_proc];exact eE_
   have hi:=hCx _ (B6 (l:=x.Contacts) (i:=k) 0 hlt)
   have hr:=D5g.eq_1 w x k (R.length:Int);simp only[go_sem,go_sem_proc];rw[if_pos (by omega)];generalize x.Contacts.getD k 0=i at hr hi⊢;refine⟨bE_,hi,?_⟩;have hpt:=hP _ (B6 (l:=w.Contacts) (i:=i.toNat) default (by omega));generalize w.Contacts.getD i.toNat default=c at hr hpt⊢;have hF:=λid=>B49 w x (vB w x x.Bodies.length) (S0 w x) R A id (by rw[B4a];exact hbl) (by omega)
   have hsa:=D05 hw x c.Key.BodyA
   have hsb:=D05 hw x c.Key.BodyB;unfold fB at hr hsa hsb;refine E6 (hF c.Key.BodyA) A52 A52 (by simp[pbO]) (by simp[pbO,pbC,upd,A2,go_sem,go_sem_proc]) (by simp[pbO]) D5t rfl ?_;generalize pfR w x (vB w x x.Bodies.length) c.Key.BodyA=a at hr hsa⊢;simp only[go_sem,go_sem_proc];refine E6 (hF c.Key.BodyB) A52 A52 (by simp[pbO]) (by simp[pbO,pbC,upd,A2,go_sem,go_sem_proc]) (by simp[pbO]) D5t rfl ?_;generalize pfR w x (vB w x x.Bodies.length) c.Key.BodyB=b at hr hsb⊢;simp only[go_sem,go_sem_proc];refine A5c (C97 c a.1 b.1 a.2 b.2 (R.length:Int) (S0 w x) w.Settings.TimeStep (by omega) hsa.2 hsb.2) ?_;have hrl:=E0h c a.1 b.1 a.2 b.2 (R.length:Int) (S0 w x) w.Settings.TimeStep;rw[<-hr]at hrl⊢;generalize D5g w x k (R.length:Int)=l at hn hrl⊢;simp only[A02,go_sem,go_sem_proc];refine E6 (B6b w x (vB w x x.Bodies.length) (S0 w x) R A l (by omega) (by omega)) A52 A52 (by simp[pbO]) (by simp[pbO,pbC,upd,A2,go_sem,go_sem_proc]) (by simp[pbO]) E9e rfl ?_;simp only[go_sem,go_sem_proc];refine A7 ⟨k+1,by omega⟩ (by show x.Contacts.length-(k+1)<x.Contacts.length-k;omega) ?_;simp only[hn];refine B8 [] [] ?_;simp only[go_sem,go_sem_proc];exact eE_
 refine E0 hm ?_;simp only[go_sem,go_sem_proc];refine V3 [.share] [] [] ?_;simp only[go_sem,go_sem_proc];exact eE_
theorem E3a(j:Joint)(a b:Body):N8 j a b=(J5 (⟨j.ID,j.Kind,j.BodyA,j.BodyB,j.AnchorA,j.AnchorB,j.Axis,j.ReferenceAngle,j.EnableLimit,j.Lower,j.Upper,j.EnableMotor,j.MotorSpeed,j.MaxForce,j.Softness,j.BreakForce,j.CollideConnected,(⟨0,1,2,3⟩:Four)⟩:Joint) a b 0 0 ([]:List SolverBody) 65536).map (·.Impulse):=by
 unfold N8;simp only;generalize J5 _ a b 0 0 ([]:List SolverBody) 65536=l;have h: ∀n,n<=l.length->itr (S6 l) n []=(l.take n).map (·.Impulse):=by
  intro n;induction n with
  |zero=>intro _;simp[itr]
  |succ n ih=>intro hn;rw[itr,ih (by omega),S6,List.take_succ_eq_append_getElem (by omega:n<l.length)];simp only[List.map_append,List.map_cons,List.map_nil,List.getD,List.getElem?_eq_getElem (by omega:n<l.length),Option.getD_some]
 rw[h _ (Nat.le_refl _),List.take_length]
theorem F2c(j:Joint)(a b:Body):(N8 j a b).length<=4:=by rw[E3a,List.length_map];exact C53 _ _ _ _ _ _ _
theorem F6v(j:Joint)(a b:Body): ∀x∈N8 j a b,0<=x/\x<4:=by rw[E3a];intro x hx;obtain⟨r,hr,rfl⟩:=List.mem_map.1 hx;have:=F6m _ _ _ _ _ _ _ r hr;simp only[B18]at this;omega
theorem F4y(j:Joint)(a b:Body)(i:Nat):0<=(N8 j a b).getD i 0/\(N8 j a b).getD i 0<4:=by
 by_cases h:i<(N8 j a b).length
 ·exact F6v j a b _ (B6 0 h)
 ·simp[List.getD,List.getElem?_eq_none (by omega:(N8 j a b).length<=i)]
def G1s(f:Four)(i v:Int):Four:=if i=0 then⟨v,f.I1,f.I2,f.I3⟩else if i=1 then⟨f.I0,v,f.I2,f.I3⟩else if i=2 then⟨f.I0,f.I1,v,f.I3⟩else⟨f.I0,f.I1,f.I2,v⟩
def jsS(sl:List Int)(rs:List Row)(base:Int)(k:Nat)(f:Four):Four:=if 0<=base+(k:Nat)/\base+(k:Nat)<rs.length then G1s f (sl.getD k 0) (rs.getD (base+(k:Nat)).toNat default).Impulse else f
def G02(j:Joint)(a b:Body)(rs:List Row)(base:Int):Four:=itr (jsS (N8 j a b) rs base) (N8 j a b).length ⟨0,0,0,0⟩
def jst(j:Joint)(a b:Body)(rs:List Row)(base:Int):Joint:= {j with Impulses:=G02 j a b rs base}
theorem D2x(j:Joint)(a b:Body)(rs:List Row)(base:Int)(ha: ∀f∈a.Fixtures,f.Shape.Vertices.length<=1048576)(hb: ∀f∈b.Fixtures,f.Shape.Vertices.length<=1048576)(h0:0<=base/\base<=100000000):
  A1 Tryz.prog D2t [.agg j.enc, .agg a.enc, .agg b.enc,A2 14 Row.enc default rs,sI base] [] (.agg (jst j a b rs base).enc) []:=by
 have hsl:=F2c j a b
 have hat:=F4y j a b;unfold jst G02;refine L5 48 [(10,some (some 24))] hm A4 Tryz.func112 rfl ?_;simp only[go_sem,go_sem_proc];refine A0 (D2m j a b ha hb) rfl ?_;generalize N8 j a b=sl at hsl hat⊢;simp only[go_sem,go_sem_proc];refine A9 hm (ι:= {i:Nat // i<=sl.length}) (λi=> [(3, .share,A2 14 Row.enc default rs),(4, .share,sI base),(5, .share, .ptr 96 0 0 1),(10, .share, .ptr 176 0 0 1),(11, .share, .ptr 192 0 0 1),(19, .share,A2 1 B9 0 sl),(20, .share,sI sl.length),(21, .share,sI (i.1:Nat))]) (λi=> [(96, .box j.enc),(176, .box Joint.zero),(192, .box [sI ((itr (jsS sl rs base) i.1 ⟨0,0,0,0⟩).I0),sI ((itr (jsS sl rs base) i.1 ⟨0,0,0,0⟩).I1),sI ((itr (jsS sl rs base) i.1 ⟨0,0,0,0⟩).I2),sI ((itr (jsS sl rs base) i.1 ⟨0,0,0,0⟩).I3)])]) (λi=>sl.length-i.1) ⟨0,Nat.zero_le _⟩ ?_ ?_
 ·simp only[H5,Joint.zero];refine B8 [] [] ?_;simp only[go_sem,go_sem_proc]
 ·rintro⟨k,hk⟩;dsimp only;have hn:itr (jsS sl rs base) (k+1) ⟨0,0,0,0⟩=jsS sl rs base k (itr (jsS sl rs base) k ⟨0,0,0,0⟩):=E4 ..
  have hfin:sl.length<=k->itr (jsS sl rs base) k ⟨0,0,0,0⟩=itr (jsS sl rs base) sl.length ⟨0,0,0,0⟩:=λh=>by rw[show k=sl.length by omega]
  generalize itr (jsS sl rs base) k ⟨0,0,0,0⟩=f at hn hfin⊢;have hw:IntKind.i64.wrap (base+(k:Nat))=base+(k:Nat):=by rw[IntKind.wrap_i64];omega
  simp only[go_sem,go_sem_proc,Joint.zero,hw];by_cases hlt:k<sl.length;rotate_left
  ·rw[if_neg (by omega),<-hfin (by omega)];exact eE_
  rw[if_pos (by omega)];refine⟨bE_,?_⟩;have hs:=hat k;rw[jsS.eq_1 sl rs base k f]at hn;generalize sl.getD k 0=s at hs hn⊢;by_cases hc:0<=base+(k:Nat)/\base+(k:Nat)<rs.length
  ·rw[if_pos (by simpa using hc)];rw[if_pos hc]at hn;refine⟨by omega,by omega,?_⟩;obtain rfl |rfl |rfl |rfl:s=0\/s=1\/s=2\/s=3:=by omega
   all_goals
    simp only[G1s,Int.reduceEq,if_true,if_false]at hn;simp only[go_sem,go_sem_proc];refine A7 ⟨k+1,by omega⟩ (by show sl.length-(k+1)<sl.length-k;omega) ?_;simp only[hn];refine B8 [] [] ?_;simp only[go_sem,go_sem_proc]
    all_goals exact eE_
  ·rw[if_neg (by simpa using hc)];rw[if_neg hc]at hn;refine A7 ⟨k+1,by omega⟩ (by show sl.length-(k+1)<sl.length-k;omega) ?_;simp only[hn];refine B8 [] [] ?_;simp only[go_sem,go_sem_proc];exact eE_
def csP(rs:List Row)(base:Int)(i:Nat)(p:ContactPoint):ContactPoint:=⟨p.Point,p.Separation,p.ID,A4j rs (base+2*(i:Nat)) p.NormalImpulse,A4j rs (base+2*(i:Nat)+1) p.TangentImpulse⟩
def csS(rs:List Row)(base:Int)(i:Nat)(s:List ContactPoint):List ContactPoint:=s.set i (csP rs base i (s.getD i default))
def E4j(l:List ContactPoint)(rs:List Row)(base:Int):List ContactPoint:=if(rs.length:Int)<base then l else itr (csS rs base) l.length l
def cst(c:Contact)(rs:List Row)(base:Int):Contact:=⟨c.Key,⟨c.Manifold.Normal,E4j c.Manifold.Points rs base⟩⟩
theorem E8s(rs:List Row)(base:Int)(n:Nat)(l:List ContactPoint):(itr (csS rs base) n l).length=l.length:=T1 (λs:List ContactPoint=>s.length) (λi s=>by simp[csS]) n l
theorem E5k(l:List ContactPoint)(rs:List Row)(base:Int):(E4j l rs base).length=l.length:=by unfold E4j;split;rfl;exact E8s ..
theorem C7c(c:Contact)(rs:List Row)(base:Int)(hp:c.Manifold.Points.length<=1048576)(h0:0<=base/\base<=100000000):
  A1 Tryz.prog C6z [.agg c.enc,A2 14 Row.enc default rs,sI base] [] (.agg (cst c rs base).enc) []:=by
 have hlP:=E5k c.Manifold.Points rs base
 have hcP:=E4j.eq_1 c.Manifold.Points rs base;unfold cst;refine L5 63 [(6,some (some 7))] hm A4 Tryz.func113 rfl ?_;simp only[go_sem,go_sem_proc,AV.offId];refine⟨bE_,?_⟩;refine A9 hm (ι:= {i:Nat // i<=c.Manifold.Points.length/\(0<i-> ¬(rs.length:Int)<base)}) (λi=> [(1, .share,A2 14 Row.enc default rs),(2, .share,sI base),(3, .share, .ptr 64 0 0 1),(6, .share, .ptr 112 0 0 1),(7, .share, .sl 240 0 c.Manifold.Points.length c.Manifold.Points.length),(21, .share,sI c.Manifold.Points.length),(22, .share,sI (i.1:Nat))]) (λi=> [(64, .box c.enc),(112, .box Contact.zero),(240, .arr 6 (A8 ContactPoint.enc default (itr (csS rs base) i.1 c.Manifold.Points)))]) (λi=>c.Manifold.Points.length-i.1) ⟨0,Nat.zero_le _,λh=>by omega⟩ ?_ ?_
 ·simp only[H5,Contact.zero];refine B8 [] [] ?_;simp only[go_sem,go_sem_proc]
  (repeat' (with_reducible apply And.intro)) <;> (exact⟨rfl,rfl,λi hi=>by dsimp only at hi⊢;rw[if_pos (by omega),Nat.sub_zero];exact L3 _⟩)
 ·rintro⟨k,hk,hkb⟩;dsimp only;have hn:itr (csS rs base) (k+1) c.Manifold.Points=(itr (csS rs base) k c.Manifold.Points).set k (csP rs base k ((itr (csS rs base) k c.Manifold.Points).getD k default)):=E4 ..
  have hl:=E8s rs base k c.Manifold.Points
  have hfin:c.Manifold.Points.length<=k->itr (csS rs base) k c.Manifold.Points=itr (csS rs base) c.Manifold.Points.length c.Manifold.Points:=λh=>by rw[show k=c.Manifold.Points.length by omega]
  have hz:k=0->itr (csS rs base) k c.Manifold.Points=c.Manifold.Points:=λh=>by subst h;rfl
  generalize itr (csS rs base) k c.Manifold.Points=v at hn hl hfin hz⊢;simp only[go_sem,go_sem_proc,Contact.zero];by_cases hlt:k<c.Manifold.Points.length;rotate_left
  ·rw[if_neg (by omega)];have hv:v=E4j c.Manifold.Points rs base:=by
    rw[hcP];by_cases hz2:k=0
    ·have h0:c.Manifold.Points= []:=List.length_eq_zero_iff.1 (by omega)
     have:=hz hz2;rw[this];split
     ·rfl
     ·rw[h0];rfl
    ·rw[if_neg (hkb (by omega))];exact hfin (by omega)
   rw[<-hv,hl];exact⟨rfl,I7 _⟩
  rw[if_pos (by omega)];by_cases hbl:(rs.length:Int)<base
  ·rw[if_pos (by simpa using hbl)];have hk0:k=0:=by
    rcases Nat.eq_zero_or_pos k with h |h
    ·exact h
    ·exact absurd hbl (hkb h)
   rw[hcP,if_pos hbl,hz hk0];exact⟨rfl,I7 _⟩
  rw[if_neg (by simpa using hbl)];refine⟨bE_,bE_,?_⟩;have hw1:IntKind.i64.wrap (2*(k:Nat))=2*(k:Nat):=by rw[IntKind.wrap_i64];omega
  have hw2:IntKind.i64.wrap (base+2*(k:Nat))=base+2*(k:Nat):=by rw[IntKind.wrap_i64];omega
  have hw3:IntKind.i64.wrap (base+2*(k:Nat)+1)=base+2*(k:Nat)+1:=by rw[IntKind.wrap_i64];omega
  simp only[hw1,hw2];refine A0 (B3a rs (base+2*(k:Nat)) (v.getD k default).NormalImpulse) rfl ?_;simp only[go_sem,go_sem_proc,hw1,hw2,hw3];refine⟨⟨hl.symm,bE_⟩,hl.symm,⟨hl.symm,bE_⟩,hl.symm,?_⟩;refine A0 (B3a rs (base+2*(k:Nat)+1) (v.getD k default).TangentImpulse) rfl ?_;simp only[go_sem,go_sem_proc];refine⟨⟨hl.symm,bE_⟩,hl.symm,?_⟩;refine A7 ⟨k+1,by omega,λ_=>hbl⟩ (by show c.Manifold.Points.length-(k+1)<c.Manifold.Points.length-k;omega) ?_;simp only[hn];refine B8 [] [] ?_;simp only[go_sem,go_sem_proc]
  (repeat' (with_reducible apply And.intro)) <;> first |exact A2k _ (by omega) rfl rfl |exact eE_
def B0m(x:Int)(y:Int):Bool:=let v1:=(A0x x);let v2:=(A0x y);((v1&&(!v2))||(decide (x<y)))
theorem D8s(x:Int)(y:Int):A1 Tryz.prog D91 [sI x,sI y] [] (sB (B0m x y)) []:=by
 refine en1 hm A4 Tryz.func188 rfl rfl ?_;have:=C0z
 have:=B0m.eq_1 x y;exact J1
theorem G3e(x y:Int):B0m x y=decide (x<y):=by unfold B0m A0x;simp
theorem B6k(x:Int):A1 Tryz.prog C8g [sI x] [] (sB false) []:=by refine en1 hm A4 Tryz.func189 rfl rfl ?_;simp only[go_sem,go_sem_proc];simp
def F61(l:List Int):Prop:= ∀i j:Nat,i<j->j<l.length->l.getD i 0<l.getD j 0
theorem G2r(x:Int)(l:List Int)(ha:F61 l): ∃i,i<=l.length/\(∀k,k<i->l.getD k 0<x)/\ ∀k,i<=k->k<l.length->x<=l.getD k 0:=by
 have key: ∀n,n<=l.length-> ∃i,i<=n/\(∀k,k<i->l.getD k 0<x)/\ ∀k,i<=k->k<n->x<=l.getD k 0:=by
  intro n;induction n with
  |zero=>intro _;exact⟨0,Nat.le_refl _,λk h=>by omega,λk _ h=>by omega⟩
  |succ n ih=>
   intro hn;obtain⟨i,h1,h2,h3⟩:=ih (by omega);by_cases h:l.getD n 0<x
   ·refine⟨n+1,Nat.le_refl _,λk hk=> ?_,λk h1 h2=>by omega⟩;rcases Nat.lt_succ_iff_lt_or_eq.1 hk with hk |rfl
    ·have:=ha k n hk (by omega);omega
    ·exact h
   ·refine⟨i,by omega,h2,λk hk hkn=> ?_⟩;rcases Nat.lt_succ_iff_lt_or_eq.1 hkn with hk2 |rfl
    ·exact h3 k hk hk2
    ·omega
 exact key l.length (Nat.le_refl _)
theorem D9b(l:List Int)(x:Int)(hl:l.length<=1048576)(ha:F61 l): ∃i:Nat,A1 Tryz.prog B8d [A2 1 B9 0 l,sI x] [] (.tup [sI (i:Nat),sB (l.contains x)]) []:=by
 obtain⟨i,h1,h2,h3⟩:=G2r x l ha;have hc:l.contains x=(decide (i<l.length)&&(l.getD i 0==x)):=by
  rw[Bool.eq_iff_iff];simp only[List.contains_iff_mem,Bool.and_eq_true,decide_eq_true_eq,beq_iff_eq];constructor
  ·intro hm;obtain⟨k,hk,hx⟩:=List.getElem_of_mem hm;have hx':l.getD k 0=x:=by simp[List.getD,hk,hx]
   have:i=k:=by
    rcases Nat.lt_trichotomy i k with h |h |h
    ·have g1:=h3 i (Nat.le_refl _) (by omega)
     have g2:=ha i k h hk;omega
    ·exact h
    ·have:=h2 k h;omega
   subst this;exact⟨hk,hx'⟩
  ·rintro⟨hk,rfl⟩;exact B6 0 hk
 refine⟨i,?_⟩;rw[hc];refine enT hm A4 Tryz.func109 rfl rfl ?_;simp only[go_sem,go_sem_proc];refine A9 hm (ι:= {p:Nat×Nat // p.1<=i/\i<=p.2/\p.2<=l.length}) (λp=> [(0, .share,A2 1 B9 0 l),(1, .share,sI x),(6, .share,sI l.length),(7, .share,sI (p.1.1:Nat)),(8, .share,sI (p.1.2:Nat))]) (λ_=> []) (λp=>p.1.2-p.1.1) ⟨(0,l.length),Nat.zero_le _,h1,Nat.le_refl _⟩ ?_ ?_
 ·refine B8 [] [] ?_;simp only[go_sem,go_sem_proc]
 ·rintro⟨⟨a,b⟩,q1,q2,q3⟩;dsimp only at q1 q2 q3⊢;simp only[go_sem,go_sem_proc];by_cases hab:a<b;rotate_left
  ·obtain⟨rfl,rfl⟩:a=i/\i=b:=⟨by omega,by omega⟩;rw[if_neg (by exact_mod_cast hab)];refine⟨λ_=>by omega,λe=>by simp only[Bool.and_eq_true,decide_eq_true_eq]at e;omega,?_⟩;refine A0 (B6k (l.getD a 0)) rfl ?_;simp only[go_sem,go_sem_proc];refine A0 (B6k x) rfl ?_;simp only[go_sem,go_sem_proc];refine⟨λg=>⟨g,λe=> ?_⟩,?_⟩
   ·rw[e,decide_eq_true (by omega)];rfl
   ·by_cases g:a<l.length
    ·rw[if_pos (by omega),decide_eq_true g,Bool.true_and]
    ·rw[if_neg (by omega),decide_eq_false g,Bool.false_and]
  rw[if_pos (by omega)];have hw:IntKind.i64.wrap ((IntKind.u64.wrap (IntKind.i64.wrap ((a:Int)+(b:Int)))).fdiv (2^min 1 64))=(((a+b) / 2:Nat):Int):=by rw[D65 (n:=(a:Int)+b) (by omega) (by omega),F7q (n:=(a:Int)+b) (by omega) (by omega),show((2:Int)^min 1 64)=2 by rfl,Int.fdiv_eq_ediv_of_nonneg _ (by omega),D65 (by omega) (by omega)];omega
  rw[hw];have q4:a<=(a+b) / 2/\(a+b) / 2<b:=by omega
  generalize(a+b) / 2=h at q4;refine⟨by omega,by omega,?_⟩;rw[Int.toNat_natCast];refine A0 (D8s (l.getD h 0) x) rfl ?_;rw[G3e];simp only[go_sem,go_sem_proc];by_cases hx:l.getD h 0<x
  ·rw[if_pos hx];have:h<i:=by
    rcases Nat.lt_or_ge h i with g |g
    ·exact g
    ·have:=h3 h g (by omega);omega
   refine A7 ⟨(h+1,b),by dsimp only;omega,by dsimp only;omega,by dsimp only;omega⟩ (by show b-(h+1)<b-a;omega) ?_;refine B8 [] [] ?_;simp only[go_sem,go_sem_proc];exact eE_
  ·rw[if_neg hx];have:i<=h:=by
    rcases Nat.lt_or_ge h i with g |g
    ·exact absurd (h2 h g) hx
    ·exact g
   refine A7 ⟨(a,h),by dsimp only;omega,by dsimp only;omega,by dsimp only;omega⟩ (by show h-a<b-a;omega) ?_;refine B8 [] [] ?_;simp only[go_sem,go_sem_proc]
def A2l(w:Api.World)(x:B0)(B:List Body)(S:List SolverBody)(R:List Row)(A:List Int):List (Nat×A5):=[(6, .box (pbC w x B.length (.sl 3 0 S.length S.length) (.sl 4 0 R.length R.length) (.sl 5 0 A.length A.length))),(1, .arr 20 (A8 Body.enc default B)),(3, .frz 5 (A8 SolverBody.enc default S)),(4, .frz 14 (A8 Row.enc default R)),(5, .arr 1 (A8 B9 0 A))]
attribute [go_sem] pbC A2l
def C2h(w:Api.World)(x:B0)(B:List Body)(S:List SolverBody)(R:List Row)(A:List Int)(id:Int):List (Nat×A5):=(48, .box [.ptr 6 0 0 1])::(64, .box [sI id])::A2l w x B S R A
attribute [go_sem] C2h
theorem C4b {w:Api.World}{x:B0}{B:List Body}{S:List SolverBody}{R:List Row}{A:List Int}:okO (A2l w x B S R A):=by
 refine⟨by simp[A2l],λp hp cs e j hj=> ?_⟩;simp only[A2l,List.mem_cons,List.not_mem_nil,or_false]at hp;rcases hp with rfl |rfl |rfl |rfl |rfl
 ·simp only[A5.box.injEq]at e;subst e;simp[pbC,F4,AV.ids,A2]at hj;rcases hj with rfl |rfl |rfl |rfl <;> rfl
 all_goals cases e
theorem D49 {w:Api.World}{x:B0}{B:List Body}{S:List SolverBody}{R:List Row}{A:List Int}{id:Int}:okO (C2h w x B S R A id):=by
 refine⟨by simp[C2h,A2l],λp hp cs e j hj=> ?_⟩;simp only[C2h,A2l,List.mem_cons,List.not_mem_nil,or_false]at hp;rcases hp with rfl |rfl |rfl |rfl |rfl |rfl |rfl
 ·simp only[A5.box.injEq]at e;subst e;simp[F4,AV.ids]at hj;subst hj;rfl
 ·simp only[A5.box.injEq]at e;subst e;simp[F4,AV.ids]at hj
 ·simp only[A5.box.injEq]at e;subst e;simp[pbC,F4,AV.ids,A2]at hj;rcases hj with rfl |rfl |rfl |rfl <;> rfl
 all_goals cases e
theorem F0f(w:Api.World)(x:B0)(B:List Body)(S:List SolverBody)(R:List Row)(A:List Int)(id i:Int)(h0:0<=i)(h1:i<B.length):
  A1 Tryz.prog A3t [sI i, .ptr 48 0 0 1, .ptr 64 0 0 1] (C2h w x B S R A id) (sB ((B.getD i.toNat default).ID==id)) (C2h w x B S R A id):=by
 refine H8 hm A4 Tryz.func191 rfl rfl ?_;simp only[go_sem,go_sem_proc];refine⟨bE_,?_⟩;refine V3 [.share] [] [] ?_;simp only[go_sem,go_sem_proc];exact eE_
theorem C4w(w:Api.World)(x:B0)(B:List Body)(S:List SolverBody)(R:List Row)(A:List Int)(id:Int)(hb: ∀i∈H3 w x,0<=i/\i<B.length)(hl:(H3 w x).length<=1000000000):
  A1 Tryz.prog B4z [.ptr 6 0 0 1,sI id] (A2l w x B S R A) (.tup [.agg (pfR w x B id).1.enc,sI ((pfR w x B id).2)]) (A2l w x B S R A):=by
 have hF:=A60 (H3 w x) A3t [] [.ptr 48 0 0 1, .ptr 64 0 0 1] (C2h w x B S R A id) (λi=>(B.getD i.toNat default).ID==id) hl D49
  (by intro j hj;simp[AV.ids,F4]at hj;rcases hj with rfl |rfl <;> rfl) (λi hi=>F0f w x B S R A id i (hb i hi).1 (hb i hi).2)
 have hr:=pfR.eq_1 w x B id
 have hk:=D9s (p:=λi=>(B.getD i.toNat default).ID==id) (l:=H3 w x);rw[show B1b (λi=>(B.getD i.toNat default).ID==id) (H3 w x)=pfK w x B id from rfl]at hF hk;generalize pfK w x B id=k at hF hr hk;refine C0i 30 [(4,some (some 20)),(5,none)] hm A4 Tryz.func111 rfl ?_;simp only[go_sem,go_sem_proc];refine E6 hF D49 D49 (by simp[C2h,A2l]) (by simp[C2h,A2l,pbC,upd,A2,go_sem,go_sem_proc]) (by simp[C2h,A2l]) ?_ rfl ?_
 ·intro a ha j hj;simp only[List.mem_cons,List.not_mem_nil,or_false]at ha;rcases ha with rfl |rfl
  ·simp[AV.ids]at hj
  ·simp[AV.ids,F4]at hj;rcases hj with rfl |rfl <;> rfl
 simp only[go_sem,go_sem_proc];by_cases hn:k<0
 ·rw[if_pos hn]at hr⊢;rw[hr];refine V3 [.thaw, .share] [] [] ?_;simp only[go_sem,go_sem_proc,zB];exact eE_
 rw[if_neg hn]at hr⊢;rw[hr];have hbk:=hb _ (B6 (l:=H3 w x) (i:=k.toNat) 0 (by omega));refine⟨by omega,by omega,?_⟩;refine V3 [.share, .share] [] [] ?_;simp only[go_sem,go_sem_proc];exact eE_
theorem E8t {w:Api.World}{x:B0}{B:List Body}{S:List SolverBody}{R:List Row}{A:List Int}{id:Int}: ∀a∈ [AV.ptr 6 0 0 1,sI id],∀i∈a.ids,(ofL (A2l w x B S R A) i).isSome:=by
 intro a ha j hj;simp only[List.mem_cons,List.not_mem_nil,or_false]at ha;rcases ha with rfl |rfl
 ·simp[AV.ids]at hj;subst hj;rfl
 ·simp[AV.ids]at hj
def D6a(s:List Row×List Int):Prop:= ∀a∈s.2,0<=a/\a<=(s.1.length:Int)
theorem E4q {l:List Row}{s:List Row×List Int}(h:D6a s):D6a (A9m l s):=by
 intro a ha;simp only[A9m,List.mem_append,List.mem_singleton,List.length_append]at ha⊢;rcases ha with ha |rfl
 ·have:=h a ha;omega
 ·omega
theorem F35(w:Api.World)(x:B0): ∀n,D6a (jRA w x n)
 |0=>λa ha=>by cases ha
 |n+1=>by rw[show jRA w x (n+1)=A9m (C9k w x n) (jRA w x n)from E4 ..];exact E4q (F35 w x n)
theorem F4e(w:Api.World)(x:B0): ∀n,D6a (cRA w x n)
 |0=>F35 w x _
 |n+1=>by rw[show cRA w x (n+1)=A9m (D5g w x n ((cRA w x n).1.length:Int)) (cRA w x n)from E4 ..];exact E4q (F4e w x n)
theorem F5w(w:Api.World)(x:B0):D8c (H3 w x):=E6b (F5y _)
theorem D3u {l:List Int}{n:Int}(h:R6 l n=true):F61 l/\l.length<=n.toNat:=by
 have key: ∀k,k<=l.length-> ∃s,D3 (L2 l n) k (-1)= .inl s/\(k:Int)-1<=s/\(0<k->s<n)/\(∀j,j<k->l.getD j 0<=s)/\ ∀i j:Nat,i<j->j<k->l.getD i 0<l.getD j 0:=by
  intro k;induction k with
  |zero=>intro _;exact⟨-1,rfl,by omega,λh=>by omega,λj hj=>by omega,λi j hi hj=>by omega⟩
  |succ k ih=>
   intro hk;obtain⟨s,h1,h2,h3,h4,h5⟩:=ih (by omega);have hs:D3 (L2 l n) (k+1) (-1)=L2 l n k s:=N1 h1 rfl;unfold L2 at hs;split at hs
   ·exfalso;have h4:=Y4 hs (show k+1<=l.length by omega);unfold R6 at h;rw[show D3 (L2 l n) l.length (-1)= .inr false from h4]at h;cases h
   ·rename_i hc;simp only[Bool.or_eq_true,decide_eq_true_eq,not_or,Int.not_le]at hc;refine⟨_,hs,by omega,λ_=>by omega,λj hj=> ?_,λi j hi hj=> ?_⟩
    ·rcases Nat.lt_succ_iff_lt_or_eq.1 hj with hj |rfl
     ·have:=h4 j hj;omega
     ·omega
    ·rcases Nat.lt_succ_iff_lt_or_eq.1 hj with hj |rfl
     ·exact h5 i j hi hj
     ·have:=h4 i hi;omega
 obtain⟨s,_,h2,h3,_,h5⟩:=key l.length (Nat.le_refl _);refine⟨h5,?_⟩;rcases Nat.eq_zero_or_pos l.length with h |h
 ·omega
 ·have:=h3 h;omega
theorem E8e: ∀ {l:List Int} {a n:Nat},D8c l->(∀y∈l,(a:Int)<=y/\y<(n:Int))->l.length<=n-a
 | [],_,_,_,_=>Nat.zero_le _
 |b::l,a,n,h,hb=>by
  have hb0:=hb b (List.mem_cons_self ..)
  have h2:=(List.pairwise_cons.1 h)
  have:=E8e (l:=l) (a:=b.toNat+1) (n:=n) h2.2 (λy hy=>⟨by have:=h2.1 y hy;omega,(hb y (List.mem_cons_of_mem _ hy)).2⟩);rw[List.length_cons];omega
theorem G3c {P:Program}{L:List (Nat×List Bool)}{f:FuncId}{fn:Func}{ac:ACode}{args:List AV}{r:AV}(N:Nat)(rvs:List (Nat×Option (Option Nat)))(hm:P.follows .mixedOrders=true)(hL:okE P L=true)(hf:P.funcs[f]? =some fn)(hc:M6 P L fn.ntmps (fn.body.getD .skip)=some ac)
  (h: @Wpi P N [] ac (C00 N rvs [r]) (Z5 args []))(hN:fn.ntmps=N:=by kernel_rfl)(hts:A5v P fn.results.toList=some rvs:=by kernel_rfl)(hb:fn.body=some (fn.body.getD .skip):=by kernel_rfl)(hname:(fn.name != "runtime.NumGoroutine")=true:=by kernel_rfl)(hlt:(rvs.all λp=>p.1.blt N)=true:=by decide)(hl:(args.length.ble N)=true:=by kernel_rfl):
  A1 P f args [] r []:=B5w (ac:= .mark ac) hm hf hb hname (have e:D9 P fn.ntmps (fn.body.getD .skip)=some ac.strip:=cs2 hL hc;e) hN hts hlt hl h
def sol(w:Api.World)(x:B0):List Row×List SolverBody:=A0j (cRA w x x.Contacts.length).1 (S0 w x) w.Settings.Iterations
def G18(b:Body)(s:SolverBody):Body:=A2n {b with Velocity:=s.Velocity,AngularVelocity:=s.AngularVelocity}
def A6u(w:Api.World)(x:B0)(n:Nat):List Body:=itr (λk B=>if(x.Bodies.contains ((H3 w x).getD k 0)&&(B.getD ((H3 w x).getD k 0).toNat default).Kind==3)=true then B.set ((H3 w x).getD k 0).toNat (G18 ((vB w x x.Bodies.length).getD ((H3 w x).getD k 0).toNat default) ((sol w x).2.getD k default))else B) n w.Bodies
def G0y(w:Api.World)(x:B0)(k:Nat)(j:Joint):Joint:=jst j (fB w x j.BodyA).1 (fB w x j.BodyB).1 (sol w x).1 ((cRA w x x.Contacts.length).2.getD k 0)
def A9r(w:Api.World)(x:B0)(n:Nat):List Joint:=itr (λk J=>J.set (x.Joints.getD k 0).toNat (G0y w x k (w.Joints.getD (x.Joints.getD k 0).toNat default))) n w.Joints
def A9t(w:Api.World)(x:B0)(n:Nat):List Contact:=itr (λk C=>C.set (x.Contacts.getD k 0).toNat (cst (w.Contacts.getD (x.Contacts.getD k 0).toNat default) (sol w x).1 ((cRA w x x.Contacts.length).2.getD (x.Joints.length+k) 0))) n w.Contacts
theorem E4p(w:Api.World)(x:B0)(n:Nat):(A6u w x n).length=w.Bodies.length:=T1 (λs:List Body=>s.length) (λi s=>by split <;> simp) n _
theorem C4s(w:Api.World)(x:B0)(n:Nat):(A9r w x n).length=w.Joints.length:=T1 (λs:List Joint=>s.length) (λi s=>by simp) n _
theorem C46(w:Api.World)(x:B0)(n:Nat):(A9t w x n).length=w.Contacts.length:=T1 (λs:List Contact=>s.length) (λi s=>by simp) n _
theorem F8k(w:Api.World)(x:B0):(sol w x).1.length=(cRA w x x.Contacts.length).1.length/\(sol w x).2.length=(S0 w x).length:=by
 have h:=λk=>T1 (λs:(List Row)×(List SolverBody)=>s.1.length) (f:=K7) (λi s=>by unfold K7;simp) k
 have h2:=λk=>T1 (λs:(List Row)×(List SolverBody)=>s.2.length) (f:=K7) (λi s=>by unfold K7;simp) k;unfold sol A0j;exact⟨(h _ _).trans (E1b _),(h2 _ _).trans (E3f _ _)⟩
instance(w:Api.World)(x:B0):Decidable (pOk w x):=inferInstanceAs (Decidable (_/\_/\_/\_))
def D5i(w:Api.World)(x:B0):Api.World:=
 if A6p w x (A0v w x)=false then w
 else if ¬pOk w x\/(S0 w x).length=0 then w
 else {w with Bodies:=A6u w x (H3 w x).length,Joints:=A9r w x x.Joints.length,Contacts:=A9t w x x.Contacts.length}
theorem D6r(w:Api.World)(x:B0)(hw:Wsm w)(hx:Ism x)(h:A6p w x (A0v w x)=false):A1 Tryz.prog A36 [.agg w.enc, .agg x.enc] [] (.agg w.enc) []:=by have hA:=A9i w x hw hx;rw[h]at hA;refine L5 189 [(4,some (some 11))] hm A4 Tryz.func57 rfl ?_;simp only[go_sem,go_sem_proc];refine K0 ev_ K8 (A51 w hw) ?_;simp only[go_sem,go_sem_proc];refine A0 hA rfl ?_;simp only[go_sem,go_sem_proc]
theorem D6f(w:Api.World)(x:B0)(hw:Wsm w)(hx:Ism x)(ha:A6p w x (A0v w x)=true)(h: ¬pOk w x):A1 Tryz.prog A36 [.agg w.enc, .agg x.enc] [] (.agg w.enc) []:=by have hA:=A9i w x hw hx;rw[ha]at hA;refine L5 189 [(4,some (some 11))] hm A4 Tryz.func57 rfl ?_;simp only[go_sem,go_sem_proc];refine K0 ev_ K8 (A51 w hw) ?_;simp only[go_sem,go_sem_proc];refine A0 hA rfl ?_;simp only[go_sem,go_sem_proc];refine A0 (E18 w x hw hx h) rfl ?_;simp only[go_sem,go_sem_proc]
theorem D6s(w:Api.World)(x:B0)(hw:Wsm w)(hx:Ism x)(ha:A6p w x (A0v w x)=true)(h:pOk w x)(h0:(S0 w x).length=0)(hP: ∀c∈w.Contacts,c.Manifold.Points.length<=2):A1 Tryz.prog A36 [.agg w.enc, .agg x.enc] [] (.agg w.enc) []:=by
 have hA:=A9i w x hw hx;rw[ha]at hA;refine L5 189 [(4,some (some 11))] hm A4 Tryz.func57 rfl ?_;simp only[go_sem,go_sem_proc];refine K0 ev_ K8 (A51 w hw) ?_;simp only[go_sem,go_sem_proc];refine A0 hA rfl ?_;simp only[go_sem,go_sem_proc];have hN:=C6p w x hw hx h hP
 have hE:S0 w x= []:=List.length_eq_zero_iff.1 h0;rw[hE]at hN;refine K0 ev_ K8 hN ?_;simp only[go_sem,go_sem_proc];rw[if_pos (by rfl)];trivial
def B2w(w:Api.World)(B:List Body)(J:List Joint)(C:List Contact):List (Nat×A5):= [(80, .box World.zero),(96, .box [sI w.Settings.TimeStep,sI w.Settings.Gravity.X,sI w.Settings.Gravity.Y,sI w.Settings.Iterations,sI w.Settings.SleepSteps, .sl 7 0 w.Bodies.length w.Bodies.length, .sl 8 0 w.Joints.length w.Joints.length, .sl 9 0 w.Contacts.length w.Contacts.length, .sl 10 0 w.Overlaps.length w.Overlaps.length,sI w.NextID,sI w.Frame]),(7, .arr 20 (A8 Body.enc default B)),(8, .arr 24 (A8 Joint.enc default J)),(9, .arr 7 (A8 Contact.enc default C)),(10, .arr 4 (A8 PairKey.enc default w.Overlaps))]
attribute [go_sem] B2w
theorem D6w(w:Api.World)(x:B0)(hw:Wsm w)(hx:Ism x)(ha:A6p w x (A0v w x)=true)(h:pOk w x)(h0:(S0 w x).length≠0)(hP: ∀c∈w.Contacts,c.Manifold.Points.length<=2)(hR:(cRA w x x.Contacts.length).1.length<=1048576):A1 Tryz.prog A36 [.agg w.enc, .agg x.enc] [] (.agg ({w with Bodies:=A6u w x (H3 w x).length,Joints:=A9r w x x.Joints.length,Contacts:=A9t w x x.Contacts.length}:Api.World).enc) []:=by
 have hA:=A9i w x hw hx;rw[ha]at hA;have hN:=C6p w x hw hx h hP
 have hbl:=D8m w x
 have hS0:(S0 w x).length=(H3 w x).length:=F4c w x _ (Nat.le_refl _)
 have hbn:(H3 w x).length<=1048576:=by
  have:=E8e (a:=0) (n:=w.Bodies.length) (F5w w x) (λy hy=>by have:=hbl y hy;omega)
  have:=hw.1;omega
 have hV:=D8b (cRA w x x.Contacts.length).1 (S0 w x) w.Settings.Iterations (by omega) hR;rw[show A0j (cRA w x x.Contacts.length).1 (S0 w x) w.Settings.Iterations=sol w x from rfl]at hV;obtain⟨hs1,hs2⟩:=F8k w x;have hbase:=F4e w x x.Contacts.length
 have hra:=D11 w x hP (B9d h.2.2.1) x.Contacts.length (Nat.le_refl _);obtain⟨hv,a1,a2,a3⟩:=h;have hCx:=B9d a2
 have hJx:=B9d a3
 have a1':=D3u a1;obtain⟨hx1,hx2,hx3⟩:=hx;refine G3c 189 [(4,some (some 11))] hm A4 Tryz.func57 rfl ?_;refine C3 [(2, .thaw, .fptr w.enc),(3, .thaw, .fptr x.enc),(4, .share, .ptr 80 0 0 1)] [(80, .box World.zero)] (E0 hm ?_) ?_
 ·simp only[go_sem,go_sem_proc,World.zero];refine B8 [] [] ?_;simp only[go_sem,go_sem_proc];exact eE_
 refine C3 [(2, .share, .fptr w.enc),(3, .share, .fptr x.enc),(4, .share, .ptr 80 0 0 1),(5, .share, .ptr 96 0 0 1)] (B2w w (w.Bodies) (w.Joints) (w.Contacts)) (E0 hm ?_) ?_
 ·simp only[go_sem,go_sem_proc];refine K0 ev_ K8 (A51 w hw) ?_;simp only[go_sem,go_sem_proc,World.zero];refine B8 [(7,400),(8,401),(9,402),(10,403)] [] ?_;simp only[go_sem,go_sem_proc]
 refine C3 [(2, .share, .fptr w.enc),(3, .share, .fptr x.enc),(4, .share, .ptr 80 0 0 1),(5, .share, .ptr 96 0 0 1)] (B2w w (w.Bodies) (w.Joints) (w.Contacts)) (E0 hm ?_) ?_
 ·simp only[go_sem,go_sem_proc];refine A0 hA rfl ?_;simp only[go_sem,go_sem_proc,World.zero];refine B8 [] [] ?_;simp only[go_sem,go_sem_proc]
 refine C3 [(2, .share, .fptr w.enc),(3, .share, .fptr x.enc),(4, .share, .ptr 80 0 0 1),(5, .share, .ptr 96 0 0 1),(6, .share, .ptr 6 0 0 1)] (B2w w (w.Bodies) (w.Joints) (w.Contacts)++pbO w x (vB w x x.Bodies.length) (S0 w x) (cRA w x x.Contacts.length).1 (cRA w x x.Contacts.length).2) (E0 hm ?_) ?_
 ·simp only[go_sem,go_sem_proc];refine K0 ev_ K8 hN ?_;simp only[go_sem,go_sem_proc,World.zero];refine B8 [(6,533),(1,528),(3,530),(4,531),(5,532)] [] ?_;simp only[go_sem,go_sem_proc];exact eE_
 refine C3 [(2, .share, .fptr w.enc),(3, .share, .fptr x.enc),(4, .share, .ptr 80 0 0 1),(5, .share, .ptr 96 0 0 1),(6, .share, .ptr 6 0 0 1)] (B2w w (w.Bodies) (w.Joints) (w.Contacts)++pbO w x (vB w x x.Bodies.length) (S0 w x) (cRA w x x.Contacts.length).1 (cRA w x x.Contacts.length).2) (E0 hm ?_) ?_
 ·simp only[go_sem,go_sem_proc];rw[if_neg (by simpa using h0)];refine B8 [] [] ?_;simp only[go_sem,go_sem_proc];exact eE_
 refine C3 [(2, .share, .fptr w.enc),(3, .share, .fptr x.enc),(4, .share, .ptr 80 0 0 1),(5, .share, .ptr 96 0 0 1),(6, .share, .ptr 6 0 0 1),(7, .thaw,A2 14 Row.enc default (sol w x).1),(8, .thaw,A2 5 SolverBody.enc default (sol w x).2)] (B2w w (w.Bodies) (w.Joints) (w.Contacts)++A2l w x (vB w x x.Bodies.length) (S0 w x) (cRA w x x.Contacts.length).1 (cRA w x x.Contacts.length).2) (E0 hm ?_) ?_
 ·simp only[go_sem,go_sem_proc];refine K0 ev_ K8 hV ?_;simp only[go_sem,go_sem_proc,World.zero];refine B8 [] [] ?_;simp only[go_sem,go_sem_proc];exact eE_
 refine C3 [(2, .share, .fptr w.enc),(3, .share, .fptr x.enc),(4, .share, .ptr 80 0 0 1),(5, .share, .ptr 96 0 0 1),(6, .share, .ptr 6 0 0 1),(7, .share,A2 14 Row.enc default (sol w x).1),(8, .share,A2 5 SolverBody.enc default (sol w x).2)] (B2w w (A6u w x ((H3 w x).length)) (w.Joints) (w.Contacts)++A2l w x (vB w x x.Bodies.length) (S0 w x) (cRA w x x.Contacts.length).1 (cRA w x x.Contacts.length).2) (C3 [(2, .share, .fptr w.enc),(3, .share, .fptr x.enc),(4, .share, .ptr 80 0 0 1),(5, .share, .ptr 96 0 0 1),(6, .share, .ptr 6 0 0 1),(7, .share,A2 14 Row.enc default (sol w x).1),(8, .share,A2 5 SolverBody.enc default (sol w x).2),(62, .share,A2 1 B9 0 (H3 w x)),(63, .share,sI ((H3 w x).length)),(64, .share,sI (0:Nat))] (B2w w (A6u w x (0)) (w.Joints) (w.Contacts)++A2l w x (vB w x x.Bodies.length) (S0 w x) (cRA w x x.Contacts.length).1 (cRA w x x.Contacts.length).2) (E0 hm ?_) (A29 ?_)) ?_
 ·rw[show A6u w x 0=w.Bodies from rfl];simp only[go_sem,go_sem_proc];refine B8 [] [] ?_;simp only[go_sem,go_sem_proc];exact eE_
 ·refine A9 hm (ι:= {k:Nat // k<=(H3 w x).length}) (λk=> [(2, .share, .fptr w.enc),(3, .share, .fptr x.enc),(4, .share, .ptr 80 0 0 1),(5, .share, .ptr 96 0 0 1),(6, .share, .ptr 6 0 0 1),(7, .share,A2 14 Row.enc default (sol w x).1),(8, .share,A2 5 SolverBody.enc default (sol w x).2),(62, .share,A2 1 B9 0 (H3 w x)),(63, .share,sI ((H3 w x).length)),(64, .share,sI (k.1:Nat))]) (λk=>B2w w (A6u w x (k.1)) (w.Joints) (w.Contacts)++A2l w x (vB w x x.Bodies.length) (S0 w x) (cRA w x x.Contacts.length).1 (cRA w x x.Contacts.length).2) (λk=>(H3 w x).length-k.1) ⟨0,Nat.zero_le _⟩ ?_ ?_
  ·refine B8 [] [] ?_;simp only[go_sem,go_sem_proc];exact eE_
  ·rintro⟨k,hk⟩;dsimp only;have hn:A6u w x (k+1)=_:=E4 ..
   have hl:=E4p w x k
   have hfin:(H3 w x).length<=k->A6u w x k=A6u w x (H3 w x).length:=λh=>by rw[show k=(H3 w x).length by omega]
   rw[show itr _ k w.Bodies=A6u w x k from rfl]at hn;generalize A6u w x k=B at hn hl hfin⊢;by_cases hlt:k<(H3 w x).length;rotate_left
   ·simp only[go_sem,go_sem_proc];rw[if_neg (by omega),<-hfin (by omega)];refine B8 [] [] ?_;simp only[go_sem,go_sem_proc];exact eE_
   have hi:=hbl _ (B6 (l:=H3 w x) (i:=k) 0 hlt);simp only[go_sem,go_sem_proc];rw[if_pos (by omega)];generalize(H3 w x).getD k 0=i at hn hi⊢;refine⟨bE_,?_⟩;obtain⟨q,hq⟩:=D9b x.Bodies i hx1 a1'.1;refine A0 hq rfl ?_;simp only[go_sem,go_sem_proc];refine⟨λ_=>⟨hl.symm,by omega⟩,λ_=>hl.symm,?_⟩;by_cases hc:(x.Bodies.contains i&&(B.getD i.toNat default).Kind==3)=true;rotate_left
   ·rw[if_neg hc]at hn⊢;refine A7 ⟨k+1,by omega⟩ (by show(H3 w x).length-(k+1)<(H3 w x).length-k;omega) ?_;simp only[hn];refine B8 [] [] ?_;simp only[go_sem,go_sem_proc];exact eE_
   rw[if_pos hc]at hn⊢;refine⟨⟨hi.1,by rw[B4a];exact hi.2⟩,?_⟩;have hbm:=E2v hw x x.Bodies.length _ (B6 (l:=vB w x x.Bodies.length) (i:=i.toNat) default (by rw[B4a];omega));unfold G18 at hn;generalize(vB w x x.Bodies.length).getD i.toNat default=b at hn hbm⊢;refine A0 (A7s b hbm) rfl ?_;simp only[go_sem,go_sem_proc];refine⟨bE_,bE_,?_⟩;refine A0 (A8j {b with Velocity:=((sol w x).2.getD k default).Velocity,AngularVelocity:=((sol w x).2.getD k default).AngularVelocity}) rfl ?_;simp only[go_sem,go_sem_proc];refine⟨⟨hl.symm,by omega⟩,hl.symm,?_⟩;refine A7 ⟨k+1,by omega⟩ (by show(H3 w x).length-(k+1)<(H3 w x).length-k;omega) ?_;simp only[hn];refine B8 [] [] ?_;simp only[go_sem,go_sem_proc]
   (repeat' (with_reducible apply And.intro)) <;> first |exact A2k _ (by omega) rfl rfl |exact eE_
 refine C3 [(2, .share, .fptr w.enc),(3, .share, .fptr x.enc),(4, .share, .ptr 80 0 0 1),(5, .share, .ptr 96 0 0 1),(6, .share, .ptr 6 0 0 1),(7, .share,A2 14 Row.enc default (sol w x).1),(8, .share,A2 5 SolverBody.enc default (sol w x).2)] (B2w w (A6u w x (H3 w x).length) (A9r w x (x.Joints.length)) (w.Contacts)++A2l w x (vB w x x.Bodies.length) (S0 w x) (cRA w x x.Contacts.length).1 (cRA w x x.Contacts.length).2) (C3 [(2, .share, .fptr w.enc),(3, .share, .fptr x.enc),(4, .share, .ptr 80 0 0 1),(5, .share, .ptr 96 0 0 1),(6, .share, .ptr 6 0 0 1),(7, .share,A2 14 Row.enc default (sol w x).1),(8, .share,A2 5 SolverBody.enc default (sol w x).2),(114, .share,A2 1 B9 0 x.Joints),(115, .share,sI x.Joints.length),(116, .share,sI (0:Nat))] (B2w w (A6u w x (H3 w x).length) (A9r w x (0)) (w.Contacts)++A2l w x (vB w x x.Bodies.length) (S0 w x) (cRA w x x.Contacts.length).1 (cRA w x x.Contacts.length).2) (E0 hm ?_) (A29 ?_)) ?_
 ·rw[show A9r w x 0=w.Joints from rfl];simp only[go_sem,go_sem_proc];refine B8 [] [] ?_;simp only[go_sem,go_sem_proc];exact eE_
 ·refine A9 hm (ι:= {k:Nat // k<=x.Joints.length}) (λk=> [(2, .share, .fptr w.enc),(3, .share, .fptr x.enc),(4, .share, .ptr 80 0 0 1),(5, .share, .ptr 96 0 0 1),(6, .share, .ptr 6 0 0 1),(7, .share,A2 14 Row.enc default (sol w x).1),(8, .share,A2 5 SolverBody.enc default (sol w x).2),(114, .share,A2 1 B9 0 x.Joints),(115, .share,sI x.Joints.length),(116, .share,sI (k.1:Nat))]) (λk=>B2w w (A6u w x (H3 w x).length) (A9r w x (k.1)) (w.Contacts)++A2l w x (vB w x x.Bodies.length) (S0 w x) (cRA w x x.Contacts.length).1 (cRA w x x.Contacts.length).2) (λk=>x.Joints.length-k.1) ⟨0,Nat.zero_le _⟩ ?_ ?_
  ·refine B8 [] [] ?_;simp only[go_sem,go_sem_proc];exact eE_
  ·rintro⟨k,hk⟩;dsimp only;have hn:A9r w x (k+1)=_:=E4 ..
   have hl:=C4s w x k
   have hfin:x.Joints.length<=k->A9r w x k=A9r w x x.Joints.length:=λh=>by rw[show k=x.Joints.length by omega]
   rw[show itr _ k w.Joints=A9r w x k from rfl]at hn;generalize A9r w x k=J at hn hl hfin⊢;by_cases hlt:k<x.Joints.length;rotate_left
   ·simp only[go_sem,go_sem_proc];rw[if_neg (by omega),<-hfin (by omega)];refine B8 [] [] ?_;simp only[go_sem,go_sem_proc];exact eE_
   have hi:=hJx _ (B6 (l:=x.Joints) (i:=k) 0 hlt)
   have hb0:=hbase _ (B6 (l:=(cRA w x x.Contacts.length).2) (i:=k) 0 (by omega));simp only[go_sem,go_sem_proc];rw[if_pos (by omega)];generalize x.Joints.getD k 0=i at hn hi⊢;refine⟨bE_,hi,?_⟩;unfold G0y at hn;generalize w.Joints.getD i.toNat default=j at hn⊢;have hF:=λid=>C4w w x (vB w x x.Bodies.length) (S0 w x) (cRA w x x.Contacts.length).1 (cRA w x x.Contacts.length).2 id (by rw[B4a];exact hbl) (by omega)
   have hsa:=D05 hw x j.BodyA
   have hsb:=D05 hw x j.BodyB;unfold fB at hn hsa hsb;refine E6 (hF j.BodyA) C4b C4b (by simp[A2l]) (by simp[A2l,pbC,upd,A2,go_sem,go_sem_proc]) (by simp[A2l]) E8t rfl ?_;generalize pfR w x (vB w x x.Bodies.length) j.BodyA=a at hn hsa⊢;simp only[go_sem,go_sem_proc];refine E6 (hF j.BodyB) C4b C4b (by simp[A2l]) (by simp[A2l,pbC,upd,A2,go_sem,go_sem_proc]) (by simp[A2l]) E8t rfl ?_;generalize pfR w x (vB w x x.Bodies.length) j.BodyB=b at hn hsb⊢;simp only[go_sem,go_sem_proc];refine⟨bE_,?_⟩;refine A0 (D2x j a.1 b.1 (sol w x).1 ((cRA w x x.Contacts.length).2.getD k 0) hsa.2 hsb.2 (by omega)) rfl ?_;simp only[go_sem,go_sem_proc];refine⟨⟨hl.symm,by omega⟩,hl.symm,?_⟩;refine A7 ⟨k+1,by omega⟩ (by show x.Joints.length-(k+1)<x.Joints.length-k;omega) ?_;simp only[hn];refine B8 [] [] ?_;simp only[go_sem,go_sem_proc]
   (repeat' (with_reducible apply And.intro)) <;> first |exact A2k _ (by omega) rfl rfl |exact eE_
 refine C3 [(2, .share, .fptr w.enc),(3, .share, .fptr x.enc),(4, .share, .ptr 80 0 0 1),(5, .share, .ptr 96 0 0 1),(6, .share, .ptr 6 0 0 1),(7, .share,A2 14 Row.enc default (sol w x).1),(8, .share,A2 5 SolverBody.enc default (sol w x).2)] (B2w w (A6u w x (H3 w x).length) (A9r w x x.Joints.length) (A9t w x (x.Contacts.length))++A2l w x (vB w x x.Bodies.length) (S0 w x) (cRA w x x.Contacts.length).1 (cRA w x x.Contacts.length).2) (C3 [(2, .share, .fptr w.enc),(3, .share, .fptr x.enc),(4, .share, .ptr 80 0 0 1),(5, .share, .ptr 96 0 0 1),(6, .share, .ptr 6 0 0 1),(7, .share,A2 14 Row.enc default (sol w x).1),(8, .share,A2 5 SolverBody.enc default (sol w x).2),(158, .share,A2 1 B9 0 x.Contacts),(159, .share,sI x.Contacts.length),(160, .share,sI (0:Nat))] (B2w w (A6u w x (H3 w x).length) (A9r w x x.Joints.length) (A9t w x (0))++A2l w x (vB w x x.Bodies.length) (S0 w x) (cRA w x x.Contacts.length).1 (cRA w x x.Contacts.length).2) (E0 hm ?_) (A29 ?_)) ?_
 ·rw[show A9t w x 0=w.Contacts from rfl];simp only[go_sem,go_sem_proc];refine B8 [] [] ?_;simp only[go_sem,go_sem_proc];exact eE_
 ·refine A9 hm (ι:= {k:Nat // k<=x.Contacts.length}) (λk=> [(2, .share, .fptr w.enc),(3, .share, .fptr x.enc),(4, .share, .ptr 80 0 0 1),(5, .share, .ptr 96 0 0 1),(6, .share, .ptr 6 0 0 1),(7, .share,A2 14 Row.enc default (sol w x).1),(8, .share,A2 5 SolverBody.enc default (sol w x).2),(158, .share,A2 1 B9 0 x.Contacts),(159, .share,sI x.Contacts.length),(160, .share,sI (k.1:Nat))]) (λk=>B2w w (A6u w x (H3 w x).length) (A9r w x x.Joints.length) (A9t w x (k.1))++A2l w x (vB w x x.Bodies.length) (S0 w x) (cRA w x x.Contacts.length).1 (cRA w x x.Contacts.length).2) (λk=>x.Contacts.length-k.1) ⟨0,Nat.zero_le _⟩ ?_ ?_
  ·refine B8 [] [] ?_;simp only[go_sem,go_sem_proc];exact eE_
  ·rintro⟨k,hk⟩;dsimp only;have hn:A9t w x (k+1)=_:=E4 ..
   have hl:=C46 w x k
   have hfin:x.Contacts.length<=k->A9t w x k=A9t w x x.Contacts.length:=λh=>by rw[show k=x.Contacts.length by omega]
   rw[show itr _ k w.Contacts=A9t w x k from rfl]at hn;generalize A9t w x k=C at hn hl hfin⊢;by_cases hlt:k<x.Contacts.length;rotate_left
   ·simp only[go_sem,go_sem_proc];rw[if_neg (by omega),<-hfin (by omega)];refine B8 [] [] ?_;simp only[go_sem,go_sem_proc];exact eE_
   have hi:=hCx _ (B6 (l:=x.Contacts) (i:=k) 0 hlt)
   have hb0:=hbase _ (B6 (l:=(cRA w x x.Contacts.length).2) (i:=x.Joints.length+k) 0 (by omega));simp only[go_sem,go_sem_proc];rw[if_pos (by omega)];generalize x.Contacts.getD k 0=i at hn hi⊢;have hpt:=hP _ (B6 (l:=w.Contacts) (i:=i.toNat) default (by omega));generalize w.Contacts.getD i.toNat default=c at hn hpt⊢;have hw1:IntKind.i64.wrap ((x.Joints.length:Int)+(k:Nat))=((x.Joints.length+k:Nat):Int):=by rw[D65 (by omega) (by omega)];omega
   simp only[hw1,Int.toNat_natCast];refine⟨bE_,hi,bE_,?_⟩;refine A0 (C7c c (sol w x).1 ((cRA w x x.Contacts.length).2.getD (x.Joints.length+k) 0) (by omega) (by omega)) rfl ?_;simp only[go_sem,go_sem_proc];refine⟨⟨hl.symm,by omega⟩,hl.symm,?_⟩;refine A7 ⟨k+1,by omega⟩ (by show x.Contacts.length-(k+1)<x.Contacts.length-k;omega) ?_;simp only[hn];refine B8 [] [] ?_;simp only[go_sem,go_sem_proc]
   (repeat' (with_reducible apply And.intro)) <;> first |exact A2k _ (by omega) rfl rfl |exact eE_
 refine E0 hm ?_;have hq1:=E4p w x (H3 w x).length
 have hq2:=C4s w x x.Joints.length
 have hq3:=C46 w x x.Contacts.length;simp only[go_sem,go_sem_proc];rw[hq1,hq2,hq3];exact⟨⟨rfl,rfl,rfl⟩,I7 _,I7 _,I7 _⟩
theorem C9w(w:Api.World)(x:B0)(hw:Wsm w)(hx:Ism x)(hP:F1 w=0-> ∀c∈w.Contacts,c.Manifold.Points.length<=2)(hJ:w.Joints.length<=20000)(hC:w.Contacts.length<=230400):A1 Tryz.prog A36 [.agg w.enc, .agg x.enc] [] (.agg (D5i w x).enc) []:=by
 unfold D5i;by_cases ha:A6p w x (A0v w x)=false
 ·rw[if_pos ha];exact D6r w x hw hx ha
 rw[if_neg ha];have ha:=Bool.not_eq_false _▸ha;by_cases hp:pOk w x;rotate_left
 ·rw[if_pos (.inl hp)];exact D6f w x hw hx ha hp
 have hP:=hP hp.1;by_cases h0:(S0 w x).length=0
 ·rw[if_pos (.inr h0)];exact D6s w x hw hx ha hp h0 hP
 rw[if_neg (λh=>h.elim (λh=>h hp) h0)];refine D6w w x hw hx ha hp h0 hP ?_;have h1:=D11 w x hP (B9d hp.2.2.1) x.Contacts.length (Nat.le_refl _)
 have h2:=(D3u hp.2.2.1).2
 have h3:=(D3u hp.2.2.2).2;omega
def D1b(e:Int×Int):List AV:= [sI e.1,sI e.2,sI 0,sI 0,sI 0]
attribute [go_sem] D1b
def wkB(b:Body):Body:= {b with Asleep:=false,IdleSteps:=0}
def B0h(s:List Body×List (Int×Int))(i:Int):List Body×List (Int×Int):=if(s.1.getD i.toNat default).Asleep=true then(s.1.set i.toNat (wkB (s.1.getD i.toNat default)),s.2++ [(7,(s.1.getD i.toNat default).ID)])else s
def wkF(w:Api.World)(l:List Int):List Body×List (Int×Int):=l.foldl B0h (w.Bodies,[])
theorem G0j(w:Api.World):wkF w []=(w.Bodies,[]):=rfl
theorem E30 {w:Api.World}{l:List Int}{k:Nat}(h:k<l.length):wkF w (l.take (k+1))=B0h (wkF w (l.take k)) (l.getD k 0):=by unfold wkF;rw[K9 0 h];simp
theorem E9n(s:List Body×List (Int×Int))(i:Int):(B0h s i).1.length=s.1.length/\(B0h s i).2.length<=s.2.length+1:=by unfold B0h;split <;> simp
theorem E9i(w:Api.World)(l:List Int):(wkF w l).1.length=w.Bodies.length/\(wkF w l).2.length<=l.length:=by
 have: ∀(l:List Int) (s:List Body×List (Int×Int)),(l.foldl B0h s).1.length=s.1.length/\(l.foldl B0h s).2.length<=s.2.length+l.length:=by
  intro l;induction l with
  |nil=>intro s;simp
  |cons a l ih=>intro s;have h1:=ih (B0h s a);have h2:=E9n s a;simp only[List.foldl_cons,List.length_cons];omega
 have:=this l (w.Bodies,[]);simpa[wkF]using this
def U1(w:Api.World)(bs:List Body):Api.World:= {w with Bodies:=bs}
def G3n(k:Nat)(e:List (Int×Int)):List (Nat×A5):= [(k, .arr 5 (A8 D1b default e))]
attribute [go_sem] G3n U1
def E2s(w:Api.World)(bs:List Body)(x:B0)(l:List Int):List (Nat×A5):= [(6, .box (E35 w x l.length)),(5, .arr 1 (A8 B9 0 l)),(1, .arr 20 (A8 Body.enc default bs)),(2, .arr 24 (A8 Joint.enc default w.Joints)),(3, .arr 7 (A8 Contact.enc default w.Contacts)),(4, .arr 4 (A8 PairKey.enc default w.Overlaps))]
attribute [go_sem] E2s
def wkR(w:Api.World)(x:B0):List Body×List (Int×Int):=if A6p w x (A0v w x)=true then wkF w (A0v w x)else(w.Bodies,[])
def upF(w:Api.World)(l:List Int):List Body:=l.foldl (λbs i=>bs.set i.toNat (B27 (bs.getD i.toNat default))) w.Bodies
theorem G0h(w:Api.World):upF w []=w.Bodies:=rfl
theorem F5j {w:Api.World}{l:List Int}{k:Nat}(h:k<l.length):upF w (l.take (k+1))=(upF w (l.take k)).set (l.getD k 0).toNat (B27 ((upF w (l.take k)).getD (l.getD k 0).toNat default)):=by unfold upF;rw[K9 0 h];simp
theorem E82(w:Api.World)(l:List Int):(upF w l).length=w.Bodies.length:=by
 have: ∀(l:List Int) (s:List Body),(l.foldl (λbs i=>bs.set i.toNat (B27 (bs.getD i.toNat default))) s).length=s.length:=by
  intro l;induction l with
  |nil=>intro s;rfl
  |cons a l ih=>intro s;rw[List.foldl_cons,ih];simp
 exact this l w.Bodies
theorem E6u {α:Type}(l:List α)(k:Nat)(d:α):l.getD k d∈l\/l.getD k d=d:=by
 by_cases h:k<l.length
 ·exact .inl (B6 d h)
 ·right;simp[List.getD,Nat.le_of_not_lt h]
theorem G2t {w:Api.World}(hw:Wsm w)(l:List Int):Wsm (U1 w (upF w l)):=by
 obtain⟨w1,w2,w3,w4,w5,w6⟩:=hw;have hd:Body.sm default:=⟨by decide,λf hf=>by cases hf⟩
 have: ∀(l:List Int) (s:List Body),(∀b∈s,Body.sm b)-> ∀b∈l.foldl (λbs i=>bs.set i.toNat (B27 (bs.getD i.toNat default))) s,Body.sm b:=by
  intro l;induction l with
  |nil=>exact λs h=>h
  |cons a l ih=>
   intro s h;refine ih _ λb hb=> ?_;rcases List.mem_or_eq_of_mem_set hb with h1 |rfl
   ·exact h b h1
   ·show Body.sm (s.getD a.toNat default);rcases E6u s a.toNat default with h2 |h2
    ·exact h _ h2
    ·rw[h2];exact hd
 refine⟨?_,w2,w3,w4,this l _ w5,w6⟩;show(upF w l).length<=_;rw[E82];exact w1
def F5o(b:Body):Body:= {b with Asleep:=true,Velocity:=⟨0,0⟩,AngularVelocity:=0}
def B4l(s:List Body×List (Int×Int))(i:Int):List Body×List (Int×Int):=(s.1.set i.toNat (F5o (s.1.getD i.toNat default)),s.2++ [(6,(s.1.getD i.toNat default).ID)])
def slF(bs:List Body)(l:List Int):List Body×List (Int×Int):=l.foldl B4l (bs,[])
theorem F9c(bs:List Body):slF bs []=(bs,[]):=rfl
theorem F62 {bs:List Body}{l:List Int}{k:Nat}(h:k<l.length):slF bs (l.take (k+1))=B4l (slF bs (l.take k)) (l.getD k 0):=by unfold slF;rw[K9 0 h];simp
theorem E79(bs:List Body)(l:List Int):(slF bs l).1.length=bs.length/\(slF bs l).2.length<=l.length:=by
 have: ∀(l:List Int) (s:List Body×List (Int×Int)),(l.foldl B4l s).1.length=s.1.length/\(l.foldl B4l s).2.length<=s.2.length+l.length:=by
  intro l;induction l with
  |nil=>intro s;simp
  |cons a l ih=>intro s;have h1:=ih (B4l s a);simp only[B4l,List.length_set,List.length_append,List.length_singleton]at h1;simp only[List.foldl_cons,List.length_cons,B4l];omega
 have:=this l (bs,[]);simpa[slF]using this
def B0f(w:Api.World)(x:B0)(l:List Int):Bool:=!(decide (w.Settings.SleepSteps<=0))&& !(decide (l.length=0))&& !(l.any λi=>decide ((B37 (U1 w (upF w l)) i).IdleSteps<w.Settings.SleepSteps))&& !(B5i (U1 w (upF w l)) x)
def B4e(w:Api.World)(x:B0):List Body×List (Int×Int):=if A6p w x (A0v w x)=true then(if B0f w x (A0v w x)=true then slF (upF w (A0v w x)) (A0v w x)else(upF w (A0v w x),[]))else(w.Bodies,[])
def eB(g:Body->Body)(l:List Body)(i:Nat):List Body:=(l.take i).map g++l.drop i
theorem G2a(g:Body->Body)(l:List Body)(i:Nat):(eB g l i).length=l.length:=by simp[eB];omega
theorem G3k(g:Body->Body){l:List Body}{i:Nat}(h:i<l.length):(eB g l i).getD i default=l.getD i default:=by
 unfold eB;have hq:((l.take i).map g).length=i:=by simp;omega
 simp only[List.getD];rw[List.getElem?_append_right (by omega),hq,Nat.sub_self,List.getElem?_drop,Nat.add_zero]
theorem G11(g:Body->Body){l:List Body}{i:Nat}(h:i<l.length):eB g l (i+1)=(eB g l i).set i (g (l.getD i default)):=by
 unfold eB;have hq:((l.take i).map g).length=i:=by simp;omega
 rw[K9 default h,List.map_append,List.map_singleton,List.set_append_right _ _ (by omega),hq,Nat.sub_self,List.append_assoc];congr 1;rw[List.drop_eq_getElem_cons h];rfl
theorem D3g(w:Api.World)(hw:Wsm w)(f:FuncId)(cap:List AV)(g:Body->Body)(h2:F4 cap= [])(hr: ∀ρ,A7v ρ cap=cap)
  (hp: ∀b∈w.Bodies,A1 Tryz.prog f (.agg b.enc::cap) [] (.agg (g b).enc) []):
  A1 Tryz.prog E6y [.agg w.enc, .fn (.func f) [] cap] [] (.agg (U1 w (w.Bodies.map g)).enc) []:=by
 have hbn:=hw.1;refine L5 26 [(4,some (some 11))] hm A4 Tryz.func114 rfl ?_;simp only[go_sem,go_sem_proc];refine K0 ev_ K8 (A51 w hw) ?_;simp only[go_sem,go_sem_proc];refine A9 hm (ι:= {i:Nat // i<=w.Bodies.length}) (λi=> [(1, .share, .fn (.func f) [] cap),(2, .share, .ptr 48 0 0 1),(4, .share, .ptr 80 0 0 1),(10, .share, .sl 1 0 w.Bodies.length w.Bodies.length),(11, .share,sI w.Bodies.length),(12, .share,sI (i.1:Nat))]) (λi=> [(48, .box [sI w.Settings.TimeStep,sI w.Settings.Gravity.X,sI w.Settings.Gravity.Y,sI w.Settings.Iterations,sI w.Settings.SleepSteps, .sl 1 0 w.Bodies.length w.Bodies.length, .sl 2 0 w.Joints.length w.Joints.length, .sl 3 0 w.Contacts.length w.Contacts.length, .sl 4 0 w.Overlaps.length w.Overlaps.length,sI w.NextID,sI w.Frame]),(80, .box World.zero),(1, .arr 20 (A8 Body.enc default (eB g w.Bodies i.1))),(2, .arr 24 (A8 Joint.enc default w.Joints)),(3, .arr 7 (A8 Contact.enc default w.Contacts)),(4, .arr 4 (A8 PairKey.enc default w.Overlaps))]) (λi=>w.Bodies.length-i.1) ⟨0,Nat.zero_le _⟩ ?_ ?_
 ·rw[show eB g w.Bodies 0=w.Bodies from rfl];simp only[World.zero];refine B8 [(1,144),(2,145),(3,146),(4,147)] [] ?_;simp only[go_sem,go_sem_proc];exact⟨by rw[hr],λi hi=>by rw[h2]at hi;cases hi⟩
 ·rintro⟨k,hk⟩;dsimp only;have hn:=λh=>G11 g (l:=w.Bodies) (i:=k) h
  have hat:=λh=>G3k g (l:=w.Bodies) (i:=k) h
  have hl:=G2a g w.Bodies k
  have hfin:w.Bodies.length<=k->eB g w.Bodies k=w.Bodies.map g:=λh=>by simp[eB,show k=w.Bodies.length by omega]
  generalize eB g w.Bodies k=B at hn hat hl hfin⊢;simp only[go_sem,go_sem_proc];by_cases hlt:k<w.Bodies.length;rotate_left
  ·rw[if_neg (by omega),hfin (by omega),List.length_map];exact⟨rfl,I7 _⟩
  rw[if_pos (by omega)];refine⟨⟨hl.symm,by omega⟩,hl.symm,?_⟩;rw[hat hlt];replace hn:=hn hlt;have hx:=hp _ (B6 (l:=w.Bodies) (i:=k) default hlt);generalize w.Bodies.getD k default=b at hn hx⊢;refine B53 hx (by simp[h2,F4,AV.ids]) rfl ?_;simp only[go_sem,go_sem_proc];refine⟨⟨hl.symm,by omega⟩,hl.symm,?_⟩;refine A7 ⟨k+1,by omega⟩ (by show w.Bodies.length-(k+1)<w.Bodies.length-k;omega) ?_;simp only[hn];refine B8 [] [] ?_;simp only[go_sem,go_sem_proc];exact⟨by rw[hr],(λi hi=>by rw[h2]at hi;cases hi),bE_,A2k _ (by omega) rfl rfl⟩
def brk(w:Api.World)(j:Joint):Bool:=A6g j w.Settings.TimeStep
def F55(j:Joint):Api.Event:=⟨5,⟨j.ID,0,0,0⟩⟩
def bkL(w:Api.World)(l:List Joint):List Api.Event:=(l.filter (brk w)).map F55
def bjO(w:Api.World)(e:List Api.Event):List (Nat×A5):= [(8, .box w.enc),(9, .box [.sl 7 0 e.length e.length]),(7, .arr 5 (A8 Api.Event.enc default e))]
attribute [go_sem] bjO
theorem D1z {w:Api.World}{e:List Api.Event}:okO (bjO w e):=by
 refine⟨by simp[bjO],λp hp cs ee j hj=> ?_⟩;simp only[bjO,List.mem_cons,List.not_mem_nil,or_false]at hp;rcases hp with rfl |rfl |rfl
 ·simp only[A5.box.injEq]at ee;subst ee;simp[World.enc,F4,AV.ids,A2]at hj
 ·simp only[A5.box.injEq]at ee;subst ee;simp[F4,AV.ids]at hj;subst hj;rfl
 ·cases ee
theorem D4m {w:Api.World}{l:List Joint}{k:Nat}(h:k<l.length):bkL w (l.take (k+1))=if brk w (l.getD k default)=true then bkL w (l.take k)++ [F55 (l.getD k default)]else bkL w (l.take k):=by
 unfold bkL;rw[K9 default h,List.filter_append,List.map_append];split
 ·rename_i hp;rw[List.filter_cons_of_pos hp];rfl
 ·rename_i hp;rw[List.filter_cons_of_neg hp];simp
theorem D94 {w:Api.World}{l:List Joint}:(bkL w l).length<=l.length:=by unfold bkL;rw[List.length_map];exact List.length_filter_le ..
theorem E48 {w:Api.World}{l:List Joint}{k:Nat}(h: ∀j,j<k->brk w (l.getD j default)=false)(hk:k<=l.length):bkL w (l.take k)= []:=by
 induction k with
 |zero=>rfl
 |succ k ih=>rw[D4m (by omega),if_neg (by rw[h k (by omega)];simp),ih (λj hj=>h j (by omega)) (by omega)]
theorem E8o(w:Api.World)(j:Joint)(e:List Api.Event)(he:e.length<=4194304):
  A1 Tryz.prog A00 [.agg j.enc, .ptr 8 0 0 1, .ptr 9 0 0 1] (bjO w e) (sB (brk w j)) (bjO w (if brk w j=true then e++ [F55 j]else e)):=by
 refine H8 hm A4 Tryz.func203 rfl rfl ?_;simp only[go_sem,go_sem_proc];refine A0 (D0y j w.Settings.TimeStep) rfl ?_;rw[show A6g j w.Settings.TimeStep=brk w j from rfl];generalize brk w j=p;simp only[go_sem,go_sem_proc];cases p with
 |false=>rw[if_neg (by simp),if_neg (by simp)];refine V3 [.share] [] [] ?_;simp only[go_sem,go_sem_proc]
 |true=>rw[if_pos rfl,if_pos rfl];refine⟨bE_,?_⟩;refine V3 [.share] [] [] ?_;simp only[go_sem,go_sem_proc];exact eE_
theorem F24 {w:Api.World}{e:List Api.Event}{j:Joint}: ∀a∈ [AV.agg j.enc, .ptr 8 0 0 1, .ptr 9 0 0 1],∀i∈a.ids,(ofL (bjO w e) i).isSome:=by
 intro a ha i hi;simp only[List.mem_cons,List.not_mem_nil,or_false]at ha;rcases ha with rfl |rfl |rfl
 ·simp[AV.ids,Joint.enc,F4]at hi
 ·simp[AV.ids]at hi;subst hi;rfl
 ·simp[AV.ids]at hi;subst hi;rfl
def dfO(w:Api.World)(l:List Joint)(e:List Api.Event):List (Nat×A5):=(1, .arr 24 (A8 Joint.enc default l))::bjO w e
attribute [go_sem] dfO
theorem E81 {w:Api.World}{l:List Joint}{e:List Api.Event}:okO (dfO w l e):=by
 refine⟨by simp[dfO,bjO],λp hp cs ee j hj=> ?_⟩;simp only[dfO,bjO,List.mem_cons,List.not_mem_nil,or_false]at hp;rcases hp with rfl |rfl |rfl |rfl
 ·cases ee
 ·simp only[A5.box.injEq]at ee;subst ee;simp[World.enc,F4,AV.ids,A2]at hj
 ·simp only[A5.box.injEq]at ee;subst ee;simp[F4,AV.ids]at hj;subst hj;rfl
 ·cases ee
theorem B6d(w:Api.World)(l:List Joint)(hl:l.length<=4000000):
  A1 Tryz.prog A95 [.sl 1 0 l.length l.length, .fn (.func A00) [] [.ptr 8 0 0 1, .ptr 9 0 0 1]] (dfO w l []) (sI (A41 default (brk w) l)) (dfO w l (bkL w (if A41 default (brk w) l= -1 then l else l.take (A41 default (brk w) l+1).toNat))):=by
 refine H8 hm A4 Tryz.func333 rfl rfl ?_;simp only[go_sem,go_sem_proc];refine A9 hm (ι:= {i:Nat // i<=l.length/\ ∀j,j<i->brk w (l.getD j default)=false}) (λi=> [(0, .share, .sl 1 0 l.length l.length),(1, .share, .fn (.func A00) [] [.ptr 8 0 0 1, .ptr 9 0 0 1]),(7, .share,sI l.length),(8, .share,sI i.1)])
  (λi=>dfO w l []) (λi=>l.length-i.1) ⟨0,by omega,λj hj=>by omega⟩ ?_ ?_
 ·refine B8 [] [] ?_;simp only[go_sem,go_sem_proc]
 ·rintro⟨i,hi,hs⟩;simp only[go_sem,go_sem_proc];split
  ·rename_i hlt;have hlt:i<l.length:=by omega
   refine⟨⟨by omega,by omega⟩,?_⟩;have hx:=E8o w (l.getD i default) [] (by simp)
   have hb:=D4m (w:=w) (l:=l) hlt;rw[E48 hs (by omega)]at hb;rw[<-hb]at hx;refine E6 hx D1z D1z (by simp[bjO]) (by simp[bjO,World.enc,upd,A2,go_sem,go_sem_proc]) (by simp[bjO]) F24 rfl ?_;simp only[go_sem,go_sem_proc];cases hpx:brk w (l.getD i default)with
   |true=>rw[if_pos rfl,A82 hlt hs hpx,if_neg (by omega),show((i:Int)+1).toNat=i+1 by omega];refine V3 [.share] [] [] ?_;simp only[go_sem,go_sem_proc]
   |false=>rw[hpx,if_neg (by simp)]at hb;rw[if_neg (by simp),hb];refine A7 ⟨i+1,by omega,λj hj=>by rcases Nat.lt_succ_iff_lt_or_eq.1 hj with h |rfl;exact hs j h;exact hpx⟩ (by show l.length-(i+1)<l.length-i;omega) ?_;refine B8 [] [] ?_;simp only[go_sem,go_sem_proc];exact eE_
  ·rename_i hge;rw[A4b λj hj=>hs j (by omega),if_pos rfl];have hb:=E48 (w:=w) (l:=l) hs (by omega);rw[show i=l.length by omega,List.take_length]at hb;rw[hb];refine V3 [.share] [] [] ?_;simp only[go_sem,go_sem_proc]
theorem G1x {w:Api.World}{l:List Joint}{e:List Api.Event}: ∀a∈ [AV.sl 1 0 l.length l.length, .fn (.func A00) [] [.ptr 8 0 0 1, .ptr 9 0 0 1]],∀i∈a.ids,(ofL (dfO w l e) i).isSome:=by
 intro a ha i hi;simp only[List.mem_cons,List.not_mem_nil,or_false]at ha;rcases ha with rfl |rfl
 ·simp[AV.ids]at hi;subst hi;rfl
 ·simp[AV.ids,F4]at hi;rcases hi with rfl |rfl <;> rfl
theorem B5c(w:Api.World)(l:List Joint)(hl:l.length<=4000000):
  A1 Tryz.prog B8f [.sl 1 0 l.length l.length, .fn (.func A00) [] [.ptr 8 0 0 1, .ptr 9 0 0 1]] (dfO w l []) (.sl 1 0 (dfR default (brk w) l l.length).1 l.length) ((1, .arr 24 (dfQ Joint.enc default (brk w) l F39))::bjO w (bkL w l)):=by
 refine H8 hm A4 Tryz.func202 rfl rfl ?_;simp only[go_sem,go_sem_proc];refine E6 (B6d w l hl) E81 E81 (by simp[dfO,bjO]) (by simp[dfO,bjO,World.enc,upd,A2,go_sem,go_sem_proc]) (by simp[dfO,bjO]) G1x rfl ?_;simp only[go_sem,go_sem_proc];rcases D70 (d:=default) (p:=brk w) (l:=l)with⟨e,h0⟩ |⟨i0,hi0,e,hp0,hs0⟩
 ·rw[e,if_pos (by decide),E53 h0,B5s l.length (Nat.le_refl _) h0,if_pos rfl];refine V3 [.share] [] [] ?_;simp only[go_sem,go_sem_proc]
 rw[e,if_neg (by simp),if_neg (by omega),show((i0:Int)+1).toNat=i0+1 by omega];refine A9 hm (ι:= {j:Nat // j<=l.length}) (λj=> [(0, .share, .sl 1 0 l.length l.length),(1, .share, .fn (.func A00) [] [.ptr 8 0 0 1, .ptr 9 0 0 1]),(5, .share,sI ((dfR default (brk w) l j.1).1)),(6, .share,sI j.1)])
  (λj=>dfO w (dfR default (brk w) l j.1).2 (bkL w (l.take j.1))) (λj=>l.length-j.1) ⟨i0+1,hi0⟩ ?_ ?_
 ·have e1:dfR default (brk w) l (i0+1)=(i0,l):=by
   rw[dfR,B5s i0 (by omega) hs0];unfold B4q;rw[if_pos hp0]
  rw[e1];refine B8 [] [] ?_;simp only[go_sem,go_sem_proc];exact eE_
 ·rintro⟨j,hj⟩;obtain⟨g1,g2,g3,g4⟩:=B8l (d:=default) (p:=brk w) (l:=l) j hj;dsimp only;have hnext:=λhjl:j<l.length=>(show dfR default (brk w) l (j+1)=B4q default (brk w) j (dfR default (brk w) l j)from rfl);generalize hst:dfR default (brk w) l j=st at g1 g2 g3 g4 hnext⊢;obtain⟨i,m⟩:=st;dsimp only at g1 g2 g3 g4 hnext⊢;simp only[go_sem,go_sem_proc];split
  ·rename_i hlt;have hlt:j<l.length:=by omega
   have hgj:=g3 j (Nat.le_refl j)
   have hn:=hnext hlt;simp only[hgj];refine⟨⟨g2.symm,by omega,by omega⟩,g2.symm,?_⟩;have hbl:(bkL w (l.take j)).length<=4194304:=by
    have h1:=D94 (w:=w) (l:=l.take j)
    have h2:(l.take j).length<=l.length:=by rw[List.length_take];omega
    omega
   have hx:=E8o w (l.getD j default) (bkL w (l.take j)) hbl
   have hb:=D4m (w:=w) (l:=l) hlt;rw[<-hb]at hx;refine E6 hx D1z D1z (by simp[bjO]) (by simp[bjO,World.enc,upd,A2,go_sem,go_sem_proc]) (by simp[bjO]) F24 rfl ?_;simp only[go_sem,go_sem_proc];unfold B4q at hn;dsimp only at hn;rw[hgj]at hn;cases hpx:brk w (l.getD j default)with
   |true=>rw[hpx,if_pos rfl]at hn;rw[if_neg (by simp)];refine A7 ⟨j+1,hlt⟩ (by show l.length-(j+1)<l.length-j;omega) ?_;simp only[hn];refine B8 [] [] ?_;simp only[go_sem,go_sem_proc];exact eE_
   |false=>rw[hpx,if_neg (by simp)]at hn;rw[if_pos rfl];refine⟨⟨g2.symm,by omega,by omega⟩,g2.symm,?_⟩;refine A7 ⟨j+1,hlt⟩ (by show l.length-(j+1)<l.length-j;omega) ?_;simp only[hn];rw[B1l (l.getD j default) (by omega) (by rw[<-hgj];rfl)];refine B8 [] [] ?_;simp only[go_sem,go_sem_proc];exact eE_
  ·rename_i hge;obtain rfl:j=l.length:=by omega
   have e1:((l.length:Int)-(i:Int)).toNat=l.length-i:=by omega
   have e2:((i:Int)-0).toNat=i:=by omega
   rw[e1,e2,List.take_length];refine⟨⟨g2.symm,by omega,by omega,by omega⟩,g2.symm,⟨g2.symm,by omega,by omega,by omega⟩,?_⟩;unfold dfQ;rw[hst];refine V3 [.share] [] [] ?_;simp only[go_sem,go_sem_proc]
   all_goals exact B1e
def bkW(w:Api.World):Api.World:= {w with Joints:=w.Joints.filter λj=> !brk w j}
theorem D0g(w:Api.World)(hw:Wsm w):A1 Tryz.prog C9d [.agg w.enc] [] (.tup [.agg (bkW w).enc,A2 5 Api.Event.enc default (bkL w w.Joints)]) []:=by
 have hjn:w.Joints.length<=1048576:=hw.2.1
 have hD:=B5c w w.Joints (by omega);refine F67 13 [(2,some (some 11)),(3,none)] hm A4 Tryz.func119 rfl ?_;refine C3 [(1, .share, .ptr 8 0 0 1),(2, .share, .ptr 48 0 0 1),(3, .share, .sc (.slice none 0 0))] [(8, .box w.enc),(48, .box World.zero)] (E0 hm ?_) ?_
 ·simp only[go_sem,go_sem_proc,World.zero];refine B8 [(8,32)] [] ?_;simp only[go_sem,go_sem_proc]
 refine C3 [(1, .share, .ptr 8 0 0 1),(2, .share, .ptr 48 0 0 1),(4, .share, .ptr 9 0 0 1)] ([(48, .box World.zero)]++bjO w []) (E0 hm ?_) ?_
 ·simp only[go_sem,go_sem_proc,World.zero];refine B8 [(9,80)] [7] ?_;simp only[go_sem,go_sem_proc]
 refine E0 hm ?_;simp only[go_sem,go_sem_proc];refine K0 ev_ K8 (A8m w.Joints hjn) ?_;simp only[go_sem,go_sem_proc];refine E3 [true,true] [(1,128)] hD (by simp[dfO,bjO]) (by simp[bjO]) (by simp[bjO,A6]) (by simp[dfO,bjO,go_sem]) ?_;simp only[go_sem,go_sem_proc];exact⟨F7a.symm,rfl,rfl,rfl,rfl,rfl,I7 _,F3s rfl λ_=>rfl,I7 _,I7 _,rfl,rfl⟩
end Go.Abs
end
