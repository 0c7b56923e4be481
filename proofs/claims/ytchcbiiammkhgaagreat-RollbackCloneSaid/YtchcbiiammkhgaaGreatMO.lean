/- A part of the proof: contracts of functions that the statement reaches. -/
import Derived.Test.YtchcbiiammkhgaaGreatMN
set_option linter.unusedSimpArgs false
set_option linter.unusedVariables false
set_option linter.unnecessarySimpa false
set_option maxRecDepth 100000
set_option maxHeartbeats 2000000
noncomputable section
namespace Go.Abs
open Go.Proofs
open Api
theorem D5s(id:Int)(k:cR):cA_ 281 [.agg k.enc, .dE [sI id]] [] (sB (k.cU==id||k.cV==id)) []:=by refine en1 hm A6 Tryz.func281 rfl rfl ?_;simp only[go_sem,go_sem_proc]
theorem F45(id:Int)(j:cF):cA_ 285 [.agg j.enc, .dE [sI id]] [] (sB (Y5 j id)) []:=by refine en1 hm A6 Tryz.func285 rfl rfl (st_ ?_);refine A0 (B9d j id) rfl ?_;simp only[go_sem,go_sem_proc]
theorem F46(id:Int)(c:cX):cA_ 287 [.agg c.enc, .dE [.fn (.func 281) [] [.dE [sI id]]]] [] (sB (c.dU.cU==id||c.dU.cV==id)) []:=by refine en1 hm A6 Tryz.func287 rfl rfl (st_ ?_);refine A23 (D5s id c.dU) g_ rfl ?_;simp only[go_sem,go_sem_proc]
theorem D2y {α:Type}{enc:α->List AV}{d:α}{p:α->Bool}{l:List α}{zl:List AV}:(dfQ enc d p l zl).n=l.length:=(B0t (d:=d) (p:=p) (l:=l) l.length (ze _)).2.1
def nbJ(l:List cF)(id:Int)(k:Nat)(s:List Int):List Int:=if Y5 (l.getD k dF_) id=true then s++ [A6g (l.getD k dF_).cU (l.getD k dF_).cV id]else s
def A5p(id:Int)(k:cR):Bool:=k.cU==id||k.cV==id
def nbC(l:List cX)(id:Int)(k:Nat)(s:List Int):List Int:=if A5p id (l.getD k dF_).dU=true then s++ [A6g (l.getD k dF_).dU.cU (l.getD k dF_).dU.cV id]else s
theorem D5f(l:List cF)(id:Int)(s:List Int): ∀n,(itr (nbJ l id) n s).length<=s.length+n
 |0=>ze _
 |n+1=>by
  have h:=D5f l id s n;rw[show itr (nbJ l id) (n+1) s=nbJ l id n (itr (nbJ l id) n s)from H7 ..];generalize itr (nbJ l id) n s=v at h⊢;unfold nbJ;split
  ·rw[zd,List.length_singleton];omega
  ·omega
theorem D5e(l:List cX)(id:Int)(s:List Int): ∀n,(itr (nbC l id) n s).length<=s.length+n
 |0=>ze _
 |n+1=>by
  have h:=D5e l id s n;rw[show itr (nbC l id) (n+1) s=nbC l id n (itr (nbC l id) n s)from H7 ..];generalize itr (nbC l id) n s=v at h⊢;unfold nbC;split
  ·rw[zd,List.length_singleton];omega
  ·omega
def E56(w:Api.World):List (Nat×A7):= [(48, .box [sI w.cM.dZ,sI w.cM.eD.X,sI w.cM.eD.Y,sI w.cM.eG,sI w.cM.eA, .sl 336 0 w.cC.length w.cC.length, .sl 337 0 w.cD.length w.cD.length, .sl 338 0 w.cB.length w.cB.length, .sl 339 0 w.cT.length w.cT.length,sI w.dK,sI w.eJ]),(80, .box A0r),(336, .arr 20 (B0 cE.enc dF_ w.cC)),(337, .arr 24 (B0 cF.enc dF_ w.cD)),(338, .arr 7 (B0 cX.enc dF_ w.cB)),(339, .arr 4 (B0 cR.enc dF_ w.cT))]
def C62(w:Api.World)(id:Int)(nb:List Int):List (Nat×A7):=(1, .arr 1 (B0 C8 0 nb))::(E56 w++ [(144, .box [.fn (.func 281) [] [.dE [sI id]]])])
attribute [go_sem] E56 C62
def C2x(id:Int):Slots:= [(2, .cA, .ptr 48 0 0 1),(3, .cA, .dE [sI id]),(4, .cA, .ptr 80 0 0 1)]
attribute [go_sem] C2x
def E4q:Slots:= [(2, .cA, .ptr 48 0 0 1),(3, .cA, .ptr 64 0 0 1),(4, .cA, .ptr 80 0 0 1)]
attribute [go_sem] E4q
theorem C74(w:Api.World)(id:Int)(hw:Wsm w): ∃r:Api.World×Int,Wsm r.1/\cA_ 172 [.agg w.enc,sI id] [] (.tup [.agg r.1.enc,sI r.2]) []:=by
 have hl:=hw.1
 have hlJ:=hw.2.1
 have hlC:=hw.2.2.1
 have hnJ:=D5f w.cD id [] w.cD.length;simp only[List.length_nil]at hnJ;have hlt:=A3e w id;by_cases h1:H5 w id<0
 ·refine⟨(zW,8),A3k,?_⟩;refine S3 90 [(4,some (some 11)),(5,none)] hm A6 Tryz.func172 rfl (st_ ?_);refine A0 (T1 w id hl) rfl (st_ ?_);rw[zc h1]
  (with_reducible and_intros) <;> first |rfl |exact G5 rfl
 obtain⟨i,hi⟩: ∃i:Nat,H5 w id=i:=⟨(H5 w id).toNat,o_⟩;have hil:i<w.cC.length:=o_
 have hf:=T1 w id hl;rw[hi]at hf;have hw2:Wsm ⟨w.cM,w.cC.eraseIdx i,w.cD.filter (λj=> !Y5 j id),w.cB.filter (λc=> !A5p id c.dU),w.cT.filter (λk=> !A5p id k),w.dK,w.eJ⟩:=by
  obtain⟨a1,a2,a3,a4,a5,a6⟩:=hw;have e1:=qM (λj=> !Y5 j id) w.cD
  have e2:=qM (λc:cX=> !A5p id c.dU) w.cB
  have e3:=qM (λk=> !A5p id k) w.cT;exact⟨by show(w.cC.eraseIdx i).length<=_;rw[yN hil];omega,qd e1 a2,qd e2 a3,qd e3 a4,λb hb=>a5 b (List.mem_of_mem_eraseIdx hb),λc hc=>a6 c (List.mem_filter.1 hc).1⟩
 refine⟨(B5s ⟨w.cM,w.cC.eraseIdx i,w.cD.filter (λj=> !Y5 j id),w.cB.filter (λc=> !A5p id c.dU),w.cT.filter (λk=> !A5p id k),w.dK,w.eJ⟩ (itr (nbC w.cB id) w.cB.length (itr (nbJ w.cD id) w.cD.length [])),0),C1t hw2 _,?_⟩;refine D2z 90 [(4,some (some 11)),(5,none)] hm A6 Tryz.func172 rfl ?_;refine B2 E4q [(48, .box w.enc),(64, .box [sI id]),(80, .box A0r)] (B9 hm ?_) ?_
 ·refine st_ ?_;refine A9 [] [] ?_;simp only[go_sem,go_sem_proc,A0r]
 refine B2 (E4q++ [(6, .cA,sI (i:Nat))]) [(48, .box w.enc),(64, .box [sI id]),(80, .box A0r)] (B9 hm ?_) ?_
 ·refine st_ ?_;refine A0 hf rfl (st_ ?_);refine A9 [] [] ?_;simp only[go_sem,go_sem_proc,A0r]
 refine B2 (E4q++ [(6, .cA,sI (i:Nat))]) [(48, .box w.enc),(64, .box [sI id]),(80, .box A0r)] (B9 hm ?_) ?_
 ·refine st_ ?_;rw[zb o_];refine A9 [] [] ?_;simp only[go_sem,go_sem_proc,A0r]
 refine B2 [(2, .cA, .ptr 48 0 0 1),(3, .eP, .dE [sI id]),(4, .cA, .ptr 80 0 0 1),(6, .cA,sI (i:Nat))] (E56 w) (B9 hm ?_) ?_
 ·refine st_ ?_;refine J5 ev_ K1 (U5 w hw) (st_ ?_);refine A9 [] [] ?_;simp only[go_sem,go_sem_proc,A0r,A2m]
 refine B2 (C2x id++ [(6, .cA,sI (i:Nat)),(7, .cA, .sc (.slice none 0 0))]) (E56 w) (B9 hm ?_) ?_
 ·refine st_ ?_;refine A9 [] [] ?_;simp only[go_sem,go_sem_proc,A0r]
 refine B2 (C2x id++ [(6, .cA,sI (i:Nat)),(7, .fA, .sl 1 0 0 0),(8, .cA, .ptr 144 0 0 1)]) (C62 w id []) (B9 hm ?_) ?_
 ·refine st_ ?_;refine A9 [] [1] ?_;simp only[go_sem,go_sem_proc,A0r]
 refine B2 (C2x id++ [(6, .cA,sI (i:Nat)),(7, .cA, .sl 1 0 (itr (nbJ w.cD id) w.cD.length []).length (itr (nbJ w.cD id) w.cD.length []).length),(8, .cA, .ptr 144 0 0 1)]) (C62 w id (itr (nbJ w.cD id) w.cD.length [])) (B2 (C2x id++ [(6, .cA,sI (i:Nat)),(7, .cA, .sl 1 0 (itr (nbJ w.cD id) 0 []).length (itr (nbJ w.cD id) 0 []).length),(8, .cA, .ptr 144 0 0 1),(23, .cA, .sl 337 0 w.cD.length w.cD.length),(24, .cA,sI w.cD.length),(25, .cA,sI (0:Nat))]) (C62 w id (itr (nbJ w.cD id) 0 [])) (B9 hm ?_) (V0 ?_)) ?_
 ·simp only[go_sem,go_sem_proc,G9];refine A9 [] [] ?_;simp only[go_sem,go_sem_proc,A0r]
 ·refine B1 hm (ι:= {k:Nat // k<=w.cD.length}) (λk=>(C2x id++ [(6, .cA,sI (i:Nat)),(7, .cA, .sl 1 0 (itr (nbJ w.cD id) k.1 []).length (itr (nbJ w.cD id) k.1 []).length),(8, .cA, .ptr 144 0 0 1),(23, .cA, .sl 337 0 w.cD.length w.cD.length),(24, .cA,sI w.cD.length),(25, .cA,sI (k.1:Nat))])) (λk=>C62 w id (itr (nbJ w.cD id) k.1 [])) (λk=>w.cD.length-k.1) ⟨0,zm _⟩ ?_ ?_
  ·refine A9 [] [] ?_;simp only[go_sem,go_sem_proc,A0r]
  ·rintro⟨k,hk⟩;dsimp only;have hnext:itr (nbJ w.cD id) (k+1) []=nbJ w.cD id k (itr (nbJ w.cD id) k []):=H7 ..
   have hvl:=D5f w.cD id [] k
   (try simp only[List.length_nil]at hvl)
   have hfin:w.cD.length<=k->(itr (nbJ w.cD id) k [])=(itr (nbJ w.cD id) w.cD.length []):=λh=>by rw[show k=w.cD.length by omega]
   generalize(itr (nbJ w.cD id) k [])=v at hnext hvl hfin⊢;simp only[go_sem,go_sem_proc,A0r];split
   ·rename_i hlt;have hlt:k<w.cD.length:=o_
    refine⟨bE_,?_⟩;refine A0 (B9d (w.cD.getD k dF_) id) rfl (st_ ?_);by_cases hp:Y5 (w.cD.getD k dF_) id=true
    ·rw[zc hp];refine A0 (C5b (w.cD.getD k dF_).cU (w.cD.getD k dF_).cV id) rfl (st_ ?_);have hn:itr (nbJ w.cD id) (k+1) []=v++ [A6g (w.cD.getD k dF_).cU (w.cD.getD k dF_).cV id]:=by rw[hnext];unfold nbJ;rw[zc hp]
     refine⟨bE_,?_⟩;refine A8 ⟨k+1,hlt⟩ (by show w.cD.length-(k+1)<w.cD.length-k;omega) ?_;simp only[hn];refine A9 [] [] ?_;simp only[go_sem,go_sem_proc,A0r]
     all_goals((with_reducible and_intros) <;> first |exact A0l _ rfl rfl rfl rfl |(rw[IntKind.wrap_i64];omega) |(simp;done))
    ·rw[zb hp];have hn:itr (nbJ w.cD id) (k+1) []=v:=by rw[hnext];unfold nbJ;rw[zb hp]
     refine A8 ⟨k+1,hlt⟩ (by show w.cD.length-(k+1)<w.cD.length-k;omega) ?_;simp only[hn];refine A9 [] [] ?_;simp only[go_sem,go_sem_proc,A0r]
     all_goals((with_reducible and_intros) <;> (rw[IntKind.wrap_i64];omega))
   ·rename_i hge;rw[<-hfin o_];refine A9 [] [] ?_;simp only[go_sem,go_sem_proc]
 refine B2 (C2x id++ [(6, .cA,sI (i:Nat)),(7, .cA, .sl 1 0 (itr (nbC w.cB id) w.cB.length (itr (nbJ w.cD id) w.cD.length [])).length (itr (nbC w.cB id) w.cB.length (itr (nbJ w.cD id) w.cD.length [])).length),(8, .cA, .ptr 144 0 0 1)]) (C62 w id (itr (nbC w.cB id) w.cB.length (itr (nbJ w.cD id) w.cD.length []))) (B2 (C2x id++ [(6, .cA,sI (i:Nat)),(7, .cA, .sl 1 0 (itr (nbC w.cB id) 0 (itr (nbJ w.cD id) w.cD.length [])).length (itr (nbC w.cB id) 0 (itr (nbJ w.cD id) w.cD.length [])).length),(8, .cA, .ptr 144 0 0 1),(43, .cA, .sl 338 0 w.cB.length w.cB.length),(44, .cA,sI w.cB.length),(45, .cA,sI (0:Nat))]) (C62 w id (itr (nbC w.cB id) 0 (itr (nbJ w.cD id) w.cD.length []))) (B9 hm ?_) (V0 ?_)) ?_
 ·simp only[go_sem,go_sem_proc,G9];refine A9 [] [] ?_;simp only[go_sem,go_sem_proc,A0r]
 ·refine B1 hm (ι:= {k:Nat // k<=w.cB.length}) (λk=>(C2x id++ [(6, .cA,sI (i:Nat)),(7, .cA, .sl 1 0 (itr (nbC w.cB id) k.1 (itr (nbJ w.cD id) w.cD.length [])).length (itr (nbC w.cB id) k.1 (itr (nbJ w.cD id) w.cD.length [])).length),(8, .cA, .ptr 144 0 0 1),(43, .cA, .sl 338 0 w.cB.length w.cB.length),(44, .cA,sI w.cB.length),(45, .cA,sI (k.1:Nat))])) (λk=>C62 w id (itr (nbC w.cB id) k.1 (itr (nbJ w.cD id) w.cD.length []))) (λk=>w.cB.length-k.1) ⟨0,zm _⟩ ?_ ?_
  ·refine A9 [] [] ?_;simp only[go_sem,go_sem_proc,A0r]
  ·rintro⟨k,hk⟩;dsimp only;have hnext:itr (nbC w.cB id) (k+1) (itr (nbJ w.cD id) w.cD.length [])=nbC w.cB id k (itr (nbC w.cB id) k (itr (nbJ w.cD id) w.cD.length [])):=H7 ..
   have hvl:=D5e w.cB id (itr (nbJ w.cD id) w.cD.length []) k
   have hfin:w.cB.length<=k->(itr (nbC w.cB id) k (itr (nbJ w.cD id) w.cD.length []))=(itr (nbC w.cB id) w.cB.length (itr (nbJ w.cD id) w.cD.length [])):=λh=>by rw[show k=w.cB.length by omega]
   generalize(itr (nbC w.cB id) k (itr (nbJ w.cD id) w.cD.length []))=v at hnext hvl hfin⊢;simp only[go_sem,go_sem_proc,A0r];split
   ·rename_i hlt;have hlt:k<w.cB.length:=o_
    refine⟨bE_,?_⟩;refine A0 (D5s id (w.cB.getD k dF_).dU) rfl (st_ ?_);by_cases hp:((w.cB.getD k dF_).dU.cU==id||(w.cB.getD k dF_).dU.cV==id)=true
    ·rw[zc hp];refine A0 (C5b (w.cB.getD k dF_).dU.cU (w.cB.getD k dF_).dU.cV id) rfl (st_ ?_);have hn:itr (nbC w.cB id) (k+1) (itr (nbJ w.cD id) w.cD.length [])=v++ [A6g (w.cB.getD k dF_).dU.cU (w.cB.getD k dF_).dU.cV id]:=by rw[hnext];unfold nbC;rw[zc (show A5p id (w.cB.getD k dF_).dU=true from hp)]
     refine⟨bE_,?_⟩;refine A8 ⟨k+1,hlt⟩ (by show w.cB.length-(k+1)<w.cB.length-k;omega) ?_;simp only[hn];refine A9 [] [] ?_;simp only[go_sem,go_sem_proc,A0r]
     all_goals((with_reducible and_intros) <;> first |exact A0l _ rfl rfl rfl rfl |(rw[IntKind.wrap_i64];omega) |(simp;done))
    ·rw[zb hp];have hn:itr (nbC w.cB id) (k+1) (itr (nbJ w.cD id) w.cD.length [])=v:=by rw[hnext];unfold nbC;rw[zb (show ¬A5p id (w.cB.getD k dF_).dU=true from hp)]
     refine A8 ⟨k+1,hlt⟩ (by show w.cB.length-(k+1)<w.cB.length-k;omega) ?_;simp only[hn];refine A9 [] [] ?_;simp only[go_sem,go_sem_proc,A0r]
     all_goals((with_reducible and_intros) <;> (rw[IntKind.wrap_i64];omega))
   ·rename_i hge;rw[<-hfin o_];refine A9 [] [] ?_;simp only[go_sem,go_sem_proc]
 have hnC:=D5e w.cB id (itr (nbJ w.cD id) w.cD.length []) w.cB.length;generalize itr (nbC w.cB id) w.cB.length (itr (nbJ w.cD id) w.cD.length [])=nb at hnC⊢;have hnb:nb.length<=4194304:=o_
 refine B9 hm ?_;simp only[go_sem,go_sem_proc,A0r];rw[show IntKind.i64.wrap ((i:Int)+1)=((i+1:Nat):Int)by rw[IntKind.wrap_i64];omega];refine B5 [true,true,true] [(1,336)] (C4f (B0 cE.enc dF_ w.cC) i hil hl) p_ p_ p_ g_ (st_ ?_);refine B5 [true,true] [(1,337)] (B72 w.cD 285 [] [.dE [sI id]] (λj=>Y5 j id) o_ rfl rfl (λj _=>F45 id j)) p_ p_ p_ g_ (st_ ?_);refine B5 [true,false] [(1,338)] (B6m w.cB 287 [] [.dE [.fn (.func 281) [] [.dE [sI id]]]] (λc=>A5p id c.dU) o_ rfl rfl (λc _=>F46 id c)) p_ p_ p_ g_ ?_;simp only[go_sem,go_sem_proc,A2m];refine B5 [true,true] [(1,339)] (B6o w.cT 281 [] [.dE [sI id]] (λk=>A5p id k) (by have:=hw.2.2.2.1;omega) rfl rfl (λk _=>D5s id k)) p_ p_ p_ g_ (st_ ?_);refine O6 (B4o ⟨w.cM,w.cC.eraseIdx i,w.cD.filter (λj=> !Y5 j id),w.cB.filter (λc=> !A5p id c.dU),w.cT.filter (λk=> !A5p id k),w.dK,w.eJ⟩ nb hw2 hnb) ?_;simp only[S2,go_sem,go_sem_proc];exact⟨⟨rfl,D2y.symm,D2y.symm,D2y.symm⟩,D0u hil rfl rfl λ_=>rfl,C56 rfl λ_=>rfl,C56 rfl λ_=>rfl,C56 rfl λ_=>rfl⟩
theorem F9y(n:Int):0<=isq n:=by unfold isq;split <;> omega
theorem F6z(v:cI):0<=A97 v:=F9y _
theorem B6u {x c:Int}(hc:c<=536870911)(h:c<=x):c<=sat x:=by unfold sat;split <;> (try split) <;> omega
theorem F8r {n:Int}(hn:0<=n):0<=A38 n 65536:=by
 unfold A38;split
 ·omega
 ·have h1:=Int.tdiv_nonneg hn (show(0:Int)<=65536 by decide)
  have h2:=qT (a:=n) 65536 hn;rename_i h;have h3:n.tdiv 65536<=n:=by rw[Int.tdiv_eq_ediv_of_nonneg hn];omega
  (repeat' split) <;> omega
theorem F54 {a b:Int}(ha:0<=a)(hb:0<=b):0<=D2 a b:=by
 unfold D2;have h1:=Z6 a;have h2:=Z6 b
 have h3:=B6u (by decide) ha;have h4:=B6u (by decide) hb;refine B6u (by decide) ?_;rw[IntKind.wrap_i64];omega
theorem F92 {a b:Int}(ha:0<=a)(hb:0<=b):0<=C6 a b:=by
 unfold C6;refine B6u (by decide) (F8r ?_);have h1:=Z6 a;have h2:=Z6 b
 have h3:=B6u (by decide) ha;have h4:=B6u (by decide) hb
 have h5:=yL h3 h4
 have h6:sat a*sat b<=536870911*536870911:=yA h1.2 h2.2 h4 (by decide);rw[IntKind.wrap_i64];omega
theorem F99(s:Shape)(h:F9 s=0):0<=s.eW:=by
 unfold F9 at h;split at h
 ·cases h
 ·simp only at h;split at h
  ·cases h
  ·split at h
   ·cases h
   ·split at h
    ·omega
    ·rename_i h1;split at h
     ·cases h
     ·rename_i h2;simp only[zi,zy,zk,qc,qB,ne_eq,not_and,qy,qe]at h1 h2;by_cases h3:s.cS=3
      ·have:=h1 h3;omega
      ·have:=h2 h3;omega
theorem brN(s:Shape):0<=A08 s:=by
 unfold A08;simp only;split
 ·omega
 ·rename_i h;have hv:F9 s=0:=by simpa using h
  refine F54 ?_ (F99 s hv);have: ∀n,0<=itr (A1n s) n 0:=λn=>by
   induction n with
   |zero=>exact Int.le_refl _
   |succ n ih=>rw[H7];unfold A1n;have:=F6z (s.cK.getD n dF_);simp only;split <;> omega
  exact this _
theorem mbN(s:Shape)(t0 t1:cJ):(F9 s=0->4<=L3 s t0 t1)/\L3 s t0 t1<=536870911:=by
 constructor
 ·intro h;unfold L3;simp only;rw[zb (by simp[h])];have h7:=F54 (F6z (O5 t1.dY t0.dY)) (F92 (a:=if A04 t0.eT t1.eT<IntKind.i64.wrap (0-A04 t0.eT t1.eT)then IntKind.i64.wrap (0-A04 t0.eT t1.eT)else A04 t0.eT t1.eT) (b:=A08 s) ?_ (brN s))
  ·generalize D2 (A97 (O5 t1.dY t0.dY)) _=v at*;unfold D2;have h1:=Z6 v
   have h3:=B6u (c:=0) (by decide) h7
   have h4:sat 4=4:=by decide
   refine B6u (by decide) ?_;rw[h4,IntKind.wrap_i64];omega
  ·have: ∀x:Int,0<=(if x<IntKind.i64.wrap (0-x)then IntKind.i64.wrap (0-x)else x)\/x < -4611686018427387904\/4611686018427387904<x:=λx=>by
    rw[IntKind.wrap_i64];split <;> omega
   have hn: ∀a,-4611686018427387904<=K7 a/\K7 a<=4611686018427387904:=λa=>by
    have:=qE a (show(0:Int)<411776 by decide)
    have h2:=Int.lt_tmod_of_pos a (show(0:Int)<411776 by decide);unfold K7;simp only[IntKind.wrap_i64]
    (repeat' split) <;> omega
   rcases this (A04 t0.eT t1.eT)with h |h |h
   ·exact h
   ·have:=hn (IntKind.i64.wrap (K7 t1.eT-K7 t0.eT))
    unfold A04 at h;simp only at h;omega
   ·have:=hn (IntKind.i64.wrap (K7 t1.eT-K7 t0.eT))
    unfold A04 at h;simp only at h;omega
 ·unfold L3;simp only;split
  ·omega
  ·unfold D2;exact(Z6 _).2
theorem F57(a b:Shape)(a0 a1 b0 b1:cJ)(ha:F9 a=0)(hb:F9 b=0):IntKind.i64.wrap (2*IntKind.i64.wrap (L3 a a0 a1+L3 b b0 b1))≠0:=by
 have h1:=mbN a a0 a1;have h2:=mbN b b0 b1
 have:=h1.1 ha;have:=h2.1 hb;have:=h1.2;have:=h2.2;simp only[IntKind.wrap_i64];omega
def A48(a:Shape)(a0:cJ)(a1:cJ)(b:Shape)(b0:cJ)(b1:cJ)(v3:Int)(v4:Int)(i1:Nat)(s1:Int):(Int) ⊕ (Int×Bool):=let v5:=(A2a a0 a1 s1);let v6:=(A2a b0 b1 s1);let v7:=(A44 a v5 b v6);if v7<=512 then(.inr (s1,true))else(if 65536<(IntKind.i64.wrap (s1+(if(IntKind.i64.wrap ((IntKind.i64.wrap (v7*65536)).tdiv (IntKind.i64.wrap (2*(IntKind.i64.wrap (v3+v4))))))<1 then 1 else(IntKind.i64.wrap ((IntKind.i64.wrap (v7*65536)).tdiv (IntKind.i64.wrap (2*(IntKind.i64.wrap (v3+v4)))))))))then(.inr (0,false))else(.inl (IntKind.i64.wrap (s1+(if(IntKind.i64.wrap ((IntKind.i64.wrap (v7*65536)).tdiv (IntKind.i64.wrap (2*(IntKind.i64.wrap (v3+v4))))))<1 then 1 else(IntKind.i64.wrap ((IntKind.i64.wrap (v7*65536)).tdiv (IntKind.i64.wrap (2*(IntKind.i64.wrap (v3+v4)))))))))))
def A0p(a:Shape)(a0:cJ)(a1:cJ)(b:Shape)(b0:cJ)(b1:cJ):Int×Bool:=let v1:=(F9 a);let v2:=(F9 b);if((v1 != 0)||(v2 != 0))=true then((0,false))else(let v3:=(L3 a a0 a1);let v4:=(L3 b b0 b1);(match I8 (A48 a a0 a1 b b0 b1 v3 v4) 40 0 with | .inr r=>r | .inl s1=>(s1,true)))
theorem C73(a:Shape)(a0:cJ)(a1:cJ)(b:Shape)(b0:cJ)(b1:cJ)(h0:a.cK.length<=1048576)(h1:b.cK.length<=1048576):cA_ 520 [.agg a.enc, .agg a0.enc, .agg a1.enc, .agg b.enc, .agg b0.enc, .agg b1.enc] [] (.tup [sI ((A0p a a0 a1 b b0 b1).1),sB ((A0p a a0 a1 b b0 b1).2)]) []:=by
 refine enT hm A6 Tryz.func520 rfl rfl ?_;have:=F57 a b a0 a1 b0 b1
 have:=A11
 have:=C9p
 have:=B08
 have:=B28
 have:=A0p.eq_1 a a0 a1 b b0 b1
 have:=λi_ s_=>A48.eq_1 a a0 a1 b b0 b1 (L3 a a0 a1) (L3 b b0 b1) i_ s_
 have:=λx_ Q_ σ_=> @lp_ Tryz.prog Tryz.f520.ntmps [] x_ Q_ σ_ hm (IE (A48 a a0 a1 b b0 b1 (L3 a a0 a1) (L3 b b0 b1)) 0) (λ_=>True) 40 (λi_=> [(6, .cA, .ptr 112 0 0 1),(7, .cA, .ptr 128 0 0 1),(8, .cA, .ptr 144 0 0 1),(9, .cA, .ptr 160 0 0 1),(10, .cA, .ptr 176 0 0 1),(11, .cA, .ptr 192 0 0 1),(14, .cA,sI (IntKind.i64.wrap (2*(IntKind.i64.wrap ((L3 a a0 a1)+(L3 b b0 b1)))))),(15, .cA,sI (stE (A48 a a0 a1 b b0 b1 (L3 a a0 a1) (L3 b b0 b1)) i_ 0)),(35, .cA,sI (i_:Int))]) (λi_=> [(112, .box [sI a.cS,sI a.eW,A4 2 cI.enc dF_ a.cK]),(128, .box [sI a0.dY.X,sI a0.dY.Y,sI a0.eT]),(144, .box [sI a1.dY.X,sI a1.dY.Y,sI a1.eT]),(160, .box [sI b.cS,sI b.eW,A4 2 cI.enc dF_ b.cK]),(176, .box [sI b0.dY.X,sI b0.dY.Y,sI b0.eT]),(192, .box [sI b1.dY.X,sI b1.dY.Y,sI b1.eT])]) [] rfl (λ_ _=>trivial) g_ g_ g_;exact K2
def E20:List AV:=([(.int .i64 0),(.int .i64 0),(.slice none 0 0),(.int .i64 0),(.int .i64 0),(.int .i64 0),(.bool false),(.int .i64 0),(.int .i64 0),(.int .i64 0)]:List Value).map .sc
theorem B4l(l:List cY)(f:FuncId)(first cap:List AV)(p:cY->Bool)(hl:l.length<=4194304)(h1:F6 first= [])(h2:F6 cap= [])
  (hp: ∀x∈l,cA_ f (first++ [.agg x.enc]++cap) [] (sB (p x)) []):
  cA_ 570 [.sl 1 0 l.length l.length, .fn (.func f) first cap] [(1, .arr 10 (B0 cY.enc dF_ l))] (sI (A3u dF_ p l)) [(1, .arr 10 (B0 cY.enc dF_ l))]:=by
 refine A8m hm A6 Tryz.func570 rfl rfl ?_;refine B9 hm (st_ ?_);refine B1 hm (ι:= {i:Nat // i<=l.length/\ ∀j,j<i->p (l.getD j dF_)=false}) (λi=> [(0, .cA, .sl 1 0 l.length l.length),(1, .cA, .fn (.func f) first cap),(7, .cA,sI l.length),(8, .cA,sI i.1)])
  (λi=> [(1, .arr 10 (B0 cY.enc dF_ l))]) (λi=>l.length-i.1) ⟨0,o_,λj hj=>by omega⟩ ?_ ?_
 ·refine A9 [] [] (st_ ?_);exact⟨(AV.ren_id (.fn (.func f) first cap)).symm,λi hi=>by rw[h1,h2]at hi;cases hi⟩
 ·rintro⟨i,hi,hs⟩;refine st_ ?_;split
  ·rename_i hlt;have hlt:i<l.length:=o_
   refine⟨bE_,?_⟩;have hx:=hp (l.getD i dF_) (B6 dF_ hlt);rw[zx]at hx;refine A23 hx (by simp[A8p,h1,h2,F6,AV.ids]) rfl (st_ ?_);cases hpx:p (l.getD i dF_)with
   |true=>rw[zc rfl];refine B8 [.cA] [] [] (st_ ?_);exact(A6k hlt hs hpx).symm
   |false=>rw[zb p_];refine A8 ⟨i+1,o_,λj hj=>by rcases zF.1 hj with h |rfl;exact hs j h;exact hpx⟩ (by show l.length-(i+1)<l.length-i;omega) ?_;refine A9 [] [] (st_ ?_);exact⟨(AV.ren_id (.fn (.func f) first cap)).symm,(λi hi=>by rw[h1,h2]at hi;cases hi),wo_⟩
  ·rename_i hge;refine B8 [.cA] [] [] (st_ ?_);exact(A2x λj hj=>hs j o_).symm
theorem B6n(l:List cY)(f:FuncId)(first cap:List AV)(p:cY->Bool)(hl:l.length<=4194304)(h1:F6 first= [])(h2:F6 cap= [])
  (hp: ∀x∈l,cA_ f (first++ [.agg x.enc]++cap) [] (sB (p x)) []):
  cA_ 551 [.sl 1 0 l.length l.length, .fn (.func f) first cap] [(1, .arr 10 (B0 cY.enc dF_ l))] (.sl 1 0 (dfR dF_ p l l.length).1 l.length) [(1, .arr 10 (dfQ cY.enc dF_ p l E20))]:=by
 refine A8m hm A6 Tryz.func551 rfl rfl ?_;refine B9 hm (st_ ?_);refine Z7 (B4l l f first cap p hl h1 h2 hp) (by simp[okO]) (by simp[upd]) ?_ rfl ?_
 ·intro a ha i hi;simp only[zo,zr,zU]at ha;rcases ha with rfl |rfl
  ·simp only[AV.ids,zu]at hi;subst hi;rfl
  ·simp only[AV.ids,h1,h2]at hi;cases hi
 refine st_ ?_;rcases B3w (d:=dF_) (p:=p) (l:=l)with⟨e,h0⟩ |⟨i0,hi0,e,hp0,hs0⟩
 ·rw[e,zc (by decide),B8q h0,A49 l.length (ze _) h0];refine B8 [.cA] [] [] ?_;simp only[go_sem,go_sem_proc]
 rw[e,zb p_];refine B1 hm (ι:= {j:Nat // j<=l.length}) (λj=> [(0, .cA, .sl 1 0 l.length l.length),(1, .cA, .fn (.func f) first cap),(5, .cA,sI ((dfR dF_ p l j.1).1)),(6, .cA,sI j.1)])
  (λj=> [(1, .arr 10 (B0 cY.enc dF_ (dfR dF_ p l j.1).2))]) (λj=>l.length-j.1) ⟨i0+1,hi0⟩ ?_ ?_
 ·have e1:dfR dF_ p l (i0+1)=(i0,l):=by
   rw[dfR,A49 i0 o_ hs0];unfold A30;rw[zc hp0]
  rw[e1];refine A9 [] [] (st_ ?_);exact⟨(AV.ren_id (.fn (.func f) first cap)).symm,(λi hi=>by rw[h1,h2]at hi;cases hi),wo_⟩
 ·rintro⟨j,hj⟩;obtain⟨g1,g2,g3,g4⟩:=B0t (d:=dF_) (p:=p) (l:=l) j hj;dsimp only;have hnext:=λhjl:j<l.length=>(show dfR dF_ p l (j+1)=A30 dF_ p j (dfR dF_ p l j)from rfl);generalize hst:dfR dF_ p l j=st at g1 g2 g3 g4 hnext⊢;obtain⟨i,m⟩:=st;dsimp only at g1 g2 g3 g4 hnext⊢;refine st_ ?_;split
  ·rename_i hlt;have hlt:j<l.length:=o_
   have hgj:=g3 j (ze j)
   have hn:=hnext hlt;simp only[hgj];refine⟨⟨g2.symm,o_,o_⟩,g2.symm,?_⟩;have hx:=hp (l.getD j dF_) (B6 dF_ hlt);rw[zx]at hx;refine A23 hx (by simp[A8p,h1,h2,F6,AV.ids]) rfl (st_ ?_);unfold A30 at hn;dsimp only at hn;rw[hgj]at hn;cases hpx:p (l.getD j dF_)with
   |true=>rw[hpx,zc rfl]at hn;rw[zb p_];refine A8 ⟨j+1,hlt⟩ (by show l.length-(j+1)<l.length-j;omega) ?_;simp only[hn];refine A9 [] [] (st_ ?_);exact⟨(AV.ren_id (.fn (.func f) first cap)).symm,(λi hi=>by rw[h1,h2]at hi;cases hi),wo_⟩
   |false=>rw[hpx,zb p_]at hn;rw[zc rfl];refine⟨⟨g2.symm,o_,o_⟩,g2.symm,?_⟩;refine A8 ⟨j+1,hlt⟩ (by show l.length-(j+1)<l.length-j;omega) ?_;simp only[hn];rw[A67 (l.getD j dF_) o_ (by rw[<-hgj];rfl)];refine A9 [] [] (st_ ?_);exact⟨(AV.ren_id (.fn (.func f) first cap)).symm,(λi hi=>by rw[h1,h2]at hi;cases hi),wo_,wo_⟩
  ·rename_i hge;obtain rfl:j=l.length:=o_
   have e1:((l.length:Int)-(i:Int)).toNat=l.length-i:=o_
   have e2:((i:Int)-0).toNat=i:=o_
   rw[e1,e2];refine⟨⟨g2.symm,o_,o_,o_⟩,g2.symm,⟨g2.symm,o_,o_,o_⟩,?_⟩;unfold dfQ;rw[hst];refine B8 [.cA] [] [] (st_ ?_);exact A24
def U0(b:cE):List cY:=b.cH.filter λp=> !p.fM
theorem D64 {b:cE}{f:cY}(h:f∈U0 b):f∈b.cH:=(List.mem_filter.1 h).1
theorem D63(b:cE):(U0 b).length<=b.cH.length:=qM ..
theorem C1d(p:cY):cA_ 553 [.agg p.enc] [] (sB p.fM) []:=by refine en1 hm A6 Tryz.func553 rfl rfl ?_;simp only[go_sem,go_sem_proc]
theorem B4x(b:cE)(h0:b.cH.length<=1048576):cA_ 519 [.agg b.enc] [] (A4 10 cY.enc dF_ (U0 b)) []:=by refine en1 hm A6 Tryz.func519 rfl rfl (st_ ?_);refine J5 ev_ K1 (C1l b.cH h0) (st_ ?_);refine B5 [true,true] [(1,96)] (B6n b.cH 553 [] [] (λp=>p.fM) o_ rfl rfl (λp _=>C1d p)) p_ p_ (by simp[J1]) g_ (st_ ?_);exact⟨D2y.symm,C56 rfl λ_=>rfl⟩
def iw2(x y z:cE)(p:cY)(k:Nat)(s:Int):Int:=
 if A05 p ((U0 z).getD k dF_)=true then
  (if(A0p p.Shape x.cJ y.cJ ((U0 z).getD k dF_).Shape z.cJ z.cJ).2=true/\0<(A0p p.Shape x.cJ y.cJ ((U0 z).getD k dF_).Shape z.cJ z.cJ).1 then
    (if(A0p p.Shape x.cJ y.cJ ((U0 z).getD k dF_).Shape z.cJ z.cJ).1<s then(A0p p.Shape x.cJ y.cJ ((U0 z).getD k dF_).Shape z.cJ z.cJ).1 else s)else s)else s
def iw1(x y z:cE)(i:Nat)(s:Int):Int:=itr (iw2 x y z ((U0 y).getD i dF_)) (U0 z).length s
def E5v(x y z:cE):Int:=itr (iw1 x y z) (U0 y).length 65536
theorem D1z(x y z:cE)(hy:cE.sm y)(hz:cE.sm z):cA_ 446 [.agg x.enc, .agg y.enc, .agg z.enc] [] (sI (E5v x y z)) []:=by
 have l1:=D63 y
 have l2:=D63 z
 have m1:=hy.1
 have m2:=hz.1;unfold E5v;refine en1 hm A6 Tryz.func446 rfl rfl (st_ ?_);refine A0 (B4x y hy.1) rfl (st_ ?_);refine B1 hm (ι:= {i:Nat // i<=(U0 y).length}) (λi=> [(3, .eP, .dE x.enc),(4, .eP, .dE y.enc),(5, .eP, .dE z.enc),(7, .cA,sI (itr (iw1 x y z) i.1 65536)),(15, .cA,A4 10 cY.enc dF_ (U0 y)),(16, .cA,sI ((U0 y).length)),(17, .cA,sI (i.1:Nat))]) (λi=> []) (λi=>(U0 y).length-i.1) ⟨0,zm _⟩ ?_ ?_
 ·simp only[G9];refine A9 [] [] ?_;simp only[go_sem,go_sem_proc,A2m]
 ·rintro⟨i,hi⟩;dsimp only;have hn1:itr (iw1 x y z) (i+1) 65536=iw1 x y z i (itr (iw1 x y z) i 65536):=H7 ..
  have hfin:(U0 y).length<=i->itr (iw1 x y z) i 65536=itr (iw1 x y z) (U0 y).length 65536:=λh=>by rw[show i=(U0 y).length by omega]
  generalize itr (iw1 x y z) i 65536=v at hn1 hfin⊢;refine st_ ?_;by_cases hlt:i<(U0 y).length;rotate_left
  ·rw[zb o_,<-hfin o_]
  rw[zc o_];refine⟨bE_,?_⟩;rw[iw1.eq_1 x y z i v]at hn1;have hp:=hy.2 _ (D64 (B6 dF_ hlt));generalize(U0 y).getD i dF_=p at hn1 hp⊢;refine A0 (B4x z hz.1) rfl (st_ ?_);refine B1 hm (ι:= {j:Nat // j<=(U0 z).length}) (λj=> [(3, .cA, .dE x.enc),(4, .cA, .dE y.enc),(5, .cA, .dE z.enc),(15, .cA,A4 10 cY.enc dF_ (U0 y)),(16, .cA,sI ((U0 y).length)),(17, .cA,sI (i:Nat)),(9, .eP, .dE p.enc),(7, .cA,sI (itr (iw2 x y z p) j.1 v)),(22, .cA,A4 10 cY.enc dF_ (U0 z)),(23, .cA,sI ((U0 z).length)),(24, .cA,sI (j.1:Nat))]) (λj=> []) (λj=>(U0 z).length-j.1) ⟨0,zm _⟩ ?_ ?_
  ·simp only[G9];refine A9 [] [] ?_;simp only[go_sem,go_sem_proc,A2m]
  ·rintro⟨j,hj⟩;dsimp only;have hn2:itr (iw2 x y z p) (j+1) v=iw2 x y z p j (itr (iw2 x y z p) j v):=H7 ..
   have hfin2:(U0 z).length<=j->itr (iw2 x y z p) j v=itr (iw2 x y z p) (U0 z).length v:=λh=>by rw[show j=(U0 z).length by omega]
   generalize itr (iw2 x y z p) j v=u at hn2 hfin2⊢;refine st_ ?_;by_cases hlt2:j<(U0 z).length;rotate_left
   ·rw[zb o_];refine A8 ⟨i+1,o_⟩ (by show(U0 y).length-(i+1)<(U0 y).length-i;omega) ?_;rw[hn1,<-hfin2 o_];refine A9 [] [] (st_ ?_);exact eE_
   rw[zc o_];refine⟨bE_,?_⟩;have hu:=iw2.eq_1 x y z p j u
   have hq:=hz.2 _ (D64 (B6 dF_ hlt2));generalize(U0 z).getD j dF_=q at hu hq⊢;refine A0 (A83 p q) rfl ?_;generalize A05 p q=sc at hu⊢;cases sc with
   |false=>rw[zb p_]at hu;rw[hu]at hn2;refine st_ ?_;refine A8 ⟨j+1,o_⟩ (by show(U0 z).length-(j+1)<(U0 z).length-j;omega) ?_;simp only[hn2];refine A9 [] [] (st_ ?_);exact eE_
   |true=>
    rw[zc rfl]at hu;refine st_ ?_;refine A0 (C73 p.Shape x.cJ y.cJ q.Shape z.cJ z.cJ hp hq) rfl ?_;generalize A0p p.Shape x.cJ y.cJ q.Shape z.cJ z.cJ=t at hu⊢;obtain⟨t1,t2⟩:=t;dsimp only at hu;refine st_ ?_;by_cases ht:(t2&&decide (0<t1))=true
    ·rw[zc ht];rw[zc (show t2=true/\0<t1 by simpa using ht)]at hu;rw[hu]at hn2;refine A8 ⟨j+1,o_⟩ (by show(U0 z).length-(j+1)<(U0 z).length-j;omega) ?_;simp only[hn2];refine A9 [] [] (st_ ?_);exact eE_
    ·rw[zb ht];rw[zb (show ¬(t2=true/\0<t1)by simpa using ht)]at hu;rw[hu]at hn2;refine A8 ⟨j+1,o_⟩ (by show(U0 z).length-(j+1)<(U0 z).length-j;omega) ?_;simp only[hn2];refine A9 [] [] (st_ ?_);exact eE_
def fiS(bs as_:List cE)(js:List cF)(i:Nat)(k:Nat)(s:Int):Int:=
 if(decide (k≠i)&& !(js.any (C54 (as_.getD i dF_).ID (as_.getD k dF_).ID)))=true then
  (if E5v (bs.getD i dF_) (as_.getD i dF_) (as_.getD k dF_)<s then E5v (bs.getD i dF_) (as_.getD i dF_) (as_.getD k dF_)else s)else s
def fiV(bs as_:List cE)(js:List cF)(i:Nat):Int:=itr (fiS bs as_ js i) as_.length 65536
def fiR(bs as_:List cE)(js:List cF)(i:Nat):Int×Bool:=
 if(!(as_.getD i dF_).fH||(as_.getD i dF_).cS != 3||(as_.getD i dF_).eX)=true then(0,false)
 else if fiV bs as_ js i=65536 then(0,false)else(fiV bs as_ js i,true)
theorem C9c(bs as_:List cE)(js:List cF)(i:Nat)(hlen:bs.length=as_.length)(hi:i<as_.length)(hl:as_.length<=1048576)(hb: ∀b∈bs,cE.sm b)(ha: ∀b∈as_,cE.sm b)(hj:js.length<=1048576):
  cA_ 325 [A4 20 cE.enc dF_ bs,A4 20 cE.enc dF_ as_,A4 24 cF.enc dF_ js,sI (i:Nat)] [] (.tup [sI ((fiR bs as_ js i).1),sB ((fiR bs as_ js i).2)]) []:=by
 have hr:=fiR.eq_1 bs as_ js i
 have hbi:=ha _ (B6 dF_ hi);refine enT hm A6 Tryz.func325 rfl rfl (st_ ?_);rw[zb (by simp[hlen];omega)];refine⟨bE_,?_⟩;generalize hb0:as_.getD i dF_=b at hr hbi⊢;have hbb:=hb _ (B6 (l:=bs) (i:=i) dF_ o_);by_cases hs:(!b.fH||b.cS != 3||b.eX)=true
 ·rw[zc hs]at hr⊢;rw[hr];exact⟨rfl,rfl⟩
 rw[zb hs]at hr⊢;rw[hr];unfold fiV;refine B1 hm (ι:= {j:Nat // j<=as_.length}) (λj=> [(0, .cA,A4 20 cE.enc dF_ bs),(2, .cA,A4 24 cF.enc dF_ js),(3, .cA,sI (i:Nat)),(10, .eP, .dE b.enc),(11, .cA,sI (itr (fiS bs as_ js i) j.1 65536)),(45, .cA,A4 20 cE.enc dF_ as_),(46, .cA,sI as_.length),(47, .cA,sI (j.1:Nat))]) (λj=> []) (λj=>as_.length-j.1) ⟨0,zm _⟩ ?_ ?_
 ·simp only[G9];refine A9 [] [] ?_;simp only[go_sem,go_sem_proc,A2m]
 ·rintro⟨k,hk⟩;dsimp only;have hn:itr (fiS bs as_ js i) (k+1) 65536=fiS bs as_ js i k (itr (fiS bs as_ js i) k 65536):=H7 ..
  have hfin:as_.length<=k->itr (fiS bs as_ js i) k 65536=itr (fiS bs as_ js i) as_.length 65536:=λh=>by rw[show k=as_.length by omega]
  generalize itr (fiS bs as_ js i) k 65536=v at hn hfin⊢;refine st_ ?_;by_cases hlt:k<as_.length;rotate_left
  ·rw[zb o_,<-hfin o_];by_cases hv:v=65536
   ·rw[zc (by simpa using hv),zc hv];exact⟨rfl,rfl⟩
   ·rw[zb (by simpa using hv),zb hv];exact⟨rfl,rfl⟩
  rw[zc o_];refine⟨bE_,?_⟩;rw[fiS.eq_1 bs as_ js i k v,hb0]at hn;have hok:=ha _ (B6 dF_ hlt);generalize as_.getD k dF_=o at hn hok⊢;refine A0 (B1s js b.ID o.ID hj) rfl ?_;generalize js.any (C54 b.ID o.ID)=c at hn⊢;refine st_ ?_;by_cases hc:(((k:Nat):Int) != ((i:Nat):Int)&& !c)=true
  ·rw[zc hc];rw[zc (show(decide (k≠i)&& !c)=true by simp at hc⊢;exact⟨o_,hc.2⟩)]at hn;refine⟨o_,?_⟩;refine A0 (D1z (bs.getD i dF_) b o hbi hok) rfl (st_ ?_);refine A8 ⟨k+1,o_⟩ (by show as_.length-(k+1)<as_.length-k;omega) ?_;simp only[hn];refine A9 [] [] (st_ ?_);exact eE_
  ·rw[zb hc];rw[zb (show ¬(decide (k≠i)&& !c)=true by simp at hc⊢;intro h;exact hc o_)]at hn;refine A8 ⟨k+1,o_⟩ (by show as_.length-(k+1)<as_.length-k;omega) ?_;simp only[hn];refine A9 [] [] (st_ ?_);exact eE_
def stR(bs as_:List cE)(js:List cF)(i:Nat):cE×Bool:=if(fiR bs as_ js i).2=true then({as_.getD i dF_ with cJ:=A2a (bs.getD i dF_).cJ (as_.getD i dF_).cJ (fiR bs as_ js i).1},true)else(as_.getD i dF_,false)
theorem E6e(bs as_:List cE)(js:List cF)(i:Nat)(hlen:bs.length=as_.length)(hi:i<as_.length)(hl:as_.length<=1048576)(hb: ∀b∈bs,cE.sm b)(ha: ∀b∈as_,cE.sm b)(hj:js.length<=1048576):
  cA_ 197 [A4 20 cE.enc dF_ bs,A4 20 cE.enc dF_ as_,A4 24 cF.enc dF_ js,sI (i:Nat)] [] (.tup [.agg (stR bs as_ js i).1.enc,sB ((stR bs as_ js i).2)]) []:=by
 have hF:=C9c bs as_ js i hlen hi hl hb ha hj
 have hr:=stR.eq_1 bs as_ js i
 have hbi:=ha _ (B6 dF_ hi);generalize fiR bs as_ js i=r at hF hr;obtain⟨r1,r2⟩:=r;dsimp only at hr hF;rw[hr];refine S3 48 [(8,some (some 20)),(9,none)] hm A6 Tryz.func197 rfl ?_;cases r2 with
 |false=>rw[zb p_];refine st_ ?_;rw[zb (by split <;> simp <;> omega)];refine⟨bE_,?_⟩;refine A0 (A40 _ hbi) rfl (st_ ?_);refine A0 hF rfl ?_;simp only[go_sem,go_sem_proc]
 |true=>rw[zc rfl];refine st_ ?_;rw[zb (by split <;> simp <;> omega)];refine⟨bE_,?_⟩;refine A0 (A40 _ hbi) rfl (st_ ?_);refine A0 hF rfl (st_ ?_);refine⟨o_,?_⟩;refine A0 (B08 (bs.getD i dF_).cJ (as_.getD i dF_).cJ r1) rfl ?_;simp only[go_sem,go_sem_proc]
def stB(bs as_:List cE)(js:List cF)(n:Nat):List cE:=(List.range n).map λi=>(stR bs as_ js i).1
def E6n(bs as_:List cE)(js:List cF)(i:Nat):Option Api.Event:=if(stR bs as_ js i).2=true then some ⟨8,⟨(stR bs as_ js i).1.ID,0,0,0⟩⟩else none
def B1h(bs as_:List cE)(js:List cF)(n:Nat):List Api.Event:=(List.range n).filterMap (E6n bs as_ js)
theorem D53(bs as_:List cE)(js:List cF)(n:Nat):(stB bs as_ js n).length=n:=by simp[stB]
theorem E1e(bs as_:List cE)(js:List cF)(n:Nat):(B1h bs as_ js n).length<=n:=qd (qC ..) p_
theorem F1v(bs as_:List cE)(js:List cF)(n:Nat):stB bs as_ js (n+1)=stB bs as_ js n++ [(stR bs as_ js n).1]:=by simp[stB,List.range_succ]
theorem E8z(bs as_:List cE)(js:List cF)(n:Nat):B1h bs as_ js (n+1)=B1h bs as_ js n++(E6n bs as_ js n).toList:=by simp only[B1h,List.range_succ,xc];congr 1
theorem D7r(bs as_:List cE)(js:List cF)(hlen:bs.length=as_.length)(hl:as_.length<=1048576)(hb: ∀b∈bs,cE.sm b)(ha: ∀b∈as_,cE.sm b)(hj:js.length<=1048576):
  cA_ 117 [A4 20 cE.enc dF_ bs,A4 20 cE.enc dF_ as_,A4 24 cF.enc dF_ js] [] (.tup [A4 20 cE.enc dF_ (stB bs as_ js as_.length), .sl 1 0 (B1h bs as_ js as_.length).length (B1h bs as_ js as_.length).length]) [(1, .arr 5 (B0 Api.Event.enc dF_ (B1h bs as_ js as_.length)))]:=by
 refine A3a hm A6 Tryz.func117 rfl rfl (st_ ?_);refine B1 hm (ι:= {i:Nat // i<=as_.length}) (λi=> [(0, .cA,A4 20 cE.enc dF_ bs),(1, .cA,A4 20 cE.enc dF_ as_),(2, .cA,A4 24 cF.enc dF_ js),(8,mdA i.1, .sl 2 0 (stB bs as_ js i.1).length (stB bs as_ js i.1).length),(9,mdA i.1, .sl 1 0 (B1h bs as_ js i.1).length (B1h bs as_ js i.1).length),(14, .cA,sI as_.length),(15, .cA,sI (i.1:Nat))]) (λi=> [(1, .arr 5 (B0 Api.Event.enc dF_ (B1h bs as_ js i.1))),(2, .arr 20 (B0 cE.enc dF_ (stB bs as_ js i.1)))]) (λi=>as_.length-i.1) ⟨0,zm _⟩ ?_ ?_
 ·simp only[show B1h bs as_ js 0= []from rfl,show stB bs as_ js 0= []from rfl];refine A9 [] [1,2] ?_;simp only[go_sem,go_sem_proc]
 ·rintro⟨i,hi⟩;dsimp only;have hB:=F1v bs as_ js i
  have hE:=E8z bs as_ js i
  have lB:=D53 bs as_ js i
  have lE:=E1e bs as_ js i
  have fB:as_.length<=i->stB bs as_ js i=stB bs as_ js as_.length:=λh=>by rw[show i=as_.length by omega]
  have fE:as_.length<=i->B1h bs as_ js i=B1h bs as_ js as_.length:=λh=>by rw[show i=as_.length by omega]
  generalize stB bs as_ js i=B at hB lB fB⊢;generalize B1h bs as_ js i=E at hE lE fE⊢;refine st_ ?_;by_cases hlt:i<as_.length;rotate_left
  ·rw[zb o_,<-fB o_,<-fE o_];refine B8 [.eP, .cA] [] [] ?_;simp only[go_sem,go_sem_proc]
  rw[zc o_];refine A0 (E6e bs as_ js i hlen hlt hl hb ha hj) rfl ?_;rw[E6n.eq_1 bs as_ js i]at hE;generalize stR bs as_ js i=r at hB hE⊢;obtain⟨r1,r2⟩:=r;dsimp only at hB hE;cases r2 with
  |false=>rw[zb p_]at hE;simp only[Option.toList,qF]at hE;refine st_ ?_;refine⟨bE_,?_⟩;refine A8 ⟨i+1,o_⟩ (by show as_.length-(i+1)<as_.length-i;omega) ?_;simp only[hB,hE];refine A9 [] [] (st_ ?_);exact eE_
  |true=>rw[zc rfl]at hE;simp only[Option.toList]at hE;refine st_ ?_;refine⟨bE_,bE_,?_⟩;refine A8 ⟨i+1,o_⟩ (by show as_.length-(i+1)<as_.length-i;omega) ?_;simp only[hB,hE];refine A9 [] [] (st_ ?_);exact eE_
theorem P8 {P:Program}{m:Nat->Option A7}{f:FuncId}{avs:List AV}{b:Bool}{Q:ContR}{O O':List (Nat×A7)}{r:AV}(hc:D5 P f avs O r O')(h:okO O)(hk:O'.map (·.1)=O.map (·.1))(hm: ∀p∈O,m p.1=some p.2)
  (ha: ∀a∈avs,∀i∈a.ids,(ofL O i).isSome)(hb:b=true)(hK: @Ri Q b ⟨some r,O'⟩): @A25 P m f avs b Q:=by
 rw[<-C2b O']at hK;have hiff: ∀i,(ofL O' i).isSome↔(ofL O i).isSome:=λi=>by
  have key: ∀(l:List (Nat×A7)),(l.map (·.1)).Nodup->((ofL l i).isSome↔i∈l.map (·.1)):=λl hl=>by
   constructor
   ·intro hs;obtain⟨o,ho⟩:=qr.1 hs;exact qS (f:=(·.1)) (A0z hl ho)
   ·intro hs;rw[qL]at hs;obtain⟨p,hp,rfl⟩:=hs;rw[B01 hl hp];rfl
  rw[key O' (by rw[hk];exact h.1),key O h.1,hk]
 refine⟨⟨some r,A3v id O'⟩,λ_=> ?_,λ_=>hb,hK⟩;have:=O9.mk (P:=P) (m:=m) (avs.map λ_=>true) avs O r O' id [] false hc (A86 ha)
  (λi o hi=>by rw[B1j];exact hm _ (A0z h.1 hi))
  (λi cs hi j hj=>h.2 _ (A0z h.1 hi) cs rfl j hj) (λi hi=>(hiff i).2 hi) (λi hi=> .inl ((hiff i).1 hi)) (by show(O'.map (·.1)).Nodup;rw[hk];exact h.1) (λe=>by cases e)
 simpa[AV.ren_id]using this
def B3j(n:Nat)(l:List Int)(i:Int):List Int:=if 0<=i/\i<n then l++ [i]else l
def A4f(w:Api.World)(l:List Int)(id:Int):List Int:=if id≠0 then B3j w.cC.length l (H5 w id)else l
def D4q(w:Api.World)(l:List Int):List (Nat×A7):= [(48, .box w.enc),(96, .box [.sl 1 0 l.length l.length]),(1, .arr 1 (B0 C8 0 l)),(112, .box [.fn (.func 295) [] [.ptr 48 0 0 1, .ptr 96 0 0 1]])]
attribute [go_sem] D4q
theorem B5l(w:Api.World)(l:List Int):okO (D4q w l):=by refine⟨g_,?_⟩;simp[go_sem]
theorem C21(n:Nat)(l:List Int)(i:Int):(B3j n l i).length<=l.length+1:=by unfold B3j;split <;> simp
theorem B2w(w:Api.World)(l:List Int)(i:Int):(A4f w l i).length<=l.length+1:=by
 unfold A4f;split
 ·exact C21 _ _ _
 ·omega
theorem B6e(w:Api.World)(l:List Int)(i:Int)(hl:l.length<=10000000):cA_ 295 [sI i, .ptr 48 0 0 1, .ptr 96 0 0 1] (D4q w l) (.tup []) (D4q w (B3j w.cC.length l i)):=by
 refine A3a hm A6 Tryz.func295 rfl rfl (sg_ ?_);by_cases hc:0<=i/\i<(w.cC.length:Int)
 ·have he:B3j w.cC.length l i=l++ [i]:=by unfold B3j;rw[zc hc]
  rw[zc (by rw[zc hc.1];exact zT hc.2)];refine⟨ok_,?_⟩;refine B8 [] [] [] ?_;simp only[go_sem,he,zd,List.length_singleton];exact A0q i rfl rfl
 ·have he:B3j w.cC.length l i=l:=by unfold B3j;rw[zb hc]
  rw[zb (by
   intro h;apply hc;by_cases c1:0<=i
   ·rw[zc c1]at h;exact⟨c1,yc h⟩
   ·rw[zb c1]at h;cases h)]
  refine B8 [] [] [] ?_;simp only[go_sem,he]
theorem A69(w:Api.World)(l:List Int)(i:Int)(hl:l.length<=10000000)(hw:w.cC.length<=1048576):cA_ 296 [sI i, .ptr 112 0 0 1, .ptr 48 0 0 1] (D4q w l) (.tup []) (D4q w (A4f w l i)):=by
 refine A3a hm A6 Tryz.func296 rfl rfl (sg_ ?_);by_cases hc:i=0
 ·have he:A4f w l i=l:=by unfold A4f;rw[zb (by simp[hc])]
  rw[zb (by simp[hc])];refine B8 [] [] [] ?_;simp only[go_sem,he]
 ·have he:A4f w l i=B3j w.cC.length l (H5 w i):=by unfold A4f;rw[zc hc]
  rw[zc (by simp[hc])];refine A0 (T1 w i hw) rfl (sg_ ?_);refine P8 (B6e w l (H5 w i) hl) (B5l w l) rfl g_ g_ rfl (sg_ ?_);refine B8 [] [] [] ?_;simp only[go_sem,he]
def A9x(w:Api.World)(l:List Int)(i:Int):List Int:=if 0<=i/\i<w.cB.length then A4f w (A4f w l (w.cB.getD i.toNat dF_).dU.cU) (w.cB.getD i.toNat dF_).dU.cV else l
def A9f(w:Api.World)(l:List Int)(i:Int):List Int:=if 0<=i/\i<w.cD.length then A4f w (A4f w l (w.cD.getD i.toNat dF_).cU) (w.cD.getD i.toNat dF_).cV else l
def A9w(w:Api.World)(x:B3):List Int:=x.cC.foldl (B3j w.cC.length) []
def A9d(w:Api.World)(x:B3):List Int:=x.cB.foldl (A9x w) (A9w w x)
def A9e(w:Api.World)(x:B3):List Int:=x.cD.foldl (A9f w) (A9d w x)
theorem D0y(w:Api.World)(l:List Int)(i:Int):(A9x w l i).length<=l.length+2:=by
 unfold A9x;split
 ·have h1:=B2w w (A4f w l (w.cB.getD i.toNat dF_).dU.cU) (w.cB.getD i.toNat dF_).dU.cV
  have h2:=B2w w l (w.cB.getD i.toNat dF_).dU.cU;omega
 ·omega
theorem D0z(w:Api.World)(l:List Int)(i:Int):(A9f w l i).length<=l.length+2:=by
 unfold A9f;split
 ·have h1:=B2w w (A4f w l (w.cD.getD i.toNat dF_).cU) (w.cD.getD i.toNat dF_).cV
  have h2:=B2w w l (w.cD.getD i.toNat dF_).cU;omega
 ·omega
theorem A8o {f:List Int->Int->List Int}{k:Nat}(hf: ∀l i,(f l i).length<=l.length+k)(l:List Int): ∀(acc:List Int),(l.foldl f acc).length<=acc.length+k*l.length:=by
 induction l with
 |nil=>intro acc;simp
 |cons a l ih=>intro acc;have:=ih (f acc a);have:=hf acc a;simp only[List.foldl_cons,List.length_cons,Nat.mul_add];omega
theorem B6b {f:List Int->Int->List Int}{l:List Int}{k:Nat}{acc:List Int}(h:k<l.length):(l.take (k+1)).foldl f acc=f ((l.take k).foldl f acc) (l.getD k 0):=by rw[K9 0 h];simp
def E40(w:Api.World)(x:B3)(l:List Int):List (Nat×A7):= [(48, .box w.enc),(64, .box x.enc),(96, .box [.sl 1 0 l.length l.length]),(1, .arr 1 (B0 C8 0 l)),(112, .box [.fn (.func 295) [] [.ptr 48 0 0 1, .ptr 96 0 0 1]])]
attribute [go_sem] E40
def J7(w:Api.World)(x:B3):List Int:=B5u (B52 (A9e w x))
theorem C0s(w:Api.World)(x:B3)(hw:Wsm w)(hx:Ism x):cA_ 178 [.agg w.enc, .agg x.enc] [] (.sl 1 0 (J7 w x).length (A9e w x).length)
  [(1, .arr 1 (B0 C8 0 (J7 w x++List.replicate ((A9e w x).length-(J7 w x).length) 0)))]:=by
 obtain⟨w1,w2,w3,w4,w5,w6⟩:=hw;obtain⟨x1,x2,x3⟩:=hx;refine I6 hm A6 Tryz.func178 rfl rfl (sg_ ?_);refine B1 hm (ι:= {i:Nat // i<=x.cC.length}) (λi=> [(2, .cA, .ptr 48 0 0 1),(3, .cA, .ptr 64 0 0 1),(5, .cA, .ptr 96 0 0 1),(6, .cA, .ptr 112 0 0 1),(7, .cA, .fn (.func 296) [] [.ptr 112 0 0 1, .ptr 48 0 0 1]),(17, .cA,A4 1 C8 0 x.cC),(18, .cA,sI x.cC.length),(19, .cA,sI i.1)])
  (λi=>E40 w x ((x.cC.take i.1).foldl (B3j w.cC.length) [])) (λi=>x.cC.length-i.1) ⟨0,o_⟩ ?_ ?_
 ·refine D8 [] [1] ?_;simp only[go_sem]
 ·rintro⟨i,hi⟩;have hn:=A8o (C21 w.cC.length) (x.cC.take i) []
  have hn:((x.cC.take i).foldl (B3j w.cC.length) []).length<=10000000:=by simp only[zt,List.length_nil]at hn;omega
  refine sg_ ?_;split
  ·rename_i hlt;have hlt:i<x.cC.length:=o_
   refine⟨ok_,?_⟩;refine P8 (B6e w _ (x.cC.getD i 0) hn) (B5l w _) rfl g_ g_ rfl (sg_ ?_);refine A8 ⟨i+1,o_⟩ (by show x.cC.length-(i+1)<x.cC.length-i;omega) (D8 [] [] ?_);simp only[go_sem,B6b hlt];exact wo_
  ·rename_i hge;obtain rfl:i=x.cC.length:=o_
   have hb1:(A9w w x).length<=1048576:=by have:=A8o (C21 w.cC.length) x.cC [];simp only[List.length_nil]at this;unfold A9w;omega
   refine B1 hm (ι:= {i:Nat // i<=x.cB.length}) (λi=> [(2, .cA, .ptr 48 0 0 1),(3, .cA, .ptr 64 0 0 1),(5, .cA, .ptr 96 0 0 1),(7, .cA, .fn (.func 296) [] [.ptr 112 0 0 1, .ptr 48 0 0 1]),(28, .cA,A4 1 C8 0 x.cB),(29, .cA,sI x.cB.length),(30, .cA,sI i.1)])
    (λi=>E40 w x ((x.cB.take i.1).foldl (A9x w) (A9w w x))) (λi=>x.cB.length-i.1) ⟨0,o_⟩ ?_ ?_
   ·refine D8 [] [] ?_;simp only[go_sem,zn,A9w]
   ·rintro⟨i,hi⟩;have hn:=A8o (D0y w) (x.cB.take i) (A9w w x)
    have hn:((x.cB.take i).foldl (A9x w) (A9w w x)).length<=4000000:=by simp only[zt]at hn;omega
    refine sg_ ?_;split
    ·rename_i hlt;have hlt:i<x.cB.length:=o_
     refine⟨ok_,?_⟩;by_cases hc:0<=x.cB.getD i 0/\x.cB.getD i 0<(w.cB.length:Int)
     ·have he:A9x w ((x.cB.take i).foldl (A9x w) (A9w w x)) (x.cB.getD i 0)=A4f w (A4f w ((x.cB.take i).foldl (A9x w) (A9w w x)) (w.cB.getD (x.cB.getD i 0).toNat dF_).dU.cU) (w.cB.getD (x.cB.getD i 0).toNat dF_).dU.cV:=by unfold A9x;rw[zc hc]
      rw[zc (by rw[zc hc.1];exact zT hc.2)];refine⟨⟨hc.1,hc.2⟩,?_⟩;have hn2:=B2w w ((x.cB.take i).foldl (A9x w) (A9w w x)) (w.cB.getD (x.cB.getD i 0).toNat dF_).dU.cU;refine P8 (A69 w ((x.cB.take i).foldl (A9x w) (A9w w x)) (w.cB.getD (x.cB.getD i 0).toNat dF_).dU.cU o_ w1) (B5l w _) rfl g_ g_ rfl (sg_ ?_);refine⟨⟨hc.1,hc.2⟩,?_⟩;refine P8 (A69 w (A4f w ((x.cB.take i).foldl (A9x w) (A9w w x)) (w.cB.getD (x.cB.getD i 0).toNat dF_).dU.cU) (w.cB.getD (x.cB.getD i 0).toNat dF_).dU.cV o_ w1) (B5l w _) rfl g_ g_ rfl (sg_ ?_);refine A8 ⟨i+1,o_⟩ (by show x.cB.length-(i+1)<x.cB.length-i;omega) (D8 [] [] ?_);simp only[go_sem,B6b hlt,he];exact wo_
     ·have he:A9x w ((x.cB.take i).foldl (A9x w) (A9w w x)) (x.cB.getD i 0)=((x.cB.take i).foldl (A9x w) (A9w w x)):=by unfold A9x;rw[zb hc]
      rw[zb (by
       intro h;apply hc;by_cases c1:0<=x.cB.getD i 0
       ·rw[zc c1]at h;exact⟨c1,yc h⟩
       ·rw[zb c1]at h;cases h)]
      refine A8 ⟨i+1,o_⟩ (by show x.cB.length-(i+1)<x.cB.length-i;omega) (D8 [] [] ?_);simp only[go_sem,B6b hlt,he];exact wo_
    ·rename_i hge;obtain rfl:i=x.cB.length:=o_
     have hb2:(A9d w x).length<=4000000:=by have:=A8o (D0y w) x.cB (A9w w x);unfold A9d;omega
     refine B1 hm (ι:= {i:Nat // i<=x.cD.length}) (λi=> [(2, .cA, .ptr 48 0 0 1),(5, .cA, .ptr 96 0 0 1),(7, .cA, .fn (.func 296) [] [.ptr 112 0 0 1, .ptr 48 0 0 1]),(63, .cA,A4 1 C8 0 x.cD),(64, .cA,sI x.cD.length),(65, .cA,sI i.1)])
      (λi=>E40 w x ((x.cD.take i.1).foldl (A9f w) (A9d w x))) (λi=>x.cD.length-i.1) ⟨0,o_⟩ ?_ ?_
     ·refine D8 [] [] ?_;simp only[go_sem,zn,A9d]
     ·rintro⟨i,hi⟩;have hn:=A8o (D0z w) (x.cD.take i) (A9d w x)
      have hn:((x.cD.take i).foldl (A9f w) (A9d w x)).length<=8000000:=by simp only[zt]at hn;omega
      refine sg_ ?_;split
      ·rename_i hlt;have hlt:i<x.cD.length:=o_
       refine⟨ok_,?_⟩;by_cases hc:0<=x.cD.getD i 0/\x.cD.getD i 0<(w.cD.length:Int)
       ·have he:A9f w ((x.cD.take i).foldl (A9f w) (A9d w x)) (x.cD.getD i 0)=A4f w (A4f w ((x.cD.take i).foldl (A9f w) (A9d w x)) (w.cD.getD (x.cD.getD i 0).toNat dF_).cU) (w.cD.getD (x.cD.getD i 0).toNat dF_).cV:=by unfold A9f;rw[zc hc]
        rw[zc (by rw[zc hc.1];exact zT hc.2)];refine⟨⟨hc.1,hc.2⟩,?_⟩;have hn2:=B2w w ((x.cD.take i).foldl (A9f w) (A9d w x)) (w.cD.getD (x.cD.getD i 0).toNat dF_).cU;refine P8 (A69 w ((x.cD.take i).foldl (A9f w) (A9d w x)) (w.cD.getD (x.cD.getD i 0).toNat dF_).cU o_ w1) (B5l w _) rfl g_ g_ rfl (sg_ ?_);refine⟨⟨hc.1,hc.2⟩,?_⟩;refine P8 (A69 w (A4f w ((x.cD.take i).foldl (A9f w) (A9d w x)) (w.cD.getD (x.cD.getD i 0).toNat dF_).cU) (w.cD.getD (x.cD.getD i 0).toNat dF_).cV o_ w1) (B5l w _) rfl g_ g_ rfl (sg_ ?_);refine A8 ⟨i+1,o_⟩ (by show x.cD.length-(i+1)<x.cD.length-i;omega) (D8 [] [] ?_);simp only[go_sem,B6b hlt,he];exact wo_
       ·have he:A9f w ((x.cD.take i).foldl (A9f w) (A9d w x)) (x.cD.getD i 0)=((x.cD.take i).foldl (A9f w) (A9d w x)):=by unfold A9f;rw[zb hc]
        rw[zb (by
         intro h;apply hc;by_cases c1:0<=x.cD.getD i 0
         ·rw[zc c1]at h;exact⟨c1,yc h⟩
         ·rw[zb c1]at h;cases h)]
        refine A8 ⟨i+1,o_⟩ (by show x.cD.length-(i+1)<x.cD.length-i;omega) (D8 [] [] ?_);simp only[go_sem,B6b hlt,he];exact wo_
      ·rename_i hge;obtain rfl:i=x.cD.length:=o_
       have hb3:(A9e w x).length<=8000000:=by have:=A8o (D0z w) x.cD (A9d w x);unfold A9e;omega
       have hb4:=C0h (A9e w x)
       have ebod:(x.cD.take x.cD.length).foldl (A9f w) (A9d w x)=A9e w x:=by rw[zn];rfl
       simp only[go_sem,ebod];refine P8 (C9n (A9e w x) o_) (by refine⟨p_,?_⟩;simp) rfl g_ g_ rfl ?_;simp only[go_sem,ebod];have hS:=C4e (B52 (A9e w x)) o_;rw[hb4]at hS;refine P8 hS (by refine⟨p_,?_⟩;simp) rfl g_ g_ rfl ?_;refine sg_ ?_;refine B8 [.cA] [] [] ?_;simp only[go_sem,J7]
end Go.Abs
end
