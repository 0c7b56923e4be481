/- A part of the proof: contracts of functions that the statement reaches. -/
import Derived.Test.YtchcbiiammkhgaaGreatMJ
set_option linter.unusedSimpArgs false
set_option linter.unusedVariables false
set_option linter.unnecessarySimpa false
set_option maxRecDepth 100000
set_option maxHeartbeats 2000000
noncomputable section
namespace Go.Abs
open Go.Proofs
open Api
def D1h(l:List PairKey):List AV:= [A2 4 PairKey.enc default l]
attribute [go_sem] D1h
theorem C93(n:Nat)(h0:0<n)(hn:n<=4194304):A1 Tryz.prog B20 [.sc (.slice none 0 0),sI n] [] (.sl 1 0 0 n) [(1, .arr 4 ⟨n,λ_=>PairKey.zero⟩)]:=by
 have w1:IntKind.i64.wrap (0-0)=0:=rfl
 have w2:IntKind.i64.wrap ((n:Int)-0)=n:=by rw[IntKind.wrap_i64];omega
 refine H8 hm A4 Tryz.func240 rfl rfl ?_;simp only[go_sem];rw[if_neg (by omega)];simp only[w1,w2];rw[if_pos (by omega)];refine⟨ok_,?_⟩;refine⟨by omega,?_⟩;simp only[Int.toNat_natCast];refine C8 [.share] [(1,368)] [] rfl rfl (by simp) (by simp) (by simp) ?_;simp only[go_sem];simp
theorem C35(n:Nat)(hn:n<=4194304):A1 Tryz.prog B20 [.sc (.slice none 0 0),sI n] [] (.sl 1 0 0 0) [(1, .arr 4 (A8 PairKey.enc default []))]:=by
 rcases Nat.eq_zero_or_pos n with rfl |h0
 ·have w1:IntKind.i64.wrap (0-0)=0:=rfl
  refine H8 hm A4 Tryz.func240 rfl rfl ?_;simp only[go_sem];rw[if_neg (by omega)];simp only[w1];rw[if_neg (by decide)];refine C8 [.adopt] [] [1] rfl rfl (by simp) (by simp[A6]) (by simp) ?_;simp only[go_sem]
 ·exact(C93 n h0 hn).shrink rfl _
def A7j(L:List (List PairKey))(k:Nat):Nat:=((L.take k).flatten).length
theorem D79 {L:List (List PairKey)}{k:Nat}(h:k<L.length):A7j L (k+1)=A7j L k+(L.getD k default).length:=by unfold A7j;rw[K9 default h];simp
theorem C6d(L:List (List PairKey))(k:Nat):A7j L k<=L.flatten.length:=by
 unfold A7j;have:L.flatten=(L.take k).flatten++(L.drop k).flatten:=by rw[<-List.flatten_append,List.take_append_drop]
 rw[this,List.length_append];omega
theorem C0d(L:List (List PairKey))(hL:L.flatten.length<=4194304)(hl:L.length<=1000):A1 Tryz.prog B93 [A2 1 D1h default L] [] (A2 4 PairKey.enc default L.flatten) []:=by
 refine en1 hm A4 Tryz.func147 rfl rfl ?_;simp only[go_sem];refine B0 hm (ι:= {i:Nat // i<=L.length}) (λi=> [(0, .share,A2 1 D1h default L),(3, .share,sI (A7j L i.1)),(9, .share,A2 1 D1h default L),(10, .share,sI L.length),(11, .share,sI i.1)])
  (λi=> []) (λi=>L.length-i.1) ⟨0,by omega⟩ ?_ ?_
 ·refine D7 [] [] ?_;simp only[go_sem];simp[A7j]
 ·rintro⟨i,hi⟩;have hs:=C6d L i;simp only[go_sem];by_cases hlt:(i:Int)<L.length
  ·rw[if_pos hlt];have hlt:i<L.length:=by omega
   have hs2:=C6d L (i+1)
   have he:=D79 hlt;refine⟨ok_,?_⟩;have hw:IntKind.i64.wrap ((A7j L i:Int)+((L.getD i default).length:Int))=(A7j L (i+1):Int):=by rw[IntKind.wrap_i64,he];omega
   rw[hw,if_neg (by omega)];refine A7 ⟨i+1,by omega⟩ (by show L.length-(i+1)<L.length-i;omega) (D7 [] [] ?_);simp only[go_sem];exact(by rw[IntKind.wrap_i64];omega)
  ·rw[if_neg hlt];obtain rfl:i=L.length:=by omega
   have hfull:A7j L L.length=L.flatten.length:=by unfold A7j;rw[List.take_length]
   refine E3 [true,true] [(1,7)] (C35 (A7j L L.length) (by omega)) (by simp) (by simp) (by simp) (by simp) ?_;simp only[go_sem];refine B0 hm (ι:= {i:Nat // i<=L.length}) (λi=> [(6, .share, .sl 7 0 (A7j L i.1) (A7j L i.1)),(25, .share,A2 1 D1h default L),(26, .share,sI L.length),(27, .share,sI i.1)])
    (λi=> [(7, .arr 4 (A8 PairKey.enc default (L.take i.1).flatten))]) (λi=>L.length-i.1) ⟨0,by omega⟩ ?_ ?_
   ·refine D7 [] [] ?_;simp only[go_sem];simp[A7j,List.take_zero,go_sem]
   ·rintro⟨i,hi⟩;have hs:=C6d L i;simp only[go_sem];by_cases hlt:(i:Int)<L.length
    ·rw[if_pos hlt];have hlt:i<L.length:=by omega
     have hs2:=C6d L (i+1)
     have he:=D79 hlt
     have hm0:(L.take i).flatten.length=A7j L i:=rfl;refine⟨ok_,?_⟩;refine⟨⟨by omega,by omega,by omega,by simp only[maxLen];omega⟩,?_⟩;refine A7 ⟨i+1,by omega⟩ (by show L.length-(i+1)<L.length-i;omega) (D7 [] [] ?_);simp only[go_sem]
     all_goals((repeat' (with_reducible apply And.intro)) <;> first |(rw[IntKind.wrap_i64];omega) |exact he.symm |exact A3p (by rw[K9 default hlt];simp))
    ·rw[if_neg hlt];obtain rfl:i=L.length:=by omega
     simp only[go_sem,List.take_length];exact⟨hfull,by rw[hfull];exact I4 _⟩
theorem F0x {α:Type}{l:List α}{p:α->Bool}{i:Nat}(d:α)(h:(l.take i).all p=true)(hi:i<l.length)(hp:p (l.getD i d)=true):(l.take (i+1)).all p=true:=by rw[K9 d hi,List.all_append,h];simpa using hp
theorem E7d {α:Type}{l:List α}{p:α->Bool}{i:Nat}(d:α)(hi:i<l.length)(hp:p (l.getD i d)=false):l.all p=false:=by rw[List.all_eq_false];exact⟨_,B7 d hi,by rw[hp];simp⟩
theorem F26 {α:Type}{l:List α}{p:α->Bool}(h:(l.take l.length).all p=true):l.all p=true:=by rwa[List.take_length]at h
def A99(w:Api.World)(k:PairKey):Bool:= !(A4v w k)
theorem B9t(w:Api.World)(k:PairKey)(hw:w.Bodies.length<=1048576):A1 Tryz.prog A9z [.agg k.enc, .ptr 32 0 0 1] [(32, .box w.enc)] (sB (A99 w k)) [(32, .box w.enc)]:=by refine H8 hm A4 Tryz.func148 rfl rfl ?_;simp only[go_sem];refine A0 (C37 w k hw) rfl ?_;simp only[go_sem];refine C8 [.share] [] [] rfl rfl (by simp[go_sem]) (by simp[A6,go_sem]) (by simp[go_sem]) ?_;simp only[go_sem,A99]
def A5u(w:Api.World):List PairKey:=w.Contacts.map λc=>c.Key
def A8m(w:Api.World):Bool:=w.Contacts.all (λc=>G8 c.Manifold)&&N4 (A5u w)&&N4 w.Overlaps&& !((A5u w++w.Overlaps).any (A99 w))
theorem G3g(w:Api.World):okO [(32, .box w.enc)]:=by refine⟨by simp[go_sem],?_⟩;simp[go_sem,F4,AV.ids]
theorem C38(w:Api.World)(hw:Wsm w):A1 Tryz.prog C3c [.agg w.enc] [] (sB (A8m w)) []:=by
 obtain⟨w1,w2,w3,w4,w5,w6⟩:=hw;refine en1 hm A4 Tryz.func89 rfl rfl ?_;simp only[go_sem];refine B0 hm (ι:= {i:Nat // i<=w.Contacts.length/\(w.Contacts.take i).all (λc=>G8 c.Manifold)=true}) (λi=> [(1, .share, .ptr 32 0 0 1),(3,if i.1=0 then .adopt else .share, .sl 7 0 i.1 i.1),(7, .share,A2 7 Contact.enc default w.Contacts),(8, .share,sI w.Contacts.length),(9, .share,sI i.1)])
  (λi=> [(32, .box w.enc),(7, .arr 4 (A8 PairKey.enc default ((w.Contacts.take i.1).map λc=>c.Key)))]) (λi=>w.Contacts.length-i.1) ⟨0,by omega,rfl⟩ ?_ ?_
 ·refine D7 [] [7] ?_;simp only[go_sem,List.take_zero,List.map_nil]
 ·rintro⟨i,hi,ht⟩;simp only[go_sem];by_cases hlt:(i:Int)<w.Contacts.length
  ·rw[if_pos hlt];have hlt:i<w.Contacts.length:=by omega
   have hmm:=B7 default hlt;refine⟨ok_,?_⟩;refine A0 (C39 (w.Contacts.getD i default).Manifold (w6 _ hmm)) rfl ?_;simp only[go_sem];cases hv:G8 (w.Contacts.getD i default).Manifold with
   |false=>rw[if_pos rfl];unfold A8m;have:=E7d (p:=λc:Contact=>G8 c.Manifold) default hlt hv;rw[this];rfl
   |true=>
    rw[if_neg (by simp)];have hlen:(List.map (λc:Contact=>c.Key) (List.take i w.Contacts)).length=i:=by simp;omega
    refine⟨⟨by omega,by omega,by simp only[maxLen];omega⟩,?_⟩;refine A7 ⟨i+1,by omega,F0x default ht hlt hv⟩ (by show w.Contacts.length-(i+1)<w.Contacts.length-i;omega) (D7 [] [] ?_);simp only[go_sem];refine⟨by omega,(by rw[IntKind.wrap_i64];omega),A1q (w.Contacts.getD i default).Key rfl ?_⟩;rw[K9 default hlt,List.map_append];rfl
  ·rw[if_neg hlt];obtain rfl:i=w.Contacts.length:=by omega
   have hall:=F26 ht
   have hk:(List.map (λc:Contact=>c.Key) (List.take w.Contacts.length w.Contacts))=A5u w:=by rw[List.take_length];rfl
   have hkl:(A5u w).length=w.Contacts.length:=by simp[A5u]
   simp only[hk];refine A5i (B10 (A5u w) (by omega)) rfl ?_ ?_
   ·simp only[A07,go_sem,hkl]
   simp only[go_sem];refine A0 (B10 w.Overlaps w4) rfl ?_;simp only[go_sem,C3,C5,hk,hkl];have hok:A8m w=(N4 (A5u w)&&N4 w.Overlaps&& !((A5u w++w.Overlaps).any (A99 w))):=by unfold A8m;rw[hall,Bool.true_and]
   rw[hok];cases N4 (A5u w)with
   |false=>rfl
   |true=>
    cases N4 w.Overlaps with
    |false=>rfl
    |true=>
     rw[if_neg (by simp)];have hC:=C0d [A5u w,w.Overlaps] (by simp;omega) (by simp)
     have hflat: [A5u w,w.Overlaps].flatten=A5u w++w.Overlaps:=by simp
     rw[hflat]at hC;refine A5j hC ?_;simp only[A07,go_sem];refine⟨A2e (λ_ _=>rfl) (by simp[D1h,A2,hkl]) rfl rfl,?_⟩;refine E3 [true,true] [] (B4x (A5u w++w.Overlaps) A9z [] [.ptr 32 0 0 1] [(32, .box w.enc)] (A99 w) (by rw[List.length_append];omega) (G3g w) (by simp[go_sem,AV.ids]) (λk _=>B9t w k w1)) (by simp) (by simp) (by simp) (by simp[go_sem]) ?_;simp only[go_sem]
def Q2(w:Api.World)(i1:Nat)(s1:Unit):(Unit) ⊕ (Bool):=let v6:=(A1t (w.Contacts.getD i1 default).Manifold);if v6=false then(.inr false)else(.inl ())
def R8(w:Api.World):Bool:=let v1:=(A36 w.Contacts);let v2:=(T5 v1);let v3:=(T5 w.Overlaps);let v4:=(A2n w v1);let v5:=(A2n w w.Overlaps);if((((!v2)||(!v3))||(!v4))||(!v5))=true then(false)else((match D4 (Q2 w) w.Contacts.length ()with | .inr r=>r | .inl s1=>true))
theorem C7o(w:Api.World)(hw:Wsm w):A1 Tryz.prog C68 [.agg w.enc] [] (sB (R8 w)) []:=by
 have hw1:=hw.1;have hw3:=hw.2.2.1;have hw4:=hw.2.2.2.1;refine en1 hm A4 Tryz.func44 rfl rfl ?_;simp only[go_sem];have p1:=F5q w.Contacts;refine A0 (F1l w.Contacts (by(exact hw.2.2.1))) rfl ?_;generalize hv1:(A36 w.Contacts)=v1 at*;simp only[go_sem];refine A0 (C07 v1 (by(omega))) rfl ?_;generalize hv2:(T5 v1)=v2;simp only[go_sem];refine A0 (C07 w.Overlaps (by(exact hw.2.2.2.1))) rfl ?_;generalize hv3:(T5 w.Overlaps)=v3;simp only[go_sem,C3,C5];refine A0 (C31 w v1 (by(exact hw.1)) (by(omega))) rfl ?_;generalize hv4:(A2n w v1)=v4;simp only[go_sem,C3,A9];refine A0 (C31 w w.Overlaps (by(exact hw.1)) (by(exact hw.2.2.2.1))) rfl ?_;generalize hv5:(A2n w w.Overlaps)=v5;simp only[go_sem,C3,A9];by_cases h2:((((!v2)||(!v3))||(!v4))||(!v5))=true
 ·rw[if_pos h2];have hd:R8 w=false:=by(unfold R8;exact hd_)
  try rw[hd]
 ·rw[if_neg h2];refine B0 hm (ι:= {p:Nat×Unit // p.1<=w.Contacts.length/\D4 (Q2 w) p.1 ()= .inl p.2}) (λi=> [(1, .share, .ptr 32 0 0 1),(4, .share,sI (i.1.1:Int))]) (λi=> [(32, .box [sI w.Settings.TimeStep,sI w.Settings.Gravity.X,sI w.Settings.Gravity.Y,sI w.Settings.Iterations,sI w.Settings.SleepSteps,A2 20 Body.enc default w.Bodies,A2 24 Joint.enc default w.Joints,A2 7 Contact.enc default w.Contacts,A2 4 PairKey.enc default w.Overlaps,sI w.NextID,sI w.Frame])]) (λi=>w.Contacts.length-i.1.1) ⟨(0,()),by omega,rfl⟩ ?_ ?_
  ·refine D7 [] [] ?_;simp only[go_sem]
  ·rintro⟨⟨i1,s1⟩,hi1,hs1⟩;replace hi1:i1<=w.Contacts.length:=hi1;replace hs1:D4 (Q2 w) i1 ()= .inl s1:=hs1;simp only[go_sem];by_cases h3:(i1:Int)<(w.Contacts.length:Int)
   ·rw[if_pos h3];have hlt1:i1<w.Contacts.length:=by omega
    (repeat(with_reducible refine And.intro ?_ ?_;exact aI_))
    refine A0 (D26 (w.Contacts.getD i1 default).Manifold (by(exact hw.2.2.2.2.2 _ (B7 _ (by omega))))) rfl ?_;generalize hv6:(A1t (w.Contacts.getD i1 default).Manifold)=v6;simp only[go_sem];by_cases h4:v6=false
    ·rw[if_pos h4];have e1:D4 (Q2 w) (i1+1) ()= .inr false:=N2 hs1 (by(unfold Q2;exact hd_));replace e1:=Z2 e1 (show i1+1<=w.Contacts.length by omega);have hd:R8 w=false:=by(unfold R8;exact hd_)
     try rw[hd]
    ·rw[if_neg h4];have hn:D4 (Q2 w) (i1+1) ()= .inl ():=N2 hs1 (by(unfold Q2;exact hd_));refine A7 ⟨(i1+1,()),by omega,hn⟩ (by show w.Contacts.length-(i1+1)<w.Contacts.length-i1;omega) (D7 [] [] ?_);simp only[go_sem];exact A23
   ·rw[if_neg h3];have hge:i1=w.Contacts.length:=by omega
    subst hge;have hd:R8 w=true:=by(unfold R8;exact hd_)
    try rw[hd]
def A1e(s:Settings):Int:=if((((!(inR s.TimeStep 64 8192))||(!((inR s.Gravity.X (-16777216) 16777216)&&(inR s.Gravity.Y (-16777216) 16777216))))||(!(inR s.Iterations 1 32)))||(!(inR s.SleepSteps 0 1048576)))=true then(6)else(0)
theorem B9s(s:Settings):A1 Tryz.prog B8w [.agg s.enc] [] (sI (A1e s)) []:=by
 refine en1 hm A4 Tryz.func85 rfl rfl ?_;have:=C52
 have:=A1e.eq_1 s;exact D1
def A13(s:Settings):Int:=if(((((!(inR s.TimeStep 64 8192))||(!(inR s.Gravity.X (-16777216) 16777216)))||(!(inR s.Gravity.Y (-16777216) 16777216)))||(!(inR s.Iterations 1 32)))||(!(inR s.SleepSteps 0 1048576)))=true then(6)else(0)
theorem C2j(s:Settings):A1 Tryz.prog C1l [.agg s.enc] [] (sI (A13 s)) []:=by
 refine en1 hm A4 Tryz.func40 rfl rfl ?_;have:=C5w
 have:=A13.eq_1 s;exact D1
def F2(w:Api.World):Int:=let v1:=(A1e w.Settings);if(v1 != 0)=true then(17)else(if((((decide (32<(w.Bodies.length:Int)))||(decide (32<(w.Joints.length:Int))))||(decide (8192<(w.Contacts.length:Int))))||(decide (8192<(w.Overlaps.length:Int))))=true then(11)else(if((!(inR w.NextID 1 1099511627776))||(!(inR w.Frame 0 1099511627776)))=true then(6)else(let v4:=(X0 w);if v4=false then(14)else(let v5:=(X1 w);if v5=false then(15)else(let v6:=(A8m w);if v6=false then(16)else(0))))))
theorem S3(w:Api.World)(hw:Wsm w):A1 Tryz.prog D4m [.agg w.enc] [] (sI (F2 w)) []:=by
 refine en1 hm A4 Tryz.func47 rfl rfl ?_;have:=B9s
 have:=C52
 have:=C7v
 have:=C7w
 have:=C38
 have:=F2.eq_1 w;exact D1
def A7q(w:Api.World):Int:=let v1:=(A13 w.Settings);if(v1 != 0)=true then(17)else(if((((decide (32<(w.Bodies.length:Int)))||(decide (32<(w.Joints.length:Int))))||(decide (8192<(w.Contacts.length:Int))))||(decide (8192<(w.Overlaps.length:Int))))=true then(11)else(if((!(inR w.NextID 1 1099511627776))||(!(inR w.Frame 0 1099511627776)))=true then(6)else(let v4:=(A0s w);if v4=false then(14)else(let v5:=(A0t w);if v5=false then(15)else(let v6:=(R8 w);if v6=false then(16)else(0))))))
theorem B5r(w:Api.World)(hw:Wsm w):A1 Tryz.prog D8t [.agg w.enc] [] (sI (A7q w)) []:=by
 refine en1 hm A4 Tryz.func9 rfl rfl ?_;have:=C2j
 have:=C5w
 have:=D24
 have:=D25
 have:=C7o
 have:=A7q.eq_1 w;exact D1
theorem D0w(l:List Row)(hl:l.length<=1048576):A1 Tryz.prog C8s [A2 14 Row.enc default l] [] (.sl 1 0 l.length l.length) [(1, .arr 14 (A8 Row.enc default l))]:=by
 by_cases hn:l= []
 ·subst hn;refine A1.nil_split (g:=L7 Row.enc default ([]:List Row)) [] [] ?_ (λa c=> ?_)
  ·refine H8 hm A4 Tryz.func440 rfl rfl ?_;simp only[go_sem,go_sem_proc];refine C8 [.adopt] [] [1] rfl rfl (by simp) (by simp) (by simp) ?_;simp only[go_sem,go_sem_proc]
  ·refine H8 hm A4 Tryz.func440 rfl rfl ?_;simp only[go_sem,go_sem_proc];refine⟨by simp[maxLen],?_⟩;refine C8 [.share] [(1,96)] [] rfl rfl (by simp) (by simp) (by simp) ?_;simp only[go_sem,go_sem_proc];exact⟨rfl,rfl,λi hi=>absurd hi (by simp)⟩
 ·have hpos:0<l.length:=List.length_pos_iff.2 hn
  refine H8 hm A4 Tryz.func440 rfl rfl ?_;simp only[go_sem,go_sem_proc];refine⟨hpos,⟨by omega,by simp only[maxLen];omega⟩,?_⟩;refine C8 [.share] [(1,96)] [] rfl rfl (by simp) (by simp) (by simp) ?_;simp only[go_sem,go_sem_proc]
theorem A9q(l:List SolverBody)(hl:l.length<=1048576):A1 Tryz.prog B7y [A2 5 SolverBody.enc default l] [] (.sl 1 0 l.length l.length) [(1, .arr 5 (A8 SolverBody.enc default l))]:=by
 by_cases hn:l= []
 ·subst hn;refine A1.nil_split (g:=L7 SolverBody.enc default ([]:List SolverBody)) [] [] ?_ (λa c=> ?_)
  ·refine H8 hm A4 Tryz.func439 rfl rfl ?_;simp only[go_sem,go_sem_proc];refine C8 [.adopt] [] [1] rfl rfl (by simp) (by simp) (by simp) ?_;simp only[go_sem,go_sem_proc]
  ·refine H8 hm A4 Tryz.func439 rfl rfl ?_;simp only[go_sem,go_sem_proc];refine⟨by simp[maxLen],?_⟩;refine C8 [.share] [(1,96)] [] rfl rfl (by simp) (by simp) (by simp) ?_;simp only[go_sem,go_sem_proc];exact⟨rfl,rfl,λi hi=>absurd hi (by simp)⟩
 ·have hpos:0<l.length:=List.length_pos_iff.2 hn
  refine H8 hm A4 Tryz.func439 rfl rfl ?_;simp only[go_sem,go_sem_proc];refine⟨hpos,⟨by omega,by simp only[maxLen];omega⟩,?_⟩;refine C8 [.share] [(1,96)] [] rfl rfl (by simp) (by simp) (by simp) ?_;simp only[go_sem,go_sem_proc]
theorem C2n(l:List Fixture)(hl:l.length<=1048576):A1 Tryz.prog C1q [A2 10 Fixture.enc default l] [] (.sl 1 0 l.length l.length) [(1, .arr 10 (A8 Fixture.enc default l))]:=by
 by_cases hn:l= []
 ·subst hn;refine A1.nil_split (g:=L7 Fixture.enc default ([]:List Fixture)) [] [] ?_ (λa c=> ?_)
  ·refine H8 hm A4 Tryz.func552 rfl rfl ?_;simp only[go_sem,go_sem_proc];refine C8 [.adopt] [] [1] rfl rfl (by simp) (by simp) (by simp) ?_;simp only[go_sem,go_sem_proc]
  ·refine H8 hm A4 Tryz.func552 rfl rfl ?_;simp only[go_sem,go_sem_proc];refine⟨by simp[maxLen],?_⟩;refine C8 [.share] [(1,96)] [] rfl rfl (by simp) (by simp) (by simp) ?_;simp only[go_sem,go_sem_proc];exact⟨rfl,rfl,λi hi=>absurd hi (by simp)⟩
 ·have hpos:0<l.length:=List.length_pos_iff.2 hn
  refine H8 hm A4 Tryz.func552 rfl rfl ?_;simp only[go_sem,go_sem_proc];refine⟨hpos,⟨by omega,by simp only[maxLen];omega⟩,?_⟩;refine C8 [.share] [(1,96)] [] rfl rfl (by simp) (by simp) (by simp) ?_;simp only[go_sem,go_sem_proc]
def A1l(ps:List Vec)(i1:Nat)(s1:Int×Int×Int×Int):Int×Int×Int×Int:=let v2:=(J9 ((ps.drop 1).getD i1 default));let v3:=(B86 (⟨s1.1,s1.2.1⟩:Vec) v2);let v4:=(B87 (⟨s1.2.2.1,s1.2.2.2⟩:Vec) v2);(v3.X,v3.Y,v4.X,v4.Y)
def A0o(ps:List Vec):AABB×Bool:=if((ps.length:Int)==0)=true then(((⟨(⟨0,0⟩:Vec),(⟨0,0⟩:Vec)⟩:AABB),false))else(let v1:=(J9 (ps.getD 0 default));let s1:=itr (A1l ps) (ps.drop 1).length (v1.X,v1.Y,v1.X,v1.Y);((⟨(⟨s1.1,s1.2.1⟩:Vec),(⟨s1.2.2.1,s1.2.2.2⟩:Vec)⟩:AABB),true))
theorem B1d(ps:List Vec)(h0:ps.length<=1048576):A1 Tryz.prog D15 [A2 2 Vec.enc default ps] [] (.tup [.agg (A0o ps).1.enc,sB ((A0o ps).2)]) []:=by
 refine A63 40 [(2,some (some 4)),(3,none)] hm A4 Tryz.func277 rfl ?_;have:=λx1 x2 x3=>cx_ (C95 ⟨x1,x2⟩ x3)
 have:=λx1 x2 x3=>cx_ (C96 ⟨x1,x2⟩ x3)
 have:=D7s
 have:=C95
 have:=C96
 have:=A0o.eq_1 ps
 have:=λi_ s_=>A1l.eq_1 ps i_ s_
 have:=λx_ Q_ σ_=> @lp_ Tryz.prog 40 [] x_ Q_ σ_ hm (λ_=>True) (λ_=>True) (ps.drop 1).length (λi_=> [(2, .share, .ptr 48 0 0 1),(5, .share, .ptr 96 0 0 1),(20, .share,A2 2 Vec.enc default (ps.drop 1)),(21, .share,sI ((ps.drop 1).length:Int)),(22, .share,sI (i_:Int))]) (λi_=> [(48, .box [sI 0,sI 0,sI 0,sI 0]),(96, .box [sI ((itr (A1l ps) i_ ((J9 (ps.getD 0 default)).X,(J9 (ps.getD 0 default)).Y,(J9 (ps.getD 0 default)).X,(J9 (ps.getD 0 default)).Y)).1),sI ((itr (A1l ps) i_ ((J9 (ps.getD 0 default)).X,(J9 (ps.getD 0 default)).Y,(J9 (ps.getD 0 default)).X,(J9 (ps.getD 0 default)).Y)).2.1),sI ((itr (A1l ps) i_ ((J9 (ps.getD 0 default)).X,(J9 (ps.getD 0 default)).Y,(J9 (ps.getD 0 default)).X,(J9 (ps.getD 0 default)).Y)).2.2.1),sI ((itr (A1l ps) i_ ((J9 (ps.getD 0 default)).X,(J9 (ps.getD 0 default)).Y,(J9 (ps.getD 0 default)).X,(J9 (ps.getD 0 default)).Y)).2.2.2)])]) [] trivial (λ_ _=>trivial) (by simp[go_sem]) (by simp[go_sem,A6]) (by simp[go_sem]);exact J1
def A2y(a:Vec)(b:Vec)(c:Vec)(d:Vec):Bool:=let v1:=(A0o ([a,b]));let v2:=(A0o ([c,d]));let v3:=(ori a b c);let v4:=(ori a b d);let v5:=(ori c d a);let v6:=(ori c d b);let v7:=(A2r v1.1 v2.1);((!((decide (0<(IntKind.i64.wrap (v3*v4))))||(decide (0<(IntKind.i64.wrap (v5*v6))))))&&v7)
theorem B4h(a:Vec)(b:Vec)(c:Vec)(d:Vec):A1 Tryz.prog C4q [.agg a.enc, .agg b.enc, .agg c.enc, .agg d.enc] [] (sB (A2y a b c d)) []:=by
 refine en1 hm A4 Tryz.func405 rfl rfl ?_;simp only[go_sem,go_sem_proc];refine A5i (B1d ([a,b]) (by((simp_all;done)))) rfl ?_ ?_
 ·(try simp only[A07,go_sem,go_sem_proc]);all_goals((repeat' (with_reducible apply And.intro)) <;> exact A2e (λ_ _=>rfl) rfl rfl rfl)
 generalize hv1:(A0o ([a,b]))=v1;simp only[go_sem,go_sem_proc];refine A5i (B1d ([c,d]) (by((simp_all;done)))) rfl ?_ ?_
 ·(try simp only[A07,go_sem,go_sem_proc]);all_goals((repeat' (with_reducible apply And.intro)) <;> exact A2e (λ_ _=>rfl) rfl rfl rfl)
 generalize hv2:(A0o ([c,d]))=v2;simp only[go_sem,go_sem_proc];refine A0 (A2p a b c) rfl ?_;generalize hv3:(ori a b c)=v3;simp only[go_sem,go_sem_proc];refine A0 (A2p a b d) rfl ?_;generalize hv4:(ori a b d)=v4;simp only[go_sem,go_sem_proc];refine A0 (A2p c d a) rfl ?_;generalize hv5:(ori c d a)=v5;simp only[go_sem,go_sem_proc];refine A0 (A2p c d b) rfl ?_;generalize hv6:(ori c d b)=v6;simp only[go_sem,go_sem_proc,C3];refine A0 (C00 v1.1 v2.1) rfl ?_;generalize hv7:(A2r v1.1 v2.1)=v7;simp only[go_sem,go_sem_proc,B4,C5];have hd:A2y a b c d=((!((decide (0<(IntKind.i64.wrap (v3*v4))))||(decide (0<(IntKind.i64.wrap (v5*v6))))))&&v7):=by(simp only[A2y,hv1,hv2,hv3,hv4,hv5,hv6,hv7,eq_self];done)
 try rw[hd]
structure D8 where
 x:Vec
 y:Vec
 deriving DecidableEq,Inhabited
def D8.enc(x:D8):List AV:=[sI x.x.X,sI x.x.Y,sI x.y.X,sI x.y.Y]
def D8.zero:List AV:= [sI 0,sI 0,sI 0,sI 0]
attribute [go_sem] D8.enc D8.zero
@[go_sem] theorem E8n(x:D8):D8.mk x.x x.y=x:=rfl
def U9(v2:Vec)(v3:Vec)(v4:Vec)(v11:Vec×Int)(v12:Vec×Int)(v13:Vec×Int)(i1:Nat)(s1:Int×Int×Int×Int):Int×Int×Int×Int:=let v14:=(A97 (([(⟨v2,v11.1⟩:D8),(⟨v12.1,v3⟩:D8),(⟨v13.1,v4⟩:D8)]).getD i1 default).x (([(⟨v2,v11.1⟩:D8),(⟨v12.1,v3⟩:D8),(⟨v13.1,v4⟩:D8)]).getD i1 default).y);let v15:=(A97 (⟨s1.1,s1.2.1⟩:Vec) (⟨s1.2.2.1,s1.2.2.2⟩:Vec));if v14<v15 then(((([(⟨v2,v11.1⟩:D8),(⟨v12.1,v3⟩:D8),(⟨v13.1,v4⟩:D8)]).getD i1 default).x.X,(([(⟨v2,v11.1⟩:D8),(⟨v12.1,v3⟩:D8),(⟨v13.1,v4⟩:D8)]).getD i1 default).x.Y,(([(⟨v2,v11.1⟩:D8),(⟨v12.1,v3⟩:D8),(⟨v13.1,v4⟩:D8)]).getD i1 default).y.X,(([(⟨v2,v11.1⟩:D8),(⟨v12.1,v3⟩:D8),(⟨v13.1,v4⟩:D8)]).getD i1 default).y.Y))else((s1.1,s1.2.1,s1.2.2.1,s1.2.2.2))
def Z4(a:Vec)(b:Vec)(c:Vec)(d:Vec):Vec×Vec:=let v1:=(A3 a);let v2:=(A3 b);let v3:=(A3 c);let v4:=(A3 d);let v5:=(A2y v1 v2 v3 v4);if v5=true then(let v6:=(A37 v3 v4 v1);let v7:=(A37 v3 v4 v2);let v8:=(A8v v6 (IntKind.i64.wrap (v6+v7)));let v9:=(A62 v1 v2 v8);(v9,v9))else(let v10:=(B2 v3 v4 v1);let v11:=(B2 v3 v4 v2);let v12:=(B2 v1 v2 v3);let v13:=(B2 v1 v2 v4);let s1:=itr (U9 v2 v3 v4 v11 v12 v13) 3 (v1.X,v1.Y,v10.1.X,v10.1.Y);((⟨s1.1,s1.2.1⟩:Vec),(⟨s1.2.2.1,s1.2.2.2⟩:Vec)))
theorem B06(a:Vec)(b:Vec)(c:Vec)(d:Vec):A1 Tryz.prog B92 [.agg a.enc, .agg b.enc, .agg c.enc, .agg d.enc] [] (.tup [.agg (Z4 a b c d).1.enc, .agg (Z4 a b c d).2.enc]) []:=by
 refine A63 118 [(8,some (some 2)),(9,some (some 2))] hm A4 Tryz.func383 rfl ?_;have:=λx1 x2 x3 x4=>cx_ (W4 ⟨x1,x2⟩ ⟨x3,x4⟩)
 have:=B6r
 have:=B4h
 have:=C2k
 have:=B7g
 have:=B16
 have:=B13
 have:=W4
 have:=Z4.eq_1 a b c d
 have:=λi_ s_=>U9.eq_1 (A3 b) (A3 c) (A3 d) (B2 (A3 c) (A3 d) (A3 b)) (B2 (A3 a) (A3 b) (A3 c)) (B2 (A3 a) (A3 b) (A3 d)) i_ s_
 have:=λx_ Q_ σ_=> @lp_ Tryz.prog 118 [] x_ Q_ σ_ hm (λ_=>True) (λ_=>True) 3 (λi_=> [(8, .share, .ptr 144 0 0 1),(9, .share, .ptr 160 0 0 1),(21, .share, .ptr 352 0 0 1),(95, .share, .sl 1536 0 3 3),(96, .share,sI 3),(97, .share,sI (i_:Int))]) (λi_=> [(144, .box [sI 0,sI 0]),(160, .box [sI 0,sI 0]),(352, .box [sI ((itr (U9 (A3 b) (A3 c) (A3 d) (B2 (A3 c) (A3 d) (A3 b)) (B2 (A3 a) (A3 b) (A3 c)) (B2 (A3 a) (A3 b) (A3 d))) i_ ((A3 a).X,(A3 a).Y,(B2 (A3 c) (A3 d) (A3 a)).1.X,(B2 (A3 c) (A3 d) (A3 a)).1.Y)).1),sI ((itr (U9 (A3 b) (A3 c) (A3 d) (B2 (A3 c) (A3 d) (A3 b)) (B2 (A3 a) (A3 b) (A3 c)) (B2 (A3 a) (A3 b) (A3 d))) i_ ((A3 a).X,(A3 a).Y,(B2 (A3 c) (A3 d) (A3 a)).1.X,(B2 (A3 c) (A3 d) (A3 a)).1.Y)).2.1),sI ((itr (U9 (A3 b) (A3 c) (A3 d) (B2 (A3 c) (A3 d) (A3 b)) (B2 (A3 a) (A3 b) (A3 c)) (B2 (A3 a) (A3 b) (A3 d))) i_ ((A3 a).X,(A3 a).Y,(B2 (A3 c) (A3 d) (A3 a)).1.X,(B2 (A3 c) (A3 d) (A3 a)).1.Y)).2.2.1),sI ((itr (U9 (A3 b) (A3 c) (A3 d) (B2 (A3 c) (A3 d) (A3 b)) (B2 (A3 a) (A3 b) (A3 c)) (B2 (A3 a) (A3 b) (A3 d))) i_ ((A3 a).X,(A3 a).Y,(B2 (A3 c) (A3 d) (A3 a)).1.X,(B2 (A3 c) (A3 d) (A3 a)).1.Y)).2.2.2)]),(1536, .arr 4 (A8 D8.enc default ([(⟨(A3 b),(B2 (A3 c) (A3 d) (A3 b)).1⟩:D8),(⟨(B2 (A3 a) (A3 b) (A3 c)).1,(A3 c)⟩:D8),(⟨(B2 (A3 a) (A3 b) (A3 d)).1,(A3 d)⟩:D8)])))]) [] trivial (λ_ _=>trivial) (by simp[go_sem]) (by simp[go_sem,A6]) (by simp[go_sem]);exact J1
def A4h(a:Vec)(b:Vec)(c:Vec)(d:Vec):Int:=let v1:=(A2y a b c d);if v1=true then(0)else(let v2:=(Z4 a b c d);let v3:=(A97 v2.1 v2.2);let v4:=(isq v3);(sat v4))
theorem B6q(a:Vec)(b:Vec)(c:Vec)(d:Vec):A1 Tryz.prog C8n [.agg a.enc, .agg b.enc, .agg c.enc, .agg d.enc] [] (sI (A4h a b c d)) []:=by
 refine en1 hm A4 Tryz.func273 rfl rfl ?_;have:=B4h
 have:=B06
 have:=W4
 have:=B2i
 have:=J7
 have:=A4h.eq_1 a b c d;exact D1
def W9(s:Shape)(p:Transform)(i1:Nat)(s1:(List Vec)):(List Vec):=let v2:=(X4 p (s.Vertices.getD i1 default));(s1++ [v2])
def E8(s:Shape)(p:Transform):(List Vec):=let v1:=(E7 s);if(v1 != 0)=true then(([]:List Vec))else(let s1:=itr (W9 s p) s.Vertices.length [];s1)
theorem A8r(s:Shape)(p:Transform)(h0:s.Vertices.length<=1048576):A1 Tryz.prog D4g [.agg s.enc, .agg p.enc] [] (A2 2 Vec.enc default (E8 s p)) []:=by
 refine en1 hm A4 Tryz.func270 rfl rfl ?_;have:=A1j
 have:=A7h
 have:=E8.eq_1 s p
 have:=λi_ s_=>W9.eq_1 s p i_ s_
 have:=λx_ Q_ σ_=> @lp_ Tryz.prog Tryz.f270.ntmps [] x_ Q_ σ_ hm (λ_=>True) (λi_=>((itr (W9 s p) i_ [])).length<=0+1*i_) s.Vertices.length (λi_=> [(3, .share, .ptr 64 0 0 1),(5,if i_=0 then .adopt else .share, .sl 1005 0 (itr (W9 s p) i_ []).length (itr (W9 s p) i_ []).length),(12, .share,A2 2 Vec.enc default s.Vertices),(13, .share,sI (s.Vertices.length:Int)),(14, .share,sI (i_:Int))]) (λi_=> [(64, .box [sI p.Position.X,sI p.Position.Y,sI p.Angle]),(1005, .arr 2 (A8 Vec.enc default (itr (W9 s p) i_ [])))]) [1005] trivial (λi_ hI_=>A7w (λs:(List Vec)=>(s).length) 1 (λi s=>by(unfold W9;(repeat' split) <;> simp <;> omega)) i_ _) (by simp[go_sem]) (by simp[go_sem,A6]) (by simp[go_sem]);exact A43
theorem E8x {α β:Type}(g:α->β)(d:α)(l:List α)(st:Nat->List β->List β)(h: ∀i s,st i s=s++ [g (l.getD i d)]): ∀n,n<=l.length->itr st n []=(l.take n).map g
 |0,_=>rfl
 |n+1,hn=>by rw[E4,h,E8x g d l st h n (by omega),K9 d (by omega:n<l.length),List.map_append];rfl
theorem F64(s:Shape)(p:Transform):E8 s p=if E7 s=0 then s.Vertices.map (λv=>X4 p v)else []:=by
 unfold E8;by_cases h:E7 s=0
 ·rw[if_neg (by simp[h]),if_pos h];have:=E8x (λv=>X4 p v) default s.Vertices (W9 s p) (λi s'=>rfl) s.Vertices.length (Nat.le_refl _);rw[List.take_length]at this;exact this
 ·rw[if_pos (by simp[h]),if_neg h]
theorem E1i(s:Shape)(p:Transform):(E8 s p).length=(if E7 s=0 then s.Vertices.length else 0):=by rw[F64];split <;> simp
theorem B9w(s:Shape)(p:Transform):(E8 s p).length<=s.Vertices.length:=by rw[E1i];split <;> omega
def B5f(s:Shape)(p:Transform):AABB:=let v1:=(E8 s p);let v2:=(A0o v1);if v2.2=false then((⟨(⟨0,0⟩:Vec),(⟨0,0⟩:Vec)⟩:AABB))else(let v3:=(M0 v2.1.Min (⟨s.Radius,s.Radius⟩:Vec));let v4:=(A18 v2.1.Max (⟨s.Radius,s.Radius⟩:Vec));(⟨v3,v4⟩:AABB))
theorem D99(s:Shape)(p:Transform)(h0:s.Vertices.length<=1048576):A1 Tryz.prog D8w [.agg s.enc, .agg p.enc] [] (.agg (B5f s p).enc) []:=by
 refine L5 32 [(4,some (some 4))] hm A4 Tryz.func169 rfl ?_;have:=λx1 x2 x3=>cx_ (K6 x1 ⟨x2,x3⟩)
 have:=λx1 x2 x3=>cx_ (A5e x1 ⟨x2,x3⟩)
 have:=B9w s p
 have:=A8r
 have:=B1d
 have:=K6
 have:=A5e
 have:=B5f.eq_1 s p;exact J1
def A5n(v:Vec)(v1:(List Vec))(i1:Nat)(s1:Unit):(Unit) ⊕ (Bool):=let v5:=(ori (v1.getD i1 default) (v1.getD ((IntKind.i64.wrap ((i1:Int)+1)).tmod (v1.length:Int)).toNat default) v);if v5<0 then(.inr false)else(.inl ())
def Y3(s:Shape)(p:Transform)(v:Vec):Bool:=let v1:=(E8 s p);if((v1.length:Int)==0)=true then(false)else(if((v1.length:Int)==1)=true then(let v2:=(M0 v (v1.getD 0 default));let v3:=(A4k v2);(decide (v3<=s.Radius)))else(if((v1.length:Int)==2)=true then(let v4:=(A4h v v (v1.getD 0 default) (v1.getD 1 default));(decide (v4<=s.Radius)))else((match D4 (A5n v v1) v1.length ()with | .inr r=>r | .inl s1=>true))))
theorem B3d(s:Shape)(p:Transform)(v:Vec)(h0:s.Vertices.length<=1048576):A1 Tryz.prog C26 [.agg s.enc, .agg p.enc, .agg v.enc] [] (sB (Y3 s p v)) []:=by
 refine en1 hm A4 Tryz.func166 rfl rfl ?_;have:=B9w s p
 have:=A8r
 have:=K6
 have:=V0
 have:=B6q
 have:=A2p
 have:=Y3.eq_1 s p v
 have:=λi_ s_=>A5n.eq_1 v (E8 s p) i_ s_
 have:=λx_ Q_ σ_=> @lp_ Tryz.prog Tryz.f166.ntmps [] x_ Q_ σ_ hm (IE (A5n v (E8 s p)) ()) (λ_=>True) (E8 s p).length (λi_=> [(5, .share, .ptr 96 0 0 1),(7, .share,A2 2 Vec.enc default (E8 s p)),(42, .share,A2 2 Vec.enc default (E8 s p)),(43, .share,sI ((E8 s p).length:Int)),(44, .share,sI (i_:Int))]) (λi_=> [(96, .box [sI v.X,sI v.Y])]) [] rfl (λ_ _=>trivial) (by simp[go_sem]) (by simp[go_sem,A6]) (by simp[go_sem]);exact J1
def A01(s:Shape)(i1:Nat)(s1:Int):Int:=let v2:=(A4k (s.Vertices.getD i1 default));(if s1<v2 then v2 else s1)
def A0j(s:Shape):Int:=let v1:=(E7 s);if(v1 != 0)=true then(0)else(let s1:=itr (A01 s) s.Vertices.length 0;let v3:=(C7 s1 s.Radius);v3)
theorem C2l(s:Shape)(h0:s.Vertices.length<=1048576):A1 Tryz.prog C1o [.agg s.enc] [] (sI (A0j s)) []:=by
 refine en1 hm A4 Tryz.func571 rfl rfl ?_;have:=A1j
 have:=V0
 have:=M9
 have:=A0j.eq_1 s
 have:=λi_ s_=>A01.eq_1 s i_ s_
 have:=λx_ Q_ σ_=> @lp_ Tryz.prog Tryz.f571.ntmps [] x_ Q_ σ_ hm (λ_=>True) (λ_=>True) s.Vertices.length (λi_=> [(1, .share, .ptr 32 0 0 1),(3, .share,sI (itr (A01 s) i_ 0)),(10, .share,A2 2 Vec.enc default s.Vertices),(11, .share,sI (s.Vertices.length:Int)),(12, .share,sI (i_:Int))]) (λi_=> [(32, .box [sI s.Kind,sI s.Radius,A2 2 Vec.enc default s.Vertices])]) [] trivial (λ_ _=>trivial) (by simp[go_sem]) (by simp[go_sem,A6]) (by simp[go_sem]);exact A43
end Go.Abs
end
