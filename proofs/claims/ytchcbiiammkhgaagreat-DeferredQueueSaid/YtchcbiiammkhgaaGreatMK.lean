/- A part of the proof: contracts of functions that the statement reaches. -/
import Derived.Test.YtchcbiiammkhgaaGreatMJ
set_option linter.unusedSimpArgs false
set_option linter.unusedVariables false
set_option linter.unnecessarySimpa false
set_option maxRecDepth 100000
set_option maxHeartbeats 2000000
noncomputable section
namespace Go.Abs
open Go.Proofs
open Api
def evP(p:Int×Int):Api.Event:=⟨p.1,⟨p.2,0,0,0⟩⟩
theorem F3w(l:List (Int×Int)):M4 (A2 5 D1b default l) (A2 5 Api.Event.enc default (l.map evP)):=by
 unfold A2;rw[A1z];refine⟨rfl,by rw[List.length_map],λi hi=> ?_⟩;show A01 (D1b (l.getD i default)) (Api.Event.enc ((l.map evP).getD i default));have hi':i<l.length:=hi
 have e:(l.map evP).getD i default=evP (l.getD i default):=by simp only[List.getD,List.getElem?_map,List.getElem?_eq_getElem hi',Option.map_some,Option.getD_some]
 rw[e];exact L3 _
theorem E1n(w:Api.World)(x:B0)(hw:Wsm w)(hx:Ism x):A1 Tryz.prog E4v [.agg w.enc, .agg x.enc] [] (.tup [.agg (U1 w (wkR w x).1).enc,A2 5 Api.Event.enc default ((wkR w x).2.map evP)]) []:=by
 have hl:=D38 (w:=w) hx;refine A62 62 [(4,some (some 11)),(5,none)] hm A4 Tryz.func99 rfl ?_;simp only[go_sem,go_sem_proc];refine E3 [true,true] [] (B2f w x hw hx) (by simp) (by simp[go_sem]) (by simp[go_sem]) (by simp) ?_;simp only[go_sem,go_sem_proc];refine A1h (A89 w x (A0v w x) hw hx hl (C33 w x)) (A9o w x _) (by simp[go_sem,A0v]) (by simp[go_sem,AV.ids]) rfl ?_;simp only[go_sem,go_sem_proc];cases haw:A6p w x (A0v w x)with
 |false=>
  simp only[go_sem,go_sem_proc];have hr:wkR w x=(w.Bodies,[]):=by unfold wkR;rw[haw];rfl
  rw[hr]
  try simp only[go_sem,go_sem_proc]
  (repeat' (with_reducible apply And.intro)) <;> exact eE_
 |true=>
  simp only[go_sem,go_sem_proc];have hr:wkR w x=wkF w (A0v w x):=by unfold wkR;rw[haw];rfl
  rw[hr];have hin:=C33 w x;generalize hll:A0v w x=l at*;refine A9 hm (ι:= {i:Nat // i<=l.length}) (λi=> [(4, .share, .ptr 80 0 0 1),(6, .share, .ptr 6 0 0 1),(7,if i.1=0 then .adopt else .share, .sl 7 0 (wkF w (l.take i.1)).2.length (wkF w (l.take i.1)).2.length),(24, .share, .sl 5 0 l.length l.length),(25, .share,sI l.length),(26, .share,sI i.1)])
   (λi=>(80, .box World.zero)::(7, .arr 5 (A8 D1b default (wkF w (l.take i.1)).2))::E2s w (wkF w (l.take i.1)).1 x l) (λi=>l.length-i.1) ⟨0,by omega⟩ ?_ ?_
  ·refine B5 [] [7] (by simp[go_sem]) (by simp[A6,go_sem]) (by simp[go_sem]) ?_;simp only[go_sem,go_sem_proc,G0j]
  ·rintro⟨i,hi⟩;obtain⟨hb1,hb2⟩:=E9i w (l.take i);simp only[List.length_take]at hb2;simp only[go_sem,go_sem_proc];split
   ·rename_i hlt;have hlt:i<l.length:=by omega
    obtain⟨hi0,hi1⟩:=hin _ (B6 0 hlt);refine⟨(by(repeat' (with_reducible apply And.intro)) <;> omega),(by(repeat' (with_reducible apply And.intro)) <;> omega),hb1.symm,?_⟩;by_cases hs:((wkF w (l.take i)).1.getD (l.getD i 0).toNat default).Asleep=true
    ·have he:wkF w (l.take (i+1))=((wkF w (l.take i)).1.set (l.getD i 0).toNat (wkB ((wkF w (l.take i)).1.getD (l.getD i 0).toNat default)),(wkF w (l.take i)).2++ [(7,((wkF w (l.take i)).1.getD (l.getD i 0).toNat default).ID)]):=by
      rw[E30 hlt,B0h,if_pos hs]
     rw[if_pos hs];refine⟨hb1.symm,hb1.symm,hb1.symm,(by(repeat' (with_reducible apply And.intro)) <;> first |omega |(simp only[maxLen];omega)),?_⟩;refine A7 ⟨i+1,by omega⟩ (by show l.length-(i+1)<l.length-i;omega) (B5 [] [] (by simp[go_sem]) (by simp[go_sem]) (by simp[go_sem]) ?_);simp only[go_sem,go_sem_proc,he,List.length_append,List.length_singleton];exact⟨(by rw[IntKind.wrap_i64];omega),A1y (7,((wkF w (l.take i)).1.getD (l.getD i 0).toNat default).ID) rfl rfl,A2k (wkB ((wkF w (l.take i)).1.getD (l.getD i 0).toNat default)) (by omega) rfl rfl⟩
    ·have he:wkF w (l.take (i+1))=wkF w (l.take i):=by
      rw[E30 hlt,B0h,if_neg hs]
     rw[if_neg hs];refine A7 ⟨i+1,by omega⟩ (by show l.length-(i+1)<l.length-i;omega) (B5 [] [] (by simp[go_sem]) (by simp[go_sem]) (by simp[go_sem]) ?_);simp only[go_sem,go_sem_proc,he];exact(by rw[IntKind.wrap_i64];omega)
   ·rename_i hge;obtain rfl:i=l.length:=by omega
    simp only[go_sem,go_sem_proc,List.take_length]at hb1 hb2⊢
    try simp only[go_sem,go_sem_proc,hb1]
    (repeat' (with_reducible apply And.intro)) <;> exact F3w _
theorem D7y(w:Api.World)(x:B0)(hw:Wsm w)(hx:Ism x):A1 Tryz.prog D82 [.agg w.enc, .agg x.enc] [] (.tup [.agg (U1 w (B4e w x).1).enc,A2 5 Api.Event.enc default ((B4e w x).2.map evP)]) []:=by
 have hl:=D38 (w:=w) hx;refine A62 119 [(4,some (some 11)),(5,none)] hm A4 Tryz.func118 rfl ?_;simp only[go_sem,go_sem_proc];refine E3 [true,true] [] (B2f w x hw hx) (by simp) (by simp[go_sem]) (by simp[go_sem]) (by simp) ?_;simp only[go_sem,go_sem_proc];refine A1h (A89 w x (A0v w x) hw hx hl (C33 w x)) (A9o w x _) (by simp[go_sem,A0v]) (by simp[go_sem,AV.ids]) rfl ?_;simp only[go_sem,go_sem_proc];cases haw:A6p w x (A0v w x)with
 |false=>
  simp only[go_sem,go_sem_proc];have hr:B4e w x=(w.Bodies,[]):=by unfold B4e;rw[haw];rfl
  rw[hr]
  try simp only[go_sem,go_sem_proc]
  (repeat' (with_reducible apply And.intro)) <;> exact eE_
 |true=>
  simp only[go_sem,go_sem_proc];have hr:B4e w x=if B0f w x (A0v w x)=true then slF (upF w (A0v w x)) (A0v w x)else(upF w (A0v w x),[]):=by unfold B4e;rw[haw];rfl
  rw[hr];have hin:=C33 w x;generalize hll:A0v w x=l at*;refine A9 hm (ι:= {i:Nat // i<=l.length}) (λi=> [(4, .share, .ptr 80 0 0 1),(6, .share, .ptr 6 0 0 1),(26, .share, .sl 5 0 l.length l.length),(27, .share,sI l.length),(28, .share,sI i.1)])
   (λi=>(80, .box World.zero)::E2s w (upF w (l.take i.1)) x l) (λi=>l.length-i.1) ⟨0,by omega⟩ ?_ ?_
  ·refine B5 [] [] (by simp[go_sem]) (by simp[A6,go_sem]) (by simp[go_sem]) ?_;simp only[go_sem,go_sem_proc,G0h]
  ·rintro⟨i,hi⟩;have hb1:=E82 w (l.take i);simp only[go_sem,go_sem_proc];split
   ·rename_i hlt;have hlt:i<l.length:=by omega
    obtain⟨hi0,hi1⟩:=hin _ (B6 0 hlt);refine⟨(by(repeat' (with_reducible apply And.intro)) <;> omega),(by(repeat' (with_reducible apply And.intro)) <;> omega),hb1.symm,?_⟩;refine A0 (D0h ((upF w (l.take i)).getD (l.getD i 0).toNat default)) rfl ?_;simp only[go_sem,go_sem_proc];refine⟨⟨hb1.symm,hi0,hi1⟩,hb1.symm,?_⟩;refine A7 ⟨i+1,by omega⟩ (by show l.length-(i+1)<l.length-i;omega) (B5 [] [] (by simp[go_sem]) (by simp[go_sem]) (by simp[go_sem]) ?_);simp only[go_sem,go_sem_proc,F5j hlt];exact⟨(by rw[IntKind.wrap_i64];omega),A2k (B27 ((upF w (l.take i)).getD (l.getD i 0).toNat default)) (by omega) rfl rfl⟩
   ·rename_i hge;obtain rfl:i=l.length:=by omega
    simp only[go_sem,go_sem_proc,List.take_length]at hb1⊢;have hob:=A9o (U1 w (upF w l)) x l
    have fin:(B0f w x l=false)-> ∀ {σ:St},True:=λ_ _=>trivial;cases hq:(if w.Settings.SleepSteps<=0 then true else((l.length:Int)==0))with
    |true=>
     have hst:B0f w x l=false:=by
      unfold B0f;by_cases h1:w.Settings.SleepSteps<=0
      ·rw[decide_eq_true h1];rfl
      ·rw[if_neg h1,beq_iff_eq]at hq;have:l.length=0:=by omega
       rw[decide_eq_true this];simp
     rw[if_neg (c:=B0f w x l=true) (by rw[hst];simp)];refine B1n (by simp) (sB false) ?_;simp only[go_sem,go_sem_proc];refine B1n (by simp) (sB false) ?_;simp only[go_sem,go_sem_proc]
     try simp only[go_sem,go_sem_proc,hb1]
     simp only[List.take_length,hb1]
     (repeat' (with_reducible apply And.intro)) <;> exact eE_
    |false=>
     have hst:B0f w x l=(!(l.any λi=>decide ((B37 (U1 w (upF w l)) i).IdleSteps<w.Settings.SleepSteps))&& !(B5i (U1 w (upF w l)) x)):=by
      unfold B0f;by_cases h1:w.Settings.SleepSteps<=0
      ·rw[if_pos h1]at hq;cases hq
      ·rw[if_neg h1,beq_eq_false_iff_ne]at hq;have: ¬l.length=0:=by omega
       rw[decide_eq_false this,decide_eq_false h1];rfl
     have hA:=B7s (U1 w (upF w l)) x l B1d (λb=>decide (b.IdleSteps<w.Settings.SleepSteps)) (C2l (U1 w (upF w l)) x l) hl (by show ∀i∈l,0<=i/\i<((upF w l).length:Int);rw[hb1];exact hin)
     have hD:=B4s (U1 w (upF w l)) x l (G2t hw l) hx;generalize(l.any λi=>decide ((B37 (U1 w (upF w l)) i).IdleSteps<w.Settings.SleepSteps))=pa at hst hA;generalize B5i (U1 w (upF w l)) x=pd at hst hD;refine A1h hA hob (by simp[go_sem,hb1]) (by simp[go_sem,AV.ids]) rfl ?_;simp only[go_sem,go_sem_proc,hb1];cases pa with
     |true=>
      rw[if_neg (c:=B0f w x l=true) (by rw[hst];simp)];refine B1n (by simp) (sB false) ?_;simp only[go_sem,go_sem_proc]
      try simp only[go_sem,go_sem_proc,hb1]
      (repeat' (with_reducible apply And.intro)) <;> exact eE_
     |false=>
      refine A1h hD hob (by simp[go_sem,hb1]) (by simp[go_sem,AV.ids]) rfl ?_;simp only[go_sem,go_sem_proc,hb1];cases pd with
      |true=>
       rw[if_neg (c:=B0f w x l=true) (by rw[hst];simp)];simp only[go_sem,go_sem_proc]
       try simp only[go_sem,go_sem_proc,hb1]
       (repeat' (with_reducible apply And.intro)) <;> exact eE_
      |false=>
       rw[if_pos (c:=B0f w x l=true) (by rw[hst];rfl)];simp only[go_sem,go_sem_proc];refine A9 hm (ι:= {i:Nat // i<=l.length}) (λi=> [(4, .share, .ptr 80 0 0 1),(6, .share, .ptr 6 0 0 1),(9,if i.1=0 then .adopt else .share, .sl 7 0 (slF (upF w l) (l.take i.1)).2.length (slF (upF w l) (l.take i.1)).2.length),(81, .share, .sl 5 0 l.length l.length),(82, .share,sI l.length),(83, .share,sI i.1)])
        (λi=>(80, .box World.zero)::(7, .arr 5 (A8 D1b default (slF (upF w l) (l.take i.1)).2))::E2s w (slF (upF w l) (l.take i.1)).1 x l) (λi=>l.length-i.1) ⟨0,by omega⟩ ?_ ?_
       ·refine B5 [] [7] (by simp[go_sem]) (by simp[A6,go_sem]) (by simp[go_sem]) ?_;simp only[go_sem,go_sem_proc,F9c]
       ·rintro⟨i,hi⟩;obtain⟨hc1,hc2⟩:=E79 (upF w l) (l.take i);simp only[List.length_take]at hc2;simp only[go_sem,go_sem_proc];split
        ·rename_i hlt;have hlt:i<l.length:=by omega
         obtain⟨hi0,hi1⟩:=hin _ (B6 0 hlt);have hc3:w.Bodies.length=(slF (upF w l) (l.take i)).1.length:=by rw[hc1,hb1]
         refine⟨(by(repeat' (with_reducible apply And.intro)) <;> omega),(by(repeat' (with_reducible apply And.intro)) <;> omega),hc3,?_⟩;have he:slF (upF w l) (l.take (i+1))=((slF (upF w l) (l.take i)).1.set (l.getD i 0).toNat (F5o ((slF (upF w l) (l.take i)).1.getD (l.getD i 0).toNat default)),(slF (upF w l) (l.take i)).2++ [(6,((slF (upF w l) (l.take i)).1.getD (l.getD i 0).toNat default).ID)]):=by rw[F62 hlt,B4l]
         refine⟨hc3,hc3,hc3,(by(repeat' (with_reducible apply And.intro)) <;> first |omega |(simp only[maxLen];omega)),?_⟩;refine A7 ⟨i+1,by omega⟩ (by show l.length-(i+1)<l.length-i;omega) (B5 [] [] (by simp[go_sem]) (by simp[go_sem]) (by simp[go_sem]) ?_);simp only[go_sem,go_sem_proc,he,List.length_append,List.length_singleton];exact⟨(by rw[IntKind.wrap_i64];omega),A1y (6,((slF (upF w l) (l.take i)).1.getD (l.getD i 0).toNat default).ID) rfl rfl,A2k (F5o ((slF (upF w l) (l.take i)).1.getD (l.getD i 0).toNat default)) (by omega) rfl rfl⟩
        ·rename_i hge;obtain rfl:i=l.length:=by omega
         simp only[go_sem,go_sem_proc,List.take_length]at hc1 hc2⊢;rw[hb1]at hc1
         try simp only[go_sem,go_sem_proc,hc1]
         (repeat' (with_reducible apply And.intro)) <;> exact F3w _
def D1r(l:List Api.Event):List AV:= [A2 5 Api.Event.enc default l]
attribute [go_sem] D1r
theorem D4h(n:Nat)(h0:0<n)(hn:n<=4194304):A1 Tryz.prog B48 [.sc (.slice none 0 0),sI n] [] (.sl 1 0 0 n) [(1, .arr 5 ⟨n,λ_=>Api.Event.zero⟩)]:=by
 have w1:IntKind.i64.wrap (0-0)=0:=rfl
 have w2:IntKind.i64.wrap ((n:Int)-0)=n:=by rw[IntKind.wrap_i64];omega
 refine H8 hm A4 Tryz.func208 rfl rfl ?_;simp only[go_sem,go_sem_proc];rw[if_neg (by omega)];simp only[w1,w2];rw[if_pos (by omega)];refine⟨(by(repeat' (with_reducible apply And.intro)) <;> omega),?_⟩;refine⟨by omega,?_⟩;simp only[Int.toNat_natCast];refine C6 [.share] [(1,368)] [] rfl rfl (by simp) (by simp) (by simp) ?_;simp only[go_sem,go_sem_proc];simp
theorem C7m(n:Nat)(hn:n<=4194304):A1 Tryz.prog B48 [.sc (.slice none 0 0),sI n] [] (.sl 1 0 0 0) [(1, .arr 5 (A8 Api.Event.enc default []))]:=by
 rcases Nat.eq_zero_or_pos n with rfl |h0
 ·have w1:IntKind.i64.wrap (0-0)=0:=rfl
  refine H8 hm A4 Tryz.func208 rfl rfl ?_;simp only[go_sem,go_sem_proc];rw[if_neg (by omega)];simp only[w1];rw[if_neg (by decide)];refine C6 [.adopt] [] [1] rfl rfl (by simp) (by simp[A6]) (by simp) ?_;simp only[go_sem,go_sem_proc]
 ·exact(D4h n h0 hn).shrink rfl _
def A7b(L:List (List Api.Event))(k:Nat):Nat:=((L.take k).flatten).length
theorem D59 {L:List (List Api.Event)}{k:Nat}(h:k<L.length):A7b L (k+1)=A7b L k+(L.getD k default).length:=by unfold A7b;rw[K9 default h];simp
theorem C49(L:List (List Api.Event))(k:Nat):A7b L k<=L.flatten.length:=by
 unfold A7b;have:L.flatten=(L.take k).flatten++(L.drop k).flatten:=by rw[<-List.flatten_append,List.take_append_drop]
 rw[this,List.length_append];omega
theorem C3a(L:List (List Api.Event))(hL:L.flatten.length<=4194304)(hl:L.length<=1000):A1 Tryz.prog C20 [A2 1 D1r default L] [] (A2 5 Api.Event.enc default L.flatten) []:=by
 refine en1 hm A4 Tryz.func122 rfl rfl ?_;simp only[go_sem,go_sem_proc];refine A9 hm (ι:= {i:Nat // i<=L.length}) (λi=> [(0, .share,A2 1 D1r default L),(3, .share,sI (A7b L i.1)),(9, .share,A2 1 D1r default L),(10, .share,sI L.length),(11, .share,sI i.1)])
  (λi=> []) (λi=>L.length-i.1) ⟨0,by omega⟩ ?_ ?_
 ·refine B5 [] [] (by simp[go_sem]) (by simp[A6,go_sem]) (by simp[go_sem]) ?_;simp only[go_sem,go_sem_proc];simp[A7b]
 ·rintro⟨i,hi⟩;have hs:=C49 L i;simp only[go_sem,go_sem_proc];by_cases hlt:(i:Int)<L.length
  ·rw[if_pos hlt];have hlt:i<L.length:=by omega
   have hs2:=C49 L (i+1)
   have he:=D59 hlt;refine⟨(by(repeat' (with_reducible apply And.intro)) <;> omega),?_⟩;have hw:IntKind.i64.wrap ((A7b L i:Int)+((L.getD i default).length:Int))=(A7b L (i+1):Int):=by rw[IntKind.wrap_i64,he];omega
   rw[hw,if_neg (by omega)];refine A7 ⟨i+1,by omega⟩ (by show L.length-(i+1)<L.length-i;omega) (B5 [] [] (by simp[go_sem]) (by simp[go_sem]) (by simp[go_sem]) ?_);simp only[go_sem,go_sem_proc];exact(by rw[IntKind.wrap_i64];omega)
  ·rw[if_neg hlt];obtain rfl:i=L.length:=by omega
   have hfull:A7b L L.length=L.flatten.length:=by unfold A7b;rw[List.take_length]
   refine E3 [true,true] [(1,7)] (C7m (A7b L L.length) (by omega)) (by simp) (by simp) (by simp) (by simp) ?_;simp only[go_sem,go_sem_proc];refine A9 hm (ι:= {i:Nat // i<=L.length}) (λi=> [(6, .share, .sl 7 0 (A7b L i.1) (A7b L i.1)),(25, .share,A2 1 D1r default L),(26, .share,sI L.length),(27, .share,sI i.1)])
    (λi=> [(7, .arr 5 (A8 Api.Event.enc default (L.take i.1).flatten))]) (λi=>L.length-i.1) ⟨0,by omega⟩ ?_ ?_
   ·refine B5 [] [] (by simp[go_sem]) (by simp[A6,go_sem]) (by simp[go_sem]) ?_;simp only[go_sem,go_sem_proc];simp[A7b,List.take_zero,go_sem]
   ·rintro⟨i,hi⟩;have hs:=C49 L i;simp only[go_sem,go_sem_proc];by_cases hlt:(i:Int)<L.length
    ·rw[if_pos hlt];have hlt:i<L.length:=by omega
     have hs2:=C49 L (i+1)
     have he:=D59 hlt
     have hm0:(L.take i).flatten.length=A7b L i:=rfl;refine⟨(by(repeat' (with_reducible apply And.intro)) <;> omega),?_⟩;refine⟨⟨by omega,by omega,by omega,by simp only[maxLen];omega⟩,?_⟩;refine A7 ⟨i+1,by omega⟩ (by show L.length-(i+1)<L.length-i;omega) (B5 [] [] (by simp[go_sem]) (by simp[go_sem]) (by simp[go_sem]) ?_);simp only[go_sem,go_sem_proc]
     all_goals((repeat' (with_reducible apply And.intro)) <;> first |(rw[IntKind.wrap_i64];omega) |exact he.symm |exact A4f (by rw[K9 default hlt];simp))
    ·rw[if_neg hlt];obtain rfl:i=L.length:=by omega
     simp only[go_sem,go_sem_proc,List.take_length];exact⟨hfull,by rw[hfull];exact I7 _⟩
def A93(w:Api.World)(id:Int):Bool:=decide (0<=H6 w id)&&((w.Bodies.getD (H6 w id).toNat default).Kind==3)
theorem B2g(w:Api.World)(id:Int)(hw:w.Bodies.length<=1048576):A1 Tryz.prog D37 [.agg w.enc,sI id] [] (.tup [sI (H6 w id),sB (A93 w id)]) []:=by have hf:=A2q w id;refine enT hm A4 Tryz.func258 rfl rfl ?_;simp only[go_sem];refine A0 (A16 w id hw) rfl ?_;simp only[go_sem,C0];refine⟨λh=>ok_,?_⟩;rfl
def rt(g:List Int):Nat->Int->Int
 |0,i=>i
 |k+1,i=>if g.getD i.toNat 0=i then i else rt g k (g.getD i.toNat 0)
def M3(g:List Int)(i:Int):Int:=rt g i.toNat i
def UF(g:List Int):Prop:= ∀i:Nat,i<g.length->0<=g.getD i 0/\g.getD i 0<=(i:Int)
theorem E39 {g:List Int}{i:Int}(h:g.getD i.toNat 0=i): ∀k,rt g k i=i
 |0=>rfl
 |k+1=>by rw[rt,if_pos h]
theorem D06 {g:List Int}(hg:UF g): ∀(k:Nat) (i:Int),0<=i->i<(g.length:Int)->i.toNat<=k->rt g k i=M3 g i
 |0,i,h0,h1,hk=>by unfold M3;rw[show i.toNat=0 by omega]
 |k+1,i,h0,h1,hk=>by
  obtain⟨a,b⟩:=hg i.toNat (by omega);unfold M3;by_cases he:g.getD i.toNat 0=i
  ·rw[E39 he,E39 he]
  ·cases hn:i.toNat with
   |zero=>rw[hn]at a b he;omega
   |succ n=>
    have hj:g.getD (n+1) 0≠i:=by rw[hn]at he;exact he
    rw[hn]at a b;rw[rt,rt,hn,if_neg hj,if_neg hj,D06 hg k _ a (by omega) (by omega),D06 hg n _ a (by omega) (by omega)]
theorem C05 {g:List Int}(hg:UF g){i:Int}(h0:0<=i)(h1:i<(g.length:Int))(hn:g.getD i.toNat 0≠i):M3 g (g.getD i.toNat 0)=M3 g i:=by obtain⟨a,b⟩:=hg i.toNat (by omega);have:M3 g i=rt g (i.toNat+1) i:=(D06 hg (i.toNat+1) i h0 h1 (by omega)).symm;rw[this,rt,if_neg hn,D06 hg _ _ a (by omega) (by omega)]
theorem B83 {g:List Int}{i:Int}(h:g.getD i.toNat 0=i):M3 g i=i:=E39 h _
theorem E5n {g:List Int}(hg:UF g): ∀(k:Nat) (i:Int),i.toNat<=k->0<=i->i<(g.length:Int)->0<=M3 g i/\M3 g i<=i/\g.getD (M3 g i).toNat 0=M3 g i
 |k,i,hk,h0,h1=>by
  obtain⟨a,b⟩:=hg i.toNat (by omega);by_cases he:g.getD i.toNat 0=i
  ·rw[B83 he];exact⟨h0,Int.le_refl _,he⟩
  ·rw[<-C05 hg h0 h1 he];cases k with
   |zero=>omega
   |succ k=>have:=E5n hg k (g.getD i.toNat 0) (by omega) a (by omega);exact⟨this.1,by omega,this.2.2⟩
theorem A83 {g:List Int}(hg:UF g){i:Int}(h0:0<=i)(h1:i<(g.length:Int)):0<=M3 g i/\M3 g i<=i/\g.getD (M3 g i).toNat 0=M3 g i:=E5n hg _ i (Nat.le_refl _) h0 h1
theorem D5y(g:List Int)(i:Int)(hg:UF g)(h0:0<=i)(h1:i<(g.length:Int)):A1 Tryz.prog B0z [.sl 1 0 g.length g.length,sI i] [(1, .arr 1 (A8 B9 0 g))] (sI (M3 g i)) [(1, .arr 1 (A8 B9 0 g))]:=by
 refine H8 hm A4 Tryz.func159 rfl rfl ?_;simp only[go_sem];refine A9 hm (ι:= {j:Int // 0<=j/\j<(g.length:Int)/\M3 g j=M3 g i}) (λj=> [(0, .share, .sl 1 0 g.length g.length),(1, .share,sI j.1)])
  (λ_=> [(1, .arr 1 (A8 B9 0 g))]) (λj=>j.1.toNat) ⟨i,h0,h1,rfl⟩ ?_ ?_
 ·refine D6 [] [] ?_;simp only[go_sem]
 ·rintro⟨j,hj0,hj1,hj⟩;obtain⟨a,b⟩:=hg j.toNat (by omega);simp only[go_sem];refine⟨ok_,?_⟩;by_cases he:g.getD j.toNat 0=j
  ·rw[if_neg (by rw[he];simp)];refine C6 [.share] [] [] rfl rfl (by simp[go_sem]) (by simp[A6,go_sem]) (by simp[go_sem]) ?_;simp only[go_sem];rw[<-hj,B83 he]
  ·rw[if_pos (by simpa using he)];refine⟨ok_,?_⟩;refine A7 ⟨g.getD j.toNat 0,a,by omega,by rw[C05 hg hj0 hj1 he,hj]⟩ (by show(g.getD j.toNat 0).toNat<j.toNat;omega) (D6 [] [] ?_);simp only[go_sem]
theorem D3f(g:List Int)(i:Int)(hg:UF g)(h0:0<=i)(h1:i<(g.length:Int)):A1 Tryz.prog B0z [A2 1 B9 0 g,sI i] [] (sI (M3 g i)) []:=by
 refine en1 hm A4 Tryz.func159 rfl rfl ?_;simp only[go_sem];refine A9 hm (ι:= {j:Int // 0<=j/\j<(g.length:Int)/\M3 g j=M3 g i}) (λj=> [(0, .share,A2 1 B9 0 g),(1, .share,sI j.1)])
  (λ_=> []) (λj=>j.1.toNat) ⟨i,h0,h1,rfl⟩ ?_ ?_
 ·refine D6 [] [] ?_;simp only[go_sem]
 ·rintro⟨j,hj0,hj1,hj⟩;obtain⟨a,b⟩:=hg j.toNat (by omega);simp only[go_sem];refine⟨ok_,?_⟩;by_cases he:g.getD j.toNat 0=j
  ·rw[if_neg (by rw[he];simp)];rw[<-hj,B83 he]
  ·rw[if_pos (by simpa using he)];refine⟨ok_,?_⟩;refine A7 ⟨g.getD j.toNat 0,a,by omega,by rw[C05 hg hj0 hj1 he,hj]⟩ (by show(g.getD j.toNat 0).toNat<j.toNat;omega) (D6 [] [] ?_);simp only[go_sem]
def B2j(a b:Int):Int:=if a<b then b else a
def B5f(a b:Int):Int:=if b<a then b else a
def uni(w:Api.World)(g:List Int)(a b:Int):List Int:=if(A93 w a&&A93 w b)=true then g.set (B2j (M3 g (H6 w a)) (M3 g (H6 w b))).toNat (B5f (M3 g (H6 w a)) (M3 g (H6 w b)))else g
theorem E8z(w:Api.World)(g:List Int)(a b:Int):(uni w g a b).length=g.length:=by unfold uni;split <;> simp
theorem B3g {w:Api.World}{a:Int}(h:A93 w a=true):0<=H6 w a/\H6 w a<(w.Bodies.length:Int):=by unfold A93 at h;simp only[Bool.and_eq_true,decide_eq_true_eq]at h;exact⟨h.1,(A2q w a).2⟩
theorem F28 {w:Api.World}{g:List Int}(hg:UF g)(hl:g.length=w.Bodies.length)(a b:Int):UF (uni w g a b):=by
 unfold uni;split
 ·rename_i h;rw[Bool.and_eq_true]at h;obtain⟨a0,a1⟩:=B3g h.1;obtain⟨b0,b1⟩:=B3g h.2;obtain⟨x0,x1,_⟩:=A83 hg a0 (by omega);obtain⟨y0,y1,_⟩:=A83 hg b0 (by omega);intro i hi;rw[List.length_set]at hi;generalize M3 g (H6 w a)=x at*;generalize M3 g (H6 w b)=y at*;have hmm:0<=B5f x y/\B5f x y<=B2j x y/\B2j x y<(g.length:Int):=by unfold B5f B2j;split <;> split <;> omega
  generalize B2j x y=p at*;generalize B5f x y=q at*;rw[C5x _ _ _ _ _ (by omega)];split
  ·rename_i he;subst he;omega
  ·exact hg i hi
 ·exact hg
theorem E85(w:Api.World)(g:List Int)(a b:Int)(hg:UF g)(hl:g.length=w.Bodies.length)(hw:w.Bodies.length<=1048576):
  A1 Tryz.prog B85 [.sl 1 0 g.length g.length, .agg w.enc,sI a,sI b] [(1, .arr 1 (A8 B9 0 g))] (.tup []) [(1, .arr 1 (A8 B9 0 (uni w g a b)))]:=by
 refine A7p hm A4 Tryz.func257 rfl rfl ?_;simp only[go_sem];refine A0 (B2g w a hw) rfl ?_;simp only[go_sem];refine A0 (B2g w b hw) rfl ?_;simp only[go_sem,C0,B3];cases hd:(A93 w a&&A93 w b)with
 |false=>
  have hu:uni w g a b=g:=by unfold uni;rw[if_neg (by rw[hd];simp)]
  rw[if_neg (by simp)];refine C6 [] [] [] rfl rfl (by simp[go_sem]) (by simp[A6,go_sem]) (by simp[go_sem]) ?_;simp only[go_sem,hu]
 |true=>
  have hu:uni w g a b=g.set (B2j (M3 g (H6 w a)) (M3 g (H6 w b))).toNat (B5f (M3 g (H6 w a)) (M3 g (H6 w b))):=by unfold uni;rw[if_pos hd]
  rw[if_pos rfl];rw[Bool.and_eq_true]at hd;obtain⟨a0,a1⟩:=B3g hd.1;obtain⟨b0,b1⟩:=B3g hd.2;obtain⟨x0,x1,_⟩:=A83 hg a0 (by omega);obtain⟨y0,y1,_⟩:=A83 hg b0 (by omega);refine Y0 (D5y g (H6 w a) hg a0 (by omega)) (by refine⟨by simp,?_⟩;simp) rfl (by simp[go_sem]) (by simp[go_sem,AV.ids]) rfl ?_;simp only[go_sem];refine Y0 (D5y g (H6 w b) hg b0 (by omega)) (by refine⟨by simp,?_⟩;simp) rfl (by simp[go_sem]) (by simp[go_sem,AV.ids]) rfl ?_;simp only[go_sem];have hmx:0<=B2j (M3 g (H6 w a)) (M3 g (H6 w b))/\B2j (M3 g (H6 w a)) (M3 g (H6 w b))<(g.length:Int):=by unfold B2j;split <;> omega
  have e1:(if M3 g (H6 w a)<M3 g (H6 w b)then M3 g (H6 w b)else M3 g (H6 w a))=B2j (M3 g (H6 w a)) (M3 g (H6 w b)):=rfl
  have e2:(if M3 g (H6 w b)<M3 g (H6 w a)then M3 g (H6 w b)else M3 g (H6 w a))=B5f (M3 g (H6 w a)) (M3 g (H6 w b)):=rfl;simp only[e1,e2];refine⟨⟨hmx.1,hmx.2⟩,?_⟩;refine C6 [] [] [] rfl rfl (by simp[go_sem]) (by simp[A6,go_sem]) (by simp[go_sem]) ?_;simp only[go_sem,hu];exact A2k (B5f (M3 g (H6 w a)) (M3 g (H6 w b))) (by omega) rfl rfl
def idL(n:Nat):List Int:=(List.range n).map λ(i:Nat)=>(i:Int)
theorem A5x(n:Nat):(idL n).length=n:=by simp[idL]
theorem E9j {n i:Nat}(h:i<n):(idL n).getD i 0=i:=by simp[idL,List.getD,h]
theorem G16(n:Nat):UF (idL n):=λi hi=>by rw[A5x]at hi;rw[E9j hi];omega
def uC(w:Api.World)(g:List Int)(c:Contact):List Int:=uni w g c.Key.BodyA c.Key.BodyB
def uJ(w:Api.World)(g:List Int)(j:Joint):List Int:=uni w g j.BodyA j.BodyB
def B3w(w:Api.World)(k:Nat):List Int:=(w.Contacts.take k).foldl (uC w) (idL w.Bodies.length)
def B2s(w:Api.World)(k:Nat):List Int:=(w.Joints.take k).foldl (uJ w) (B3w w w.Contacts.length)
def F2(w:Api.World):List Int:=B2s w w.Joints.length
def UFn(w:Api.World)(g:List Int):Prop:=UF g/\g.length=w.Bodies.length
theorem D1f(w:Api.World): ∀k,k<=w.Contacts.length->UFn w (B3w w k)
 |0,_=>⟨G16 _,A5x _⟩
 |k+1,h=>by
  have ih:=D1f w k (by omega)
  have:B3w w (k+1)=uC w (B3w w k) (w.Contacts.getD k default):=by unfold B3w;rw[K9 default (by omega),List.foldl_append];rfl
  rw[this];exact⟨F28 ih.1 ih.2 _ _,by unfold uC;rw[E8z];exact ih.2⟩
theorem D1i(w:Api.World): ∀k,k<=w.Joints.length->UFn w (B2s w k)
 |0,_=>D1f w _ (Nat.le_refl _)
 |k+1,h=>by
  have ih:=D1i w k (by omega)
  have:B2s w (k+1)=uJ w (B2s w k) (w.Joints.getD k default):=by unfold B2s;rw[K9 default (by omega),List.foldl_append];rfl
  rw[this];exact⟨F28 ih.1 ih.2 _ _,by unfold uJ;rw[E8z];exact ih.2⟩
theorem E9f(w:Api.World):UFn w (F2 w):=D1i w _ (Nat.le_refl _)
def idP(n i:Nat):List Int:=idL i++List.replicate (n-i) 0
theorem E8l {n i:Nat}(h:i<=n):(idP n i).length=n:=by simp[idP,A5x];omega
theorem F8b {n i:Nat}(h:i<n):(idP n i).set i (i:Int)=idP n (i+1):=by
 apply List.ext_getElem?;intro j;have hr:n-i=(n-(i+1))+1:=by omega
 unfold idP;rw[List.getElem?_set];by_cases hj:i=j
 ·subst hj;rw[if_pos rfl,if_pos (by simp[A5x];omega),List.getElem?_append_left (by rw[A5x];omega)];simp[idL]
 ·rw[if_neg hj];rcases Nat.lt_or_ge j i with h1 |h1
  ·rw[List.getElem?_append_left (by rw[A5x];exact h1),List.getElem?_append_left (by rw[A5x];omega)];simp[idL,h1,show j<i+1 by omega]
  ·rw[List.getElem?_append_right (by rw[A5x];exact h1),List.getElem?_append_right (by rw[A5x];omega),A5x,A5x];simp only[List.getElem?_replicate];congr 1;simp only[eq_iff_iff];omega
theorem F3x(w:Api.World)(hw:Wsm w):A1 Tryz.prog D44 [.agg w.enc] [] (A2 1 B9 0 (F2 w)) []:=by
 obtain⟨w1,w2,w3,w4,w5,w6⟩:=hw;refine en1 hm A4 Tryz.func158 rfl rfl ?_;simp only[go_sem];refine⟨ok_,?_⟩;refine A9 hm (ι:= {i:Nat // i<=w.Bodies.length}) (λi=> [(1, .share, .ptr 32 0 0 1),(3, .share, .sl 1 0 w.Bodies.length w.Bodies.length),(14, .share,sI w.Bodies.length),(15, .share,sI i.1)])
  (λi=> [(32, .box w.enc),(1, .arr 1 (A8 B9 0 (idP w.Bodies.length i.1)))]) (λi=>w.Bodies.length-i.1) ⟨0,by omega⟩ ?_ ?_
 ·refine D6 [(1,208)] [] ?_;simp only[go_sem];refine⟨rfl,(E8l (Nat.zero_le _)).symm,λk hk=> ?_⟩;have hk:k<w.Bodies.length:=hk
  have:(idP w.Bodies.length 0).getD k 0=0:=by simp[idP,idL,List.getD,hk]
  simp only[F4d,C8q,this];exact L3 _
 ·rintro⟨i,hi⟩;have hpl:=E8l hi;simp only[go_sem];by_cases hlt:(i:Int)<w.Bodies.length
  ·rw[if_pos hlt];have hlt:i<w.Bodies.length:=by omega
   refine⟨⟨by omega,by omega,by omega⟩,hpl.symm,?_⟩;refine A7 ⟨i+1,by omega⟩ (by show w.Bodies.length-(i+1)<w.Bodies.length-i;omega) (D6 [] [] ?_);simp only[go_sem];exact⟨(by rw[IntKind.wrap_i64];omega),A2k (i:Int) (by omega) rfl (F8b hlt)⟩
  ·rw[if_neg hlt];obtain rfl:i=w.Bodies.length:=by omega
   have hid:idP w.Bodies.length w.Bodies.length=idL w.Bodies.length:=by simp[idP]
   refine A9 hm (ι:= {i:Nat // i<=w.Contacts.length}) (λi=> [(1, .share, .ptr 32 0 0 1),(3, .share, .sl 1 0 w.Bodies.length w.Bodies.length),(24, .share,A2 7 Contact.enc default w.Contacts),(25, .share,sI w.Contacts.length),(26, .share,sI i.1)])
    (λi=> [(32, .box w.enc),(1, .arr 1 (A8 B9 0 (B3w w i.1)))]) (λi=>w.Contacts.length-i.1) ⟨0,by omega⟩ ?_ ?_
   ·refine D6 [] [] ?_;simp only[go_sem,hid];exact A4f rfl
   ·rintro⟨i,hi⟩;obtain⟨hu,hl⟩:=D1f w i hi;simp only[go_sem];by_cases hlt:(i:Int)<w.Contacts.length
    ·rw[if_pos hlt];have hlt:i<w.Contacts.length:=by omega
     have hs:B3w w (i+1)=uC w (B3w w i) (w.Contacts.getD i default):=by unfold B3w;rw[K9 default (by omega),List.foldl_append];rfl
     have hU:=E85 w (B3w w i) (w.Contacts.getD i default).Key.BodyA (w.Contacts.getD i default).Key.BodyB hu hl w1;rw[hl]at hU;refine⟨ok_,?_⟩;refine Y0 hU (by refine⟨by simp,?_⟩;simp) rfl (by simp[go_sem]) (by simp[go_sem,AV.ids]) rfl ?_;simp only[go_sem];refine A7 ⟨i+1,by omega⟩ (by show w.Contacts.length-(i+1)<w.Contacts.length-i;omega) (D6 [] [] ?_);simp only[go_sem];exact⟨(by rw[IntKind.wrap_i64];omega),A4f hs.symm⟩
    ·rw[if_neg hlt];obtain rfl:i=w.Contacts.length:=by omega
     refine A9 hm (ι:= {i:Nat // i<=w.Joints.length}) (λi=> [(1, .share, .ptr 32 0 0 1),(3, .share, .sl 1 0 w.Bodies.length w.Bodies.length),(41, .share,A2 24 Joint.enc default w.Joints),(42, .share,sI w.Joints.length),(43, .share,sI i.1)])
      (λi=> [(32, .box w.enc),(1, .arr 1 (A8 B9 0 (B2s w i.1)))]) (λi=>w.Joints.length-i.1) ⟨0,by omega⟩ ?_ ?_
     ·refine D6 [] [] ?_;simp only[go_sem];exact A4f rfl
     ·rintro⟨i,hi⟩;obtain⟨hu,hl⟩:=D1i w i hi;simp only[go_sem];by_cases hlt:(i:Int)<w.Joints.length
      ·rw[if_pos hlt];have hlt:i<w.Joints.length:=by omega
       have hs:B2s w (i+1)=uJ w (B2s w i) (w.Joints.getD i default):=by unfold B2s;rw[K9 default (by omega),List.foldl_append];rfl
       have hU:=E85 w (B2s w i) (w.Joints.getD i default).BodyA (w.Joints.getD i default).BodyB hu hl w1;rw[hl]at hU;refine⟨ok_,?_⟩;refine Y0 hU (by refine⟨by simp,?_⟩;simp) rfl (by simp[go_sem]) (by simp[go_sem,AV.ids]) rfl ?_;simp only[go_sem];refine A7 ⟨i+1,by omega⟩ (by show w.Joints.length-(i+1)<w.Joints.length-i;omega) (D6 [] [] ?_);simp only[go_sem];exact⟨(by rw[IntKind.wrap_i64];omega),A4f hs.symm⟩
      ·rw[if_neg hlt];obtain rfl:i=w.Joints.length:=by omega
       have hcl:=(E9f w).2
       have hcc:B2s w w.Joints.length=F2 w:=rfl;simp only[go_sem,hcc,hcl]
def kd(w:Api.World)(i:Nat):Bool:=(w.Bodies.getD i default).Kind==3
def DG(w:Api.World)(g:List Int):Prop:= ∀i:Nat,i<g.length->g.getD i 0≠(i:Int)->kd w i=true/\kd w (g.getD i 0).toNat=true
theorem C50 {w:Api.World}{g:List Int}(hg:UF g)(hd:DG w g): ∀(k:Nat) (i:Int),i.toNat<=k->0<=i->i<(g.length:Int)->kd w i.toNat=true->kd w (M3 g i).toNat=true
 |k,i,hk,h0,h1,hi=>by
  obtain⟨a,b⟩:=hg i.toNat (by omega);by_cases he:g.getD i.toNat 0=i
  ·rw[B83 he];exact hi
  ·rw[<-C05 hg h0 h1 he];obtain⟨d1,d2⟩:=hd i.toNat (by omega) (by omega);cases k with
   |zero=>omega
   |succ k=>exact C50 hg hd k _ (by omega) a (by omega) d2
theorem D9j {w:Api.World}{a:Int}(h:A93 w a=true):kd w (H6 w a).toNat=true:=by unfold A93 at h;rw[Bool.and_eq_true]at h;exact h.2
theorem F25 {w:Api.World}{g:List Int}(hg:UF g)(hl:g.length=w.Bodies.length)(hd:DG w g)(a b:Int):DG w (uni w g a b):=by
 unfold uni;split
 ·rename_i h;rw[Bool.and_eq_true]at h;obtain⟨a0,a1⟩:=B3g h.1;obtain⟨b0,b1⟩:=B3g h.2;obtain⟨x0,x1,_⟩:=A83 hg a0 (by omega);obtain⟨y0,y1,_⟩:=A83 hg b0 (by omega);have k1:=C50 hg hd _ _ (Nat.le_refl _) a0 (by omega) (D9j h.1)
  have k2:=C50 hg hd _ _ (Nat.le_refl _) b0 (by omega) (D9j h.2);generalize M3 g (H6 w a)=x at*;generalize M3 g (H6 w b)=y at*;have hmm:0<=B5f x y/\B5f x y<=B2j x y/\B2j x y<(g.length:Int)/\kd w (B2j x y).toNat=true/\kd w (B5f x y).toNat=true:=by unfold B5f B2j;split <;> split <;> (refine⟨by omega,by omega,by omega,?_,?_⟩ <;> assumption)
  generalize B2j x y=p at*;generalize B5f x y=q at*;intro i hi hne;rw[List.length_set]at hi;rw[C5x _ _ _ _ _ (by omega)]at hne⊢;by_cases he:i=p.toNat
  ·rw[if_pos he]at hne⊢;subst he;exact⟨hmm.2.2.2.1,hmm.2.2.2.2⟩
  ·rw[if_neg he]at hne⊢;exact hd i hi hne
 ·exact hd
theorem G1k(w:Api.World)(n:Nat):DG w (idL n):=λi hi hne=>by rw[A5x]at hi;exact absurd (E9j hi) hne
theorem E8w(w:Api.World): ∀k,k<=w.Contacts.length->DG w (B3w w k)
 |0,_=>G1k w _
 |k+1,h=>by
  have ih:=D1f w k (by omega)
  have:B3w w (k+1)=uC w (B3w w k) (w.Contacts.getD k default):=by unfold B3w;rw[K9 default (by omega),List.foldl_append];rfl
  rw[this];exact F25 ih.1 ih.2 (E8w w k (by omega)) _ _
theorem E8q(w:Api.World): ∀k,k<=w.Joints.length->DG w (B2s w k)
 |0,_=>E8w w _ (Nat.le_refl _)
 |k+1,h=>by
  have ih:=D1i w k (by omega)
  have:B2s w (k+1)=uJ w (B2s w k) (w.Joints.getD k default):=by unfold B2s;rw[K9 default (by omega),List.foldl_append];rfl
  rw[this];exact F25 ih.1 ih.2 (E8q w k (by omega)) _ _
theorem F8d(w:Api.World):DG w (F2 w):=E8q w _ (Nat.le_refl _)
def B16(nm:List (Int×Int))(k:Int):Int:=match nm with
 | []=>0
 |(a,v)::r=>if(k==a)=true then v else B16 r k
def C8h(nm:List (Int×Int))(k v:Int):List (Int×Int):=match nm with
 | []=> [(k,v)]
 |(a,u)::r=>if(k==a)=true then(a,v)::r else(a,u)::C8h r k v
def nmE(nm:List (Int×Int)):List (Int×AV):=nm.map λp=>(p.1,sI p.2)
theorem C4m(k:Int): ∀nm:List (Int×Int),(B7a (nmE nm) k).getD (sI 0)=sI (B16 nm k)
 | []=>rfl
 |(a,v)::r=>by
  have ih:=C4m k r;simp only[nmE,List.map_cons,B7a,B16]at ih⊢;by_cases h:(k==a)=true
  ·rw[if_pos h,if_pos h];rfl
  ·rw[if_neg h,if_neg h];exact ih
theorem E3k(k v:Int): ∀nm:List (Int×Int),B3l (nmE nm) k (sI v)=nmE (C8h nm k v)
 | []=>rfl
 |(a,u)::r=>by
  have ih:=E3k k v r;simp only[nmE,List.map_cons,B3l,C8h]at ih⊢;by_cases h:(k==a)=true
  ·rw[if_pos h,if_pos h];rfl
  ·rw[if_neg h,if_neg h,ih];rfl
theorem B77(k v:Int)(j:Int): ∀nm:List (Int×Int),B16 (C8h nm k v) j=if j=k then v else B16 nm j
 | []=>by simp[C8h,B16]
 |(a,u)::r=>by
  have ih:=B77 k v j r;simp only[C8h];by_cases h:(k==a)=true
  ·rw[if_pos h];have h:k=a:=by simpa using h
   subst h;simp only[B16,beq_iff_eq];split <;> rfl
  ·rw[if_neg h];have h:k≠a:=by simpa using h
   simp only[B16,beq_iff_eq,ih];by_cases hj:j=a
   ·subst hj;rw[if_pos rfl,if_neg (λe=>h e.symm)];simp
   ·rw[if_neg hj,if_neg hj]
def C48(w:Api.World)(g:List Int)(a b:Int):Option Int:=if A93 w a=true then some (M3 g (H6 w a))else if A93 w b=true then some (M3 g (H6 w b))else none
def B3o(w:Api.World)(g:List Int)(nm:List (Int×Int))(a b:Int):Int×Bool:=match C48 w g a b with
 |some k=>(B16 nm k,true)
 |none=>(0,false)
theorem D6d(w:Api.World)(g:List Int)(nm:List (Int×Int))(a b:Int)(hg:UF g)(hl:g.length=w.Bodies.length)(hw:w.Bodies.length<=1048576):
  A1 Tryz.prog B58 [A2 1 B9 0 g, .agg w.enc, .mp 384,sI a,sI b] [(384, .map .i64 (nmE nm))] (.tup [sI ((B3o w g nm a b).1),sB ((B3o w g nm a b).2)]) [(384, .map .i64 (nmE nm))]:=by
 refine A7p hm A4 Tryz.func160 rfl rfl ?_;simp only[go_sem];refine A9 hm (ι:= {i:Nat // i<=2/\(0<i->A93 w a=false)/\(1<i->A93 w b=false)}) (λi=> [(0, .share,A2 1 B9 0 g),(2, .share, .mp 384),(6, .share, .ptr 112 0 0 1),(18, .share, .sl 8 0 2 2),(19, .share,sI 2),(20, .share,sI i.1)])
  (λ_=> [(384, .map .i64 (nmE nm)),(112, .box w.enc),(8, .arr 1 (A8 B9 0 [a,b]))]) (λi=>2-i.1) ⟨0,by omega,by omega,by omega⟩ ?_ ?_
 ·refine D6 [(8,304)] [] ?_;simp only[go_sem];exact⟨rfl,rfl,C0o (λ_ _=>rfl) rfl rfl⟩
 ·rintro⟨i,hi,h0,h1⟩;simp only[go_sem];by_cases hlt:(i:Int)<2
  ·rw[if_pos hlt];refine⟨by omega,?_⟩;refine A0 (B2g w ([a,b].getD i 0) hw) rfl ?_;simp only[go_sem];cases hd:A93 w ([a,b].getD i 0)with
   |true=>
    obtain⟨d0,d1⟩:=B3g hd;rw[if_pos rfl];refine A0 (D3f g (H6 w ([a,b].getD i 0)) hg d0 (by omega)) rfl ?_;simp only[go_sem];have z0:B6f (.int .i64 0)=sI 0:=rfl;simp only[z0,C4m];have e:B3o w g nm a b=(B16 nm (M3 g (H6 w ([a,b].getD i 0))),true):=by
     unfold B3o C48;rcases Nat.lt_or_ge 0 i with h |h
     ·obtain rfl:i=1:=by omega
      rw[h0 h];have hd:A93 w b=true:=hd;rw[hd];rfl
     ·obtain rfl:i=0:=by omega
      have hd:A93 w a=true:=hd;rw[hd];rfl
    refine C6 [.share, .share] [] [] rfl rfl (by simp[go_sem]) (by simp[A6,go_sem]) (by simp[go_sem]) ?_;simp only[go_sem,e]
    try exact rfl
   |false=>
    rw[if_neg (by simp)];refine A7 ⟨i+1,by omega,λ_=> ?_,λ_=> ?_⟩ (by show 2-(i+1)<2-i;omega) (D6 [] [] ?_)
    ·rcases Nat.lt_or_ge 0 i with h |h
     ·exact h0 h
     ·obtain rfl:i=0:=by omega
      exact hd
    ·obtain rfl:i=1:=by omega
     exact hd
    simp only[go_sem];exact⟨(by rw[IntKind.wrap_i64];omega),rfl⟩
  ·rw[if_neg hlt];obtain rfl:i=2:=by omega
   have e:B3o w g nm a b=(0,false):=by unfold B3o C48;rw[h0 (by omega),h1 (by omega)];rfl
   refine C6 [.share, .share] [] [] rfl rfl (by simp[go_sem]) (by simp[A6,go_sem]) (by simp[go_sem]) ?_;simp only[go_sem,e]
   try exact rfl
def U5(p:Nat->Option Nat)(q:Nat):Nat->List Int
 |0=> []
 |k+1=>if p k=some q then U5 p q k++ [(k:Int)]else U5 p q k
theorem B2r(p:Nat->Option Nat)(q:Nat): ∀k,(U5 p q k).length<=k
 |0=>Nat.le_refl _
 |k+1=>by have:=B2r p q k;unfold U5;split <;> simp <;> omega
theorem E1e {p:Nat->Option Nat}{q:Nat}: ∀ {k},(∀j,j<k->p j≠some q)->U5 p q k= []
 |0,_=>rfl
 |k+1,h=>by unfold U5;rw[if_neg (h k (by omega)),E1e λj hj=>h j (by omega)]
theorem D1s {p:Nat->Option Nat}{q k:Nat}(h:p k≠some q):U5 p q k=U5 p q (k+1):=by rw[U5.eq_2,if_neg h]
theorem E3e {p:Nat->Option Nat}{q k:Nat}(h:p k=some q):U5 p q (k+1)=U5 p q k++ [(k:Int)]:=by rw[U5.eq_2,if_pos h]
def A91(m:Nat)(B C J:Nat->List Int):Sq:=⟨m,λq=> [.own 1 (B q).length (L7 B9 0 (B q)), .own 1 (C q).length (L7 B9 0 (C q)), .own 1 (J q).length (L7 B9 0 (J q))]⟩
theorem F29(m:Nat)(B C J:Nat->List Int):(A91 m B C J).n=m:=rfl
theorem A7f(m:Nat)(B C J:Nat->List Int)(q:Nat):(A91 m B C J).g q= [.own 1 (B q).length (L7 B9 0 (B q)), .own 1 (C q).length (L7 B9 0 (C q)), .own 1 (J q).length (L7 B9 0 (J q))]:=rfl
attribute [go_sem] F29 A7f
theorem F5t(m:Nat)(B C J:Nat->List Int)(t:Sq):((A91 m B C J).app t).g m=t.g 0:=by simp[Sq.app,A91]
theorem Sq.app_n(s t:Sq):(s.app t).n=s.n+t.n:=rfl
def isR(w:Api.World)(g:List Int)(j:Nat):Bool:=kd w j&&(g.getD j 0==(j:Int))
def nb(w:Api.World)(g:List Int):Nat->Nat
 |0=>0
 |i+1=>if isR w g i=true then nb w g i+1 else nb w g i
def nmB(w:Api.World)(g:List Int):Nat->List (Int×Int)
 |0=> []
 |i+1=>if isR w g i=true then C8h (nmB w g i) (i:Int) (nb w g i:Int)else nmB w g i
def pB(w:Api.World)(g:List Int)(j:Nat):Option Nat:=if kd w j=true then some (nb w g (M3 g (j:Int)).toNat)else none
def pC(w:Api.World)(g:List Int)(k:Nat):Option Nat:=(C48 w g (w.Contacts.getD k default).Key.BodyA (w.Contacts.getD k default).Key.BodyB).map λr=>nb w g r.toNat
def pJ(w:Api.World)(g:List Int)(k:Nat):Option Nat:=(C48 w g (w.Joints.getD k default).BodyA (w.Joints.getD k default).BodyB).map λr=>nb w g r.toNat
theorem E8v(w:Api.World)(g:List Int){i:Nat}: ∀ {j:Nat},i<=j->nb w g i<=nb w g j
 |0,h=>by obtain rfl:i=0:=by omega
          exact Nat.le_refl _
 |j+1,h=>by
  rcases Nat.lt_or_ge i (j+1)with h1 |h1
  ·have:=E8v w g (show i<=j by omega)
   show _<=if isR w g j=true then nb w g j+1 else nb w g j;split <;> omega
  ·obtain rfl:i=j+1:=by omega
   exact Nat.le_refl _
theorem E22(w:Api.World)(g:List Int): ∀j:Nat,nb w g j<=j
 |0=>Nat.le_refl _
 |j+1=>by have:=E22 w g j;show(if isR w g j=true then nb w g j+1 else nb w g j)<=_;split <;> omega
theorem E8m {w:Api.World}{g:List Int}{i:Nat}(h:isR w g i=true):nb w g (i+1)=nb w g i+1:=by show(if isR w g i=true then nb w g i+1 else nb w g i)=_;rw[if_pos h]
theorem E25 {w:Api.World}{g:List Int}{i j:Nat}(h:isR w g i=true)(hj:i<j):nb w g i<nb w g j:=by have:=E8v w g (show i+1<=j by omega);rw[E8m h]at this;omega
theorem C34 {w:Api.World}{g:List Int}{r:Nat}(hr:isR w g r=true): ∀ {i:Nat},r<i->B16 (nmB w g i) (r:Int)=nb w g r
 |i+1,h=>by
  show B16 (if isR w g i=true then C8h (nmB w g i) (i:Int) (nb w g i:Int)else nmB w g i) (r:Int)=_;rcases Nat.lt_or_ge r i with h1 |h1
  ·split
   ·rw[B77,if_neg (by omega),C34 hr h1]
   ·exact C34 hr h1
  ·obtain rfl:r=i:=by omega
   rw[if_pos hr,B77,if_pos rfl]
theorem C5h {w:Api.World}{g:List Int}(hg:UF g)(hd:DG w g){i:Int}(h0:0<=i)(h1:i<(g.length:Int))(hk:kd w i.toNat=true):isR w g (M3 g i).toNat=true:=by obtain⟨a,b,c⟩:=A83 hg h0 h1;unfold isR;rw[C50 hg hd _ _ (Nat.le_refl _) h0 h1 hk,c];simp;omega
theorem E83 {w:Api.World}{g:List Int}{i:Nat}(h:isR w g i=false):nb w g (i+1)=nb w g i:=by show(if isR w g i=true then nb w g i+1 else nb w g i)=_;rw[if_neg (by rw[h];simp)]
theorem B1u {ρ:Nat->Nat}{s:Sq}{m:Nat}{B C J:Nat->List Int}(hn:s.n=m)(h: ∀q,q<m->C23 (s.g q) ((A91 m B C J).g q)):A3h ρ (.arrP 3 s) (.arrP 3 (A91 m B C J)):=⟨rfl,hn,λi hi=>h i (by omega)⟩
theorem A8i {n:Nat}{g:Nat->List AV}:B8b (.own 1 n g) (.own 1 n g):=⟨rfl,rfl,λ_ _=>L3 _⟩
theorem B1f {B B' C C' J J':List Int}(b:B=B')(c:C=C')(j:J=J'):C23 [.own 1 B.length (L7 B9 0 B), .own 1 C.length (L7 B9 0 C), .own 1 J.length (L7 B9 0 J)] [.own 1 B'.length (L7 B9 0 B'), .own 1 C'.length (L7 B9 0 C'), .own 1 J'.length (L7 B9 0 J')]:=by subst b c j;exact⟨A8i,A8i,A8i,trivial⟩
theorem D9k(a:Int){l:List Int}:B8b (.own 1 ((A8 B9 0 l).app ⟨1,λi=>List.take 1 (List.drop (i*1) [AV.sc (.int .i64 a)])⟩).n ((A8 B9 0 l).app ⟨1,λi=>List.take 1 (List.drop (i*1) [AV.sc (.int .i64 a)])⟩).g) (.own 1 (l++ [a]).length (L7 B9 0 (l++ [a]))):=by have h:A3h id (.arr 1 ((A8 B9 0 l).app ⟨1,λi=>List.take 1 (List.drop (i*1) [AV.sc (.int .i64 a)])⟩)) (.arr 1 (A8 B9 0 (l++ [a]))):=A1y a rfl rfl;obtain⟨_,h1,h2⟩:=h;exact⟨rfl,h1,h2⟩
theorem Sq.set_same {s:Sq}{k:Nat}{c:List AV}:(s.set k c).g k=c:=by simp[Sq.set]
theorem Sq.set_ne {s:Sq}{k q:Nat}{c:List AV}(h:q≠k):(s.set k c).g q=s.g q:=by simp[Sq.set,h]
theorem E69 {m q:Nat}{B C J:Nat->List Int}{t:Sq}(h:q<m):((A91 m B C J).app t).g q=(A91 m B C J).g q:=by simp[Sq.app,A91,h]
theorem F31 {w:Api.World}{g:List Int}(hg:UF g)(hgl:g.length=w.Bodies.length)(hd:DG w g){a b r:Int}(h:C48 w g a b=some r): ∃k:Nat,r=(k:Int)/\k<g.length/\isR w g k=true:=by
 have key: ∀x,A93 w x=true-> ∃k:Nat,M3 g (H6 w x)=(k:Int)/\k<g.length/\isR w g k=true:=λx hx=>by obtain⟨d0,d1⟩:=B3g hx;obtain⟨ra,rb,rc⟩:=A83 hg d0 (by omega);have hR:=C5h hg hd d0 (by omega) (D9j hx);exact⟨(M3 g (H6 w x)).toNat,(Int.toNat_of_nonneg ra).symm,by omega,hR⟩
 unfold C48 at h;split at h
 ·rename_i hx;injection h with h;subst h;exact key a hx
 ·split at h
  ·rename_i hx;injection h with h;subst h;exact key b hx
  ·cases h
def G2d(w:Api.World)(i:Nat):Sq:=A91 (nb w (F2 w) i) (λq=>U5 (pB w (F2 w)) q i) (λ_=> []) (λ_=> [])
attribute [go_sem] G2d
def G1c(w:Api.World)(i:Nat):List (Nat×A5):= [(32, .box w.enc),(384, .map .i64 (nmE (nmB w (F2 w) i))),(1, .arrP 3 (G2d w i))]
attribute [go_sem] G1c
def G1f(w:Api.World)(k:Nat):List (Nat×A5):= [(32, .box w.enc),(384, .map .i64 (nmE (nmB w (F2 w) w.Bodies.length))),(1, .arrP 3 (A91 (nb w (F2 w) w.Bodies.length) (λq=>U5 (pB w (F2 w)) q w.Bodies.length) (λq=>U5 (pC w (F2 w)) q k) (λ_=> [])))]
attribute [go_sem] G1f
def G09(w:Api.World)(k:Nat):List (Nat×A5):= [(32, .box w.enc),(384, .map .i64 (nmE (nmB w (F2 w) w.Bodies.length))),(1, .arrP 3 (A91 (nb w (F2 w) w.Bodies.length) (λq=>U5 (pB w (F2 w)) q w.Bodies.length) (λq=>U5 (pC w (F2 w)) q w.Contacts.length) (λq=>U5 (pJ w (F2 w)) q k)))]
attribute [go_sem] G09
theorem E16(w:Api.World)(hw:Wsm w)(hv:F1 w=0):A1 Tryz.prog C28 [.agg w.enc] [] (.sl 1 0 (nb w (F2 w) w.Bodies.length) (nb w (F2 w) w.Bodies.length))
  [(1, .arrP 3 (A91 (nb w (F2 w) w.Bodies.length) (λq=>U5 (pB w (F2 w)) q w.Bodies.length) (λq=>U5 (pC w (F2 w)) q w.Contacts.length) (λq=>U5 (pJ w (F2 w)) q w.Joints.length)))]:=by
 have hw':=hw;obtain⟨w1,w2,w3,w4,w5,w6⟩:=hw;obtain⟨hg,hgl⟩:=E9f w;have hgd:=F8d w;refine H8 hm A4 Tryz.func98 rfl rfl ?_;simp only[go_sem,C0,D2,B3,D8];refine A0 (R8 w hw') rfl ?_;simp only[go_sem,C0,D2,B3,D8,hv];rw[if_neg (by simp)];refine A0 (F3x w hw') rfl ?_;simp only[go_sem,C0,D2,B3,D8];refine A9 hm (ι:= {i:Nat // i<=w.Bodies.length}) (λi=> [(1, .share, .ptr 32 0 0 1),(3, .share,A2 1 B9 0 (F2 w)),(4, .share, .mp 384),(5,if i.1=0 then .adopt else .share, .sl 1 0 (nb w (F2 w) i.1) (nb w (F2 w) i.1)),(25, .share,A2 20 Body.enc default w.Bodies),(26, .share, .sc (.int .i64 w.Bodies.length)),(27, .share, .sc (.int .i64 i.1))])
  (λi=>G1c w i.1) (λi=>w.Bodies.length-i.1) ⟨0,by omega⟩ ?_ ?_
 ·refine D6 [] [1] ?_;have n0:nb w (F2 w) 0=0:=rfl;simp only[go_sem,C0,D2,B3,D8,n0]
  first |rfl |exact⟨by simp,rfl⟩
 ·rintro⟨i,hi⟩;have hnb:=E22 w (F2 w) i;simp only[go_sem,C0,D2,B3,D8];by_cases hlt:(i:Int)<w.Bodies.length
  ·rw[if_pos hlt];have hlt:i<w.Bodies.length:=by omega
   refine⟨ok_,?_⟩;by_cases hk:(w.Bodies.getD i default).Kind=3
   ·rw[if_neg (by rw[hk];simp)];refine A0 (D3f (F2 w) i hg (by omega) (by omega)) rfl ?_;simp only[go_sem,C0,D2,B3,D8];have z0:B6f (.int .i64 0)= .sc (.int .i64 0):=rfl;by_cases hr:M3 (F2 w) i=i
    ·rw[if_pos (by simpa using hr)];refine⟨ok_,?_⟩;simp only[E3k,C4m,z0,hr,B77];simp only[go_sem,C0,D2,B3,D8,F5t,Sq.app_n];have hR:isR w (F2 w) i=true:=by
      have:=C5h hg hgd (i:=(i:Int)) (by omega) (by omega) (by unfold kd;rw[Int.toNat_natCast,hk];rfl);rw[hr]at this;simpa using this
     have hn1:=E8m hR;refine⟨⟨by omega,by omega⟩,by omega,by decide,⟨by omega,by omega⟩,by omega,?_⟩;refine A7 ⟨i+1,by omega⟩ (by show w.Bodies.length-(i+1)<w.Bodies.length-i;omega) (D6 [] [] ?_);simp only[go_sem,C0,D2,B3,D8];have hp:pB w (F2 w) i=some (nb w (F2 w) i):=by unfold pB kd;rw[hk,hr];rfl
     have hz:U5 (pB w (F2 w)) (nb w (F2 w) i) i= []:=E1e λj hj hh=>by
      unfold pB at hh;split at hh
      ·rename_i hkj;obtain⟨ra,rb,rc⟩:=A83 hg (i:=(j:Int)) (by omega) (by omega);have hR2:isR w (F2 w) (M3 (F2 w) j).toNat=true:=C5h hg hgd (i:=(j:Int)) (by omega) (by omega) (by rw[Int.toNat_natCast];exact hkj)
       have:=E25 hR2 (j:=i) (by omega);injection hh with hh;omega
      ·cases hh
     refine⟨hn1.symm,(by rw[IntKind.wrap_i64];omega),?_,B1u hn1.symm λq hq=> ?_⟩
     ·show A5.map _ _=A5.map _ _;show _=A5.map _ (nmE (if isR w (F2 w) i=true then _ else _));rw[if_pos hR]
     ·by_cases hqm:q=nb w (F2 w) i
      ·subst hqm;simp only[Sq.set_same,A7f];have:U5 (pB w (F2 w)) (nb w (F2 w) i) (i+1)= [(i:Int)]:=by unfold U5;rw[if_pos hp,hz];rfl
       rw[this];exact⟨⟨rfl,rfl,λk hk=>by obtain rfl:k=0:=by omega
                                         exact L3 _⟩,⟨rfl,rfl⟩,⟨rfl,rfl⟩,trivial⟩
      ·simp only[Sq.set_ne hqm,A7f];rw[E69 (by omega),A7f];have:U5 (pB w (F2 w)) q (i+1)=U5 (pB w (F2 w)) q i:=by rw[U5,if_neg];rw[hp];intro e;injection e with e;exact hqm e.symm
       rw[this];exact B1f rfl rfl rfl
    ·rw[if_neg (by simpa using hr)];obtain⟨ra,rb,rc⟩:=A83 hg (i:=(i:Int)) (by omega) (by omega);have hR:isR w (F2 w) (M3 (F2 w) i).toNat=true:=C5h hg hgd (i:=(i:Int)) (by omega) (by omega) (by unfold kd;rw[Int.toNat_natCast,hk];rfl);obtain⟨r,hrr⟩: ∃r:Nat,M3 (F2 w) i=r:=⟨_,(Int.toNat_of_nonneg ra).symm⟩;rw[hrr]at hr rb hR;rw[Int.toNat_natCast]at hR;have hlook:=C34 hR (i:=i) (by omega)
     have hlt2:=E25 hR (j:=i) (by omega)
     have hml:=B2r (pB w (F2 w)) (nb w (F2 w) r) i;simp only[C4m,z0,hrr,hlook];simp only[go_sem,C0,D2,B3,D8];refine⟨⟨by omega,by omega⟩,by omega,ok_,(by omega),(by first |exact⟨by omega,rfl⟩ |omega),?_⟩;refine A7 ⟨i+1,by omega⟩ (by show w.Bodies.length-(i+1)<w.Bodies.length-i;omega) (D6 [] [] ?_);simp only[go_sem,C0,D2,B3,D8];have hp:pB w (F2 w) i=some (nb w (F2 w) r):=by unfold pB kd;rw[hk,hrr];rfl
     have hR0:isR w (F2 w) i=false:=by
      cases h:isR w (F2 w) i with
      |false=>rfl
      |true=>unfold isR at h;rw[Bool.and_eq_true,beq_iff_eq]at h;have:=B83 (g:=F2 w) (i:=(i:Int)) (by rw[Int.toNat_natCast];exact h.2);rw[hrr]at this;exact absurd this hr
     have hn0:=E83 hR0;refine⟨hn0.symm,(by rw[IntKind.wrap_i64];omega),?_,B1u hn0.symm λq hq=> ?_⟩
     ·show A5.map _ _=A5.map _ _;show _=A5.map _ (nmE (if isR w (F2 w) i=true then _ else _));rw[if_neg (by rw[hR0];simp)]
     ·by_cases hqm:q=nb w (F2 w) r
      ·subst hqm;simp only[Sq.set_same,A7f,List.tail_cons];have:U5 (pB w (F2 w)) (nb w (F2 w) r) (i+1)=U5 (pB w (F2 w)) (nb w (F2 w) r) i++ [(i:Int)]:=by rw[U5,if_pos hp]
       rw[this];exact⟨D9k i,A8i,A8i,trivial⟩
      ·simp only[Sq.set_ne hqm,A7f];have:U5 (pB w (F2 w)) q (i+1)=U5 (pB w (F2 w)) q i:=by rw[U5,if_neg];rw[hp];intro e;injection e with e;exact hqm e.symm
       rw[this];exact B1f rfl rfl rfl
   ·rw[if_pos (by simpa using hk)];refine A7 ⟨i+1,by omega⟩ (by show w.Bodies.length-(i+1)<w.Bodies.length-i;omega) (D6 [] [] ?_);simp only[go_sem,C0,D2,B3,D8];have hk':kd w i=false:=by unfold kd;simpa using hk
    have hp:pB w (F2 w) i=none:=by unfold pB;rw[hk'];rfl
    have hR0:isR w (F2 w) i=false:=by unfold isR;rw[hk'];rfl
    have hn0:=E83 hR0;refine⟨hn0.symm,(by rw[IntKind.wrap_i64];omega),?_,B1u hn0.symm λq hq=> ?_⟩
    ·show A5.map _ _=A5.map _ _;show _=A5.map _ (nmE (if isR w (F2 w) i=true then _ else _));rw[if_neg (by rw[hR0];simp)]
    ·simp only[A7f];have:U5 (pB w (F2 w)) q (i+1)=U5 (pB w (F2 w)) q i:=by rw[U5,if_neg];rw[hp];simp
     rw[this];exact B1f rfl rfl rfl
  ·rw[if_neg hlt];obtain rfl:i=w.Bodies.length:=by omega
   have hnb2:=E22 w (F2 w) w.Bodies.length;refine A9 hm (ι:= {k:Nat // k<=w.Contacts.length}) (λk=> [(1, .share, .ptr 32 0 0 1),(3, .share,A2 1 B9 0 (F2 w)),(4, .share, .mp 384),(5, .share, .sl 1 0 (nb w (F2 w) w.Bodies.length) (nb w (F2 w) w.Bodies.length)),(66, .share,A2 7 Contact.enc default w.Contacts),(67, .share, .sc (.int .i64 w.Contacts.length)),(68, .share, .sc (.int .i64 k.1))])
    (λk=>G1f w k.1) (λk=>w.Contacts.length-k.1) ⟨0,by omega⟩ ?_ ?_
   ·refine D6 [] [] ?_;simp only[go_sem,C0,D2,B3,D8];exact⟨rfl,B1u rfl λq hq=>B1f rfl rfl rfl⟩
   ·rintro⟨k,hk⟩;simp only[go_sem,C0,D2,B3,D8];by_cases hlt:(k:Int)<w.Contacts.length
    ·rw[if_pos hlt];have hlt:k<w.Contacts.length:=by omega
     refine⟨ok_,?_⟩;refine Y0 (D6d w (F2 w) (nmB w (F2 w) w.Bodies.length) (w.Contacts.getD k default).Key.BodyA (w.Contacts.getD k default).Key.BodyB hg hgl w1) (by refine⟨by simp,?_⟩;simp) rfl (by simp[go_sem]) (by simp[go_sem,AV.ids]) rfl ?_;simp only[go_sem,C0,D2,B3,D8];cases hi2:C48 w (F2 w) (w.Contacts.getD k default).Key.BodyA (w.Contacts.getD k default).Key.BodyB with
     |none=>
      have e:B3o w (F2 w) (nmB w (F2 w) w.Bodies.length) (w.Contacts.getD k default).Key.BodyA (w.Contacts.getD k default).Key.BodyB=(0,false):=by unfold B3o;rw[hi2]
      have hp:pC w (F2 w) k=none:=by unfold pC;rw[hi2];rfl
      simp only[e];rw[if_neg (by simp)];refine A7 ⟨k+1,by omega⟩ (by show w.Contacts.length-(k+1)<w.Contacts.length-k;omega) (D6 [] [] ?_);simp only[go_sem,C0,D2,B3,D8];refine⟨(by rw[IntKind.wrap_i64];omega),rfl,B1u rfl λq hq=>B1f rfl ?_ rfl⟩;exact D1s (by rw[hp];simp)
     |some r=>
      obtain⟨r,rfl,hrl,hR⟩:=F31 hg hgl hgd hi2;have hlook:=C34 hR (i:=w.Bodies.length) (by omega)
      have hlt2:=E25 hR (j:=w.Bodies.length) (by omega)
      have e:B3o w (F2 w) (nmB w (F2 w) w.Bodies.length) (w.Contacts.getD k default).Key.BodyA (w.Contacts.getD k default).Key.BodyB=((nb w (F2 w) r:Int),true):=by unfold B3o;rw[hi2];simp only[hlook]
      have hp:pC w (F2 w) k=some (nb w (F2 w) r):=by unfold pC;rw[hi2];rfl
      have hml:=B2r (pC w (F2 w)) (nb w (F2 w) r) k;simp only[e];rw[if_pos trivial];simp only[go_sem,C0,D2,B3,D8];refine⟨⟨by omega,by omega⟩,by omega,ok_,(by omega),(by first |exact⟨by omega,rfl⟩ |omega),?_⟩;refine A7 ⟨k+1,by omega⟩ (by show w.Contacts.length-(k+1)<w.Contacts.length-k;omega) (D6 [] [] ?_);simp only[go_sem,C0,D2,B3,D8];refine⟨(by rw[IntKind.wrap_i64];omega),rfl,B1u rfl λq hq=> ?_⟩;by_cases hqm:q=nb w (F2 w) r
      ·subst hqm;simp only[Sq.set_same,A7f,List.tail_cons];rw[E3e hp];exact⟨A8i,D9k k,A8i,trivial⟩
      ·simp only[Sq.set_ne hqm,A7f];refine B1f rfl ?_ rfl;exact D1s (by rw[hp];intro e;injection e with e;exact hqm e.symm)
    ·rw[if_neg hlt];obtain rfl:k=w.Contacts.length:=by omega
     refine A9 hm (ι:= {k:Nat // k<=w.Joints.length}) (λk=> [(1, .share, .ptr 32 0 0 1),(3, .share,A2 1 B9 0 (F2 w)),(4, .share, .mp 384),(5, .share, .sl 1 0 (nb w (F2 w) w.Bodies.length) (nb w (F2 w) w.Bodies.length)),(101, .share,A2 24 Joint.enc default w.Joints),(102, .share, .sc (.int .i64 w.Joints.length)),(103, .share, .sc (.int .i64 k.1))])
      (λk=>G09 w k.1) (λk=>w.Joints.length-k.1) ⟨0,by omega⟩ ?_ ?_
     ·refine D6 [] [] ?_;simp only[go_sem,C0,D2,B3,D8];exact⟨rfl,B1u rfl λq hq=>B1f rfl rfl rfl⟩
     ·rintro⟨k,hk⟩;simp only[go_sem,C0,D2,B3,D8];by_cases hlt:(k:Int)<w.Joints.length
      ·rw[if_pos hlt];have hlt:k<w.Joints.length:=by omega
       refine⟨ok_,?_⟩;refine Y0 (D6d w (F2 w) (nmB w (F2 w) w.Bodies.length) (w.Joints.getD k default).BodyA (w.Joints.getD k default).BodyB hg hgl w1) (by refine⟨by simp,?_⟩;simp) rfl (by simp[go_sem]) (by simp[go_sem,AV.ids]) rfl ?_;simp only[go_sem,C0,D2,B3,D8];cases hi2:C48 w (F2 w) (w.Joints.getD k default).BodyA (w.Joints.getD k default).BodyB with
       |none=>
        have e:B3o w (F2 w) (nmB w (F2 w) w.Bodies.length) (w.Joints.getD k default).BodyA (w.Joints.getD k default).BodyB=(0,false):=by unfold B3o;rw[hi2]
        have hp:pJ w (F2 w) k=none:=by unfold pJ;rw[hi2];rfl
        simp only[e];rw[if_neg (by simp)];refine A7 ⟨k+1,by omega⟩ (by show w.Joints.length-(k+1)<w.Joints.length-k;omega) (D6 [] [] ?_);simp only[go_sem,C0,D2,B3,D8];refine⟨(by rw[IntKind.wrap_i64];omega),rfl,B1u rfl λq hq=>B1f rfl rfl ?_⟩;exact D1s (by rw[hp];simp)
       |some r=>
        obtain⟨r,rfl,hrl,hR⟩:=F31 hg hgl hgd hi2;have hlook:=C34 hR (i:=w.Bodies.length) (by omega)
        have hlt2:=E25 hR (j:=w.Bodies.length) (by omega)
        have e:B3o w (F2 w) (nmB w (F2 w) w.Bodies.length) (w.Joints.getD k default).BodyA (w.Joints.getD k default).BodyB=((nb w (F2 w) r:Int),true):=by unfold B3o;rw[hi2];simp only[hlook]
        have hp:pJ w (F2 w) k=some (nb w (F2 w) r):=by unfold pJ;rw[hi2];rfl
        have hml:=B2r (pJ w (F2 w)) (nb w (F2 w) r) k;simp only[e];rw[if_pos trivial];simp only[go_sem,C0,D2,B3,D8];refine⟨⟨by omega,by omega⟩,by omega,ok_,(by omega),(by first |exact⟨by omega,rfl⟩ |omega),?_⟩;refine A7 ⟨k+1,by omega⟩ (by show w.Joints.length-(k+1)<w.Joints.length-k;omega) (D6 [] [] ?_);simp only[go_sem,C0,D2,B3,D8];refine⟨(by rw[IntKind.wrap_i64];omega),rfl,B1u rfl λq hq=> ?_⟩;by_cases hqm:q=nb w (F2 w) r
        ·subst hqm;simp only[Sq.set_same,A7f,List.tail_cons];rw[E3e hp];exact⟨A8i,A8i,D9k k,trivial⟩
        ·simp only[Sq.set_ne hqm,A7f];refine B1f rfl rfl ?_;exact D1s (by rw[hp];intro e;injection e with e;exact hqm e.symm)
      ·rw[if_neg hlt];obtain rfl:k=w.Joints.length:=by omega
       refine C6 [.share] [] [] rfl rfl (by simp[go_sem]) (by simp[A6,go_sem]) (by simp[go_sem]) ?_;simp only[go_sem,C0,D2,B3,D8];exact B1u rfl λq hq=>B1f rfl rfl rfl
def C8(w:Api.World):List B0:=if F1 w=0 then(List.range (nb w (F2 w) w.Bodies.length)).map λq=>⟨U5 (pB w (F2 w)) q w.Bodies.length,U5 (pC w (F2 w)) q w.Contacts.length,U5 (pJ w (F2 w)) q w.Joints.length⟩else []
theorem E8j(w:Api.World)(hw:Wsm w):A1 Tryz.prog C28 [.agg w.enc] [] (A2 3 B0.enc default (C8 w)) []:=by
 by_cases hv:F1 w=0
 ·have h:=E16 w hw hv
  generalize hB:(λq=>U5 (pB w (F2 w)) q w.Bodies.length)=B at h;generalize hC:(λq=>U5 (pC w (F2 w)) q w.Contacts.length)=C at h;generalize hJ:(λq=>U5 (pJ w (F2 w)) q w.Joints.length)=J at h;generalize hm:nb w (F2 w) w.Bodies.length=m at h;have hl:C8 w=(List.range m).map λq=>⟨B q,C q,J q⟩:=by unfold C8;rw[if_pos hv,hm,<-hB,<-hC,<-hJ]
  have h2:=A1.settle (O2:= [(1, .arr 3 ⟨m,λk=>((A91 m B C J).g k).map B8k⟩)]) h (id:=1) (z:=3) (s:=A91 m B C J) (by rw[D01];simp) (λk j _=>by
   rw[A7f]
   match j with
   |0=>simp
   |1=>simp
   |2=>simp
   |j+3=>simp) (by
   rw[D01,D01];funext x;by_cases hx:x=1
   ·subst hx;simp[F29]
   ·rw[G9 hx,G9 hx,G9 hx])
  have h3:=A1.dataRes (s:=⟨m,λk=>((A91 m B C J).g k).map B8k⟩) h2;refine h3.res_le (A7x _ _ ?_);rw[hl];refine⟨rfl,by simp,λi hi=> ?_⟩;have hi:i<m:=hi
  have:L7 B0.enc default ((List.range m).map λq=>(⟨B q,C q,J q⟩:B0)) i=((A91 m B C J).g i).map B8k:=by rw[C8q];simp[List.getD,hi,B0.enc,A7f,B8k,A2]
  rw[this];exact L3 _
 ·have hl:C8 w= []:=by unfold C8;rw[if_neg hv]
  rw[hl];refine en1 hm A4 Tryz.func98 rfl rfl ?_;simp only[go_sem,C0,D2,B3,D8];refine A0 (R8 w hw) rfl ?_;simp only[go_sem,C0,D2,B3,D8];rw[if_pos (by simpa using hv)]
  first |exact⟨rfl,rfl⟩ |simp[M4]
def A15(a b:List Body):Prop:=a.length=b.length/\ ∀k:Nat,(a.getD k default).Fixtures=(b.getD k default).Fixtures
theorem A15.refl(a:List Body):A15 a a:=⟨rfl,λ_=>rfl⟩
theorem A15.trans {a b c:List Body}(h:A15 a b)(h2:A15 b c):A15 a c:=⟨h.1.trans h2.1,λk=>(h.2 k).trans (h2.2 k)⟩
theorem C57 {g:Body->Body}(hg: ∀b,(g b).Fixtures=b.Fixtures)(l:List Body):A15 (l.map g) l:=by
 refine⟨List.length_map ..,λk=> ?_⟩;by_cases h:k<l.length
 ·have e:(l.map g).getD k default=g (l.getD k default):=by
   simp only[List.getD,List.getElem?_map,List.getElem?_eq_getElem h,Option.map_some,Option.getD_some]
  rw[e,hg]
 ·simp only[List.getD];rw[List.getElem?_eq_none (by rw[List.length_map];omega),List.getElem?_eq_none (by omega)]
theorem C4h {l:List Body}{k:Nat}{v:Body}(h:v.Fixtures=(l.getD k default).Fixtures):A15 (l.set k v) l:=by
 refine⟨List.length_set ..,λi=> ?_⟩;by_cases hk:k=i
 ·subst hk;by_cases hl:k<l.length
  ·rw[gsS hl];exact h
  ·rw[List.set_eq_of_length_le (by omega)]
 ·rw[show(l.set k v).getD i default=l.getD i default by simp only[List.getD,List.getElem?_set_ne hk]]
theorem F53(bs as_:List Body)(js:List Joint):A15 (stB bs as_ js as_.length) as_:=by
 refine⟨D8r ..,λk=> ?_⟩;by_cases h:k<as_.length
 ·have e:(stB bs as_ js as_.length).getD k default=(stR bs as_ js k).1:=by
   unfold stB;simp only[List.getD,List.getElem?_map,List.getElem?_range h,Option.map_some,Option.getD_some]
  rw[e];unfold stR;split <;> rfl
 ·simp only[List.getD];rw[List.getElem?_eq_none (by rw[D8r];omega),List.getElem?_eq_none (by omega)]
theorem C4y {f:List Body×List (Int×Int)->Int->List Body×List (Int×Int)}(hf: ∀s i,A15 (f s i).1 s.1): ∀(l:List Int) (s),A15 (l.foldl f s).1 s.1
 | [],s=>A15.refl _
 |i::l,s=>(C4y hf l (f s i)).trans (hf s i)
theorem F2b(w:Api.World)(x:B0):A15 (B4e w x).1 w.Bodies:=by
 have hu: ∀l:List Int,A15 (upF w l) w.Bodies:=λl=>by
  unfold upF;generalize hB:w.Bodies=B;clear hB;induction l generalizing B with
  |nil=>exact A15.refl _
  |cons i l ih=>exact(ih _).trans (C4h rfl)
 unfold B4e;split
 ·split
  ·exact(C4y (λs i=>by unfold B4l;exact C4h rfl) _ _).trans (hu _)
  ·exact hu _
 ·exact A15.refl _
theorem F5d(w:Api.World)(x:B0):A15 (wkR w x).1 w.Bodies:=by
 unfold wkR;split
 ·unfold wkF;refine C4y (λs i=> ?_) _ _;unfold B0h;split
  ·exact C4h rfl
  ·exact A15.refl _
 ·exact A15.refl _
theorem A15.mem {a b:List Body}(h:A15 a b){x:Body}(hx:x∈a): ∃y∈b,x.Fixtures=y.Fixtures:=by obtain⟨k,hk,rfl⟩:=List.getElem_of_mem hx;have h2:=h.2 k;refine⟨b.getD k default,B6 default (by rw[<-h.1];exact hk),?_⟩;rw[<-h2];simp[List.getD,hk]
theorem B75 {w:Api.World}{bs:List Body}(hw:Wsm w)(h:A15 bs w.Bodies):Wsm (U1 w bs):=by obtain⟨h1,h2,h3,h4,h5,h6⟩:=hw;refine⟨by show bs.length<=_;rw[h.1];exact h1,h2,h3,h4,λb hb=> ?_,h6⟩;obtain⟨y,hy,e⟩:=h.mem hb;have:=h5 y hy;unfold Body.sm at this⊢;rwa[e]
theorem C03 {w:Api.World}{bs:List Body}(hw:Wfw w)(h:A15 bs w.Bodies):Wfw (U1 w bs):=by refine⟨by show bs.length<=_;rw[h.1];exact hw.1,λb hb=> ?_⟩;obtain⟨y,hy,e⟩:=h.mem hb;rw[e];exact hw.2 y hy
theorem F8o(b:Body)(dt:Int):(Z8 b dt).Fixtures=b.Fixtures:=by unfold Z8;split <;> rfl
def eW1(x:B0)(s:Api.World×List Api.Event):Api.World×List Api.Event:=(U1 s.1 (B4e s.1 x).1,s.2++(B4e s.1 x).2.map evP)
def B4t(w:Api.World):List Body:=w.Bodies.map λb=>Z8 b w.Settings.TimeStep
def eW0(w:Api.World):Api.World×List Api.Event:=(U1 w (stB w.Bodies (B4t w) w.Joints (B4t w).length),B07 w.Bodies (B4t w) w.Joints (B4t w).length)
def eWn(w:Api.World)(n:Nat):Api.World×List Api.Event:=itr (λk s=>eW1 ((C8 w).getD k default) s) n (eW0 w)
def eW2(w:Api.World):Api.World:=(λa:Api.World=>U1 a (a.Bodies.map H2)) (bkW (eWn w (C8 w).length).1)
def E4b(w:Api.World):Api.World:= {eW2 w with Overlaps:=ovL (eW2 w),Frame:=min (IntKind.i64.wrap ((eW2 w).Frame+1)) 1099511627776}
def E3z(w:Api.World):List Api.Event:= [(eWn w (C8 w).length).2,bkL (eWn w (C8 w).length).1 (eWn w (C8 w).length).1.Joints,C5n w.Overlaps (ovL (eW2 w))].flatten
theorem C7y(w:Api.World)(x:B0):(B4e w x).2.length<=x.Bodies.length:=by
 have h:=C4c x.Bodies w.Bodies.length;unfold B4e;split
 ·split
  ·have:=(E79 (upF w (A0v w x)) (A0v w x)).2
   unfold A0v at this⊢;omega
  ·exact Nat.zero_le _
 ·exact Nat.zero_le _
theorem B0k(w:Api.World):(C8 w).length<=w.Bodies.length:=by
 unfold C8;split
 ·rw[List.length_map,List.length_range];exact E22 ..
 ·exact Nat.zero_le _
theorem B21 {w:Api.World}(hw:Wsm w): ∀x∈C8 w,Ism x/\x.Bodies.length<=w.Bodies.length:=by
 intro x hx;unfold C8 at hx;split at hx
 ·obtain⟨q,_,rfl⟩:=List.mem_map.1 hx;have h1:=B2r (pB w (F2 w)) q w.Bodies.length
  have h2:=B2r (pC w (F2 w)) q w.Contacts.length
  have h3:=B2r (pJ w (F2 w)) q w.Joints.length;obtain⟨g1,g2,g3,_⟩:=hw;exact⟨⟨by show(U5 _ _ _).length<=_;omega,by show(U5 _ _ _).length<=_;omega,by show(U5 _ _ _).length<=_;omega⟩,h1⟩
 ·cases hx
theorem D35(w:Api.World)(n:Nat):eWn w (n+1)=eW1 ((C8 w).getD n default) (eWn w n):=E4 ..
theorem C95(w:Api.World):A15 (B4t w) w.Bodies:=C57 (λb=>F8o b _) _
theorem B8j(w:Api.World): ∀n,A15 (eWn w n).1.Bodies w.Bodies/\(eWn w n).1=U1 w (eWn w n).1.Bodies
 |0=>⟨(F53 _ _ _).trans (C95 w),rfl⟩
 |n+1=>by
  obtain⟨h1,h2⟩:=B8j w n;rw[D35];generalize eWn w n=s at h1 h2⊢;refine⟨(F2b _ _).trans h1,?_⟩;have key: ∀B,U1 s.1 B=U1 w B:=λB=>by rw[h2];rfl
  exact key _
theorem D1c {w:Api.World}(hw:Wsm w)(hf:Wfw w): ∀n,n<=(C8 w).length->(eWn w n).2.length<=60+60*n
 |0,_=>by
  have h:=E55 w.Bodies (B4t w) w.Joints (B4t w).length
  have h2:=(C95 w).1
  have h3:=hf.1;show(B07 _ _ _ _).length<=_;omega
 |n+1,hn=>by
  have ih:=D1c hw hf n (by omega);rw[D35];have hx:=B21 hw _ (B6 (l:=C8 w) (i:=n) default (by omega))
  have h3:=hf.1
  have h4:=C7y (eWn w n).1 ((C8 w).getD n default);show((eWn w n).2++List.map evP _).length<=_;rw[List.length_append,List.length_map];omega
theorem E2f(w:Api.World)(b:Body)(hb:Body.sm b):A1 Tryz.prog C6l [.agg b.enc, .fptr w.enc] [] (.agg (Z8 b w.Settings.TimeStep).enc) []:=by refine L5 9 [(3,some (some 20))] hm A4 Tryz.func115 rfl ?_;simp only[go_sem,go_sem_proc];refine A0 (C5t b w.Settings.TimeStep hb.2) rfl ?_;simp only[go_sem,go_sem_proc]
theorem G23(b:Body):A1 Tryz.prog A5w [.agg b.enc] [] (.agg (H2 b).enc) []:=B9w b
theorem E6j(w:Api.World)(hw:Wsm w)(hf:Wfw w)(hv:F1 w=0):A1 Tryz.prog D7o [.agg w.enc] [] (.tup [.agg (E4b w).enc,A2 5 Api.Event.enc default (E3z w)]) []:=by
 have hV:=R8 w hw;rw[hv]at hV;have hbl:=B0k w
 have hbs:= @B21 w hw
 have hp:=C95 w
 have hpw:Wsm (U1 w (B4t w)):=B75 hw hp;obtain⟨hw1,hw2,hw3,hw4,hw5,hw6⟩:=id hw;refine F67 78 [(2,some (some 11)),(3,none)] hm A4 Tryz.func58 rfl ?_;refine C3 [(1, .thaw, .fptr w.enc),(2, .share, .ptr 48 0 0 1)] [(48, .box World.zero)] (E0 hm ?_) ?_
 ·simp only[go_sem,go_sem_proc,World.zero];refine B8 [] [] ?_;simp only[go_sem,go_sem_proc];exact eE_
 refine C3 [(1, .share, .fptr w.enc),(2, .share, .ptr 48 0 0 1)] [(48, .box World.zero)] (E0 hm ?_) ?_
 ·simp only[go_sem,go_sem_proc];refine A0 hV rfl ?_;simp only[go_sem,go_sem_proc,World.zero];refine B8 [] [] ?_;simp only[go_sem,go_sem_proc]
 refine C3 [(1, .share, .fptr w.enc),(2, .share, .ptr 48 0 0 1),(4, .share,A2 3 B0.enc default (C8 w))] [(48, .box World.zero)] (E0 hm ?_) ?_
 ·simp only[go_sem,go_sem_proc];refine A0 (E8j w hw) rfl ?_;simp only[go_sem,go_sem_proc,World.zero];refine B8 [] [] ?_;simp only[go_sem,go_sem_proc]
 refine C3 [(1, .share, .fptr w.enc),(2, .share, .ptr 48 0 0 1),(5, .share, .ptr 96 0 0 1),(4, .share,A2 3 B0.enc default (C8 w))] [(48, .box World.zero),(96, .box (U1 w (B4t w)).enc)] (E0 hm ?_) ?_
 ·simp only[go_sem,go_sem_proc];refine A0 (D3g w hw C6l [.fptr w.enc] (λb=>Z8 b w.Settings.TimeStep) rfl (λ_=>rfl) (λb hb=>E2f w b (hw5 b hb))) rfl ?_;simp only[go_sem,go_sem_proc,World.zero];refine B8 [] [] ?_;simp only[go_sem,go_sem_proc,B4t]
 refine C3 [(1, .share, .fptr w.enc),(2, .share, .ptr 48 0 0 1),(5, .share, .ptr 96 0 0 1),(7, .share, .sl 7 0 (eW0 w).2.length (eW0 w).2.length),(4, .share,A2 3 B0.enc default (C8 w)),(6, .share,A2 20 Body.enc default (stB w.Bodies (B4t w) w.Joints (B4t w).length))] [(48, .box World.zero),(96, .box (U1 w (B4t w)).enc),(7, .arr 5 (A8 Api.Event.enc default (eW0 w).2))] (E0 hm ?_) ?_
 ·simp only[go_sem,go_sem_proc];refine K0 ev_ K8 (E2n w.Bodies (B4t w) w.Joints hp.1.symm (by rw[hp.1];exact hw1) hw5 hpw.2.2.2.2.1 hw2) ?_;simp only[go_sem,go_sem_proc,World.zero,eW0];refine B8 [(7,496)] [] ?_;simp only[go_sem,go_sem_proc]
 refine C3 [(1, .share, .fptr w.enc),(2, .share, .ptr 48 0 0 1),(5, .share, .ptr 96 0 0 1),(7, .share, .sl 7 0 (eW0 w).2.length (eW0 w).2.length),(4, .share,A2 3 B0.enc default (C8 w))] [(48, .box World.zero),(96, .box (eW0 w).1.enc),(7, .arr 5 (A8 Api.Event.enc default (eW0 w).2))] (E0 hm ?_) ?_
 ·simp only[go_sem,go_sem_proc,World.zero,eW0];refine B8 [] [] ?_;simp only[go_sem,go_sem_proc]
 refine C3 [(1, .share, .fptr w.enc),(2, .share, .ptr 48 0 0 1),(5, .share, .ptr 96 0 0 1),(7, .share, .sl 7 0 (eWn w (C8 w).length).2.length (eWn w (C8 w).length).2.length)] [(48, .box World.zero),(96, .box (eWn w (C8 w).length).1.enc),(7, .arr 5 (A8 Api.Event.enc default (eWn w (C8 w).length).2))] (C3 [(1, .share, .fptr w.enc),(2, .share, .ptr 48 0 0 1),(5, .share, .ptr 96 0 0 1),(7, .share, .sl 7 0 (eWn w 0).2.length (eWn w 0).2.length),(35, .share,A2 3 B0.enc default (C8 w)),(36, .share,sI ((C8 w).length)),(37, .share,sI (0:Nat))] [(48, .box World.zero),(96, .box (eWn w 0).1.enc),(7, .arr 5 (A8 Api.Event.enc default (eWn w 0).2))] (E0 hm ?_) (A29 ?_)) ?_
 ·rw[show eWn w 0=eW0 w from rfl];generalize eW0 w=s;simp only[go_sem,go_sem_proc];refine B8 [] [] ?_;simp only[go_sem,go_sem_proc]
 ·refine A9 hm (ι:= {k:Nat // k<=(C8 w).length}) (λk=> [(1, .share, .fptr w.enc),(2, .share, .ptr 48 0 0 1),(5, .share, .ptr 96 0 0 1),(7, .share, .sl 7 0 (eWn w k.1).2.length (eWn w k.1).2.length),(35, .share,A2 3 B0.enc default (C8 w)),(36, .share,sI ((C8 w).length)),(37, .share,sI (k.1:Nat))]) (λk=> [(48, .box World.zero),(96, .box (eWn w k.1).1.enc),(7, .arr 5 (A8 Api.Event.enc default (eWn w k.1).2))]) (λk=>(C8 w).length-k.1) ⟨0,Nat.zero_le _⟩ ?_ ?_
  ·refine B8 [] [] ?_;simp only[go_sem,go_sem_proc]
  ·rintro⟨k,hk⟩;dsimp only;have hn:=D35 w k
   have hl:=D1c hw hf k hk;obtain⟨hi1,hi2⟩:=B8j w k;have hfin:(C8 w).length<=k->eWn w k=eWn w (C8 w).length:=λh=>by rw[show k=(C8 w).length by omega]
   generalize eWn w k=s at hn hl hi1 hi2 hfin⊢;by_cases hlt:k<(C8 w).length;rotate_left
   ·simp only[go_sem,go_sem_proc];rw[if_neg (by omega),<-hfin (by omega)];refine B8 [] [] ?_;simp only[go_sem,go_sem_proc]
   have hx:=hbs _ (B6 (l:=C8 w) (i:=k) default hlt)
   have hsw:Wsm s.1:=by rw[hi2];exact B75 hw hi1
   have hux:=C7y s.1 ((C8 w).getD k default)
   have hf1:=hf.1;simp only[go_sem,go_sem_proc];rw[if_pos (by omega)];generalize(C8 w).getD k default=x at hn hx hux⊢;refine⟨bE_,?_⟩;refine A0 (D7y s.1 x hsw hx.1) rfl ?_;simp only[go_sem,go_sem_proc,eW1]at hn⊢;have he:(List.map evP (B4e s.1 x).2).length<=60:=by rw[List.length_map];omega
   generalize List.map evP (B4e s.1 x).2=E at hn he⊢;refine⟨⟨by omega,by simp only[maxLen];omega⟩,?_⟩;refine A7 ⟨k+1,by omega⟩ (by show(C8 w).length-(k+1)<(C8 w).length-k;omega) ?_;simp only[hn];refine B8 [] [] ?_;simp only[go_sem,go_sem_proc];exact eE_
 have hE:=E3z.eq_1 w
 have hW:=E4b.eq_1 w;unfold eW2 at hE hW;have hl:=D1c hw hf (C8 w).length (Nat.le_refl _);obtain⟨hi1,hi2⟩:=B8j w (C8 w).length;generalize eWn w (C8 w).length=s at hE hW hl hi1 hi2⊢;have hsw:Wsm s.1:=by rw[hi2];exact B75 hw hi1
 have hsf:Wfw s.1:=by rw[hi2];exact C03 hf hi1
 have hjn:s.1.Joints=w.Joints:=by rw[hi2];rfl
 have hbk:Wsm (bkW s.1)/\Wfw (bkW s.1):=by obtain⟨g1,g2,g3,g4,g5,g6⟩:=hsw;exact⟨⟨g1,Nat.le_trans (List.length_filter_le ..) g2,g3,g4,g5,g6⟩,hsf⟩
 have hbe:=D94 (w:=s.1) (l:=s.1.Joints)
 have hj2:s.1.Joints.length<=1048576:=by rw[hjn];exact hw2
 have hB:=D0g s.1 hsw;generalize bkW s.1=V at hE hW hbk hB;generalize bkL s.1 s.1.Joints=E1 at hE hbe hB;dsimp only at hE hW;have hcf:A15 (V.Bodies.map H2) V.Bodies:=C57 (g:=H2) (λ_=>rfl) _
 have hU:Wsm (U1 V (V.Bodies.map H2)):=B75 hbk.1 hcf
 have hUf:Wfw (U1 V (V.Bodies.map H2)):=C03 hbk.2 hcf
 have hC:=D3g V hbk.1 A5w [] H2 rfl (λ_=>rfl) (λb _=>G23 b);generalize U1 V (V.Bodies.map H2)=U at hE hW hU hUf hC;have hO:=D24 U hU hUf
 have hov:=D9p U hUf
 have hS:=D7d w.Overlaps (ovL U) hw4 (by omega)
 have hsl:(C5n w.Overlaps (ovL U)).length<=(ovL U).length+w.Overlaps.length:=by
  have l1:=B8i (ovL U) (λk=>w.Overlaps.contains k) 3
  have l2:=B8i w.Overlaps (λk=>(ovL U).contains k) 4;unfold C5n;rw[List.length_append];omega
 generalize ovL U=L at hE hW hO hov hS hsl;generalize C5n w.Overlaps L=E2 at hE hS hsl;have hf1:=hf.1
 have hK:=C3a [s.2,E1,E2] (by simp;omega) (by simp);rw[<-hE]at hK;refine E0 hm ?_;simp only[go_sem,go_sem_proc];refine A0 hB rfl ?_;simp only[go_sem,go_sem_proc];refine A0 hC rfl ?_;simp only[go_sem,go_sem_proc];refine A0 hO rfl ?_;simp only[go_sem,go_sem_proc];refine A0 hS rfl ?_;simp only[go_sem,go_sem_proc];refine A5c hK ?_;simp only[A02,go_sem,go_sem_proc];rw[hW];refine⟨A2h (λ_ _=>rfl) (by simp[D1r,A2]) rfl rfl,?_⟩;dsimp only
 (repeat' (with_reducible apply And.intro)) <;> first |with_reducible rfl |exact I7 _ |(rw[Int.min_def];split <;> split <;> omega)
def Ob {α:Type}(z:Nat)(enc:α->List AV)(d:α)(l:List α):List (Nat×A5):= [(1, .box [.sl 2 0 l.length l.length]),(2, .arr z (A8 enc d l))]
theorem D50 {α:Type}{z:Nat}{enc:α->List AV}{d:α}{l:List α}:okO (Ob z enc d l):=by
 refine⟨by simp[Ob],λp hp cs e j hj=> ?_⟩;simp only[Ob,List.mem_cons,List.not_mem_nil,or_false]at hp;rcases hp with rfl |rfl
 ·simp only[A5.box.injEq]at e;subst e;simp[F4,AV.ids]at hj;subst hj;rfl
 ·cases e
def feF {α:Type}(mask:Int)(vis:Body->Nat->List α->List α)(b:Body)(i:Nat)(l:List α):List α:=if A57 (b.Fixtures.getD i default) mask=true then vis b i l else l
def feB {α:Type}(w:Api.World)(mask:Int)(vis:Body->Nat->List α->List α)(i:Nat)(l:List α):List α:=itr (feF mask vis (w.Bodies.getD i default)) (w.Bodies.getD i default).Fixtures.length l
def feR {α:Type}(w:Api.World)(mask:Int)(vis:Body->Nat->List α->List α)(l:List α):List α:=if F1 w=0 then itr (feB w mask vis) w.Bodies.length l else l
theorem D90 {α:Type}{mask:Int}{vis:Body->Nat->List α->List α}(hvl: ∀b i l,(vis b i l).length<=l.length+1)(b:Body)(l:List α): ∀n,(itr (feF mask vis b) n l).length<=l.length+n
 |0=>Nat.le_refl _
 |n+1=>by
  have h:=D90 (mask:=mask) hvl b l n;rw[show itr (feF mask vis b) (n+1) l=feF mask vis b n (itr (feF mask vis b) n l)from E4 ..];generalize itr (feF mask vis b) n l=v at h⊢;unfold feF;split
  ·have:=hvl b n v;omega
  ·omega
theorem D8y {α:Type}{w:Api.World}{mask:Int}{vis:Body->Nat->List α->List α}(hvl: ∀b i l,(vis b i l).length<=l.length+1)(hq: ∀b∈w.Bodies,b.Fixtures.length<=1000)(l:List α): ∀n,n<=w.Bodies.length->(itr (feB w mask vis) n l).length<=l.length+1000*n
 |0,_=>Nat.le_refl _
 |n+1,hn=>by
  have h:=D8y (mask:=mask) hvl hq l n (by omega);rw[show itr (feB w mask vis) (n+1) l=feB w mask vis n (itr (feB w mask vis) n l)from E4 ..];generalize itr (feB w mask vis) n l=v at h⊢;unfold feB;have h1:=D90 (mask:=mask) hvl (w.Bodies.getD n default) v (w.Bodies.getD n default).Fixtures.length
  have h2:=hq (w.Bodies.getD n default) (B6 default (by omega));omega
theorem D67 {α:Type}{z:Nat}{enc:α->List AV}{d:α}(w:Api.World)(mask:Int)(f:FuncId)(cap:List AV)(vis:Body->Nat->List α->List α)(hw:Wsm w)(hq: ∀b∈w.Bodies,b.Fixtures.length<=1000)(hq2:w.Bodies.length<=1000)(h2:F4 cap= [])
  (hv: ∀b∈w.Bodies,∀(i:Nat),i<b.Fixtures.length-> ∀l:List α,l.length<=2000000->A1 Tryz.prog f ([.agg b.enc,sI i]++(cap++ [.ptr 1 0 0 1])) (Ob z enc d l) (.tup []) (Ob z enc d (vis b i l)))
  (hvl: ∀b i l,(vis b i l).length<=l.length+1)(l0:List α)(hl0:l0.length<=1000):
  A1 Tryz.prog D6x [.agg w.enc,sI mask, .fn (.func f) [] (cap++ [.ptr 1 0 0 1])] (Ob z enc d l0) (.tup []) (Ob z enc d (feR w mask vis l0)):=by
 refine A7p hm A4 Tryz.func261 rfl rfl ?_;unfold feR;simp only[go_sem,go_sem_proc,Ob];refine A0 (R8 w hw) rfl ?_;simp only[go_sem,go_sem_proc];by_cases hval:F1 w=0;rotate_left
 ·rw[if_pos (by simpa using hval),if_neg hval];refine C6 [] [] [] rfl rfl (by simp[go_sem,Ob]) (by simp[A6,go_sem,Ob]) (by simp[go_sem,Ob,A6]) ?_;simp only[go_sem,go_sem_proc,Ob]
 rw[if_neg (by simpa using hval),if_pos hval];refine A9 hm (ι:= {i:Nat // i<=w.Bodies.length}) (λi=> [(1, .share,sI mask),(2, .share, .fn (.func f) [] (cap++ [.ptr 1 0 0 1])),(14, .share,A2 20 Body.enc default w.Bodies),(15, .share,sI w.Bodies.length),(16, .share,sI (i.1:Nat))]) (λi=>Ob z enc d (itr (feB w mask vis) i.1 l0)) (λi=>w.Bodies.length-i.1) ⟨0,Nat.zero_le _⟩ ?_ ?_
 ·simp only[H5];refine B5 [] [] (by simp[go_sem,Ob]) (by simp[A6,go_sem,Ob]) (by simp[go_sem,Ob,A6]) ?_;simp only[go_sem,go_sem_proc,Ob];exact⟨(AV.ren_id (.fn (.func f) [] (cap++ [.ptr 1 0 0 1]))).symm,(λi hi=>by rw[A65,h2]at hi;simp[F4,AV.ids]at hi;subst hi;rfl)⟩
 ·rintro⟨i,hi⟩;dsimp only;have hlen:=D8y (w:=w) (mask:=mask) hvl hq l0 i hi
  have hnext:itr (feB w mask vis) (i+1) l0=feB w mask vis i (itr (feB w mask vis) i l0):=E4 ..
  have hfin:w.Bodies.length<=i->itr (feB w mask vis) i l0=itr (feB w mask vis) w.Bodies.length l0:=λh=>by rw[show i=w.Bodies.length by omega]
  generalize itr (feB w mask vis) i l0=v at hlen hnext hfin⊢;simp only[go_sem,go_sem_proc,Ob];split;rotate_left
  ·rename_i hge;rw[<-hfin (by omega)];refine C6 [] [] [] rfl rfl (by simp[go_sem]) (by simp[A6,go_sem]) (by simp[go_sem,A6]) ?_;simp only[go_sem,go_sem_proc]
  rename_i hlt;have hlt:i<w.Bodies.length:=by omega
  have hbm:=B6 (l:=w.Bodies) default hlt
  have hqb:=hq _ hbm;generalize hbd:w.Bodies.getD i default=b at hbm hqb⊢;replace hnext:itr (feB w mask vis) (i+1) l0=itr (feF mask vis b) b.Fixtures.length v:=by rw[hnext];unfold feB;rw[hbd]
  refine⟨⟨by omega,by omega⟩,?_⟩;refine A9 hm (ι:= {k:Nat // k<=b.Fixtures.length}) (λk=> [(1, .share,sI mask),(2, .share, .fn (.func f) [] (cap++ [.ptr 1 0 0 1])),(14, .share,A2 20 Body.enc default w.Bodies),(15, .share,sI w.Bodies.length),(16, .share,sI (i:Nat)),(7, .thaw, .fptr b.enc),(21, .share,A2 10 Fixture.enc default b.Fixtures),(22, .share,sI b.Fixtures.length),(23, .share,sI (k.1:Nat))]) (λk=>Ob z enc d (itr (feF mask vis b) k.1 v)) (λk=>b.Fixtures.length-k.1) ⟨0,Nat.zero_le _⟩ ?_ ?_
  ·simp only[H5];refine B5 [] [] (by simp[go_sem,Ob]) (by simp[A6,go_sem,Ob]) (by simp[go_sem,Ob,A6]) ?_;simp only[go_sem,go_sem_proc,Ob,A0c];exact⟨(AV.ren_id (.fn (.func f) [] (cap++ [.ptr 1 0 0 1]))).symm,(λi hi=>by rw[A65,h2]at hi;simp[F4,AV.ids]at hi;subst hi;rfl)⟩
  ·rintro⟨k,hk⟩;dsimp only;have hlen2:=D90 (mask:=mask) hvl b v k
   have hnext2:itr (feF mask vis b) (k+1) v=feF mask vis b k (itr (feF mask vis b) k v):=E4 ..
   have hfin2:b.Fixtures.length<=k->itr (feF mask vis b) k v=itr (feF mask vis b) b.Fixtures.length v:=λh=>by rw[show k=b.Fixtures.length by omega]
   generalize itr (feF mask vis b) k v=u at hlen2 hnext2 hfin2⊢;simp only[go_sem,go_sem_proc,Ob];split;rotate_left
   ·refine A7 ⟨i+1,hlt⟩ (by show w.Bodies.length-(i+1)<w.Bodies.length-i;omega) ?_;simp only[hnext];rw[<-hfin2 (by omega)];refine B5 [] [] (by simp[go_sem,Ob]) (by simp[A6,go_sem,Ob]) (by simp[go_sem,Ob,A6]) ?_;simp only[go_sem,go_sem_proc,Ob];exact⟨(AV.ren_id (.fn (.func f) [] (cap++ [.ptr 1 0 0 1]))).symm,(λi hi=>by rw[A65,h2]at hi;simp[F4,AV.ids]at hi;subst hi;rfl),(by rw[IntKind.wrap_i64];omega)⟩
   rename_i hlt2;have hlt2:k<b.Fixtures.length:=by omega
   refine⟨⟨by omega,by omega⟩,?_⟩;refine A0 (C92 (b.Fixtures.getD k default) mask) rfl ?_;simp only[go_sem,go_sem_proc];by_cases hc:A57 (b.Fixtures.getD k default) mask=true
   ·rw[if_pos hc];replace hnext2:itr (feF mask vis b) (k+1) v=vis b k u:=by rw[hnext2];unfold feF;rw[if_pos hc]
    refine E6 (hv b hbm k hlt2 u (by omega)) D50 D50 (by simp[Ob]) (by simp[Ob,upd]) (by simp[Ob]) ?_ rfl ?_
    ·intro a ha j hj;have hids: ∀x:List AV,F4 ([.agg b.enc,sI (k:Int)]++(cap++ [.ptr 1 0 0 1]))= [1]:=λ_=>by rw[A65,A65,h2];simp[F4,AV.ids,Body.enc,A2]
     obtain⟨q,hq⟩:=List.getElem?_of_mem ha;have:=N2 hq j hj
     have this2:j∈F4 ([.agg b.enc,sI (k:Int)]++(cap++ [.ptr 1 0 0 1])):=this;rw[hids []]at this2;simp at this2;subst this2;rfl
    simp only[go_sem,go_sem_proc];refine A7 ⟨k+1,hlt2⟩ (by show b.Fixtures.length-(k+1)<b.Fixtures.length-k;omega) ?_;simp only[hnext2];refine B5 [] [] (by simp[go_sem,Ob]) (by simp[A6,go_sem,Ob]) (by simp[go_sem,Ob,A6]) ?_;simp only[go_sem,go_sem_proc,Ob];exact⟨(AV.ren_id (.fn (.func f) [] (cap++ [.ptr 1 0 0 1]))).symm,(λi hi=>by rw[A65,h2]at hi;simp[F4,AV.ids]at hi;subst hi;rfl),(by rw[IntKind.wrap_i64];omega)⟩
   ·rw[if_neg hc];replace hnext2:itr (feF mask vis b) (k+1) v=u:=by rw[hnext2];unfold feF;rw[if_neg hc]
    refine A7 ⟨k+1,hlt2⟩ (by show b.Fixtures.length-(k+1)<b.Fixtures.length-k;omega) ?_;simp only[hnext2];refine B5 [] [] (by simp[go_sem,Ob]) (by simp[A6,go_sem,Ob]) (by simp[go_sem,Ob,A6]) ?_;simp only[go_sem,go_sem_proc,Ob];exact⟨(AV.ren_id (.fn (.func f) [] (cap++ [.ptr 1 0 0 1]))).symm,(λi hi=>by rw[A65,h2]at hi;simp[F4,AV.ids]at hi;subst hi;rfl),(by rw[IntKind.wrap_i64];omega)⟩
end Go.Abs
end
noncomputable section
namespace Go.Abs
open Go.Proofs
open Api
end Go.Abs
namespace Go.Api
open Go.Abs
structure RayHit where
 Body:Int
 Fixture:Int
 Fraction:Int
 Point:Vec
 Normal:Vec
 deriving DecidableEq,Inhabited
def RayHit.enc(x:RayHit):List AV:=[sI x.Body,sI x.Fixture,sI x.Fraction,sI x.Point.X,sI x.Point.Y,sI x.Normal.X,sI x.Normal.Y]
def RayHit.zero:List AV:= [sI 0,sI 0,sI 0,sI 0,sI 0,sI 0,sI 0]
attribute [go_sem] RayHit.enc RayHit.zero
@[go_sem] theorem G3o(x:RayHit):RayHit.mk x.Body x.Fixture x.Fraction x.Point x.Normal=x:=rfl
end Go.Api
namespace Go.Abs
open Go.Proofs Api
end Go.Abs
end
noncomputable section
namespace Go.Abs
open Go.Proofs
open Api
def D0w(c:Shape->Transform->Bool)(b:Body)(i:Nat)(l:List Int):List Int:=if c (b.Fixtures.getD i default).Shape b.Transform=true then l++ [b.ID]else l
theorem E52(c:Shape->Transform->Bool)(b:Body)(i:Nat)(l:List Int):(D0w c b i l).length<=l.length+1:=by
 unfold D0w;split
 ·rw[List.length_append,List.length_singleton];omega
 ·omega
theorem E94 {α:Type}{z n n':Nat}{enc:α->List AV}{d:α}{l m:List α}(hn:n=l.length)(hn':n'=l.length):M4 (.dsl z n (L7 enc d (l++m))) (.dsl z n' (L7 enc d l)):=by
 subst hn;subst hn';rw[A1z];refine⟨rfl,rfl,λk hk=> ?_⟩;have:L7 enc d (l++m) k=L7 enc d l k:=by simp[L7,List.getD,List.getElem?_append_left hk]
 rw[this];exact L3 _
theorem G0k(g:FuncId)(pc:List AV)(c:Shape->Transform->Bool)(b:Body)(i:Nat)(l:List Int)(hb:Body.sm b)(hi:i<b.Fixtures.length)(hl:l.length<=2000000)(h2:F4 pc= [])
  (hg: ∀(s:Shape) (t:Transform),s.Vertices.length<=1048576->A1 Tryz.prog g [.agg s.enc, .agg t.enc, .fptr pc] [] (sB (c s t)) []):
  A1 Tryz.prog B2x ([.agg b.enc,sI i]++([.fptr [.fn (.func g) [] [.fptr pc]]]++ [.ptr 1 0 0 1])) (Ob 1 B9 0 l) (.tup []) (Ob 1 B9 0 (D0w c b i l)):=by
 refine A7p hm A4 Tryz.func267 rfl rfl ?_;simp only[go_sem,go_sem_proc,Ob];refine⟨⟨by omega,by omega⟩,?_⟩;refine B53 (hg (b.Fixtures.getD i default).Shape b.Transform (hb.2 _ (B6 default hi))) (by simp[F4,AV.ids]) rfl ?_;unfold D0w;generalize c (b.Fixtures.getD i default).Shape b.Transform=t;simp only[go_sem,go_sem_proc];cases t with
 |false=>rw[if_neg (by simp),if_neg (by simp)];refine C6 [] [] [] rfl rfl (by simp[go_sem,Ob]) (by simp[A6,go_sem,Ob]) (by simp[go_sem,Ob,A6]) ?_;simp only[go_sem,go_sem_proc,Ob]
 |true=>rw[if_pos rfl,if_pos rfl];refine⟨⟨by omega,by unfold maxLen;omega⟩,?_⟩;refine C6 [] [] [] rfl rfl (by simp[go_sem,Ob]) (by simp[A6,go_sem,Ob]) (by simp[go_sem,Ob,A6]) ?_;simp only[go_sem,go_sem_proc,Ob,List.length_append,List.length_singleton];exact A1y _ rfl rfl
def bwL(w:Api.World)(mask:Int)(c:Shape->Transform->Bool):List Int:=B2a (A9e (feR w mask (D0w c) []))
theorem C82(w:Api.World)(mask:Int)(g:FuncId)(pc:List AV)(c:Shape->Transform->Bool)(hw:Wsm w)(hq: ∀b∈w.Bodies,b.Fixtures.length<=1000)(hq2:w.Bodies.length<=1000)(h2:F4 pc= [])(h3:A0c pc=true)
  (hg: ∀(s:Shape) (t:Transform),s.Vertices.length<=1048576->A1 Tryz.prog g [.agg s.enc, .agg t.enc, .fptr pc] [] (sB (c s t)) []):
  A1 Tryz.prog C8o [.agg w.enc,sI mask, .fn (.func g) [] [.fptr pc]] [] (A2 1 B9 0 (bwL w mask c)) []:=by
 have hlen:(feR w mask (D0w c) []).length<=1000000:=by
  unfold feR;split
  ·have:=D8y (mask:=mask) (E52 c) hq [] w.Bodies.length (Nat.le_refl _)
   simp only[List.length_nil]at this;omega
  ·simp
 refine F6q hm A4 Tryz.func164 rfl rfl ?_;refine C3 [(1, .share,sI mask),(3, .thaw, .fptr w.enc),(5, .thaw, .fptr [.fn (.func g) [] [.fptr pc]])] [] (E0 hm ?_) ?_
 ·simp only[go_sem,go_sem_proc];refine B5 [] [] (by simp[go_sem]) (by simp[A6,go_sem]) (by simp[go_sem]) ?_;simp only[go_sem,go_sem_proc,A0c]
 refine C3 [(1, .share,sI mask),(3, .share, .fptr w.enc),(5, .share, .fptr [.fn (.func g) [] [.fptr pc]]),(7, .share, .ptr 1 0 0 1)] (Ob 1 B9 0 []) (E0 hm ?_) ?_
 ·simp only[go_sem,go_sem_proc];refine B5 [(1,128)] [2] (by simp[go_sem,Ob]) (by simp[A6,go_sem,Ob]) (by simp[go_sem,Ob]) ?_;simp only[go_sem,go_sem_proc,Ob]
 refine E0 hm ?_;simp only[go_sem,go_sem_proc,Ob];have hF:=D67 (z:=1) (enc:=B9) (d:=0) w mask B2x [.fptr [.fn (.func g) [] [.fptr pc]]] (D0w c) hw hq hq2 (by simp[F4,AV.ids]) (λb hb i hi l hl=>G0k g pc c b i l (hw.2.2.2.2.1 b hb) hi hl h2 hg) (E52 c) [] (by simp);generalize hfe:feR w mask (D0w c) []=r at hF hlen;refine E6 hF D50 D50 (by simp[Ob]) (by simp[Ob,upd]) (by simp[Ob]) ?_ rfl ?_
 ·intro a ha j hj;obtain⟨k,hk⟩:=List.getElem?_of_mem ha;have:=N2 hk j hj;simp[F4,AV.ids]at this;subst this;rfl
 simp only[go_sem,go_sem_proc,Ob];refine E3 [true] [(1,2)] (B7m r (by omega)) (by simp) (by simp) (by simp) (by simp[go_sem]) ?_;simp only[go_sem,go_sem_proc];have hC:=B35 (A9e r) (by rw[A90];omega);rw[A90]at hC;refine E3 [true] [(1,2)] hC (by simp) (by simp) (by simp) (by simp[go_sem]) ?_;simp only[go_sem,go_sem_proc];rw[show bwL w mask c=B2a (A9e r)by unfold bwL;rw[hfe]];exact⟨by have:=B6w (A9e r);rw[A90]at this;simp;omega,E94 rfl rfl⟩
theorem F5z(p:Vec)(s:Shape)(t:Transform)(h0:s.Vertices.length<=1048576):A1 Tryz.prog A9p [.agg s.enc, .agg t.enc, .fptr p.enc] [] (sB (X5 s t p)) []:=by refine en1 hm A4 Tryz.func165 rfl rfl ?_;simp only[go_sem,go_sem_proc];refine A0 (B3e s t p h0) rfl ?_;simp only[go_sem,go_sem_proc]
def D8a(w:Api.World)(p:Vec)(mask:Int):List Int:=bwL w mask λs t=>X5 s t p
theorem C2u(w:Api.World)(p:Vec)(mask:Int)(hw:Wsm w)(hq: ∀b∈w.Bodies,b.Fixtures.length<=1000)(hq2:w.Bodies.length<=1000):A1 Tryz.prog C3w [.agg w.enc, .agg p.enc,sI mask] [] (A2 1 B9 0 (D8a w p mask)) []:=by refine en1 hm A4 Tryz.func102 rfl rfl ?_;simp only[go_sem,go_sem_proc];refine A5c (C82 w mask A9p p.enc (λs t=>X5 s t p) hw hq hq2 (by simp[F4,AV.ids,Vec.enc]) rfl (λs t h=>F5z p s t h)) ?_;simp only[A02,go_sem,go_sem_proc,A0c];exact I7 _
end Go.Abs
end
noncomputable section
namespace Go.Abs
open Go.Proofs
open Api
end Go.Abs
namespace Go.Api
open Go.Abs
structure Response where
 Hit:RayHit
 Found:Bool
 Bodies:List Int
 NewID:Int
 Err:Int
 deriving DecidableEq,Inhabited
def Response.enc(x:Response):List AV:=[sI x.Hit.Body,sI x.Hit.Fixture,sI x.Hit.Fraction,sI x.Hit.Point.X,sI x.Hit.Point.Y,sI x.Hit.Normal.X,sI x.Hit.Normal.Y,sB x.Found,A2 1 B9 0 x.Bodies,sI x.NewID,sI x.Err]
def Response.zero:List AV:= [sI 0,sI 0,sI 0,sI 0,sI 0,sI 0,sI 0,sB false, .sc (.slice none 0 0),sI 0,sI 0]
attribute [go_sem] Response.enc Response.zero
@[go_sem] theorem G10(x:Response):Response.mk x.Hit x.Found x.Bodies x.NewID x.Err=x:=rfl
end Go.Api
namespace Go.Abs
open Go.Proofs Api
theorem A7h(w:Api.World)(h:Wsm w):A1 Tryz.prog C6t [.agg w.enc] [] (.agg w.enc) []:=by
 obtain⟨h1,h2,h3,h4,h5,h6⟩:=h;refine D1u 56 [(2,some (some 11))] hm A4 Tryz.func48 rfl ?_;simp only[go_sem,go_sem_proc];refine E3 [false] [(1,1)] (A87 w.Bodies h1) (by simp) (by simp) (by simp) (by simp) ?_;simp only[go_sem,go_sem_proc];refine E3 [false] [(1,2)] (A8m w.Joints h2) (by simp) (by simp) (by simp) (by simp) ?_;simp only[go_sem,go_sem_proc];refine E3 [false] [(1,3)] (B1v w.Contacts h3) (by simp) (by simp) (by simp) (by simp) ?_;simp only[go_sem,go_sem_proc];refine E3 [false] [(1,4)] (B1w w.Overlaps h4) (by simp) (by simp) (by simp) (by simp) ?_;simp only[go_sem,go_sem_proc];refine A9 hm (ι:= {i:Nat // i<=w.Bodies.length}) (λi=> [(1, .share, .ptr 32 0 0 1),(2, .share, .ptr 48 0 0 1),(24, .share, .sl 1 0 w.Bodies.length w.Bodies.length),(25, .share,sI w.Bodies.length),(26, .share,sI i.1)])
  (λi=>(32, .box [sI w.Settings.TimeStep,sI w.Settings.Gravity.X,sI w.Settings.Gravity.Y,sI w.Settings.Iterations,sI w.Settings.SleepSteps,
 .sl 1 0 w.Bodies.length w.Bodies.length, .sl 2 0 w.Joints.length w.Joints.length, .sl 3 0 w.Contacts.length w.Contacts.length, .sl 4 0 w.Overlaps.length w.Overlaps.length,sI w.NextID,sI w.Frame])::(48, .box World.zero)::B2h w 1 2 3 4) (λi=>w.Bodies.length-i.1) ⟨0,by omega⟩ ?_ ?_
 ·refine B5 [] [] (by simp[B2h]) (by simp[A6,B2h]) (by simp) ?_;simp only[go_sem,go_sem_proc]
 ·rintro⟨i,hi⟩;simp only[go_sem,go_sem_proc];split
  ·rename_i hlt;have hlt:i<w.Bodies.length:=by omega
   refine⟨⟨by omega,by omega⟩,?_⟩;refine A0 (A7s (w.Bodies.getD i default) (h5 _ (B6 _ hlt))) rfl ?_;simp only[go_sem,go_sem_proc];refine⟨(by(repeat' (with_reducible apply And.intro)) <;> omega),?_⟩;refine A7 ⟨i+1,by omega⟩ (by show w.Bodies.length-(i+1)<w.Bodies.length-i;omega) (B5 [] [] (by simp[go_sem]) (by simp[go_sem]) (by simp[go_sem]) ?_);simp only[go_sem,go_sem_proc];exact⟨(by rw[IntKind.wrap_i64];omega),A2k (w.Bodies.getD i default) hlt rfl (C4j _ _ _ hlt)⟩
  ·rename_i hge;obtain rfl:i=w.Bodies.length:=by omega
   refine A9 hm (ι:= {i:Nat // i<=w.Contacts.length}) (λi=> [(1, .share, .ptr 32 0 0 1),(2, .share, .ptr 48 0 0 1),(39, .share, .sl 3 0 w.Contacts.length w.Contacts.length),(40, .share,sI w.Contacts.length),(41, .share,sI i.1)])
    (λi=>(32, .box [sI w.Settings.TimeStep,sI w.Settings.Gravity.X,sI w.Settings.Gravity.Y,sI w.Settings.Iterations,sI w.Settings.SleepSteps,
 .sl 1 0 w.Bodies.length w.Bodies.length, .sl 2 0 w.Joints.length w.Joints.length, .sl 3 0 w.Contacts.length w.Contacts.length, .sl 4 0 w.Overlaps.length w.Overlaps.length,sI w.NextID,sI w.Frame])::(48, .box World.zero)::B2h w 1 2 3 4) (λi=>w.Contacts.length-i.1) ⟨0,by omega⟩ ?_ ?_
   ·refine B5 [] [] (by simp[B2h]) (by simp[A6,B2h]) (by simp) ?_;simp only[go_sem,go_sem_proc]
   ·rintro⟨i,hi⟩;simp only[go_sem,go_sem_proc];split
    ·rename_i hlt;have hlt:i<w.Contacts.length:=by omega
     refine⟨⟨by omega,by omega⟩,?_⟩;refine A0 (B2i (w.Contacts.getD i default).Manifold (h6 _ (B6 _ hlt))) rfl ?_;simp only[go_sem,go_sem_proc];refine⟨(by(repeat' (with_reducible apply And.intro)) <;> omega),?_⟩;refine A7 ⟨i+1,by omega⟩ (by show w.Contacts.length-(i+1)<w.Contacts.length-i;omega) (B5 [] [] (by simp[go_sem]) (by simp[go_sem]) (by simp[go_sem]) ?_);simp only[go_sem,go_sem_proc];exact⟨(by rw[IntKind.wrap_i64];omega),A2k (w.Contacts.getD i default) hlt rfl (C4j _ _ _ hlt)⟩
    ·rename_i hge;obtain rfl:i=w.Contacts.length:=by omega
     refine C6 [.thaw] [] [] rfl rfl (by simp[go_sem]) (by simp[go_sem]) (by simp) ?_;simp only[go_sem,go_sem_proc]
def rZ:RayHit:=⟨0,0,0,⟨0,0⟩,⟨0,0⟩⟩
theorem E10(l:List Int):A1 Tryz.prog C2r [A2 1 B9 0 l] [] (.agg (⟨rZ,decide (0<(l.length:Int)),l,0,0⟩:Response).enc) []:=by refine L5 8 [(2,some (some 11))] hm A4 Tryz.func101 rfl ?_;simp only[go_sem,go_sem_proc,rZ]
end Go.Abs
end
noncomputable section
namespace Go.Abs
open Go.Proofs
open Api
def M5(w:Api.World):List AV:= [sB true,sI w.Settings.TimeStep,sI w.Settings.Gravity.X,sI w.Settings.Gravity.Y,sI w.Settings.Iterations,sI w.Settings.SleepSteps,A2 20 Body.enc default w.Bodies,A2 24 Joint.enc default w.Joints,A2 7 Contact.enc default w.Contacts,A2 4 PairKey.enc default w.Overlaps,sI w.NextID,sI w.Frame,
 .sc (.bool false),sI 0,sI 0,sI 0,sI 0,sI 0, .sc (.slice none 0 0), .sc (.slice none 0 0), .sc (.slice none 0 0), .sc (.slice none 0 0),sI 0,sI 0, .sc (.slice none 0 0), .sc (.slice none 0 0), .sc (.slice none 0 0), .sc (.slice none 0 0)]
theorem A50(w:Api.World):A1 Tryz.prog A8z [.ptr 1 0 0 1] [(1, .box (M5 w))] (sB false) [(1, .box (M5 w))]:=by refine H8 hm A4 Tryz.func49 rfl rfl ?_;simp only[go_sem,go_sem_proc,M5];refine C6 [.share] [] [] rfl rfl (by simp[go_sem]) (by simp[A6,go_sem]) (by simp[go_sem,A6]) ?_;simp only[go_sem,go_sem_proc]
theorem E0q(w:Api.World)(hw:Wsm w)(h1:F1 w=0):A1 Tryz.prog D89 [.agg w.enc] [] (.tup [.ptr 1 0 0 1,sI 0]) [(1, .box (M5 w))]:=by refine A7p hm A4 Tryz.func11 rfl rfl ?_;simp only[go_sem,go_sem_proc];refine A0 (R8 w hw) rfl ?_;simp only[go_sem,go_sem_proc];rw[if_neg (by simpa using h1)];refine A0 (A7h w hw) rfl ?_;simp only[go_sem,go_sem_proc];refine C6 [.share, .share] [(1,176)] [] rfl rfl (by simp[go_sem]) (by simp[A6,go_sem]) (by simp[go_sem,A6]) ?_;simp only[go_sem,go_sem_proc,M5]
theorem E2l(w:Api.World):A1 Tryz.prog A8r [.ptr 1 0 0 1] [(1, .box (M5 w))] (sI 0) [(1, .box (M5 w))]:=by refine H8 hm A4 Tryz.func14 rfl rfl ?_;simp only[go_sem,go_sem_proc,M5];refine E3 [true] [(1,1)] (A50 w) (by simp) (by simp) (by simp) (by simp[go_sem]) ?_;simp only[go_sem,go_sem_proc,M5];refine C6 [.share] [] [] rfl rfl (by simp[go_sem]) (by simp[A6,go_sem]) (by simp[go_sem,A6]) ?_;simp only[go_sem,go_sem_proc]
theorem E6o(w:Api.World)(hw:Wsm w):A1 Tryz.prog A9w [.ptr 1 0 0 1] [(1, .box (M5 w))] (.agg w.enc) [(1, .box (M5 w))]:=by refine D1u 11 [(2,some (some 11))] hm A4 Tryz.func16 rfl ?_;simp only[go_sem,go_sem_proc,M5];refine E3 [true] [(1,1)] (A50 w) (by simp) (by simp) (by simp) (by simp[go_sem]) ?_;simp only[go_sem,go_sem_proc,M5];refine A0 (A7h w hw) rfl ?_;simp only[go_sem,go_sem_proc];refine C6 [.thaw] [] [] rfl rfl (by simp[go_sem]) (by simp[A6,go_sem]) (by simp[go_sem,A6]) ?_;simp only[go_sem,go_sem_proc,M5]
theorem E3w(w:Api.World)(r:Request)(x:Api.World×Response)(hE:A1 Tryz.prog B6m [.agg w.enc, .agg r.enc] [] (.tup [.agg x.1.enc, .agg x.2.enc]) []):
  A1 Tryz.prog A46 [.ptr 1 0 0 1, .agg r.enc] [(1, .box (M5 w))] (.tup [.agg x.2.enc,sB true,sI 0]) [(1, .box (M5 x.1))]:=by
 refine C0i 53 [(4,some (some 11)),(5,none),(6,none)] hm A4 Tryz.func13 rfl ?_;simp only[go_sem,go_sem_proc,M5];refine E3 [true] [(1,1)] (A50 w) (by simp) (by simp) (by simp) (by simp[go_sem]) ?_;simp only[go_sem,go_sem_proc,M5];refine A0 hE rfl ?_;simp only[go_sem,go_sem_proc];refine C6 [.thaw, .share, .share] [] [] rfl rfl (by simp[go_sem]) (by simp[A6,go_sem]) (by simp[go_sem,A6]) ?_;simp only[go_sem,go_sem_proc,M5]
end Go.Abs
end
noncomputable section
namespace Go.Abs
open Go.Proofs
open Api
def D04(b:Body):Prop:=b.Fixtures.length<=3/\ ∀f∈b.Fixtures,f.Shape.Vertices.length<=8
def B4g(w:Api.World):Prop:=(w.Bodies.length<=7/\w.Joints.length<=6/\w.Contacts.length<=40/\w.Overlaps.length<=40/\w.Settings.Iterations<=16)/\(∀b∈w.Bodies,D04 b)/\ ∀c∈w.Contacts,c.Manifold.Points.length<=4
noncomputable instance(b:Body):Decidable (D04 b):=Classical.propDecidable _
noncomputable instance(w:Api.World):Decidable (B4g w):=Classical.propDecidable _
theorem F6f {w:Api.World}(h:B4g w):Wsm w:=by
 obtain⟨⟨h1,h2,h3,h4,_⟩,h5,h6⟩:=h;refine⟨by omega,by omega,by omega,by omega,λb hb=> ?_,λc hc=> ?_⟩
 ·obtain⟨a1,a2⟩:=h5 b hb;exact⟨by omega,λf hf=>by have:=a2 f hf;show f.Shape.Vertices.length<=_;omega⟩
 ·have:=h6 c hc
  show c.Manifold.Points.length<=_;omega
theorem A8f {α:Type}{l:List α}{i:Nat}{P:α->Prop}(d:α)(h: ∀x∈l.take i,P x)(hi:i<l.length)(hp:P (l.getD i d)): ∀x∈l.take (i+1),P x:=by
 intro x hx;rw[K9 d hi]at hx;rcases List.mem_append.1 hx with k |k
 ·exact h x k
 ·rw[List.mem_singleton]at k;subst k;exact hp
theorem D6m(b:Body):A1 Tryz.prog D5z [.agg b.enc] [] (sB (decide (D04 b))) []:=by
 refine en1 hm A4 Tryz.func76 rfl rfl ?_;simp only[go_sem,go_sem_proc];by_cases h0:b.Fixtures.length<=3
 ·rw[if_neg (by omega)];refine A9 hm (ι:= {k:Nat // k<=b.Fixtures.length/\ ∀f∈b.Fixtures.take k,f.Shape.Vertices.length<=8}) (λk=> [(1, .thaw, .fptr b.enc),(3, .share,sI (k.1:Nat))]) (λ_=> []) (λk=>b.Fixtures.length-k.1) ⟨0,Nat.zero_le _,λf hf=>by simp at hf⟩ ?_ ?_
  ·refine B5 [] [] (by simp) (by simp[A6]) (by simp) ?_;simp only[go_sem,go_sem_proc,A0c]
  ·rintro⟨k,hk,ht⟩;simp only[go_sem,go_sem_proc];split
   ·rename_i hlt;have hlt:k<b.Fixtures.length:=by omega
    refine⟨⟨by omega,by omega⟩,?_⟩;by_cases he:(b.Fixtures.getD k default).Shape.Vertices.length<=8
    ·rw[if_neg (by omega)];refine A7 ⟨k+1,hlt,A8f default ht hlt he⟩ (by show b.Fixtures.length-(k+1)<b.Fixtures.length-k;omega) (B5 [] [] (by simp) (by simp[A6]) (by simp) ?_);simp only[go_sem,go_sem_proc];exact(by rw[IntKind.wrap_i64];omega)
    ·rw[if_pos (by omega)];rw[decide_eq_false (λh=>he (h.2 _ (B6 default hlt)))]
   ·rename_i hge;obtain rfl:k=b.Fixtures.length:=by omega
    rw[List.take_length]at ht;exact(decide_eq_true (p:=D04 b) ⟨h0,ht⟩).symm
 ·rw[if_pos (by omega)];rw[decide_eq_false (λh=>h0 h.1)]
theorem C6s(w:Api.World):A1 Tryz.prog E1y [.agg w.enc] [] (sB (decide (B4g w))) []:=by
 refine en1 hm A4 Tryz.func38 rfl rfl ?_;simp only[go_sem,go_sem_proc];by_cases h0:w.Bodies.length<=7/\w.Joints.length<=6/\w.Contacts.length<=40/\w.Overlaps.length<=40/\w.Settings.Iterations<=16
 ·rw[if_neg (by
   obtain⟨a1,a2,a3,a4,a5⟩:=h0;rw[if_neg (by omega),decide_eq_false (by omega),decide_eq_false (by omega),decide_eq_false (by omega),decide_eq_false (by omega)];simp)]
  refine A9 hm (ι:= {k:Nat // k<=w.Bodies.length/\ ∀b∈w.Bodies.take k,D04 b}) (λk=> [(1, .thaw, .fptr w.enc),(3, .share,sI (k.1:Nat))]) (λ_=> []) (λk=>w.Bodies.length-k.1) ⟨0,Nat.zero_le _,λf hf=>by simp at hf⟩ ?_ ?_
  ·refine B5 [] [] (by simp) (by simp[A6]) (by simp) ?_;simp only[go_sem,go_sem_proc,A0c]
  ·rintro⟨k,hk,ht⟩;simp only[go_sem,go_sem_proc];split
   ·rename_i hlt;have hlt:k<w.Bodies.length:=by omega
    refine⟨⟨by omega,by omega⟩,?_⟩;refine A0 (D6m (w.Bodies.getD k default)) rfl ?_;simp only[go_sem,go_sem_proc];by_cases he:D04 (w.Bodies.getD k default)
    ·rw[if_neg (by rw[decide_eq_true he];simp)];refine A7 ⟨k+1,hlt,A8f default ht hlt he⟩ (by show w.Bodies.length-(k+1)<w.Bodies.length-k;omega) (B5 [] [] (by simp) (by simp[A6]) (by simp) ?_);simp only[go_sem,go_sem_proc];exact(by rw[IntKind.wrap_i64];omega)
    ·rw[if_pos (by rw[decide_eq_false he])];exact(decide_eq_false (λh:B4g w=>he (h.2.1 _ (B6 default hlt)))).symm
   ·rename_i hge;obtain rfl:k=w.Bodies.length:=by omega
    rw[List.take_length]at ht;refine A9 hm (ι:= {k:Nat // k<=w.Contacts.length/\ ∀c∈w.Contacts.take k,c.Manifold.Points.length<=4}) (λk=> [(1, .thaw, .fptr w.enc),(4, .share,sI (k.1:Nat))]) (λ_=> []) (λk=>w.Contacts.length-k.1) ⟨0,Nat.zero_le _,λf hf=>by simp at hf⟩ ?_ ?_
    ·refine B5 [] [] (by simp) (by simp[A6]) (by simp) ?_;simp only[go_sem,go_sem_proc]
    ·rintro⟨k,hk,hc⟩;simp only[go_sem,go_sem_proc];split
     ·rename_i hlt;have hlt:k<w.Contacts.length:=by omega
      refine⟨⟨by omega,by omega⟩,?_⟩;by_cases he:(w.Contacts.getD k default).Manifold.Points.length<=4
      ·rw[if_neg (by omega)];refine A7 ⟨k+1,hlt,A8f default hc hlt he⟩ (by show w.Contacts.length-(k+1)<w.Contacts.length-k;omega) (B5 [] [] (by simp) (by simp[A6]) (by simp) ?_);simp only[go_sem,go_sem_proc];exact(by rw[IntKind.wrap_i64];omega)
      ·rw[if_pos (by omega)];exact(decide_eq_false (λh:B4g w=>he (h.2.2 _ (B6 default hlt)))).symm
     ·rename_i hge;obtain rfl:k=w.Contacts.length:=by omega
      rw[List.take_length]at hc;exact(decide_eq_true (p:=B4g w) ⟨h0,ht,hc⟩).symm
 ·rw[if_pos (by
   apply Classical.byContradiction;intro hn;apply h0;simp only[Bool.or_eq_true,decide_eq_true_eq,not_or]at hn;obtain⟨⟨⟨hn1,hn2⟩,hn3⟩,hn4⟩:=hn;by_cases a1:7<(w.Bodies.length:Int)
   ·rw[if_pos a1]at hn1;exact absurd rfl hn1
   ·rw[if_neg a1]at hn1;simp only[decide_eq_true_eq]at hn1;omega)]
  exact(decide_eq_false (λh:B4g w=>h0 h.1)).symm
theorem E7g(w:Api.World)(h:B4g w):A1 Tryz.prog E7v [.agg w.enc] [] (sB (decide (w.Contacts.length<=20/\w.Overlaps.length<=20))) []:=by
 obtain⟨⟨h1,h2,h3,h4,_⟩,h5,h6⟩:=h;refine en1 hm A4 Tryz.func39 rfl rfl ?_;simp only[go_sem,go_sem_proc];refine A9 hm (ι:= {k:Nat // k<=w.Bodies.length}) (λk=> [(1, .thaw, .fptr w.enc),(3, .share,sI (k.1:Nat))]) (λ_=> []) (λk=>w.Bodies.length-k.1) ⟨0,Nat.zero_le _⟩ ?_ ?_
 ·refine B5 [] [] (by simp) (by simp[A6]) (by simp) ?_;simp only[go_sem,go_sem_proc,A0c]
 ·rintro⟨k,hk⟩;simp only[go_sem,go_sem_proc];by_cases hlt:k<w.Bodies.length
  ·obtain⟨b1,b2⟩:=h5 _ (B6 default hlt);generalize w.Bodies.getD k default=b at b1 b2⊢;rw[if_pos (by rw[if_pos (by omega)];exact decide_eq_true (by omega))];refine⟨⟨by omega,by omega⟩,?_⟩;refine A9 hm (ι:= {q:Nat // q<=b.Fixtures.length}) (λq=> [(1, .share, .fptr w.enc),(3, .share,sI (k:Nat)),(4, .thaw, .fptr b.enc),(5, .share,sI (q.1:Nat))]) (λ_=> []) (λq=>b.Fixtures.length-q.1) ⟨0,Nat.zero_le _⟩ ?_ ?_
   ·refine B5 [] [] (by simp) (by simp[A6]) (by simp) ?_;simp only[go_sem,go_sem_proc,A0c]
   ·rintro⟨q,hq⟩;simp only[go_sem,go_sem_proc];by_cases hlq:q<b.Fixtures.length
    ·have:=b2 _ (B6 default hlq)
     rw[if_pos (by rw[if_pos (by omega)];exact decide_eq_true (by omega))];refine⟨⟨by omega,by omega⟩,?_⟩;rw[if_neg (by omega)];refine A7 ⟨q+1,hlq⟩ (by show b.Fixtures.length-(q+1)<b.Fixtures.length-q;omega) (B5 [] [] (by simp) (by simp[A6]) (by simp) ?_);simp only[go_sem,go_sem_proc];exact(by rw[IntKind.wrap_i64];omega)
    ·rw[if_neg (by rw[if_neg (by omega)];simp)];rw[if_neg (by omega)];refine A7 ⟨k+1,hlt⟩ (by show w.Bodies.length-(k+1)<w.Bodies.length-k;omega) (B5 [] [] (by simp) (by simp[A6]) (by simp) ?_);simp only[go_sem,go_sem_proc];exact(by rw[IntKind.wrap_i64];omega)
  ·rw[if_neg (by rw[if_neg (by omega)];simp)];refine A9 hm (ι:= {k:Nat // k<=w.Contacts.length}) (λk=> [(1, .thaw, .fptr w.enc),(6, .share,sI (k.1:Nat))]) (λ_=> []) (λk=>w.Contacts.length-k.1) ⟨0,Nat.zero_le _⟩ ?_ ?_
   ·refine B5 [] [] (by simp) (by simp[A6]) (by simp) ?_;simp only[go_sem,go_sem_proc]
   ·rintro⟨q,hq⟩;simp only[go_sem,go_sem_proc];by_cases hlq:q<w.Contacts.length/\q<20
    ·have:=h6 _ (B6 default hlq.1)
     rw[if_pos (by rw[if_pos (by omega)];exact decide_eq_true (by omega))];refine⟨⟨by omega,by omega⟩,?_⟩;rw[if_neg (by omega)];refine A7 ⟨q+1,hlq.1⟩ (by show w.Contacts.length-(q+1)<w.Contacts.length-q;omega) (B5 [] [] (by simp) (by simp[A6]) (by simp) ?_);simp only[go_sem,go_sem_proc];exact(by rw[IntKind.wrap_i64];omega)
    ·rw[if_neg (by intro hh;split at hh <;> simp at hh;omega)];rw[if_pos (by omega),decide_eq_true (show(w.Joints.length:Int)<=8 by omega),Bool.true_and,Bool.eq_iff_iff];simp;omega
theorem D55 {P:Program}{m:Nat->Option A5}{f:FuncId}{avs:List AV}{Q:ContR}(v:AV)(hK: @Ri Q false ⟨some v,[]⟩): @A4x P m f avs false Q:=⟨⟨some v,[]⟩,(λh=>by cases h),(λh=>absurd rfl h),hK⟩
theorem E8y(w:Api.World)(x:B0):(wkR w x).2.length<=x.Bodies.length:=by
 have h:=C4c x.Bodies w.Bodies.length;unfold wkR;split
 ·have:=(E9i w (A0v w x)).2
  unfold A0v at this⊢;omega
 ·exact Nat.zero_le _
theorem F2l {P:Program}{L:List (Nat×List Bool)}{f:FuncId}{fn:Func}{ac:ACode}{args rs:List AV}{O O':List (Nat×A5)}(N:Nat)(rvs:List (Nat×Option (Option Nat)))(hm:P.follows .mixedOrders=true)(hL:okE P L=true)(hf:P.funcs[f]? =some fn)(hc:M6 P L fn.ntmps (fn.body.getD .skip)=some ac)
  (h: @Wpi P N (O.map (·.1)) ac (B3u N (O.map (·.1)) rvs rs O') (Z5 args O))(hp:A49 rs= .tup rs:=by rfl)(hN:fn.ntmps=N:=by kernel_rfl)(hts:A5v P fn.results.toList=some rvs:=by kernel_rfl)(hb:fn.body=some (fn.body.getD .skip):=by kernel_rfl)(hname:(fn.name != "runtime.NumGoroutine")=true:=by kernel_rfl)(hlt:(rvs.all λp=>p.1.blt N)=true:=by decide)(hl:(args.length.ble N)=true:=by kernel_rfl):
  A1 P f args O (.tup rs) O':=hp▸B9s (ac:= .mark ac) hm hf hb hname (have e:D9 P fn.ntmps (fn.body.getD .skip)=some ac.strip:=cs2 hL hc;e) hN hts hlt hl h
def bg0(w:Api.World):Api.World:= {w with Contacts:=B4i w}
def bW1(x:B0)(s:Api.World×List Api.Event):Api.World×List Api.Event:=(U1 s.1 (wkR s.1 x).1,s.2++(wkR s.1 x).2.map evP)
def bWn(w:Api.World)(n:Nat):Api.World×List Api.Event:=itr (λk s=>bW1 ((C8 (bg0 w)).getD k default) s) n (bg0 w,B8g w.Contacts (B4i w))
def C1e(w:Api.World):Api.World:=(bWn w (C8 (bg0 w)).length).1
def C2f(w:Api.World):List Api.Event:=(bWn w (C8 (bg0 w)).length).2
theorem D39(w:Api.World)(n:Nat):bWn w (n+1)=bW1 ((C8 (bg0 w)).getD n default) (bWn w n):=E4 ..
theorem D80(w:Api.World): ∀n,A15 (bWn w n).1.Bodies w.Bodies/\(bWn w n).1=U1 (bg0 w) (bWn w n).1.Bodies
 |0=>⟨A15.refl _,rfl⟩
 |n+1=>by
  obtain⟨h1,h2⟩:=D80 w n;rw[D39];generalize bWn w n=s at h1 h2⊢;refine⟨(F5d _ _).trans h1,?_⟩;have key: ∀B,U1 s.1 B=U1 (bg0 w) B:=λB=>by rw[h2];rfl
  exact key _
theorem C39 {w:Api.World}(hw:Wsm w)(hf:Wfw w):Wsm (bg0 w):=by obtain⟨h1,h2,h3,h4,h5,h6⟩:=hw;obtain⟨g1,g2⟩:=D1j w hf;exact⟨h1,h2,Nat.le_trans g1 (by decide),h4,h5,λc hc=>Nat.le_trans (g2 c hc) (by decide)⟩
theorem D9o {w:Api.World}(hw:Wsm w)(hf:Wfw w): ∀n,n<=(C8 (bg0 w)).length->(bWn w n).2.length<=2000000+60*n
 |0,_=>by
  have h1:=B23 (B4i w) w.Contacts 1
  have h2:=B23 w.Contacts (B4i w) 2
  have h3:=(D1j w hf).1
  have h4:=hw.2.2.1
  have h1':=B23 w.Contacts (B4i w) 1
  have h2':=B23 (B4i w) w.Contacts 2;show(B8g _ _).length<=_;unfold B8g;rw[List.length_append];omega
 |n+1,hn=>by
  have ih:=D9o hw hf n (by omega);rw[D39];have hx:=B21 (C39 hw hf) _ (B6 (l:=C8 (bg0 w)) (i:=n) default (by omega))
  have h3:(bg0 w).Bodies.length<=60:=hf.1
  have h4:=E8y (bWn w n).1 ((C8 (bg0 w)).getD n default);show((bWn w n).2++List.map evP _).length<=_;rw[List.length_append,List.length_map];omega
theorem E1v(w:Api.World)(hw:Wsm w)(hf:Wfw w)(hv:F1 w=0):A1 Tryz.prog E4l [.agg w.enc] [] (.tup [.agg (C1e w).enc,A2 3 B0.enc default (C8 (bg0 w)), .sl 1 0 (C2f w).length (C2f w).length]) [(1, .arr 5 (A8 Api.Event.enc default (C2f w)))]:=by
 have hV:=R8 w hw;rw[hv]at hV;have hg:=C39 hw hf
 have hbl:=B0k (bg0 w)
 have hbs:= @B21 (bg0 w) hg
 have hf1:(bg0 w).Bodies.length<=60:=hf.1
 have hU:=D4o w hw hf
 have hul:=(D1j w hf).1
 have hE:=D4a w.Contacts (B4i w) hw.2.2.1 (by omega);refine F2l 49 [(2,some (some 11)),(3,none),(4,none)] hm A4 Tryz.func50 rfl ?_;refine C3 [(1, .share, .ptr 32 0 0 1),(2, .share, .ptr 48 0 0 1)] [(48, .box World.zero),(32, .box w.enc)] (E0 hm ?_) ?_
 ·simp only[go_sem,go_sem_proc,World.zero];refine B8 [] [] ?_;simp only[go_sem,go_sem_proc]
 refine C3 [(1, .share, .ptr 32 0 0 1),(2, .share, .ptr 48 0 0 1)] [(48, .box World.zero),(32, .box w.enc)] (E0 hm ?_) ?_
 ·simp only[go_sem,go_sem_proc];refine A0 hV rfl ?_;simp only[go_sem,go_sem_proc,World.zero];refine B8 [] [] ?_;simp only[go_sem,go_sem_proc]
 refine C3 [(1, .share, .ptr 32 0 0 1),(2, .share, .ptr 48 0 0 1),(5, .share,A2 7 Contact.enc default w.Contacts)] [(48, .box World.zero),(32, .box w.enc)] (E0 hm ?_) ?_
 ·simp only[go_sem,go_sem_proc,World.zero];refine B8 [] [] ?_;simp only[go_sem,go_sem_proc]
 refine C3 [(1, .share, .ptr 32 0 0 1),(2, .share, .ptr 48 0 0 1),(5, .share,A2 7 Contact.enc default w.Contacts)] [(48, .box World.zero),(32, .box w.enc)] (E0 hm ?_) ?_
 ·simp only[go_sem,go_sem_proc];refine A0 (A7h w hw) rfl ?_;simp only[go_sem,go_sem_proc,World.zero];refine B8 [] [] ?_;simp only[go_sem,go_sem_proc]
 refine C3 [(1, .share, .ptr 32 0 0 1),(2, .share, .ptr 48 0 0 1),(5, .share,A2 7 Contact.enc default w.Contacts)] [(48, .box World.zero),(32, .box (bg0 w).enc)] (E0 hm ?_) ?_
 ·simp only[go_sem,go_sem_proc];refine A0 hU rfl ?_;simp only[go_sem,go_sem_proc,World.zero,bg0];refine B8 [] [] ?_;simp only[go_sem,go_sem_proc]
 refine C3 [(1, .share, .ptr 32 0 0 1),(2, .share, .ptr 48 0 0 1),(6, .share, .sl 6 0 (bWn w 0).2.length (bWn w 0).2.length)] [(48, .box World.zero),(32, .box (bWn w 0).1.enc),(6, .arr 5 (A8 Api.Event.enc default (bWn w 0).2))] (E0 hm ?_) ?_
 ·rw[show bWn w 0=(bg0 w,B8g w.Contacts (B4i w))from rfl];simp only[go_sem,go_sem_proc,bg0];refine K0 ev_ K8 hE ?_;simp only[go_sem,go_sem_proc,World.zero];refine B8 [(6,432)] [] ?_;simp only[go_sem,go_sem_proc];exact eE_
 refine C3 [(1, .share, .ptr 32 0 0 1),(2, .share, .ptr 48 0 0 1),(6, .share, .sl 6 0 (bWn w 0).2.length (bWn w 0).2.length),(7, .share,A2 3 B0.enc default (C8 (bg0 w)))] [(48, .box World.zero),(32, .box (bWn w 0).1.enc),(6, .arr 5 (A8 Api.Event.enc default (bWn w 0).2))] (E0 hm ?_) ?_
 ·rw[show bWn w 0=(bg0 w,B8g w.Contacts (B4i w))from rfl];simp only[go_sem,go_sem_proc];refine A0 (E8j (bg0 w) hg) rfl ?_;simp only[go_sem,go_sem_proc,World.zero];refine B8 [] [] ?_;simp only[go_sem,go_sem_proc]
 refine C3 [(1, .share, .ptr 32 0 0 1),(2, .share, .ptr 48 0 0 1),(6, .share, .sl 6 0 (bWn w (C8 (bg0 w)).length).2.length (bWn w (C8 (bg0 w)).length).2.length),(7, .share,A2 3 B0.enc default (C8 (bg0 w)))] [(48, .box World.zero),(32, .box (bWn w (C8 (bg0 w)).length).1.enc),(6, .arr 5 (A8 Api.Event.enc default (bWn w (C8 (bg0 w)).length).2))] (C3 [(1, .share, .ptr 32 0 0 1),(2, .share, .ptr 48 0 0 1),(6, .share, .sl 6 0 (bWn w 0).2.length (bWn w 0).2.length),(7, .share,A2 3 B0.enc default (C8 (bg0 w))),(29, .share,A2 3 B0.enc default (C8 (bg0 w))),(30, .share,sI ((C8 (bg0 w)).length)),(31, .share,sI (0:Nat))] [(48, .box World.zero),(32, .box (bWn w 0).1.enc),(6, .arr 5 (A8 Api.Event.enc default (bWn w 0).2))] (E0 hm ?_) (A29 ?_)) ?_
 ·generalize bWn w 0=s;simp only[go_sem,go_sem_proc];refine B8 [] [] ?_;simp only[go_sem,go_sem_proc]
 ·refine A9 hm (ι:= {k:Nat // k<=(C8 (bg0 w)).length}) (λk=> [(1, .share, .ptr 32 0 0 1),(2, .share, .ptr 48 0 0 1),(6, .share, .sl 6 0 (bWn w k.1).2.length (bWn w k.1).2.length),(7, .share,A2 3 B0.enc default (C8 (bg0 w))),(29, .share,A2 3 B0.enc default (C8 (bg0 w))),(30, .share,sI ((C8 (bg0 w)).length)),(31, .share,sI (k.1:Nat))]) (λk=> [(48, .box World.zero),(32, .box (bWn w k.1).1.enc),(6, .arr 5 (A8 Api.Event.enc default (bWn w k.1).2))]) (λk=>(C8 (bg0 w)).length-k.1) ⟨0,Nat.zero_le _⟩ ?_ ?_
  ·refine B8 [] [] ?_;simp only[go_sem,go_sem_proc]
  ·rintro⟨k,hk⟩;dsimp only;have hn:=D39 w k
   have hl:=D9o hw hf k hk;obtain⟨hi1,hi2⟩:=D80 w k;have hfin:(C8 (bg0 w)).length<=k->bWn w k=bWn w (C8 (bg0 w)).length:=λh=>by rw[show k=(C8 (bg0 w)).length by omega]
   generalize bWn w k=s at hn hl hi1 hi2 hfin⊢;by_cases hlt:k<(C8 (bg0 w)).length;rotate_left
   ·simp only[go_sem,go_sem_proc];rw[if_neg (by omega),<-hfin (by omega)];refine B8 [] [] ?_;simp only[go_sem,go_sem_proc]
   have hx:=hbs _ (B6 (l:=C8 (bg0 w)) (i:=k) default hlt)
   have hsw:Wsm s.1:=by rw[hi2];exact B75 hg hi1
   have hux:=E8y s.1 ((C8 (bg0 w)).getD k default);simp only[go_sem,go_sem_proc];rw[if_pos (by omega)];generalize(C8 (bg0 w)).getD k default=x at hn hx hux⊢;refine⟨bE_,?_⟩;refine A0 (E1n s.1 x hsw hx.1) rfl ?_;simp only[go_sem,go_sem_proc,bW1]at hn⊢;have he:(List.map evP (wkR s.1 x).2).length<=60:=by rw[List.length_map];omega
   generalize List.map evP (wkR s.1 x).2=E at hn he⊢;refine⟨⟨by omega,by simp only[maxLen];omega⟩,?_⟩;refine A7 ⟨k+1,by omega⟩ (by show(C8 (bg0 w)).length-(k+1)<(C8 (bg0 w)).length-k;omega) ?_;simp only[hn];refine B8 [] [] ?_;simp only[go_sem,go_sem_proc];exact eE_
 rw[show C1e w=(bWn w (C8 (bg0 w)).length).1 from rfl,show C2f w=(bWn w (C8 (bg0 w)).length).2 from rfl];generalize bWn w (C8 (bg0 w)).length=s;refine E0 hm ?_;simp only[go_sem,go_sem_proc];refine V3 [.share, .share, .share] [(1,6)] [] ?_;simp only[go_sem,go_sem_proc]
def B0w(r:Request):List AV:= [.fn (.func A70) [] [.fptr r.enc]]
attribute [go_sem] B0w
def sqC(w g:Api.World)(I:List B0)(e q:Nat):List AV:= [sB true,sI w.Settings.TimeStep,sI w.Settings.Gravity.X,sI w.Settings.Gravity.Y,sI w.Settings.Iterations,sI w.Settings.SleepSteps,A2 20 Body.enc default w.Bodies,A2 24 Joint.enc default w.Joints,A2 7 Contact.enc default w.Contacts,A2 4 PairKey.enc default w.Overlaps,sI w.NextID,sI w.Frame,sB true,sI g.Settings.TimeStep,sI g.Settings.Gravity.X,sI g.Settings.Gravity.Y,sI g.Settings.Iterations,sI g.Settings.SleepSteps,A2 20 Body.enc default g.Bodies,A2 24 Joint.enc default g.Joints,A2 7 Contact.enc default g.Contacts,A2 4 PairKey.enc default g.Overlaps,sI g.NextID,sI g.Frame,A2 3 B0.enc default I, .sl 2 0 I.length I.length, .sl 3 0 e e, .sl 4 0 q q]
def sqO(w g:Api.World)(I:List B0)(E:List Api.Event)(q:List Request):List (Nat×A5):= [(1, .box (sqC w g I E.length q.length)),(2, .arr 1 ⟨I.length,λ_=> [sB false]⟩),(3, .arr 5 (A8 Api.Event.enc default E)),(4, .arr 1 (A8 B0w default q))]
attribute [go_sem] sqC sqO
theorem S4 {w g:Api.World}{I:List B0}{E:List Api.Event}{q:List Request}:okO (sqO w g I E q):=by
 refine⟨by simp[sqO],λp hp cs ee j hj=> ?_⟩;simp only[sqO,List.mem_cons,List.not_mem_nil,or_false]at hp;rcases hp with rfl |rfl |rfl |rfl
 ·simp only[A5.box.injEq]at ee;subst ee;simp[sqC,F4,AV.ids,A2]at hj;rcases hj with rfl |rfl |rfl <;> rfl
 all_goals cases ee
theorem A59 {w g:Api.World}{I:List B0}{E:List Api.Event}{q:List Request}: ∀a∈ [AV.ptr 1 0 0 1],∀i∈a.ids,(ofL (sqO w g I E q) i).isSome:=by intro a ha j hj;simp only[List.mem_cons,List.not_mem_nil,or_false]at ha;subst ha;simp[AV.ids]at hj;subst hj;rfl
theorem A5l(w g:Api.World)(I:List B0)(E:List Api.Event)(q:List Request):A1 Tryz.prog A8z [.ptr 1 0 0 1] (sqO w g I E q) (sB false) (sqO w g I E q):=by refine H8 hm A4 Tryz.func49 rfl rfl ?_;simp only[go_sem,go_sem_proc];refine V3 [.share] [] [] ?_;simp only[go_sem,go_sem_proc]
theorem C76(w g:Api.World)(I:List B0)(E:List Api.Event)(q:List Request):A1 Tryz.prog A8r [.ptr 1 0 0 1] (sqO w g I E q) (sI q.length) (sqO w g I E q):=by refine H8 hm A4 Tryz.func14 rfl rfl ?_;simp only[go_sem,go_sem_proc];refine E6 (A5l w g I E q) S4 S4 (by simp[sqO]) (by simp[sqO,sqC,upd,A2,go_sem,go_sem_proc]) (by simp[sqO]) A59 rfl ?_;simp only[go_sem,go_sem_proc];refine V3 [.share] [] [] ?_;simp only[go_sem,go_sem_proc]
theorem E19(w g:Api.World)(I:List B0)(E:List Api.Event)(q:List Request):A1 Tryz.prog A75 [.ptr 1 0 0 1] (sqO w g I E q) (sB true) (sqO w g I E q):=by refine H8 hm A4 Tryz.func17 rfl rfl ?_;simp only[go_sem,go_sem_proc];refine E6 (A5l w g I E q) S4 S4 (by simp[sqO]) (by simp[sqO,sqC,upd,A2,go_sem,go_sem_proc]) (by simp[sqO]) A59 rfl ?_;simp only[go_sem,go_sem_proc];refine V3 [.share] [] [] ?_;simp only[go_sem,go_sem_proc]
theorem E9u(w g:Api.World)(I:List B0)(E:List Api.Event)(q:List Request)(hw:Wsm w):A1 Tryz.prog A9w [.ptr 1 0 0 1] (sqO w g I E q) (.agg w.enc) (sqO w g I E q):=by refine D1u 11 [(2,some (some 11))] hm A4 Tryz.func16 rfl ?_;simp only[go_sem,go_sem_proc];refine E6 (A5l w g I E q) S4 S4 (by simp[sqO]) (by simp[sqO,sqC,upd,A2,go_sem,go_sem_proc]) (by simp[sqO]) A59 rfl ?_;simp only[go_sem,go_sem_proc];refine A0 (A7h w hw) rfl ?_;simp only[go_sem,go_sem_proc];refine V3 [.thaw] [] [] ?_;simp only[go_sem,go_sem_proc]
theorem F2e(w g:Api.World)(I:List B0)(E:List Api.Event)(q:List Request):A1 Tryz.prog A9y [.ptr 1 0 0 1] (sqO w g I E q) (.tup [sI 0,sI 23]) (sqO w g I E q):=by refine A7p hm A4 Tryz.func12 rfl rfl ?_;simp only[go_sem,go_sem_proc];refine E6 (A5l w g I E q) S4 S4 (by simp[sqO]) (by simp[sqO,sqC,upd,A2,go_sem,go_sem_proc]) (by simp[sqO]) A59 rfl ?_;simp only[go_sem,go_sem_proc];refine V3 [.share, .share] [] [] ?_;simp only[go_sem,go_sem_proc]
theorem E2g(x:Api.Input)(h:Body.sm x.Body):A1 Tryz.prog E2d [.agg x.enc] [] (.agg x.enc) []:=by refine L5 8 [(2,some (some 49))] hm A4 Tryz.func52 rfl ?_;simp only[go_sem,go_sem_proc];refine A0 (A7s x.Body h) rfl ?_;simp only[go_sem,go_sem_proc]
def A5n:Response:=⟨rZ,false,[],0,0⟩
theorem F4k(w g:Api.World)(I:List B0)(E:List Api.Event)(q:List Request)(r:Request)(hq:64<=q.length):A1 Tryz.prog A46 [.ptr 1 0 0 1, .agg r.enc] (sqO w g I E q) (.tup [.agg A5n.enc,sB false,sI 9]) (sqO w g I E q):=by refine C0i 53 [(4,some (some 11)),(5,none),(6,none)] hm A4 Tryz.func13 rfl ?_;simp only[go_sem,go_sem_proc];refine E6 (A5l w g I E q) S4 S4 (by simp[sqO]) (by simp[sqO,sqC,upd,A2,go_sem,go_sem_proc]) (by simp[sqO]) A59 rfl ?_;simp only[go_sem,go_sem_proc];rw[if_pos (by omega)];refine V3 [.thaw, .share, .share] [] [] ?_;simp only[go_sem,go_sem_proc,A5n,rZ];exact eE_
theorem D3a(w g:Api.World)(I:List B0)(E:List Api.Event)(q:List Request)(r:Request)(hq:q.length<64)(hr:Body.sm r.Input.Body):A1 Tryz.prog A46 [.ptr 1 0 0 1, .agg r.enc] (sqO w g I E q) (.tup [.agg A5n.enc,sB false,sI 0]) (sqO w g I E (q++ [r])):=by
 refine F2l 53 [(4,some (some 11)),(5,none),(6,none)] hm A4 Tryz.func13 rfl ?_;refine C3 [(0, .share, .ptr 1 0 0 1),(3, .share, .ptr 64 0 0 1),(4, .share, .ptr 80 0 0 1)] ([(64, .box r.enc),(80, .box Response.zero)]++sqO w g I E q) (E0 hm ?_) ?_
 ·simp only[go_sem,go_sem_proc,Response.zero];refine B8 [] [] ?_;simp only[go_sem,go_sem_proc]
 refine C3 [(0, .share, .ptr 1 0 0 1),(3, .share, .ptr 64 0 0 1),(4, .share, .ptr 80 0 0 1)] ([(64, .box r.enc),(80, .box Response.zero)]++sqO w g I E q) (E0 hm ?_) ?_
 ·simp only[go_sem,go_sem_proc];refine E6 (A5l w g I E q) S4 S4 (by simp[sqO]) (by simp[sqO,sqC,upd,A2,go_sem,go_sem_proc]) (by simp[sqO]) A59 rfl ?_;simp only[go_sem,go_sem_proc];refine B8 [] [] ?_;simp only[go_sem,go_sem_proc]
 refine C3 [(0, .share, .ptr 1 0 0 1),(3, .share, .ptr 64 0 0 1),(4, .share, .ptr 80 0 0 1)] ([(64, .box r.enc),(80, .box Response.zero)]++sqO w g I E q) (E0 hm ?_) ?_
 ·simp only[go_sem,go_sem_proc];refine B8 [] [] ?_;simp only[go_sem,go_sem_proc]
 refine C3 [(0, .share, .ptr 1 0 0 1),(3, .share, .ptr 64 0 0 1),(4, .share, .ptr 80 0 0 1)] ([(64, .box r.enc),(80, .box Response.zero)]++sqO w g I E q) (E0 hm ?_) ?_
 ·simp only[go_sem,go_sem_proc];rw[if_neg (by omega)];refine B8 [] [] ?_;simp only[go_sem,go_sem_proc]
 refine C3 [(0, .share, .ptr 1 0 0 1),(3, .thaw, .fptr r.enc),(4, .share, .ptr 80 0 0 1)] ([(80, .box Response.zero)]++sqO w g I E q) (E0 hm ?_) ?_
 ·simp only[go_sem,go_sem_proc];refine A0 (E2g r.Input hr) rfl ?_;simp only[go_sem,go_sem_proc];refine B8 [] [] ?_;simp only[go_sem,go_sem_proc,A0c]
 refine E0 hm ?_;simp only[go_sem,go_sem_proc];refine⟨bE_,?_⟩;refine V3 [.thaw, .share, .share] [] [] ?_;simp only[go_sem,go_sem_proc,A5n,rZ];exact⟨Q8 rfl,by rw[List.length_append];rfl,A1y r rfl rfl⟩
theorem A1t {w:Api.World}:okO [(1, .box (M5 w))]:=by refine⟨by simp,λp hp cs ee j hj=> ?_⟩;simp only[List.mem_cons,List.not_mem_nil,or_false]at hp;subst hp;simp only[A5.box.injEq]at ee;subst ee;simp[M5,F4,AV.ids,A2]at hj
theorem A81 {w:Api.World}: ∀a∈ [AV.ptr 1 0 0 1],∀i∈a.ids,(ofL [(1, .box (M5 w))] i).isSome:=by intro a ha j hj;simp only[List.mem_cons,List.not_mem_nil,or_false]at ha;subst ha;simp[AV.ids]at hj;subst hj;rfl
theorem C3r(w:Api.World):A1 Tryz.prog A75 [.ptr 1 0 0 1] [(1, .box (M5 w))] (sB false) [(1, .box (M5 w))]:=by refine H8 hm A4 Tryz.func17 rfl rfl ?_;simp only[go_sem,go_sem_proc,M5];refine E6 (A50 w) A1t A1t (by simp) (by simp[M5,upd,A2,go_sem,go_sem_proc]) (by simp) A81 rfl ?_;simp only[go_sem,go_sem_proc,M5];refine V3 [.share] [] [] ?_;simp only[go_sem,go_sem_proc]
theorem F09(w:Api.World):A1 Tryz.prog B1y [.ptr 1 0 0 1] [(1, .box (M5 w))] (.tup [.sc (.slice none 0 0), .sc (.slice none 0 0),sI 24]) [(1, .box (M5 w))]:=by refine A7p hm A4 Tryz.func18 rfl rfl ?_;simp only[go_sem,go_sem_proc,M5];refine E6 (A50 w) A1t A1t (by simp) (by simp[M5,upd,A2,go_sem,go_sem_proc]) (by simp) A81 rfl ?_;simp only[go_sem,go_sem_proc,M5];refine V3 [.share, .share, .share] [] [] ?_;simp only[go_sem,go_sem_proc]
theorem D3c(w:Api.World)(hw:Wsm w)(hf:Wfw w)(hv:F1 w=0)(hF:w.Frame≠1099511627776):A1 Tryz.prog A9y [.ptr 1 0 0 1] [(1, .box (M5 w))] (.tup [sI ((C8 (bg0 w)).length),sI 0]) (sqO w (C1e w) (C8 (bg0 w)) (C2f w) []):=by
 have hbl:=B0k (bg0 w)
 have hf1:(bg0 w).Bodies.length<=60:=hf.1
 have hB:=E1v w hw hf hv;generalize C1e w=g at hB⊢;generalize C2f w=E at hB⊢;generalize C8 (bg0 w)=I at hbl hB⊢;refine A7p hm A4 Tryz.func12 rfl rfl ?_;simp only[go_sem,go_sem_proc,M5];refine E6 (A50 w) A1t A1t (by simp) (by simp[M5,upd,A2,go_sem,go_sem_proc]) (by simp) A81 rfl ?_;simp only[go_sem,go_sem_proc,M5];rw[if_neg (by simpa using hF)];refine K0 ev_ K8 hB ?_;simp only[go_sem,go_sem_proc];refine⟨bE_,?_⟩;refine V3 [.share, .share] [(2,656),(3,400)] [4] ?_;simp only[go_sem,go_sem_proc]
def exR(w:Api.World)(r:Request):Api.World×Response:=if F1 w=0 then(w,⟨rZ,decide (0<((D8a w r.From r.Mask).length:Int)),D8a w r.From r.Mask,0,0⟩)else(zW,⟨rZ,false,[],0,18⟩)
theorem D6k(w:Api.World)(r:Request)(hw:Wsm w)(hk:r.Kind=2)(hq: ∀b∈w.Bodies,b.Fixtures.length<=1000)(hq2:w.Bodies.length<=1000):A1 Tryz.prog B6m [.agg w.enc, .agg r.enc] [] (.tup [.agg (exR w r).1.enc, .agg (exR w r).2.enc]) []:=by
 unfold exR;refine A62 81 [(4,some (some 11)),(5,some (some 11))] hm A4 Tryz.func51 rfl ?_;simp only[go_sem,go_sem_proc];refine A0 (R8 w hw) rfl ?_;simp only[go_sem,go_sem_proc];by_cases h1:F1 w=0;rotate_left
 ·rw[if_pos (by simpa using h1),if_neg h1];simp only[go_sem,go_sem_proc,zW,rZ];exact eE_
 rw[if_neg (by simpa using h1),if_pos h1];refine A0 (A7h w hw) rfl ?_;simp only[go_sem,go_sem_proc];rw[if_neg (by simp[hk]),if_pos (by simp[hk])];refine A0 (C2u w r.From r.Mask hw hq hq2) rfl ?_;simp only[go_sem,go_sem_proc];refine A0 (E10 (D8a w r.From r.Mask)) rfl ?_;simp only[go_sem,go_sem_proc]
theorem F6r(w:Api.World)(r:Request)(hw:Wsm w)(hk:r.Kind=2)(hq: ∀b∈w.Bodies,b.Fixtures.length<=1000)(hq2:w.Bodies.length<=1000):A1 Tryz.prog A70 [.agg w.enc, .fptr r.enc] [] (.tup [.agg (exR w r).1.enc, .agg (exR w r).2.enc]) []:=by have hE:=D6k w r hw hk hq hq2;generalize exR w r=x at hE⊢;refine A62 10 [(3,some (some 11)),(4,some (some 11))] hm A4 Tryz.func53 rfl ?_;simp only[go_sem,go_sem_proc];refine A0 hE rfl ?_;simp only[go_sem,go_sem_proc]
def PW(w:Api.World):Prop:=Wsm w/\Wfw w/\w.Joints.length<=20000/\w.Contacts.length<=230400/\ ∀c∈w.Contacts,c.Manifold.Points.length<=2
theorem E03(w:Api.World)(x:B0): ∀n,A15 (A6u w x n) w.Bodies
 |0=>A15.refl _
 |n+1=>by
  have ih:=E03 w x n
  have hn:A6u w x (n+1)=_:=E4 ..;rw[show itr _ n w.Bodies=A6u w x n from rfl]at hn;rw[hn];split
  ·refine(C4h ?_).trans ih;rw[ih.2];have h:=(E33 w x x.Bodies.length ((H3 w x).getD n 0).toNat).1;rw[<-h];rfl
  ·exact ih
theorem F9w(c:Contact)(rs:List Row)(base:Int):(cst c rs base).Manifold.Points.length=c.Manifold.Points.length:=E5k ..
theorem E3y(w:Api.World)(x:B0)(hw: ∀c∈w.Contacts,c.Manifold.Points.length<=2): ∀n,∀c∈A9t w x n,c.Manifold.Points.length<=2
 |0=>hw
 |n+1=>by
  have ih:=E3y w x hw n
  have hn:A9t w x (n+1)=_:=E4 ..;rw[show itr _ n w.Contacts=A9t w x n from rfl]at hn;rw[hn];intro c hc;rcases List.mem_or_eq_of_mem_set hc with hc |rfl
  ·exact ih c hc
  ·rw[F9w];by_cases h:(x.Contacts.getD n 0).toNat<w.Contacts.length
   ·exact hw _ (B6 default h)
   ·have e:w.Contacts.getD (x.Contacts.getD n 0).toNat default=default:=by
     generalize(x.Contacts.getD n 0).toNat=k at h⊢;simp only[List.getD];rw[List.getElem?_eq_none (by omega)];rfl
    rw[e];exact Nat.zero_le _
theorem G12 {w:Api.World}(h:PW w)(x:B0):PW (D5i w x):=by
 unfold D5i;split
 ·exact h
 split
 ·exact h
 obtain⟨h1,h2,h3,h4,h5⟩:=h;have hB:=E03 w x (H3 w x).length;obtain⟨g1,g2,g3,g4,g5,g6⟩:=B75 h1 hB;have hf:=C03 h2 hB
 have hc:=E3y w x h5 x.Contacts.length;exact⟨⟨g1,by show(A9r _ _ _).length<=_;rw[C4s];exact g2,by show(A9t _ _ _).length<=_;rw[C46];exact g3,g4,g5,λc hcc=>Nat.le_trans (hc c hcc) (by decide)⟩,hf,by show(A9r _ _ _).length<=_;rw[C4s];exact h3,by show(A9t _ _ _).length<=_;rw[C46];exact h4,hc⟩
def gN(g:Api.World)(I:List B0)(n:Nat):Api.World:=itr (λk s=>D5i s (I.getD k default)) n g
theorem E9k(g:Api.World)(I:List B0)(n:Nat):gN g I (n+1)=D5i (gN g I n) (I.getD n default):=E4 ..
theorem F0l {g:Api.World}(h:PW g)(I:List B0): ∀n,PW (gN g I n)
 |0=>h
 |n+1=>by rw[E9k];exact G12 (F0l h I n) _
def B05(w:Api.World):Api.World×List Api.Event:=if F1 w=0 then(E4b w,E3z w)else(zW,[])
theorem F0k(w:Api.World)(hw:Wsm w)(hf:Wfw w):A1 Tryz.prog D7o [.agg w.enc] [] (.tup [.agg (B05 w).1.enc,A2 5 Api.Event.enc default (B05 w).2]) []:=by
 unfold B05;by_cases hv:F1 w=0
 ·rw[if_pos hv];exact E6j w hw hf hv
 ·rw[if_neg hv];refine A62 78 [(2,some (some 11)),(3,none)] hm A4 Tryz.func58 rfl ?_;simp only[go_sem,go_sem_proc];refine A0 (R8 w hw) rfl ?_;simp only[go_sem,go_sem_proc];rw[if_pos (by simpa using hv)];simp only[go_sem,go_sem_proc,zW];exact eE_
theorem F10 {w:Api.World}(hw:Wsm w)(hf:Wfw w):Wsm (B05 w).1/\Wfw (B05 w).1:=by
 unfold B05;split
 ·obtain⟨hi1,hi2⟩:=B8j w (C8 w).length;have hW:=E4b.eq_1 w;unfold eW2 at hW;generalize eWn w (C8 w).length=s at hW hi1 hi2;have hsw:Wsm s.1:=by rw[hi2];exact B75 hw hi1
  have hsf:Wfw s.1:=by rw[hi2];exact C03 hf hi1
  have hbk:Wsm (bkW s.1)/\Wfw (bkW s.1):=by obtain⟨g1,g2,g3,g4,g5,g6⟩:=hsw;exact⟨⟨g1,Nat.le_trans (List.length_filter_le ..) g2,g3,g4,g5,g6⟩,hsf⟩
  generalize bkW s.1=V at hW hbk;dsimp only at hW;have hcf:A15 (V.Bodies.map H2) V.Bodies:=C57 (g:=H2) (λ_=>rfl) _
  have hU:Wsm (U1 V (V.Bodies.map H2)):=B75 hbk.1 hcf
  have hUf:Wfw (U1 V (V.Bodies.map H2)):=C03 hbk.2 hcf;generalize U1 V (V.Bodies.map H2)=U at hW hU hUf;dsimp only;rw[hW];obtain⟨g1,g2,g3,g4,g5,g6⟩:=hU;exact⟨⟨g1,g2,g3,Nat.le_trans (D9p U hUf) (by decide),g5,g6⟩,hUf⟩
 ·exact⟨F26,by exact⟨Nat.zero_le _,λb hb=>by cases hb⟩⟩
theorem F4m {w:Api.World}(hw:Wsm w)(hf:Wfw w)(hj:w.Joints.length<=20000):PW (C1e w):=by obtain⟨h1,h2⟩:=D80 w (C8 (bg0 w)).length;have hu:=D1j w hf;show PW (bWn w _).1;generalize bWn w (C8 (bg0 w)).length=s at h1 h2⊢;rw[h2];exact⟨B75 (C39 hw hf) h1,C03 (w:=bg0 w) hf h1,hj,hu.1,hu.2⟩
def okX(w:Api.World):Prop:=Wsm w/\Wfw w
def exS(q:List Request)(k:Nat)(s:Api.World×List Response):Api.World×List Response:=((exR s.1 (q.getD k default)).1,s.2++ [(exR s.1 (q.getD k default)).2])
def exN(q:List Request)(w:Api.World)(n:Nat):Api.World×List Response:=itr (exS q) n (w,[])
theorem E4m(q:List Request)(w:Api.World)(n:Nat):exN q w (n+1)=exS q n (exN q w n):=E4 ..
theorem G0z {w:Api.World}(h:okX w)(r:Request):okX (exR w r).1:=by
 unfold exR;split
 ·exact h
 ·exact⟨F26,⟨Nat.zero_le _,λb hb=>by cases hb⟩⟩
theorem E3c {w:Api.World}(h:okX w)(q:List Request): ∀n,okX (exN q w n).1/\(exN q w n).2.length=n
 |0=>⟨h,rfl⟩
 |n+1=>by obtain⟨h1,h2⟩:=E3c h q n;rw[E4m];refine⟨G0z h1 _,?_⟩;show((exN q w n).2++ [_]).length=_;rw[List.length_append,h2];rfl
theorem F6i {w:Api.World}(hw:Wsm w)(hf:Wfw w):(B05 w).2.length<=4000000:=by
 unfold B05;split
 ·have h1:=D1c hw hf (C8 w).length (Nat.le_refl _)
  have h2:=B0k w
  have h3:=hf.1
  have h4:=D94 (w:=(eWn w (C8 w).length).1) (l:=(eWn w (C8 w).length).1.Joints)
  have h5:(eWn w (C8 w).length).1.Joints=w.Joints:=by rw[(B8j w _).2];rfl
  have h6:=hw.2.1
  have l1:=B8i (ovL (eW2 w)) (λk=>w.Overlaps.contains k) 3
  have l2:=B8i w.Overlaps (λk=>(ovL (eW2 w)).contains k) 4
  have l3:(ovL (eW2 w)).length<=230400:=D9p _ (by
   obtain⟨hi1,hi2⟩:=B8j w (C8 w).length;have hsf:Wfw (eWn w (C8 w).length).1:=by rw[hi2];exact C03 hf hi1
   exact C03 (w:=bkW (eWn w (C8 w).length).1) hsf (C57 (g:=H2) (λ_=>rfl) _))
  have h7:=hw.2.2.2.1;show(E3z w).length<=_;unfold E3z C5n;simp only[List.flatten_cons,List.flatten_nil,List.append_nil,List.length_append];rw[h5]at h4⊢;omega
 ·exact Nat.zero_le _
theorem E5r(w g:Api.World)(I:List B0)(E:List Api.Event)(q:List Request)(hg:PW g)(hI: ∀x∈I,Ism x)(hIl:I.length<=1000)(hE:E.length<=3000000)(hq: ∀r∈q,r.Kind=2)(hql:q.length<=64):
  ∃E':List Api.Event,A1 Tryz.prog B1y [.ptr 1 0 0 1] (sqO w g I E q) (.tup [.sl 5 0 q.length q.length, .sl 3 0 E'.length E'.length,sI 0]) ([(1, .box (M5 (exN q (B05 (gN g I I.length)).1 q.length).1)),(5, .arr 11 (A8 Response.enc default (exN q (B05 (gN g I I.length)).1 q.length).2)),(3, .arr 5 (A8 Api.Event.enc default E')),(2, .arr 1 ⟨I.length,λ_=> [sB false]⟩),(4, .arr 1 (A8 B0w default q))]):=by
 refine⟨E++(B05 (gN g I I.length)).2,?_⟩;have hgn:=F0l hg I;refine G3d hm A4 Tryz.func18 rfl rfl ?_;refine C3 [(0, .share, .ptr 1 0 0 1)] (sqO w g I E q) (E0 hm ?_) ?_
 ·simp only[go_sem,go_sem_proc];refine B8 [] [] ?_;simp only[go_sem,go_sem_proc]
 refine C3 [(0, .share, .ptr 1 0 0 1)] (sqO w g I E q) (E0 hm ?_) ?_
 ·simp only[go_sem,go_sem_proc];refine E6 (A5l w g I E q) S4 S4 (by simp[sqO]) (by simp[sqO,sqC,upd,A2,go_sem,go_sem_proc]) (by simp[sqO]) A59 rfl ?_;simp only[go_sem,go_sem_proc];refine B8 [] [] ?_;simp only[go_sem,go_sem_proc]
 refine C3 [(0, .share, .ptr 1 0 0 1)] (sqO w g I E q) (E0 hm ?_) ?_
 ·simp only[go_sem,go_sem_proc];refine B8 [] [] ?_;simp only[go_sem,go_sem_proc]
 refine C3 [(0, .share, .ptr 1 0 0 1)] (sqO w (gN g I (I.length)) I E q) (C3 [(0, .share, .ptr 1 0 0 1),(25, .share, .sl 2 0 I.length I.length),(26, .share,sI I.length),(27, .share,sI (0:Nat))] (sqO w (gN g I (0)) I E q) (E0 hm ?_) (A29 ?_)) ?_
 ·rw[show gN g I 0=g from rfl];simp only[go_sem,go_sem_proc];refine B8 [] [] ?_;simp only[go_sem,go_sem_proc]
 ·refine A9 hm (ι:= {k:Nat // k<=I.length}) (λk=> [(0, .share, .ptr 1 0 0 1),(25, .share, .sl 2 0 I.length I.length),(26, .share,sI I.length),(27, .share,sI (k.1:Nat))]) (λk=>sqO w (gN g I (k.1)) I E q) (λk=>I.length-k.1) ⟨0,Nat.zero_le _⟩ ?_ ?_
  ·refine B8 [] [] ?_;simp only[go_sem,go_sem_proc]
  ·rintro⟨k,hk⟩;dsimp only;have hn:=E9k g I k
   have hp:=hgn k
   have hfin:I.length<=k->gN g I k=gN g I I.length:=λh=>by rw[show k=I.length by omega]
   generalize gN g I k=a at hn hp hfin⊢;by_cases hlt:k<I.length;rotate_left
   ·simp only[go_sem,go_sem_proc];rw[if_neg (by omega),<-hfin (by omega)];refine B8 [] [] ?_;simp only[go_sem,go_sem_proc]
   have hx:=hI _ (B6 (l:=I) (i:=k) default hlt);simp only[go_sem,go_sem_proc];rw[if_pos (by omega)];generalize I.getD k default=x at hn hx⊢;refine⟨bE_,bE_,?_⟩;refine A0 (C9w a x hp.1 hx (λ_=>hp.2.2.2.2) hp.2.2.1 hp.2.2.2.1) rfl ?_;generalize D5i a x=b at hn;simp only[go_sem,go_sem_proc];refine A7 ⟨k+1,by omega⟩ (by show I.length-(k+1)<I.length-k;omega) ?_;simp only[hn];refine B8 [] [] ?_;simp only[go_sem,go_sem_proc];exact eE_
 have hp:=hgn I.length;generalize gN g I I.length=a at hp⊢;have hEn:=F0k a hp.1 hp.2.1
 have hx0:=F10 hp.1 hp.2.1
 have hev:=F6i hp.1 hp.2.1;generalize B05 a=v at hEn hx0 hev⊢;refine C3 [(0, .share, .ptr 1 0 0 1),(7, .share, .ptr 128 0 0 1),(8, .share,A2 5 Api.Event.enc default v.2)] ([(128, .box v.1.enc)]++sqO w a I E q) (E0 hm ?_) ?_
 ·simp only[go_sem,go_sem_proc];refine A0 hEn rfl ?_;simp only[go_sem,go_sem_proc];refine B8 [] [] ?_;simp only[go_sem,go_sem_proc]
 refine C3 [(0, .share, .ptr 1 0 0 1),(7, .share, .ptr 128 0 0 1),(9, .share, .sl 3 0 (E++v.2).length (E++v.2).length)] ([(128, .box v.1.enc),(1, .box (sqC w a I E.length q.length)),(2, .arr 1 ⟨I.length,λ_=> [sB false]⟩),(3, .arr 5 (A8 Api.Event.enc default (E++v.2))),(4, .arr 1 (A8 B0w default q))]) (E0 hm ?_) ?_
 ·simp only[go_sem,go_sem_proc];refine⟨⟨by omega,by simp only[maxLen];omega⟩,?_⟩;refine B8 [] [] ?_;simp only[go_sem,go_sem_proc,List.length_append]
 refine C3 [(0, .share, .ptr 1 0 0 1),(7, .share, .ptr 128 0 0 1),(9, .share, .sl 3 0 (E++v.2).length (E++v.2).length),(10, .adopt, .sl 5 0 (exN q v.1 0).2.length (exN q v.1 0).2.length)] ([(128, .box (exN q v.1 0).1.enc),(1, .box (sqC w a I E.length q.length)),(2, .arr 1 ⟨I.length,λ_=> [sB false]⟩),(3, .arr 5 (A8 Api.Event.enc default (E++v.2))),(4, .arr 1 (A8 B0w default q)),(5, .arr 11 (A8 Response.enc default (exN q v.1 0).2))]) (E0 hm ?_) ?_
 ·rw[show exN q v.1 0=(v.1,[])from rfl];simp only[go_sem,go_sem_proc];refine B8 [] [5] ?_;simp only[go_sem,go_sem_proc]
 refine C3 [(0, .share, .ptr 1 0 0 1),(7, .share, .ptr 128 0 0 1),(9, .share, .sl 3 0 (E++v.2).length (E++v.2).length),(10, .share, .sl 5 0 (exN q v.1 q.length).2.length (exN q v.1 q.length).2.length)] ([(128, .box (exN q v.1 q.length).1.enc),(1, .box (sqC w a I E.length q.length)),(2, .arr 1 ⟨I.length,λ_=> [sB false]⟩),(3, .arr 5 (A8 Api.Event.enc default (E++v.2))),(4, .arr 1 (A8 B0w default q)),(5, .arr 11 (A8 Response.enc default (exN q v.1 q.length).2))]) (C3 [(0, .share, .ptr 1 0 0 1),(7, .share, .ptr 128 0 0 1),(9, .share, .sl 3 0 (E++v.2).length (E++v.2).length),(10, .share, .sl 5 0 (exN q v.1 0).2.length (exN q v.1 0).2.length),(67, .share, .sl 4 0 q.length q.length),(68, .share,sI q.length),(69, .share,sI (0:Nat))] ([(128, .box (exN q v.1 0).1.enc),(1, .box (sqC w a I E.length q.length)),(2, .arr 1 ⟨I.length,λ_=> [sB false]⟩),(3, .arr 5 (A8 Api.Event.enc default (E++v.2))),(4, .arr 1 (A8 B0w default q)),(5, .arr 11 (A8 Response.enc default (exN q v.1 0).2))]) (E0 hm ?_) (A29 ?_)) ?_
 ·generalize exN q v.1 0=s;simp only[go_sem,go_sem_proc];refine B8 [] [] ?_;simp only[go_sem,go_sem_proc]
 ·refine A9 hm (ι:= {k:Nat // k<=q.length}) (λk=> [(0, .share, .ptr 1 0 0 1),(7, .share, .ptr 128 0 0 1),(9, .share, .sl 3 0 (E++v.2).length (E++v.2).length),(10, .share, .sl 5 0 (exN q v.1 k.1).2.length (exN q v.1 k.1).2.length),(67, .share, .sl 4 0 q.length q.length),(68, .share,sI q.length),(69, .share,sI (k.1:Nat))]) (λk=> [(128, .box (exN q v.1 k.1).1.enc),(1, .box (sqC w a I E.length q.length)),(2, .arr 1 ⟨I.length,λ_=> [sB false]⟩),(3, .arr 5 (A8 Api.Event.enc default (E++v.2))),(4, .arr 1 (A8 B0w default q)),(5, .arr 11 (A8 Response.enc default (exN q v.1 k.1).2))]) (λk=>q.length-k.1) ⟨0,Nat.zero_le _⟩ ?_ ?_
  ·refine B8 [] [] ?_;simp only[go_sem,go_sem_proc]
  ·rintro⟨k,hk⟩;dsimp only;have hn:=E4m q v.1 k;obtain⟨hk1,hk2⟩:=E3c hx0 q k;have hfin:q.length<=k->exN q v.1 k=exN q v.1 q.length:=λh=>by rw[show k=q.length by omega]
   generalize exN q v.1 k=s at hn hk1 hk2 hfin⊢;by_cases hlt:k<q.length;rotate_left
   ·simp only[go_sem,go_sem_proc];rw[if_neg (by omega),<-hfin (by omega)];refine B8 [] [] ?_;simp only[go_sem,go_sem_proc]
   have hr:=hq _ (B6 (l:=q) (i:=k) default hlt);simp only[go_sem,go_sem_proc];rw[if_pos (by omega)];unfold exS at hn;have hC:=F6r s.1 (q.getD k default) hk1.1 hr (λb hb=>by have:=hk1.2.2 b hb;omega) (by have:=hk1.2.1;omega);generalize exR s.1 (q.getD k default)=y at hn hC;generalize q.getD k default=r at hn hr hC⊢;refine⟨bE_,?_⟩;refine A0 hC rfl ?_;simp only[go_sem,go_sem_proc];refine⟨⟨by omega,by simp only[maxLen];omega⟩,?_⟩;refine A7 ⟨k+1,by omega⟩ (by show q.length-(k+1)<q.length-k;omega) ?_;simp only[hn];refine B8 [] [] ?_;simp only[go_sem,go_sem_proc]
   (repeat' (with_reducible apply And.intro)) <;> first |exact A1y y.2 rfl rfl |(rw[List.length_append];rfl) |exact eE_
 obtain⟨_,hk2⟩:=E3c hx0 q q.length;generalize exN q v.1 q.length=s at hk2⊢;rw[hk2];refine E0 hm ?_;simp only[go_sem,go_sem_proc];refine V3 [.share, .share, .share] [] [] ?_;simp only[go_sem,go_sem_proc,M5]
theorem E6n(s:Settings):A09 s=A1v s:=by unfold A09 A1v;cases inR s.TimeStep 64 8192 <;> cases inR s.Gravity.X (-16777216) 16777216 <;> cases inR s.Gravity.Y (-16777216) 16777216 <;> cases inR s.Iterations 1 32 <;> cases inR s.SleepSteps 0 1048576 <;> rfl
theorem F1f(v:Vec):A5f v 16777216=(inR v.X (-16777216) 16777216&&inR v.Y (-16777216) 16777216):=rfl
theorem F1v(v:Vec):A5f v 536870911=(inR v.X (-536870911) 536870911&&inR v.Y (-536870911) 536870911):=rfl
theorem F0z(b:Body):A7j b=A5y b:=by unfold A7j A5y;simp only[F1f,F1v];generalize A0u b.Transform=t;cases t <;> simp <;> grind
theorem F5n(s:Shape)(h: ¬(s.Kind<1\/3<s.Kind)):Y7 s=A06 s:=by
 unfold Y7 A06;rw[Bool.eq_iff_iff];simp
 try grind
theorem F2z(s:Shape):(s.Vertices.any λx=>A1s x)=s.Vertices.any λv=>(!(inR v.X (-1048576) 1048576))||(!(inR v.Y (-1048576) 1048576)):=by congr 1;funext v;unfold A1s A34 inR;rw[Bool.eq_iff_iff];simp
theorem E1a(vs:List Vec):D3 (A1l vs) vs.length ()=if vs.any (λv=> !(A73 v))=true then .inr false else .inl ():=by rw[B0a (r:=false) (p:=λi=> !(A73 (vs.getD i default))) (λi=>by simp only[A1l];cases A73 (vs.getD i default) <;> rfl),B6e (p:=λv:Vec=> !(A73 v))]
theorem F01(vs:List Vec):D3 (A0t vs) vs.length ()=if vs.any (λv=> !(A73 v))=true then .inr false else .inl ():=E1a vs
theorem D0m(vs:List Vec):J0 vs=N0 vs:=by unfold J0 N0 A2o;rw[E1a,F01];have hL:U0 vs=A0l vs:=rfl;rw[hL];cases(vs.any λv=> !(A73 v)) <;> cases(decide ((vs.length:Int)<3)) <;> cases(decide (8<(vs.length:Int))) <;> rfl
theorem D3l(v:Vec):0<=A32 v:=by
 unfold A32 isq;split
 ·exact Int.le_refl _
 ·exact Int.natCast_nonneg _
theorem E9a(vs:List Vec): ∀n,(itr (P6 vs) n ([],0)).2=itr (A4s vs) n 0
 |0=>rfl
 |n+1=>by rw[E4,E4,<-E9a vs n];simp only[P6,A4s,B1i,Int.toNat_natCast]
theorem F9z(vs:List Vec):X7 vs=A6a vs:=by unfold X7 A6a;simp only[D0m,N9,E9a]
theorem E50(vs:List Vec): ∀n,itr (V9 vs) (n+1) 536870911=min 536870911 (itr (R1 vs) (n+1) (-1))/\0<=itr (R1 vs) (n+1) (-1)
 |0=>by
  have h:=D3l (L9 (vs.getD (((IntKind.i64.wrap (((0:Nat):Int)+1)).tmod (vs.length:Int)).toNat) default) (vs.getD 0 default));simp only[E4,H5,V9,R1];generalize A32 (L9 (vs.getD (((IntKind.i64.wrap (((0:Nat):Int)+1)).tmod (vs.length:Int)).toNat) default) (vs.getD 0 default))=e at h⊢;simp;refine⟨?_,h⟩
  grind
 |n+1=>by
  obtain⟨h1,h2⟩:=E50 vs n;rw[E4,E4 (R1 vs),h1];generalize itr (R1 vs) (n+1) (-1)=r at h2⊢;have h:=D3l (L9 (vs.getD (((IntKind.i64.wrap (((n+1:Nat):Int)+1)).tmod (vs.length:Int)).toNat) default) (vs.getD (n+1) default));simp only[V9,R1];generalize A32 (L9 (vs.getD (((IntKind.i64.wrap (((n+1:Nat):Int)+1)).tmod (vs.length:Int)).toNat) default) (vs.getD (n+1) default))=e at h⊢;have hr: ¬r<0:=by omega
  simp[hr];constructor
  ·grind
  ·grind
theorem F9r(vs:List Vec):decide (A0e vs<4096)=decide (A4d vs<4096):=by
 unfold A0e A4d;simp only[D0m];by_cases hc:N0 vs=false
 ·rw[if_pos hc,if_pos hc]
 ·rw[if_neg hc,if_neg hc];cases hn:vs.length with
  |zero=>exfalso;apply hc;unfold N0;rw[hn];rfl
  |succ n=>obtain⟨h1,h2⟩:=E50 vs n;rw[h1,decide_eq_decide];omega
theorem E73(s:Shape):D3 (A67 s) s.Vertices.length ()=if(s.Vertices.any λv=>(!(inR v.X (-1048576) 1048576))||(!(inR v.Y (-1048576) 1048576)))=true then .inr 6 else .inl ():=by rw[B0a (r:=(6:Int)) (p:=λi=>(!(inR (s.Vertices.getD i default).X (-1048576) 1048576))||(!(inR (s.Vertices.getD i default).Y (-1048576) 1048576))) (λi=>rfl),B6e (p:=λv:Vec=>(!(inR v.X (-1048576) 1048576))||(!(inR v.Y (-1048576) 1048576)))]
theorem F5h(s:Shape):E7 s=A7u s:=by
 unfold E7 A7u;simp only[F2z,E73,D0m,F9z,F9r];by_cases hk:((decide (s.Kind<1))||(decide (3<s.Kind)))=true
 ·rw[if_pos hk,if_pos hk]
 ·rw[if_neg hk,if_neg hk,F5n s (by simpa using hk)];split
  ·rfl
  ·by_cases ha:(s.Vertices.any λv=>(!(inR v.X (-1048576) 1048576))||(!(inR v.Y (-1048576) 1048576)))=true
   ·rw[if_pos ha,if_pos ha]
   ·rw[if_neg ha,if_neg ha];simp only[];cases(s.Kind==3) <;> cases(s.Radius != 0) <;> simp
theorem E9p(f:Fixture):A1w f=A2f f:=by
 unfold A1w A2f;simp only[F5h];split
 ·rfl
 ·generalize inR f.Density 0 262144=a;generalize inR f.Friction 0 131072=b;generalize inR f.Restitution 0 65536=c;generalize inR f.Category 0 65535=d;generalize inR f.Mask 0 65535=e;generalize inR f.Group (-32) 32=g;cases a <;> cases b <;> cases c <;> cases d <;> cases e <;> cases g <;> rfl
theorem F7u(b:Body):A4i b=A0h b:=by
 unfold A4i A0h;have hL:A35 b=A25 b:=by funext i s;simp only[A35,A25,E9p]
 simp only[F0z,hL];split
 ·rfl
 split
 ·rfl
 split
 ·rfl
 cases D3 (A25 b) b.Fixtures.length ()with
 |inr r=>rfl
 |inl s=>
  simp only[A69,B19]
  grind
theorem F5e(v:Vec)(m:Int):N5 v m=X4 v m:=rfl
theorem F0e(j:Joint):((inR j.Lower (O5 j.Kind).1 (O5 j.Kind).2)&&(inR j.Upper (O5 j.Kind).1 (O5 j.Kind).2)&&(decide (j.Lower<=j.Upper)))=A0r j:=by unfold O5 A0r inR;by_cases h1:j.Kind=1 <;> by_cases h2:j.Kind=2 <;> simp[h1,h2] <;> grind
theorem E9z(j:Joint):L0 j=K1 j:=by
 unfold L0 K1;have hL:O9 j=N6 j:=rfl
 have hL2:O8 j=Q0 j:=rfl;rw[hL,hL2];simp only[F5e,<-F0e];cases D3 (N6 j) 4 () <;> cases D3 (Q0 j) 4 () <;> grind
theorem F6u(j:Joint):A3p j=X9 j:=by
 unfold A3p X9;simp only[E9z];split
 ·rfl
 rename_i hk;split
 ·rfl
 unfold A5q A45;have hk:j.Kind=1\/j.Kind=2\/j.Kind=3\/j.Kind=4\/j.Kind=5:=by simp at hk;omega
 rcases hk with hk |hk |hk |hk |hk <;> simp[hk] <;> grind
theorem F7e(j:Joint):D3 (N6 j) 4 ()=if((List.range 4).any (λi=> !(inR ([j.Impulses.I0,j.Impulses.I1,j.Impulses.I2,j.Impulses.I3].getD i 0) (-536870911) 536870911)))=true then .inr false else .inl ():=B0a (r:=false) (p:=λi=> !(inR ([j.Impulses.I0,j.Impulses.I1,j.Impulses.I2,j.Impulses.I3].getD i 0) (-536870911) 536870911)) (λi=>by simp only[N6];cases inR ([j.Impulses.I0,j.Impulses.I1,j.Impulses.I2,j.Impulses.I3].getD i 0) (-536870911) 536870911 <;> rfl) 4
theorem G3q(j:Joint):D3 (Q0 j) 4 ()=if((List.range 4).any (λi=> !(inR ([j.Impulses.I0,j.Impulses.I1,j.Impulses.I2,j.Impulses.I3].getD i 0) (-536870911) 536870911)))=true then .inr false else .inl ():=F7e j
theorem E0t {j:Joint}(h:X9 j=0):1<=j.ID/\1<=j.BodyB/\(j.Kind=5->j.BodyA=0)/\(j.Kind≠5->1<=j.BodyA):=by
 unfold X9 at h;split at h
 ·cases h
 simp only[]at h;split at h
 ·cases h
 rename_i hr;split at h
 ·cases h
 rename_i hb;have hid:1<=j.ID:=by unfold K1 at hr;rw[F7e,G3q]at hr;revert hr;generalize(List.range 4).any (λi=> !(inR ([j.Impulses.I0,j.Impulses.I1,j.Impulses.I2,j.Impulses.I3].getD i 0) (-536870911) 536870911))=q;cases q <;> simp[inR] <;> grind
 unfold inR at hb;refine⟨hid,?_⟩
 grind
theorem F8q(w:Api.World){j:Joint}(hj:X9 j=0):A1u w j=A4h w j:=by
 obtain⟨_,h1,h2,h3⟩:=E0t hj;unfold A1u A4h;simp only[];have hb:(j.BodyB==0)=false:=by simp;omega
 rw[hb];by_cases hk:j.Kind=5
 ·simp[hk,h2 hk]
 ·have ha:(j.BodyA==0)=false:=by have:=h3 hk;simp;omega
  have hk':(j.Kind==5)=false:=by simpa using hk
  rw[ha,hk'];cases decide (0<=H6 w j.BodyA) <;> cases decide (0<=H6 w j.BodyB) <;> rfl
theorem C1g {S R:Type}{f g:Nat->S->S ⊕ R}{s0:S}(h: ∀i s,(i=0->s=s0)->f i s=g i s): ∀n,D3 f n s0=D3 g n s0
 |0=>rfl
 |n+1=>by
  have ih:=C1g h n;simp only[D3,ih];cases hn:D3 g n s0 with
  |inr r=>rfl
  |inl s=>refine h n s λh0=> ?_;subst h0;simp only[D3]at hn;injection hn with hn;exact hn.symm
theorem F9k {b:Body}(h:A0h b=0):1<=b.ID:=by
 unfold A0h at h;split at h
 ·cases h
 simp only[]at h;split at h
 ·cases h
 rename_i hr;unfold A5y inR at hr
 grind
theorem F4f(w:Api.World):W7 w=A0m w:=by
 unfold W7 A0m;rw[C1g (f:=P8 w) (g:=T0 w)];intro i s hi;simp only[P8,T0,F7u];by_cases hv:A0h (w.Bodies.getD i default)=0
 ·have hid:=F9k hv
  by_cases h0:i=0
  ·have:=hi h0
   subst this;have e:decide ((w.Bodies.getD i default).ID<=0)=false:=by rw[decide_eq_false_iff_not];omega
   rw[e,Bool.and_false]
  ·have e:decide (0<(i:Int))=true:=by rw[decide_eq_true_iff];omega
   rw[e,Bool.true_and]
 ·have e:(A0h (w.Bodies.getD i default) != 0)=true:=by simpa using hv
  rw[e];simp
theorem F3q(w:Api.World):W6 w=A0k w:=by
 unfold W6 A0k;rw[C1g (f:=Q2 w) (g:=S9 w)];intro i s hi;simp only[Q2,S9,F6u];by_cases hv:X9 (w.Joints.getD i default)=0
 ·have hid:=(E0t hv).1
  rw[F8q w hv];by_cases h0:i=0
  ·have:=hi h0
   subst this;have e:decide ((w.Joints.getD i default).ID<=0)=false:=by rw[decide_eq_false_iff_not];omega
   rw[e,Bool.and_false]
  ·have e:decide (0<(i:Int))=true:=by rw[decide_eq_true_iff];omega
   rw[e,Bool.true_and]
 ·have e:(X9 (w.Joints.getD i default) != 0)=true:=by simpa using hv
  rw[e];simp
theorem F8n(x y:Int):H1 x y=if x<y then -1 else if y<x then 1 else 0:=by unfold H1 A0x;simp
theorem G1w(a b c d:Int):X3 [a,b,c,d]=if a≠0 then a else if b≠0 then b else if c≠0 then c else d:=by unfold X3;show(match D3 (A2y [a,b,c,d]) 4 ()with | .inr r=>r | .inl s1=>0)=_;simp only[D3,A2y];by_cases ha:a=0 <;> by_cases hb:b=0 <;> by_cases hc:c=0 <;> by_cases hd:d=0 <;> simp[ha,hb,hc,hd]
theorem F8c(a b:PairKey):A4u a b=A5b a b:=by
 unfold A4u Z4 A5b;simp only[G1w,F8n]
 grind
theorem F2n(k:PairKey):(!(A38 k))=(((((decide (k.BodyB<=k.BodyA))||(decide (k.FixtureA<0)))||(decide (3<k.FixtureA)))||(decide (k.FixtureB<0)))||(decide (3<k.FixtureB))):=by
 unfold A38;rw[Bool.eq_iff_iff];simp
 grind
theorem F4h(p k:PairKey):(((k.BodyA==p.BodyA)&&((k.FixtureA==p.FixtureA)&&((k.BodyB==p.BodyB)&&(k.FixtureB==p.FixtureB))))|| !(A5b p k))= !(A5b p k):=by
 unfold A5b
 grind
def F1n(k:PairKey):Int×Int×Int×Int:=(k.BodyA,k.FixtureA,k.BodyB,k.FixtureB)
theorem E0o(l:List PairKey): ∀n,n<=4194304->match D3 (K3 l) n (0,0,0,0)with
  | .inl s=>D3 (A2j l) n ()= .inl ()/\(0<n->s=F1n (l.getD (n-1) default))
  | .inr r=>D3 (A2j l) n ()= .inr r
 |0,_=>⟨rfl,λh=>absurd h (by omega)⟩
 |n+1,hb=>by
  have ih:=E0o l n (by omega);simp only[D3];cases hn:D3 (K3 l) n (0,0,0,0)with
  |inr r=>rw[hn]at ih;simp only[ih]
  |inl s=>
   rw[hn]at ih;obtain⟨h1,h2⟩:=ih;simp only[h1];have hwr:(IntKind.i64.wrap ((n:Int)-1)).toNat=n-1:=by rw[IntKind.wrap_i64];omega
   simp only[K3,A2j,hwr,F8c,F2n];by_cases h0:0<n
   ·have hs:=h2 h0
    subst hs;have e:decide (0<(n:Int))=true:=by rw[decide_eq_true_iff];omega
    have:=F4h (l.getD (n-1) default) (l.getD n default);simp only[F1n,e,Bool.true_and,this];split <;> rename_i heq <;> split at heq <;> simp_all [F1n]
   ·have e:decide (0<(n:Int))=false:=by rw[decide_eq_false_iff_not];omega
    simp only[e,Bool.false_and];split <;> rename_i heq <;> split at heq <;> simp_all [F1n]
theorem E4e(l:List PairKey)(h:l.length<=4194304):N3 l=T3 l:=by
 have:=E0o l l.length h;unfold N3 T3;cases hn:D3 (K3 l) l.length (0,0,0,0)with
 |inr r=>rw[hn]at this;rw[this]
 |inl s=>rw[hn]at this;rw[this.1]
theorem F15(l:List Int):A0p l=l.all λn=>inR n (-536870911) 536870911:=by
 unfold A0p A2s;induction l with
 |nil=>rfl
 |cons a l ih=>simp only[List.any_cons,List.all_cons,<-ih];cases inR a (-536870911) 536870911 <;> simp
theorem E7x(m:Manifold):D3 (A2t m) m.Points.length ()=if(m.Points.any λp=>J9 p)=true then .inr false else .inl ():=by
 rw[B0a (r:=false) (p:=λi=>J9 (m.Points.getD i default)),B6e (p:=λp:ContactPoint=>J9 p)];intro i;simp only[A2t,J9,F15,A2r,List.all_cons,List.all_nil,Bool.and_true];generalize m.Points.getD i default=p;have e:inR p.NormalImpulse 0 536870911=(!(decide (p.NormalImpulse<0))&&inR p.NormalImpulse (-536870911) 536870911):=by unfold inR;rw[Bool.eq_iff_iff];simp;grind
 rw[e]
 grind
theorem E6z(m:Manifold):G8 m=A1p m:=by
 unfold G8 A1p;rw[E7x];simp only[F15,A2r,List.all_cons,List.all_nil,Bool.and_true]
 grind
theorem F51(l:List Contact):A3u l=l.map λc=>c.Key:=by
 have h: ∀n,n<=l.length->itr (A12 l) n []=(l.take n).map λc=>c.Key:=by
  intro n;induction n with
  |zero=>intro _;rfl
  |succ n ih=>intro hn;rw[E4,ih (by omega),K9 default (by omega),List.map_append];rfl
 unfold A3u;simp only[h l.length (Nat.le_refl _),List.take_length]
theorem E27 {l:List PairKey}(h:T3 l=true): ∀k∈l,0<=k.FixtureA/\0<=k.FixtureB:=by
 unfold T3 at h;rw[B0a (r:=false) (p:=λi=>((((((decide ((l.getD i default).BodyB<=(l.getD i default).BodyA))||(decide ((l.getD i default).FixtureA<0)))||(decide (3<(l.getD i default).FixtureA)))||(decide ((l.getD i default).FixtureB<0)))||(decide (3<(l.getD i default).FixtureB)))||((decide (0<(i:Int)))&&(!(A5b (l.getD (IntKind.i64.wrap ((i:Int)-1)).toNat default) (l.getD i default)))))) (λi=>rfl)]at h;intro k hk;obtain⟨i,hi,rfl⟩:=List.getElem_of_mem hk;generalize hx:(List.range l.length).any _=A at h;cases A with
 |true=>cases h
 |false=>
  rw[List.any_eq_false]at hx;have:=hx i (List.mem_range.2 hi)
  have hg:l.getD i default=l[i]:=by simp[List.getD,hi]
  rw[hg]at this
  grind
theorem D3r(w:Api.World)(l:List PairKey)(h: ∀k∈l,0<=k.FixtureA/\0<=k.FixtureB):A19 w l= !(l.any (A9v w)):=by
 unfold A19;rw[B0a (r:=false) (p:=λi=>(!(A08 w (l.getD i default).BodyA (l.getD i default).FixtureA))||(!(A08 w (l.getD i default).BodyB (l.getD i default).FixtureB))) (λi=>rfl),
  B6e (p:=λk:PairKey=>(!(A08 w k.BodyA k.FixtureA))||(!(A08 w k.BodyB k.FixtureB)))]
 have e:(l.any λk:PairKey=>(!(A08 w k.BodyA k.FixtureA))||(!(A08 w k.BodyB k.FixtureB)))=l.any (A9v w):=by
  induction l with
  |nil=>rfl
  |cons k l ih=>
   rw[List.any_cons,List.any_cons,ih λk hk=>h k (List.mem_cons_of_mem _ hk)];obtain⟨h1,h2⟩:=h k (List.mem_cons_self ..);congr 1;unfold A9v A4k A08;simp only[];have e1:decide (0<=k.FixtureA)=true:=decide_eq_true h1
   have e2:decide (0<=k.FixtureB)=true:=decide_eq_true h2;rw[e1,e2];cases decide (0<=H6 w k.BodyA) <;> cases decide (0<=H6 w k.BodyB) <;> simp
 rw[e];cases l.any (A9v w) <;> rfl
theorem F3l(w:Api.World):D3 (Q3 w) w.Contacts.length ()=if(w.Contacts.any λc=> !(G8 c.Manifold))=true then .inr false else .inl ():=by rw[B0a (r:=false) (p:=λi=> !(G8 (w.Contacts.getD i default).Manifold)),B6e (p:=λc:Contact=> !(G8 c.Manifold))];intro i;simp only[Q3,E6z];cases A1p (w.Contacts.getD i default).Manifold <;> rfl
theorem E7p(w:Api.World)(hc:w.Contacts.length<=4194304)(ho:w.Overlaps.length<=4194304):A8e w=R5 w:=by
 unfold A8e R5;rw[F3l];have hk:A3u w.Contacts=A5m w:=F51 _;simp only[hk];rw[E4e (A5m w) (by simp[A5m];omega),E4e w.Overlaps ho,List.any_append];have ha:(w.Contacts.all λc=>G8 c.Manifold)= !(w.Contacts.any λc=> !(G8 c.Manifold)):=by rw[List.all_eq_not_any_not]
 rw[ha];cases h1:T3 (A5m w)with
 |false=>simp
 |true=>
  cases h2:T3 w.Overlaps with
  |false=>simp
  |true=>rw[D3r w _ (E27 h1),D3r w _ (E27 h2)];generalize(A5m w).any (A9v w)=a;generalize w.Overlaps.any (A9v w)=b;generalize(w.Contacts.any λc=> !(G8 c.Manifold))=c;cases a <;> cases b <;> cases c <;> rfl
theorem E7r(w:Api.World):F1 w=A7k w:=by
 unfold F1 A7k;simp only[E6n,F4f,F3q];split
 ·rfl
 ·split
  ·rfl
  ·rename_i h;have h1:w.Contacts.length<=4194304:=by simp at h;omega
   have h2:w.Overlaps.length<=4194304:=by simp at h;omega
   rw[E7p w h1 h2]
theorem D84(w:Api.World): ∃b:Bool,(b=true->B4g w)/\A1 Tryz.prog E1w [.agg w.enc, .sc (.slice none 0 0)] [] (sB b) []:=by
 by_cases h:B4g w
 ·refine⟨decide (w.Contacts.length<=20/\w.Overlaps.length<=20),λ_=>h,?_⟩;refine en1 hm A4 Tryz.func8 rfl rfl ?_;simp only[go_sem,go_sem_proc];refine D5v hm 1 ?_;simp only[E5m,go_sem,go_sem_proc];rw[if_neg (by simp)];refine A0 (C6s w) rfl ?_;rw[decide_eq_true h];simp only[go_sem,go_sem_proc];refine A0 (E7g w h) rfl ?_;simp only[go_sem,go_sem_proc];by_cases hc:w.Contacts.length<=20/\w.Overlaps.length<=20
  ·rw[if_pos hc,decide_eq_true hc];rfl
  ·rw[if_neg hc,decide_eq_false hc]
 ·refine⟨false,(by simp),?_⟩;refine en1 hm A4 Tryz.func8 rfl rfl ?_;simp only[go_sem,go_sem_proc];refine D5v hm 1 ?_;simp only[E5m,go_sem,go_sem_proc];rw[if_neg (by simp)];refine A0 (C6s w) rfl ?_;rw[decide_eq_false h];simp only[go_sem,go_sem_proc];refine D55 (sB true) ?_;simp only[go_sem,go_sem_proc]
theorem F9e {w:Api.World}(h:B4g w):Wfw w:=⟨by have:=h.1.1;omega,λb hb=>by have:=(h.2.1 b hb).1;omega⟩
def C6h(p:Vec):Request:=⟨2,p,⟨0,0⟩,65535,⟨0,0,⟨0,0⟩,0,zB,⟨0,0,0,0,⟨0,0⟩,⟨0,0⟩,⟨0,0⟩,0,false,0,0,false,0,0,0,0,false,⟨0,0,0,0⟩⟩⟩⟩
def qz(p:Vec)(i:Nat):List Request:=List.replicate (min i 64) (C6h p)
theorem F2m(p:Vec)(i:Nat):(qz p i).length=min i 64:=List.length_replicate ..
theorem G25(p:Vec){i:Nat}(h:i<64):qz p (i+1)=qz p i++ [C6h p]:=by unfold qz;rw[show min (i+1) 64=i+1 by omega,show min i 64=i by omega];exact List.replicate_succ'
theorem G3p(p:Vec){i:Nat}(h:64<=i):qz p (i+1)=qz p i:=by unfold qz;rw[show min (i+1) 64=64 by omega,show min i 64=64 by omega]
theorem E37 {w:Api.World}(hw:Wsm w)(hf:Wfw w):(C2f w).length<=2100000:=by
 have h:=D9o hw hf (C8 (bg0 w)).length (Nat.le_refl _)
 have h2:=B0k (bg0 w)
 have h3:(bg0 w).Bodies.length<=60:=hf.1;show(bWn w _).2.length<=_;omega
def fdB:Body:=⟨1,3,⟨⟨0,65536⟩,0⟩,⟨0,-524288⟩,0,⟨0,0⟩,0,0,0,0,false,false,false,false,0,[⟨⟨1,32768,[⟨0,0⟩]⟩,65536,0,0,false,1,1,0⟩]⟩
def fd:Api.World:=⟨⟨8192,⟨0,0⟩,1,0⟩,[fdB],[],[],[],2,0⟩
def rq1:Request:=⟨2,⟨0,0⟩,⟨0,0⟩,1,(C6h ⟨0,0⟩).Input⟩
theorem fd1:F1 fd=0:=by kernel_rfl
theorem fd2:D8a fd ⟨0,0⟩ 1= []:=by kernel_rfl
theorem fd4:(C8 (bg0 fd)).length=1:=by kernel_rfl
def fdN:Api.World:=gN (C1e fd) (C8 (bg0 fd)) 1
theorem fd5:F1 fdN=0:=by kernel_rfl
def fdE:Api.World:=E4b fdN
theorem fd6:F1 fdE=0:=by kernel_rfl
theorem fd7:D8a fdE ⟨0,0⟩ 1= [1]:=by kernel_rfl
theorem fd8:fdE.Frame=1:=by kernel_rfl
theorem F5i {z:Nat}{g:Nat->List AV}{α:Type}{enc:α->List AV}{d x:α}(h:A01 (g 0) (enc x)):M4 (.dsl z 1 g) (.dsl z 1 (L7 enc d [x])):=by
 rw[A1z];refine⟨rfl,rfl,λi hi=> ?_⟩;obtain rfl:i=0:=by omega
 exact h
theorem D72 {a b:AV}{l m:List AV}(h:M4 a b)(h2:A01 l m):A01 (a::l) (b::m):=⟨h,h2⟩
theorem E1s:A1 Tryz.prog C7u [] [] (.agg fd.enc) []:=by
 refine L5 15 [(0,some (some 11))] hm A4 Tryz.func45 rfl ?_;simp only[go_sem,go_sem_proc,fd,fdB];refine⟨F5i ?_,Q8 rfl,Q8 rfl,Q8 rfl⟩
 (repeat(refine D72 (I7 _) ?_))
 refine D72 (F5i ?_) trivial
 (repeat(refine D72 (I7 _) ?_))
 refine D72 (F5i ?_) ?_
 ·exact L3 _
 ·exact L3 _
theorem F9b:A1 Tryz.prog E2b [A2 1 B9 0 [1]] [] (sB true) []:=by refine en1 hm A4 Tryz.func46 rfl rfl ?_;simp only[go_sem,go_sem_proc];exact eE_
theorem G3b:Wsm fd/\Wfw fd:=by
 refine⟨⟨by decide,by decide,by decide,by decide,λb hb=> ?_,λc hc=>by cases hc⟩,by decide,λb hb=> ?_⟩
 ·rw[show b=fdB from List.mem_singleton.1 hb];exact⟨by decide,λf hf=>by rw[List.mem_singleton.1 hf];show(1:Nat)<=_;decide⟩
 ·rw[show b=fdB from List.mem_singleton.1 hb];decide
theorem D8o(ρ:Nat->Nat)(w:Api.World):A7v ρ (M5 w)=M5 w:=by simp[M5,A7v,AV.ren,A2]
theorem F8h(w:Api.World):F4 (M5 w)= []:=by simp[M5,F4,AV.ids,A2]
theorem E8x {w:Api.World}{n:Nat}{l:List Response}{E:List Api.Event}{q:List Request}:okO [(1, .box (M5 w)),(5, .arr 11 (A8 Response.enc default l)),(3, .arr 5 (A8 Api.Event.enc default E)),(2, .arr 1 ⟨n,λ_=> [sB false]⟩),(4, .arr 1 (A8 B0w default q))]:=by
 refine⟨by simp,λp hp cs ee j hj=> ?_⟩;simp only[List.mem_cons,List.not_mem_nil,or_false]at hp;rcases hp with rfl |rfl |rfl |rfl |rfl
 ·simp only[A5.box.injEq]at ee;subst ee;simp[M5,F4,AV.ids,A2]at hj
 all_goals cases ee
theorem A9g:A1 Tryz.prog D77 [] [] (sB true) []:=by
 obtain⟨hw,hf⟩:=G3b;have hB:=D3c fd hw hf fd1 (by decide)
 have hpw:=F4m hw hf (by decide)
 have hI:=λx hx=>(B21 (C39 hw hf) x hx).1
 have hE:=E37 hw hf
 have hS1:=E3w fd rq1 (exR fd rq1) (D6k fd rq1 hw rfl (λb hb=>by have:=hf.2 b hb;omega) (by have:=hf.1;omega));rw[show exR fd rq1=(fd,⟨rZ,false,[],0,0⟩)by unfold exR;rw[if_pos fd1,show rq1.From=⟨0,0⟩from rfl,show rq1.Mask=1 from rfl,fd2];rfl]at hS1;obtain⟨E',hEnd⟩:=E5r fd (C1e fd) (C8 (bg0 fd)) (C2f fd) [rq1] hpw hI (by rw[fd4];decide) (by omega) (λr hr=>by rw[List.mem_singleton.1 hr];rfl) (by decide);have hpn:=F0l hpw (C8 (bg0 fd)) 1
 have hend:=F10 hpn.1 hpn.2.1;rw[fd4]at hEnd;rw[show gN (C1e fd) (C8 (bg0 fd)) 1=fdN from rfl]at hEnd hpn hend;have he:(B05 fdN).1=fdE:=by unfold B05;rw[if_pos fd5];rfl
 rw[he]at hEnd hend;have hx:exN [rq1] fdE [rq1].length=(fdE,[⟨rZ,true,[1],0,0⟩]):=by
  show exS [rq1] 0 (fdE,[])=_;unfold exS;rw[show(exR fdE ([rq1].getD 0 default))=(fdE,⟨rZ,true,[1],0,0⟩)by unfold exR;rw[if_pos fd6,show([rq1].getD 0 default).From=⟨0,0⟩from rfl,show([rq1].getD 0 default).Mask=1 from rfl,fd7];rfl]
  rfl
 have hx':exN [rq1] fdE 1=(fdE,[⟨rZ,true,[1],0,0⟩]):=hx;simp only[List.length_singleton,hx']at hEnd;have hF:=fd8;rw[fd4]at hB;generalize fdE=w2 at hEnd hend hF;generalize C1e fd=g at hB hEnd;generalize C2f fd=E at hB hE hEnd;generalize C8 (bg0 fd)=I at hB hEnd;have z1:((0:Int) != 0)=false:=rfl;refine F6q hm A4 Tryz.func10 rfl rfl ?_;refine C3 [] [] (E0 hm ?_) ?_
 ·simp only[go_sem,go_sem_proc];refine B8 [] [] ?_;simp only[go_sem,go_sem_proc]
 refine C3 [(1, .share, .ptr 1 0 0 1),(2, .share,sI 0)] [(1, .box (M5 fd))] (E0 hm ?_) ?_
 ·simp only[go_sem,go_sem_proc];refine A0 E1s rfl ?_;simp only[go_sem,go_sem_proc];refine K0 ev_ K8 (E0q fd hw fd1) ?_;simp only[go_sem,go_sem_proc,D8o];refine B8 [(1,288)] [] ?_;simp only[go_sem,go_sem_proc,M5]
 refine C3 [(1, .share, .ptr 1 0 0 1)] [(1, .box (M5 fd))] (E0 hm ?_) ?_
 ·simp only[go_sem,go_sem_proc,z1];refine B8 [] [] ?_;simp only[go_sem,go_sem_proc,M5]
 refine C3 [(1, .share, .ptr 1 0 0 1),(3, .share, .ptr 64 0 0 1),(4, .share,sB true)] [(64, .box A5n.enc),(1, .box (M5 fd))] (E0 hm ?_) ?_
 ·simp only[go_sem,go_sem_proc];refine E3 [true,false] [] hS1 (by simp) (by simp) (by simp[A6]) (by simp[go_sem]) ?_;simp only[go_sem,go_sem_proc,rq1,C6h,zB,A5n,rZ,D8o,F8h];refine⟨Q8 rfl,?_⟩;refine B8 [] [] ?_;simp only[go_sem,go_sem_proc,M5]
 refine C3 [(1, .share, .ptr 1 0 0 1),(3, .share, .ptr 64 0 0 1),(4, .share,sB true),(6, .share,sI 1),(7, .share,sI 0)] ([(64, .box A5n.enc)]++sqO fd g I E []) (E0 hm ?_) ?_
 ·simp only[go_sem,go_sem_proc];refine E6 hB A1t S4 (by simp[sqO]) (by simp[upd,go_sem,go_sem_proc]) (by simp[sqO,upd]) A81 rfl ?_;simp only[go_sem,go_sem_proc,A5n,rZ];refine B8 [] [] ?_;simp only[go_sem,go_sem_proc];exact eE_
 refine C3 [(1, .share, .ptr 1 0 0 1),(3, .share, .ptr 64 0 0 1),(4, .share,sB true),(6, .share,sI 1),(7, .share,sI 0),(9, .share,sB false),(10, .share,sI 0)] ([(64, .box A5n.enc)]++sqO fd g I E [rq1]) (E0 hm ?_) ?_
 ·simp only[go_sem,go_sem_proc,A5n,rZ];refine E3 [true,false] [] (D3a fd g I E [] rq1 (by decide) F0s) (by simp[sqO]) (by simp[sqO]) (by simp[sqO,A6]) (by simp[sqO,go_sem]) ?_;simp only[go_sem,go_sem_proc,rq1,C6h,zB,A5n,rZ];refine⟨Q8 rfl,?_⟩;refine B8 [] [] ?_;simp only[go_sem,go_sem_proc]
 refine C3 [(1, .share, .ptr 1 0 0 1),(3, .share, .ptr 64 0 0 1),(4, .share,sB true),(6, .share,sI 1),(7, .share,sI 0),(9, .share,sB false),(10, .share,sI 0),(11, .share,sI 1)] ([(64, .box A5n.enc)]++sqO fd g I E [rq1]) (E0 hm ?_) ?_
 ·simp only[go_sem,go_sem_proc,A5n,rZ];refine E6 (C76 fd g I E [rq1]) S4 S4 (by simp[sqO]) (by simp[sqO,sqC,upd,A2,go_sem,go_sem_proc]) (by simp[sqO]) A59 rfl ?_;simp only[go_sem,go_sem_proc];refine B8 [] [] ?_;simp only[go_sem,go_sem_proc];exact eE_
 refine C3 [(1, .share, .ptr 1 0 0 1),(3, .share, .ptr 64 0 0 1),(4, .share,sB true),(6, .share,sI 1),(7, .share,sI 0),(9, .share,sB false),(10, .share,sI 0),(11, .share,sI 1),(12, .share, .sl 5 0 1 1),(14, .share,sI 0)] [(64, .box A5n.enc),(1, .box (M5 w2)),(5, .arr 11 (A8 Response.enc default [⟨rZ,true,[1],0,0⟩])),(3, .arr 5 (A8 Api.Event.enc default E')),(2, .arr 1 ⟨1,λ_=> [sB false]⟩),(4, .arr 1 (A8 B0w default [rq1]))] (E0 hm ?_) ?_
 ·simp only[go_sem,go_sem_proc,A5n,rZ];refine E6 hEnd S4 E8x (by simp[sqO]) (by simp[sqO,sqC,upd,A2,go_sem,go_sem_proc]) (by simp[sqO,upd]) A59 rfl ?_;simp only[go_sem,go_sem_proc];refine B8 [] [] ?_;simp only[go_sem,go_sem_proc,M5,rZ];exact eE_
 refine C3 [(1, .share, .ptr 1 0 0 1),(3, .share, .ptr 64 0 0 1),(4, .share,sB true),(6, .share,sI 1),(7, .share,sI 0),(9, .share,sB false),(10, .share,sI 0),(11, .share,sI 1),(12, .share, .sl 5 0 1 1),(14, .share,sI 0)] [(64, .box A5n.enc),(1, .box (M5 w2)),(5, .arr 11 (A8 Response.enc default [⟨rZ,true,[1],0,0⟩])),(3, .arr 5 (A8 Api.Event.enc default E')),(2, .arr 1 ⟨1,λ_=> [sB false]⟩),(4, .arr 1 (A8 B0w default [rq1]))] (E0 hm ?_) ?_
 ·simp only[go_sem,go_sem_proc,A5n,rZ];refine B8 [] [] ?_;simp only[go_sem,go_sem_proc,M5]
 have y0:((0:Int)==0)=true:=rfl
 have y1:((1:Int)==1)=true:=rfl;refine E0 hm ?_;simp only[go_sem,go_sem_proc,A5n,rZ,y0,y1,List.getD_cons_zero,Bool.and_true];refine⟨⟨by decide,by decide⟩,⟨by decide,by decide⟩,?_⟩;refine A0 F9b rfl ?_;simp only[go_sem,go_sem_proc,Bool.and_true];refine E6 (E6o w2 hend.1) A1t A1t (by simp) (by simp[upd,go_sem,go_sem_proc]) (by simp) A81 rfl ?_;simp only[go_sem,go_sem_proc,hF,y1,Bool.and_true];refine E6 (C3r w2) A1t A1t (by simp) (by simp[upd,go_sem,go_sem_proc]) (by simp) A81 rfl ?_;simp only[go_sem,go_sem_proc,Bool.and_true]
end Go.Abs
end
