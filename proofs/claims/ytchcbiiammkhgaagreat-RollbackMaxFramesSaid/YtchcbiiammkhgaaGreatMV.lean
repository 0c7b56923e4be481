/- A part of the proof: contracts of functions that the statement reaches. -/
import Derived.Test.YtchcbiiammkhgaaGreatMU
set_option linter.unusedSimpArgs false
set_option linter.unusedVariables false
set_option linter.unnecessarySimpa false
set_option maxRecDepth 100000
set_option maxHeartbeats 2000000
noncomputable section
namespace Go.Abs
open Go.Proofs
open Api
def C6p(w:Api.World):Prop:=w.cC.length<=8192/\(∀b∈w.cC,E6e b)/\w.cD.length<=8192/\w.cB.length<=8192/\(∀c∈w.cB,c.cL.cP.length<=8)/\w.cT.length<=8192
def C63(w:Api.World):List Int:=D8 [w.cM.dZ]++N3 [w.cM.eG]++D8 [w.cM.eL,w.cM.eD,(w.cC.length:Int)]
def C60(w:Api.World):List Int:=C63 w++w.cC.flatMap B8g++D8 [(w.cD.length:Int)]
def C61(w:Api.World):List Int:=C60 w++w.cD.flatMap B8l++D8 [(w.cB.length:Int)]
def C62(w:Api.World):List Int:=C61 w++w.cB.flatMap B59++D8 [(w.cT.length:Int)]
def D8b(w:Api.World):List Int:=C62 w++w.cT.flatMap B4p++D8 [w.dJ,w.eK]
theorem E7w(w:Api.World):(C63 w).length<=60:=by
 have q0:(D8 [w.cM.dZ]).length<=10:=K4 _
 have q1:(N3 [w.cM.eG]).length<=20:=A08 _
 have q2:(D8 [w.cM.eL,w.cM.eD,(w.cC.length:Int)]).length<=30:=K4 _;unfold C63;simp only[List.length_append];omega
theorem F1p {w:Api.World}(h:C6p w): ∀c∈w.cB,(B59 c).length<=600:=λc hc=>by have:=F79 c;have:=h.2.2.2.2.1 c hc;omega
theorem E7t {w:Api.World}(h:C6p w):(C60 w).length<=737300000:=by
 have h1:=E7w w
 have h2:=A6d (f:=B8g) (c:=90000) (l:=w.cC) λb hb=>E7e (h.2.1 b hb)
 have h3:(D8 [(w.cD.length:Int)]).length<=10:=K4 _
 have:=h.1;unfold C60;simp only[List.length_append];omega
theorem E7u {w:Api.World}(h:C6p w):(C61 w).length<=739800000:=by
 have h1:=E7t h
 have h2:=A6d (f:=B8l) (c:=300) (l:=w.cD) λb _=>E8a b
 have h3:(D8 [(w.cB.length:Int)]).length<=10:=K4 _
 have:=h.2.2.1;unfold C61;simp only[List.length_append];omega
theorem E7v {w:Api.World}(h:C6p w):(C62 w).length<=744800000:=by
 have h1:=E7u h
 have h2:=A6d (f:=B59) (c:=600) (l:=w.cB) (F1p h)
 have h3:(D8 [(w.cT.length:Int)]).length<=10:=K4 _
 have:=h.2.2.2.1;unfold C62;simp only[List.length_append];omega
theorem E7x {w:Api.World}(h:C6p w):(D8b w).length<=745200000:=by
 have h1:=E7v h
 have h2:=A6d (f:=B4p) (c:=40) (l:=w.cT) λb _=>C7f b
 have h3:(D8 [w.dJ,w.eK]).length<=20:=K4 _
 have:=h.2.2.2.2.2;unfold D8b;simp only[List.length_append];omega
theorem F0u(l:List Int)(hb:10*l.length<=400000000000):cA_ B1g [.ptr 1 0 0 1,A4 1 C6 0 l] [(1, .box [.sc (.slice none 0 0)])] (.tup []) (eO (D8 l)):=by
 refine A26 hm A6 Tryz.func339 rfl rfl (sg_ ?_);refine B1 hm (ι:= {i:Nat // i<=l.length}) (λi=> [(0, .cA, .ptr 1 0 0 1),(6, .cA,A4 1 C6 0 l),(7, .cA,sI l.length),(8, .cA,sI i.1)])
  (λi=>eO ((l.take i.1).flatMap B0e)) (λi=>l.length-i.1) ⟨0,by omega⟩ ?_ ?_
 ·refine E0 [] [] ?_;simp only[List.take_zero,List.flatMap_nil,List.append_nil,go_sem];exact G8 rfl
 ·rintro⟨i,hi⟩;refine sg_ ?_;by_cases hlt:i<l.length
  ·rw[if_pos (by omega)];have hl:=B02 (f:=B0e) B6g (l.take i);rw[List.length_take]at hl;have hs:=A7g (f:=B0e) (l:=l) 0 hlt;refine⟨ok_,?_⟩;refine A0 (A7r ((l.take i).flatMap B0e) (l.getD i 0) (by omega)) rfl (sg_ ?_);refine A8 ⟨i+1,by omega⟩ (by show l.length-(i+1)<l.length-i;omega) (E0 [] [] ?_);simp only[hs,go_sem];exact(by rw[IntKind.wrap_i64];omega)
  ·rw[if_neg (by omega)];obtain rfl:i=l.length:=by omega
   refine B6 [] [] [] ?_;simp only[List.take_length,D8,go_sem]
theorem C11(w:Api.World)(hw:Wsm w)(hf:C6p w)(hv:B9 w=0):cA_ B1m [.agg w.enc] [] (.tup [A4 1 A2x 0 (E1m (D8b w)),sI 0]) []:=by
 refine enT hm A6 Tryz.func215 rfl rfl (sg_ ?_);refine A0 (I6 w hw) rfl (sg_ ?_);rw[if_neg (by simp[hv])];refine B5 [true,false] [(1,288)] (F0u [w.cM.dZ] (by simp)) (by simp[go_sem]) (by simp[go_sem]) (by simp[go_sem]) (by simp[go_sem]) ?_;simp only[L8,go_sem];refine⟨H1 (l:= [w.cM.dZ]) (λ_ _=>rfl) rfl rfl rfl,?_⟩;have q0:(D8 [w.cM.dZ]).length<=10:=K4 _
 have q1:(N3 [w.cM.eG]).length<=20:=A08 _
 have m0:=E7w w
 have m1:=E7t hf
 have m2:=E7u hf
 have m3:=E7v hf
 have m4:=E7x hf;obtain⟨f1,f2,f3,f4,f5,f6⟩:=hf;refine B5 [true,false] [(1,288)] (A66 (D8 [w.cM.dZ]) [w.cM.eG] (by simp only[List.length_append,List.length_cons,List.length_nil];omega)) (by simp[go_sem]) (by simp[go_sem]) (by simp[go_sem]) (by simp[go_sem]) ?_;simp only[L8,go_sem];refine⟨H1 (l:= [w.cM.eG]) (λ_ _=>rfl) rfl rfl rfl,?_⟩;refine B5 [true,false] [(1,288)] (R2 (D8 [w.cM.dZ]++N3 [w.cM.eG]) [w.cM.eL,w.cM.eD,(w.cC.length:Int)] (by simp only[List.length_append,List.length_cons,List.length_nil];omega)) (by simp[go_sem]) (by simp[go_sem]) (by simp[go_sem]) (by simp[go_sem]) ?_;simp only[L8,go_sem];refine⟨H1 (l:= [w.cM.eL,w.cM.eD,(w.cC.length:Int)]) (λ_ _=>rfl) rfl rfl rfl,?_⟩;have eH:D8 [w.cM.dZ]++(N3 [w.cM.eG]++D8 [w.cM.eL,w.cM.eD,(w.cC.length:Int)])=C63 w:=by unfold C63;rw[List.append_assoc]
 refine B1 hm (ι:= {i:Nat // i<=w.cC.length}) (λi=> [(1, .cA, .ptr 32 0 0 1),(4, .cA, .ptr 1 0 0 1),(43, .cA,A4 20 cF.enc dF_ w.cC),(44, .cA,sI w.cC.length),(45, .cA,sI i.1)])
  (λi=>(32, .box w.enc)::eO (C63 w++(w.cC.take i.1).flatMap B8g)) (λi=>w.cC.length-i.1) ⟨0,by omega⟩ ?_ ?_
 ·refine E0 [(1,288)] [] ?_;simp only[List.take_zero,List.flatMap_nil,List.append_nil,eH,go_sem]
  try trivial
 ·rintro⟨i,hi⟩;refine sg_ ?_;have hl:=A6d (f:=B8g) (c:=90000) (l:=w.cC.take i) (λb hb=>E7e (f2 b (List.mem_of_mem_take hb)));rw[List.length_take]at hl;by_cases hlt:i<w.cC.length
  ·rw[if_pos (by omega)];have hs:=A7g (f:=B8g) (l:=w.cC) dF_ hlt;refine⟨ok_,?_⟩;refine P7 (F4p (C63 w++(w.cC.take i).flatMap B8g) (w.cC.getD i dF_) (by simp only[List.length_append];omega) (f2 _ (B8 dF_ hlt))) (C5e _) rfl (by simp[go_sem]) (by simp[go_sem,AV.ids]) rfl (sg_ ?_);refine A8 ⟨i+1,by omega⟩ (by show w.cC.length-(i+1)<w.cC.length-i;omega) (E0 [] [] ?_);simp only[hs,go_sem];exact(by rw[IntKind.wrap_i64];omega)
  ·rw[if_neg (by omega)];obtain rfl:i=w.cC.length:=by omega
   rw[List.take_length]at hl;have e1:C63 w++(w.cC.flatMap B8g++D8 [(w.cD.length:Int)])=C60 w:=by unfold C60;rw[List.append_assoc]
   simp only[List.take_length,go_sem];refine B5 [true,false] [] (R2 (C63 w++w.cC.flatMap B8g) [(w.cD.length:Int)] (by simp only[List.length_append,List.length_cons,List.length_nil];omega)) (by simp[go_sem]) (by simp[go_sem]) (by simp[go_sem]) (by simp[go_sem]) ?_;simp only[L8,go_sem];refine⟨H1 (l:= [(w.cD.length:Int)]) (λ_ _=>rfl) rfl rfl rfl,?_⟩;refine B1 hm (ι:= {i:Nat // i<=w.cD.length}) (λi=> [(1, .cA, .ptr 32 0 0 1),(4, .cA, .ptr 1 0 0 1),(60, .cA,A4 24 cG.enc dF_ w.cD),(61, .cA,sI w.cD.length),(62, .cA,sI i.1)])
    (λi=>(32, .box w.enc)::eO (C60 w++(w.cD.take i.1).flatMap B8l)) (λi=>w.cD.length-i.1) ⟨0,by omega⟩ ?_ ?_
   ·refine E0 [] [] ?_;simp only[List.take_zero,List.flatMap_nil,List.append_nil,e1,go_sem]
    try trivial
   ·rintro⟨i,hi⟩;refine sg_ ?_;have hl:=A6d (f:=B8l) (c:=300) (l:=w.cD.take i) (λb _=>E8a b);rw[List.length_take]at hl;by_cases hlt:i<w.cD.length
    ·rw[if_pos (by omega)];have hs:=A7g (f:=B8l) (l:=w.cD) dF_ hlt;refine⟨ok_,?_⟩;refine P7 (F0v (C60 w++(w.cD.take i).flatMap B8l) (w.cD.getD i dF_) (by simp only[List.length_append];omega)) (C5e _) rfl (by simp[go_sem]) (by simp[go_sem,AV.ids]) rfl (sg_ ?_);refine A8 ⟨i+1,by omega⟩ (by show w.cD.length-(i+1)<w.cD.length-i;omega) (E0 [] [] ?_);simp only[hs,go_sem];exact(by rw[IntKind.wrap_i64];omega)
    ·rw[if_neg (by omega)];obtain rfl:i=w.cD.length:=by omega
     rw[List.take_length]at hl;have e2:C60 w++(w.cD.flatMap B8l++D8 [(w.cB.length:Int)])=C61 w:=by unfold C61;rw[List.append_assoc]
     simp only[List.take_length,go_sem];refine B5 [true,false] [] (R2 (C60 w++w.cD.flatMap B8l) [(w.cB.length:Int)] (by simp only[List.length_append,List.length_cons,List.length_nil];omega)) (by simp[go_sem]) (by simp[go_sem]) (by simp[go_sem]) (by simp[go_sem]) ?_;simp only[L8,go_sem];refine⟨H1 (l:= [(w.cB.length:Int)]) (λ_ _=>rfl) rfl rfl rfl,?_⟩;refine B1 hm (ι:= {i:Nat // i<=w.cB.length}) (λi=> [(1, .cA, .ptr 32 0 0 1),(4, .cA, .ptr 1 0 0 1),(77, .cA,A4 7 cY.enc dF_ w.cB),(78, .cA,sI w.cB.length),(79, .cA,sI i.1)])
      (λi=>(32, .box w.enc)::eO (C61 w++(w.cB.take i.1).flatMap B59)) (λi=>w.cB.length-i.1) ⟨0,by omega⟩ ?_ ?_
     ·refine E0 [] [] ?_;simp only[List.take_zero,List.flatMap_nil,List.append_nil,e2,go_sem]
      try trivial
     ·rintro⟨i,hi⟩;refine sg_ ?_;have hl:=A6d (f:=B59) (c:=600) (l:=w.cB.take i) (λc hc=>F1p ⟨f1,f2,f3,f4,f5,f6⟩ c (List.mem_of_mem_take hc));rw[List.length_take]at hl;by_cases hlt:i<w.cB.length
      ·rw[if_pos (by omega)];have hs:=A7g (f:=B59) (l:=w.cB) dF_ hlt;refine⟨ok_,?_⟩;refine P7 (E5n (C61 w++(w.cB.take i).flatMap B59) (w.cB.getD i dF_) (by simp only[List.length_append];omega) (by have:=f5 _ (B8 dF_ hlt);omega)) (C5e _) rfl (by simp[go_sem]) (by simp[go_sem,AV.ids]) rfl (sg_ ?_);refine A8 ⟨i+1,by omega⟩ (by show w.cB.length-(i+1)<w.cB.length-i;omega) (E0 [] [] ?_);simp only[hs,go_sem];exact(by rw[IntKind.wrap_i64];omega)
      ·rw[if_neg (by omega)];obtain rfl:i=w.cB.length:=by omega
       rw[List.take_length]at hl;have e3:C61 w++(w.cB.flatMap B59++D8 [(w.cT.length:Int)])=C62 w:=by unfold C62;rw[List.append_assoc]
       simp only[List.take_length,go_sem];refine B5 [true,false] [] (R2 (C61 w++w.cB.flatMap B59) [(w.cT.length:Int)] (by simp only[List.length_append,List.length_cons,List.length_nil];omega)) (by simp[go_sem]) (by simp[go_sem]) (by simp[go_sem]) (by simp[go_sem]) ?_;simp only[L8,go_sem];refine⟨H1 (l:= [(w.cT.length:Int)]) (λ_ _=>rfl) rfl rfl rfl,?_⟩;refine B1 hm (ι:= {i:Nat // i<=w.cT.length}) (λi=> [(1, .cA, .ptr 32 0 0 1),(4, .cA, .ptr 1 0 0 1),(94, .cA,A4 4 cR.enc dF_ w.cT),(95, .cA,sI w.cT.length),(96, .cA,sI i.1)])
        (λi=>(32, .box w.enc)::eO (C62 w++(w.cT.take i.1).flatMap B4p)) (λi=>w.cT.length-i.1) ⟨0,by omega⟩ ?_ ?_
       ·refine E0 [] [] ?_;simp only[List.take_zero,List.flatMap_nil,List.append_nil,e3,go_sem]
        try trivial
       ·rintro⟨i,hi⟩;refine sg_ ?_;have hl:=A6d (f:=B4p) (c:=40) (l:=w.cT.take i) (λb _=>C7f b);rw[List.length_take]at hl;by_cases hlt:i<w.cT.length
        ·rw[if_pos (by omega)];have hs:=A7g (f:=B4p) (l:=w.cT) dF_ hlt;refine⟨ok_,?_⟩;refine P7 (E4i (C62 w++(w.cT.take i).flatMap B4p) (w.cT.getD i dF_) (by simp only[List.length_append];omega)) (C5e _) rfl (by simp[go_sem]) (by simp[go_sem,AV.ids]) rfl (sg_ ?_);refine A8 ⟨i+1,by omega⟩ (by show w.cT.length-(i+1)<w.cT.length-i;omega) (E0 [] [] ?_);simp only[hs,go_sem];exact(by rw[IntKind.wrap_i64];omega)
        ·rw[if_neg (by omega)];obtain rfl:i=w.cT.length:=by omega
         rw[List.take_length]at hl;have e4:C62 w++(w.cT.flatMap B4p++D8 [w.dJ,w.eK])=D8b w:=by unfold D8b;rw[List.append_assoc]
         simp only[List.take_length,go_sem];refine B5 [true,false] [] (R2 (C62 w++w.cT.flatMap B4p) [w.dJ,w.eK] (by simp only[List.length_append,List.length_cons,List.length_nil];omega)) (by simp[go_sem]) (by simp[go_sem]) (by simp[go_sem]) (by simp[go_sem]) ?_;simp only[L8,go_sem];refine⟨H1 (l:= [w.dJ,w.eK]) (λ_ _=>rfl) rfl rfl rfl,?_⟩;simp only[e4,go_sem];refine A0 (E08 (D8b w) (by omega)) rfl ?_;simp only[go_sem]
def D8a(w:Api.World):List Int:=if B9 w=0 then E1m (D8b w)else []
def F8f(w:Api.World):Int:=if B9 w=0 then 0 else 18
theorem D5x(w:Api.World)(hw:Wsm w)(hf:C6p w):cA_ B1m [.agg w.enc] [] (.tup [A4 1 A2x 0 (D8a w),sI (F8f w)]) []:=by
 unfold D8a F8f;by_cases hv:B9 w=0
 ·rw[if_pos hv,if_pos hv];exact C11 w hw hf hv
 ·rw[if_neg hv,if_neg hv];refine enT hm A6 Tryz.func215 rfl rfl (sg_ ?_);refine A0 (I6 w hw) rfl (sg_ ?_);rw[if_pos (by simpa using hv)];exact G8 rfl
theorem F8h {w:Api.World}(hf:C6p w):(D8a w).length<=745200004:=by
 have:=E7x hf;unfold D8a;split
 ·unfold E1m;rw[List.length_append];show _+4<=_;omega
 ·simp
theorem F95 {s:Shape}(h:G5 s=0):s.cJ.length<=64:=by
 unfold G5 at h;split at h
 ·cases h
 dsimp only at h;split at h
 ·cases h
 rename_i h1;have h2:A0f s=true:=by simpa using h1
 unfold A0f at h2;split at h2
 ·have:(s.cJ.length:Int)=1:=by simpa using h2
  omega
 split at h2
 ·have:(s.cJ.length:Int)=2:=by simpa using h2
  omega
 ·simp only[Bool.and_eq_true,decide_eq_true_eq]at h2;omega
theorem F94 {b:cF}(h:W7 b=0)(f:dB)(hf:f∈b.cK):G5 f.Shape=0:=by
 unfold W7 at h;split at h
 ·cases h
 dsimp only at h;split at h
 ·cases h
 split at h
 ·cases h
 obtain⟨s',h1⟩: ∃s',J8 (W8 b) b.cK.length ()= .inl s':=by
  cases hk:J8 (W8 b) b.cK.length ()with
  |inl a=>exact⟨a,rfl⟩
  |inr r=>
   exfalso;rw[hk]at h;have key: ∀n r,J8 (W8 b) n ()= .inr r->r=13:=by
    intro n;induction n with
    |zero=>intro r h;cases h
    |succ n ih=>
     intro r h;simp only[J8]at h;cases hq:J8 (W8 b) n ()with
     |inr q=>rw[hq]at h;cases h;exact ih _ hq
     |inl a=>rw[hq]at h;unfold W8 at h;dsimp only at h;split at h <;> cases h;rfl
   have:=key _ _ hk;subst this;cases h
 obtain⟨i,hi,rfl⟩:=List.mem_iff_getElem.1 hf;have hg:b.cK.getD i dF_=b.cK[i]:=by simp only[List.getD,List.getElem?_eq_getElem hi,Option.getD_some]
 obtain⟨a,c,h2⟩:=E2z h1 i hi;unfold W8 at h2;dsimp only at h2;rw[hg]at h2;split at h2
 ·cases h2
 rename_i h3;have h4:A2c b.cK[i]=0:=by simpa using h3
 unfold A2c at h4;dsimp only at h4;split at h4
 ·rename_i h5;rw[h4]at h5;simp at h5
 ·rename_i h5;simpa using h5
theorem F93 {b:cF}(h:W7 b=0):E6e b:=⟨by have:=F2r h;omega,λf hf=>F95 (F94 h f hf)⟩
theorem G3p {w:Api.World}(hv:B9 w=0):C6p w:=by
 have h:=E3p hv;refine⟨by omega,λb hb=>F93 (E9k hv b hb),by omega,by omega,λc hc=> ?_,by omega⟩;have hc2:A8n w=true:=by
  unfold B9 at hv;dsimp only at hv;split at hv
  ·cases hv
  split at hv
  ·cases hv
  split at hv
  ·cases hv
  split at hv
  ·cases hv
  split at hv
  ·cases hv
  split at hv
  ·cases hv
  ·rename_i h2;simpa using h2
 unfold A8n at hc2;simp only[Bool.and_eq_true,List.all_eq_true]at hc2;have h1:=hc2.1.1.1 c hc;unfold N4 at h1;split at h1
 ·rename_i h2;simp only[Bool.or_eq_false_iff,decide_eq_false_iff_not]at h2;omega
 ·cases h1
def ofW(w:Api.World):Int:=if B9 w=0 then C2i ((D8a w).length:Nat) ((D8a w).map w64)else 0
theorem D3j(w:Api.World)(hw:Wsm w)(hv: ¬B9 w=0):cA_ B1m [.agg w.enc] [] (.tup [.sc (.slice none 0 0),sI 18]) []:=by
 refine enT hm A6 Tryz.func215 rfl rfl (st_ ?_);refine A0 (I6 w hw) rfl (st_ ?_);rw[if_pos (by simpa using hv)]
 all_goals exact eE_
theorem B5g(w:Api.World)(hw:Wsm w):cA_ C9q [.agg w.enc] [] (.sc (.int .u64 (ofW w))) []:=by
 by_cases hv:B9 w=0
 ·have hf:=G3p hv
  have hl:=F8h hf;refine en1 hm A6 Tryz.func127 rfl rfl (st_ ?_);refine A0 (D5x w hw hf) rfl (st_ ?_);unfold ofW F8f;rw[if_pos hv,if_pos hv,if_neg (by simp)];refine A0 (C99 (D8a w) (by omega)) rfl ?_;simp only[go_sem,go_sem_proc]
 ·refine en1 hm A6 Tryz.func127 rfl rfl (st_ ?_);refine A0 (D3j w hw hv) rfl (st_ ?_);unfold ofW;rw[if_neg hv,if_pos (by simp)]
theorem E8z(s:Ses)(l:List Api.Input)(x:Api.World)(hx:Wsm x)(h1:s.ins.length<=100000)(h2:s.hs.length<=100000):cA_ B11 [.ptr 1 0 0 1,A4 49 Api.Input.enc dF_ l, .agg x.enc] (rsO s) (.tup []) (rsO {s with ins:=s.ins++ [l],hs:=s.hs++ [ofW x]}):=by refine A26 hm A6 Tryz.func65 rfl rfl (st_ ?_);refine⟨⟨by omega,by simp only[maxLen];omega⟩,?_⟩;refine A0 (B5g x hx) rfl (st_ ?_);refine⟨⟨by omega,by simp only[maxLen];omega⟩,?_⟩;exact B6 [] [] [] se_
structure A4x (s:Ses):Prop where
 win:1<=s.win/\s.win<=64
 ins:s.ins.length<=4096
 hs:s.hs.length=s.ins.length
 ws:0<s.ws.length/\s.ws.length<=65
 sm: ∀x∈s.ws,Wsm x
 im: ∀l∈s.ins,A5r l
def Y5(s:Ses):Api.World:=s.ws.getD (s.ws.length-1) dF_
theorem A4x.last {s:Ses}(h:A4x s):Wsm (Y5 s):=h.sm _ (B8 dF_ (by have:=h.ws;omega))
theorem C5c {l:List Api.Input}(h:A5r l): ∀i,i<l.length->cF.sm (l.getD i dF_).cF:=λi hi=>h.2 _ (B8 (l:=l) (i:=i) dF_ hi)
theorem F1c {s:Ses}(o:Nat)(l:List Api.Input)(x:Api.World): ∀a∈ [AV.ptr 1 0 o 1,A4 49 Api.Input.enc dF_ l, .agg x.enc],∀i∈a.ids,(ofL (rsO s) i).isSome:=by
 intro a ha j hj;simp only[List.mem_cons,List.not_mem_nil,or_false]at ha;rcases ha with rfl |rfl |rfl
 ·simp[AV.ids]at hj;subst hj;rfl
 ·simp[AV.ids,A4]at hj
 ·simp[AV.ids,F0,World.enc,A4]at hj
theorem E67 {s:Ses}(o:Nat)(x:Api.World)(c:Int): ∀a∈ [AV.ptr 1 0 o 1, .agg x.enc,sI c],∀i∈a.ids,(ofL (rsO s) i).isSome:=by
 intro a ha j hj;simp only[List.mem_cons,List.not_mem_nil,or_false]at ha;rcases ha with rfl |rfl |rfl
 ·simp[AV.ids]at hj;subst hj;rfl
 ·simp[AV.ids,F0,World.enc,A4]at hj
 ·simp[AV.ids]at hj
theorem E8n {s:Ses}{old:List Api.World}:okO (C30 s old):=by
 refine⟨by simp[C30],λp hp cs ee j hj=> ?_⟩;simp only[C30,List.mem_cons,List.not_mem_nil,or_false]at hp;rcases hp with rfl |rfl |rfl |rfl |rfl
 ·simp only[A7.box.injEq]at ee;subst ee;simp[F0,AV.ids]at hj;rcases hj with rfl |rfl |rfl <;> rfl
 all_goals cases ee
theorem D2r(s:Ses)(l:List Api.Input)(h:A4x s)(hf:4096<=s.ins.length):cA_ L6 [.ptr 1 0 0 1,A4 49 Api.Input.enc dF_ l] (rsO s) (sI 9) (rsO s):=by
 have hw0:s.win≠0:=by have:=h.win;omega
 refine I7 hm A6 Tryz.func20 rfl rfl (st_ ?_);refine V6 (A0y s hw0) (A6m 0) (st_ ?_);refine V6 (A1h s) (A6m 0) (st_ ?_);rw[if_pos (by omega)];exact B6 [.cA] [] [] se_
theorem F0n(s:Ses)(l:List Api.Input)(h:A4x s)(hl:A5r l)(hf:s.ins.length<4096)(hc:I4 [] l≠0):cA_ L6 [.ptr 1 0 0 1,A4 49 Api.Input.enc dF_ l] (rsO s) (sI (I4 [] l)) (rsO s):=by
 have hw0:s.win≠0:=by have:=h.win;omega
 refine I7 hm A6 Tryz.func20 rfl rfl (st_ ?_);refine V6 (A0y s hw0) (A6m 0) (st_ ?_);refine V6 (A1h s) (A6m 0) (st_ ?_);rw[if_neg (by omega)];refine O7 (A2d [] l (by simp) hl.1 (C5c hl)) ?_;simp only[S3,go_sem,go_sem_proc];refine⟨G8 rfl,?_⟩;rw[if_pos (by simpa using hc)];exact B6 [.cA] [] [] se_
theorem F0o(s:Ses)(l:List Api.Input)(h:A4x s)(hl:A5r l)(hf:s.ins.length<4096)(hc:I4 [] l=0)(he:(V1 (Y5 s) l).2.2≠0):cA_ L6 [.ptr 1 0 0 1,A4 49 Api.Input.enc dF_ l] (rsO s) (sI ((V1 (Y5 s) l).2.2)) (rsO s):=by
 have hw0:s.win≠0:=by have:=h.win;omega
 have hL:=C2s s 0 h.ws.1 (by have:=h.ws;omega);rw[Nat.sub_zero,show s.ws.getD (s.ws.length-1) dF_=Y5 s from rfl]at hL;have hF:=B09 (Y5 s) l h.last hl;generalize V1 (Y5 s) l=r at he hF⊢;generalize Y5 s=x at hL hF;refine I7 hm A6 Tryz.func20 rfl rfl (st_ ?_);refine V6 (A0y s hw0) (A6m 0) (st_ ?_);refine V6 (A1h s) (A6m 0) (st_ ?_);rw[if_neg (by omega)];refine O7 (A2d [] l (by simp) hl.1 (C5c hl)) ?_;simp only[S3,go_sem,go_sem_proc];refine⟨G8 rfl,?_⟩;rw[if_neg (by simpa using hc)];refine V6 (hL) (D3t 3 0) (st_ ?_);refine A0 hF rfl (st_ ?_);rw[if_pos (by simpa using he)];exact B6 [.cA] [] [] se_
theorem D6f(s:Ses)(l:List Api.Input)(h:A4x s)(hl:A5r l)(hf:s.ins.length<4096)(hc:I4 [] l=0)(he:(V1 (Y5 s) l).2.2=0)(hp:(s.ws.length:Int)+1<=s.win+1):cA_ L6 [.ptr 1 0 0 1,A4 49 Api.Input.enc dF_ l] (rsO s) (sI 0) (rsO {s with ins:=s.ins++ [l],hs:=s.hs++ [ofW (V1 (Y5 s) l).1],ws:=s.ws++ [(V1 (Y5 s) l).1]}):=by
 have hw0:s.win≠0:=by have:=h.win;omega
 have hwin:=h.win
 have hL:=C2s s 0 h.ws.1 (by have:=h.ws;omega);rw[Nat.sub_zero,show s.ws.getD (s.ws.length-1) dF_=Y5 s from rfl]at hL;have hF:=B09 (Y5 s) l h.last hl
 have hx:=B9x h.last hl;generalize V1 (Y5 s) l=r at he hF hx⊢;generalize Y5 s=x at hL hF;have hA:=E8z s l r.1 hx (by omega) (by have:=h.hs;omega)
 have hP:=F4l {s with ins:=s.ins++ [l],hs:=s.hs++ [ofW r.1]} r.1 (s.win+1) (by have:=h.ws;show s.ws.length<=1000;omega) hp;refine I7 hm A6 Tryz.func20 rfl rfl (st_ ?_);refine V6 (A0y s hw0) (A6m 0) (st_ ?_);refine V6 (A1h s) (A6m 0) (st_ ?_);rw[if_neg (by omega)];refine O7 (A2d [] l (by simp) hl.1 (C5c hl)) ?_;simp only[S3,go_sem,go_sem_proc];refine⟨G8 rfl,?_⟩;rw[if_neg (by simpa using hc)];refine V6 (hL) (D3t 3 0) (st_ ?_);refine A0 hF rfl (st_ ?_);rw[if_neg (by simpa using he)];refine A0 (B27 l hl) rfl (st_ ?_);refine V6 (hA) (F1c 0 l r.1) (st_ ?_);have hw1:IntKind.i64.wrap (s.win+1)=s.win+1:=by rw[IntKind.wrap_i64];omega
 rw[hw1];refine V6 (hP) (E67 3 r.1 _) (st_ ?_);exact B6 [.cA] [] [] se_
theorem F0p(s:Ses)(l:List Api.Input)(h:A4x s)(hl:A5r l)(hf:s.ins.length<4096)(hc:I4 [] l=0)(he:(V1 (Y5 s) l).2.2=0)(hp: ¬(s.ws.length:Int)+1<=s.win+1):cA_ L6 [.ptr 1 0 0 1,A4 49 Api.Input.enc dF_ l] (rsO s) (sI 0) (C30 {s with ins:=s.ins++ [l],hs:=s.hs++ [ofW (V1 (Y5 s) l).1],ws:=(s.ws++ [(V1 (Y5 s) l).1]).drop 1} (s.ws++ [(V1 (Y5 s) l).1])):=by
 have hw0:s.win≠0:=by have:=h.win;omega
 have hwin:=h.win
 have hL:=C2s s 0 h.ws.1 (by have:=h.ws;omega);rw[Nat.sub_zero,show s.ws.getD (s.ws.length-1) dF_=Y5 s from rfl]at hL;have hF:=B09 (Y5 s) l h.last hl
 have hx:=B9x h.last hl;generalize V1 (Y5 s) l=r at he hF hx⊢;generalize Y5 s=x at hL hF;have hA:=E8z s l r.1 hx (by omega) (by have:=h.hs;omega)
 have hP:=F4m {s with ins:=s.ins++ [l],hs:=s.hs++ [ofW r.1]} r.1 (s.win+1) (by have:=h.ws;show s.ws.length<=1000;omega) hp;refine I7 hm A6 Tryz.func20 rfl rfl (st_ ?_);refine V6 (A0y s hw0) (A6m 0) (st_ ?_);refine V6 (A1h s) (A6m 0) (st_ ?_);rw[if_neg (by omega)];refine O7 (A2d [] l (by simp) hl.1 (C5c hl)) ?_;simp only[S3,go_sem,go_sem_proc];refine⟨G8 rfl,?_⟩;rw[if_neg (by simpa using hc)];refine V6 (hL) (D3t 3 0) (st_ ?_);refine A0 hF rfl (st_ ?_);rw[if_neg (by simpa using he)];refine A0 (B27 l hl) rfl (st_ ?_);refine V6 (hA) (F1c 0 l r.1) (st_ ?_);have hw1:IntKind.i64.wrap (s.win+1)=s.win+1:=by rw[IntKind.wrap_i64];omega
 rw[hw1];refine M1 (hP) B07 E8n (by simp[rsO,C30]) (by simp[rsO,rsC,upd,go_sem,go_sem_proc]) (by simp[rsO,C30,upd]) (E67 3 r.1 _) rfl (st_ ?_);exact B6 [.cA] [] [] se_
def rn0(win:Int):List (Nat×A7):= [(1, .box [.sc (.slice none 0 0), .sc (.slice none 0 0),sI 0, .sc (.slice none 0 0),sI win])]
def rn1(win:Int)(x:Api.World):List (Nat×A7):= [(1, .box [.sc (.slice none 0 0), .sc (.slice none 0 0),sI 0, .sl 4 0 1 1,sI win]),(4, .arr 11 (A9 World.enc dF_ [x]))]
attribute [go_sem] rn0 rn1
def C8d(w:Api.World)(win:Int):Ses:=⟨[],[],0,[w],win⟩
theorem F4n(x:Api.World)(win cap:Int)(hc:1<=cap):cA_ A2e [.ptr 1 0 3 1, .agg x.enc,sI cap] (rn0 win) (.tup []) (rn1 win x):=by
 refine A26 hm A6 Tryz.func59 rfl rfl (st_ ?_);refine⟨by simp only[maxLen];omega,?_⟩;rw[if_neg (by omega)];refine B6 [] [(4,224)] [] (st_ ?_);refine⟨rfl,rfl,λi hi=> ?_⟩;obtain rfl:i=0:=by have:i<1:=hi;omega
 exact H9 _
theorem E8y(w:Api.World)(win:Int)(hw:Wsm w)(hv:B9 w=0)(hn:1<=win/\win<=64):cA_ E14 [.agg w.enc,sI win] [] (.tup [.ptr 1 0 0 1,sI 0]) (rsO (C8d w win)):=by
 have hw1:IntKind.i64.wrap (win+1)=win+1:=by rw[IntKind.wrap_i64];omega
 refine A26 hm A6 Tryz.func19 rfl rfl (st_ ?_);refine A0 (I6 w hw) rfl (st_ ?_);rw[if_neg (by simpa using hv)];rw[if_neg (by split <;> simp <;> omega)];refine A0 (B1a w hw) rfl (st_ ?_);rw[hw1];refine B5 [true,false,true] [(1,304),(4,500)] (F4n w win (win+1) (by omega)) (by simp[rn0]) (by simp[rn1]) (by simp[rn1,D3]) (by simp[rn0,rn1,go_sem]) (st_ ?_)
 trace_state
 refine B6 [.cA, .cA] [(1,304),(4,500)] [2,3] ?_;simp only[go_sem,go_sem_proc,C8d]
 all_goals exact eE_
theorem F2w {P:Program}{m:Nat->Option A7}{f:FuncId}{avs:List AV}{b:Bool}{Q:ContR}{O:List (Nat×A7)}{r:AV}(hc:D5 P f avs O r O)(h:okO O)(hm: ∀p∈O,m p.1=some p.2)
  (ha: ∀a∈avs,∀i∈a.ids,(ofL O i).isSome)(hid: ∀p∈O,∃av∈avs,p.1∈B0c m av)(hK: @Ri Q b ⟨some r,[]⟩): @A21 P m f avs b Q:=by
 refine⟨⟨some r,[]⟩,λ_=> ?_,λh=>absurd rfl h,hK⟩;have:=R5.mk (P:=P) (m:=m) (avs.map λ_=>true) avs O r O id [] false hc (A84 ha)
  (λi o hi=>by rw[B14];exact hm _ (A0p h.1 hi))
  (λi cs hi j hj=>h.2 _ (A0p h.1 hi) cs rfl j hj) (λi hi=>hi) (λi hi=> .inl hi) (by simpa using h.1) (λe=>by cases e)
 have h2:R5 P m f avs ⟨some r,O⟩:=by simpa[AV.ren_id,C5g]using this
 exact .drop _ _ h2 hm hid
theorem A3v {P:Program}{m:Nat->Option A7}{f:FuncId}{b:Bool}{Q:ContR}{s:Ses}{o:Nat}{l:List AV}{r:AV}(hc:D5 P f (.ptr 1 0 o 1::l) (rsO s) r (rsO s))(hK: @Ri Q b ⟨some r,[]⟩)(hl:F0 l= []:=by rfl)(hm: ∀p∈rsO s,m p.1=some p.2:=by simp[rsO,rsC,upd,go_sem,go_sem_proc]): @A21 P m f (.ptr 1 0 o 1::l) b Q:=by
 have h1:m 1=some (.box (rsC s)):=hm (1, .box (rsC s)) (List.mem_cons_self ..);refine F2w hc B07 hm (λa ha i hi=> ?_) (λp hp=>⟨_,List.mem_cons_self ..,?_⟩) hK
 ·rcases List.mem_cons.1 ha with rfl |ha
  ·simp[AV.ids]at hi;subst hi;rfl
  ·have:i∈F0 l:=C0u.2 ⟨a,ha,hi⟩
   rw[hl]at this;cases this
 ·simp only[rsO,List.mem_cons,List.not_mem_nil,or_false]at hp;rcases hp with rfl |rfl |rfl |rfl <;> simp[B0c,AV.ids,h1,rsC,F0]
theorem A8q(s:Ses)(hw:1<=s.win/\s.win<=64)(hl:s.ins.length<=100000):cA_ A6k [.ptr 1 0 0 1] (rsO s) (sI (C7j s)) (rsO s):=by
 have hw0:s.win≠0:=by omega
 refine I7 hm A6 Tryz.func22 rfl rfl (st_ ?_);refine A3v (A0y s hw0) (st_ ?_);refine A3v (A1h s) (st_ ?_);refine B6 [.cA] [] [] ?_;simp only[go_sem,go_sem_proc,C7j]
 all_goals first |(rw[IntKind.wrap_i64,Int.max_def,Int.max_def];split <;> split <;> omega) |(rw[IntKind.wrap_i64,Int.max_def];split <;> split <;> omega) |exact eE_
theorem D5.own0 {P:Program}{f:FuncId}{z:Nat}{g g':Nat->List AV}{r:AV}(h:D5 P f [.dsl z 0 g] [] r []):D5 P f [.sl 1 0 0 0] [(1, .arr z ⟨0,g'⟩)] r [(1, .arr z ⟨0,g'⟩)]:=by
 refine⟨h.1,λG w ob vals hs hr=> ?_⟩;have hd:=R5.mk (P:=P) (m:=ofL [(1,A7.arr z ⟨0,g'⟩)]) (avs:= [.dsl z 0 g]) [true] [.dsl z 0 g] [] r [] id [] false h ⟨rfl,by simp[AV.ids],rfl⟩ (λi o hi=>by cases hi) (λi cs hi=>by cases hi) (λi hi=>hi) (λi hi=> .inl hi) (by simp) (λe=>by cases e)
 have hr':A55 G w ob [.dsl z 0 g] vals:=by
  refine⟨hr.1,λj av hj=> ?_⟩;have h0:=hr.2 0 _ rfl;cases j with
  |zero=>
   simp only[List.getElem?_cons_zero,Option.some.injEq]at hj;subst hj;generalize vals.getD 0 undef=v at h0⊢;cases h0 with
   |sl i hi hle hss hv=>
    have ho:=hs.own 1 _ i rfl hi;obtain⟨_,h2,h3⟩:=hv ho.2.2.1;cases hb:i.blk with
    |none=>
     rcases h2 hb with rfl |⟨a,rfl⟩
     ·exact .dslNil
     ·exact .dslE a 0
    |some b=>obtain⟨o,c,rfl,_⟩:=h3 b hb;exact .dslE _ c
  |succ j=>simp at hj
 refine(D53 hd hs hr').mono ?_;rintro e w' ⟨v,G',ob',rfl,h1,h2,h3,h4⟩;refine⟨v,G',ob',rfl,by simpa[wrm,A3u]using h1,?_,h4,h3⟩;have:=h2 _ rfl;rwa[AV.ren_id]at this
theorem D5j(l:List Api.Input)(hl:A5r l):cA_ B10 [A4 49 Api.Input.enc dF_ l] [] (.sl 1 0 l.length l.length) [(1, .arr 49 (A9 Api.Input.enc dF_ l))]:=by
 have hln:=hl.1;refine B0z hm A6 Tryz.func66 rfl rfl ?_;refine B2 [(0, .cA,A4 49 Api.Input.enc dF_ l)] [] (C7 hm ?_) ?_
 ·refine st_ ?_;exact B0 [] [] se_
 refine B2 [(0, .cA,A4 49 Api.Input.enc dF_ l),(3, .eZ, .sl 1 0 (l.take (0)).length (l.take (0)).length)] [(1, .arr 49 (A9 Api.Input.enc dF_ (l.take (0))))] (C7 hm ?_) ?_
 ·simp only[go_sem,go_sem_proc,List.take_zero,List.length_nil];exact B0 [] [1] se_
 refine B2 [(0, .cA,A4 49 Api.Input.enc dF_ l),(3, .cA, .sl 1 0 (l.take (l.length)).length (l.take (l.length)).length)] [(1, .arr 49 (A9 Api.Input.enc dF_ (l.take (l.length))))] (B2 [(0, .cA,A4 49 Api.Input.enc dF_ l),(3, .cA, .sl 1 0 (l.take (0)).length (l.take (0)).length),(6, .cA,A4 49 Api.Input.enc dF_ l),(7, .cA,sI l.length),(8, .cA,sI (0:Nat))] [(1, .arr 49 (A9 Api.Input.enc dF_ (l.take (0))))] (C7 hm ?_) (Y7 ?_)) ?_
 ·refine st_ ?_;exact B0 [] [] se_
 ·refine B1 hm (ι:= {k:Nat // k<=l.length}) (λk=> [(0, .cA,A4 49 Api.Input.enc dF_ l),(3, .cA, .sl 1 0 (l.take (k.1)).length (l.take (k.1)).length),(6, .cA,A4 49 Api.Input.enc dF_ l),(7, .cA,sI l.length),(8, .cA,sI (k.1:Nat))]) (λk=> [(1, .arr 49 (A9 Api.Input.enc dF_ (l.take (k.1))))]) (λk=>l.length-k.1) ⟨0,Nat.zero_le _⟩ ?_ ?_
  ·exact B0 [] [] se_
  ·rintro⟨k,hk⟩;dsimp only;have hln2:(l.take k).length=k:=by rw[List.length_take];omega
   by_cases hlt:k<l.length;rotate_left
   ·obtain rfl:k=l.length:=by omega
    refine st_ ?_;rw[if_neg (by omega)];exact B0 [] [] se_
   have hx:=hl.2 _ (B8 (l:=l) (i:=k) dF_ hlt)
   have hn:l.take (k+1)=l.take k++ [l.getD k dF_]:=L5 dF_ hlt;refine st_ ?_;rw[if_pos (by omega)];generalize l.getD k dF_=x at hn hx⊢;refine⟨bE_,?_⟩;refine A0 (C81 x hx) rfl (st_ ?_);have hby:(Tryz.prog.types[60]).bytes=384:=by kernel_rfl
   refine⟨⟨by first |omega |(simp only[hby];omega),by simp only[maxLen];omega⟩,?_⟩;refine A8 ⟨k+1,by omega⟩ (by show l.length-(k+1)<l.length-k;omega) ?_;simp only[hn];generalize l.take k=m at hln2⊢;refine B0 [] [] (st_ ?_)
   (repeat' (with_reducible apply And.intro)) <;> first |exact A1g x rfl rfl |(rw[List.length_append];rfl) |exact eE_
 rw[List.take_length];refine C7 hm (st_ ?_);exact B6 [.cA] [] [] se_
theorem F0m(l:List Api.World)(k:Nat)(hk:k<=l.length)(hp:0<l.length)(hl:l.length<=1048576):cA_ B37 [.sl 1 0 k l.length] [(1, .arr 11 (A9 World.enc dF_ l))] (.sl 2 0 k k) [(1, .arr 11 (A9 World.enc dF_ l)),(2, .arr 11 (A9 World.enc dF_ (l.take k)))]:=by
 have hq: ∀i,i<k->I8 World.enc dF_ (l.take k) i=I8 World.enc dF_ l i:=λi hi=>by simp only[I8,List.getD,List.getElem?_take,if_pos hi]
 have hlk:(l.take k).length=k:=by rw[List.length_take];omega
 refine I7 hm A6 Tryz.func72 rfl rfl (st_ ?_);refine⟨hp,?_⟩;refine⟨⟨by omega,by simp only[maxLen];omega⟩,?_⟩;refine B6 [.cA] [(2,96)] [] ?_;simp only[go_sem,go_sem_proc,hlk]
 (repeat' (with_reducible apply And.intro)) <;> first |exact⟨rfl,hlk.symm,λi hi=>by show W0 (I8 World.enc dF_ l i) (I8 World.enc dF_ (l.take k) i);rw[hq i hi];exact H9 _⟩ |(rw[U4];exact⟨rfl,by omega,λi hi=>by rw[hq i hi];exact H9 _⟩) |exact eE_
theorem E8x(l:List (List Api.Input))(k:Nat)(hk:k<=l.length)(hp:0<l.length)(hl:l.length<=1048576):cA_ C6k [.sl 1 0 k l.length] [(1, .arr 1 (A9 B00 dF_ l))] (.sl 2 0 k k) [(1, .arr 1 (A9 B00 dF_ l)),(2, .arr 1 (A9 B00 dF_ (l.take k)))]:=by
 have hq: ∀i,i<k->I8 B00 dF_ (l.take k) i=I8 B00 dF_ l i:=λi hi=>by simp only[I8,List.getD,List.getElem?_take,if_pos hi]
 have hlk:(l.take k).length=k:=by rw[List.length_take];omega
 refine I7 hm A6 Tryz.func73 rfl rfl (st_ ?_);refine⟨hp,?_⟩;refine⟨⟨by omega,by simp only[maxLen];omega⟩,?_⟩;refine B6 [.cA] [(2,96)] [] ?_;simp only[go_sem,go_sem_proc,hlk]
 (repeat' (with_reducible apply And.intro)) <;> first |exact⟨rfl,hlk.symm,λi hi=>by show W0 (I8 B00 dF_ l i) (I8 B00 dF_ (l.take k) i);rw[hq i hi];exact H9 _⟩ |(rw[U4];exact⟨rfl,by omega,λi hi=>by rw[hq i hi];exact H9 _⟩) |exact eE_
theorem F0k(l:List Int)(k:Nat)(hk:k<=l.length)(hp:0<l.length)(hl:l.length<=1048576):cA_ A4v [.sl 1 0 k l.length] [(1, .arr 1 (A9 A1n 0 l))] (.sl 2 0 k k) [(1, .arr 1 (A9 A1n 0 l)),(2, .arr 1 (A9 A1n 0 (l.take k)))]:=by
 have hq: ∀i,i<k->I8 A1n 0 (l.take k) i=I8 A1n 0 l i:=λi hi=>by simp only[I8,List.getD,List.getElem?_take,if_pos hi]
 have hlk:(l.take k).length=k:=by rw[List.length_take];omega
 refine I7 hm A6 Tryz.func69 rfl rfl (st_ ?_);refine⟨hp,?_⟩;refine⟨⟨by omega,by simp only[maxLen];omega⟩,?_⟩;refine B6 [.cA] [(2,96)] [] ?_;simp only[go_sem,go_sem_proc,hlk]
 (repeat' (with_reducible apply And.intro)) <;> first |exact⟨rfl,hlk.symm,λi hi=>by show W0 (I8 A1n 0 l i) (I8 A1n 0 (l.take k) i);rw[hq i hi];exact H9 _⟩ |(rw[U4];exact⟨rfl,by omega,λi hi=>by rw[hq i hi];exact H9 _⟩) |exact eE_
theorem F0l(l:List Int)(k:Nat)(hk:k<=l.length)(hp:0<l.length)(hl:l.length<=1048576):cA_ A4v [.sl 1 0 k l.length] [(1, .arr 1 (A9 A1n 0 l))] (A4 1 A1n 0 (l.take k)) [(1, .arr 1 (A9 A1n 0 l))]:=by
 have hq: ∀i,i<k->I8 A1n 0 (l.take k) i=I8 A1n 0 l i:=λi hi=>by simp only[I8,List.getD,List.getElem?_take,if_pos hi]
 have hlk:(l.take k).length=k:=by rw[List.length_take];omega
 refine I7 hm A6 Tryz.func69 rfl rfl (st_ ?_);refine⟨hp,?_⟩;refine⟨⟨by omega,by simp only[maxLen];omega⟩,?_⟩;refine B6 [.eQ] [] [] ?_;simp only[go_sem,go_sem_proc,hlk]
 (repeat' (with_reducible apply And.intro)) <;> first |exact⟨rfl,hlk.symm,λi hi=>by show W0 (I8 A1n 0 l i) (I8 A1n 0 (l.take k) i);rw[hq i hi];exact H9 _⟩ |(rw[U4];exact⟨rfl,by omega,λi hi=>by rw[hq i hi];exact H9 _⟩) |exact eE_
theorem F0j(l:List Int)(hl:l.length<=1048576):cA_ A4v [.sl 1 0 l.length l.length] [(1, .arr 1 (A9 A1n 0 l))] (A4 1 A1n 0 l) [(1, .arr 1 (A9 A1n 0 l))]:=by
 by_cases h:l= []
 ·subst h;exact D5.own0 ((F4j [] (by simp)).dataRes)
 ·have:=F0l l l.length (Nat.le_refl _) (List.length_pos_iff.2 h) hl
  rwa[List.take_length]at this
theorem F0q(s:Ses)(hw:s.win≠0)(hl:s.hs.length<=100000):cA_ A9o [.ptr 1 0 0 1] (rsO s) (A4 1 A1n 0 s.hs) (rsO s):=by refine I7 hm A6 Tryz.func28 rfl rfl (st_ ?_);refine A3v (A0y s hw) (st_ ?_);refine D9b [true] [(1,3)] (F0j s.hs (by omega)) (by simp) (by simp[D3]) (by simp[D3,B0c,AV.ids]) (st_ ?_);exact B6 [.eQ] [] [] se_
section
variable {P:Program} {N:Nat} {K:List Nat} {a b:ACode} {Q:Cont} {σ:St}
@[reducible] def E1q(P:Program)(N:Nat)(K:List Nat)(b:ACode)(Q:Cont):Cont:=⟨Out.then (Wp P N K b Q.q) Q.q⟩
theorem D7k(h: @Wpi P N K a (E1q P N K b Q) σ): @Wpi P N K (.seq a b) Q σ:=Wp.seq h
theorem D7i: @Qi (E1q P N K b Q) .normal σ= @Wpi P N K b Q σ:=rfl
theorem E2c {i:Nat}: @Qi (E1q P N K b Q) (.exit i) σ= @Qi Q (.exit i) σ:=rfl
theorem E5c: @Qi (E1q P N K b Q) .ret σ= @Qi Q .ret σ:=rfl
theorem E3u {x:ACode}{ι:Type}(T:ι->J6)(O:ι->List (Nat×A7))(μ:ι->Nat)(i0:ι)(h0:V9 K σ (T i0) (O i0))
  (h: ∀i,@Wpi P N K x (E0o K T O μ i Q) (A13 (T i) (O i))): @Wpi P N K (.loop x) Q σ:=Wp.loop T O μ i0 h0 h
end
attribute [go_sem] D7i E2c E5c
def rgO(ws:List Api.World):List (Nat×A7):= [(5, .box [.sl 6 0 ws.length ws.length]),(6, .arr 11 (A9 World.enc dF_ ws))]
def hyO(ins:List (List Api.Input))(hs:List Int)(re:Int):List (Nat×A7):= [(7, .box [.sl 8 0 ins.length ins.length, .sl 9 0 hs.length hs.length,sI re]),(8, .arr 1 (A9 B00 dF_ ins)),(9, .arr 1 (A9 A1n 0 hs))]
attribute [go_sem] rgO hyO
theorem D4k {ws:List Api.World}:okO (rgO ws):=by
 refine⟨by simp[rgO],λp hp cs ee j hj=> ?_⟩;simp only[rgO,List.mem_cons,List.not_mem_nil,or_false]at hp;rcases hp with rfl |rfl
 ·simp only[A7.box.injEq]at ee;subst ee;simp[F0,AV.ids]at hj;subst hj;rfl
 ·cases ee
theorem F2c {ins:List (List Api.Input)}{hs:List Int}{re:Int}:okO (hyO ins hs re):=by
 refine⟨by simp[hyO],λp hp cs ee j hj=> ?_⟩;simp only[hyO,List.mem_cons,List.not_mem_nil,or_false]at hp;rcases hp with rfl |rfl |rfl
 ·simp only[A7.box.injEq]at ee;subst ee;simp[F0,AV.ids]at hj;rcases hj with rfl |rfl <;> rfl
 all_goals cases ee
theorem B9e {O:List (Nat×A7)}{k o t:Nat}{l:List AV}(hk:(ofL O k).isSome=true)(hl:F0 l= []): ∀a∈AV.ptr k 0 o t::l,∀i∈a.ids,(ofL O i).isSome:=by
 intro a ha i hi;rcases List.mem_cons.1 ha with rfl |ha
 ·simp[AV.ids]at hi;subst hi;exact hk
 ·have:i∈F0 l:=C0u.2 ⟨a,ha,hi⟩
  rw[hl]at this;cases this
theorem F6w(ws:List Api.World)(k:Nat)(hk:k<ws.length)(hl:ws.length<=100000):cA_ A8u [.ptr 5 0 0 1,sI k] (rgO ws) (.agg (ws.getD (ws.length-1-k) dF_).enc) (rgO ws):=by
 refine C6y 19 [(4,some (some 11))] hm A6 Tryz.func64 rfl ?_;have e:IntKind.i64.wrap (IntKind.i64.wrap ((ws.length:Int)-1)-(k:Int))=((ws.length-1-k:Nat):Int):=by simp only[IntKind.wrap_i64];omega
 simp only[go_sem,go_sem_proc,e];refine⟨⟨by omega,by omega⟩,?_⟩;exact B6 [.eQ] [] [] se_
theorem F6x(ws:List Api.World)(x:Api.World)(cap:Int)(hl:ws.length<=1000)(hc:(ws.length:Int)+1<=cap):cA_ A2e [.ptr 5 0 0 1, .agg x.enc,sI cap] (rgO ws) (.tup []) (rgO (ws++ [x])):=by refine A26 hm A6 Tryz.func59 rfl rfl (st_ ?_);refine⟨⟨by omega,by simp only[maxLen];omega⟩,?_⟩;rw[if_neg (by omega)];exact B6 [] [] [] se_
theorem F9q(ins:List (List Api.Input))(hs:List Int)(re:Int)(l:List Api.Input)(x:Api.World)(hx:Wsm x)(h1:ins.length<=100000)(h2:hs.length<=100000):cA_ B11 [.ptr 7 0 0 1,A4 49 Api.Input.enc dF_ l, .agg x.enc] (hyO ins hs re) (.tup []) (hyO (ins++ [l]) (hs++ [ofW x]) re):=by refine A26 hm A6 Tryz.func65 rfl rfl (st_ ?_);refine⟨⟨by omega,by simp only[maxLen];omega⟩,?_⟩;refine A0 (B5g x hx) rfl (st_ ?_);refine⟨⟨by omega,by simp only[maxLen];omega⟩,?_⟩;exact B6 [] [] [] se_
def A73(s:Ses)(f:Nat)(l:List Api.Input)(i:Nat):List Api.Input:=if i=f then s.ins.getD i dF_++l else s.ins.getD i dF_
abbrev Acc:=List (List Api.Input)×List Int×List Api.World
def B60(ws:List Api.World):Api.World:=ws.getD (ws.length-1) dF_
def B6f(s:Ses)(f:Nat)(l:List Api.Input)(j:Nat)(a:Acc):Acc ⊕ Int:=if(V1 (B60 a.2.2) (A73 s f l (f+j))).2.2=0 then .inl (a.1++ [A73 s f l (f+j)],a.2.1++ [ofW (V1 (B60 a.2.2) (A73 s f l (f+j))).1],a.2.2++ [(V1 (B60 a.2.2) (A73 s f l (f+j))).1])else .inr (V1 (B60 a.2.2) (A73 s f l (f+j))).2.2
def B24(s:Ses)(f:Nat):Acc:=(s.ins.take f,s.hs.take f,s.ws.take (s.ws.length-(s.ins.length-f)))
def D17(s:Ses)(f:Nat)(l:List Api.Input):Acc ⊕ Int:=J8 (B6f s f l) (s.ins.length-f) (B24 s f)
def B04(s:Ses)(f:Nat):Int:=IntKind.i64.wrap (IntKind.i64.wrap (s.re+s.ins.length)-f)
def E2x(s:Ses)(f:Nat)(l:List Api.Input):Int:=match D17 s f l with | .inl _=>0 | .inr c=>c
def B8k(s:Ses)(f:Nat)(a:Acc):List (Nat×A7):= [(1, .box [.sl 8 0 a.1.length a.1.length, .sl 9 0 a.2.1.length a.2.1.length,sI (B04 s f), .sl 6 0 a.2.2.length a.2.2.length,sI s.win]),(2, .arr 1 (A9 B00 dF_ s.ins)),(3, .arr 1 (A9 A1n 0 s.hs)),(4, .arr 11 (A9 World.enc dF_ s.ws)),(6, .arr 11 (A9 World.enc dF_ a.2.2)),(8, .arr 1 (A9 B00 dF_ a.1)),(9, .arr 1 (A9 A1n 0 a.2.1))]
attribute [go_sem] B8k
def E2y(s:Ses)(f:Nat)(l:List Api.Input):List (Nat×A7):=match D17 s f l with | .inl a=>B8k s f a | .inr _=>rsO s
theorem F5i {e l:List Api.Input}(h:I4 e l=0)(he:e.length<=4096)(hl:l.length<=4096):e.length+l.length<=32:=by
 have key: ∀n r,J8 (A1c l) n ()= .inr r->r=20:=by
  intro n;induction n with
  |zero=>intro r h;cases h
  |succ n ih=>
   intro r h;rw[J8]at h;split at h
   ·unfold A1c at h;dsimp only at h;split at h
    ·injection h with h;exact h.symm
    ·cases h
   ·rename_i r' h';injection h with h;subst h;exact ih _ h'
 unfold I4 at h;split at h
 ·rename_i r h';have:=key _ _ h';omega
 ·rw[IntKind.wrap_i64]at h;split at h <;> omega
structure G6j (s:Ses) (f j:Nat) (a:Acc):Prop where
 i:a.1.length=f+j
 h:a.2.1.length=f+j
 w:a.2.2.length=s.ws.length-(s.ins.length-f)+j
 sm: ∀x∈a.2.2,Wsm x
 im: ∀x∈a.1,A5r x
theorem E36 {s:Ses}{f:Nat}{l:List Api.Input}(h:A4x s)(hl:A5r l)(hc:I4 (s.ins.getD f dF_) l=0){i:Nat}(hi:i<s.ins.length):A5r (A73 s f l i):=by
 have h1:=h.im _ (B8 dF_ hi);unfold A73;split
 ·rename_i e;subst e;have:=F5i hc h1.1 hl.1;refine⟨by rw[List.length_append];omega,λx hx=> ?_⟩;rcases List.mem_append.1 hx with hx |hx
  ·exact h1.2 x hx
  ·exact hl.2 x hx
 ·exact h1
theorem E8c {ws:List Api.World}(h: ∀x∈ws,Wsm x)(hp:0<ws.length):Wsm (B60 ws):=h _ (B8 dF_ (by omega))
theorem E62 {s:Ses}{f:Nat}{l:List Api.Input}(h:A4x s)(hl:A5r l)(hf:f<s.ins.length)(hc:I4 (s.ins.getD f dF_) l=0)(hw:s.ins.length-f<s.ws.length): ∀j a,j<=s.ins.length-f->J8 (B6f s f l) j (B24 s f)= .inl a->G6j s f j a
 |0,a,_,e=>by injection e with e;subst e;have:=h.hs;exact⟨by show(s.ins.take f).length=_;rw[List.length_take];omega,by show(s.hs.take f).length=_;rw[List.length_take];omega,by show(s.ws.take _).length=_;rw[List.length_take];omega,λx hx=>h.sm x (List.mem_of_mem_take hx),λx hx=>h.im x (List.mem_of_mem_take hx)⟩
 |j+1,a,hj,e=>by
  rw[J8]at e;split at e
  ·rename_i b hb;obtain⟨h1,h2,h3,h4,h5⟩:=E62 h hl hf hc hw j b (by omega) hb;have hi:=E36 h hl hc (i:=f+j) (by omega)
   have hs:=B9x (E8c h4 (by omega)) hi;unfold B6f at e;split at e
   ·injection e with e;subst e;refine⟨by simp[h1];omega,by simp[h2];omega,by simp[h3];omega,λx hx=> ?_,λx hx=> ?_⟩
    ·rcases List.mem_append.1 hx with hx |hx
     ·exact h4 x hx
     ·rw[List.mem_singleton.1 hx];exact hs
    ·rcases List.mem_append.1 hx with hx |hx
     ·exact h5 x hx
     ·rw[List.mem_singleton.1 hx];exact hi
   ·cases e
  ·cases e
theorem G44 {S R:Type}{f:Nat->S->S ⊕ R}{k:Nat}{s s':S}(h:J8 f k s= .inl s'):J8 f (k+1) s=f k s':=A1v h rfl
theorem F0s(s:Ses)(f:Nat)(l:List Api.Input)(h:A4x s)(hl:A5r l)(hf:f<s.ins.length)(ho:C7j s<=f)(hc:I4 (s.ins.getD f dF_) l=0)(hk:s.ins.length-f<s.ws.length)(hcap:(s.ws.length:Int)<=s.win+1):cA_ A1m [.ptr 1 0 0 1,sI (f:Nat),A4 49 Api.Input.enc dF_ l] (rsO s) (sI (E2x s f l)) (E2y s f l):=by
 have hx:=h.im _ (B8 dF_ hf)
 have hwl:=h.ws
 have hhl:=h.hs
 have hwin:=h.win
 have hA:=E62 h hl hf hc hk
 have hw0:s.win≠0:=by have:=h.win;omega
 have hil:=h.ins;refine B0z hm A6 Tryz.func33 rfl rfl ?_;refine B2 [(0, .cA, .ptr 1 0 0 1),(1, .cA,sI (f:Nat)),(2, .cA,A4 49 Api.Input.enc dF_ l)] (rsO s) (C7 hm ?_) ?_
 ·refine st_ ?_;exact B0 [] [] se_
 refine B2 [(0, .cA, .ptr 1 0 0 1),(1, .cA,sI (f:Nat)),(2, .cA,A4 49 Api.Input.enc dF_ l)] (rsO s) (C7 hm ?_) ?_
 ·refine st_ ?_;refine A3v (A0y s hw0) (st_ ?_);exact B0 [] [] se_
 refine B2 [(0, .cA, .ptr 1 0 0 1),(1, .cA,sI (f:Nat)),(2, .cA,A4 49 Api.Input.enc dF_ l),(7, .cA,sI s.ins.length)] (rsO s) (C7 hm ?_) ?_
 ·refine st_ ?_;refine A3v (A1h s) (st_ ?_);exact B0 [] [] se_
 refine B2 [(0, .cA, .ptr 1 0 0 1),(1, .cA,sI (f:Nat)),(2, .cA,A4 49 Api.Input.enc dF_ l),(7, .cA,sI s.ins.length)] (rsO s) (C7 hm ?_) ?_
 ·refine st_ ?_;refine A3v (A8q s h.win (by omega)) (st_ ?_);rw[if_neg (by simp;omega)];exact B0 [] [] se_
 refine B2 [(0, .cA, .ptr 1 0 0 1),(1, .cA,sI (f:Nat)),(2, .cA,A4 49 Api.Input.enc dF_ l),(7, .cA,sI s.ins.length)] (rsO s) (C7 hm ?_) ?_
 ·refine st_ ?_;refine⟨⟨by omega,by omega⟩,?_⟩;refine A0 (A2d (s.ins.getD f dF_) l hx.1 hl.1 (C5c hl)) rfl (st_ ?_);rw[if_neg (by simpa using hc)];exact B0 [] [] se_
 refine B2 [(0, .cA, .ptr 1 0 0 1),(1, .cA,sI (f:Nat)),(2, .cA,A4 49 Api.Input.enc dF_ l),(7, .cA,sI s.ins.length),(9, .cA, .ptr 5 0 0 1)] (rsO s++rgO (B24 s f).2.2) (C7 hm ?_) ?_
 ·have e:IntKind.i64.wrap ((s.ws.length:Int)-IntKind.i64.wrap ((s.ins.length:Int)-(f:Nat)))=((s.ws.length-(s.ins.length-f):Nat):Int):=by simp only[IntKind.wrap_i64];omega
  have hlk:(s.ws.take (s.ws.length-(s.ins.length-f))).length=s.ws.length-(s.ins.length-f):=by rw[List.length_take];omega
  simp only[go_sem,go_sem_proc,e];refine⟨⟨by omega,by omega,by omega⟩,?_⟩;refine B5 [true] [(1,4),(2,6)] (F0m s.ws (s.ws.length-(s.ins.length-f)) (by omega) (by omega) (by omega)) (by simp) (by simp) (by simp[D3]) (by simp[go_sem]) (st_ ?_);refine⟨by omega,?_⟩;refine B0 [(5,160)] [] ?_;simp only[go_sem,go_sem_proc,B24,hlk]
  all_goals exact eE_
 refine B2 [(0, .cA, .ptr 1 0 0 1),(1, .cA,sI (f:Nat)),(2, .cA,A4 49 Api.Input.enc dF_ l),(7, .cA,sI s.ins.length),(9, .cA, .ptr 5 0 0 1),(10, .cA, .ptr 7 0 0 1)] (rsO s++(rgO (B24 s f).2.2++hyO (B24 s f).1 (B24 s f).2.1 (B04 s f))) (C7 hm ?_) ?_
 ·have h1:(s.ins.take f).length=f:=by rw[List.length_take];omega
  have h2:(s.hs.take f).length=f:=by rw[List.length_take];omega
  refine st_ ?_;refine⟨⟨by omega,by omega⟩,?_⟩;refine B5 [true] [(1,2),(2,8)] (E8x s.ins f (by omega) (by omega) (by omega)) (by simp) (by simp) (by simp[D3]) (by simp[go_sem]) (st_ ?_);refine⟨by omega,⟨by omega,by omega⟩,?_⟩;refine B5 [true] [(1,3),(2,9)] (F0k s.hs f (by omega) (by omega) (by omega)) (by simp) (by simp) (by simp[D3]) (by simp[go_sem]) (st_ ?_);refine⟨by omega,?_⟩;refine B0 [(7,176)] [] ?_;simp only[go_sem,go_sem_proc,B24,h1,h2,B04]
  all_goals exact eE_
 refine D7k (B2 [(0, .cA, .ptr 1 0 0 1),(1, .cA,sI (f:Nat)),(2, .cA,A4 49 Api.Input.enc dF_ l),(7, .cA,sI s.ins.length),(9, .cA, .ptr 5 0 0 1),(10, .cA, .ptr 7 0 0 1),(11, .cA,sI ((f+0:Nat):Int))] (rsO s++(rgO (B24 s f).2.2++hyO (B24 s f).1 (B24 s f).2.1 (B04 s f))) (C7 hm ?_) (Y7 ?_))
 ·refine st_ ?_;exact B0 [] [] se_
 refine E3u (ι:= {p:Nat×Acc // p.1<=s.ins.length-f/\J8 (B6f s f l) p.1 (B24 s f)= .inl p.2}) (λp=> [(0, .cA, .ptr 1 0 0 1),(1, .cA,sI (f:Nat)),(2, .cA,A4 49 Api.Input.enc dF_ l),(7, .cA,sI s.ins.length),(9, .cA, .ptr 5 0 0 1),(10, .cA, .ptr 7 0 0 1),(11, .cA,sI ((f+p.1.1:Nat):Int))]) (λp=>(rsO s++(rgO p.1.2.2.2++hyO p.1.2.1 p.1.2.2.1 (B04 s f)))) (λp=>s.ins.length-f-p.1.1) ⟨(0,B24 s f),Nat.zero_le _,rfl⟩ ?_ ?_
 ·exact B0 [] [] se_
 rintro⟨⟨j,a⟩,hj,ha⟩;dsimp only at hj ha⊢;obtain⟨g1,g2,g3,g4,g5⟩:=hA j a hj ha;by_cases hlt:j<s.ins.length-f;rotate_left
 ·obtain rfl:j=s.ins.length-f:=by omega
  have hC:E2x s f l=0:=by unfold E2x;rw[show D17 s f l= .inl a from ha]
  have hO:E2y s f l=B8k s f a:=by unfold E2y;rw[show D17 s f l= .inl a from ha]
  rw[hC,hO];refine C7 hm (st_ ?_);rw[if_neg (by omega)]
  (try simp only[go_sem,go_sem_proc])
  refine E60 (T:= [(0, .cA, .ptr 1 0 0 1),(1, .cA,sI (f:Nat)),(2, .cA,A4 49 Api.Input.enc dF_ l),(7, .cA,sI s.ins.length),(9, .cA, .ptr 5 0 0 1),(10, .cA, .ptr 7 0 0 1)]) (O:=(rsO s++(rgO a.2.2++hyO a.1 a.2.1 (B04 s f)))) ?_ (C7 hm ?_)
  ·exact B0 [] [] se_
  refine st_ ?_;refine B6 [.cA] [] [] ?_;simp only[go_sem,go_sem_proc,B8k]
  all_goals exact eE_
 have hal:=E36 h hl hc (i:=f+j) (by omega)
 have hS:J8 (B6f s f l) (j+1) (B24 s f)=B6f s f l j a:=G44 ha;refine B2 [(0, .cA, .ptr 1 0 0 1),(1, .cA,sI (f:Nat)),(2, .cA,A4 49 Api.Input.enc dF_ l),(7, .cA,sI s.ins.length),(9, .cA, .ptr 5 0 0 1),(10, .cA, .ptr 7 0 0 1),(11, .cA,sI ((f+j:Nat):Int))] (rsO s++(rgO a.2.2++hyO a.1 a.2.1 (B04 s f))) (C7 hm ?_) ?_
 ·refine st_ ?_;rw[if_pos (by omega)];exact B0 [] [] se_
 refine D7k (Y7 ?_);refine B2 [(0, .cA, .ptr 1 0 0 1),(1, .cA,sI (f:Nat)),(2, .cA,A4 49 Api.Input.enc dF_ l),(7, .cA,sI s.ins.length),(9, .cA, .ptr 5 0 0 1),(10, .cA, .ptr 7 0 0 1),(11, .cA,sI ((f+j:Nat):Int)),(12, .cA, .sl 10 0 (s.ins.getD (f+j) dF_).length (s.ins.getD (f+j) dF_).length)] ((rsO s++(rgO a.2.2++hyO a.1 a.2.1 (B04 s f)))++ [(10, .arr 49 (A9 Api.Input.enc dF_ (s.ins.getD (f+j) dF_)))]) (C7 hm ?_) ?_
 ·refine st_ ?_;refine⟨⟨by omega,by omega⟩,?_⟩;refine J2 ev_ K0 (D5j (s.ins.getD (f+j) dF_) (h.im _ (B8 dF_ (by omega)))) (st_ ?_);exact B0 [(10,1648)] [] se_
 refine B2 [(0, .cA, .ptr 1 0 0 1),(1, .cA,sI (f:Nat)),(2, .cA,A4 49 Api.Input.enc dF_ l),(7, .cA,sI s.ins.length),(9, .cA, .ptr 5 0 0 1),(10, .cA, .ptr 7 0 0 1),(11, .cA,sI ((f+j:Nat):Int)),(12, .eQ,A4 49 Api.Input.enc dF_ (A73 s f l (f+j)))] (rsO s++(rgO a.2.2++hyO a.1 a.2.1 (B04 s f))) (C7 hm ?_) ?_
 ·have hil2:=(h.im _ (B8 (l:=s.ins) (i:=f+j) dF_ (by omega))).1
  unfold A73;refine st_ ?_;by_cases h0:j=0
  ·rw[if_pos (by simp;omega),if_pos (by omega)];generalize s.ins.getD (f+j) dF_=x at hil2⊢
   (try simp only[go_sem,go_sem_proc])
   refine A0 (B27 l hl) rfl (st_ ?_);have hby:(Tryz.prog.types[60]).bytes=384:=by kernel_rfl
   have hll:=hl.1;refine⟨⟨by first |omega |(simp only[hby];omega),by simp only[maxLen];omega⟩,?_⟩;refine B0 [] [] (st_ ?_);exact⟨by simp,by rw[List.length_append];exact D0 _⟩
  ·rw[if_neg (by simp;omega),if_neg (by omega)]
   (try simp only[go_sem,go_sem_proc])
   exact B0 [] [] se_
 have hsm:=E8c g4 (by omega)
 have hF:=B09 (B60 a.2.2) (A73 s f l (f+j)) hsm hal
 have hL:=F6w a.2.2 0 (by omega) (by omega);rw[Nat.sub_zero,show a.2.2.getD (a.2.2.length-1) dF_=B60 a.2.2 from rfl]at hL;have hrs:=B9x hsm hal;unfold B6f at hS;generalize A73 s f l (f+j)=all at hF hrs hS hal⊢;generalize B60 a.2.2=x0 at hF hL hrs hS hsm;generalize V1 x0 all=r at hF hrs hS;refine B2 [(0, .cA, .ptr 1 0 0 1),(1, .cA,sI (f:Nat)),(2, .cA,A4 49 Api.Input.enc dF_ l),(7, .cA,sI s.ins.length),(9, .cA, .ptr 5 0 0 1),(10, .cA, .ptr 7 0 0 1),(11, .cA,sI ((f+j:Nat):Int)),(12, .cA,A4 49 Api.Input.enc dF_ all),(13, .cA, .ptr 11 0 0 1),(15, .cA,sI r.2.2)] ((rsO s++(rgO a.2.2++hyO a.1 a.2.1 (B04 s f)))++ [(11, .box r.1.enc)]) (C7 hm ?_) ?_
 ·refine st_ ?_;refine M1 (hL) D4k D4k (by simp[rgO]) (by simp[rgO,rsO,rsC,rgO,hyO,upd,go_sem,go_sem_proc]) (by simp[rgO]) (B9e rfl rfl) rfl (st_ ?_);refine A0 hF rfl (st_ ?_);exact B0 [(11,224)] [] se_
 by_cases hr:r.2.2=0;rotate_left
 ·rw[if_neg hr]at hS;have hE:D17 s f l= .inr r.2.2:=A5j hS (by omega)
  have hC:E2x s f l=r.2.2:=by unfold E2x;rw[hE]
  have hO:E2y s f l=rsO s:=by unfold E2y;rw[hE]
  rw[hC,hO];refine C7 hm (st_ ?_);rw[if_pos (by simpa using hr)]
  (try simp only[go_sem,go_sem_proc])
  exact B6 [.cA] [] [] se_
 rw[if_pos hr]at hS;have hAd:=F9q a.1 a.2.1 (B04 s f) all r.1 hrs (by omega) (by omega)
 have hPu:=F6x a.2.2 r.1 (s.win+1) (by omega) (by omega)
 have hw1:IntKind.i64.wrap (s.win+1)=s.win+1:=by rw[IntKind.wrap_i64];omega
 have hj1:IntKind.i64.wrap (((f+j:Nat):Int)+1)=((f+(j+1):Nat):Int):=by rw[IntKind.wrap_i64];omega
 refine C7 hm (st_ ?_);rw[if_neg (by simpa using hr)]
 (try simp only[go_sem,go_sem_proc])
 refine M1 (hAd) F2c F2c (by simp[hyO]) (by simp[hyO,rsO,rsC,rgO,hyO,upd,go_sem,go_sem_proc]) (by simp[hyO]) (B9e rfl (by simp[F0,AV.ids,A4,World.enc])) rfl (st_ ?_);rw[hw1];refine M1 (hPu) D4k D4k (by simp[rgO]) (by simp[rgO,rsO,rsC,rgO,hyO,upd,go_sem,go_sem_proc]) (by simp[rgO]) (B9e rfl (by simp[F0,AV.ids,A4,World.enc])) rfl (st_ ?_);refine C7 hm ?_;simp only[go_sem,go_sem_proc,hj1];refine A8 ⟨(j+1,(a.1++ [all],a.2.1++ [ofW r.1],a.2.2++ [r.1])),by dsimp only;omega,hS⟩ (by dsimp only;omega) ?_;exact B0 [] [] se_
end Go.Abs
end
noncomputable section
namespace Go.Abs
open Go.Proofs
open Api
end Go.Abs
namespace Go.Api
open Go.Abs
structure Call where
 gD:Bool
 eK:Int
 fW:List Input
 deriving DecidableEq,Inhabited
def Call.enc(x:Call):List AV:= [sB x.gD,sI x.eK,A4 49 Input.enc dF_ x.fW]
def Call.zero:List AV:= [sB false,sI 0, .sc (.slice none 0 0)]
attribute [go_sem] Call.enc Call.zero
@[go_sem] theorem G7t(x:Call):Call.mk x.gD x.eK x.fW=x:=rfl
end Go.Api
namespace Go.Abs
open Go.Proofs Api
end Go.Abs
end
noncomputable section
namespace Go.Abs
open Go.Proofs
open Api
theorem F0r(s:Ses)(f:Int)(l:List Api.Input)(h:A4x s)(hf:f<C7j s\/(s.ins.length:Int)<=f):cA_ A1m [.ptr 1 0 0 1,sI f,A4 49 Api.Input.enc dF_ l] (rsO s) (sI 21) (rsO s):=by
 have hw0:s.win≠0:=by have:=h.win;omega
 have hil:=h.ins;refine I7 hm A6 Tryz.func33 rfl rfl (st_ ?_);refine A3v (A0y s hw0) (st_ ?_);refine A3v (A1h s) (st_ ?_);refine A3v (A8q s h.win (by omega)) (st_ ?_);rw[if_pos (by simp;omega)];exact B6 [.cA] [] [] se_
def E76(s:Ses)(f:Nat)(a:Acc):Ses:=⟨a.1,a.2.1,B04 s f,a.2.2,s.win⟩
def C0c(s:Ses)(l:List Api.Input):Int×Ses:=
 if 4096<=s.ins.length then(9,s)else if I4 [] l≠0 then(I4 [] l,s)
 else if(V1 (Y5 s) l).2.2≠0 then((V1 (Y5 s) l).2.2,s)
 else(0,{s with ins:=s.ins++ [l],hs:=s.hs++ [ofW (V1 (Y5 s) l).1],ws:=if(s.ws.length:Int)+1<=s.win+1 then s.ws++ [(V1 (Y5 s) l).1]else(s.ws++ [(V1 (Y5 s) l).1]).drop 1})
def G46(s:Ses)(f:Int)(l:List Api.Input):Int×Ses:=
 if f<C7j s\/(s.ins.length:Int)<=f then(21,s)else if I4 (s.ins.getD f.toNat dF_) l≠0 then(I4 (s.ins.getD f.toNat dF_) l,s)
 else match D17 s f.toNat l with
  | .inl a=>(0,E76 s f.toNat a)
  | .inr c=>(c,s)
def Shape(s':Ses)(O:List (Nat×A7)):Prop:=O=rsO s'\/(∃old,O=C30 s' old)\/ ∃s f a,s'=E76 s f a/\O=B8k s f a
structure D94 (s:Ses):Prop where
 ok:A4x s
 len:(s.ws.length:Int)=min (s.ins.length:Int) s.win+1
theorem G64(s:Ses)(l:List Api.Input)(h:D94 s)(hl:A5r l): ∃O,Shape (C0c s l).2 O/\cA_ L6 [.ptr 1 0 0 1,A4 49 Api.Input.enc dF_ l] (rsO s) (sI ((C0c s l).1)) O:=by
 unfold C0c;split
 ·exact⟨_, .inl rfl,D2r s l h.ok (by assumption)⟩
 rename_i h1;split
 ·exact⟨_, .inl rfl,F0n s l h.ok hl (by omega) (by assumption)⟩
 rename_i h2;split
 ·exact⟨_, .inl rfl,F0o s l h.ok hl (by omega) (by simpa using h2) (by assumption)⟩
 rename_i h3;by_cases h4:(s.ws.length:Int)+1<=s.win+1
 ·rw[if_pos h4];exact⟨_, .inl rfl,D6f s l h.ok hl (by omega) (by simpa using h2) (by simpa using h3) h4⟩
 ·rw[if_neg h4];exact⟨_, .inr (.inl ⟨_,rfl⟩),F0p s l h.ok hl (by omega) (by simpa using h2) (by simpa using h3) h4⟩
def E7j(s:Ses)(c:Api.Call):Int×Ses:=if c.gD=true then G46 s c.eK c.fW else C0c s c.fW
theorem E8m {s:Ses}{f:Nat}{a:Acc}:okO (B8k s f a):=by
 refine⟨by simp[B8k],λp hp cs ee j hj=> ?_⟩;simp only[B8k,List.mem_cons,List.not_mem_nil,or_false]at hp;rcases hp with rfl |rfl |rfl |rfl |rfl |rfl |rfl
 ·simp only[A7.box.injEq]at ee;subst ee;simp[F0,AV.ids]at hj;rcases hj with rfl |rfl |rfl <;> rfl
 all_goals cases ee
theorem Shape.ok {s:Ses}{O:List (Nat×A7)}(h:Shape s O):okO O:=by
 rcases h with rfl |⟨old,rfl⟩ |⟨s,f,a,-,rfl⟩
 ·exact B07
 ·exact E8n
 ·exact E8m
theorem Shape.keys {s:Ses}{O:List (Nat×A7)}(h:Shape s O):(∀i∈ [1,2,3,4],i∈O.map (·.1))/\ ∀i∈O.map (·.1),i<10:=by rcases h with rfl |⟨old,rfl⟩ |⟨s,f,a,-,rfl⟩ <;> simp[rsO,C30,B8k]
theorem G1k {s:Ses}{c:Api.Call}(h:D94 s)(hl:A5r c.fW):D94 (E7j s c).2/\((E7j s c).1≠0->(E7j s c).2=s):=by
 obtain⟨h,hlen⟩:=h;have hw:=h.win
 have hws:=h.ws
 have hL:=B9x h.last hl;unfold E7j;split
 ·unfold G46;split
  ·exact⟨⟨h,hlen⟩,λ_=>rfl⟩
  rename_i h1;split
  ·exact⟨⟨h,hlen⟩,λ_=>rfl⟩
  rename_i h2;split
  ·rename_i a ha;refine⟨?_,λe=>absurd rfl e⟩;have:C7j s<=c.eK:=by omega
   unfold C7j at this;have:=E62 (s:=s) (f:=c.eK.toNat) (l:=c.fW) h hl (by omega) (by simpa using h2) (by omega) _ a (Nat.le_refl _) ha;obtain⟨g1,g2,g3,g4,g5⟩:=this;refine⟨⟨hw,?_,?_,?_,g4,g5⟩,?_⟩
   ·show a.1.length<=4096;have:=h.ins;omega
   ·show a.2.1.length=a.1.length;omega
   ·show 0<a.2.2.length/\a.2.2.length<=65;omega
   ·show(a.2.2.length:Int)=min (a.1.length:Int) s.win+1;omega
  ·exact⟨⟨h,hlen⟩,λ_=>rfl⟩
 ·unfold C0c;split
  ·exact⟨⟨h,hlen⟩,λ_=>rfl⟩
  split
  ·exact⟨⟨h,hlen⟩,λ_=>rfl⟩
  split
  ·exact⟨⟨h,hlen⟩,λ_=>rfl⟩
  refine⟨?_,λe=>absurd rfl e⟩;generalize(V1 (Y5 s) c.fW).1=x at hL⊢;have hi: ∀y∈s.ins++ [c.fW],A5r y:=λy hy=>by
   rcases List.mem_append.1 hy with hy |hy
   ·exact h.im y hy
   ·rw[List.mem_singleton.1 hy];exact hl
  have hx: ∀y∈s.ws++ [x],Wsm y:=λy hy=>by
   rcases List.mem_append.1 hy with hy |hy
   ·exact h.sm y hy
   ·rw[List.mem_singleton.1 hy];exact hL
  have hh:=h.hs;by_cases h4:(s.ws.length:Int)+1<=s.win+1
  ·rw[if_pos h4];refine⟨⟨hw,by simp;omega,by simp[hh],by simp;omega,hx,hi⟩,?_⟩;show((s.ws++ [x]).length:Int)=min ((s.ins++ [c.fW]).length:Int) s.win+1;simp only[List.length_append,List.length_singleton];omega
  ·rw[if_neg h4];refine⟨⟨hw,by simp;omega,by simp[hh],by simp;omega,λy hy=>hx y (List.mem_of_mem_drop hy),hi⟩,?_⟩;show(((s.ws++ [x]).drop 1).length:Int)=min ((s.ins++ [c.fW]).length:Int) s.win+1;simp only[List.length_append,List.length_singleton,List.length_drop];omega
end Go.Abs
end
