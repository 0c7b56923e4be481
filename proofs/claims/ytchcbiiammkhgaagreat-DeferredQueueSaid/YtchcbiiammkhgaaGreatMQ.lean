/- A part of the proof: contracts of functions that the statement reaches. -/
import Derived.Test.YtchcbiiammkhgaaGreatMP
set_option linter.unusedSimpArgs false
set_option linter.unusedVariables false
set_option linter.unnecessarySimpa false
set_option maxRecDepth 100000
set_option maxHeartbeats 2000000
noncomputable section
namespace Go.Abs
open Go.Proofs
open Api
def B3s(n:Nat)(l:List Int)(i:Int):List Int:=if 0<=i/\i<n then l++ [i]else l
def A31(w:Api.World)(l:List Int)(id:Int):List Int:=if id≠0 then B3s w.Bodies.length l (H7 w id)else l
def D84(w:Api.World)(l:List Int):List (Nat×A5):= [(48, .box w.enc),(96, .box [.sl 1 0 l.length l.length]),(1, .arr 1 (A8 B9 0 l)),(112, .box [.fn (.func A9v) [] [.ptr 48 0 0 1, .ptr 96 0 0 1]])]
attribute [go_sem] D84
theorem B5n(w:Api.World)(l:List Int):okO (D84 w l):=by refine⟨by simp[go_sem],?_⟩;simp[go_sem,F4,AV.ids]
theorem C4y(n:Nat)(l:List Int)(i:Int):(B3s n l i).length<=l.length+1:=by unfold B3s;split <;> simp
theorem B21(w:Api.World)(l:List Int)(i:Int):(A31 w l i).length<=l.length+1:=by
 unfold A31;split
 ·exact C4y _ _ _
 ·omega
theorem B6m(w:Api.World)(l:List Int)(i:Int)(hl:l.length<=10000000):A1 Tryz.prog A9v [sI i, .ptr 48 0 0 1, .ptr 96 0 0 1] (D84 w l) (.tup []) (D84 w (B3s w.Bodies.length l i)):=by
 refine A7s hm A4 Tryz.func295 rfl rfl ?_;simp only[go_sem];by_cases hc:0<=i/\i<(w.Bodies.length:Int)
 ·have he:B3s w.Bodies.length l i=l++ [i]:=by unfold B3s;rw[if_pos hc]
  rw[if_pos (by rw[if_pos hc.1];exact decide_eq_true hc.2)];refine⟨ok_,?_⟩;refine C8 [] [] [] rfl rfl (by simp[go_sem]) (by simp[A6,go_sem]) (by simp[go_sem]) ?_;simp only[go_sem,he,List.length_append,List.length_singleton];exact A1q i rfl rfl
 ·have he:B3s w.Bodies.length l i=l:=by unfold B3s;rw[if_neg hc]
  rw[if_neg (by
   intro h;apply hc;by_cases c1:0<=i
   ·rw[if_pos c1]at h;exact⟨c1,of_decide_eq_true h⟩
   ·rw[if_neg c1]at h;cases h)]
  refine C8 [] [] [] rfl rfl (by simp[go_sem]) (by simp[A6,go_sem]) (by simp[go_sem]) ?_;simp only[go_sem,he]
theorem A6v(w:Api.World)(l:List Int)(i:Int)(hl:l.length<=10000000)(hw:w.Bodies.length<=1048576):A1 Tryz.prog A59 [sI i, .ptr 112 0 0 1, .ptr 48 0 0 1] (D84 w l) (.tup []) (D84 w (A31 w l i)):=by
 refine A7s hm A4 Tryz.func296 rfl rfl ?_;simp only[go_sem];by_cases hc:i=0
 ·have he:A31 w l i=l:=by unfold A31;rw[if_neg (by simp[hc])]
  rw[if_neg (by simp[hc])];refine C8 [] [] [] rfl rfl (by simp[go_sem]) (by simp[A6,go_sem]) (by simp[go_sem]) ?_;simp only[go_sem,he]
 ·have he:A31 w l i=B3s w.Bodies.length l (H7 w i):=by unfold A31;rw[if_pos hc]
  rw[if_pos (by simp[hc])];refine A0 (A2a w i hw) rfl ?_;simp only[go_sem];refine Y4 (B6m w l (H7 w i) hl) (B5n w l) rfl (by simp[go_sem]) (by simp[go_sem,AV.ids]) rfl ?_;simp only[go_sem];refine C8 [] [] [] rfl rfl (by simp[go_sem]) (by simp[A6,go_sem]) (by simp[go_sem]) ?_;simp only[go_sem,he]
def A93(w:Api.World)(l:List Int)(i:Int):List Int:=if 0<=i/\i<w.Contacts.length then A31 w (A31 w l (w.Contacts.getD i.toNat default).Key.BodyA) (w.Contacts.getD i.toNat default).Key.BodyB else l
def A9c(w:Api.World)(l:List Int)(i:Int):List Int:=if 0<=i/\i<w.Joints.length then A31 w (A31 w l (w.Joints.getD i.toNat default).BodyA) (w.Joints.getD i.toNat default).BodyB else l
def A92(w:Api.World)(x:B1):List Int:=x.Bodies.foldl (B3s w.Bodies.length) []
def A9a(w:Api.World)(x:B1):List Int:=x.Contacts.foldl (A93 w) (A92 w x)
def A9b(w:Api.World)(x:B1):List Int:=x.Joints.foldl (A9c w) (A9a w x)
theorem D4v(w:Api.World)(l:List Int)(i:Int):(A93 w l i).length<=l.length+2:=by
 unfold A93;split
 ·have h1:=B21 w (A31 w l (w.Contacts.getD i.toNat default).Key.BodyA) (w.Contacts.getD i.toNat default).Key.BodyB
  have h2:=B21 w l (w.Contacts.getD i.toNat default).Key.BodyA;omega
 ·omega
theorem D4w(w:Api.World)(l:List Int)(i:Int):(A9c w l i).length<=l.length+2:=by
 unfold A9c;split
 ·have h1:=B21 w (A31 w l (w.Joints.getD i.toNat default).BodyA) (w.Joints.getD i.toNat default).BodyB
  have h2:=B21 w l (w.Joints.getD i.toNat default).BodyA;omega
 ·omega
theorem A8i {f:List Int->Int->List Int}{k:Nat}(hf: ∀l i,(f l i).length<=l.length+k)(l:List Int): ∀(acc:List Int),(l.foldl f acc).length<=acc.length+k*l.length:=by
 induction l with
 |nil=>intro acc;simp
 |cons a l ih=>intro acc;have:=ih (f acc a);have:=hf acc a;simp only[List.foldl_cons,List.length_cons,Nat.mul_add];omega
theorem B6i {f:List Int->Int->List Int}{l:List Int}{k:Nat}{acc:List Int}(h:k<l.length):(l.take (k+1)).foldl f acc=f ((l.take k).foldl f acc) (l.getD k 0):=by rw[K9 0 h];simp
def E97(w:Api.World)(x:B1)(l:List Int):List (Nat×A5):= [(48, .box w.enc),(64, .box x.enc),(96, .box [.sl 1 0 l.length l.length]),(1, .arr 1 (A8 B9 0 l)),(112, .box [.fn (.func A9v) [] [.ptr 48 0 0 1, .ptr 96 0 0 1]])]
attribute [go_sem] E97
def H4(w:Api.World)(x:B1):List Int:=B2a (A9l (A9b w x))
theorem C06(w:Api.World)(x:B1)(hw:Wsm w)(hx:Ism x):A1 Tryz.prog C0i [.agg w.enc, .agg x.enc] [] (.sl 1 0 (H4 w x).length (A9b w x).length)
  [(1, .arr 1 (A8 B9 0 (H4 w x++List.replicate ((A9b w x).length-(H4 w x).length) 0)))]:=by
 obtain⟨w1,w2,w3,w4,w5,w6⟩:=hw;obtain⟨x1,x2,x3⟩:=hx;refine H8 hm A4 Tryz.func178 rfl rfl ?_;simp only[go_sem];refine B0 hm (ι:= {i:Nat // i<=x.Bodies.length}) (λi=> [(2, .share, .ptr 48 0 0 1),(3, .share, .ptr 64 0 0 1),(5, .share, .ptr 96 0 0 1),(6, .share, .ptr 112 0 0 1),(7, .share, .fn (.func A59) [] [.ptr 112 0 0 1, .ptr 48 0 0 1]),(17, .share,A2 1 B9 0 x.Bodies),(18, .share,sI x.Bodies.length),(19, .share,sI i.1)])
  (λi=>E97 w x ((x.Bodies.take i.1).foldl (B3s w.Bodies.length) [])) (λi=>x.Bodies.length-i.1) ⟨0,by omega⟩ ?_ ?_
 ·refine D7 [] [1] ?_;simp only[go_sem]
 ·rintro⟨i,hi⟩;have hn:=A8i (C4y w.Bodies.length) (x.Bodies.take i) []
  have hn:((x.Bodies.take i).foldl (B3s w.Bodies.length) []).length<=10000000:=by simp only[List.length_take,List.length_nil]at hn;omega
  simp only[go_sem];split
  ·rename_i hlt;have hlt:i<x.Bodies.length:=by omega
   refine⟨ok_,?_⟩;refine Y4 (B6m w _ (x.Bodies.getD i 0) hn) (B5n w _) rfl (by simp[go_sem]) (by simp[go_sem,AV.ids]) rfl ?_;simp only[go_sem];refine A7 ⟨i+1,by omega⟩ (by show x.Bodies.length-(i+1)<x.Bodies.length-i;omega) (D7 [] [] ?_);simp only[go_sem,B6i hlt];exact(by rw[IntKind.wrap_i64];omega)
  ·rename_i hge;obtain rfl:i=x.Bodies.length:=by omega
   have hb1:(A92 w x).length<=1048576:=by have:=A8i (C4y w.Bodies.length) x.Bodies [];simp only[List.length_nil]at this;unfold A92;omega
   refine B0 hm (ι:= {i:Nat // i<=x.Contacts.length}) (λi=> [(2, .share, .ptr 48 0 0 1),(3, .share, .ptr 64 0 0 1),(5, .share, .ptr 96 0 0 1),(7, .share, .fn (.func A59) [] [.ptr 112 0 0 1, .ptr 48 0 0 1]),(28, .share,A2 1 B9 0 x.Contacts),(29, .share,sI x.Contacts.length),(30, .share,sI i.1)])
    (λi=>E97 w x ((x.Contacts.take i.1).foldl (A93 w) (A92 w x))) (λi=>x.Contacts.length-i.1) ⟨0,by omega⟩ ?_ ?_
   ·refine D7 [] [] ?_;simp only[go_sem,List.take_length,List.foldl_nil,A92]
   ·rintro⟨i,hi⟩;have hn:=A8i (D4v w) (x.Contacts.take i) (A92 w x)
    have hn:((x.Contacts.take i).foldl (A93 w) (A92 w x)).length<=4000000:=by simp only[List.length_take]at hn;omega
    simp only[go_sem];split
    ·rename_i hlt;have hlt:i<x.Contacts.length:=by omega
     refine⟨ok_,?_⟩;by_cases hc:0<=x.Contacts.getD i 0/\x.Contacts.getD i 0<(w.Contacts.length:Int)
     ·have he:A93 w ((x.Contacts.take i).foldl (A93 w) (A92 w x)) (x.Contacts.getD i 0)=A31 w (A31 w ((x.Contacts.take i).foldl (A93 w) (A92 w x)) (w.Contacts.getD (x.Contacts.getD i 0).toNat default).Key.BodyA) (w.Contacts.getD (x.Contacts.getD i 0).toNat default).Key.BodyB:=by unfold A93;rw[if_pos hc]
      rw[if_pos (by rw[if_pos hc.1];exact decide_eq_true hc.2)];refine⟨⟨hc.1,hc.2⟩,?_⟩;have hn2:=B21 w ((x.Contacts.take i).foldl (A93 w) (A92 w x)) (w.Contacts.getD (x.Contacts.getD i 0).toNat default).Key.BodyA;refine Y4 (A6v w ((x.Contacts.take i).foldl (A93 w) (A92 w x)) (w.Contacts.getD (x.Contacts.getD i 0).toNat default).Key.BodyA (by omega) w1) (B5n w _) rfl (by simp[go_sem]) (by simp[go_sem,AV.ids]) rfl ?_;simp only[go_sem];refine⟨⟨hc.1,hc.2⟩,?_⟩;refine Y4 (A6v w (A31 w ((x.Contacts.take i).foldl (A93 w) (A92 w x)) (w.Contacts.getD (x.Contacts.getD i 0).toNat default).Key.BodyA) (w.Contacts.getD (x.Contacts.getD i 0).toNat default).Key.BodyB (by omega) w1) (B5n w _) rfl (by simp[go_sem]) (by simp[go_sem,AV.ids]) rfl ?_;simp only[go_sem];refine A7 ⟨i+1,by omega⟩ (by show x.Contacts.length-(i+1)<x.Contacts.length-i;omega) (D7 [] [] ?_);simp only[go_sem,B6i hlt,he];exact(by rw[IntKind.wrap_i64];omega)
     ·have he:A93 w ((x.Contacts.take i).foldl (A93 w) (A92 w x)) (x.Contacts.getD i 0)=((x.Contacts.take i).foldl (A93 w) (A92 w x)):=by unfold A93;rw[if_neg hc]
      rw[if_neg (by
       intro h;apply hc;by_cases c1:0<=x.Contacts.getD i 0
       ·rw[if_pos c1]at h;exact⟨c1,of_decide_eq_true h⟩
       ·rw[if_neg c1]at h;cases h)]
      refine A7 ⟨i+1,by omega⟩ (by show x.Contacts.length-(i+1)<x.Contacts.length-i;omega) (D7 [] [] ?_);simp only[go_sem,B6i hlt,he];exact(by rw[IntKind.wrap_i64];omega)
    ·rename_i hge;obtain rfl:i=x.Contacts.length:=by omega
     have hb2:(A9a w x).length<=4000000:=by have:=A8i (D4v w) x.Contacts (A92 w x);unfold A9a;omega
     refine B0 hm (ι:= {i:Nat // i<=x.Joints.length}) (λi=> [(2, .share, .ptr 48 0 0 1),(5, .share, .ptr 96 0 0 1),(7, .share, .fn (.func A59) [] [.ptr 112 0 0 1, .ptr 48 0 0 1]),(63, .share,A2 1 B9 0 x.Joints),(64, .share,sI x.Joints.length),(65, .share,sI i.1)])
      (λi=>E97 w x ((x.Joints.take i.1).foldl (A9c w) (A9a w x))) (λi=>x.Joints.length-i.1) ⟨0,by omega⟩ ?_ ?_
     ·refine D7 [] [] ?_;simp only[go_sem,List.take_length,List.foldl_nil,A9a]
     ·rintro⟨i,hi⟩;have hn:=A8i (D4w w) (x.Joints.take i) (A9a w x)
      have hn:((x.Joints.take i).foldl (A9c w) (A9a w x)).length<=8000000:=by simp only[List.length_take]at hn;omega
      simp only[go_sem];split
      ·rename_i hlt;have hlt:i<x.Joints.length:=by omega
       refine⟨ok_,?_⟩;by_cases hc:0<=x.Joints.getD i 0/\x.Joints.getD i 0<(w.Joints.length:Int)
       ·have he:A9c w ((x.Joints.take i).foldl (A9c w) (A9a w x)) (x.Joints.getD i 0)=A31 w (A31 w ((x.Joints.take i).foldl (A9c w) (A9a w x)) (w.Joints.getD (x.Joints.getD i 0).toNat default).BodyA) (w.Joints.getD (x.Joints.getD i 0).toNat default).BodyB:=by unfold A9c;rw[if_pos hc]
        rw[if_pos (by rw[if_pos hc.1];exact decide_eq_true hc.2)];refine⟨⟨hc.1,hc.2⟩,?_⟩;have hn2:=B21 w ((x.Joints.take i).foldl (A9c w) (A9a w x)) (w.Joints.getD (x.Joints.getD i 0).toNat default).BodyA;refine Y4 (A6v w ((x.Joints.take i).foldl (A9c w) (A9a w x)) (w.Joints.getD (x.Joints.getD i 0).toNat default).BodyA (by omega) w1) (B5n w _) rfl (by simp[go_sem]) (by simp[go_sem,AV.ids]) rfl ?_;simp only[go_sem];refine⟨⟨hc.1,hc.2⟩,?_⟩;refine Y4 (A6v w (A31 w ((x.Joints.take i).foldl (A9c w) (A9a w x)) (w.Joints.getD (x.Joints.getD i 0).toNat default).BodyA) (w.Joints.getD (x.Joints.getD i 0).toNat default).BodyB (by omega) w1) (B5n w _) rfl (by simp[go_sem]) (by simp[go_sem,AV.ids]) rfl ?_;simp only[go_sem];refine A7 ⟨i+1,by omega⟩ (by show x.Joints.length-(i+1)<x.Joints.length-i;omega) (D7 [] [] ?_);simp only[go_sem,B6i hlt,he];exact(by rw[IntKind.wrap_i64];omega)
       ·have he:A9c w ((x.Joints.take i).foldl (A9c w) (A9a w x)) (x.Joints.getD i 0)=((x.Joints.take i).foldl (A9c w) (A9a w x)):=by unfold A9c;rw[if_neg hc]
        rw[if_neg (by
         intro h;apply hc;by_cases c1:0<=x.Joints.getD i 0
         ·rw[if_pos c1]at h;exact⟨c1,of_decide_eq_true h⟩
         ·rw[if_neg c1]at h;cases h)]
        refine A7 ⟨i+1,by omega⟩ (by show x.Joints.length-(i+1)<x.Joints.length-i;omega) (D7 [] [] ?_);simp only[go_sem,B6i hlt,he];exact(by rw[IntKind.wrap_i64];omega)
      ·rename_i hge;obtain rfl:i=x.Joints.length:=by omega
       have hb3:(A9b w x).length<=8000000:=by have:=A8i (D4w w) x.Joints (A9a w x);unfold A9b;omega
       have hb4:=B0d (A9b w x)
       have ebod:(x.Joints.take x.Joints.length).foldl (A9c w) (A9a w x)=A9b w x:=by rw[List.take_length];rfl
       simp only[go_sem,ebod];refine Y4 (B7r (A9b w x) (by omega)) (by refine⟨by simp,?_⟩;simp) rfl (by simp[go_sem]) (by simp[go_sem,AV.ids]) rfl ?_;simp only[go_sem,ebod];have hS:=B4k (A9l (A9b w x)) (by omega);rw[hb4]at hS;refine Y4 hS (by refine⟨by simp,?_⟩;simp) rfl (by simp[go_sem]) (by simp[go_sem,AV.ids]) rfl ?_;simp only[go_sem];refine C8 [.share] [] [] rfl rfl (by simp[go_sem]) (by simp[A6,go_sem]) (by simp[go_sem]) ?_;simp only[go_sem,H4]
theorem B1h {P:Program}{m:Nat->Option A5}{f:FuncId}{avs:List AV}{b:Bool}{Q:ContR}(hb:b=false)(r:AV)(hK: @Ri Q b ⟨some r,[]⟩): @A4z P m f avs b Q:=⟨⟨some r,[]⟩,(λh=>by rw[hb]at h;cases h),(λh=>absurd rfl h),hK⟩
def drO(w:Api.World)(x:B1)(l:List Int):List (Nat×A5):=(32, .box [.ptr 6 0 0 1])::A5z w x l
attribute [go_sem] drO
theorem D9o(w:Api.World)(x:B1)(l:List Int):okO (drO w x l):=by refine⟨by simp[go_sem],?_⟩;simp[go_sem,F4,AV.ids]
theorem C0b(w:Api.World)(x:B1)(l:List Int)(i:Int)(h0:0<=i)(h1:i<w.Bodies.length):A1 Tryz.prog B03 [sI i, .ptr 32 0 0 1] (drO w x l) (sB (D41 (B30 w i))) (drO w x l):=by refine H8 hm A4 Tryz.func330 rfl rfl ?_;simp only[go_sem];refine⟨⟨h0,h1⟩,?_⟩;refine A1k (C5z w x l (B30 w i)) (B0e w x l) (by simp[go_sem]) (by simp[go_sem,AV.ids]) rfl ?_;simp only[go_sem];refine C8 [.share] [] [] rfl rfl (by simp[go_sem]) (by simp[A6,go_sem]) (by simp[go_sem]) ?_;simp only[go_sem]
def E22(w:Api.World)(i:Int):Bool:=if 0<=i/\i<w.Joints.length then(w.Joints.getD i.toNat default).EnableMotor else false
theorem C0c(w:Api.World)(x:B1)(l:List Int)(i:Int):A1 Tryz.prog B04 [sI i, .ptr 32 0 0 1] (drO w x l) (sB (E22 w i)) (drO w x l):=by
 refine H8 hm A4 Tryz.func332 rfl rfl ?_;simp only[go_sem];refine⟨λh=>(by by_cases h0:0<=i;(rw[if_pos h0]at h;exact⟨h0,of_decide_eq_true h⟩);(rw[if_neg h0]at h;cases h)),?_⟩;refine C8 [.share] [] [] rfl rfl (by simp[go_sem]) (by simp[A6,go_sem]) (by simp[go_sem]) ?_;simp only[go_sem];unfold E22;by_cases h0:0<=i
 ·by_cases h1:i<(w.Joints.length:Int)
  ·simp only[h0,h1,and_self,if_true,decide_true,Bool.true_and]
  ·simp only[h0,h1,and_false,if_true,if_false,decide_false,Bool.false_and]
 ·simp only[h0,false_and,if_false,Bool.false_and]
theorem F3f(l:List Int):(A5.arr 1 (A8 B9 0 l)).NoDsl:=λk hk=>rfl
theorem F44 {z m:Nat}{l r:List Int}{g:Nat->List AV}(hm:m=l.length)(hg: ∀i,g i=B9 ((l++r).getD i 0)):M4 (.dsl z m g) (.dsl z l.length (L7 B9 0 l)):=by
 subst hm;simp only[M4,true_and];intro i hi;have:(l++r).getD i 0=l.getD i 0:=by simp[List.getD,List.getElem?_append,hi]
 simp only[L7,hg,this];exact L3 _
theorem E3y {n:Nat}{l:List Int}{i x:Int}(h:x∈B3s n l i):x∈l\/(x=i/\0<=i/\i<n):=by
 unfold B3s at h;split at h
 ·rename_i hc;rw[List.mem_append,List.mem_singleton]at h;rcases h with h |h
  ·exact .inl h
  ·exact .inr ⟨h,hc⟩
 ·exact .inl h
theorem C4x {w:Api.World}{l:List Int}{id:Int}(h: ∀x∈l,0<=x/\x<(w.Bodies.length:Int)): ∀x∈A31 w l id,0<=x/\x<(w.Bodies.length:Int):=by
 intro x hx;unfold A31 at hx;split at hx
 ·rcases E3y hx with h1 |⟨rfl,h1⟩
  ·exact h x h1
  ·exact h1
 ·exact h x hx
theorem D9j {f:List Int->Int->List Int}{Q:Int->Prop}(hf: ∀l i,(∀x∈l,Q x)-> ∀x∈f l i,Q x)(l:List Int): ∀(acc:List Int),(∀x∈acc,Q x)-> ∀x∈l.foldl f acc,Q x:=by
 induction l with
 |nil=>exact λacc h=>h
 |cons a l ih=>exact λacc h=>ih (f acc a) (hf acc a h)
theorem D9a(w:Api.World)(x:B1): ∀i∈A9b w x,0<=i/\i<(w.Bodies.length:Int):=by
 refine D9j (λl i h=> ?_) _ _ (D9j (λl i h=> ?_) _ _ (D9j (λl i h x hx=> ?_) _ _ (by simp)))
 ·unfold A9c;split
  ·exact C4x (C4x h)
  ·exact h
 ·unfold A93;split
  ·exact C4x (C4x h)
  ·exact h
 ·rcases E3y hx with h1 |⟨rfl,h1⟩
  ·exact h x h1
  ·exact h1
theorem D4x {w:Api.World}{x:B1}{i:Int}:i∈H4 w x↔i∈A9b w x:=by unfold H4;rw[F2j,F3b]
theorem E39(w:Api.World)(x:B1):(H4 w x).length<=(A9b w x).length:=by unfold H4;have:=B6h (A9l (A9b w x));rwa[B0d]at this
theorem E38 {w:Api.World}{x:B1}(hx:Ism x):(A9b w x).length<=8000000:=by
 obtain⟨x1,x2,x3⟩:=hx;have h1:=A8i (C4y w.Bodies.length) x.Bodies []
 have h2:=A8i (D4v w) x.Contacts (A92 w x)
 have h3:=A8i (D4w w) x.Joints (A9a w x);simp only[List.length_nil]at h1;unfold A9b;unfold A9a at h3⊢;unfold A92 at h2 h3⊢;omega
def B5h(w:Api.World)(x:B1):Bool:=(H4 w x).any (λi=>D41 (B30 w i))||x.Joints.any (E22 w)
theorem B4j(w:Api.World)(x:B1)(l:List Int)(hw:Wsm w)(hx:Ism x):A1 Tryz.prog C4s [.ptr 6 0 0 1] (A5z w x l) (sB (B5h w x)) (A5z w x l):=by
 have hb3:=E38 (w:=w) hx
 have hbl:=E39 w x;refine H8 hm A4 Tryz.func201 rfl rfl ?_;simp only[go_sem];refine E6c [(1,7)] (C06 w x hw hx) rfl (by simp only[List.mem_singleton,forall_eq];exact F3f _) (by simp) (by simp) (by simp only[A07,go_sem]) (by simp[go_sem]) rfl ?_;simp only[go_sem];refine E3 [false,true] [] (A5d (H4 w x) B03 [] [.ptr 32 0 0 1] (drO w x l) (λi=>D41 (B30 w i)) (by omega) (D9o w x l) (by simp[go_sem,AV.ids]) (λi hi=>C0b w x l i (D9a w x i (D4x.1 hi)).1 (D9a w x i (D4x.1 hi)).2)) (by simp[go_sem]) (by simp[go_sem]) (by simp[go_sem]) (by simp[go_sem]) ?_;simp only[go_sem];refine⟨by rw[List.length_append,List.length_replicate];omega,F44 rfl λ_=>rfl,?_⟩;cases hmv:(H4 w x).any (λi=>D41 (B30 w i))with
 |true=>refine B1h (by simp) (sB false) ?_;simp only[go_sem];refine C8 [.share] [] [] rfl rfl (by simp[go_sem]) (by simp[A6,go_sem]) (by simp[go_sem]) ?_;simp only[go_sem,B5h,hmv,Bool.true_or]
 |false=>refine A1k (A5d x.Joints B04 [] [.ptr 32 0 0 1] (drO w x l) (E22 w) (by have:=hx.2.2;omega) (D9o w x l) (by simp[go_sem,AV.ids]) (λi hi=>C0c w x l i)) (D9o w x l) (by simp[go_sem]) (by simp[go_sem,AV.ids]) (by simp) ?_;simp only[go_sem];refine C8 [.share] [] [] rfl rfl (by simp[go_sem]) (by simp[A6,go_sem]) (by simp[go_sem]) ?_;simp only[go_sem,B5h,hmv,Bool.false_or]
def A6c(w:Api.World)(x:B1)(l:List Int):Bool:=(l.any λi=> !(B30 w i).Asleep)||B5h w x
theorem A9f(w:Api.World)(x:B1)(l:List Int)(hw:Wsm w)(hx:Ism x)(hl:l.length<=1048576)(hi: ∀i∈l,0<=i/\i<w.Bodies.length):A1 Tryz.prog C7b [.ptr 6 0 0 1] (A5z w x l) (sB (A6c w x l)) (A5z w x l):=by
 refine H8 hm A4 Tryz.func162 rfl rfl ?_;simp only[go_sem];refine A1k (B7q w x l B3n (λb=> !b.Asleep) (C5x w x l) hl hi) (B0e w x l) (by simp[go_sem]) (by simp[go_sem,AV.ids]) rfl ?_;simp only[go_sem];cases hmv:(l.any λi=> !(B30 w i).Asleep)with
 |true=>refine B1h (by simp) (sB false) ?_;simp only[go_sem];refine C8 [.share] [] [] rfl rfl (by simp[go_sem]) (by simp[A6,go_sem]) (by simp[go_sem]) ?_;simp only[go_sem,A6c,hmv,Bool.true_or]
 |false=>refine A1k (B4j w x l hw hx) (B0e w x l) (by simp[go_sem]) (by simp[go_sem,AV.ids]) (by simp) ?_;simp only[go_sem];refine C8 [.share] [] [] rfl rfl (by simp[go_sem]) (by simp[A6,go_sem]) (by simp[go_sem]) ?_;simp only[go_sem,A6c,hmv,Bool.false_or]
def A0z(w:Api.World)(x:B1):List Int:=B0a x.Bodies w.Bodies.length
theorem C3l(w:Api.World)(x:B1): ∀i∈A0z w x,0<=i/\i<(w.Bodies.length:Int):=λi hi=>(F5l.1 hi).2
theorem D48 {w:Api.World}{x:B1}(hx:Ism x):(A0z w x).length<=1048576:=by have:=C5b x.Bodies w.Bodies.length;have:=hx.1;unfold A0z;omega
theorem A9p(w:Api.World)(x:B1)(hw:Wsm w)(hx:Ism x):A1 Tryz.prog D6l [.agg w.enc, .agg x.enc] [] (sB (A6c w x (A0z w x))) []:=by refine en1 hm A4 Tryz.func106 rfl rfl ?_;simp only[go_sem];refine E3 [true,true] [] (B2w w x hw hx) (by simp) (by simp[go_sem]) (by simp[go_sem]) (by simp) ?_;simp only[go_sem];refine A1k (A9f w x (A0z w x) hw hx (D48 hx) (C3l w x)) (B0e w x _) (by simp[go_sem,A0z]) (by simp[go_sem,AV.ids]) rfl ?_;simp only[go_sem]
def F7l(j:Joint)(b:Body)(ib limit:Int)(q n:Vec)(sum:Int):Row:=⟨-1,ib,n,0,A1d (M0 q (E5 b)) n,0,0,IntKind.i64.wrap (0-limit),limit,j.Softness,sum,-1,0⟩
def C92(j:Joint)(b:Body)(ib:Int)(s:List SolverBody)(dt limit:Int)(q n:Vec)(off sum:Int):Row:=⟨-1,ib,n,0,A1d (M0 q (E5 b)) n,R9 (F7l j b ib limit q n sum) s,H9 off dt,IntKind.i64.wrap (0-limit),limit,j.Softness,sum,-1,0⟩
def wO(j:Joint)(b:Body)(ib:Int)(s:List SolverBody)(dt limit:Int)(q:Vec):List (Nat×A5):=[(1, .box [sI ib]),(2, .box j.enc),(3, .box [sI limit]),(4, .box q.enc),(5, .box b.enc),(6, .box [A2 5 SolverBody.enc default s]),(7, .box [sI dt])]
theorem D76(j:Joint)(b:Body)(ib:Int)(s:List SolverBody)(dt limit:Int)(q n:Vec)(off sum:Int)(hb: ∀f∈b.Fixtures,f.Shape.Vertices.length<=1048576):A1 Tryz.prog C4w [.agg n.enc,sI off,sI sum, .ptr 1 0 0 1, .ptr 2 0 0 1, .ptr 3 0 0 1, .ptr 4 0 0 1, .ptr 5 0 0 1, .ptr 6 0 0 1, .ptr 7 0 0 1] (wO j b ib s dt limit q) (.agg (C92 j b ib s dt limit q n off sum).enc) (wO j b ib s dt limit q):=by
 unfold wO;refine D1e 40 [(13,some (some 14))] hm A4 Tryz.func434 rfl ?_;have:=A6u
 have:=K6
 have:=A75
 have:=U7
 have:=λx1 x2=>cx_ (M3 (F7l j b ib limit q x1 sum) x2)
 (simp(maxSteps:=1000000) only[go_sem])
 repeat' (first |((with_reducible refine And.intro ?_ ?_);focus (exact J8)) |(with_reducible refine gd_ ?_;with_reducible refine A0 (by apply_assumption <;> exact J8) rfl ?_;(simp(maxSteps:=1000000) only[go_sem])) |((with_reducible refine gr_ ?_);refine C91 ev_ ev_ ev_ ev_ rfl rfl ns_ ns_ ns_ ?_;(simp(maxSteps:=1000000) only[go_sem])))
 all_goals rfl
def zB:Body:=⟨0,0,⟨⟨0,0⟩,0⟩,⟨0,0⟩,0,⟨0,0⟩,0,0,0,0,false,false,false,false,0,[]⟩
def A0v(j:Joint)(b:Body)(ib:Int)(s:List SolverBody)(dt:Int):List Row:=
 let pq:=K4 j zB b
 let d:=M0 pq.2 pq.1
 let limit:=B5 j.MaxForce dt
 if j.Kind=5 then [C92 j b ib s dt limit pq.2 ⟨65536,0⟩ d.X j.Impulses.I0,C92 j b ib s dt limit pq.2 ⟨0,65536⟩ d.Y j.Impulses.I1]else []
theorem D3a(j:Joint)(b:Body)(ib:Int)(s:List SolverBody)(dt:Int)(hb: ∀f∈b.Fixtures,f.Shape.Vertices.length<=1048576):A1 Tryz.prog D2t [.agg j.enc, .agg b.enc,sI ib,A2 5 SolverBody.enc default s,sI dt] [] (A2 14 Row.enc default (A0v j b ib s dt)) []:=by
 refine en1 hm A4 Tryz.func306 rfl rfl ?_;have h1:A1 Tryz.prog C0j [.agg j.enc, .agg [sI 0,sI 0,sI 0,sI 0,sI 0,sI 0,sI 0,sI 0,sI 0,sI 0,sI 0,sI 0,sI 0,sI 0,sB false,sB false,sB false,sB false,sI 0, .sc (.slice none 0 0)], .agg b.enc] [] (.tup [.agg (K4 j zB b).1.enc, .agg (K4 j zB b).2.enc]) []:=A1.args_le (A3a j zB b) ⟨K7.refl _,K7.agg ⟨K7.refl _,K7.refl _,K7.refl _,K7.refl _,K7.refl _,K7.refl _,K7.refl _,K7.refl _,K7.refl _,K7.refl _,K7.refl _,K7.refl _,K7.refl _,K7.refl _,K7.refl _,K7.refl _,K7.refl _,K7.refl _,K7.refl _,K7.nil,trivial⟩,K7.refl _,trivial⟩
 have:=K6
 have:=L8
 (simp(maxSteps:=1000000) only[go_sem])
 repeat' (first |((with_reducible refine And.intro ?_ ?_);focus (exact J8)) |((with_reducible refine it_ (λhc_=> ?_) (λhc_=> ?_)) <;> (have hd_:=hc_;try simp only[bne_iff_ne,ne_eq,Decidable.not_not]at hd_)) |(with_reducible refine gd_ ?_;with_reducible refine A0 (by apply_assumption <;> first |exact J8 |(apply_assumption <;> first |assumption |exact J8)) rfl ?_;(simp(maxSteps:=1000000) only[go_sem])))
 ·have e:A0v j b ib s dt= []:=by
   unfold A0v;simp only;rw[if_neg (by simpa using hc_)]
  rw[e];exact O9 rfl
 ·have e:A0v j b ib s dt= [C92 j b ib s dt (B5 j.MaxForce dt) (K4 j zB b).2 ⟨65536,0⟩ (M0 (K4 j zB b).2 (K4 j zB b).1).X j.Impulses.I0,C92 j b ib s dt (B5 j.MaxForce dt) (K4 j zB b).2 ⟨0,65536⟩ (M0 (K4 j zB b).2 (K4 j zB b).1).Y j.Impulses.I1]:=by
   unfold A0v;simp only;rw[if_pos (by simpa using hc_)]
  rw[e];clear h1;generalize K4 j zB b=pq at*;generalize B5 j.MaxForce dt=limit at*;refine E0h [false,false,false,true,true,true,true,true,true,true] [(1,128),(2,96),(3,240),(4,208),(5,112),(6,144),(7,160)] (D76 j b ib s dt limit pq.2 ⟨65536,0⟩ (M0 pq.2 pq.1).X j.Impulses.I0 hb) (by simp[wO]) (by simp[wO,go_sem,A6]) (by simp[wO,A6,AV.ids]) ?_;generalize C92 j b ib s dt limit pq.2 ⟨65536,0⟩ (M0 pq.2 pq.1).X j.Impulses.I0=r1;simp only[wO,go_sem,go_sem_proc];refine⟨by decide,?_⟩;refine E0h [false,false,false,true,true,true,true,true,true,true] [(1,128),(2,96),(3,240),(4,208),(5,112),(6,144),(7,160)] (D76 j b ib s dt limit pq.2 ⟨0,65536⟩ (M0 pq.2 pq.1).Y j.Impulses.I1 hb) (by simp[wO]) (by simp[wO,go_sem,A6]) (by simp[wO,A6,AV.ids]) ?_;generalize C92 j b ib s dt limit pq.2 ⟨0,65536⟩ (M0 pq.2 pq.1).Y j.Impulses.I1=r2;simp only[wO,go_sem,go_sem_proc];exact A2e (λ_ _=>rfl) rfl rfl rfl
def J5(j:Joint)(a:Body)(b:Body)(ia:Int)(ib:Int)(s:List SolverBody)(dt:Int):(List Row):=if(j.Kind==1)=true then(let v1:=(A2u j a b ia ib s dt);v1)else(if(j.Kind==2)=true then(let v2:=(A6l j a b ia ib s dt);v2)else(if(j.Kind==3)=true then(let v3:=(A5m j a b ia ib s dt);v3)else(if(j.Kind==4)=true then(let v4:=(B1q j a b ia ib s dt);v4)else(if(j.Kind==5)=true then(let v5:=(A0v j b ib s dt);v5)else(([]:List Row))))))
theorem A8q(j:Joint)(a:Body)(b:Body)(ia:Int)(ib:Int)(s:List SolverBody)(dt:Int)(ha: ∀f∈a.Fixtures,f.Shape.Vertices.length<=1048576)(hb: ∀f∈b.Fixtures,f.Shape.Vertices.length<=1048576):A1 Tryz.prog B8u [.agg j.enc, .agg a.enc, .agg b.enc,sI ia,sI ib,A2 5 SolverBody.enc default s,sI dt] [] (A2 14 Row.enc default (J5 j a b ia ib s dt)) []:=by
 refine en1 hm A4 Tryz.func182 rfl rfl ?_;have:=C5p
 have:=D70
 have:=D5r
 have:=E70
 have:=D3a
 have:=J5.eq_1 j a b ia ib s dt;exact J1
theorem F28(v l u:Int)(e:Bool)(i dt:Int)(r:Row): ∀x∈V3 v l u e i dt r,x.Impulse=i:=by
 unfold V3;simp only
 (repeat' split) <;> simp
theorem F3a(j:Joint)(r:Row)(dt:Int): ∀x∈Q3 j r dt,x.Impulse=j.Impulses.I2:=by
 unfold Q3;simp only
 (repeat' split) <;> simp
theorem C5o(j:Joint)(a b:Body)(ia ib:Int)(s:List SolverBody)(dt:Int):(J5 j a b ia ib s dt).length<=4:=by
 have h1:=λv l u e i dt r=>C9n v l u e i dt r
 have h2:=λj r dt=>C9o j r dt;unfold J5;simp only
 (repeat' split)
 ·unfold A2u;simp only;(repeat' split) <;> simp
 ·unfold A6l;simp only;split
  ·simp
  ·simp only[List.length_append,C9p];have:=h2 j (R7 ia ib s 0) dt
   have:=h1 (X8 j a b) j.Lower j.Upper j.EnableLimit j.Impulses.I3 dt (R7 ia ib s 0);omega
 ·unfold A5m;simp only;split
  ·simp
  ·simp only[List.length_append,List.length_cons,List.length_nil];have:=h2 j (A0y j a b ia ib (X3 j a) s) dt
   have:=h1 (A3m j a b) j.Lower j.Upper j.EnableLimit j.Impulses.I3 dt (A0y j a b ia ib (X3 j a) s);omega
 ·unfold B1q;simp only;split <;> simp
 ·unfold A0v;simp only;split <;> simp
 ·simp
def B2f(j:Joint)(i:Int):Prop:=i=j.Impulses.I0\/i=j.Impulses.I1\/i=j.Impulses.I2\/i=j.Impulses.I3
theorem F6o(j:Joint)(a b:Body)(ia ib:Int)(s:List SolverBody)(dt:Int): ∀r∈J5 j a b ia ib s dt,B2f j r.Impulse:=by
 have hp: ∀r∈V4 j a b ia ib s dt,B2f j r.Impulse:=by unfold V4;simp[B2f]
 have hl:=λv l u e dt r x h=>F28 v l u e j.Impulses.I3 dt r x h
 have hm:=λr dt x h=>F3a j r dt x h;unfold J5;simp only
 (repeat' split)
 ·unfold A2u;simp only;(repeat' split) <;> simp[B2f]
 ·unfold A6l;simp only;split
  ·simp
  ·intro r hr;simp only[List.mem_append]at hr;rcases hr with(hr |hr) |hr
   ·have:=hm _ _ _ hr;simp[B2f,this]
   ·have:=hl _ _ _ _ _ _ _ hr;simp[B2f,this]
   ·exact hp _ hr
 ·unfold A5m;simp only;split
  ·simp
  ·intro r hr;simp only[List.mem_append]at hr;rcases hr with(hr |hr) |hr
   ·have:=hm _ _ _ hr;simp[B2f,this]
   ·have:=hl _ _ _ _ _ _ _ hr;simp[B2f,this]
   ·simp at hr;rcases hr with hr |hr <;> simp[B2f,hr]
 ·unfold B1q;simp only;split
  ·simp
  ·intro r hr;simp only[List.mem_append]at hr;rcases hr with hr |hr
   ·simp at hr;simp[B2f,hr]
   ·exact hp _ hr
 ·unfold A0v C92;simp only;split <;> simp[B2f]
 ·simp
theorem D2x(j:Joint)(a b:Body)(ia ib dt:Int)(ha: ∀f∈a.Fixtures,f.Shape.Vertices.length<=1048576)(hb: ∀f∈b.Fixtures,f.Shape.Vertices.length<=1048576):A1 Tryz.prog B8u [.agg j.enc, .agg a.enc, .agg b.enc,sI ia,sI ib, .sc (.slice none 0 0),sI dt] [] (A2 14 Row.enc default (J5 j a b ia ib [] dt)) []:=A1.args_le (A8q j a b ia ib [] dt ha hb) ⟨K7.refl _,K7.refl _,K7.refl _,K7.refl _,K7.refl _,K7.nil,K7.refl _,trivial⟩
def S7(v1:(List Row))(i1:Nat)(s1:(List Int)):(List Int):=(s1++ [(v1.getD i1 default).Impulse])
def N9(j:Joint)(a:Body)(b:Body):(List Int):=let v1:=(J5 (⟨j.ID,j.Kind,j.BodyA,j.BodyB,j.AnchorA,j.AnchorB,j.Axis,j.ReferenceAngle,j.EnableLimit,j.Lower,j.Upper,j.EnableMotor,j.MotorSpeed,j.MaxForce,j.Softness,j.BreakForce,j.CollideConnected,(⟨0,1,2,3⟩:Four)⟩:Joint) a b 0 0 ([]:List SolverBody) 65536);let s1:=itr (S7 v1) v1.length [];s1
theorem D2y(j:Joint)(a:Body)(b:Body)(ha: ∀f∈a.Fixtures,f.Shape.Vertices.length<=1048576)(hb: ∀f∈b.Fixtures,f.Shape.Vertices.length<=1048576):A1 Tryz.prog D2d [.agg j.enc, .agg a.enc, .agg b.enc] [] (A2 1 B9 0 (N9 j a b)) []:=by
 refine en1 hm A4 Tryz.func192 rfl rfl ?_;have:=C5o (⟨j.ID,j.Kind,j.BodyA,j.BodyB,j.AnchorA,j.AnchorB,j.Axis,j.ReferenceAngle,j.EnableLimit,j.Lower,j.Upper,j.EnableMotor,j.MotorSpeed,j.MaxForce,j.Softness,j.BreakForce,j.CollideConnected,(⟨0,1,2,3⟩:Four)⟩:Joint) a b 0 0 ([]:List SolverBody) 65536
 have:=cx_ (D2x (⟨j.ID,j.Kind,j.BodyA,j.BodyB,j.AnchorA,j.AnchorB,j.Axis,j.ReferenceAngle,j.EnableLimit,j.Lower,j.Upper,j.EnableMotor,j.MotorSpeed,j.MaxForce,j.Softness,j.BreakForce,j.CollideConnected,(⟨0,1,2,3⟩:Four)⟩:Joint) a b 0 0 65536 ha hb)
 have:=λx1 x2 x3 x4 x5 x6 x7 x8 x9 x10 x11 x12 x13 x14 x15 x16 x17 x18 x19 x20 x21 x22 x23 x24 x25 x26 x27 h0 h1=>cx_ (A8q ⟨x1,x2,x3,x4,⟨x5,x6⟩,⟨x7,x8⟩,⟨x9,x10⟩,x11,x12,x13,x14,x15,x16,x17,x18,x19,x20,x21⟩ x22 x23 x24 x25 x26 x27 h0 h1)
 have:=A8q
 have:=N9.eq_1 j a b
 have:=λi_ s_=>S7.eq_1 (J5 (⟨j.ID,j.Kind,j.BodyA,j.BodyB,j.AnchorA,j.AnchorB,j.Axis,j.ReferenceAngle,j.EnableLimit,j.Lower,j.Upper,j.EnableMotor,j.MotorSpeed,j.MaxForce,j.Softness,j.BreakForce,j.CollideConnected,(⟨0,1,2,3⟩:Four)⟩:Joint) a b 0 0 ([]:List SolverBody) 65536) i_ s_
 have:=λx_ Q_ σ_=> @lp_ Tryz.prog Tryz.f192.ntmps [] x_ Q_ σ_ hm (λ_=>True) (λi_=>((itr (S7 (J5 (⟨j.ID,j.Kind,j.BodyA,j.BodyB,j.AnchorA,j.AnchorB,j.Axis,j.ReferenceAngle,j.EnableLimit,j.Lower,j.Upper,j.EnableMotor,j.MotorSpeed,j.MaxForce,j.Softness,j.BreakForce,j.CollideConnected,(⟨0,1,2,3⟩:Four)⟩:Joint) a b 0 0 ([]:List SolverBody) 65536)) i_ [])).length<=0+1*i_) (J5 (⟨j.ID,j.Kind,j.BodyA,j.BodyB,j.AnchorA,j.AnchorB,j.Axis,j.ReferenceAngle,j.EnableLimit,j.Lower,j.Upper,j.EnableMotor,j.MotorSpeed,j.MaxForce,j.Softness,j.BreakForce,j.CollideConnected,(⟨0,1,2,3⟩:Four)⟩:Joint) a b 0 0 ([]:List SolverBody) 65536).length (λi_=> [(7,if i_=0 then .adopt else .share, .sl 1007 0 (itr (S7 (J5 (⟨j.ID,j.Kind,j.BodyA,j.BodyB,j.AnchorA,j.AnchorB,j.Axis,j.ReferenceAngle,j.EnableLimit,j.Lower,j.Upper,j.EnableMotor,j.MotorSpeed,j.MaxForce,j.Softness,j.BreakForce,j.CollideConnected,(⟨0,1,2,3⟩:Four)⟩:Joint) a b 0 0 ([]:List SolverBody) 65536)) i_ []).length (itr (S7 (J5 (⟨j.ID,j.Kind,j.BodyA,j.BodyB,j.AnchorA,j.AnchorB,j.Axis,j.ReferenceAngle,j.EnableLimit,j.Lower,j.Upper,j.EnableMotor,j.MotorSpeed,j.MaxForce,j.Softness,j.BreakForce,j.CollideConnected,(⟨0,1,2,3⟩:Four)⟩:Joint) a b 0 0 ([]:List SolverBody) 65536)) i_ []).length),(15, .share,A2 14 Row.enc default (J5 (⟨j.ID,j.Kind,j.BodyA,j.BodyB,j.AnchorA,j.AnchorB,j.Axis,j.ReferenceAngle,j.EnableLimit,j.Lower,j.Upper,j.EnableMotor,j.MotorSpeed,j.MaxForce,j.Softness,j.BreakForce,j.CollideConnected,(⟨0,1,2,3⟩:Four)⟩:Joint) a b 0 0 ([]:List SolverBody) 65536)),(16, .share,sI ((J5 (⟨j.ID,j.Kind,j.BodyA,j.BodyB,j.AnchorA,j.AnchorB,j.Axis,j.ReferenceAngle,j.EnableLimit,j.Lower,j.Upper,j.EnableMotor,j.MotorSpeed,j.MaxForce,j.Softness,j.BreakForce,j.CollideConnected,(⟨0,1,2,3⟩:Four)⟩:Joint) a b 0 0 ([]:List SolverBody) 65536).length:Int)),(17, .share,sI (i_:Int))]) (λi_=> [(1007, .arr 1 (A8 B9 0 (itr (S7 (J5 (⟨j.ID,j.Kind,j.BodyA,j.BodyB,j.AnchorA,j.AnchorB,j.Axis,j.ReferenceAngle,j.EnableLimit,j.Lower,j.Upper,j.EnableMotor,j.MotorSpeed,j.MaxForce,j.Softness,j.BreakForce,j.CollideConnected,(⟨0,1,2,3⟩:Four)⟩:Joint) a b 0 0 ([]:List SolverBody) 65536)) i_ [])))]) [1007] trivial (λi_ hI_=>A7w (λs:(List Int)=>(s).length) 1 (λi s=>by(unfold S7;(repeat' split) <;> simp <;> omega)) i_ _) (by simp[go_sem]) (by simp[go_sem,A6]) (by simp[go_sem]);exact J1
@[simp] theorem F5r(r:Row)(bs:List SolverBody)(p:Int):(P0 r bs p).length=bs.length:=by
 unfold P0;simp only
 (repeat' split) <;> simp
def A3k(rs:List Row)(i:Int):Int×Int:=if((decide (i<0))||(decide ((rs.length:Int)<=i)))=true then((0,0))else(if(((decide ((rs.getD i.toNat default).FrictionOf<0))||(decide ((rs.length:Int)<=(rs.getD i.toNat default).FrictionOf)))||((rs.getD i.toNat default).FrictionOf==i))=true then(((rs.getD i.toNat default).Lower,(rs.getD i.toNat default).Upper))else(let v1:=(B5 (rs.getD i.toNat default).Friction (rs.getD (rs.getD i.toNat default).FrictionOf.toNat default).Impulse);((IntKind.i64.wrap (0-(if v1<0 then 0 else v1))),(if v1<0 then 0 else v1))))
theorem B44(rs:List Row)(i:Int):A1 Tryz.prog C6x [A2 14 Row.enc default rs,sI i] [] (.tup [sI ((A3k rs i).1),sI ((A3k rs i).2)]) []:=by
 refine enT hm A4 Tryz.func315 rfl rfl ?_;have:=L8
 have:=A3k.eq_1 rs i;exact J1
def O3(rs:List Row)(i:Int)(bs:List SolverBody):(List Row)×(List SolverBody):=let v1:=rs;if((decide (i<0))||(decide ((v1.length:Int)<=i)))=true then(let v2:=bs;(v1,v2))else(let v3:=(W8 (v1.getD i.toNat default) bs);let v4:=(C7 v3 (v1.getD i.toNat default).Bias);let v5:=(B5 (v1.getD i.toNat default).Softness (v1.getD i.toNat default).Impulse);let v6:=(C7 v4 v5);let v7:=(A3k rs i);let v8:=(B5 (v1.getD i.toNat default).EffectiveMass v6);let v9:=(sat (sat (v1.getD i.toNat default).Impulse-sat v8));let v10:=(Q0 v9 v7.1 v7.2);let v11:=(sat (sat v10-sat (v1.getD i.toNat default).Impulse));let v12:=(P0 (⟨(v1.getD i.toNat default).A,(v1.getD i.toNat default).B,(v1.getD i.toNat default).Normal,(v1.getD i.toNat default).ArmA,(v1.getD i.toNat default).ArmB,(v1.getD i.toNat default).EffectiveMass,(v1.getD i.toNat default).Bias,(v1.getD i.toNat default).Lower,(v1.getD i.toNat default).Upper,(v1.getD i.toNat default).Softness,v10,(v1.getD i.toNat default).FrictionOf,(v1.getD i.toNat default).Friction⟩:Row) bs v11);((v1.set i.toNat (⟨(v1.getD i.toNat default).A,(v1.getD i.toNat default).B,(v1.getD i.toNat default).Normal,(v1.getD i.toNat default).ArmA,(v1.getD i.toNat default).ArmB,(v1.getD i.toNat default).EffectiveMass,(v1.getD i.toNat default).Bias,(v1.getD i.toNat default).Lower,(v1.getD i.toNat default).Upper,(v1.getD i.toNat default).Softness,v10,(v1.getD i.toNat default).FrictionOf,(v1.getD i.toNat default).Friction⟩:Row)),v12))
theorem C99(rs:List Row)(i:Int)(bs:List SolverBody)(h0:bs.length<=1048576)(h1:rs.length<=1048576):A1 Tryz.prog C71 [A2 14 Row.enc default rs,sI i,A2 5 SolverBody.enc default bs] [] (.tup [.sl 1 0 (O3 rs i bs).1.length (O3 rs i bs).1.length, .sl 2 0 (O3 rs i bs).2.length (O3 rs i bs).2.length]) [(1, .arr 14 (A8 Row.enc default (O3 rs i bs).1)),(2, .arr 5 (A8 SolverBody.enc default (O3 rs i bs).2))]:=by
 refine A7s hm A4 Tryz.func318 rfl rfl ?_;have:=λx1 x2 x3 x4 x5 x6 x7 x8 x9 x10 x11 x12 x13 x14 x15 x16 h0=>cx_ (A5b ⟨x1,x2,⟨x3,x4⟩,x5,x6,x7,x8,x9,x10,x11,x12,x13,x14⟩ x15 x16 h0)
 have:=D0w
 have:=A9q
 have:=A7b
 have:=M9
 have:=L8
 have:=B44
 have:=Q9
 have:=A4x
 have:=A5b
 have:=O3.eq_1 rs i bs;exact J1
@[simp] theorem G3d(rs:List Row)(i:Int)(bs:List SolverBody):(O3 rs i bs).1.length=rs.length:=by
 unfold O3;simp only
 (repeat' split) <;> simp
@[simp] theorem G3e(rs:List Row)(i:Int)(bs:List SolverBody):(O3 rs i bs).2.length=bs.length:=by
 unfold O3;simp only
 (repeat' split) <;> simp
def E9(rs:List Row):(List Row):=rs
theorem B7s(rs:List Row)(h1:rs.length<=1048576):A1 Tryz.prog D2p [A2 14 Row.enc default rs] [] (.sl 1 0 (E9 rs).length (E9 rs).length) [(1, .arr 14 (A8 Row.enc default (E9 rs)))]:=by refine H8 hm A4 Tryz.func314 rfl rfl ?_;have:=E9.eq_1 rs;exact J1
def F0(bs:List SolverBody):(List SolverBody):=bs
theorem B49(bs:List SolverBody)(h0:bs.length<=1048576):A1 Tryz.prog C7d [A2 5 SolverBody.enc default bs] [] (.sl 1 0 (F0 bs).length (F0 bs).length) [(1, .arr 5 (A8 SolverBody.enc default (F0 bs)))]:=by refine H8 hm A4 Tryz.func316 rfl rfl ?_;have:=F0.eq_1 bs;exact J1
@[simp] theorem C0w(rs:List Row):(E9 rs).length=rs.length:=by unfold E9;simp
@[simp] theorem C0v(bs:List SolverBody):(F0 bs).length=bs.length:=by unfold F0;simp
def P5(i1:Nat)(s1:(List Row)):(List Row):=let v2:=(A3k s1 (i1:Int));let v3:=(Q0 (s1.getD i1 default).Impulse v2.1 v2.2);(s1.set i1 (⟨(s1.getD i1 default).A,(s1.getD i1 default).B,(s1.getD i1 default).Normal,(s1.getD i1 default).ArmA,(s1.getD i1 default).ArmB,(s1.getD i1 default).EffectiveMass,(s1.getD i1 default).Bias,(s1.getD i1 default).Lower,(s1.getD i1 default).Upper,(s1.getD i1 default).Softness,v3,(s1.getD i1 default).FrictionOf,(s1.getD i1 default).Friction⟩:Row))
def C6(rs:List Row):(List Row):=let v1:=(E9 rs);let s1:=itr (P5) v1.length v1;s1
theorem C2p(rs:List Row)(h1:rs.length<=1048576):A1 Tryz.prog C1t [A2 14 Row.enc default rs] [] (.sl 1 0 (C6 rs).length (C6 rs).length) [(1, .arr 14 (A8 Row.enc default (C6 rs)))]:=by
 refine H8 hm A4 Tryz.func184 rfl rfl ?_;have:=C0w rs
 have:=B7s
 have:=B44
 have:=A4x
 have:=C6.eq_1 rs
 have:=λi_ s_=>P5.eq_1 i_ s_
 have:=λx_ Q_ σ_=> @lp_ Tryz.prog Tryz.f184.ntmps [] x_ Q_ σ_ hm (λ_=>True) (λi_=>((itr (P5) i_ (E9 rs))).length=(((E9 rs):(List Row))).length) (E9 rs).length (λi_=> [(0, .share, .sl 128 0 (itr (P5) i_ (E9 rs)).length (itr (P5) i_ (E9 rs)).length),(9, .share,sI ((E9 rs).length:Int)),(10, .share,sI (i_:Int))]) (λi_=> [(128, .arr 14 (A8 Row.enc default (itr (P5) i_ (E9 rs))))]) [] trivial (λi_ hI_=>T4 (λs:(List Row)=>(s).length) (λi s=>by unfold P5;(repeat' split) <;> simp) i_ _) (by simp[go_sem]) (by simp[go_sem,A6]) (by simp[go_sem]);exact J1
@[simp] theorem E0w(rs:List Row):(C6 rs).length=rs.length:=by unfold C6;rw[<-C0w rs];exact T4 (λs:List Row=>s.length) (λi s=>by unfold P5;simp) _ _
def U3(rs:List Row)(i1:Nat)(s1:(List SolverBody)):(List SolverBody):=let v2:=(P0 (rs.getD i1 default) s1 (rs.getD i1 default).Impulse);v2
def J0(rs:List Row)(bs:List SolverBody):(List SolverBody):=let v1:=(F0 bs);let s1:=itr (U3 rs) rs.length v1;s1
theorem D0y(rs:List Row)(bs:List SolverBody)(h0:bs.length<=1048576)(h1:rs.length<=1048576):A1 Tryz.prog C8w [A2 14 Row.enc default rs,A2 5 SolverBody.enc default bs] [] (.sl 1 0 (J0 rs bs).length (J0 rs bs).length) [(1, .arr 5 (A8 SolverBody.enc default (J0 rs bs)))]:=by
 refine H8 hm A4 Tryz.func185 rfl rfl ?_;have:=C0v bs
 have:=B49
 have:=A5b
 have:=J0.eq_1 rs bs
 have:=λi_ s_=>U3.eq_1 rs i_ s_
 have:=λx_ Q_ σ_=> @lp_ Tryz.prog Tryz.f185.ntmps [] x_ Q_ σ_ hm (λ_=>True) (λi_=>((itr (U3 rs) i_ (F0 bs))).length=(((F0 bs):(List SolverBody))).length) rs.length (λi_=> [(1, .share, .sl 144 0 (itr (U3 rs) i_ (F0 bs)).length (itr (U3 rs) i_ (F0 bs)).length),(9, .share,A2 14 Row.enc default rs),(10, .share,sI (rs.length:Int)),(11, .share,sI (i_:Int))]) (λi_=> [(144, .arr 5 (A8 SolverBody.enc default (itr (U3 rs) i_ (F0 bs))))]) [] trivial (λi_ hI_=>T4 (λs:(List SolverBody)=>(s).length) (λi s=>by unfold U3;(repeat' split) <;> simp) i_ _) (by simp[go_sem]) (by simp[go_sem,A6]) (by simp[go_sem]);exact J1
@[simp] theorem E45(rs:List Row)(bs:List SolverBody):(J0 rs bs).length=bs.length:=by unfold J0;rw[<-C0v bs];exact T4 (λs:List SolverBody=>s.length) (λi s=>by unfold U3;simp) _ _
def L1(i1:Nat)(s1:(List Row)×(List SolverBody)):(List Row)×(List SolverBody):=let v3:=(O3 s1.1 (i1:Int) s1.2);(v3.1,v3.2)
def S1(rs:List Row)(bs:List SolverBody):(List Row)×(List SolverBody):=let v1:=(E9 rs);let v2:=(F0 bs);let s1:=itr (L1) v1.length (v1,v2);(s1.1,s1.2)
theorem D5t(rs:List Row)(bs:List SolverBody)(h0:bs.length<=1048576)(h1:rs.length<=1048576):A1 Tryz.prog D4i [A2 14 Row.enc default rs,A2 5 SolverBody.enc default bs] [] (.tup [.sl 1 0 (S1 rs bs).1.length (S1 rs bs).1.length, .sl 2 0 (S1 rs bs).2.length (S1 rs bs).2.length]) [(1, .arr 14 (A8 Row.enc default (S1 rs bs).1)),(2, .arr 5 (A8 SolverBody.enc default (S1 rs bs).2))]:=by
 refine A7s hm A4 Tryz.func187 rfl rfl ?_;have:=C0v bs
 have:=C0w rs
 have:=B7s
 have:=B49
 have:=C99
 have:=S1.eq_1 rs bs
 have:=λi_ s_=>L1.eq_1 i_ s_
 have:=λx_ Q_ σ_=> @lp_ Tryz.prog Tryz.f187.ntmps [] x_ Q_ σ_ hm (λ_=>True) (λi_=>((itr (L1) i_ ((E9 rs),(F0 bs))).1).length=((((E9 rs),(F0 bs)):(List Row)×(List SolverBody)).1).length/\((itr (L1) i_ ((E9 rs),(F0 bs))).2).length=((((E9 rs),(F0 bs)):(List Row)×(List SolverBody)).2).length) (E9 rs).length (λi_=> [(0, .share, .sl 144 0 (itr (L1) i_ ((E9 rs),(F0 bs))).1.length (itr (L1) i_ ((E9 rs),(F0 bs))).1.length),(1, .share, .sl 176 0 (itr (L1) i_ ((E9 rs),(F0 bs))).2.length (itr (L1) i_ ((E9 rs),(F0 bs))).2.length),(12, .share,sI ((E9 rs).length:Int)),(13, .share,sI (i_:Int))]) (λi_=> [(144, .arr 14 (A8 Row.enc default (itr (L1) i_ ((E9 rs),(F0 bs))).1)),(176, .arr 5 (A8 SolverBody.enc default (itr (L1) i_ ((E9 rs),(F0 bs))).2))]) [] trivial (λi_ hI_=>⟨T4 (λs:(List Row)×(List SolverBody)=>(s.1).length) (λi s=>by unfold L1;(repeat' split) <;> simp) i_ _,T4 (λs:(List Row)×(List SolverBody)=>(s.2).length) (λi s=>by unfold L1;(repeat' split) <;> simp) i_ _⟩) (by simp[go_sem]) (by simp[go_sem,A6]) (by simp[go_sem]);exact J1
@[simp] theorem G4k(rs:List Row)(bs:List SolverBody):(S1 rs bs).1.length=rs.length:=by unfold S1;rw[<-C0w rs];exact T4 (λs:List Row×List SolverBody=>s.1.length) (λi s=>by unfold L1;simp) _ _
@[simp] theorem G4l(rs:List Row)(bs:List SolverBody):(S1 rs bs).2.length=bs.length:=by unfold S1;rw[<-C0v bs];exact T4 (λs:List Row×List SolverBody=>s.2.length) (λi s=>by unfold L1;simp) _ _
theorem E65(x low high:Int)(h:low<=high):low<=Q0 x low high/\Q0 x low high<=high:=by
 unfold Q0
 (repeat' split) <;> simp only[Bool.or_eq_true,decide_eq_true_eq,not_or]at* <;> omega
def K8(i1:Nat)(s1:(List Row)×(List SolverBody)):(List Row)×(List SolverBody):=let v4:=(S1 s1.1 s1.2);(v4.1,v4.2)
def A0k(rs:List Row)(bs:List SolverBody)(n:Int):(List Row)×(List SolverBody):=let v1:=(C6 rs);let v2:=(J0 v1 bs);let v3:=(Q0 n 0 32);let s1:=itr (K8) v3.toNat (v1,v2);(s1.1,s1.2)
theorem E0b(rs:List Row)(bs:List SolverBody)(n:Int)(h0:bs.length<=1048576)(h1:rs.length<=1048576):A1 Tryz.prog D8z [A2 14 Row.enc default rs,A2 5 SolverBody.enc default bs,sI n] [] (.tup [.sl 1 0 (A0k rs bs n).1.length (A0k rs bs n).1.length, .sl 2 0 (A0k rs bs n).2.length (A0k rs bs n).2.length]) [(1, .arr 14 (A8 Row.enc default (A0k rs bs n).1)),(2, .arr 5 (A8 SolverBody.enc default (A0k rs bs n).2))]:=by
 refine A7s hm A4 Tryz.func108 rfl rfl ?_;have:=E65 n 0 32 (by decide)
 have:=E0w rs
 have:=E45 (C6 rs) bs
 have:=C2p
 have:=D0y
 have:=A4x
 have:=D5t
 have:=A0k.eq_1 rs bs n
 have:=λi_ s_=>K8.eq_1 i_ s_
 have:=λx_ Q_ σ_=> @lp_ Tryz.prog Tryz.f108.ntmps [] x_ Q_ σ_ hm (λ_=>True) (λi_=>((itr (K8) i_ ((C6 rs),(J0 (C6 rs) bs))).1).length=((((C6 rs),(J0 (C6 rs) bs)):(List Row)×(List SolverBody)).1).length/\((itr (K8) i_ ((C6 rs),(J0 (C6 rs) bs))).2).length=((((C6 rs),(J0 (C6 rs) bs)):(List Row)×(List SolverBody)).2).length) (Q0 n 0 32).toNat (λi_=> [(0, .share, .sl 160 0 (itr (K8) i_ ((C6 rs),(J0 (C6 rs) bs))).1.length (itr (K8) i_ ((C6 rs),(J0 (C6 rs) bs))).1.length),(1, .share, .sl 208 0 (itr (K8) i_ ((C6 rs),(J0 (C6 rs) bs))).2.length (itr (K8) i_ ((C6 rs),(J0 (C6 rs) bs))).2.length),(14, .share,sI (Q0 n 0 32)),(15, .share,sI (i_:Int))]) (λi_=> [(160, .arr 14 (A8 Row.enc default (itr (K8) i_ ((C6 rs),(J0 (C6 rs) bs))).1)),(208, .arr 5 (A8 SolverBody.enc default (itr (K8) i_ ((C6 rs),(J0 (C6 rs) bs))).2))]) [] trivial (λi_ hI_=>⟨T4 (λs:(List Row)×(List SolverBody)=>(s.1).length) (λi s=>by unfold K8;(repeat' split) <;> simp) i_ _,T4 (λs:(List Row)×(List SolverBody)=>(s.2).length) (λi s=>by unfold K8;(repeat' split) <;> simp) i_ _⟩) (by simp[go_sem]) (by simp[go_sem,A6]) (by simp[go_sem]);exact J1
theorem D5o(w:Api.World)(x:B1)(hw:Wsm w)(hx:Ism x):A1 Tryz.prog C0i [.agg w.enc, .agg x.enc] [] (A2 1 B9 0 (H4 w x)) []:=by
 have h:=C06 w x hw hx
 have hle:(H4 w x).length<=(A9b w x).length:=by have h1:=B6h (A9l (A9b w x));rw[B0d]at h1;exact h1
 generalize H4 w x=B at h hle⊢;generalize(A9b w x).length=n at h hle;obtain⟨k,rfl⟩: ∃k,n=B.length+k:=⟨n-B.length,by omega⟩;rw[show B.length+k-B.length=k by omega]at h;have e:B.length+k=(A8 B9 0 (B++List.replicate k 0)).n:=by show _=(B++_:List Int).length;rw[List.length_append,List.length_replicate]
 rw[e]at h;refine h.dataRes2.res_le (A7m _ _ ?_);show M4 (.dsl 1 B.length _) (.dsl 1 B.length _);rw[A11];refine⟨rfl,rfl,λi hi=> ?_⟩;show A08 (B9 ((B++List.replicate k 0).getD i 0)) (B9 (B.getD i 0));have e2:(B++List.replicate k (0:Int)).getD i 0=B.getD i 0:=by simp only[List.getD,List.getElem?_append_left hi]
 rw[e2];exact L3 _
def pbC(w:Api.World)(x:B1)(nB:Nat)(S R A:AV):List AV:= [sI w.Settings.TimeStep,sI w.Settings.Gravity.X,sI w.Settings.Gravity.Y,sI w.Settings.Iterations,sI w.Settings.SleepSteps,A2 20 Body.enc default w.Bodies,A2 24 Joint.enc default w.Joints,A2 7 Contact.enc default w.Contacts,A2 4 PairKey.enc default w.Overlaps,sI w.NextID,sI w.Frame,A2 1 B9 0 x.Bodies,A2 1 B9 0 x.Contacts,A2 1 B9 0 x.Joints, .sl 1 0 nB nB,A2 1 B9 0 (H4 w x),S,R,A]
def pbO(w:Api.World)(x:B1)(B:List Body)(S:List SolverBody)(R:List Row)(A:List Int):List (Nat×A5):=[(6, .box (pbC w x B.length (.sl 3 0 S.length S.length) (.sl 4 0 R.length R.length) (.sl 5 0 A.length A.length))),(1, .arr 20 (A8 Body.enc default B)),(3, .frz 5 (A8 SolverBody.enc default S)),(4, .arr 14 (A8 Row.enc default R)),(5, .arr 1 (A8 B9 0 A))]
attribute [go_sem] pbC pbO
def pfO(w:Api.World)(x:B1)(B:List Body)(S:List SolverBody)(R:List Row)(A:List Int)(id:Int):List (Nat×A5):=(48, .box [.ptr 6 0 0 1])::(64, .box [sI id])::pbO w x B S R A
attribute [go_sem] pfO
theorem A55 {w:Api.World}{x:B1}{B:List Body}{S:List SolverBody}{R:List Row}{A:List Int}:okO (pbO w x B S R A):=by
 refine⟨by simp[pbO],λp hp cs e j hj=> ?_⟩;simp only[pbO,List.mem_cons,List.not_mem_nil,or_false]at hp;rcases hp with rfl |rfl |rfl |rfl |rfl
 ·simp only[A5.box.injEq]at e;subst e;simp[pbC,F4,AV.ids,A2]at hj;rcases hj with rfl |rfl |rfl |rfl <;> rfl
 all_goals cases e
theorem D9p {w:Api.World}{x:B1}{B:List Body}{S:List SolverBody}{R:List Row}{A:List Int}{id:Int}:okO (pfO w x B S R A id):=by
 refine⟨by simp[pfO,pbO],λp hp cs e j hj=> ?_⟩;simp only[pfO,pbO,List.mem_cons,List.not_mem_nil,or_false]at hp;rcases hp with rfl |rfl |rfl |rfl |rfl |rfl |rfl
 ·simp only[A5.box.injEq]at e;subst e;simp[F4,AV.ids]at hj;subst hj;rfl
 ·simp only[A5.box.injEq]at e;subst e;simp[F4,AV.ids]at hj
 ·simp only[A5.box.injEq]at e;subst e;simp[pbC,F4,AV.ids,A2]at hj;rcases hj with rfl |rfl |rfl |rfl <;> rfl
 all_goals cases e
theorem F34(w:Api.World)(x:B1)(B:List Body)(S:List SolverBody)(R:List Row)(A:List Int)(id i:Int)(h0:0<=i)(h1:i<B.length):
  A1 Tryz.prog A30 [sI i, .ptr 48 0 0 1, .ptr 64 0 0 1] (pfO w x B S R A id) (sB ((B.getD i.toNat default).ID==id)) (pfO w x B S R A id):=by
 refine H8 hm A4 Tryz.func191 rfl rfl ?_;simp only[go_sem,go_sem_proc];refine⟨bE_,?_⟩;refine V7 [.share] [] [] ?_;simp only[go_sem,go_sem_proc];exact eE_
def pfK(w:Api.World)(x:B1)(B:List Body)(id:Int):Int:=B1c (λi=>(B.getD i.toNat default).ID==id) (H4 w x)
def pfR(w:Api.World)(x:B1)(B:List Body)(id:Int):Body×Int:=if pfK w x B id<0 then(zB,-1)else(B.getD ((H4 w x).getD (pfK w x B id).toNat 0).toNat default,pfK w x B id)
theorem D9l {p:Int->Bool}{l:List Int}: -1<=B1c p l/\B1c p l<l.length:=by
 unfold B1c;split
 ·rename_i i h;have:=List.mem_of_find?_eq_some h;rw[List.mem_range]at this;omega
 ·omega
theorem B5a(w:Api.World)(x:B1)(B:List Body)(S:List SolverBody)(R:List Row)(A:List Int)(id:Int)(hb: ∀i∈H4 w x,0<=i/\i<B.length)(hl:(H4 w x).length<=1000000000):
  A1 Tryz.prog B41 [.ptr 6 0 0 1,sI id] (pbO w x B S R A) (.tup [.agg (pfR w x B id).1.enc,sI ((pfR w x B id).2)]) (pbO w x B S R A):=by
 have hF:=A69 (H4 w x) A30 [] [.ptr 48 0 0 1, .ptr 64 0 0 1] (pfO w x B S R A id) (λi=>(B.getD i.toNat default).ID==id) hl D9p
  (by intro j hj;simp[AV.ids,F4]at hj;rcases hj with rfl |rfl <;> rfl) (λi hi=>F34 w x B S R A id i (hb i hi).1 (hb i hi).2)
 have hr:=pfR.eq_1 w x B id
 have hk:=D9l (p:=λi=>(B.getD i.toNat default).ID==id) (l:=H4 w x);rw[show B1c (λi=>(B.getD i.toNat default).ID==id) (H4 w x)=pfK w x B id from rfl]at hF hk;generalize pfK w x B id=k at hF hr hk;refine C0q 30 [(4,some (some 20)),(5,none)] hm A4 Tryz.func111 rfl ?_;simp only[go_sem,go_sem_proc];refine E6 hF D9p D9p (by simp[pfO,pbO]) (by simp[pfO,pbO,pbC,upd,A2,go_sem,go_sem_proc]) (by simp[pfO,pbO]) ?_ rfl ?_
 ·intro a ha j hj;simp only[List.mem_cons,List.not_mem_nil,or_false]at ha;rcases ha with rfl |rfl
  ·simp[AV.ids]at hj
  ·simp[AV.ids,F4]at hj;rcases hj with rfl |rfl <;> rfl
 simp only[go_sem,go_sem_proc];by_cases hn:k<0
 ·rw[if_pos hn]at hr⊢;rw[hr];refine V7 [.thaw, .share] [] [] ?_;simp only[go_sem,go_sem_proc,zB];exact eE_
 rw[if_neg hn]at hr⊢;rw[hr];have hbk:=hb _ (B7 (l:=H4 w x) (i:=k.toNat) 0 (by omega));refine⟨by omega,by omega,?_⟩;refine V7 [.share, .share] [] [] ?_;simp only[go_sem,go_sem_proc];exact eE_
theorem B6y(w:Api.World)(x:B1)(B:List Body)(S:List SolverBody)(R:List Row)(A:List Int)(l:List Row)(hR:R.length+l.length<=100000000)(hA:A.length<=100000000):
  A1 Tryz.prog C8y [.ptr 6 0 0 1,A2 14 Row.enc default l] (pbO w x B S R A) (.tup []) (pbO w x B S (R++l) (A++ [(R.length:Int)])):=by
 refine A7s hm A4 Tryz.func181 rfl rfl ?_;simp only[go_sem,go_sem_proc];refine⟨bE_,bE_,?_⟩;refine V7 [] [] [] ?_;simp only[go_sem,go_sem_proc];exact eE_
def E28(w:Api.World)(i:Nat)(idx:Int)(B:List Body):List Body:=B.set idx.toNat (V1 (B.getD idx.toNat default) w.Settings)
def vB(w:Api.World)(x:B1)(n:Nat):List Body:=itr (λk B=>E28 w k (x.Bodies.getD k 0) B) n w.Bodies
theorem B4t(w:Api.World)(x:B1)(n:Nat):(vB w x n).length=w.Bodies.length:=T4 (λs:List Body=>s.length) (λi s=>by simp[E28]) n _
theorem G0h(b:Body)(s:Settings):(V1 b s).Fixtures=b.Fixtures/\(V1 b s).ID=b.ID/\(V1 b s).Kind=b.Kind:=by
 unfold V1;dsimp only
 (repeat' split) <;> exact⟨rfl,rfl,rfl⟩
theorem gsS {α:Type}{l:List α}{k:Nat}{v d:α}(h:k<l.length):(l.set k v).getD k d=v:=by simp only[List.getD,List.getElem?_set_self h,Option.getD_some]
theorem gsN {α:Type}{l:List α}{i k:Nat}{v d:α}(h:i≠k):(l.set i v).getD k d=l.getD k d:=by simp only[List.getD,List.getElem?_set_ne h]
theorem E58(w:Api.World)(x:B1): ∀n k,((vB w x n).getD k default).Fixtures=(w.Bodies.getD k default).Fixtures/\((vB w x n).getD k default).ID=(w.Bodies.getD k default).ID/\((vB w x n).getD k default).Kind=(w.Bodies.getD k default).Kind
 |0,k=>⟨rfl,rfl,rfl⟩
 |n+1,k=>by
  have ih:=E58 w x n;rw[show vB w x (n+1)=E28 w n (x.Bodies.getD n 0) (vB w x n)from E4 ..];generalize vB w x n=B at ih⊢;unfold E28;generalize(x.Bodies.getD n 0).toNat=q;by_cases h:q=k
  ·subst h;by_cases hl:q<B.length
   ·rw[gsS hl];have h1:=G0h (B.getD q default) w.Settings
    have h2:=ih q;exact⟨h1.1.trans h2.1,h1.2.1.trans h2.2.1,h1.2.2.trans h2.2.2⟩
   ·rw[List.set_eq_of_length_le (by omega)];exact ih q
  ·rw[gsN h];exact ih k
theorem E27 {w:Api.World}(hw:Wsm w)(x:B1)(n:Nat): ∀b∈vB w x n,Body.sm b:=by intro b hb;obtain⟨k,hk,rfl⟩:=List.getElem_of_mem hb;have h:=(E58 w x n k).1;rw[show(vB w x n).getD k default=(vB w x n)[k]by simp[List.getD,hk]]at h;rw[B4t]at hk;have h2:=hw.2.2.2.2.1 _ (B7 (l:=w.Bodies) default hk);unfold Body.sm at h2⊢;rwa[h]
def vS(w:Api.World)(x:B1)(n:Nat):List SolverBody:=((H4 w x).take n).map λi=>A3c ((vB w x x.Bodies.length).getD i.toNat default)
def fB(w:Api.World)(x:B1)(id:Int):Body×Int:=pfR w x (vB w x x.Bodies.length) id
def S0(w:Api.World)(x:B1):List SolverBody:=vS w x (H4 w x).length
def C9l(w:Api.World)(x:B1)(k:Nat):List Row:=J5 (w.Joints.getD (x.Joints.getD k 0).toNat default) (fB w x (w.Joints.getD (x.Joints.getD k 0).toNat default).BodyA).1 (fB w x (w.Joints.getD (x.Joints.getD k 0).toNat default).BodyB).1 (fB w x (w.Joints.getD (x.Joints.getD k 0).toNat default).BodyA).2 (fB w x (w.Joints.getD (x.Joints.getD k 0).toNat default).BodyB).2 (S0 w x) w.Settings.TimeStep
def A9k(l:List Row)(s:List Row×List Int):List Row×List Int:=(s.1++l,s.2++ [(s.1.length:Int)])
def jRA(w:Api.World)(x:B1)(n:Nat):List Row×List Int:=itr (λk s=>A9k (C9l w x k) s) n ([],[])
def D4y(w:Api.World)(x:B1)(k:Nat)(base:Int):List Row:=A4e (w.Contacts.getD (x.Contacts.getD k 0).toNat default) (fB w x (w.Contacts.getD (x.Contacts.getD k 0).toNat default).Key.BodyA).1 (fB w x (w.Contacts.getD (x.Contacts.getD k 0).toNat default).Key.BodyB).1 (fB w x (w.Contacts.getD (x.Contacts.getD k 0).toNat default).Key.BodyA).2 (fB w x (w.Contacts.getD (x.Contacts.getD k 0).toNat default).Key.BodyB).2 base (S0 w x) w.Settings.TimeStep
def cRA(w:Api.World)(x:B1)(n:Nat):List Row×List Int:=itr (λk s=>A9k (D4y w x k (s.1.length:Int)) s) n (jRA w x x.Joints.length)
theorem D9m(w:Api.World)(x:B1): ∀n,(jRA w x n).1.length<=4*n/\(jRA w x n).2.length=n
 |0=>⟨Nat.le_refl _,rfl⟩
 |n+1=>by have ih:=D9m w x n;rw[show jRA w x (n+1)=A9k (C9l w x n) (jRA w x n)from E4 ..];have h:(C9l w x n).length<=4:=C5o ..;simp only[A9k,List.length_append,List.length_singleton];omega
theorem E0p(c:Contact)(a b:Body)(ia ib base:Int)(s:List SolverBody)(dt:Int):(A4e c a b ia ib base s dt).length<=2*c.Manifold.Points.length:=by
 unfold A4e;dsimp only;split
 ·exact Nat.zero_le _
 ·have: ∀n,(itr (R5 c ia ib base s dt (E5 a) (E5 b) (N5 (B8 a c.Key.FixtureA).1 (B8 b c.Key.FixtureB).1) (L6 (B8 a c.Key.FixtureA).1 (B8 b c.Key.FixtureB).1) (A0l c.Manifold.Normal)) n []).length<=2*n:=by
   intro n;induction n with
   |zero=>exact Nat.le_refl _
   |succ n ih=>rw[E4];unfold R5 at ih⊢;dsimp only at ih⊢;rw[List.length_append];simp only[List.length_cons,List.length_nil];omega
  exact this _
end Go.Abs
end
