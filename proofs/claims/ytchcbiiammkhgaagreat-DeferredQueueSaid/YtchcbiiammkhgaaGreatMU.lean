/- A part of the proof: contracts of functions that the statement reaches. -/
import Derived.Test.YtchcbiiammkhgaaGreatMT
set_option linter.unusedSimpArgs false
set_option linter.unusedVariables false
set_option linter.unnecessarySimpa false
set_option maxRecDepth 100000
set_option maxHeartbeats 2000000
noncomputable section
namespace Go.Abs
open Go.Proofs
open Api
def Ob {α:Type}(z:Nat)(enc:α->List AV)(d:α)(l:List α):List (Nat×A5):= [(1, .box [.sl 2 0 l.length l.length]),(2, .arr z (A8 enc d l))]
theorem D7d {α:Type}{z:Nat}{enc:α->List AV}{d:α}{l:List α}:okO (Ob z enc d l):=by
 refine⟨by simp[Ob],λp hp cs e j hj=> ?_⟩;simp only[Ob,List.mem_cons,List.not_mem_nil,or_false]at hp;rcases hp with rfl |rfl
 ·simp only[A5.box.injEq]at e;subst e;simp[F4,AV.ids]at hj;subst hj;rfl
 ·cases e
def feF {α:Type}(mask:Int)(vis:Body->Nat->List α->List α)(b:Body)(i:Nat)(l:List α):List α:=if A6j (b.Fixtures.getD i default) mask=true then vis b i l else l
def feB {α:Type}(w:Api.World)(mask:Int)(vis:Body->Nat->List α->List α)(i:Nat)(l:List α):List α:=itr (feF mask vis (w.Bodies.getD i default)) (w.Bodies.getD i default).Fixtures.length l
def feR {α:Type}(w:Api.World)(mask:Int)(vis:Body->Nat->List α->List α)(l:List α):List α:=if F2 w=0 then itr (feB w mask vis) w.Bodies.length l else l
theorem D9i {α:Type}{mask:Int}{vis:Body->Nat->List α->List α}(hvl: ∀b i l,(vis b i l).length<=l.length+1)(b:Body)(l:List α): ∀n,(itr (feF mask vis b) n l).length<=l.length+n
 |0=>Nat.le_refl _
 |n+1=>by
  have h:=D9i (mask:=mask) hvl b l n;rw[show itr (feF mask vis b) (n+1) l=feF mask vis b n (itr (feF mask vis b) n l)from E4 ..];generalize itr (feF mask vis b) n l=v at h⊢;unfold feF;split
  ·have:=hvl b n v;omega
  ·omega
theorem D9h {α:Type}{w:Api.World}{mask:Int}{vis:Body->Nat->List α->List α}(hvl: ∀b i l,(vis b i l).length<=l.length+1)(hq: ∀b∈w.Bodies,b.Fixtures.length<=1000)(l:List α): ∀n,n<=w.Bodies.length->(itr (feB w mask vis) n l).length<=l.length+1000*n
 |0,_=>Nat.le_refl _
 |n+1,hn=>by
  have h:=D9h (mask:=mask) hvl hq l n (by omega);rw[show itr (feB w mask vis) (n+1) l=feB w mask vis n (itr (feB w mask vis) n l)from E4 ..];generalize itr (feB w mask vis) n l=v at h⊢;unfold feB;have h1:=D9i (mask:=mask) hvl (w.Bodies.getD n default) v (w.Bodies.getD n default).Fixtures.length
  have h2:=hq (w.Bodies.getD n default) (B7 default (by omega));omega
theorem D7w {α:Type}{z:Nat}{enc:α->List AV}{d:α}(w:Api.World)(mask:Int)(f:FuncId)(cap:List AV)(vis:Body->Nat->List α->List α)(hw:Wsm w)(hq: ∀b∈w.Bodies,b.Fixtures.length<=1000)(hq2:w.Bodies.length<=1000)(h2:F4 cap= [])
  (hv: ∀b∈w.Bodies,∀(i:Nat),i<b.Fixtures.length-> ∀l:List α,l.length<=2000000->A1 Tryz.prog f ([.agg b.enc,sI i]++(cap++ [.ptr 1 0 0 1])) (Ob z enc d l) (.tup []) (Ob z enc d (vis b i l)))
  (hvl: ∀b i l,(vis b i l).length<=l.length+1)(l0:List α)(hl0:l0.length<=1000):
  A1 Tryz.prog D6b [.agg w.enc,sI mask, .fn (.func f) [] (cap++ [.ptr 1 0 0 1])] (Ob z enc d l0) (.tup []) (Ob z enc d (feR w mask vis l0)):=by
 refine A7s hm A4 Tryz.func261 rfl rfl ?_;unfold feR;simp only[go_sem,go_sem_proc,Ob];refine A0 (S3 w hw) rfl ?_;simp only[go_sem,go_sem_proc];by_cases hval:F2 w=0;rotate_left
 ·rw[if_pos (by simpa using hval),if_neg hval];refine C8 [] [] [] rfl rfl (by simp[go_sem,Ob]) (by simp[A6,go_sem,Ob]) (by simp[go_sem,Ob,A6]) ?_;simp only[go_sem,go_sem_proc,Ob]
 rw[if_neg (by simpa using hval),if_pos hval];refine B0 hm (ι:= {i:Nat // i<=w.Bodies.length}) (λi=> [(1, .share,sI mask),(2, .share, .fn (.func f) [] (cap++ [.ptr 1 0 0 1])),(14, .share,A2 20 Body.enc default w.Bodies),(15, .share,sI w.Bodies.length),(16, .share,sI (i.1:Nat))]) (λi=>Ob z enc d (itr (feB w mask vis) i.1 l0)) (λi=>w.Bodies.length-i.1) ⟨0,Nat.zero_le _⟩ ?_ ?_
 ·simp only[H3];refine B6 [] [] (by simp[go_sem,Ob]) (by simp[A6,go_sem,Ob]) (by simp[go_sem,Ob,A6]) ?_;simp only[go_sem,go_sem_proc,Ob];exact⟨(AV.ren_id (.fn (.func f) [] (cap++ [.ptr 1 0 0 1]))).symm,(λi hi=>by rw[A64,h2]at hi;simp[F4,AV.ids]at hi;subst hi;rfl)⟩
 ·rintro⟨i,hi⟩;dsimp only;have hlen:=D9h (w:=w) (mask:=mask) hvl hq l0 i hi
  have hnext:itr (feB w mask vis) (i+1) l0=feB w mask vis i (itr (feB w mask vis) i l0):=E4 ..
  have hfin:w.Bodies.length<=i->itr (feB w mask vis) i l0=itr (feB w mask vis) w.Bodies.length l0:=λh=>by rw[show i=w.Bodies.length by omega]
  generalize itr (feB w mask vis) i l0=v at hlen hnext hfin⊢;simp only[go_sem,go_sem_proc,Ob];split;rotate_left
  ·rename_i hge;rw[<-hfin (by omega)];refine C8 [] [] [] rfl rfl (by simp[go_sem]) (by simp[A6,go_sem]) (by simp[go_sem,A6]) ?_;simp only[go_sem,go_sem_proc]
  rename_i hlt;have hlt:i<w.Bodies.length:=by omega
  have hbm:=B7 (l:=w.Bodies) default hlt
  have hqb:=hq _ hbm;generalize hbd:w.Bodies.getD i default=b at hbm hqb⊢;replace hnext:itr (feB w mask vis) (i+1) l0=itr (feF mask vis b) b.Fixtures.length v:=by rw[hnext];unfold feB;rw[hbd]
  refine⟨⟨by omega,by omega⟩,?_⟩;refine B0 hm (ι:= {k:Nat // k<=b.Fixtures.length}) (λk=> [(1, .share,sI mask),(2, .share, .fn (.func f) [] (cap++ [.ptr 1 0 0 1])),(14, .share,A2 20 Body.enc default w.Bodies),(15, .share,sI w.Bodies.length),(16, .share,sI (i:Nat)),(7, .thaw, .fptr b.enc),(21, .share,A2 10 Fixture.enc default b.Fixtures),(22, .share,sI b.Fixtures.length),(23, .share,sI (k.1:Nat))]) (λk=>Ob z enc d (itr (feF mask vis b) k.1 v)) (λk=>b.Fixtures.length-k.1) ⟨0,Nat.zero_le _⟩ ?_ ?_
  ·simp only[H3];refine B6 [] [] (by simp[go_sem,Ob]) (by simp[A6,go_sem,Ob]) (by simp[go_sem,Ob,A6]) ?_;simp only[go_sem,go_sem_proc,Ob,A0g];exact⟨(AV.ren_id (.fn (.func f) [] (cap++ [.ptr 1 0 0 1]))).symm,(λi hi=>by rw[A64,h2]at hi;simp[F4,AV.ids]at hi;subst hi;rfl)⟩
  ·rintro⟨k,hk⟩;dsimp only;have hlen2:=D9i (mask:=mask) hvl b v k
   have hnext2:itr (feF mask vis b) (k+1) v=feF mask vis b k (itr (feF mask vis b) k v):=E4 ..
   have hfin2:b.Fixtures.length<=k->itr (feF mask vis b) k v=itr (feF mask vis b) b.Fixtures.length v:=λh=>by rw[show k=b.Fixtures.length by omega]
   generalize itr (feF mask vis b) k v=u at hlen2 hnext2 hfin2⊢;simp only[go_sem,go_sem_proc,Ob];split;rotate_left
   ·refine A7 ⟨i+1,hlt⟩ (by show w.Bodies.length-(i+1)<w.Bodies.length-i;omega) ?_;simp only[hnext];rw[<-hfin2 (by omega)];refine B6 [] [] (by simp[go_sem,Ob]) (by simp[A6,go_sem,Ob]) (by simp[go_sem,Ob,A6]) ?_;simp only[go_sem,go_sem_proc,Ob];exact⟨(AV.ren_id (.fn (.func f) [] (cap++ [.ptr 1 0 0 1]))).symm,(λi hi=>by rw[A64,h2]at hi;simp[F4,AV.ids]at hi;subst hi;rfl),(by rw[IntKind.wrap_i64];omega)⟩
   rename_i hlt2;have hlt2:k<b.Fixtures.length:=by omega
   refine⟨⟨by omega,by omega⟩,?_⟩;refine A0 (D0n (b.Fixtures.getD k default) mask) rfl ?_;simp only[go_sem,go_sem_proc];by_cases hc:A6j (b.Fixtures.getD k default) mask=true
   ·rw[if_pos hc];replace hnext2:itr (feF mask vis b) (k+1) v=vis b k u:=by rw[hnext2];unfold feF;rw[if_pos hc]
    refine E6 (hv b hbm k hlt2 u (by omega)) D7d D7d (by simp[Ob]) (by simp[Ob,upd]) (by simp[Ob]) ?_ rfl ?_
    ·intro a ha j hj;have hids: ∀x:List AV,F4 ([.agg b.enc,sI (k:Int)]++(cap++ [.ptr 1 0 0 1]))= [1]:=λ_=>by rw[A64,A64,h2];simp[F4,AV.ids,Body.enc,A2]
     obtain⟨q,hq⟩:=List.getElem?_of_mem ha;have:=N3 hq j hj
     have this2:j∈F4 ([.agg b.enc,sI (k:Int)]++(cap++ [.ptr 1 0 0 1])):=this;rw[hids []]at this2;simp at this2;subst this2;rfl
    simp only[go_sem,go_sem_proc];refine A7 ⟨k+1,hlt2⟩ (by show b.Fixtures.length-(k+1)<b.Fixtures.length-k;omega) ?_;simp only[hnext2];refine B6 [] [] (by simp[go_sem,Ob]) (by simp[A6,go_sem,Ob]) (by simp[go_sem,Ob,A6]) ?_;simp only[go_sem,go_sem_proc,Ob];exact⟨(AV.ren_id (.fn (.func f) [] (cap++ [.ptr 1 0 0 1]))).symm,(λi hi=>by rw[A64,h2]at hi;simp[F4,AV.ids]at hi;subst hi;rfl),(by rw[IntKind.wrap_i64];omega)⟩
   ·rw[if_neg hc];replace hnext2:itr (feF mask vis b) (k+1) v=u:=by rw[hnext2];unfold feF;rw[if_neg hc]
    refine A7 ⟨k+1,hlt2⟩ (by show b.Fixtures.length-(k+1)<b.Fixtures.length-k;omega) ?_;simp only[hnext2];refine B6 [] [] (by simp[go_sem,Ob]) (by simp[A6,go_sem,Ob]) (by simp[go_sem,Ob,A6]) ?_;simp only[go_sem,go_sem_proc,Ob];exact⟨(AV.ren_id (.fn (.func f) [] (cap++ [.ptr 1 0 0 1]))).symm,(λi hi=>by rw[A64,h2]at hi;simp[F4,AV.ids]at hi;subst hi;rfl),(by rw[IntKind.wrap_i64];omega)⟩
end Go.Abs
end
noncomputable section
namespace Go.Abs
open Go.Proofs
open Api
end Go.Abs
namespace Go.Api
open Go.Abs
structure RayHit where
 Body:Int
 Fixture:Int
 Fraction:Int
 Point:Vec
 Normal:Vec
 deriving DecidableEq,Inhabited
def RayHit.enc(x:RayHit):List AV:=[sI x.Body,sI x.Fixture,sI x.Fraction,sI x.Point.X,sI x.Point.Y,sI x.Normal.X,sI x.Normal.Y]
def RayHit.zero:List AV:= [sI 0,sI 0,sI 0,sI 0,sI 0,sI 0,sI 0]
attribute [go_sem] RayHit.enc RayHit.zero
@[go_sem] theorem G3a(x:RayHit):RayHit.mk x.Body x.Fixture x.Fraction x.Point x.Normal=x:=rfl
end Go.Api
namespace Go.Abs
open Go.Proofs Api
end Go.Abs
end
noncomputable section
namespace Go.Abs
open Go.Proofs
open Api
def D04(c:Shape->Transform->Bool)(b:Body)(i:Nat)(l:List Int):List Int:=if c (b.Fixtures.getD i default).Shape b.Transform=true then l++ [b.ID]else l
theorem E59(c:Shape->Transform->Bool)(b:Body)(i:Nat)(l:List Int):(D04 c b i l).length<=l.length+1:=by
 unfold D04;split
 ·rw[List.length_append,List.length_singleton];omega
 ·omega
theorem E96 {α:Type}{z n n':Nat}{enc:α->List AV}{d:α}{l m:List α}(hn:n=l.length)(hn':n'=l.length):M4 (.dsl z n (L7 enc d (l++m))) (.dsl z n' (L7 enc d l)):=by
 subst hn;subst hn';rw[A11];refine⟨rfl,rfl,λk hk=> ?_⟩;have:L7 enc d (l++m) k=L7 enc d l k:=by simp[L7,List.getD,List.getElem?_append_left hk]
 rw[this];exact L3 _
theorem F95(g:FuncId)(pc:List AV)(c:Shape->Transform->Bool)(b:Body)(i:Nat)(l:List Int)(hb:Body.sm b)(hi:i<b.Fixtures.length)(hl:l.length<=2000000)(h2:F4 pc= [])
  (hg: ∀(s:Shape) (t:Transform),s.Vertices.length<=1048576->A1 Tryz.prog g [.agg s.enc, .agg t.enc, .fptr pc] [] (sB (c s t)) []):
  A1 Tryz.prog B2z ([.agg b.enc,sI i]++([.fptr [.fn (.func g) [] [.fptr pc]]]++ [.ptr 1 0 0 1])) (Ob 1 B9 0 l) (.tup []) (Ob 1 B9 0 (D04 c b i l)):=by
 refine A7s hm A4 Tryz.func267 rfl rfl ?_;simp only[go_sem,go_sem_proc,Ob];refine⟨⟨by omega,by omega⟩,?_⟩;refine B5w (hg (b.Fixtures.getD i default).Shape b.Transform (hb.2 _ (B7 default hi))) (by simp[F4,AV.ids]) rfl ?_;unfold D04;generalize c (b.Fixtures.getD i default).Shape b.Transform=t;simp only[go_sem,go_sem_proc];cases t with
 |false=>rw[if_neg (by simp),if_neg (by simp)];refine C8 [] [] [] rfl rfl (by simp[go_sem,Ob]) (by simp[A6,go_sem,Ob]) (by simp[go_sem,Ob,A6]) ?_;simp only[go_sem,go_sem_proc,Ob]
 |true=>rw[if_pos rfl,if_pos rfl];refine⟨⟨by omega,by unfold maxLen;omega⟩,?_⟩;refine C8 [] [] [] rfl rfl (by simp[go_sem,Ob]) (by simp[A6,go_sem,Ob]) (by simp[go_sem,Ob,A6]) ?_;simp only[go_sem,go_sem_proc,Ob,List.length_append,List.length_singleton];exact A1q _ rfl rfl
def bwL(w:Api.World)(mask:Int)(c:Shape->Transform->Bool):List Int:=B2a (A9l (feR w mask (D04 c) []))
theorem D0m(w:Api.World)(mask:Int)(g:FuncId)(pc:List AV)(c:Shape->Transform->Bool)(hw:Wsm w)(hq: ∀b∈w.Bodies,b.Fixtures.length<=1000)(hq2:w.Bodies.length<=1000)(h2:F4 pc= [])(h3:A0g pc=true)
  (hg: ∀(s:Shape) (t:Transform),s.Vertices.length<=1048576->A1 Tryz.prog g [.agg s.enc, .agg t.enc, .fptr pc] [] (sB (c s t)) []):
  A1 Tryz.prog C8h [.agg w.enc,sI mask, .fn (.func g) [] [.fptr pc]] [] (A2 1 B9 0 (bwL w mask c)) []:=by
 have hlen:(feR w mask (D04 c) []).length<=1000000:=by
  unfold feR;split
  ·have:=D9h (mask:=mask) (E59 c) hq [] w.Bodies.length (Nat.le_refl _)
   simp only[List.length_nil]at this;omega
  ·simp
 refine F5f hm A4 Tryz.func164 rfl rfl ?_;refine C4 [(1, .share,sI mask),(3, .thaw, .fptr w.enc),(5, .thaw, .fptr [.fn (.func g) [] [.fptr pc]])] [] (E0 hm ?_) ?_
 ·simp only[go_sem,go_sem_proc];refine B6 [] [] (by simp[go_sem]) (by simp[A6,go_sem]) (by simp[go_sem]) ?_;simp only[go_sem,go_sem_proc,A0g]
 refine C4 [(1, .share,sI mask),(3, .share, .fptr w.enc),(5, .share, .fptr [.fn (.func g) [] [.fptr pc]]),(7, .share, .ptr 1 0 0 1)] (Ob 1 B9 0 []) (E0 hm ?_) ?_
 ·simp only[go_sem,go_sem_proc];refine B6 [(1,128)] [2] (by simp[go_sem,Ob]) (by simp[A6,go_sem,Ob]) (by simp[go_sem,Ob]) ?_;simp only[go_sem,go_sem_proc,Ob]
 refine E0 hm ?_;simp only[go_sem,go_sem_proc,Ob];have hF:=D7w (z:=1) (enc:=B9) (d:=0) w mask B2z [.fptr [.fn (.func g) [] [.fptr pc]]] (D04 c) hw hq hq2 (by simp[F4,AV.ids]) (λb hb i hi l hl=>F95 g pc c b i l (hw.2.2.2.2.1 b hb) hi hl h2 hg) (E59 c) [] (by simp);generalize hfe:feR w mask (D04 c) []=r at hF hlen;refine E6 hF D7d D7d (by simp[Ob]) (by simp[Ob,upd]) (by simp[Ob]) ?_ rfl ?_
 ·intro a ha j hj;obtain⟨k,hk⟩:=List.getElem?_of_mem ha;have:=N3 hk j hj;simp[F4,AV.ids]at this;subst this;rfl
 simp only[go_sem,go_sem_proc,Ob];refine E3 [true] [(1,2)] (B7r r (by omega)) (by simp) (by simp) (by simp) (by simp[go_sem]) ?_;simp only[go_sem,go_sem_proc];have hC:=B4k (A9l r) (by rw[B0d];omega);rw[B0d]at hC;refine E3 [true] [(1,2)] hC (by simp) (by simp) (by simp) (by simp[go_sem]) ?_;simp only[go_sem,go_sem_proc];rw[show bwL w mask c=B2a (A9l r)by unfold bwL;rw[hfe]];exact⟨by have:=B6h (A9l r);rw[B0d]at this;simp;omega,E96 rfl rfl⟩
theorem F6p(p:Vec)(s:Shape)(t:Transform)(h0:s.Vertices.length<=1048576):A1 Tryz.prog A9w [.agg s.enc, .agg t.enc, .fptr p.enc] [] (sB (Y3 s t p)) []:=by refine en1 hm A4 Tryz.func165 rfl rfl ?_;simp only[go_sem,go_sem_proc];refine A0 (B3d s t p h0) rfl ?_;simp only[go_sem,go_sem_proc]
def D88(w:Api.World)(p:Vec)(mask:Int):List Int:=bwL w mask λs t=>Y3 s t p
theorem C3y(w:Api.World)(p:Vec)(mask:Int)(hw:Wsm w)(hq: ∀b∈w.Bodies,b.Fixtures.length<=1000)(hq2:w.Bodies.length<=1000):A1 Tryz.prog C23 [.agg w.enc, .agg p.enc,sI mask] [] (A2 1 B9 0 (D88 w p mask)) []:=by refine en1 hm A4 Tryz.func102 rfl rfl ?_;simp only[go_sem,go_sem_proc];refine A5j (D0m w mask A9w p.enc (λs t=>Y3 s t p) hw hq hq2 (by simp[F4,AV.ids,Vec.enc]) rfl (λs t h=>F6p p s t h)) ?_;simp only[A07,go_sem,go_sem_proc,A0g];exact I4 _
end Go.Abs
end
noncomputable section
namespace Go.Abs
open Go.Proofs
open Api
end Go.Abs
namespace Go.Api
open Go.Abs
structure Response where
 Hit:RayHit
 Found:Bool
 Bodies:List Int
 NewID:Int
 Err:Int
 deriving DecidableEq,Inhabited
def Response.enc(x:Response):List AV:=[sI x.Hit.Body,sI x.Hit.Fixture,sI x.Hit.Fraction,sI x.Hit.Point.X,sI x.Hit.Point.Y,sI x.Hit.Normal.X,sI x.Hit.Normal.Y,sB x.Found,A2 1 B9 0 x.Bodies,sI x.NewID,sI x.Err]
def Response.zero:List AV:= [sI 0,sI 0,sI 0,sI 0,sI 0,sI 0,sI 0,sB false, .sc (.slice none 0 0),sI 0,sI 0]
attribute [go_sem] Response.enc Response.zero
@[go_sem] theorem G1c(x:Response):Response.mk x.Hit x.Found x.Bodies x.NewID x.Err=x:=rfl
end Go.Api
namespace Go.Abs
open Go.Proofs Api
theorem A77(w:Api.World)(h:Wsm w):A1 Tryz.prog C6k [.agg w.enc] [] (.agg w.enc) []:=by
 obtain⟨h1,h2,h3,h4,h5,h6⟩:=h;refine D1e 56 [(2,some (some 11))] hm A4 Tryz.func48 rfl ?_;simp only[go_sem,go_sem_proc];refine E3 [false] [(1,1)] (A9g w.Bodies h1) (by simp) (by simp) (by simp) (by simp) ?_;simp only[go_sem,go_sem_proc];refine E3 [false] [(1,2)] (A8s w.Joints h2) (by simp) (by simp) (by simp) (by simp) ?_;simp only[go_sem,go_sem_proc];refine E3 [false] [(1,3)] (B14 w.Contacts h3) (by simp) (by simp) (by simp) (by simp) ?_;simp only[go_sem,go_sem_proc];refine E3 [false] [(1,4)] (B15 w.Overlaps h4) (by simp) (by simp) (by simp) (by simp) ?_;simp only[go_sem,go_sem_proc];refine B0 hm (ι:= {i:Nat // i<=w.Bodies.length}) (λi=> [(1, .share, .ptr 32 0 0 1),(2, .share, .ptr 48 0 0 1),(24, .share, .sl 1 0 w.Bodies.length w.Bodies.length),(25, .share,sI w.Bodies.length),(26, .share,sI i.1)])
  (λi=>(32, .box [sI w.Settings.TimeStep,sI w.Settings.Gravity.X,sI w.Settings.Gravity.Y,sI w.Settings.Iterations,sI w.Settings.SleepSteps,
 .sl 1 0 w.Bodies.length w.Bodies.length, .sl 2 0 w.Joints.length w.Joints.length, .sl 3 0 w.Contacts.length w.Contacts.length, .sl 4 0 w.Overlaps.length w.Overlaps.length,sI w.NextID,sI w.Frame])::(48, .box World.zero)::B2j w 1 2 3 4) (λi=>w.Bodies.length-i.1) ⟨0,by omega⟩ ?_ ?_
 ·refine B6 [] [] (by simp[B2j]) (by simp[A6,B2j]) (by simp) ?_;simp only[go_sem,go_sem_proc]
 ·rintro⟨i,hi⟩;simp only[go_sem,go_sem_proc];split
  ·rename_i hlt;have hlt:i<w.Bodies.length:=by omega
   refine⟨⟨by omega,by omega⟩,?_⟩;refine A0 (A71 (w.Bodies.getD i default) (h5 _ (B7 _ hlt))) rfl ?_;simp only[go_sem,go_sem_proc];refine⟨(by(repeat' (with_reducible apply And.intro)) <;> omega),?_⟩;refine A7 ⟨i+1,by omega⟩ (by show w.Bodies.length-(i+1)<w.Bodies.length-i;omega) (B6 [] [] (by simp[go_sem]) (by simp[go_sem]) (by simp[go_sem]) ?_);simp only[go_sem,go_sem_proc];exact⟨(by rw[IntKind.wrap_i64];omega),A2q (w.Bodies.getD i default) hlt rfl (C58 _ _ _ hlt)⟩
  ·rename_i hge;obtain rfl:i=w.Bodies.length:=by omega
   refine B0 hm (ι:= {i:Nat // i<=w.Contacts.length}) (λi=> [(1, .share, .ptr 32 0 0 1),(2, .share, .ptr 48 0 0 1),(39, .share, .sl 3 0 w.Contacts.length w.Contacts.length),(40, .share,sI w.Contacts.length),(41, .share,sI i.1)])
    (λi=>(32, .box [sI w.Settings.TimeStep,sI w.Settings.Gravity.X,sI w.Settings.Gravity.Y,sI w.Settings.Iterations,sI w.Settings.SleepSteps,
 .sl 1 0 w.Bodies.length w.Bodies.length, .sl 2 0 w.Joints.length w.Joints.length, .sl 3 0 w.Contacts.length w.Contacts.length, .sl 4 0 w.Overlaps.length w.Overlaps.length,sI w.NextID,sI w.Frame])::(48, .box World.zero)::B2j w 1 2 3 4) (λi=>w.Contacts.length-i.1) ⟨0,by omega⟩ ?_ ?_
   ·refine B6 [] [] (by simp[B2j]) (by simp[A6,B2j]) (by simp) ?_;simp only[go_sem,go_sem_proc]
   ·rintro⟨i,hi⟩;simp only[go_sem,go_sem_proc];split
    ·rename_i hlt;have hlt:i<w.Contacts.length:=by omega
     refine⟨⟨by omega,by omega⟩,?_⟩;refine A0 (B2u (w.Contacts.getD i default).Manifold (h6 _ (B7 _ hlt))) rfl ?_;simp only[go_sem,go_sem_proc];refine⟨(by(repeat' (with_reducible apply And.intro)) <;> omega),?_⟩;refine A7 ⟨i+1,by omega⟩ (by show w.Contacts.length-(i+1)<w.Contacts.length-i;omega) (B6 [] [] (by simp[go_sem]) (by simp[go_sem]) (by simp[go_sem]) ?_);simp only[go_sem,go_sem_proc];exact⟨(by rw[IntKind.wrap_i64];omega),A2q (w.Contacts.getD i default) hlt rfl (C58 _ _ _ hlt)⟩
    ·rename_i hge;obtain rfl:i=w.Contacts.length:=by omega
     refine C8 [.thaw] [] [] rfl rfl (by simp[go_sem]) (by simp[go_sem]) (by simp) ?_;simp only[go_sem,go_sem_proc]
def rZ:RayHit:=⟨0,0,0,⟨0,0⟩,⟨0,0⟩⟩
theorem E2k(l:List Int):A1 Tryz.prog C1h [A2 1 B9 0 l] [] (.agg (⟨rZ,decide (0<(l.length:Int)),l,0,0⟩:Response).enc) []:=by refine L5 8 [(2,some (some 11))] hm A4 Tryz.func101 rfl ?_;simp only[go_sem,go_sem_proc,rZ]
end Go.Abs
end
noncomputable section
namespace Go.Abs
open Go.Proofs
open Api
def M7(w:Api.World):List AV:= [sB true,sI w.Settings.TimeStep,sI w.Settings.Gravity.X,sI w.Settings.Gravity.Y,sI w.Settings.Iterations,sI w.Settings.SleepSteps,A2 20 Body.enc default w.Bodies,A2 24 Joint.enc default w.Joints,A2 7 Contact.enc default w.Contacts,A2 4 PairKey.enc default w.Overlaps,sI w.NextID,sI w.Frame,
 .sc (.bool false),sI 0,sI 0,sI 0,sI 0,sI 0, .sc (.slice none 0 0), .sc (.slice none 0 0), .sc (.slice none 0 0), .sc (.slice none 0 0),sI 0,sI 0, .sc (.slice none 0 0), .sc (.slice none 0 0), .sc (.slice none 0 0), .sc (.slice none 0 0)]
theorem A56(w:Api.World):A1 Tryz.prog A8u [.ptr 1 0 0 1] [(1, .box (M7 w))] (sB false) [(1, .box (M7 w))]:=by refine H8 hm A4 Tryz.func49 rfl rfl ?_;simp only[go_sem,go_sem_proc,M7];refine C8 [.share] [] [] rfl rfl (by simp[go_sem]) (by simp[A6,go_sem]) (by simp[go_sem,A6]) ?_;simp only[go_sem,go_sem_proc]
theorem E07(w:Api.World)(hw:Wsm w)(h1:F2 w=0):A1 Tryz.prog D8j [.agg w.enc] [] (.tup [.ptr 1 0 0 1,sI 0]) [(1, .box (M7 w))]:=by refine A7s hm A4 Tryz.func11 rfl rfl ?_;simp only[go_sem,go_sem_proc];refine A0 (S3 w hw) rfl ?_;simp only[go_sem,go_sem_proc];rw[if_neg (by simpa using h1)];refine A0 (A77 w hw) rfl ?_;simp only[go_sem,go_sem_proc];refine C8 [.share, .share] [(1,176)] [] rfl rfl (by simp[go_sem]) (by simp[A6,go_sem]) (by simp[go_sem,A6]) ?_;simp only[go_sem,go_sem_proc,M7]
theorem E2e(w:Api.World):A1 Tryz.prog A8t [.ptr 1 0 0 1] [(1, .box (M7 w))] (sI 0) [(1, .box (M7 w))]:=by refine H8 hm A4 Tryz.func14 rfl rfl ?_;simp only[go_sem,go_sem_proc,M7];refine E3 [true] [(1,1)] (A56 w) (by simp) (by simp) (by simp) (by simp[go_sem]) ?_;simp only[go_sem,go_sem_proc,M7];refine C8 [.share] [] [] rfl rfl (by simp[go_sem]) (by simp[A6,go_sem]) (by simp[go_sem,A6]) ?_;simp only[go_sem,go_sem_proc]
theorem E7o(w:Api.World)(hw:Wsm w):A1 Tryz.prog A9u [.ptr 1 0 0 1] [(1, .box (M7 w))] (.agg w.enc) [(1, .box (M7 w))]:=by refine D1e 11 [(2,some (some 11))] hm A4 Tryz.func16 rfl ?_;simp only[go_sem,go_sem_proc,M7];refine E3 [true] [(1,1)] (A56 w) (by simp) (by simp) (by simp) (by simp[go_sem]) ?_;simp only[go_sem,go_sem_proc,M7];refine A0 (A77 w hw) rfl ?_;simp only[go_sem,go_sem_proc];refine C8 [.thaw] [] [] rfl rfl (by simp[go_sem]) (by simp[A6,go_sem]) (by simp[go_sem,A6]) ?_;simp only[go_sem,go_sem_proc,M7]
theorem E5l(w:Api.World)(r:Request)(x:Api.World×Response)(hE:A1 Tryz.prog B56 [.agg w.enc, .agg r.enc] [] (.tup [.agg x.1.enc, .agg x.2.enc]) []):
  A1 Tryz.prog A45 [.ptr 1 0 0 1, .agg r.enc] [(1, .box (M7 w))] (.tup [.agg x.2.enc,sB true,sI 0]) [(1, .box (M7 x.1))]:=by
 refine C0q 53 [(4,some (some 11)),(5,none),(6,none)] hm A4 Tryz.func13 rfl ?_;simp only[go_sem,go_sem_proc,M7];refine E3 [true] [(1,1)] (A56 w) (by simp) (by simp) (by simp) (by simp[go_sem]) ?_;simp only[go_sem,go_sem_proc,M7];refine A0 hE rfl ?_;simp only[go_sem,go_sem_proc];refine C8 [.thaw, .share, .share] [] [] rfl rfl (by simp[go_sem]) (by simp[A6,go_sem]) (by simp[go_sem,A6]) ?_;simp only[go_sem,go_sem_proc,M7]
end Go.Abs
end
noncomputable section
namespace Go.Abs
open Go.Proofs
open Api
def D11(b:Body):Prop:=b.Fixtures.length<=3/\ ∀f∈b.Fixtures,f.Shape.Vertices.length<=8
def B4p(w:Api.World):Prop:=(w.Bodies.length<=7/\w.Joints.length<=6/\w.Contacts.length<=40/\w.Overlaps.length<=40/\w.Settings.Iterations<=16)/\(∀b∈w.Bodies,D11 b)/\ ∀c∈w.Contacts,c.Manifold.Points.length<=4
noncomputable instance(b:Body):Decidable (D11 b):=Classical.propDecidable _
noncomputable instance(w:Api.World):Decidable (B4p w):=Classical.propDecidable _
theorem F60 {w:Api.World}(h:B4p w):Wsm w:=by
 obtain⟨⟨h1,h2,h3,h4,_⟩,h5,h6⟩:=h;refine⟨by omega,by omega,by omega,by omega,λb hb=> ?_,λc hc=> ?_⟩
 ·obtain⟨a1,a2⟩:=h5 b hb;exact⟨by omega,λf hf=>by have:=a2 f hf;show f.Shape.Vertices.length<=_;omega⟩
 ·have:=h6 c hc
  show c.Manifold.Points.length<=_;omega
theorem A8j {α:Type}{l:List α}{i:Nat}{P:α->Prop}(d:α)(h: ∀x∈l.take i,P x)(hi:i<l.length)(hp:P (l.getD i d)): ∀x∈l.take (i+1),P x:=by
 intro x hx;rw[K9 d hi]at hx;rcases List.mem_append.1 hx with k |k
 ·exact h x k
 ·rw[List.mem_singleton]at k;subst k;exact hp
theorem D7z(b:Body):A1 Tryz.prog D6h [.agg b.enc] [] (sB (decide (D11 b))) []:=by
 refine en1 hm A4 Tryz.func76 rfl rfl ?_;simp only[go_sem,go_sem_proc];by_cases h0:b.Fixtures.length<=3
 ·rw[if_neg (by omega)];refine B0 hm (ι:= {k:Nat // k<=b.Fixtures.length/\ ∀f∈b.Fixtures.take k,f.Shape.Vertices.length<=8}) (λk=> [(1, .thaw, .fptr b.enc),(3, .share,sI (k.1:Nat))]) (λ_=> []) (λk=>b.Fixtures.length-k.1) ⟨0,Nat.zero_le _,λf hf=>by simp at hf⟩ ?_ ?_
  ·refine B6 [] [] (by simp) (by simp[A6]) (by simp) ?_;simp only[go_sem,go_sem_proc,A0g]
  ·rintro⟨k,hk,ht⟩;simp only[go_sem,go_sem_proc];split
   ·rename_i hlt;have hlt:k<b.Fixtures.length:=by omega
    refine⟨⟨by omega,by omega⟩,?_⟩;by_cases he:(b.Fixtures.getD k default).Shape.Vertices.length<=8
    ·rw[if_neg (by omega)];refine A7 ⟨k+1,hlt,A8j default ht hlt he⟩ (by show b.Fixtures.length-(k+1)<b.Fixtures.length-k;omega) (B6 [] [] (by simp) (by simp[A6]) (by simp) ?_);simp only[go_sem,go_sem_proc];exact(by rw[IntKind.wrap_i64];omega)
    ·rw[if_pos (by omega)];rw[decide_eq_false (λh=>he (h.2 _ (B7 default hlt)))]
   ·rename_i hge;obtain rfl:k=b.Fixtures.length:=by omega
    rw[List.take_length]at ht;exact(decide_eq_true (p:=D11 b) ⟨h0,ht⟩).symm
 ·rw[if_pos (by omega)];rw[decide_eq_false (λh=>h0 h.1)]
theorem C6v(w:Api.World):A1 Tryz.prog E1z [.agg w.enc] [] (sB (decide (B4p w))) []:=by
 refine en1 hm A4 Tryz.func38 rfl rfl ?_;simp only[go_sem,go_sem_proc];by_cases h0:w.Bodies.length<=7/\w.Joints.length<=6/\w.Contacts.length<=40/\w.Overlaps.length<=40/\w.Settings.Iterations<=16
 ·rw[if_neg (by
   obtain⟨a1,a2,a3,a4,a5⟩:=h0;rw[if_neg (by omega),decide_eq_false (by omega),decide_eq_false (by omega),decide_eq_false (by omega),decide_eq_false (by omega)];simp)]
  refine B0 hm (ι:= {k:Nat // k<=w.Bodies.length/\ ∀b∈w.Bodies.take k,D11 b}) (λk=> [(1, .thaw, .fptr w.enc),(3, .share,sI (k.1:Nat))]) (λ_=> []) (λk=>w.Bodies.length-k.1) ⟨0,Nat.zero_le _,λf hf=>by simp at hf⟩ ?_ ?_
  ·refine B6 [] [] (by simp) (by simp[A6]) (by simp) ?_;simp only[go_sem,go_sem_proc,A0g]
  ·rintro⟨k,hk,ht⟩;simp only[go_sem,go_sem_proc];split
   ·rename_i hlt;have hlt:k<w.Bodies.length:=by omega
    refine⟨⟨by omega,by omega⟩,?_⟩;refine A0 (D7z (w.Bodies.getD k default)) rfl ?_;simp only[go_sem,go_sem_proc];by_cases he:D11 (w.Bodies.getD k default)
    ·rw[if_neg (by rw[decide_eq_true he];simp)];refine A7 ⟨k+1,hlt,A8j default ht hlt he⟩ (by show w.Bodies.length-(k+1)<w.Bodies.length-k;omega) (B6 [] [] (by simp) (by simp[A6]) (by simp) ?_);simp only[go_sem,go_sem_proc];exact(by rw[IntKind.wrap_i64];omega)
    ·rw[if_pos (by rw[decide_eq_false he])];exact(decide_eq_false (λh:B4p w=>he (h.2.1 _ (B7 default hlt)))).symm
   ·rename_i hge;obtain rfl:k=w.Bodies.length:=by omega
    rw[List.take_length]at ht;refine B0 hm (ι:= {k:Nat // k<=w.Contacts.length/\ ∀c∈w.Contacts.take k,c.Manifold.Points.length<=4}) (λk=> [(1, .thaw, .fptr w.enc),(4, .share,sI (k.1:Nat))]) (λ_=> []) (λk=>w.Contacts.length-k.1) ⟨0,Nat.zero_le _,λf hf=>by simp at hf⟩ ?_ ?_
    ·refine B6 [] [] (by simp) (by simp[A6]) (by simp) ?_;simp only[go_sem,go_sem_proc]
    ·rintro⟨k,hk,hc⟩;simp only[go_sem,go_sem_proc];split
     ·rename_i hlt;have hlt:k<w.Contacts.length:=by omega
      refine⟨⟨by omega,by omega⟩,?_⟩;by_cases he:(w.Contacts.getD k default).Manifold.Points.length<=4
      ·rw[if_neg (by omega)];refine A7 ⟨k+1,hlt,A8j default hc hlt he⟩ (by show w.Contacts.length-(k+1)<w.Contacts.length-k;omega) (B6 [] [] (by simp) (by simp[A6]) (by simp) ?_);simp only[go_sem,go_sem_proc];exact(by rw[IntKind.wrap_i64];omega)
      ·rw[if_pos (by omega)];exact(decide_eq_false (λh:B4p w=>he (h.2.2 _ (B7 default hlt)))).symm
     ·rename_i hge;obtain rfl:k=w.Contacts.length:=by omega
      rw[List.take_length]at hc;exact(decide_eq_true (p:=B4p w) ⟨h0,ht,hc⟩).symm
 ·rw[if_pos (by
   apply Classical.byContradiction;intro hn;apply h0;simp only[Bool.or_eq_true,decide_eq_true_eq,not_or]at hn;obtain⟨⟨⟨hn1,hn2⟩,hn3⟩,hn4⟩:=hn;by_cases a1:7<(w.Bodies.length:Int)
   ·rw[if_pos a1]at hn1;exact absurd rfl hn1
   ·rw[if_neg a1]at hn1;simp only[decide_eq_true_eq]at hn1;omega)]
  exact(decide_eq_false (λh:B4p w=>h0 h.1)).symm
theorem E7x(w:Api.World)(h:B4p w):A1 Tryz.prog E6s [.agg w.enc] [] (sB (decide (w.Contacts.length<=20/\w.Overlaps.length<=20))) []:=by
 obtain⟨⟨h1,h2,h3,h4,_⟩,h5,h6⟩:=h;refine en1 hm A4 Tryz.func39 rfl rfl ?_;simp only[go_sem,go_sem_proc];refine B0 hm (ι:= {k:Nat // k<=w.Bodies.length}) (λk=> [(1, .thaw, .fptr w.enc),(3, .share,sI (k.1:Nat))]) (λ_=> []) (λk=>w.Bodies.length-k.1) ⟨0,Nat.zero_le _⟩ ?_ ?_
 ·refine B6 [] [] (by simp) (by simp[A6]) (by simp) ?_;simp only[go_sem,go_sem_proc,A0g]
 ·rintro⟨k,hk⟩;simp only[go_sem,go_sem_proc];by_cases hlt:k<w.Bodies.length
  ·obtain⟨b1,b2⟩:=h5 _ (B7 default hlt);generalize w.Bodies.getD k default=b at b1 b2⊢;rw[if_pos (by rw[if_pos (by omega)];exact decide_eq_true (by omega))];refine⟨⟨by omega,by omega⟩,?_⟩;refine B0 hm (ι:= {q:Nat // q<=b.Fixtures.length}) (λq=> [(1, .share, .fptr w.enc),(3, .share,sI (k:Nat)),(4, .thaw, .fptr b.enc),(5, .share,sI (q.1:Nat))]) (λ_=> []) (λq=>b.Fixtures.length-q.1) ⟨0,Nat.zero_le _⟩ ?_ ?_
   ·refine B6 [] [] (by simp) (by simp[A6]) (by simp) ?_;simp only[go_sem,go_sem_proc,A0g]
   ·rintro⟨q,hq⟩;simp only[go_sem,go_sem_proc];by_cases hlq:q<b.Fixtures.length
    ·have:=b2 _ (B7 default hlq)
     rw[if_pos (by rw[if_pos (by omega)];exact decide_eq_true (by omega))];refine⟨⟨by omega,by omega⟩,?_⟩;rw[if_neg (by omega)];refine A7 ⟨q+1,hlq⟩ (by show b.Fixtures.length-(q+1)<b.Fixtures.length-q;omega) (B6 [] [] (by simp) (by simp[A6]) (by simp) ?_);simp only[go_sem,go_sem_proc];exact(by rw[IntKind.wrap_i64];omega)
    ·rw[if_neg (by rw[if_neg (by omega)];simp)];rw[if_neg (by omega)];refine A7 ⟨k+1,hlt⟩ (by show w.Bodies.length-(k+1)<w.Bodies.length-k;omega) (B6 [] [] (by simp) (by simp[A6]) (by simp) ?_);simp only[go_sem,go_sem_proc];exact(by rw[IntKind.wrap_i64];omega)
  ·rw[if_neg (by rw[if_neg (by omega)];simp)];refine B0 hm (ι:= {k:Nat // k<=w.Contacts.length}) (λk=> [(1, .thaw, .fptr w.enc),(6, .share,sI (k.1:Nat))]) (λ_=> []) (λk=>w.Contacts.length-k.1) ⟨0,Nat.zero_le _⟩ ?_ ?_
   ·refine B6 [] [] (by simp) (by simp[A6]) (by simp) ?_;simp only[go_sem,go_sem_proc]
   ·rintro⟨q,hq⟩;simp only[go_sem,go_sem_proc];by_cases hlq:q<w.Contacts.length/\q<20
    ·have:=h6 _ (B7 default hlq.1)
     rw[if_pos (by rw[if_pos (by omega)];exact decide_eq_true (by omega))];refine⟨⟨by omega,by omega⟩,?_⟩;rw[if_neg (by omega)];refine A7 ⟨q+1,hlq.1⟩ (by show w.Contacts.length-(q+1)<w.Contacts.length-q;omega) (B6 [] [] (by simp) (by simp[A6]) (by simp) ?_);simp only[go_sem,go_sem_proc];exact(by rw[IntKind.wrap_i64];omega)
    ·rw[if_neg (by intro hh;split at hh <;> simp at hh;omega)];rw[if_pos (by omega),decide_eq_true (show(w.Joints.length:Int)<=8 by omega),Bool.true_and,Bool.eq_iff_iff];simp;omega
theorem D5x {P:Program}{m:Nat->Option A5}{f:FuncId}{avs:List AV}{Q:ContR}(v:AV)(hK: @Ri Q false ⟨some v,[]⟩): @A4z P m f avs false Q:=⟨⟨some v,[]⟩,(λh=>by cases h),(λh=>absurd rfl h),hK⟩
theorem E9m(w:Api.World)(x:B1):(wkR w x).2.length<=x.Bodies.length:=by
 have h:=C5b x.Bodies w.Bodies.length;unfold wkR;split
 ·have:=(E9l w (A0z w x)).2
  unfold A0z at this⊢;omega
 ·exact Nat.zero_le _
theorem F2q {P:Program}{L:List (Nat×List Bool)}{f:FuncId}{fn:Func}{ac:ACode}{args rs:List AV}{O O':List (Nat×A5)}(N:Nat)(rvs:List (Nat×Option (Option Nat)))(hm:P.follows .mixedOrders=true)(hL:okE P L=true)(hf:P.funcs[f]? =some fn)(hc:M5 P L fn.ntmps (fn.body.getD .skip)=some ac)
  (h: @Wpi P N (O.map (·.1)) ac (B38 N (O.map (·.1)) rvs rs O') (A0b args O))(hp:A5a rs= .tup rs:=by rfl)(hN:fn.ntmps=N:=by kernel_rfl)(hts:A51 P fn.results.toList=some rvs:=by kernel_rfl)(hb:fn.body=some (fn.body.getD .skip):=by kernel_rfl)(hname:(fn.name != "runtime.NumGoroutine")=true:=by kernel_rfl)(hlt:(rvs.all λp=>p.1.blt N)=true:=by decide)(hl:(args.length.ble N)=true:=by kernel_rfl):
  A1 P f args O (.tup rs) O':=hp▸B81 (ac:= .mark ac) hm hf hb hname (have e:D9 P fn.ntmps (fn.body.getD .skip)=some ac.strip:=cs2 hL hc;e) hN hts hlt hl h
def bg0(w:Api.World):Api.World:= {w with Contacts:=B4r w}
def bW1(x:B1)(s:Api.World×List Api.Event):Api.World×List Api.Event:=(U4 s.1 (wkR s.1 x).1,s.2++(wkR s.1 x).2.map evP)
def bWn(w:Api.World)(n:Nat):Api.World×List Api.Event:=itr (λk s=>bW1 ((D0 (bg0 w)).getD k default) s) n (bg0 w,B77 w.Contacts (B4r w))
def C10(w:Api.World):Api.World:=(bWn w (D0 (bg0 w)).length).1
def C1z(w:Api.World):List Api.Event:=(bWn w (D0 (bg0 w)).length).2
theorem D4t(w:Api.World)(n:Nat):bWn w (n+1)=bW1 ((D0 (bg0 w)).getD n default) (bWn w n):=E4 ..
theorem D86(w:Api.World): ∀n,A2b (bWn w n).1.Bodies w.Bodies/\(bWn w n).1=U4 (bg0 w) (bWn w n).1.Bodies
 |0=>⟨A2b.refl _,rfl⟩
 |n+1=>by
  obtain⟨h1,h2⟩:=D86 w n;rw[D4t];generalize bWn w n=s at h1 h2⊢;refine⟨(F6s _ _).trans h1,?_⟩;have key: ∀B,U4 s.1 B=U4 (bg0 w) B:=λB=>by rw[h2];rfl
  exact key _
theorem C3e {w:Api.World}(hw:Wsm w)(hf:Wfw w):Wsm (bg0 w):=by obtain⟨h1,h2,h3,h4,h5,h6⟩:=hw;obtain⟨g1,g2⟩:=D12 w hf;exact⟨h1,h2,Nat.le_trans g1 (by decide),h4,h5,λc hc=>Nat.le_trans (g2 c hc) (by decide)⟩
theorem D87 {w:Api.World}(hw:Wsm w)(hf:Wfw w): ∀n,n<=(D0 (bg0 w)).length->(bWn w n).2.length<=2000000+60*n
 |0,_=>by
  have h1:=B28 (B4r w) w.Contacts 1
  have h2:=B28 w.Contacts (B4r w) 2
  have h3:=(D12 w hf).1
  have h4:=hw.2.2.1
  have h1':=B28 w.Contacts (B4r w) 1
  have h2':=B28 (B4r w) w.Contacts 2;show(B77 _ _).length<=_;unfold B77;rw[List.length_append];omega
 |n+1,hn=>by
  have ih:=D87 hw hf n (by omega);rw[D4t];have hx:=B23 (C3e hw hf) _ (B7 (l:=D0 (bg0 w)) (i:=n) default (by omega))
  have h3:(bg0 w).Bodies.length<=60:=hf.1
  have h4:=E9m (bWn w n).1 ((D0 (bg0 w)).getD n default);show((bWn w n).2++List.map evP _).length<=_;rw[List.length_append,List.length_map];omega
theorem E2s(w:Api.World)(hw:Wsm w)(hf:Wfw w)(hv:F2 w=0):A1 Tryz.prog E3n [.agg w.enc] [] (.tup [.agg (C10 w).enc,A2 3 B1.enc default (D0 (bg0 w)), .sl 1 0 (C1z w).length (C1z w).length]) [(1, .arr 5 (A8 Api.Event.enc default (C1z w)))]:=by
 have hV:=S3 w hw;rw[hv]at hV;have hg:=C3e hw hf
 have hbl:=B0p (bg0 w)
 have hbs:= @B23 (bg0 w) hg
 have hf1:(bg0 w).Bodies.length<=60:=hf.1
 have hU:=D5m w hw hf
 have hul:=(D12 w hf).1
 have hE:=D5l w.Contacts (B4r w) hw.2.2.1 (by omega);refine F2q 49 [(2,some (some 11)),(3,none),(4,none)] hm A4 Tryz.func50 rfl ?_;refine C4 [(1, .share, .ptr 32 0 0 1),(2, .share, .ptr 48 0 0 1)] [(48, .box World.zero),(32, .box w.enc)] (E0 hm ?_) ?_
 ·simp only[go_sem,go_sem_proc,World.zero];refine C0 [] [] ?_;simp only[go_sem,go_sem_proc]
 refine C4 [(1, .share, .ptr 32 0 0 1),(2, .share, .ptr 48 0 0 1)] [(48, .box World.zero),(32, .box w.enc)] (E0 hm ?_) ?_
 ·simp only[go_sem,go_sem_proc];refine A0 hV rfl ?_;simp only[go_sem,go_sem_proc,World.zero];refine C0 [] [] ?_;simp only[go_sem,go_sem_proc]
 refine C4 [(1, .share, .ptr 32 0 0 1),(2, .share, .ptr 48 0 0 1),(5, .share,A2 7 Contact.enc default w.Contacts)] [(48, .box World.zero),(32, .box w.enc)] (E0 hm ?_) ?_
 ·simp only[go_sem,go_sem_proc,World.zero];refine C0 [] [] ?_;simp only[go_sem,go_sem_proc]
 refine C4 [(1, .share, .ptr 32 0 0 1),(2, .share, .ptr 48 0 0 1),(5, .share,A2 7 Contact.enc default w.Contacts)] [(48, .box World.zero),(32, .box w.enc)] (E0 hm ?_) ?_
 ·simp only[go_sem,go_sem_proc];refine A0 (A77 w hw) rfl ?_;simp only[go_sem,go_sem_proc,World.zero];refine C0 [] [] ?_;simp only[go_sem,go_sem_proc]
 refine C4 [(1, .share, .ptr 32 0 0 1),(2, .share, .ptr 48 0 0 1),(5, .share,A2 7 Contact.enc default w.Contacts)] [(48, .box World.zero),(32, .box (bg0 w).enc)] (E0 hm ?_) ?_
 ·simp only[go_sem,go_sem_proc];refine A0 hU rfl ?_;simp only[go_sem,go_sem_proc,World.zero,bg0];refine C0 [] [] ?_;simp only[go_sem,go_sem_proc]
 refine C4 [(1, .share, .ptr 32 0 0 1),(2, .share, .ptr 48 0 0 1),(6, .share, .sl 6 0 (bWn w 0).2.length (bWn w 0).2.length)] [(48, .box World.zero),(32, .box (bWn w 0).1.enc),(6, .arr 5 (A8 Api.Event.enc default (bWn w 0).2))] (E0 hm ?_) ?_
 ·rw[show bWn w 0=(bg0 w,B77 w.Contacts (B4r w))from rfl];simp only[go_sem,go_sem_proc,bg0];refine K1 ev_ J8 hE ?_;simp only[go_sem,go_sem_proc,World.zero];refine C0 [(6,432)] [] ?_;simp only[go_sem,go_sem_proc];exact eE_
 refine C4 [(1, .share, .ptr 32 0 0 1),(2, .share, .ptr 48 0 0 1),(6, .share, .sl 6 0 (bWn w 0).2.length (bWn w 0).2.length),(7, .share,A2 3 B1.enc default (D0 (bg0 w)))] [(48, .box World.zero),(32, .box (bWn w 0).1.enc),(6, .arr 5 (A8 Api.Event.enc default (bWn w 0).2))] (E0 hm ?_) ?_
 ·rw[show bWn w 0=(bg0 w,B77 w.Contacts (B4r w))from rfl];simp only[go_sem,go_sem_proc];refine A0 (E9c (bg0 w) hg) rfl ?_;simp only[go_sem,go_sem_proc,World.zero];refine C0 [] [] ?_;simp only[go_sem,go_sem_proc]
 refine C4 [(1, .share, .ptr 32 0 0 1),(2, .share, .ptr 48 0 0 1),(6, .share, .sl 6 0 (bWn w (D0 (bg0 w)).length).2.length (bWn w (D0 (bg0 w)).length).2.length),(7, .share,A2 3 B1.enc default (D0 (bg0 w)))] [(48, .box World.zero),(32, .box (bWn w (D0 (bg0 w)).length).1.enc),(6, .arr 5 (A8 Api.Event.enc default (bWn w (D0 (bg0 w)).length).2))] (C4 [(1, .share, .ptr 32 0 0 1),(2, .share, .ptr 48 0 0 1),(6, .share, .sl 6 0 (bWn w 0).2.length (bWn w 0).2.length),(7, .share,A2 3 B1.enc default (D0 (bg0 w))),(29, .share,A2 3 B1.enc default (D0 (bg0 w))),(30, .share,sI ((D0 (bg0 w)).length)),(31, .share,sI (0:Nat))] [(48, .box World.zero),(32, .box (bWn w 0).1.enc),(6, .arr 5 (A8 Api.Event.enc default (bWn w 0).2))] (E0 hm ?_) (A3f ?_)) ?_
 ·generalize bWn w 0=s;simp only[go_sem,go_sem_proc];refine C0 [] [] ?_;simp only[go_sem,go_sem_proc]
 ·refine B0 hm (ι:= {k:Nat // k<=(D0 (bg0 w)).length}) (λk=> [(1, .share, .ptr 32 0 0 1),(2, .share, .ptr 48 0 0 1),(6, .share, .sl 6 0 (bWn w k.1).2.length (bWn w k.1).2.length),(7, .share,A2 3 B1.enc default (D0 (bg0 w))),(29, .share,A2 3 B1.enc default (D0 (bg0 w))),(30, .share,sI ((D0 (bg0 w)).length)),(31, .share,sI (k.1:Nat))]) (λk=> [(48, .box World.zero),(32, .box (bWn w k.1).1.enc),(6, .arr 5 (A8 Api.Event.enc default (bWn w k.1).2))]) (λk=>(D0 (bg0 w)).length-k.1) ⟨0,Nat.zero_le _⟩ ?_ ?_
  ·refine C0 [] [] ?_;simp only[go_sem,go_sem_proc]
  ·rintro⟨k,hk⟩;dsimp only;have hn:=D4t w k
   have hl:=D87 hw hf k hk;obtain⟨hi1,hi2⟩:=D86 w k;have hfin:(D0 (bg0 w)).length<=k->bWn w k=bWn w (D0 (bg0 w)).length:=λh=>by rw[show k=(D0 (bg0 w)).length by omega]
   generalize bWn w k=s at hn hl hi1 hi2 hfin⊢;by_cases hlt:k<(D0 (bg0 w)).length;rotate_left
   ·simp only[go_sem,go_sem_proc];rw[if_neg (by omega),<-hfin (by omega)];refine C0 [] [] ?_;simp only[go_sem,go_sem_proc]
   have hx:=hbs _ (B7 (l:=D0 (bg0 w)) (i:=k) default hlt)
   have hsw:Wsm s.1:=by rw[hi2];exact B73 hg hi1
   have hux:=E9m s.1 ((D0 (bg0 w)).getD k default);simp only[go_sem,go_sem_proc];rw[if_pos (by omega)];generalize(D0 (bg0 w)).getD k default=x at hn hx hux⊢;refine⟨bE_,?_⟩;refine A0 (E2r s.1 x hsw hx.1) rfl ?_;simp only[go_sem,go_sem_proc,bW1]at hn⊢;have he:(List.map evP (wkR s.1 x).2).length<=60:=by rw[List.length_map];omega
   generalize List.map evP (wkR s.1 x).2=E at hn he⊢;refine⟨⟨by omega,by simp only[maxLen];omega⟩,?_⟩;refine A7 ⟨k+1,by omega⟩ (by show(D0 (bg0 w)).length-(k+1)<(D0 (bg0 w)).length-k;omega) ?_;simp only[hn];refine C0 [] [] ?_;simp only[go_sem,go_sem_proc];exact eE_
 rw[show C10 w=(bWn w (D0 (bg0 w)).length).1 from rfl,show C1z w=(bWn w (D0 (bg0 w)).length).2 from rfl];generalize bWn w (D0 (bg0 w)).length=s;refine E0 hm ?_;simp only[go_sem,go_sem_proc];refine V7 [.share, .share, .share] [(1,6)] [] ?_;simp only[go_sem,go_sem_proc]
def B0u(r:Request):List AV:= [.fn (.func A7k) [] [.fptr r.enc]]
attribute [go_sem] B0u
def sqC(w g:Api.World)(I:List B1)(e q:Nat):List AV:= [sB true,sI w.Settings.TimeStep,sI w.Settings.Gravity.X,sI w.Settings.Gravity.Y,sI w.Settings.Iterations,sI w.Settings.SleepSteps,A2 20 Body.enc default w.Bodies,A2 24 Joint.enc default w.Joints,A2 7 Contact.enc default w.Contacts,A2 4 PairKey.enc default w.Overlaps,sI w.NextID,sI w.Frame,sB true,sI g.Settings.TimeStep,sI g.Settings.Gravity.X,sI g.Settings.Gravity.Y,sI g.Settings.Iterations,sI g.Settings.SleepSteps,A2 20 Body.enc default g.Bodies,A2 24 Joint.enc default g.Joints,A2 7 Contact.enc default g.Contacts,A2 4 PairKey.enc default g.Overlaps,sI g.NextID,sI g.Frame,A2 3 B1.enc default I, .sl 2 0 I.length I.length, .sl 3 0 e e, .sl 4 0 q q]
def sqO(w g:Api.World)(I:List B1)(E:List Api.Event)(q:List Request):List (Nat×A5):= [(1, .box (sqC w g I E.length q.length)),(2, .arr 1 ⟨I.length,λ_=> [sB false]⟩),(3, .arr 5 (A8 Api.Event.enc default E)),(4, .arr 1 (A8 B0u default q))]
attribute [go_sem] sqC sqO
theorem S6 {w g:Api.World}{I:List B1}{E:List Api.Event}{q:List Request}:okO (sqO w g I E q):=by
 refine⟨by simp[sqO],λp hp cs ee j hj=> ?_⟩;simp only[sqO,List.mem_cons,List.not_mem_nil,or_false]at hp;rcases hp with rfl |rfl |rfl |rfl
 ·simp only[A5.box.injEq]at ee;subst ee;simp[sqC,F4,AV.ids,A2]at hj;rcases hj with rfl |rfl |rfl <;> rfl
 all_goals cases ee
theorem A6a {w g:Api.World}{I:List B1}{E:List Api.Event}{q:List Request}: ∀a∈ [AV.ptr 1 0 0 1],∀i∈a.ids,(ofL (sqO w g I E q) i).isSome:=by intro a ha j hj;simp only[List.mem_cons,List.not_mem_nil,or_false]at ha;subst ha;simp[AV.ids]at hj;subst hj;rfl
theorem A5o(w g:Api.World)(I:List B1)(E:List Api.Event)(q:List Request):A1 Tryz.prog A8u [.ptr 1 0 0 1] (sqO w g I E q) (sB false) (sqO w g I E q):=by refine H8 hm A4 Tryz.func49 rfl rfl ?_;simp only[go_sem,go_sem_proc];refine V7 [.share] [] [] ?_;simp only[go_sem,go_sem_proc]
theorem C94(w g:Api.World)(I:List B1)(E:List Api.Event)(q:List Request):A1 Tryz.prog A8t [.ptr 1 0 0 1] (sqO w g I E q) (sI q.length) (sqO w g I E q):=by refine H8 hm A4 Tryz.func14 rfl rfl ?_;simp only[go_sem,go_sem_proc];refine E6 (A5o w g I E q) S6 S6 (by simp[sqO]) (by simp[sqO,sqC,upd,A2,go_sem,go_sem_proc]) (by simp[sqO]) A6a rfl ?_;simp only[go_sem,go_sem_proc];refine V7 [.share] [] [] ?_;simp only[go_sem,go_sem_proc]
theorem E2f(w g:Api.World)(I:List B1)(E:List Api.Event)(q:List Request):A1 Tryz.prog A79 [.ptr 1 0 0 1] (sqO w g I E q) (sB true) (sqO w g I E q):=by refine H8 hm A4 Tryz.func17 rfl rfl ?_;simp only[go_sem,go_sem_proc];refine E6 (A5o w g I E q) S6 S6 (by simp[sqO]) (by simp[sqO,sqC,upd,A2,go_sem,go_sem_proc]) (by simp[sqO]) A6a rfl ?_;simp only[go_sem,go_sem_proc];refine V7 [.share] [] [] ?_;simp only[go_sem,go_sem_proc]
theorem F1f(w g:Api.World)(I:List B1)(E:List Api.Event)(q:List Request)(hw:Wsm w):A1 Tryz.prog A9u [.ptr 1 0 0 1] (sqO w g I E q) (.agg w.enc) (sqO w g I E q):=by refine D1e 11 [(2,some (some 11))] hm A4 Tryz.func16 rfl ?_;simp only[go_sem,go_sem_proc];refine E6 (A5o w g I E q) S6 S6 (by simp[sqO]) (by simp[sqO,sqC,upd,A2,go_sem,go_sem_proc]) (by simp[sqO]) A6a rfl ?_;simp only[go_sem,go_sem_proc];refine A0 (A77 w hw) rfl ?_;simp only[go_sem,go_sem_proc];refine V7 [.thaw] [] [] ?_;simp only[go_sem,go_sem_proc]
theorem F30(w g:Api.World)(I:List B1)(E:List Api.Event)(q:List Request):A1 Tryz.prog A9t [.ptr 1 0 0 1] (sqO w g I E q) (.tup [sI 0,sI 23]) (sqO w g I E q):=by refine A7s hm A4 Tryz.func12 rfl rfl ?_;simp only[go_sem,go_sem_proc];refine E6 (A5o w g I E q) S6 S6 (by simp[sqO]) (by simp[sqO,sqC,upd,A2,go_sem,go_sem_proc]) (by simp[sqO]) A6a rfl ?_;simp only[go_sem,go_sem_proc];refine V7 [.share, .share] [] [] ?_;simp only[go_sem,go_sem_proc]
theorem E2l(x:Api.Input)(h:Body.sm x.Body):A1 Tryz.prog E1r [.agg x.enc] [] (.agg x.enc) []:=by refine L5 8 [(2,some (some 49))] hm A4 Tryz.func52 rfl ?_;simp only[go_sem,go_sem_proc];refine A0 (A71 x.Body h) rfl ?_;simp only[go_sem,go_sem_proc]
def A5v:Response:=⟨rZ,false,[],0,0⟩
theorem F31(w g:Api.World)(I:List B1)(E:List Api.Event)(q:List Request)(r:Request)(hq:64<=q.length):A1 Tryz.prog A45 [.ptr 1 0 0 1, .agg r.enc] (sqO w g I E q) (.tup [.agg A5v.enc,sB false,sI 9]) (sqO w g I E q):=by refine C0q 53 [(4,some (some 11)),(5,none),(6,none)] hm A4 Tryz.func13 rfl ?_;simp only[go_sem,go_sem_proc];refine E6 (A5o w g I E q) S6 S6 (by simp[sqO]) (by simp[sqO,sqC,upd,A2,go_sem,go_sem_proc]) (by simp[sqO]) A6a rfl ?_;simp only[go_sem,go_sem_proc];rw[if_pos (by omega)];refine V7 [.thaw, .share, .share] [] [] ?_;simp only[go_sem,go_sem_proc,A5v,rZ];exact eE_
theorem D3r(w g:Api.World)(I:List B1)(E:List Api.Event)(q:List Request)(r:Request)(hq:q.length<64)(hr:Body.sm r.Input.Body):A1 Tryz.prog A45 [.ptr 1 0 0 1, .agg r.enc] (sqO w g I E q) (.tup [.agg A5v.enc,sB false,sI 0]) (sqO w g I E (q++ [r])):=by
 refine F2q 53 [(4,some (some 11)),(5,none),(6,none)] hm A4 Tryz.func13 rfl ?_;refine C4 [(0, .share, .ptr 1 0 0 1),(3, .share, .ptr 64 0 0 1),(4, .share, .ptr 80 0 0 1)] ([(64, .box r.enc),(80, .box Response.zero)]++sqO w g I E q) (E0 hm ?_) ?_
 ·simp only[go_sem,go_sem_proc,Response.zero];refine C0 [] [] ?_;simp only[go_sem,go_sem_proc]
 refine C4 [(0, .share, .ptr 1 0 0 1),(3, .share, .ptr 64 0 0 1),(4, .share, .ptr 80 0 0 1)] ([(64, .box r.enc),(80, .box Response.zero)]++sqO w g I E q) (E0 hm ?_) ?_
 ·simp only[go_sem,go_sem_proc];refine E6 (A5o w g I E q) S6 S6 (by simp[sqO]) (by simp[sqO,sqC,upd,A2,go_sem,go_sem_proc]) (by simp[sqO]) A6a rfl ?_;simp only[go_sem,go_sem_proc];refine C0 [] [] ?_;simp only[go_sem,go_sem_proc]
 refine C4 [(0, .share, .ptr 1 0 0 1),(3, .share, .ptr 64 0 0 1),(4, .share, .ptr 80 0 0 1)] ([(64, .box r.enc),(80, .box Response.zero)]++sqO w g I E q) (E0 hm ?_) ?_
 ·simp only[go_sem,go_sem_proc];refine C0 [] [] ?_;simp only[go_sem,go_sem_proc]
 refine C4 [(0, .share, .ptr 1 0 0 1),(3, .share, .ptr 64 0 0 1),(4, .share, .ptr 80 0 0 1)] ([(64, .box r.enc),(80, .box Response.zero)]++sqO w g I E q) (E0 hm ?_) ?_
 ·simp only[go_sem,go_sem_proc];rw[if_neg (by omega)];refine C0 [] [] ?_;simp only[go_sem,go_sem_proc]
 refine C4 [(0, .share, .ptr 1 0 0 1),(3, .thaw, .fptr r.enc),(4, .share, .ptr 80 0 0 1)] ([(80, .box Response.zero)]++sqO w g I E q) (E0 hm ?_) ?_
 ·simp only[go_sem,go_sem_proc];refine A0 (E2l r.Input hr) rfl ?_;simp only[go_sem,go_sem_proc];refine C0 [] [] ?_;simp only[go_sem,go_sem_proc,A0g]
 refine E0 hm ?_;simp only[go_sem,go_sem_proc];refine⟨bE_,?_⟩;refine V7 [.thaw, .share, .share] [] [] ?_;simp only[go_sem,go_sem_proc,A5v,rZ];exact⟨O9 rfl,by rw[List.length_append];rfl,A1q r rfl rfl⟩
theorem A10 {w:Api.World}:okO [(1, .box (M7 w))]:=by refine⟨by simp,λp hp cs ee j hj=> ?_⟩;simp only[List.mem_cons,List.not_mem_nil,or_false]at hp;subst hp;simp only[A5.box.injEq]at ee;subst ee;simp[M7,F4,AV.ids,A2]at hj
theorem A84 {w:Api.World}: ∀a∈ [AV.ptr 1 0 0 1],∀i∈a.ids,(ofL [(1, .box (M7 w))] i).isSome:=by intro a ha j hj;simp only[List.mem_cons,List.not_mem_nil,or_false]at ha;subst ha;simp[AV.ids]at hj;subst hj;rfl
theorem C3r(w:Api.World):A1 Tryz.prog A79 [.ptr 1 0 0 1] [(1, .box (M7 w))] (sB false) [(1, .box (M7 w))]:=by refine H8 hm A4 Tryz.func17 rfl rfl ?_;simp only[go_sem,go_sem_proc,M7];refine E6 (A56 w) A10 A10 (by simp) (by simp[M7,upd,A2,go_sem,go_sem_proc]) (by simp) A84 rfl ?_;simp only[go_sem,go_sem_proc,M7];refine V7 [.share] [] [] ?_;simp only[go_sem,go_sem_proc]
theorem F1e(w:Api.World):A1 Tryz.prog B1k [.ptr 1 0 0 1] [(1, .box (M7 w))] (.tup [.sc (.slice none 0 0), .sc (.slice none 0 0),sI 24]) [(1, .box (M7 w))]:=by refine A7s hm A4 Tryz.func18 rfl rfl ?_;simp only[go_sem,go_sem_proc,M7];refine E6 (A56 w) A10 A10 (by simp) (by simp[M7,upd,A2,go_sem,go_sem_proc]) (by simp) A84 rfl ?_;simp only[go_sem,go_sem_proc,M7];refine V7 [.share, .share, .share] [] [] ?_;simp only[go_sem,go_sem_proc]
theorem D3q(w:Api.World)(hw:Wsm w)(hf:Wfw w)(hv:F2 w=0)(hF:w.Frame≠1099511627776):A1 Tryz.prog A9t [.ptr 1 0 0 1] [(1, .box (M7 w))] (.tup [sI ((D0 (bg0 w)).length),sI 0]) (sqO w (C10 w) (D0 (bg0 w)) (C1z w) []):=by
 have hbl:=B0p (bg0 w)
 have hf1:(bg0 w).Bodies.length<=60:=hf.1
 have hB:=E2s w hw hf hv;generalize C10 w=g at hB⊢;generalize C1z w=E at hB⊢;generalize D0 (bg0 w)=I at hbl hB⊢;refine A7s hm A4 Tryz.func12 rfl rfl ?_;simp only[go_sem,go_sem_proc,M7];refine E6 (A56 w) A10 A10 (by simp) (by simp[M7,upd,A2,go_sem,go_sem_proc]) (by simp) A84 rfl ?_;simp only[go_sem,go_sem_proc,M7];rw[if_neg (by simpa using hF)];refine K1 ev_ J8 hB ?_;simp only[go_sem,go_sem_proc];refine⟨bE_,?_⟩;refine V7 [.share, .share] [(2,656),(3,400)] [4] ?_;simp only[go_sem,go_sem_proc]
def exR(w:Api.World)(r:Request):Api.World×Response:=if F2 w=0 then(w,⟨rZ,decide (0<((D88 w r.From r.Mask).length:Int)),D88 w r.From r.Mask,0,0⟩)else(zW,⟨rZ,false,[],0,18⟩)
theorem D7m(w:Api.World)(r:Request)(hw:Wsm w)(hk:r.Kind=2)(hq: ∀b∈w.Bodies,b.Fixtures.length<=1000)(hq2:w.Bodies.length<=1000):A1 Tryz.prog B56 [.agg w.enc, .agg r.enc] [] (.tup [.agg (exR w r).1.enc, .agg (exR w r).2.enc]) []:=by
 unfold exR;refine A63 81 [(4,some (some 11)),(5,some (some 11))] hm A4 Tryz.func51 rfl ?_;simp only[go_sem,go_sem_proc];refine A0 (S3 w hw) rfl ?_;simp only[go_sem,go_sem_proc];by_cases h1:F2 w=0;rotate_left
 ·rw[if_pos (by simpa using h1),if_neg h1];simp only[go_sem,go_sem_proc,zW,rZ];exact eE_
 rw[if_neg (by simpa using h1),if_pos h1];refine A0 (A77 w hw) rfl ?_;simp only[go_sem,go_sem_proc];rw[if_neg (by simp[hk]),if_pos (by simp[hk])];refine A0 (C3y w r.From r.Mask hw hq hq2) rfl ?_;simp only[go_sem,go_sem_proc];refine A0 (E2k (D88 w r.From r.Mask)) rfl ?_;simp only[go_sem,go_sem_proc]
theorem F6q(w:Api.World)(r:Request)(hw:Wsm w)(hk:r.Kind=2)(hq: ∀b∈w.Bodies,b.Fixtures.length<=1000)(hq2:w.Bodies.length<=1000):A1 Tryz.prog A7k [.agg w.enc, .fptr r.enc] [] (.tup [.agg (exR w r).1.enc, .agg (exR w r).2.enc]) []:=by have hE:=D7m w r hw hk hq hq2;generalize exR w r=x at hE⊢;refine A63 10 [(3,some (some 11)),(4,some (some 11))] hm A4 Tryz.func53 rfl ?_;simp only[go_sem,go_sem_proc];refine A0 hE rfl ?_;simp only[go_sem,go_sem_proc]
def PW(w:Api.World):Prop:=Wsm w/\Wfw w/\w.Joints.length<=20000/\w.Contacts.length<=230400/\ ∀c∈w.Contacts,c.Manifold.Points.length<=2
theorem E1a(w:Api.World)(x:B1): ∀n,A2b (A7a w x n) w.Bodies
 |0=>A2b.refl _
 |n+1=>by
  have ih:=E1a w x n
  have hn:A7a w x (n+1)=_:=E4 ..;rw[show itr _ n w.Bodies=A7a w x n from rfl]at hn;rw[hn];split
  ·refine(C56 ?_).trans ih;rw[ih.2];have h:=(E58 w x x.Bodies.length ((H4 w x).getD n 0).toNat).1;rw[<-h];rfl
  ·exact ih
theorem F8j(c:Contact)(rs:List Row)(base:Int):(cst c rs base).Manifold.Points.length=c.Manifold.Points.length:=E4g ..
theorem E5z(w:Api.World)(x:B1)(hw: ∀c∈w.Contacts,c.Manifold.Points.length<=2): ∀n,∀c∈B0g w x n,c.Manifold.Points.length<=2
 |0=>hw
 |n+1=>by
  have ih:=E5z w x hw n
  have hn:B0g w x (n+1)=_:=E4 ..;rw[show itr _ n w.Contacts=B0g w x n from rfl]at hn;rw[hn];intro c hc;rcases List.mem_or_eq_of_mem_set hc with hc |rfl
  ·exact ih c hc
  ·rw[F8j];by_cases h:(x.Contacts.getD n 0).toNat<w.Contacts.length
   ·exact hw _ (B7 default h)
   ·have e:w.Contacts.getD (x.Contacts.getD n 0).toNat default=default:=by
     generalize(x.Contacts.getD n 0).toNat=k at h⊢;simp only[List.getD];rw[List.getElem?_eq_none (by omega)];rfl
    rw[e];exact Nat.zero_le _
theorem G0p {w:Api.World}(h:PW w)(x:B1):PW (D5v w x):=by
 unfold D5v;split
 ·exact h
 split
 ·exact h
 obtain⟨h1,h2,h3,h4,h5⟩:=h;have hB:=E1a w x (H4 w x).length;obtain⟨g1,g2,g3,g4,g5,g6⟩:=B73 h1 hB;have hf:=C0k h2 hB
 have hc:=E5z w x h5 x.Contacts.length;exact⟨⟨g1,by show(B0h _ _ _).length<=_;rw[C6a];exact g2,by show(B0g _ _ _).length<=_;rw[C59];exact g3,g4,g5,λc hcc=>Nat.le_trans (hc c hcc) (by decide)⟩,hf,by show(B0h _ _ _).length<=_;rw[C6a];exact h3,by show(B0g _ _ _).length<=_;rw[C59];exact h4,hc⟩
def gN(g:Api.World)(I:List B1)(n:Nat):Api.World:=itr (λk s=>D5v s (I.getD k default)) n g
theorem E8q(g:Api.World)(I:List B1)(n:Nat):gN g I (n+1)=D5v (gN g I n) (I.getD n default):=E4 ..
theorem E9z {g:Api.World}(h:PW g)(I:List B1): ∀n,PW (gN g I n)
 |0=>h
 |n+1=>by rw[E8q];exact G0p (E9z h I n) _
def B1b(w:Api.World):Api.World×List Api.Event:=if F2 w=0 then(E4m w,E4l w)else(zW,[])
theorem F1n(w:Api.World)(hw:Wsm w)(hf:Wfw w):A1 Tryz.prog D6m [.agg w.enc] [] (.tup [.agg (B1b w).1.enc,A2 5 Api.Event.enc default (B1b w).2]) []:=by
 unfold B1b;by_cases hv:F2 w=0
 ·rw[if_pos hv];exact E7z w hw hf hv
 ·rw[if_neg hv];refine A63 78 [(2,some (some 11)),(3,none)] hm A4 Tryz.func58 rfl ?_;simp only[go_sem,go_sem_proc];refine A0 (S3 w hw) rfl ?_;simp only[go_sem,go_sem_proc];rw[if_pos (by simpa using hv)];simp only[go_sem,go_sem_proc,zW];exact eE_
theorem F14 {w:Api.World}(hw:Wsm w)(hf:Wfw w):Wsm (B1b w).1/\Wfw (B1b w).1:=by
 unfold B1b;split
 ·obtain⟨hi1,hi2⟩:=B8l w (D0 w).length;have hW:=E4m.eq_1 w;unfold eW2 at hW;generalize eWn w (D0 w).length=s at hW hi1 hi2;have hsw:Wsm s.1:=by rw[hi2];exact B73 hw hi1
  have hsf:Wfw s.1:=by rw[hi2];exact C0k hf hi1
  have hbk:Wsm (bkW s.1)/\Wfw (bkW s.1):=by obtain⟨g1,g2,g3,g4,g5,g6⟩:=hsw;exact⟨⟨g1,Nat.le_trans (List.length_filter_le ..) g2,g3,g4,g5,g6⟩,hsf⟩
  generalize bkW s.1=V at hW hbk;dsimp only at hW;have hcf:A2b (V.Bodies.map H2) V.Bodies:=C55 (g:=H2) (λ_=>rfl) _
  have hU:Wsm (U4 V (V.Bodies.map H2)):=B73 hbk.1 hcf
  have hUf:Wfw (U4 V (V.Bodies.map H2)):=C0k hbk.2 hcf;generalize U4 V (V.Bodies.map H2)=U at hW hU hUf;dsimp only;rw[hW];obtain⟨g1,g2,g3,g4,g5,g6⟩:=hU;exact⟨⟨g1,g2,g3,Nat.le_trans (D9t U hUf) (by decide),g5,g6⟩,hUf⟩
 ·exact⟨F4k,by exact⟨Nat.zero_le _,λb hb=>by cases hb⟩⟩
theorem F12 {w:Api.World}(hw:Wsm w)(hf:Wfw w)(hj:w.Joints.length<=20000):PW (C10 w):=by obtain⟨h1,h2⟩:=D86 w (D0 (bg0 w)).length;have hu:=D12 w hf;show PW (bWn w _).1;generalize bWn w (D0 (bg0 w)).length=s at h1 h2⊢;rw[h2];exact⟨B73 (C3e hw hf) h1,C0k (w:=bg0 w) hf h1,hj,hu.1,hu.2⟩
end Go.Abs
end
